/-
  THE STEPS OF A WALK, one law for each kind of operation: what is known of an activation's temporaries (T), of the blocks that it owns (B), and that nothing else has changed (Kp). Worlds and activations stay names. Over any program.
-/
import Derived.RangeFuncIn
import Derived.RangeFuncLeaves
import Derived.RangeFuncCalls
import Derived.OrdersIn
import Derived.OwnWalkIn
import Derived.LoopNIn
import Derived.TacticsIn
import Derived.WalkKit
namespace Go.Sx
open Go

/-! ### Lists by place -/
def nth {α : Type} : List α → Nat → Option α
  | [], _ => none
  | x :: _, 0 => some x
  | _ :: l, n + 1 => nth l n
theorem mem_nth {α : Type} {l : List α} {x : α} : ∀ {i : Nat}, nth l i = some x → x ∈ l := by
  induction l with
  | nil => intro i h; cases h
  | cons y l ih =>
    intro i h
    cases i with
    | zero => simp only [nth, Option.some.injEq] at h; exact h ▸ List.mem_cons_self
    | succ i => exact List.mem_cons_of_mem _ (ih h)
/-- The members of a list at these places. -/
def pickL {α : Type} (l : List α) : List Nat → Option (List α)
  | [] => some []
  | i :: is => match nth l i with
    | none => none
    | some x => match pickL l is with
      | none => none
      | some xs => some (x :: xs)
/-- All of the second list, place by place, lie in the first. -/
def picks {α : Type} (l : List α) : List Nat → List α → Prop
  | [], [] => True
  | i :: is, x :: xs => nth l i = some x ∧ picks l is xs
  | _, _ => False
theorem picks_mem {α : Type} {l : List α} : ∀ {is : List Nat} {xs : List α}, picks l is xs → ∀ x ∈ xs, x ∈ l := by
  intro is
  induction is with
  | nil => intro xs h x hx; cases xs with
    | nil => cases hx
    | cons y ys => exact h.elim
  | cons i is ih => intro xs h x hx; cases xs with
    | nil => cases hx
    | cons y ys =>
      rcases List.mem_cons.1 hx with rfl | hx
      · exact mem_nth h.1
      · exact ih h.2 x hx
/-- No entry of T is of the temporary d. -/
def fresh (d : Nat) : List (Nat × Value) → Bool
  | [] => true
  | p :: l => !Nat.beq p.1 d && fresh d l
theorem fresh_ne {d : Nat} : ∀ {T : List (Nat × Value)}, fresh d T = true → ∀ p ∈ T, p.1 ≠ d := by
  intro T
  induction T with
  | nil => intro _ p hp; cases hp
  | cons q T ih =>
    intro h p hp
    simp only [fresh, Bool.and_eq_true, Bool.not_eq_true'] at h
    rcases List.mem_cons.1 hp with rfl | hp
    · intro e; rw [e] at h; simp at h
    · exact ih h.2 p hp

/-! ### What is kept: all blocks that were there, but those of M -/
structure Kp (M : List Nat) (w w' : World) : Prop where
  os : w'.os = w.os
  tape : w'.tape = w.tape
  output : w'.output = w.output
  size : w.heap.size ≤ w'.heap.size
  block : ∀ k, k < w.heap.size → k ∉ M → w'.heap[k]? = w.heap[k]?
theorem Kp.refl (M : List Nat) (w : World) : Kp M w w := ⟨rfl, rfl, rfl, Nat.le_refl _, fun _ _ _ => rfl⟩
theorem Kp.trans {M : List Nat} {a b c : World} (h : Kp M a b) (k : Kp M b c) : Kp M a c :=
  ⟨k.os.trans h.os, k.tape.trans h.tape, k.output.trans h.output, Nat.le_trans h.size k.size, fun i hi hm => (k.block i (Nat.lt_of_lt_of_le hi h.size) hm).trans (h.block i hi hm)⟩
theorem Kp.mono {M M' : List Nat} {a b : World} (h : Kp M a b) (hm : ∀ k ∈ M, k ∈ M') : Kp M' a b := ⟨h.os, h.tape, h.output, h.size, fun k hk hn => h.block k hk (fun hx => hn (hm k hx))⟩
theorem Kp.nil {M : List Nat} {a b : World} (h : Kp [] a b) : Kp M a b := h.mono (fun _ hk => by cases hk)
theorem Kp.below {a b : World} (h : Kp [] a b) : RowKit.Below a.heap.size a b := ⟨h.os, h.tape, h.output, h.size, fun k hk => h.block k hk (by simp)⟩
theorem Kp.of_below {a b : World} (h : RowKit.Below a.heap.size a b) : Kp [] a b := ⟨h.os, h.tape, h.output, h.size, fun k hk _ => h.block k hk⟩
theorem Kp.drawn (M : List Nat) (w : World) (n : Nat) : Kp M w { w with drawn := n } := ⟨rfl, rfl, rfl, Nat.le_refl _, fun _ _ _ => rfl⟩
theorem Kp.push (M : List Nat) (w : World) (o : Obj) : Kp M w { w with heap := w.heap.push o } :=
  ⟨rfl, rfl, rfl, by simp, fun k hk _ => by simp only [Array.getElem?_push]; rw [if_neg (by omega)]⟩
/-- What stands in a block that is kept. -/
theorem Kp.at {M : List Nat} {a b : World} (h : Kp M a b) {k : Nat} {o : Obj} (hk : a.heap[k]? = some o) (hm : k ∉ M) : b.heap[k]? = some o := by
  rw [h.block k (by rcases Nat.lt_or_ge k a.heap.size with hx | hx; exact hx; rw [Array.getElem?_eq_none hx] at hk; cases hk) hm]; exact hk

/-! ### What is known -/
structure Sx (N : Nat) (D : List Deferred) (T : List (Nat × Value)) (B : List (Nat × Option Obj)) (M : List Nat) (w0 : World) (a : Act) (w : World) : Prop where
  size : a.tmps.size = N
  defers : a.defers = D
  tmp : ∀ p ∈ T, a.tmps[p.1]? = some p.2
  blk : ∀ p ∈ B, ∀ o, p.2 = some o → (p.1 ∈ M ∨ w0.heap.size ≤ p.1) ∧ w.heap[p.1]? = some o
  apart : B.Pairwise (fun p q => p.2 = none ∨ q.2 = none ∨ p.1 ≠ q.1)
  kp : Kp M w0 w

/-- New blocks: each as told, each beyond what was there, no two at one place. -/
structure New (w : World) (bs : List (Nat × Option Obj)) (w' : World) : Prop where
  blk : ∀ p ∈ bs, ∀ o, p.2 = some o → w.heap.size ≤ p.1 ∧ w'.heap[p.1]? = some o
  apart : bs.Pairwise (fun p q => p.2 = none ∨ q.2 = none ∨ p.1 ≠ q.1)
theorem New.nil (w w' : World) : New w [] w' := ⟨fun _ h => (by cases h), List.Pairwise.nil⟩

section
variable {N : Nat} {D : List Deferred} {T T' : List (Nat × Value)} {B B' : List (Nat × Option Obj)} {M : List Nat} {w0 : World} {a : Act} {w w' : World}

theorem lt_of_some {w : World} {k : Nat} {o : Obj} (h : w.heap[k]? = some o) : k < w.heap.size := by
  rcases Nat.lt_or_ge k w.heap.size with hx | hx
  · exact hx
  · rw [Array.getElem?_eq_none hx] at h; cases h

/-- Fewer temporaries are told. -/
theorem Sx.tmps (hs : Sx N D T B M w0 a w) (h : ∀ p ∈ T', p ∈ T) : Sx N D T' B M w0 a w := ⟨hs.size, hs.defers, fun p hp => hs.tmp p (h p hp), hs.blk, hs.apart, hs.kp⟩
theorem Sx.as {T' : List (Nat × Value)} {B' : List (Nat × Option Obj)} (hT : T' = T) (hB : B' = B) (hs : Sx N D T B M w0 a w) : Sx N D T' B' M w0 a w := by subst hT; subst hB; exact hs
theorem Sx.keepT (is : List Nat) (T' : List (Nat × Value)) (h : picks T is T') (hs : Sx N D T B M w0 a w) : Sx N D T' B M w0 a w := hs.tmps (picks_mem h)
theorem Sx.asB (hs : Sx N D T B M w0 a w) (B' : List (Nat × Option Obj)) (hB : B' = B) : Sx N D T B' M w0 a w := hB ▸ hs
theorem pickL_mem {α : Type} {l : List α} : ∀ {is : List Nat} {xs : List α}, pickL l is = some xs → ∀ x ∈ xs, x ∈ l := by
  intro is
  induction is with
  | nil => intro xs h x hx; simp only [pickL, Option.some.injEq] at h; subst h; cases hx
  | cons i is ih =>
    intro xs h x hx
    cases h1 : nth l i with
    | none => simp only [pickL, h1] at h; cases h
    | some y =>
      cases h2 : pickL l is with
      | none => simp only [pickL, h1, h2] at h; cases h
      | some ys =>
        simp only [pickL, h1, h2, Option.some.injEq] at h
        subst h
        rcases List.mem_cons.1 hx with rfl | hx
        · exact mem_nth h1
        · exact ih h2 x hx
theorem Sx.keep (hs : Sx N D T B M w0 a w) (is : List Nat) (T' : List (Nat × Value)) (h : pickL T is = some T') : Sx N D T' B M w0 a w := hs.tmps (pickL_mem h)
/-- Fewer blocks are told. -/
theorem Sx.blks (hs : Sx N D T B M w0 a w) (h : B'.Sublist B) : Sx N D T B' M w0 a w :=
  ⟨hs.size, hs.defers, hs.tmp, fun p hp => hs.blk p (h.subset hp), hs.apart.sublist h, hs.kp⟩
theorem Sx.hide (hs : Sx N D T B M w0 a w) (b : Nat) : Sx N D T ((b, none) :: B) M w0 a w :=
  ⟨hs.size, hs.defers, hs.tmp, fun p hp o ho => by rcases List.mem_cons.1 hp with rfl | hp; (cases ho); exact hs.blk p hp o ho,
    List.pairwise_cons.2 ⟨fun _ _ => .inl rfl, hs.apart⟩, hs.kp⟩

/-- A temporary is set; the world goes on, new blocks beside. -/
theorem Sx.step (hs : Sx N D T B M w0 a w) {d : Nat} {v : Value} {bs : List (Nat × Option Obj)} (hd : Nat.blt d N = true) (hf : fresh d T = true) (hk : Kp [] w w') (hn : New w bs w') :
    Sx N D ((d, v) :: T) (bs ++ B) M w0 (a.put (some d) v) w' := by
  refine ⟨?_, hs.defers, ?_, ?_, ?_, hs.kp.trans (hk.nil)⟩
  · simp only [Act.put, Array.size_setIfInBounds]; exact hs.size
  · intro p hp
    rcases List.mem_cons.1 hp with rfl | hp
    · simp only [Act.put]; rw [Array.getElem?_setIfInBounds_self_of_lt (by rw [hs.size]; simpa [Nat.blt_eq] using hd)]
    · simp only [Act.put]; rw [Array.getElem?_setIfInBounds_ne (fun e => fresh_ne hf p hp e.symm)]; exact hs.tmp p hp
  · intro p hp o ho
    rcases List.mem_append.1 hp with hp | hp
    · have := hn.blk p hp o ho
      exact ⟨.inr (Nat.le_trans hs.kp.size this.1), this.2⟩
    · have := hs.blk p hp o ho
      exact ⟨this.1, hk.at this.2 (by simp)⟩
  · refine List.pairwise_append.2 ⟨hn.apart, hs.apart, fun p hp q hq => ?_⟩
    cases hp2 : p.2 with
    | none => exact .inl rfl
    | some o => cases hq2 : q.2 with
      | none => exact .inr (.inl rfl)
      | some o' =>
        have h1 := (hn.blk p hp o hp2).1
        have h2 := lt_of_some (hs.blk q hq o' hq2).2
        exact .inr (.inr (by omega))
theorem Sx.put (hs : Sx N D T B M w0 a w) {d : Nat} {v : Value} (hd : Nat.blt d N = true) (hf : fresh d T = true) : Sx N D ((d, v) :: T) B M w0 (a.put (some d) v) w :=
  hs.step hd hf (Kp.refl _ _) (New.nil _ _)
theorem Sx.drawn (hs : Sx N D T B M w0 a w) (n : Nat) : Sx N D T B M w0 a { w with drawn := n } :=
  ⟨hs.size, hs.defers, hs.tmp, hs.blk, hs.apart, hs.kp.trans (Kp.drawn _ _ _)⟩
theorem Sx.world (hs : Sx N D T B M w0 a w) (hk : Kp [] w w') : Sx N D T B M w0 a w' :=
  ⟨hs.size, hs.defers, hs.tmp, fun p hp o ho => ⟨(hs.blk p hp o ho).1, hk.at (hs.blk p hp o ho).2 (by simp)⟩, hs.apart, hs.kp.trans hk.nil⟩

/-- The block at a place of B is put anew. -/
def setAt {α : Type} : List α → Nat → α → List α
  | [], _, _ => []
  | _ :: l, 0, y => y :: l
  | x :: l, n + 1, y => x :: setAt l n y
theorem setAt_split {α : Type} {l : List α} {x y : α} : ∀ {i : Nat}, nth l i = some x → ∃ l1 l2, l = l1 ++ x :: l2 ∧ setAt l i y = l1 ++ y :: l2 := by
  induction l with
  | nil => intro i h; cases h
  | cons z l ih =>
    intro i h
    cases i with
    | zero => simp only [nth, Option.some.injEq] at h; subst h; exact ⟨[], l, rfl, rfl⟩
    | succ i => obtain ⟨l1, l2, h1, h2⟩ := ih h; exact ⟨z :: l1, l2, by rw [h1]; rfl, by simp only [setAt, h2]; rfl⟩
theorem Sx.write (hs : Sx N D T B M w0 a w) {i b : Nat} {o o' : Obj} (hb : nth B i = some (b, some o)) (hw : w'.heap[b]? = some o') (hsz : w'.heap.size = w.heap.size)
    (hoth : ∀ k, k ≠ b → w'.heap[k]? = w.heap[k]?) (h1 : w'.os = w.os) (h2 : w'.tape = w.tape) (h3 : w'.output = w.output) : Sx N D T (setAt B i (b, some o')) M w0 a w' := by
  obtain ⟨l1, l2, rfl, e2⟩ := setAt_split (y := (b, some o')) hb
  rw [e2]
  have hbx := hs.blk (b, some o) (by simp) o rfl
  have hap := hs.apart
  rw [List.pairwise_append, List.pairwise_cons] at hap
  have ne1 : ∀ p ∈ l1, p.2 = none ∨ p.1 ≠ b := fun p hp => by
    rcases hap.2.2 p hp (b, some o) (by simp) with h | h | h
    · exact .inl h
    · cases h
    · exact .inr h
  have ne2 : ∀ p ∈ l2, p.2 = none ∨ p.1 ≠ b := fun p hp => by
    rcases hap.2.1.1 p hp with h | h | h
    · cases h
    · exact .inl h
    · exact .inr (fun e => h e.symm)
  have key : ∀ p, p ∈ l1 ∨ p ∈ l2 → ∀ o, p.2 = some o → (p.1 ∈ M ∨ w0.heap.size ≤ p.1) ∧ w'.heap[p.1]? = some o := fun p hp o ho => by
    have h0 := hs.blk p (by rcases hp with hp | hp <;> simp [hp]) o ho
    refine ⟨h0.1, ?_⟩
    have : p.1 ≠ b := by
      rcases hp with hp | hp
      · rcases ne1 p hp with h | h; (rw [h] at ho; cases ho); exact h
      · rcases ne2 p hp with h | h; (rw [h] at ho; cases ho); exact h
    rw [hoth _ this]; exact h0.2
  refine ⟨hs.size, hs.defers, hs.tmp, ?_, ?_, ⟨h1.trans hs.kp.os, h2.trans hs.kp.tape, h3.trans hs.kp.output, by rw [hsz]; exact hs.kp.size, ?_⟩⟩
  · intro p hp o2 ho
    rcases List.mem_append.1 hp with hp | hp
    · exact key p (.inl hp) o2 ho
    · rcases List.mem_cons.1 hp with rfl | hp
      · simp only [Option.some.injEq] at ho; subst ho; exact ⟨hbx.1, hw⟩
      · exact key p (.inr hp) o2 ho
  · rw [List.pairwise_append, List.pairwise_cons]
    refine ⟨hap.1, ⟨fun p hp => ?_, hap.2.1.2⟩, fun p hp q hq => ?_⟩
    · rcases ne2 p hp with h | h
      · exact .inr (.inl h)
      · exact .inr (.inr (fun e => h e.symm))
    · rcases List.mem_cons.1 hq with rfl | hq
      · rcases ne1 p hp with h | h
        · exact .inl h
        · exact .inr (.inr h)
      · exact hap.2.2 p hp q (by simp [hq])
  · intro k hk hm
    have : k ≠ b := fun e => by
      subst e
      rcases hbx.1 with h | h
      · exact hm h
      · omega
    rw [hoth k this]; exact hs.kp.block k hk hm

/-! ### Operands -/
inductive Ev (T : List (Nat × Value)) : Operand → Value → Prop
  | tmp {t : Nat} {v : Value} (h : (t, v) ∈ T) : Ev T (.tmp t) v
  | const (v : Value) : Ev T (.const v) v
  | func (f : Nat) : Ev T (.func f) (.func (.func f) #[] #[])
  | global (g : Nat) : Ev T (.global g) (.pointer (some ⟨g, 0, none⟩))
theorem Ev.t (i : Nat) {t : Nat} {v : Value} (h : nth T i = some (t, v)) : Ev T (.tmp t) v := .tmp (mem_nth h)
theorem Sx.ev {x : Operand} {v : Value} (hs : Sx N D T B M w0 a w) (h : Ev T x v) : a.eval x = v := by
  cases h with
  | tmp h => simp only [Act.eval]; rw [Array.getD_eq_getD_getElem?, hs.tmp _ h]; rfl
  | const v => rfl
  | func f => rfl
  | global g => rfl
def Evs (T : List (Nat × Value)) : List Operand → List Value → Prop
  | [], [] => True
  | x :: xs, v :: vs => Ev T x v ∧ Evs T xs vs
  | _, _ => False
theorem Sx.evs {vs : List Value} : ∀ {xs : List Operand}, Sx N D T B M w0 a w → Evs T xs vs → xs.map a.eval = vs := by
  induction vs with
  | nil => intro xs _ h; cases xs with
    | nil => rfl
    | cons x xs => exact h.elim
  | cons v vs ih => intro xs hs h; cases xs with
    | nil => exact h.elim
    | cons x xs => simp only [List.map_cons, hs.ev h.1, ih hs h.2]
end

/-! ### The fence of all machines, in a round or not -/
def Fx (r : Option Nat) : Fence := { Fence.wide with round := r }
theorem Fx_fn (r : Option Nat) (f : FuncId) : (Fx r).fn f := trivial
theorem Fx_none : Fx none = Fence.wide := rfl
theorem Fx_some (l : Nat) : Fx (some l) = Fence.wide.inRound l := rfl
theorem calls_in {P : Program} {f : FuncId} {args : Array Value} {w : World} {R : Ending → World → Prop} (r : Option Nat) (n : Nat) (h : Calls P f args w R) : CallsIn (Fx r) n P f args w R := by
  have h' : CallsIn Fence.wide n P f args w R := callsIn_wide.2 h
  cases r with
  | none => exact h'
  | some l => exact h'

section
variable {P : Program} {r : Option Nat} {Q : Exit → Act → World → Prop} {a : Act} {w w' : World} {o : Oper} {K : Act → World → Prop}

theorem op_value {v : Value} (hnd : ∀ c, o.op ≠ .defer c) (h : (execOp a.eval o).run P w = .ok (.value v) w') (hk : K (a.put o.dst v) w') : o.wpIn (Fx r) 0 P a w K Q := by
  refine ⟨fun _ _ => trivial, ?_⟩
  rw [Oper.semAt_eq _ _ _ hnd, h]
  exact hk
theorem op_skip (hnd : ∀ c, o.op ≠ .defer c) (h : (execOp a.eval o).run P w = .ok .skip w') (hk : K (a.put o.dst undef) w') : o.wpIn (Fx r) 0 P a w K Q := by
  refine ⟨fun _ _ => trivial, ?_⟩
  rw [Oper.semAt_eq _ _ _ hnd, h]
  exact hk
end

/-! ### The pure operations -/
section
variable {N : Nat} {D : List Deferred} {T : List (Nat × Value)} {B : List (Nat × Option Obj)} {M : List Nat} {w0 : World} {a : Act} {w : World}
variable {P : Program} {r : Option Nat} {Q : Exit → Act → World → Prop} {K : Act → World → Prop}
variable {d : Nat} {ty : TypeId} {pos : String} {aft : Array Edge} {g : Option (Nat × Bool)}

theorem st_move {x : Operand} {v : Value} (hs : Sx N D T B M w0 a w) (hx : Ev T x v) (hd : Nat.blt d N = true) (hf : fresh d T = true)
    (k : ∀ a' w', Sx N D ((d, v) :: T) B M w0 a' w' → K a' w') : (Oper.mk (some d) (.move x) ty pos aft g).wpIn (Fx r) 0 P a w K Q :=
  op_value (v := v) (w' := w) nofun (by simp only [execOp, hs.ev hx]; rfl) (k _ _ (hs.put hd hf))
theorem st_assign {x : Operand} {v : Value} (hs : Sx N D T B M w0 a w) (hx : Ev T x v) (hd : Nat.blt d N = true) (hf : fresh d T = true)
    (k : ∀ a' w', Sx N D ((d, v) :: T) B M w0 a' w' → K a' w') : (Oper.mk (some d) (.assign x) ty pos aft g).wpIn (Fx r) 0 P a w K Q :=
  op_value (v := v) (w' := w) nofun (by simp only [execOp, hs.ev hx]; rfl) (k _ _ (hs.put hd hf))
/-- A binary operation whose value is told. -/
theorem st_bin {op : BinOp} {t t2 : TypeId} {x y : Operand} {u v z : Value} (hs : Sx N D T B M w0 a w) (hx : Ev T x u) (hy : Ev T y v)
    (hrun : ∀ w, (do eqGuard op t x y u v; binOp op t u v : Sem Value).run P w = .ok z w) (hd : Nat.blt d N = true) (hf : fresh d T = true)
    (k : ∀ a' w', Sx N D ((d, z) :: T) B M w0 a' w' → K a' w') : (Oper.mk (some d) (.binOp op t x y t2) ty pos aft g).wpIn (Fx r) 0 P a w K Q :=
  op_value (v := z) (w' := w) nofun (by simp only [execOp, hs.ev hx, hs.ev hy, Sem.run_bind, hrun, Result.andThen_ok, Sem.run_pure]) (k _ _ (hs.put hd hf))
/-- Any operation that gives a value and leaves the world, its operands told. -/
theorem st_run {o : Op} {v : Value} (hs : Sx N D T B M w0 a w) (hnd : ∀ c, o ≠ .defer c) (hrun : (execOp a.eval (Oper.mk (some d) o ty pos aft g)).run P w = .ok (.value v) w) (hd : Nat.blt d N = true) (hf : fresh d T = true)
    (k : ∀ a' w', Sx N D ((d, v) :: T) B M w0 a' w' → K a' w') : (Oper.mk (some d) o ty pos aft g).wpIn (Fx r) 0 P a w K Q :=
  op_value (v := v) (w' := w) hnd hrun (k _ _ (hs.put hd hf))
/-! Numbers. -/
theorem wrap64_of {z : Int} (h : -9223372036854775808 ≤ z ∧ z ≤ 9223372036854775807) : IntKind.i64.wrap z = z := IntWalk.i64_in z h
theorem st_add {t t2 : TypeId} {x y : Operand} {m n z : Int} (hs : Sx N D T B M w0 a w) (hx : Ev T x (.int .i64 m)) (hy : Ev T y (.int .i64 n)) (hd : Nat.blt d N = true) (hf : fresh d T = true)
    (hz : m + n = z) (hb : -9223372036854775808 ≤ z ∧ z ≤ 9223372036854775807)
    (k : ∀ a' w', Sx N D ((d, .int .i64 z) :: T) B M w0 a' w' → K a' w') : (Oper.mk (some d) (.binOp .add t x y t2) ty pos aft g).wpIn (Fx r) 0 P a w K Q :=
  st_bin hs hx hy (fun w => by subst hz; simp [eqGuard, binOp, Op.intArith, wrap64_of hb]) hd hf k
theorem st_sub {t t2 : TypeId} {x y : Operand} {m n z : Int} (hs : Sx N D T B M w0 a w) (hx : Ev T x (.int .i64 m)) (hy : Ev T y (.int .i64 n)) (hd : Nat.blt d N = true) (hf : fresh d T = true)
    (hz : m - n = z) (hb : -9223372036854775808 ≤ z ∧ z ≤ 9223372036854775807)
    (k : ∀ a' w', Sx N D ((d, .int .i64 z) :: T) B M w0 a' w' → K a' w') : (Oper.mk (some d) (.binOp .sub t x y t2) ty pos aft g).wpIn (Fx r) 0 P a w K Q :=
  st_bin hs hx hy (fun w => by subst hz; simp [eqGuard, binOp, Op.intArith, wrap64_of hb]) hd hf k
theorem st_mul {t t2 : TypeId} {x y : Operand} {m n z : Int} (hs : Sx N D T B M w0 a w) (hx : Ev T x (.int .i64 m)) (hy : Ev T y (.int .i64 n)) (hd : Nat.blt d N = true) (hf : fresh d T = true)
    (hz : m * n = z) (hb : -9223372036854775808 ≤ z ∧ z ≤ 9223372036854775807)
    (k : ∀ a' w', Sx N D ((d, .int .i64 z) :: T) B M w0 a' w' → K a' w') : (Oper.mk (some d) (.binOp .mul t x y t2) ty pos aft g).wpIn (Fx r) 0 P a w K Q :=
  st_bin hs hx hy (fun w => by subst hz; simp [eqGuard, binOp, Op.intArith, wrap64_of hb]) hd hf k
theorem st_quo {t t2 : TypeId} {x y : Operand} {m n : Int} (hs : Sx N D T B M w0 a w) (hx : Ev T x (.int .i64 m)) (hy : Ev T y (.int .i64 n)) (hd : Nat.blt d N = true) (hf : fresh d T = true)
    (hb : 0 ≤ m ∧ m ≤ 9223372036854775807 ∧ 0 < n)
    (k : ∀ a' w', Sx N D ((d, .int .i64 (m / n)) :: T) B M w0 a' w' → K a' w') : (Oper.mk (some d) (.binOp .quo t x y t2) ty pos aft g).wpIn (Fx r) 0 P a w K Q :=
  st_bin hs hx hy (fun w => by
    have hn : n ≠ 0 := by omega
    have h1 : m.tdiv n = m / n := Int.tdiv_eq_ediv_of_nonneg hb.1
    have h2 : 0 ≤ m / n := Int.ediv_nonneg hb.1 (by omega)
    have h3 : m / n ≤ m := Int.ediv_le_self n hb.1
    simp [eqGuard, binOp, Op.intDiv, hn, h1, wrap64_of (z := m / n) ⟨by omega, by omega⟩]) hd hf k
/-- '%' as Go has it: the sign is the first number's. -/
theorem st_rem {t t2 : TypeId} {x y : Operand} {m n : Int} (hs : Sx N D T B M w0 a w) (hx : Ev T x (.int .i64 m)) (hy : Ev T y (.int .i64 n)) (hd : Nat.blt d N = true) (hf : fresh d T = true)
    (hb : n ≠ 0)
    (k : ∀ a' w', Sx N D ((d, .int .i64 (m.tmod n)) :: T) B M w0 a' w' → K a' w') : (Oper.mk (some d) (.binOp .rem t x y t2) ty pos aft g).wpIn (Fx r) 0 P a w K Q :=
  st_bin hs hx hy (fun w => by simp [eqGuard, binOp, Op.intDiv, hb]) hd hf k
/-- The tests on numbers. -/
def cmp : BinOp → Int → Int → Bool
  | .eql, m, n => m == n
  | .neq, m, n => m != n
  | .lss, m, n => decide (m < n)
  | .leq, m, n => decide (m ≤ n)
  | .gtr, m, n => decide (m > n)
  | .geq, m, n => decide (m ≥ n)
  | _, _, _ => false
def isCmp : BinOp → Bool
  | .eql | .neq | .lss | .leq | .gtr | .geq => true
  | _ => false
theorem st_cmp {op : BinOp} {t t2 : TypeId} {x y : Operand} {m n : Int} {c : Bool} (hs : Sx N D T B M w0 a w) (hx : Ev T x (.int .i64 m)) (hy : Ev T y (.int .i64 n)) (hd : Nat.blt d N = true) (hf : fresh d T = true)
    (ho : isCmp op = true) (hc : cmp op m n = c)
    (k : ∀ a' w', Sx N D ((d, .bool c) :: T) B M w0 a' w' → K a' w') : (Oper.mk (some d) (.binOp op t x y t2) ty pos aft g).wpIn (Fx r) 0 P a w K Q :=
  st_bin hs hx hy (fun w => by subst hc; cases op <;> first | (simp [isCmp] at ho; done) | simp [eqGuard, binOp, Op.intCmp, cmp]) hd hf k
theorem st_not {t : TypeId} {x : Operand} {c : Bool} (hs : Sx N D T B M w0 a w) (hx : Ev T x (.bool c)) (hd : Nat.blt d N = true) (hf : fresh d T = true)
    (k : ∀ a' w', Sx N D ((d, .bool (!c)) :: T) B M w0 a' w' → K a' w') : (Oper.mk (some d) (.unOp .not t x) ty pos aft g).wpIn (Fx r) 0 P a w K Q :=
  st_run hs nofun (by simp [execOp, hs.ev hx, Op.unary]) hd hf k
theorem st_neg {t : TypeId} {x : Operand} {m : Int} (hs : Sx N D T B M w0 a w) (hx : Ev T x (.int .i64 m)) (hd : Nat.blt d N = true) (hf : fresh d T = true)
    (hb : -9223372036854775807 ≤ m ∧ m ≤ 9223372036854775807)
    (k : ∀ a' w', Sx N D ((d, .int .i64 (-m)) :: T) B M w0 a' w' → K a' w') : (Oper.mk (some d) (.unOp .neg t x) ty pos aft g).wpIn (Fx r) 0 P a w K Q :=
  st_run hs nofun (by simp [execOp, hs.ev hx, Op.unary, Op.intArith, wrap64_of (z := -m) ⟨by omega, by omega⟩]) hd hf k
theorem st_extract {x : Operand} {l : List Value} {i : Nat} {v : Value} (hs : Sx N D T B M w0 a w) (hx : Ev T x (.tuple ⟨l⟩)) (hd : Nat.blt d N = true) (hf : fresh d T = true) (hv : nth l i = some v)
    (k : ∀ a' w', Sx N D ((d, v) :: T) B M w0 a' w' → K a' w') : (Oper.mk (some d) (.extract x i) ty pos aft g).wpIn (Fx r) 0 P a w K Q := by
  have h : l[i]? = some v := by
    clear hx hs k
    induction l generalizing i with
    | nil => cases hv
    | cons y l ih => cases i with
      | zero => simpa [nth] using hv
      | succ i => simpa using ih hv
  exact st_run hs nofun (by simp [execOp, hs.ev hx, Instr.extract, h]) hd hf k
/-- A choice between two told values. -/
theorem st_pick {x y z : Operand} {c : Bool} {v : Value} (hs : Sx N D T B M w0 a w) (hx : Ev T x (.bool c)) (hd : Nat.blt d N = true) (hf : fresh d T = true)
    (hy : c = true → Ev T y v) (hz : c = false → Ev T z v)
    (k : ∀ a' w', Sx N D ((d, v) :: T) B M w0 a' w' → K a' w') : (Oper.mk (some d) (.pick x y z) ty pos aft g).wpIn (Fx r) 0 P a w K Q :=
  st_run hs nofun (by
    cases c with
    | true => simp [execOp, hs.ev hx, hs.ev (hy rfl), asBool]
    | false => simp [execOp, hs.ev hx, hs.ev (hz rfl), asBool]) hd hf k
end

/-! ### Memory -/
/-- From the place (b, o) on the cells of l stand, one behind the other. -/
def CellsAt (w : World) (b o : Nat) (l : List Value) : Prop := ∀ j v, nth l j = some v → w.cell? ⟨b, o + j, none⟩ = some v
theorem nth_get {α : Type} : ∀ (l : List α) (j : Nat), nth l j = l[j]? := by
  intro l
  induction l with
  | nil => intro j; cases j <;> rfl
  | cons x l ih => intro j; cases j with
    | zero => rfl
    | succ j => simp only [nth, ih j, List.getElem?_cons_succ]
theorem cell_of_block {w : World} {b o : Nat} {c : Array Value} {e : TypeId} {fr : Nat × Nat} (h : w.heap[b]? = some (.cells c e fr)) : w.cell? ⟨b, o, none⟩ = c[o]? := by
  simp [World.cell?, h]
theorem CellsAt.of_block {w : World} {b : Nat} {l : List Value} {e : TypeId} {fr : Nat × Nat} (h : w.heap[b]? = some (.cells ⟨l⟩ e fr)) : CellsAt w b 0 l := by
  intro j v hv
  rw [cell_of_block h, Nat.zero_add, nth_get] at *
  simpa using hv
theorem CellsAt.kp {M : List Nat} {w w' : World} {b o : Nat} {l : List Value} (h : CellsAt w b o l) (hk : Kp M w w') (hm : b ∉ M) : CellsAt w' b o l := by
  intro j v hv
  have h1 := h j v hv
  have hb : b < w.heap.size := by
    rcases Nat.lt_or_ge b w.heap.size with hx | hx
    · exact hx
    · simp [World.cell?, Array.getElem?_eq_none hx] at h1
  rw [← h1]
  exact World.cell?_of_block (hk.block b hb hm)
theorem Addr_add (b o n : Nat) : Addr.add ⟨b, o, none⟩ n = ⟨b, o + n, none⟩ := by
  unfold Addr.add
  split
  · rename_i h; subst h; rfl
  · rfl
/-- n elements from the head. -/
def takeN {α : Type} : Nat → List α → Option (List α)
  | 0, _ => some []
  | _ + 1, [] => none
  | n + 1, x :: l => match takeN n l with
    | some r => some (x :: r)
    | none => none
def dropN {α : Type} : Nat → List α → List α
  | 0, l => l
  | _ + 1, [] => []
  | n + 1, _ :: l => dropN n l
def sub {α : Type} (l : List α) (o n : Nat) : Option (List α) := takeN n (dropN o l)
theorem nth_dropN {α : Type} : ∀ (o : Nat) (l : List α) (j : Nat), nth (dropN o l) j = nth l (o + j) := by
  intro o
  induction o with
  | zero => intro l j; simp [dropN]
  | succ o ih => intro l j; cases l with
    | nil => simp [dropN, nth]
    | cons x l => simp only [dropN, ih]; rw [show o + 1 + j = (o + j) + 1 from by omega]; rfl
theorem takeN_spec {α : Type} : ∀ (n : Nat) (l r : List α), takeN n l = some r → r.length = n ∧ ∀ j, j < n → nth l j = nth r j := by
  intro n
  induction n with
  | zero => intro l r h; simp only [takeN, Option.some.injEq] at h; subst h; exact ⟨rfl, fun j hj => by omega⟩
  | succ n ih => intro l r h; cases l with
    | nil => cases h
    | cons x l =>
      simp only [takeN] at h
      cases ht : takeN n l with
      | none => rw [ht] at h; cases h
      | some r' =>
        rw [ht] at h
        simp only [Option.some.injEq] at h
        subst h
        obtain ⟨h1, h2⟩ := ih l r' ht
        refine ⟨by simp [h1], fun j hj => ?_⟩
        cases j with
        | zero => rfl
        | succ j => exact h2 j (by omega)
theorem CellsAt.sub {w : World} {b o off n : Nat} {l vs : List Value} (h : CellsAt w b o l) (hs : sub l off n = some vs) : vs.length = n ∧ CellsAt w b (o + off) vs := by
  obtain ⟨h1, h2⟩ := takeN_spec n _ _ hs
  refine ⟨h1, fun j v hv => ?_⟩
  have hj : j < n := by
    rw [nth_get] at hv
    have := (List.getElem?_eq_some_iff.1 hv).1
    omega
  have := h (off + j) v (by rw [← nth_dropN, h2 j hj]; exact hv)
  rw [show o + off + j = o + (off + j) from by omega]; exact this
section
variable {P : Program}
theorem run_loadFrom {w : World} {b o : Nat} : ∀ (vs : List Value) (i : Nat) (acc : Array Value), CellsAt w b (o + i) vs →
    (loadCellsFrom ⟨b, o, none⟩ i vs.length acc).run P w = .ok (acc ++ ⟨vs⟩) w := by
  intro vs
  induction vs with
  | nil => intro i acc _; simp [loadCellsFrom]
  | cons v vs ih =>
    intro i acc h
    have h0 : w.cell? ⟨b, o + i, none⟩ = some v := by simpa using h 0 v rfl
    have h1 : CellsAt w b (o + (i + 1)) vs := fun j u hu => by
      have := h (j + 1) u hu
      rw [show o + (i + 1) + j = o + i + (j + 1) from by omega]; exact this
    simp only [List.length_cons, loadCellsFrom, Sem.run_bind, load, Addr_add, Sem.run, h0, Result.andThen_ok]
    rw [ih (i + 1) (acc.push v) h1]
    congr 1
    apply Array.ext'
    simp
theorem run_loadCells {w : World} {b o n : Nat} {vs : List Value} (h : CellsAt w b o vs) (hn : vs.length = n) : (loadCells ⟨b, o, none⟩ n).run P w = .ok ⟨vs⟩ w := by
  subst hn
  rw [loadCells, run_loadFrom vs 0 #[] (by simpa using h)]
  simp
theorem run_loadVar_agg {w : World} {t : TypeId} {b o n : Nat} {vs : List Value} (hag : ∀ w, (isAgg t).run P w = .ok true w) (hsz : ∀ w, (sizeOf t).run P w = .ok n w)
    (h : CellsAt w b o vs) (hn : vs.length = n) : (loadVar t ⟨b, o, none⟩).run P w = .ok (.agg ⟨vs⟩) w := by
  simp [loadVar, hag, hsz, run_loadCells h hn]
theorem run_loadVar_one {w : World} {t : TypeId} {b o : Nat} {v : Value} (hag : ∀ w, (isAgg t).run P w = .ok false w) (h : w.cell? ⟨b, o, none⟩ = some v) :
    (loadVar t ⟨b, o, none⟩).run P w = .ok v w := by
  simp [loadVar, hag, load, Sem.run, h]

/-! Stores into a block of the call's own. -/
/-- A value of one cell. -/
def one1 : Value → Bool
  | .agg _ | .tuple _ => false
  | _ => true
def splice {α : Type} : List α → Nat → List α → Option (List α)
  | l, 0, [] => some l
  | [], _ + 1, _ => none
  | [], 0, _ :: _ => none
  | _ :: l, 0, v :: vs => match splice l 0 vs with
    | some r => some (v :: r)
    | none => none
  | x :: l, o + 1, vs => match splice l o vs with
    | some r => some (x :: r)
    | none => none
theorem splice_cons {α : Type} {v : α} {vs : List α} : ∀ {o : Nat} {l l' : List α}, splice l o (v :: vs) = some l' → o < l.length ∧ splice (l.set o v) (o + 1) vs = some l' := by
  intro o
  induction o with
  | zero => intro l l' h; cases l with
    | nil => cases h
    | cons x l =>
      refine ⟨by simp, ?_⟩
      simp only [splice] at h
      simp only [List.set_cons_zero, splice]
      exact h
  | succ o ih => intro l l' h; cases l with
    | nil => cases h
    | cons x l =>
      simp only [splice] at h
      cases hs : splice l o (v :: vs) with
      | none => rw [hs] at h; cases h
      | some r =>
        obtain ⟨h1, h2⟩ := ih hs
        refine ⟨by simp; omega, ?_⟩
        simp only [List.set_cons_succ, splice, h2]
        rw [hs] at h
        exact h
theorem splice_nil {α : Type} : ∀ {o : Nat} {l l' : List α}, splice l o [] = some l' → l' = l := by
  intro o
  induction o with
  | zero => intro l l' h; cases l <;> (simp only [splice, Option.some.injEq] at h; exact h.symm)
  | succ o ih => intro l l' h; cases l with
    | nil => cases h
    | cons x l =>
      simp only [splice] at h
      cases hs : splice l o [] with
      | none => rw [hs] at h; cases h
      | some r => rw [hs] at h; simp only [Option.some.injEq] at h; rw [← h, ih hs]
/-- The block b of w put anew. -/
def World.withBlock (w : World) (b : Nat) (o : Obj) : World := { w with heap := w.heap.setIfInBounds b o }
theorem run_storeCells {b o : Nat} {e : TypeId} : ∀ (vs : List Value) (i : Nat) (w : World) (l l' : List Value), w.heap[b]? = some (.cells ⟨l⟩ e (0, 0)) → splice l (o + i) vs = some l' →
    (∀ v ∈ vs, one1 v = true) →
    (storeCells ⟨b, o, none⟩ vs i).run P w = .ok () (World.withBlock w b (.cells ⟨l'⟩ e (0, 0))) := by
  intro vs
  induction vs with
  | nil =>
    intro i w l l' hb hl _
    have := splice_nil hl
    subst this
    simp only [storeCells, Sem.run_pure, World.withBlock]
    congr 1
    have hlt := lt_of_some hb
    have : w.heap.setIfInBounds b (.cells ⟨l'⟩ e (0, 0)) = w.heap := by
      apply Array.ext_getElem?
      intro k
      by_cases hk : k = b
      · subst hk; rw [Array.getElem?_setIfInBounds_self_of_lt hlt, hb]
      · rw [Array.getElem?_setIfInBounds_ne (fun e => hk e.symm)]
    rw [this]
  | cons v vs ih =>
    intro i w l l' hb hl hone
    obtain ⟨h1, h2⟩ := splice_cons hl
    have hlt := lt_of_some hb
    have hc : w.cell? ⟨b, o + i, none⟩ = some (l[o + i]) := by rw [cell_of_block hb]; simp [h1]
    have hfr : w.frozen? ⟨b, o + i, none⟩ = false := by simp [World.frozen?, hb]
    have hset : w.setCell ⟨b, o + i, none⟩ v = World.withBlock w b (.cells ⟨l.set (o + i) v⟩ e (0, 0)) := by
      simp only [World.setCell, World.withBlock]
      congr 1
      apply Array.ext_getElem?
      intro k
      rw [Array.getElem?_modify]
      by_cases hk : b = k
      · subst hk
        rw [if_pos rfl, hb, Array.getElem?_setIfInBounds_self_of_lt hlt]
        simp
      · rw [if_neg hk, Array.getElem?_setIfInBounds_ne hk]
    have hb' : (World.withBlock w b (.cells ⟨l.set (o + i) v⟩ e (0, 0))).heap[b]? = some (.cells ⟨l.set (o + i) v⟩ e (0, 0)) := by
      simp only [World.withBlock]; rw [Array.getElem?_setIfInBounds_self_of_lt hlt]
    have hv := hone v (by simp)
    have hst : (store (Addr.add ⟨b, o, none⟩ i) v).run P w = .ok () (World.withBlock w b (.cells ⟨l.set (o + i) v⟩ e (0, 0))) := by
      rw [Addr_add]
      cases v <;> first | (simp [one1] at hv; done) | (simp [store, Sem.run, hc, hfr, hset])
    simp only [storeCells, Sem.run_bind, hst, Result.andThen_ok]
    rw [ih (i + 1) _ (l.set (o + i) v) l' hb' (by rw [show o + (i + 1) = o + i + 1 from by omega]; exact h2) (fun u hu => hone u (List.mem_cons_of_mem _ hu))]
    congr 1
    simp [World.withBlock, Array.setIfInBounds_setIfInBounds]
end

section
variable {N : Nat} {D : List Deferred} {T : List (Nat × Value)} {B B' : List (Nat × Option Obj)} {M : List Nat} {w0 : World} {a : Act} {w : World}
variable {P : Program} {r : Option Nat} {Q : Exit → Act → World → Prop} {K : Act → World → Prop}
variable {d : Nat} {ty : TypeId} {pos : String} {aft : Array Edge} {g : Option (Nat × Bool)}

theorem Sx.cells (hs : Sx N D T B M w0 a w) (i : Nat) {b : Nat} {l : List Value} {e : TypeId} {fr : Nat × Nat} (h : nth B i = some (b, some (.cells ⟨l⟩ e fr))) : CellsAt w b 0 l :=
  CellsAt.of_block ((hs.blk _ (mem_nth h) _ rfl).2)
/-- Cells that lay there when the call began. -/
theorem Sx.old (hs : Sx N D T B M w0 a w) {b o : Nat} {l : List Value} (h : CellsAt w0 b o l) (hm : b ∉ M) : CellsAt w b o l := h.kp hs.kp hm
theorem new_push (w : World) (o : Obj) : New w [(w.heap.size, some o)] { w with heap := w.heap.push o } :=
  ⟨fun p hp o' ho' => by
    simp only [List.mem_singleton] at hp; subst hp; simp only [Option.some.injEq] at ho'; subst ho'; exact ⟨Nat.le_refl _, by simp⟩, List.pairwise_singleton _ _⟩
theorem st_alloc {e : TypeId} {z : Value} {l : List Value} (hs : Sx N D T B M w0 a w) (hd : Nat.blt d N = true) (hf : fresh d T = true) (hz : ∀ w, (zeroValue e).run P w = .ok z w) (hc : z.cells = ⟨l⟩)
    (k : ∀ b a' w', Sx N D ((d, .pointer (some ⟨b, 0, none⟩)) :: T) ((b, some (.cells ⟨l⟩ e (0, 0))) :: B) M w0 a' w' → K a' w') :
    (Oper.mk (some d) (.alloc e) ty pos aft g).wpIn (Fx r) 0 P a w K Q :=
  op_value (v := .pointer (some ⟨w.heap.size, 0, none⟩)) (w' := { w with heap := w.heap.push (.cells ⟨l⟩ e (0, 0)) }) nofun
    (by simp [execOp, Instr.alloc, hz, newVar, newRow, newObj, hc, Sem.run]) (k _ _ _ (hs.step hd hf (Kp.push _ _ _) (new_push w _)))
theorem st_box {e : TypeId} {x : Operand} {v : Value} {l : List Value} (hs : Sx N D T B M w0 a w) (hx : Ev T x v) (hd : Nat.blt d N = true) (hf : fresh d T = true) (hc : v.cells = ⟨l⟩)
    (k : ∀ b a' w', Sx N D ((d, .pointer (some ⟨b, 0, none⟩)) :: T) ((b, some (.cells ⟨l⟩ e (0, 0))) :: B) M w0 a' w' → K a' w') :
    (Oper.mk (some d) (.box e x) ty pos aft g).wpIn (Fx r) 0 P a w K Q :=
  op_value (v := .pointer (some ⟨w.heap.size, 0, none⟩)) (w' := { w with heap := w.heap.push (.cells ⟨l⟩ e (0, 0)) }) nofun
    (by simp [execOp, Instr.box, hs.ev hx, newVar, newRow, newObj, hc, Sem.run]) (k _ _ _ (hs.step hd hf (Kp.push _ _ _) (new_push w _)))
/-- A whole struct or array is read. -/
theorem st_loadA {t : TypeId} {x : Operand} {b o off n : Nat} {l vs : List Value} (hs : Sx N D T B M w0 a w) (hx : Ev T x (.pointer (some ⟨b, o + off, none⟩))) (hd : Nat.blt d N = true) (hf : fresh d T = true)
    (hag : ∀ w, (isAgg t).run P w = .ok true w) (hsz : ∀ w, (sizeOf t).run P w = .ok n w) (hc : CellsAt w b o l) (hl : sub l off n = some vs)
    (k : ∀ a' w', Sx N D ((d, .agg ⟨vs⟩) :: T) B M w0 a' w' → K a' w') : (Oper.mk (some d) (.load t x) ty pos aft g).wpIn (Fx r) 0 P a w K Q := by
  obtain ⟨h1, h2⟩ := hc.sub hl
  exact st_run hs nofun (by simp [execOp, hs.ev hx, Instr.loadAt, Instr.sureAddr, run_loadVar_agg hag hsz h2 h1]) hd hf k
/-- One cell is read. -/
theorem st_load1 {t : TypeId} {x : Operand} {b o off : Nat} {l : List Value} {v : Value} (hs : Sx N D T B M w0 a w) (hx : Ev T x (.pointer (some ⟨b, o + off, none⟩))) (hd : Nat.blt d N = true) (hf : fresh d T = true)
    (hag : ∀ w, (isAgg t).run P w = .ok false w) (hc : CellsAt w b o l) (hl : nth l off = some v)
    (k : ∀ a' w', Sx N D ((d, v) :: T) B M w0 a' w' → K a' w') : (Oper.mk (some d) (.load t x) ty pos aft g).wpIn (Fx r) 0 P a w K Q :=
  st_run hs nofun (by simp [execOp, hs.ev hx, Instr.loadAt, Instr.sureAddr, run_loadVar_one hag (hc off v hl)]) hd hf k
/-- A store into a block of the call's own. -/
theorem st_store {t e : TypeId} {x y : Operand} {b off n i : Nat} {l l' vs : List Value} {v : Value} (hs : Sx N D T B M w0 a w) (hx : Ev T x (.pointer (some ⟨b, off, none⟩))) (hy : Ev T y v)
    (hsz : ∀ w, (sizeOf t).run P w = .ok n w) (hb : nth B i = some (b, some (.cells ⟨l⟩ e (0, 0)))) (hv : v.cells = ⟨vs⟩) (hn : vs.length = n) (h1 : vs.all one1 = true) (hl : splice l off vs = some l')
    (hB : setAt B i (b, some (.cells ⟨l'⟩ e (0, 0))) = B')
    (k : ∀ a' w', Sx N D T B' M w0 a' w' → K a' w') : (Oper.mk none (.store t x y) ty pos aft g).wpIn (Fx r) 0 P a w K Q := by
  subst hB
  have hbx := (hs.blk _ (mem_nth hb) _ rfl).2
  have hlt := lt_of_some hbx
  have hrun : (storeVar t ⟨b, off, none⟩ v).run P w = .ok () (World.withBlock w b (.cells ⟨l'⟩ e (0, 0))) := by
    have := run_storeCells (P := P) (o := off) vs 0 w l l' hbx (by simpa using hl) (by simpa using h1)
    simp [storeVar, hv, hsz, hn, this]
  refine op_skip (w' := World.withBlock w b (.cells ⟨l'⟩ e (0, 0))) nofun (by simp [execOp, hs.ev hx, hs.ev hy, Instr.storeAt, Instr.sureAddr, hrun]) (k _ _ ?_)
  refine hs.write hb ?_ ?_ (fun k hk => ?_) rfl rfl rfl
  · simp only [World.withBlock]; rw [Array.getElem?_setIfInBounds_self_of_lt hlt]
  · simp [World.withBlock]
  · simp only [World.withBlock]; rw [Array.getElem?_setIfInBounds_ne (fun e => hk e.symm)]
theorem st_field {s : TypeId} {x : Operand} {f b o o' n : Nat} {fs : Array Field} {fd : Field} (hs : Sx N D T B M w0 a w) (hx : Ev T x (.pointer (some ⟨b, o, none⟩))) (hd : Nat.blt d N = true) (hf : fresh d T = true)
    (hu : ∀ w, (underlying s).run P w = .ok (.struct fs) w) (hfd : fs[f]? = some fd) (hsz : ∀ w, (sizeOf fd.type).run P w = .ok n w) (hn : Nat.beq n 0 = false) (ho : o + fd.offset = o')
    (k : ∀ a' w', Sx N D ((d, .pointer (some ⟨b, o', none⟩)) :: T) B M w0 a' w' → K a' w') : (Oper.mk (some d) (.fieldAddr s x f) ty pos aft g).wpIn (Fx r) 0 P a w K Q := by
  subst ho
  have hn' : n ≠ 0 := by intro e; subst e; simp at hn
  exact st_run hs nofun (by simp [execOp, hs.ev hx, Instr.fieldAt, hu, hfd, Instr.sureAddr, fieldPlace, hsz, hn', Addr_add]) hd hf k
theorem st_indexArr {t e : TypeId} {x y : Operand} {b o o' n len : Nat} {i : Int} (hs : Sx N D T B M w0 a w) (hx : Ev T x (.pointer (some ⟨b, o, none⟩))) (hy : Ev T y (.int .i64 i)) (hd : Nat.blt d N = true) (hf : fresh d T = true)
    (hu : ∀ w, (underlying t).run P w = .ok (.array len e) w) (hsz : ∀ w, (sizeOf e).run P w = .ok n w) (hi : 0 ≤ i ∧ i < len) (ho : o + i.toNat * n = o')
    (k : ∀ a' w', Sx N D ((d, .pointer (some ⟨b, o', none⟩)) :: T) B M w0 a' w' → K a' w') : (Oper.mk (some d) (.indexAddr t x y) ty pos aft g).wpIn (Fx r) 0 P a w K Q := by
  subst ho
  exact st_run hs nofun (by simp [execOp, hs.ev hx, hs.ev hy, Instr.indexAt, asIntOf, hu, Instr.sureAddr, hi.1, hi.2, hsz, Addr_add]) hd hf k
theorem st_indexSl {t e : TypeId} {x y : Operand} {b o o' n len cap : Nat} {i : Int} (hs : Sx N D T B M w0 a w) (hx : Ev T x (.slice (some ⟨b, o, none⟩) len cap)) (hy : Ev T y (.int .i64 i)) (hd : Nat.blt d N = true) (hf : fresh d T = true)
    (hu : ∀ w, (underlying t).run P w = .ok (.slice e) w) (hsz : ∀ w, (sizeOf e).run P w = .ok n w) (hi : 0 ≤ i ∧ i < len) (ho : o + i.toNat * n = o')
    (k : ∀ a' w', Sx N D ((d, .pointer (some ⟨b, o', none⟩)) :: T) B M w0 a' w' → K a' w') : (Oper.mk (some d) (.indexAddr t x y) ty pos aft g).wpIn (Fx r) 0 P a w K Q := by
  subst ho
  exact st_run hs nofun (by simp [execOp, hs.ev hx, hs.ev hy, Instr.indexAt, asIntOf, hu, Instr.sureAddr, hi.1, hi.2, hsz, Addr_add]) hd hf k
/-- Structs and arrays are built; the run is told. -/
theorem st_build {t : TypeId} {ps : List (Nat × Operand)} {qs : List (Nat × Value)} {v : Value} (hs : Sx N D T B M w0 a w) (hx : Evs T (ps.map (·.2)) (qs.map (·.2))) (hd : Nat.blt d N = true) (hf : fresh d T = true) (hi : ps.map (·.1) = qs.map (·.1))
    (hrun : ∀ w, (Instr.build t ⟨qs⟩).run P w = .ok v w)
    (k : ∀ a' w', Sx N D ((d, v) :: T) B M w0 a' w' → K a' w') : (Oper.mk (some d) (.build t ⟨ps⟩) ty pos aft g).wpIn (Fx r) 0 P a w K Q := by
  have he : ps.map (fun p => (p.1, a.eval p.2)) = qs := by
    have h1 := hs.evs hx
    clear hx hrun k hf hd
    induction ps generalizing qs with
    | nil => cases qs with
      | nil => rfl
      | cons q qs => simp at hi
    | cons p ps ih => cases qs with
      | nil => simp at hi
      | cons q qs =>
        simp only [List.map_cons, List.cons.injEq] at hi h1 ⊢
        exact ⟨Prod.ext hi.1 h1.1, ih hi.2 h1.2⟩
  refine st_run hs nofun ?_ hd hf k
  simp only [execOp, List.map_toArray, Sem.run_bind]
  rw [show (ps.map fun x => match x with | (i, x) => (i, a.eval x)) = qs from he, hrun]
  rfl
theorem st_buildSlice {t e : TypeId} {len : Nat} {ps : List (Nat × Operand)} {qs : List (Nat × Value)} {l : List Value} (hs : Sx N D T B M w0 a w) (hx : Evs T (ps.map (·.2)) (qs.map (·.2))) (hd : Nat.blt d N = true) (hf : fresh d T = true) (hi : ps.map (·.1) = qs.map (·.1))
    (hrun : ∀ w : World, (Instr.buildSlice t len ⟨qs⟩).run P w = .ok (.slice (some ⟨w.heap.size, 0, none⟩) len len) { w with heap := w.heap.push (.cells ⟨l⟩ e (0, 0)) })
    (k : ∀ b a' w', Sx N D ((d, .slice (some ⟨b, 0, none⟩) len len) :: T) ((b, some (.cells ⟨l⟩ e (0, 0))) :: B) M w0 a' w' → K a' w') :
    (Oper.mk (some d) (.buildSlice t len ⟨ps⟩) ty pos aft g).wpIn (Fx r) 0 P a w K Q := by
  have he : ps.map (fun p => (p.1, a.eval p.2)) = qs := by
    have h1 := hs.evs hx
    clear hx hrun k hf hd
    induction ps generalizing qs with
    | nil => cases qs with
      | nil => rfl
      | cons q qs => simp at hi
    | cons p ps ih => cases qs with
      | nil => simp at hi
      | cons q qs =>
        simp only [List.map_cons, List.cons.injEq] at hi h1 ⊢
        exact ⟨Prod.ext hi.1 h1.1, ih hi.2 h1.2⟩
  refine op_value (v := .slice (some ⟨w.heap.size, 0, none⟩) len len) (w' := { w with heap := w.heap.push (.cells ⟨l⟩ e (0, 0)) }) nofun ?_ (k _ _ _ (hs.step hd hf (Kp.push _ _ _) (new_push w _)))
  simp only [execOp, List.map_toArray, Sem.run_bind]
  rw [show (ps.map fun x => match x with | (i, x) => (i, a.eval x)) = qs from he, hrun]
  rfl
theorem st_len {t e : TypeId} {x : Operand} {A : Option Addr} {n cap : Nat} (hs : Sx N D T B M w0 a w) (hx : Ev T x (.slice A n cap)) (hd : Nat.blt d N = true) (hf : fresh d T = true)
    (hu : ∀ w, (underlying t).run P w = .ok (.slice e) w)
    (k : ∀ a' w', Sx N D ((d, .int .i64 (n : Int)) :: T) B M w0 a' w' → K a' w') : (Oper.mk (some d) (.call { callee := .builtin .len, args := ⟨[x]⟩, argTypes := ⟨[t]⟩ }) ty pos aft g).wpIn (Fx r) 0 P a w K Q :=
  st_run hs nofun (by simp [execOp, resolve, hs.ev hx, invoke, builtin, Builtin.len_, hu, goInt]) hd hf k
theorem st_min {t1 t2 : TypeId} {x y : Operand} {m n : Int} (hs : Sx N D T B M w0 a w) (hx : Ev T x (.int .i64 m)) (hy : Ev T y (.int .i64 n)) (hd : Nat.blt d N = true) (hf : fresh d T = true)
    (k : ∀ a' w', Sx N D ((d, .int .i64 (min m n)) :: T) B M w0 a' w' → K a' w') : (Oper.mk (some d) (.call { callee := .builtin .min, args := ⟨[x, y]⟩, argTypes := ⟨[t1, t2]⟩ }) ty pos aft g).wpIn (Fx r) 0 P a w K Q :=
  st_run hs nofun (by
    have : (if n < m then n else m) = min m n := by split <;> omega
    simp [execOp, resolve, hs.ev hx, hs.ev hy, invoke, builtin, Builtin.min_, Builtin.min2, this]) hd hf k
theorem st_max {t1 t2 : TypeId} {x y : Operand} {m n : Int} (hs : Sx N D T B M w0 a w) (hx : Ev T x (.int .i64 m)) (hy : Ev T y (.int .i64 n)) (hd : Nat.blt d N = true) (hf : fresh d T = true)
    (k : ∀ a' w', Sx N D ((d, .int .i64 (max m n)) :: T) B M w0 a' w' → K a' w') : (Oper.mk (some d) (.call { callee := .builtin .max, args := ⟨[x, y]⟩, argTypes := ⟨[t1, t2]⟩ }) ty pos aft g).wpIn (Fx r) 0 P a w K Q :=
  st_run hs nofun (by
    have : (if n > m then n else m) = max m n := by split <;> omega
    simp [execOp, resolve, hs.ev hx, hs.ev hy, invoke, builtin, Builtin.max_, Builtin.max2, this]) hd hf k
end

/-! ### Calls -/
/-- What a call hands back: a value and new blocks of which 'post' tells; all that was there stays. -/
def Ret (w : World) (post : Value → List (Nat × Option Obj) → Prop) (e : Ending) (w' : World) : Prop :=
  ∃ v bs, e = .returned v ∧ Kp [] w w' ∧ New w bs w' ∧ post v bs
/-- f, called so, hands back a value and blocks. -/
def CallsB (P : Program) (f : FuncId) (args : List Value) (w : World) (post : Value → List (Nat × Option Obj) → Prop) : Prop := Calls P f ⟨args⟩ w (Ret w post)
/-- f, called so, hands back this value. -/
def CallsV (P : Program) (f : FuncId) (args : List Value) (w : World) (v : Value) : Prop := CallsB P f args w (fun u bs => u = v ∧ bs = [])
section
variable {N : Nat} {D : List Deferred} {T : List (Nat × Value)} {B B' : List (Nat × Option Obj)} {M : List Nat} {w0 : World} {a : Act} {w : World}
variable {P : Program} {r : Option Nat} {Q : Exit → Act → World → Prop} {K : Act → World → Prop}
variable {d : Nat} {ty : TypeId} {pos : String} {aft : Array Edge} {g : Option (Nat × Bool)}

theorem op_call {R : Ending → World → Prop} {fo : Operand} {f : FuncId} {xs : List Operand} {vs args : List Value} {fi ca : List Value} {at_ : Array TypeId} {dst : Option Tmp} (hs : Sx N D T B M w0 a w)
    (hfo : Ev T fo (.func (.func f) ⟨fi⟩ ⟨ca⟩)) (hx : Evs T xs vs)
    (hcf : ∀ (args : Array Value) (w : World), (callFunc f args).run P w = .ok (.enter f args) w) (ha : fi ++ (vs ++ ca) = args)
    (hc : Calls P f ⟨args⟩ w R) (k : ∀ e w', R e w' → ∃ v, e = .returned v ∧ K (a.put dst v) w') :
    (Oper.mk dst (.call { callee := .value fo, args := ⟨xs⟩, argTypes := at_ }) ty pos aft g).wpIn (Fx r) 0 P a w K Q := by
  refine ⟨fun _ _ => trivial, ?_⟩
  rw [Oper.semAt_eq _ _ _ (by intro c h; cases h)]
  have hrun : (execOp a.eval (Oper.mk dst (.call { callee := .value fo, args := ⟨xs⟩, argTypes := at_ }) ty pos aft g)).run P w = .ok (.enter f ⟨args⟩) w := by
    have h1 : Array.map a.eval ⟨xs⟩ = ⟨vs⟩ := by rw [← hs.evs hx]; simp
    subst ha
    simp [execOp, resolve, hs.ev hfo, Deferred.ofValue, invoke, h1, hcf]
  rw [hrun]
  refine ⟨fun h => by simp [Fx, Fence.wide] at h, CallsIn.mono (calls_in r _ hc) (fun e w' he => ?_)⟩
  obtain ⟨v, rfl, hK⟩ := k e w' he
  exact hK
theorem st_call {post : Value → List (Nat × Option Obj) → Prop} {fo : Operand} {f : FuncId} {xs : List Operand} {vs args : List Value} {fi ca : List Value} {at_ : Array TypeId} (hs : Sx N D T B M w0 a w)
    (hfo : Ev T fo (.func (.func f) ⟨fi⟩ ⟨ca⟩)) (hx : Evs T xs vs) (hd : Nat.blt d N = true) (hf : fresh d T = true)
    (hcf : ∀ (args : Array Value) (w : World), (callFunc f args).run P w = .ok (.enter f args) w) (ha : fi ++ (vs ++ ca) = args)
    (hc : CallsB P f args w post) (k : ∀ v bs a' w', post v bs → Sx N D ((d, v) :: T) (bs ++ B) M w0 a' w' → K a' w') :
    (Oper.mk (some d) (.call { callee := .value fo, args := ⟨xs⟩, argTypes := at_ }) ty pos aft g).wpIn (Fx r) 0 P a w K Q :=
  op_call hs hfo hx hcf ha hc (fun _ _ ⟨v, _, he, hk, hn, hp⟩ => ⟨v, he, k v _ _ _ hp (hs.step hd hf hk hn)⟩)
theorem st_callv {v : Value} {fo : Operand} {f : FuncId} {xs : List Operand} {vs args : List Value} {fi ca : List Value} {at_ : Array TypeId} (hs : Sx N D T B M w0 a w)
    (hfo : Ev T fo (.func (.func f) ⟨fi⟩ ⟨ca⟩)) (hx : Evs T xs vs) (hd : Nat.blt d N = true) (hf : fresh d T = true)
    (hcf : ∀ (args : Array Value) (w : World), (callFunc f args).run P w = .ok (.enter f args) w) (ha : fi ++ (vs ++ ca) = args)
    (hc : CallsV P f args w v) (k : ∀ a' w', Sx N D ((d, v) :: T) B M w0 a' w' → K a' w') :
    (Oper.mk (some d) (.call { callee := .value fo, args := ⟨xs⟩, argTypes := at_ }) ty pos aft g).wpIn (Fx r) 0 P a w K Q :=
  st_call hs hfo hx hd hf hcf ha hc (fun _ _ _ _ ⟨e1, e2⟩ h => by subst e1; subst e2; exact k _ _ h)
end

/-! ### Guards -/
/-- A value that is there where g is so. -/
def Gv (g : Bool) (v : Value) : Value := bif g then v else undef
def ison (pol : Bool) : Value → Bool
  | .bool b => b == pol
  | _ => false
theorem ison_gv (pol g c : Bool) : ison pol (Gv g (.bool c)) = (g && (c == pol)) := by cases g <;> rfl
theorem Ev.un {T : List (Nat × Value)} {x : Operand} {g : Bool} {v : Value} (h : Ev T x (Gv g v)) (hg : g = true) : Ev T x v := by subst hg; exact h
section
variable {N : Nat} {D : List Deferred} {T : List (Nat × Value)} {B B' : List (Nat × Option Obj)} {M : List Nat} {w0 : World} {a : Act} {w : World}
variable {P : Program} {r : Option Nat} {Q : Exit → Act → World → Prop} {K : Act → World → Prop}
variable {ops : Array Oper} {rest : List Oper} {o : Oper}

theorem sq (hg : o.guard = none) (h : o.wpIn (Fx r) 0 P a w (wpListIn (Fx r) 0 P ops Q rest) Q) : wpListIn (Fx r) 0 P ops Q (o :: rest) a w := by
  simp only [wpListIn, Region.wanted, hg, if_true]; exact h
theorem wanted_ison {j t : Nat} {pol : Bool} {u : Value} (hs : Sx N D T B M w0 a w) (hg : o.guard = some (j, pol)) (hj : (ops[j]?).bind (·.dst) = some t) (ht : (t, u) ∈ T) : Region.wanted o (yielded ops a.tmps) = ison pol u := by
  simp only [Region.wanted, hg, yielded, hj, Option.bind_some, hs.tmp _ ht]
  cases u <;> simp [ison]
/-- A guarded operation whose guard is so: it runs. -/
theorem sq_on {j t : Nat} {pol : Bool} {u : Value} (hs : Sx N D T B M w0 a w) (hg : o.guard = some (j, pol)) (hj : (ops[j]?).bind (·.dst) = some t) (i : Nat) (ht : nth T i = some (t, u)) (hu : ison pol u = true)
    (h : o.wpIn (Fx r) 0 P a w (wpListIn (Fx r) 0 P ops Q rest) Q) : wpListIn (Fx r) 0 P ops Q (o :: rest) a w := by
  simp only [wpListIn, wanted_ison hs hg hj (mem_nth ht), hu, if_true]; exact h
/-- A guarded operation whose guard is not so: nothing is known of its place. -/
theorem sq_off {j t d : Nat} {pol : Bool} {u : Value} (hs : Sx N D T B M w0 a w) (hg : o.guard = some (j, pol)) (hj : (ops[j]?).bind (·.dst) = some t) (i : Nat) (ht : nth T i = some (t, u)) (hu : ison pol u = false)
    (ho : o.dst = some d) (hd : Nat.blt d N = true) (hf : fresh d T = true)
    (k : ∀ a' w', Sx N D ((d, undef) :: T) B M w0 a' w' → wpListIn (Fx r) 0 P ops Q rest a' w') : wpListIn (Fx r) 0 P ops Q (o :: rest) a w := by
  simp only [wpListIn, wanted_ison hs hg hj (mem_nth ht), hu, Bool.false_eq_true, if_false, ho]
  exact ⟨fun _ _ => trivial, k _ _ (hs.put hd hf)⟩
/-- A guarded operation whose guard is g: its value where g is so. -/
theorem sq_gv {j t d : Nat} {pol gg : Bool} {u v : Value} (hs : Sx N D T B M w0 a w) (hg : o.guard = some (j, pol)) (hj : (ops[j]?).bind (·.dst) = some t) (i : Nat) (ht : nth T i = some (t, u)) (hu : ison pol u = gg)
    (ho : o.dst = some d) (hd : Nat.blt d N = true) (hf : fresh d T = true)
    (h1 : gg = true → ∀ K : Act → World → Prop, (∀ a' w', Sx N D ((d, v) :: T) B M w0 a' w' → K a' w') → o.wpIn (Fx r) 0 P a w K Q)
    (k : ∀ a' w', Sx N D ((d, Gv gg v) :: T) B M w0 a' w' → wpListIn (Fx r) 0 P ops Q rest a' w') : wpListIn (Fx r) 0 P ops Q (o :: rest) a w := by
  cases gg with
  | true =>
    simp only [wpListIn, wanted_ison hs hg hj (mem_nth ht), hu, if_true]
    exact h1 rfl _ k
  | false => exact sq_off hs hg hj i ht hu ho hd hf k
end
section
variable {N : Nat} {D : List Deferred} {T : List (Nat × Value)} {B : List (Nat × Option Obj)} {M : List Nat} {w0 : World} {a : Act} {w : World}
variable {P : Program} {r : Option Nat} {Q : Exit → Act → World → Prop} {K : Act → World → Prop}
variable {d : Nat} {ty : TypeId} {pos : String} {aft : Array Edge} {g : Option (Nat × Bool)}
/-- 'x && y'. -/
theorem st_and {x y : Operand} {c q gx gy : Bool} (hs : Sx N D T B M w0 a w) (hx : Ev T x (Gv gx (.bool c))) (hgx : gx = true) (hy : Ev T y (Gv gy (.bool q))) (hgy : c = true → gy = true) (hd : Nat.blt d N = true) (hf : fresh d T = true)
    (k : ∀ a' w', Sx N D ((d, .bool (c && q)) :: T) B M w0 a' w' → K a' w') : (Oper.mk (some d) (.pick x y (.const (.bool false))) ty pos aft g).wpIn (Fx r) 0 P a w K Q := by
  refine st_pick hs (hx.un hgx) hd hf (fun h => ?_) (fun h => ?_) k
  · rw [h, Bool.true_and]; exact hy.un (hgy h)
  · rw [h, Bool.false_and]; exact .const _
/-- 'x || y'. -/
theorem st_or {x y : Operand} {c q gx gy : Bool} (hs : Sx N D T B M w0 a w) (hx : Ev T x (Gv gx (.bool c))) (hgx : gx = true) (hy : Ev T y (Gv gy (.bool q))) (hgy : c = false → gy = true) (hd : Nat.blt d N = true) (hf : fresh d T = true)
    (k : ∀ a' w', Sx N D ((d, .bool (c || q)) :: T) B M w0 a' w' → K a' w') : (Oper.mk (some d) (.pick x (.const (.bool true)) y) ty pos aft g).wpIn (Fx r) 0 P a w K Q := by
  refine st_pick hs (hx.un hgx) hd hf (fun h => ?_) (fun h => ?_) k
  · rw [h, Bool.true_or]; exact .const _
  · rw [h, Bool.false_or]; exact hy.un (hgy h)
end

/-! ### Code -/
section
variable {N : Nat} {D : List Deferred} {T : List (Nat × Value)} {B : List (Nat × Option Obj)} {M : List Nat} {w0 : World} {a : Act} {w : World}
variable {P : Program} {r : Option Nat} {Q : Exit → Act → World → Prop}
/-- A region in its order, and what stands behind it. -/
theorem cd_region {id : Nat} {l : List Oper} {y : Code} (h : ∀ K : Act → World → Prop, (∀ a w, y.wpIn (Fx r) 0 P Q a w → K a w) → wpListIn (Fx r) 0 P l.toArray (Exit.then K Q) l a w) :
    (Code.seq (Code.region id l.toArray false) y).wpIn (Fx r) 0 P Q a w := wpIn_seq_k fun K hK => wpIn_region_lit (h K hK)
theorem cd_seq {x y : Code} (h : ∀ K : Act → World → Prop, (∀ a w, y.wpIn (Fx r) 0 P Q a w → K a w) → x.wpIn (Fx r) 0 P (Exit.then K Q) a w) : (Code.seq x y).wpIn (Fx r) 0 P Q a w := wpIn_seq_k h
theorem cd_cond {x : Operand} {c1 c2 : Code} {c : Bool} (hs : Sx N D T B M w0 a w) (hx : Ev T x (.bool c)) (h1 : c = true → c1.wpIn (Fx r) 0 P Q a w) (h2 : c = false → c2.wpIn (Fx r) 0 P Q a w) :
    (Code.cond x c1 c2).wpIn (Fx r) 0 P Q a w := wpIn_cond_split (hs.ev hx) h1 h2
theorem in_hit {id : Nat} (h : Q .normal a w) : Exit.inBlock id Q (.exit id) a w := by simpa [Exit.inBlock] using h
theorem in_miss {id id' : Nat} (hn : Nat.beq id' id = false) (h : Q (.exit id') a w) : Exit.inBlock id Q (.exit id') a w := by
  have : id' ≠ id := by intro e; subst e; simp at hn
  simpa [Exit.inBlock, this] using h
/-- A loop, by a relation over ghosts, one of whose numbers goes down in every round. -/
theorem cd_loop {X : Type} {c : Code} (Inv : X → Act → World → Prop) (μ : X → Nat) (x0 : X) (h0 : Inv x0 a w)
    (round : ∀ x a w, Inv x a w → c.wpIn (Fx r) 0 P (Exit.then (fun a' w' => ∃ x', Inv x' a' w' ∧ μ x' < μ x) Q) a w) : (Code.loop c).wpIn (Fx r) 0 P Q a w := by
  intro b k cs hro hb hr
  have key : ∀ j x a w, μ x = j → Inv x a w →
      ∃ e a' w', Q e a' w' ∧ ArrivesIn (Machine.fenced P (Fx r)) P (lone (b.atR a (.code c :: .inLoop c :: k)) cs w) b k cs e a' w' := by
    intro j
    induction j using Nat.strongRecOn with
    | _ j ih =>
      intro x a w hn hI
      obtain ⟨e, a₁, w₁, hq, harr⟩ := round x a w hI b (.inLoop c :: k) cs hro hb hr
      cases e with
      | normal =>
        obtain ⟨x', hI₁, hlt⟩ := hq
        obtain ⟨e₂, a₂, w₂, hq₂, harr₂⟩ := ih (μ x') (hn ▸ hlt) x' a₁ w₁ rfl hI₁
        exact ⟨e₂, a₂, w₂, hq₂, .of_steps (StepsIn.trans harr (.one (fenced_calm hb hr rfl) stepR_inLoop)) harr₂⟩
      | exit id => exact ⟨_, a₁, w₁, hq, .pass (x := .inLoop c) rfl (fun _ _ => .inl (by simp)) harr⟩
      | goto l => exact ⟨_, a₁, w₁, hq, .pass (x := .inLoop c) rfl (fun _ _ => .inl (by simp)) harr⟩
      | ret => exact ⟨_, a₁, w₁, hq, .pass (x := .inLoop c) rfl (fun _ _ => .inl (by simp)) harr⟩
      | panic ch => exact ⟨_, a₁, w₁, hq, .pass (x := .inLoop c) rfl (fun _ _ => .inl (by simp)) harr⟩
      | outgrown => exact ⟨_, a₁, w₁, hq, .pass (x := .inLoop c) rfl (fun _ _ => .inl (by simp)) harr⟩
  obtain ⟨e, a', w', hq, harr⟩ := key _ x0 a w rfl h0
  exact ⟨e, a', w', hq, .of_steps (.one (fenced_calm hb hr rfl) stepR_loop) harr⟩
/-- A loop of a known number of rounds, laid open round by round. -/
theorem cd_rounds {c : Code} (m : Nat) (h : Code.roundsIn (Fx r) 0 P c Q m a w) : (Code.loop c).wpIn (Fx r) 0 P Q a w := wpIn_loop_rounds m h
theorem cd_round {c : Code} {m : Nat} (h : ∀ K : Act → World → Prop, (∀ a w, Code.roundsIn (Fx r) 0 P c Q m a w → K a w) → c.wpIn (Fx r) 0 P (Exit.then K Q) a w) : Code.roundsIn (Fx r) 0 P c Q (m + 1) a w := h _ (fun _ _ h => h)
end

/-! ### The call's begin and end -/
section
variable {N : Nat} {D : List Deferred} {T : List (Nat × Value)} {B : List (Nat × Option Obj)} {M : List Nat} {w0 : World} {a : Act} {w : World}
variable {P : Program}
/-- The arguments stand in the first temporaries. -/
def argsT : Nat → List Value → List (Nat × Value)
  | _, [] => []
  | n, v :: vs => (n, v) :: argsT (n + 1) vs
theorem argsT_mem : ∀ {vs : List Value} {n : Nat} {p : Nat × Value}, p ∈ argsT n vs → ∃ j, p.1 = n + j ∧ vs[j]? = some p.2 := by
  intro vs
  induction vs with
  | nil => intro n p hp; cases hp
  | cons v vs ih =>
    intro n p hp
    rcases List.mem_cons.1 hp with rfl | hp
    · exact ⟨0, rfl, rfl⟩
    · obtain ⟨j, h1, h2⟩ := ih hp
      exact ⟨j + 1, by omega, by simpa using h2⟩
/-- f's contract, out of its body's walk. -/
theorem enter {N : Nat} {f : FuncId} {fn : Func} {c : Code} {vs : List Value} {R : Ending → World → Prop} {M : List Nat} (w0 : World) (hf : P.funcs[f]? = some fn) (hb : fn.body = some c) (hN : fn.ntmps = N) (hv : Nat.ble vs.length N = true)
    (h : ∀ (Q : Exit → Act → World → Prop) (a : Act), (∀ a w, bodyPost P fn R .ret a w → Q .ret a w) → (∀ a w, bodyPost P fn R .normal a w → Q .normal a w) →
      Sx N [] (argsT 0 vs) [] M w0 a w0 → c.wpIn (Fx none) 0 P Q a w0) : Calls P f ⟨vs⟩ w0 R := by
  have hN' : vs.length ≤ fn.ntmps := by rw [hN]; exact Nat.le_of_ble_eq_true hv
  refine (callsIn_wide (n := 0)).1 (callsIn_of_wp hf hb trivial (h (bodyPost P fn R) _ (fun _ _ h => h) (fun _ _ h => h) ?_))
  refine ⟨by simp; omega, rfl, fun p hp => ?_, fun p hp => (by cases hp), List.Pairwise.nil, Kp.refl _ _⟩
  obtain ⟨j, h1, h2⟩ := argsT_mem hp
  have hj : j < vs.length := (List.getElem?_eq_some_iff.1 h2).1
  rw [h1, Nat.zero_add, Array.getElem?_append_left (by simpa using hj)]
  simpa using h2
/-- What a result variable holds. -/
inductive ResV (P : Program) (T : List (Nat × Value)) (w : World) : ResultVar → Value → Prop
  | tmp {t : Nat} {v : Value} (i : Nat) (h : nth T i = some (t, v)) : ResV P T w (.tmp t) v
  | cell {t b o : Nat} {ty : TypeId} {v : Value} (i : Nat) (h : nth T i = some (t, .pointer (some ⟨b, o, none⟩))) (hl : (loadVar ty ⟨b, o, none⟩).run P w = .ok v w) : ResV P T w (.cell t ty) v
def ResVs (P : Program) (T : List (Nat × Value)) (w : World) : List ResultVar → List Value → Prop
  | [], [] => True
  | x :: xs, v :: vs => ResV P T w x v ∧ ResVs P T w xs vs
  | _, _ => False
def resF (tmps : Array Value) : ResultVar → Sem Value
  | .tmp t => pure (tmps.getD t undef)
  | .cell b t => do loadVar t (← asAddr (tmps.getD b undef))
theorem results_eq (fn : Func) (tmps : Array Value) : results fn tmps = (do let vs ← fn.results.mapM (resF tmps); pure (if h : vs.size = 1 then vs[0] else .tuple vs)) := by
  unfold results
  congr 2
theorem run_resVs (hs : Sx N D T B M w0 a w) : ∀ {xs : List ResultVar} {vs : List Value}, ResVs P T w xs vs → (xs.mapM (resF a.tmps)).run P w = .ok vs w := by
  intro xs
  induction xs with
  | nil => intro vs h; cases vs with
    | nil => rfl
    | cons v vs => exact h.elim
  | cons x xs ih => intro vs h; cases vs with
    | nil => exact h.elim
    | cons v vs =>
      have h2 := ih h.2
      have h1 : (resF a.tmps x).run P w = .ok v w := by
        have h1 := h.1
        cases h1 with
        | tmp i hi =>
          have h3 := hs.tmp _ (mem_nth hi)
          simp only [resF, Array.getD_eq_getD_getElem?, h3, Option.getD_some, Sem.run_pure]
        | cell i hi hl =>
          have h3 := hs.tmp _ (mem_nth hi)
          simp only [resF, Array.getD_eq_getD_getElem?, h3, Option.getD_some, asAddr, Sem.run_bind, Sem.run_pure, Result.andThen_ok, hl]
      simp only [List.mapM_cons, Sem.run_bind, h1, h2, Result.andThen_ok, Sem.run_pure]
/-- The one value, or all of them. -/
def pack : List Value → Value
  | [v] => v
  | vs => .tuple ⟨vs⟩
theorem run_results {fn : Func} {xs : List ResultVar} {vs : List Value} (hs : Sx N D T B M w0 a w) (hr : fn.results = ⟨xs⟩) (h : ResVs P T w xs vs) : (results fn a.tmps).run P w = .ok (pack vs) w := by
  have h1 := run_resVs hs h
  rw [results_eq, hr, Sem.run_bind]
  have h2 : (Array.mapM (resF a.tmps) (⟨xs⟩ : Array ResultVar)).run P w = .ok ⟨vs⟩ w := by
    have e : Array.mapM (resF a.tmps) (⟨xs⟩ : Array ResultVar) = (fun l => (⟨l⟩ : Array Value)) <$> xs.mapM (resF a.tmps) := by simp
    rw [e, Sem.run_map, h1]
    rfl
  rw [h2]
  simp only [Result.andThen_ok, Sem.run_pure]
  congr 1
  cases vs with
  | nil => rfl
  | cons v vs => cases vs with
    | nil => rfl
    | cons u vs => simp [pack]
/-- The call returns. -/
theorem cd_ret {r : Option Nat} {fn : Func} {xs : List ResultVar} {vs : List Value} {bs : List (Nat × Option Obj)} {post : Value → List (Nat × Option Obj) → Prop} {Q : Exit → Act → World → Prop}
    (hs : Sx N [] T B [] w0 a w) (hQ : ∀ a w, bodyPost P fn (Ret w0 post) .ret a w → Q .ret a w) (hr : fn.results = ⟨xs⟩) (h : ResVs P T w xs vs) (hb : bs.Sublist B) (hp : post (pack vs) bs) :
    Code.ret.wpIn (Fx r) 0 P Q a w := by
  refine wpIn_ret (hQ a w ⟨hs.defers, pack vs, run_results hs hr h, pack vs, bs, rfl, hs.kp, ⟨fun p hp o ho => ?_, hs.apart.sublist hb⟩, hp⟩)
  obtain ⟨h1, h2⟩ := hs.blk p (hb.subset hp) o ho
  exact ⟨h1.resolve_left (by simp), h2⟩
theorem cd_retv {r : Option Nat} {fn : Func} {xs : List ResultVar} {vs : List Value} {v : Value} {Q : Exit → Act → World → Prop}
    (hs : Sx N [] T B [] w0 a w) (hQ : ∀ a w, bodyPost P fn (Ret w0 (fun u bs => u = v ∧ bs = [])) .ret a w → Q .ret a w) (hr : fn.results = ⟨xs⟩) (h : ResVs P T w xs vs) (hp : pack vs = v) :
    Code.ret.wpIn (Fx r) 0 P Q a w := cd_ret hs hQ hr h (List.nil_sublist _) ⟨hp, rfl⟩
theorem resA {ty : TypeId} {t b o off n : Nat} {l vs : List Value} (i : Nat) (h : nth T i = some (t, .pointer (some ⟨b, o + off, none⟩))) (hag : ∀ w, (isAgg ty).run P w = .ok true w) (hsz : ∀ w, (sizeOf ty).run P w = .ok n w)
    (hc : CellsAt w b o l) (hl : sub l off n = some vs) : ResV P T w (.cell t ty) (.agg ⟨vs⟩) := by
  obtain ⟨h1, h2⟩ := hc.sub hl
  exact .cell i h (run_loadVar_agg hag hsz h2 h1)
theorem res1 {ty : TypeId} {t b o off : Nat} {l : List Value} {v : Value} (i : Nat) (h : nth T i = some (t, .pointer (some ⟨b, o + off, none⟩))) (hag : ∀ w, (isAgg ty).run P w = .ok false w)
    (hc : CellsAt w b o l) (hl : nth l off = some v) : ResV P T w (.cell t ty) v := .cell i h (run_loadVar_one hag (hc off v hl))
end

/-! ### Regions that draw their order: a head, in whatever order, and a tail in its order -/
/-- What an operation of the head gives: its place, those before it that it looks at, and what is so of its value and of its new blocks. -/
structure Op1 where
  d : Nat
  nd : List Nat
  φ : Value → List (Nat × Option Obj) → Prop
/-- The value is told, and no block is new. -/
def Is (v : Value) : Value → List (Nat × Option Obj) → Prop := fun u bs => u = v ∧ bs = []
section
variable {N : Nat} {D : List Deferred} {M : List Nat} {w0 : World} {P : Program} {r : Option Nat} {Q : Exit → Act → World → Prop}

def Deps (Φ : List Op1) (T : List (Nat × Value)) (B : List (Nat × Option Obj)) : List Nat → Prop → Prop
  | [], C => C
  | j :: nd, C => match nth Φ j with
    | some e => ∀ v bs, e.φ v bs → (e.d, v) ∈ T → (∀ p ∈ bs, p ∈ B) → Deps Φ T B nd C
    | none => False
def Ob (N : Nat) (D : List Deferred) (M : List Nat) (w0 : World) (P : Program) (r : Option Nat) (Q : Exit → Act → World → Prop) (ops : Array Oper) (Φ : List Op1) (T0 : List (Nat × Value)) (B0 : List (Nat × Option Obj)) (k : Nat) (e : Op1) : Prop :=
  ∀ (T : List (Nat × Value)) (B : List (Nat × Option Obj)) (a : Act) (w : World) (K : Act → World → Prop), (∀ p ∈ T0, p ∈ T) → (∀ p ∈ B0, p ∈ B) →
    Deps Φ T B e.nd (fresh e.d T = true → Sx N D T B M w0 a w → (∀ v bs a' w', e.φ v bs → Sx N D ((e.d, v) :: T) (bs ++ B) M w0 a' w' → K a' w') → wpOpIn (Fx r) 0 P ops Q k K a w)
def Obs (N : Nat) (D : List Deferred) (M : List Nat) (w0 : World) (P : Program) (r : Option Nat) (Q : Exit → Act → World → Prop) (ops : Array Oper) (Φ : List Op1) (T0 : List (Nat × Value)) (B0 : List (Nat × Option Obj)) : Nat → List Op1 → Prop
  | _, [] => True
  | k, e :: l => Ob N D M w0 P r Q ops Φ T0 B0 k e ∧ Obs N D M w0 P r Q ops Φ T0 B0 (k + 1) l
def Each : List Op1 → (List (Nat × Value) → List (Nat × Option Obj) → Prop) → Prop
  | [], C => C [] []
  | e :: l, C => ∀ v bs, e.φ v bs → Each l (fun T B => C ((e.d, v) :: T) (bs ++ B))
/-- The one edge. -/
def edge (ops : Array Oper) (i j : Nat) : Bool := ((ops[i]?).map (·.after.any fun e => Region.binds .any e && Nat.beq e.on j)).getD false
/-- What the kernel looks at: the head's operations stand at their places, look back along edges, all write to places of their own; each of the tail's stands behind all that are before it. -/
def headOk (ops : Array Oper) (N : Nat) (T0 : List (Nat × Value)) : Nat → List Op1 → Bool
  | _, [] => true
  | k, e :: l => Nat.blt e.d N && fresh e.d T0 && ((ops[k]?).map (fun o => o.dst == some e.d && o.after.all (fun x => !Region.binds .any x || Nat.blt x.on k))).getD false && e.nd.all (fun j => edge ops k j) && l.all (fun e' => !Nat.beq e.d e'.d) && headOk ops N T0 (k + 1) l
def upto (s n : Nat) : Array Bool := (Array.range n).map (fun i => Nat.blt i s)
/-- j stands before i, along edges. -/
def reach (ops : Array Oper) : Nat → Nat → Nat → Bool
  | 0, i, j => edge ops i j
  | f + 1, i, j => edge ops i j || (List.range i).any (fun k => edge ops i k && reach ops f k j)
def tailOk (ops : Array Oper) (m : Nat) : Bool :=
  Nat.ble m ops.size && (List.range' m (ops.size - m)).all (fun s => (List.range s).all (fun j => reach ops 4 s j) && (Region.ready .any ops (upto s ops.size) == [s]))

theorem upto_get (s n i : Nat) (hi : i < n) : (upto s n)[i]? = some (Nat.blt i s) := by simp [upto, hi]
theorem upto_size (s n : Nat) : (upto s n).size = n := by simp [upto]
theorem upto_set (s n : Nat) (hs : s < n) : (upto s n).setIfInBounds s true = upto (s + 1) n := by
  apply Array.ext_getElem?
  intro i
  by_cases hi : i < n
  · by_cases he : s = i
    · subst he
      rw [Array.getElem?_setIfInBounds_self_of_lt (by simpa [upto] using hs), upto_get _ _ _ hi]
      simp [Nat.blt]
    · rw [Array.getElem?_setIfInBounds_ne he, upto_get _ _ _ hi, upto_get _ _ _ hi]
      congr 1
      rw [Bool.eq_iff_iff]
      simp only [Nat.blt_eq]
      omega
  · rw [Array.getElem?_eq_none (by simp [upto]; omega), Array.getElem?_eq_none (by simp [upto]; omega)]
theorem tail_any {ops : Array Oper} {m : Nat} (ht : tailOk ops m = true) : ∀ (j s : Nat) (a : Act) (w : World), m ≤ s → s + j = ops.size → wpOpsIn (Fx r) 0 P ops Q (List.range' s j) a w → wpAnyIn (Fx r) 0 P .any ops Q j (upto s ops.size) a w := by
  intro j
  induction j with
  | zero =>
    intro s a w hm hs h
    refine ⟨?_, by simpa [wpOpsIn] using h⟩
    simp only [Region.ready, List.filter_eq_nil_iff, List.mem_range]
    intro i hi
    have : (upto s ops.size).getD i true = true := by rw [Array.getD_eq_getD_getElem?, upto_get _ _ _ hi]; simp; omega
    simp [this]
  | succ j ih =>
    intro s a w hm hs h
    have hr : Region.ready .any ops (upto s ops.size) = [s] := by
      simp only [tailOk, Bool.and_eq_true, List.all_eq_true] at ht
      have := (ht.2 s (by simp [List.mem_range']; exact ⟨s - m, by omega, by omega⟩)).2
      simpa using this
    refine ⟨fun e => (by rw [hr] at e; cases e), fun i hi => ?_⟩
    rw [hr, List.mem_singleton] at hi
    subst hi
    rw [List.range'_succ, wpOpsIn_cons] at h
    rw [upto_set i ops.size (by omega)]
    exact wpOpIn_mono (fun a w h => ih (i + 1) a w (by omega) (by omega) h) h

/-- Two operations that stand in either order. -/
def pairAt (ops : Array Oper) (s : Nat) : Bool := Region.ready .any ops (upto s ops.size) == [s, s + 1] && Region.ready .any ops ((upto s ops.size).setIfInBounds (s + 1) true) == [s]
def tailOkP (ops : Array Oper) (m : Nat) : Bool :=
  Nat.ble m ops.size && (List.range' m (ops.size - m)).all (fun s => (List.range m).all (fun j => reach ops 8 s j) && (Region.ready .any ops (upto s ops.size) == [s] || pairAt ops s))
/-- The tail runs, in each of its orders. -/
def tailWp (P : Program) (r : Option Nat) (Q : Exit → Act → World → Prop) (ops : Array Oper) : Nat → Nat → Act → World → Prop
  | 0, _, a, w => Q .normal a w
  | 1, s, a, w => wpOpIn (Fx r) 0 P ops Q s (fun a w => Q .normal a w) a w
  | j + 2, s, a, w => wpOpIn (Fx r) 0 P ops Q s (tailWp P r Q ops (j + 1) (s + 1)) a w ∧ (pairAt ops s = true → wpOpIn (Fx r) 0 P ops Q (s + 1) (fun a w => wpOpIn (Fx r) 0 P ops Q s (tailWp P r Q ops j (s + 2)) a w) a w)
theorem upto_set2 (s n : Nat) (hs : s + 1 < n) : ((upto s n).setIfInBounds (s + 1) true).setIfInBounds s true = upto (s + 2) n := by
  rw [← upto_set (s + 1) n hs, ← upto_set s n (by omega)]
  apply Array.ext_getElem?
  intro i
  simp only [Array.getElem?_setIfInBounds, Array.size_setIfInBounds]
  by_cases h1 : s = i <;> by_cases h2 : s + 1 = i <;> simp [h1, h2]
theorem tail_anyP {ops : Array Oper} {m : Nat} (ht : tailOkP ops m = true) : ∀ (n j s : Nat) (a : Act) (w : World), j ≤ n → m ≤ s → s + j = ops.size → tailWp P r Q ops j s a w → wpAnyIn (Fx r) 0 P .any ops Q j (upto s ops.size) a w := by
  intro n
  induction n with
  | zero =>
    intro j s a w hj hm hs h
    obtain rfl : j = 0 := by omega
    refine ⟨?_, h⟩
    simp only [Region.ready, List.filter_eq_nil_iff, List.mem_range]
    intro i hi
    have : (upto s ops.size).getD i true = true := by rw [Array.getD_eq_getD_getElem?, upto_get _ _ _ hi]; simp; omega
    simp [this]
  | succ n ih =>
    intro j s a w hj hm hs h
    match j, h with
    | 0, h => exact ih 0 s a w (by omega) hm hs h
    | j + 1, h =>
      have hr : Region.ready .any ops (upto s ops.size) = [s] ∨ pairAt ops s = true := by
        simp only [tailOkP, Bool.and_eq_true, List.all_eq_true] at ht
        have := (ht.2 s (by simp [List.mem_range']; exact ⟨s - m, by omega, by omega⟩)).2
        simpa using this
      have h1 : wpOpIn (Fx r) 0 P ops Q s (tailWp P r Q ops j (s + 1)) a w := by
        match j, h with
        | 0, h => exact h
        | j + 1, h => exact h.1
      have hfst : wpOpIn (Fx r) 0 P ops Q s (wpAnyIn (Fx r) 0 P .any ops Q j ((upto s ops.size).setIfInBounds s true)) a w := by
        rw [upto_set s ops.size (by omega)]
        exact wpOpIn_mono (fun a w h => ih j (s + 1) a w (by omega) (by omega) (by omega) h) h1
      rcases hr with hr | hp
      · refine ⟨fun e => (by rw [hr] at e; cases e), fun i hi => ?_⟩
        rw [hr, List.mem_singleton] at hi
        subst hi
        exact hfst
      · have hp0 := hp
        simp only [pairAt, Bool.and_eq_true, beq_iff_eq] at hp
        obtain ⟨hr, hr2⟩ := hp
        have hlt : s + 1 < ops.size := by
          have : s + 1 ∈ Region.ready .any ops (upto s ops.size) := by rw [hr]; simp
          simp only [Region.ready, List.mem_filter, List.mem_range] at this
          exact this.1
        obtain ⟨j, rfl⟩ : ∃ j', j = j' + 1 := ⟨j - 1, by omega⟩
        refine ⟨fun e => (by rw [hr] at e; cases e), fun i hi => ?_⟩
        rw [hr, List.mem_cons, List.mem_singleton] at hi
        rcases hi with rfl | rfl
        · exact hfst
        · refine wpOpIn_mono (fun a w h => ?_) (h.2 hp0)
          refine ⟨fun e => (by rw [hr2] at e; cases e), fun i hi => ?_⟩
          rw [hr2, List.mem_singleton] at hi
          subst hi
          rw [upto_set2 i ops.size hlt]
          exact wpOpIn_mono (fun a w h => ih j (i + 2) a w (by omega) (by omega) (by omega) h) h
theorem reach_up {ops : Array Oper} : ∀ (f i j : Nat), reach ops f i j = true → reach ops (f + 1) i j = true := by
  intro f
  induction f with
  | zero => intro i j h; simp only [reach, Bool.or_eq_true] at h ⊢; exact .inl h
  | succ f ih =>
    intro i j h
    rw [reach, Bool.or_eq_true] at h ⊢
    rcases h with h | h
    · exact .inl h
    · refine .inr ?_
      rw [List.any_eq_true] at h ⊢
      obtain ⟨k, hk, h⟩ := h
      rw [Bool.and_eq_true] at h
      exact ⟨k, hk, by rw [Bool.and_eq_true]; exact ⟨h.1, ih k j h.2⟩⟩
theorem tailOk.gen {ops : Array Oper} {m : Nat} (ht : tailOk ops m = true) : tailOkP ops m = true := by
  simp only [tailOk, tailOkP, Bool.and_eq_true, List.all_eq_true, List.mem_range', Bool.or_eq_true] at ht ⊢
  refine ⟨ht.1, fun s hs => ⟨fun j hj => ?_, .inl (ht.2 s hs).2⟩⟩
  obtain ⟨i, hi, rfl⟩ := hs
  exact reach_up _ _ _ (reach_up _ _ _ (reach_up _ _ _ (reach_up _ _ _ ((ht.2 _ ⟨i, hi, rfl⟩).1 j (by simp only [List.mem_range] at hj ⊢; omega)))))
theorem tailWp_of {ops : Array Oper} {m : Nat} (ht : tailOk ops m = true) : ∀ (j s : Nat) (a : Act) (w : World), m ≤ s → s + j = ops.size → wpOpsIn (Fx r) 0 P ops Q (List.range' s j) a w → tailWp P r Q ops j s a w := by
  intro j
  induction j with
  | zero => intro s a w _ _ h; simp only [List.range'_zero, wpOpsIn] at h; exact h
  | succ j ih =>
    intro s a w hm hs h
    have hr : Region.ready .any ops (upto s ops.size) = [s] := by
      simp only [tailOk, Bool.and_eq_true, List.all_eq_true] at ht
      have := (ht.2 s (by simp [List.mem_range']; exact ⟨s - m, by omega, by omega⟩)).2
      simpa using this
    rw [List.range'_succ, wpOpsIn_cons] at h
    have h1 := wpOpIn_mono (fun a w h => ih (s + 1) a w (by omega) (by omega) h) h
    match j, h1 with
    | 0, h1 => exact h1
    | j + 1, h1 => exact ⟨h1, fun hp => by simp [pairAt, hr] at hp⟩
theorem tw_nil {ops : Array Oper} {s : Nat} {a : Act} {w : World} (h : Q .normal a w) : tailWp P r Q ops 0 s a w := h
theorem tw_step {ops : Array Oper} {j s : Nat} {a : Act} {w : World} (hp : pairAt ops s = false) (h : wpOpIn (Fx r) 0 P ops Q s (tailWp P r Q ops j (s + 1)) a w) : tailWp P r Q ops (j + 1) s a w := by
  match j, h with
  | 0, h => exact h
  | j + 1, h => exact ⟨h, fun e => by rw [hp] at e; cases e⟩
theorem tw_pair {ops : Array Oper} {j s : Nat} {a : Act} {w : World} (J : Act → World → Prop) (hp : pairAt ops (s + 1) = false) (h1 : wpOpIn (Fx r) 0 P ops Q s (wpOpIn (Fx r) 0 P ops Q (s + 1) J) a w)
    (h2 : wpOpIn (Fx r) 0 P ops Q (s + 1) (wpOpIn (Fx r) 0 P ops Q s J) a w) (h3 : ∀ a w, J a w → tailWp P r Q ops j (s + 2) a w) : tailWp P r Q ops (j + 2) s a w :=
  ⟨wpOpIn_mono (fun _ _ h => tw_step hp (wpOpIn_mono h3 h)) h1, fun _ => wpOpIn_mono (fun _ _ h => wpOpIn_mono h3 h) h2⟩

theorem tw_pair2 {ops : Array Oper} {j s : Nat} {a : Act} {w : World} (J : Act → World → Prop) (hp : pairAt ops (s + 2) = false)
    (h1 : wpOpIn (Fx r) 0 P ops Q s (fun a w => wpOpIn (Fx r) 0 P ops Q (s + 1) (wpOpIn (Fx r) 0 P ops Q (s + 2) J) a w ∧ wpOpIn (Fx r) 0 P ops Q (s + 2) (wpOpIn (Fx r) 0 P ops Q (s + 1) J) a w) a w)
    (h2 : wpOpIn (Fx r) 0 P ops Q (s + 1) (wpOpIn (Fx r) 0 P ops Q s (wpOpIn (Fx r) 0 P ops Q (s + 2) J)) a w) (h3 : ∀ a w, J a w → tailWp P r Q ops j (s + 3) a w) : tailWp P r Q ops (j + 3) s a w :=
  ⟨wpOpIn_mono (fun _ _ h => ⟨wpOpIn_mono (fun _ _ h => tw_step hp (wpOpIn_mono h3 h)) h.1, fun _ => wpOpIn_mono (fun _ _ h => wpOpIn_mono h3 h) h.2⟩) h1,
    fun _ => wpOpIn_mono (fun _ _ h => wpOpIn_mono (fun _ _ h => tw_step hp (wpOpIn_mono h3 h)) h) h2⟩

def outT (ρ : Nat → Value × List (Nat × Option Obj)) : Nat → List Op1 → List (Nat × Value)
  | _, [] => []
  | k, e :: l => (e.d, (ρ k).1) :: outT ρ (k + 1) l
def outB (ρ : Nat → Value × List (Nat × Option Obj)) : Nat → List Op1 → List (Nat × Option Obj)
  | _, [] => []
  | k, _ :: l => (ρ k).2 ++ outB ρ (k + 1) l
theorem each_use (ρ : Nat → Value × List (Nat × Option Obj)) : ∀ {Φ : List Op1} {k : Nat} {C : List (Nat × Value) → List (Nat × Option Obj) → Prop}, Each Φ C →
    (∀ j e, nth Φ j = some e → e.φ (ρ (k + j)).1 (ρ (k + j)).2) → C (outT ρ k Φ) (outB ρ k Φ) := by
  intro Φ
  induction Φ with
  | nil => intro k C h _; exact h
  | cons e l ih =>
    intro k C h hφ
    refine ih (k := k + 1) (h _ _ (hφ 0 e rfl)) (fun j e' hj => ?_)
    have := hφ (j + 1) e' hj
    rw [show k + 1 + j = k + (j + 1) from by omega]; exact this
theorem outB_range (ρ : Nat → Value × List (Nat × Option Obj)) : ∀ (Φ : List Op1) (k : Nat), outB ρ k Φ = (List.range' k Φ.length).flatMap (fun j => (ρ j).2) := by
  intro Φ
  induction Φ with
  | nil => intro k; rfl
  | cons e l ih => intro k; simp only [outB, List.length_cons, List.range'_succ, List.flatMap_cons, ih]
theorem outT_mem (ρ : Nat → Value × List (Nat × Option Obj)) : ∀ {Φ : List Op1} {k : Nat} {p : Nat × Value}, p ∈ outT ρ k Φ → ∃ j e, nth Φ j = some e ∧ p = (e.d, (ρ (k + j)).1) := by
  intro Φ
  induction Φ with
  | nil => intro k p hp; cases hp
  | cons e l ih =>
    intro k p hp
    rcases List.mem_cons.1 hp with rfl | hp
    · exact ⟨0, e, rfl, rfl⟩
    · obtain ⟨j, e', h1, h2⟩ := ih hp
      exact ⟨j + 1, e', h1, by rw [h2, show k + 1 + j = k + (j + 1) from by omega]⟩
theorem nth_lt {α : Type} {l : List α} {x : α} {j : Nat} (h : nth l j = some x) : j < l.length := by
  rw [nth_get] at h; exact (List.getElem?_eq_some_iff.1 h).1
theorem nth_of_lt {α : Type} {l : List α} {j : Nat} (h : j < l.length) : ∃ x, nth l j = some x := ⟨l[j], by rw [nth_get]; simp [h]⟩
theorem obs_nth {ops : Array Oper} {Φ0 : List Op1} {T0 : List (Nat × Value)} {B0 : List (Nat × Option Obj)} : ∀ {Φ : List Op1} {k j : Nat} {e : Op1}, Obs N D M w0 P r Q ops Φ0 T0 B0 k Φ → nth Φ j = some e → Ob N D M w0 P r Q ops Φ0 T0 B0 (k + j) e := by
  intro Φ
  induction Φ with
  | nil => intro k j e _ h; cases h
  | cons x l ih =>
    intro k j e h hj
    cases j with
    | zero => simp only [nth, Option.some.injEq] at hj; subst hj; exact h.1
    | succ j => rw [show k + (j + 1) = k + 1 + j from by omega]; exact ih h.2 hj
structure HeadAt (ops : Array Oper) (N : Nat) (T0 : List (Nat × Value)) (k : Nat) (e : Op1) : Prop where
  lt : e.d < N
  fr : fresh e.d T0 = true
  op : ∃ o, ops[k]? = some o ∧ ∀ x ∈ o.after, Region.binds .any x = true → x.on < k
  nd : ∀ j ∈ e.nd, edge ops k j = true
theorem head_nth {ops : Array Oper} {T0 : List (Nat × Value)} : ∀ {Φ : List Op1} {k j : Nat} {e : Op1}, headOk ops N T0 k Φ = true → nth Φ j = some e → HeadAt ops N T0 (k + j) e := by
  intro Φ
  induction Φ with
  | nil => intro k j e _ h; cases h
  | cons x l ih =>
    intro k j e h hj
    simp only [headOk, Bool.and_eq_true] at h
    obtain ⟨⟨⟨⟨⟨h1, h2⟩, h3⟩, h4⟩, _⟩, h6⟩ := h
    cases j with
    | zero =>
      simp only [nth, Option.some.injEq] at hj
      subst hj
      refine ⟨by simpa using h1, h2, ?_, by simpa using h4⟩
      cases ho : ops[k]? with
      | none => rw [ho] at h3; cases h3
      | some o =>
        rw [ho] at h3
        simp only [Option.map_some, Option.getD_some, Bool.and_eq_true, Array.all_eq_true_iff_forall_mem] at h3
        refine ⟨o, rfl, fun y hy hb => ?_⟩
        have := h3.2 y hy
        rw [hb] at this
        simpa using this
    | succ j => rw [show k + (j + 1) = k + 1 + j from by omega]; exact ih h6 hj
theorem head_ne {ops : Array Oper} {T0 : List (Nat × Value)} : ∀ {Φ : List Op1} {k i j : Nat} {e e' : Op1}, headOk ops N T0 k Φ = true → nth Φ i = some e → nth Φ j = some e' → i < j → e.d ≠ e'.d := by
  intro Φ
  induction Φ with
  | nil => intro k i j e e' _ h; cases h
  | cons x l ih =>
    intro k i j e e' h hi hj hlt
    simp only [headOk, Bool.and_eq_true] at h
    obtain ⟨⟨_, h5⟩, h6⟩ := h
    cases j with
    | zero => omega
    | succ j => cases i with
      | zero =>
        simp only [nth, Option.some.injEq] at hi
        subst hi
        simp only [List.all_eq_true, Bool.not_eq_true'] at h5
        have := h5 e' (mem_nth hj)
        intro he
        rw [he] at this
        simp at this
      | succ i => exact ih h6 hi hj (by omega)
theorem deps_use {Φ : List Op1} {T : List (Nat × Value)} {B : List (Nat × Option Obj)} {C : Prop} : ∀ {nd : List Nat}, Deps Φ T B nd C →
    (∀ j ∈ nd, ∃ e v bs, nth Φ j = some e ∧ e.φ v bs ∧ (e.d, v) ∈ T ∧ ∀ p ∈ bs, p ∈ B) → C := by
  intro nd
  induction nd with
  | nil => intro h _; exact h
  | cons j nd ih =>
    intro h hj
    obtain ⟨e, v, bs, h1, h2, h3, h4⟩ := hj j (by simp)
    simp only [Deps, h1] at h
    exact ih (h v bs h2 h3 h4) (fun j hj' => hj j (by simp [hj']))
theorem fresh_of {d : Nat} : ∀ {T : List (Nat × Value)}, (∀ p ∈ T, p.1 ≠ d) → fresh d T = true := by
  intro T
  induction T with
  | nil => intro _; rfl
  | cons p T ih =>
    intro h
    simp only [fresh, Bool.and_eq_true, Bool.not_eq_true']
    refine ⟨?_, ih (fun q hq => h q (by simp [hq]))⟩
    have := h p (by simp)
    cases hb : Nat.beq p.1 d with
    | false => rfl
    | true => exact absurd (Nat.eq_of_beq_eq_true hb) this
theorem edge_spec {ops : Array Oper} {i j : Nat} (h : edge ops i j = true) {listed : Array Bool} (hi : i ∈ Region.ready .any ops listed) : listed.getD j false = true := by
  simp only [Region.ready, List.mem_filter, List.mem_range, Bool.and_eq_true] at hi
  obtain ⟨_, _, h2⟩ := hi
  simp only [edge] at h
  cases ho : ops[i]? with
  | none => rw [ho] at h; cases h
  | some o =>
    rw [ho] at h h2
    simp only [Option.map_some, Option.getD_some, Array.any_eq_true, Array.all_eq_true_iff_forall_mem, Bool.and_eq_true] at h h2
    obtain ⟨x, hx, hb, hon⟩ := h
    have := h2 o.after[x] (Array.getElem_mem hx)
    rw [hb] at this
    rw [← Nat.eq_of_beq_eq_true hon]
    simpa using this
theorem reach_spec {ops : Array Oper} {listed : Array Bool} (hcl : ∀ k j, listed.getD k true = true → k < ops.size → edge ops k j = true → listed.getD j false = true) : ∀ (f i j : Nat), (∀ k, edge ops i k = true → listed.getD k false = true) → reach ops f i j = true → listed.getD j false = true := by
  intro f
  induction f with
  | zero => intro i j h hr; exact h j hr
  | succ f ih =>
    intro i j h hr
    simp only [reach, Bool.or_eq_true, List.any_eq_true, Bool.and_eq_true] at hr
    rcases hr with hr | ⟨k, -, hk, hr⟩
    · exact h j hr
    · have hkl := h k hk
      have hks : k < listed.size := by
        rcases Nat.lt_or_ge k listed.size with h' | h'
        · exact h'
        · rw [Array.getD_eq_getD_getElem?, Array.getElem?_eq_none h'] at hkl; cases hkl
      refine ih k j (fun q hq => ?_) hr
      rcases Nat.lt_or_ge k ops.size with h' | h'
      · refine hcl k q ?_ h' hq
        rw [Array.getD_eq_getD_getElem?, Array.getElem?_eq_getElem hks, Option.getD_some] at hkl ⊢
        exact hkl
      · simp only [edge] at hq
        rw [Array.getElem?_eq_none h'] at hq; cases hq
theorem least {U : List Nat} (h : U ≠ []) : ∃ i ∈ U, ∀ j ∈ U, i ≤ j := by
  induction U with
  | nil => exact absurd rfl h
  | cons x U ih =>
    cases U with
    | nil => exact ⟨x, by simp, by simp⟩
    | cons y U =>
      obtain ⟨i, hi, hle⟩ := ih (by simp)
      rcases Nat.le_total x i with hx | hx
      · exact ⟨x, by simp, fun j hj => by rcases List.mem_cons.1 hj with rfl | hj; exact Nat.le_refl _; exact Nat.le_trans hx (hle j hj)⟩
      · exact ⟨i, by simp [hi], fun j hj => by rcases List.mem_cons.1 hj with rfl | hj; exact hx; exact hle j hj⟩

theorem closed_set {ops : Array Oper} {listed : Array Bool} {i : Nat} (hcl : ∀ k j, listed.getD k true = true → k < ops.size → edge ops k j = true → listed.getD j false = true) (hi : i ∈ Region.ready .any ops listed) :
    ∀ k j, (listed.setIfInBounds i true).getD k true = true → k < ops.size → edge ops k j = true → (listed.setIfInBounds i true).getD j false = true := by
  intro k j hk hks he
  have up : listed.getD j false = true → (listed.setIfInBounds i true).getD j false = true := fun h => by
    rw [Array.getD_eq_getD_getElem?] at h ⊢
    by_cases hij : i = j
    · subst hij
      have : i < listed.size := by
        rcases Nat.lt_or_ge i listed.size with h' | h'
        · exact h'
        · rw [Array.getElem?_eq_none h'] at h; cases h
      rw [Array.getElem?_setIfInBounds_self_of_lt this]; rfl
    · rw [Array.getElem?_setIfInBounds_ne hij]; exact h
  by_cases hki : i = k
  · subst hki; exact up (edge_spec he hi)
  · refine up (hcl k j ?_ hks he)
    rw [Array.getD_eq_getD_getElem?, Array.getElem?_setIfInBounds_ne hki, ← Array.getD_eq_getD_getElem?] at hk
    exact hk
theorem head_any {ops : Array Oper} {Φ : List Op1} {T0 : List (Nat × Value)} {B0 : List (Nat × Option Obj)} (hh : headOk ops N T0 0 Φ = true) (ht : tailOkP ops Φ.length = true)
    (ho : Obs N D M w0 P r Q ops Φ T0 B0 0 Φ)
    (k : Each Φ (fun T B => ∀ a' w', Sx N D (T ++ T0) (B ++ B0) M w0 a' w' → tailWp P r Q ops (ops.size - Φ.length) Φ.length a' w')) :
    ∀ (U : List Nat) (u : Nat) (L : List (Nat × Value × List (Nat × Option Obj))) (listed : Array Bool) (a : Act) (w : World), U.length = u →
      (L.map (·.1) ++ U).Perm (List.range' 0 Φ.length) → (∀ x ∈ L, ∃ e, nth Φ x.1 = some e ∧ e.φ x.2.1 x.2.2) →
      Sx N D (L.filterMap (fun x => (nth Φ x.1).map (fun e => (e.d, x.2.1))) ++ T0) (L.flatMap (·.2.2) ++ B0) M w0 a w →
      listed.size = ops.size → (∀ j, j < ops.size → (listed.getD j true = true ↔ j ∈ L.map (·.1))) → (∀ k j, listed.getD k true = true → k < ops.size → edge ops k j = true → listed.getD j false = true) →
      wpAnyIn (Fx r) 0 P .any ops Q (u + (ops.size - Φ.length)) listed a w := by
  have hmn : Φ.length ≤ ops.size := by
    simp only [tailOkP, Bool.and_eq_true] at ht
    exact Nat.le_of_ble_eq_true ht.1
  intro U u
  induction u generalizing U with
  | zero =>
    intro L listed a w hU hp hφ hs hsz hl hcl
    clear hcl
    have hU' : U = [] := List.eq_nil_of_length_eq_zero hU
    subst hU'
    rw [List.append_nil] at hp
    have hnd : (L.map (·.1)).Nodup := hp.nodup_iff.2 (List.nodup_range' ..)
    have hlisted : listed = upto Φ.length ops.size := by
      apply Array.ext_getElem?
      intro i
      by_cases hi : i < ops.size
      · rw [upto_get _ _ _ hi]
        have h1 := hl i hi
        have h2 : i ∈ L.map (·.1) ↔ i < Φ.length := by rw [hp.mem_iff]; simp [List.mem_range']
        have hi' : i < listed.size := by omega
        rw [Array.getD_eq_getD_getElem?, Array.getElem?_eq_getElem hi', Option.getD_some, h2] at h1
        rw [Array.getElem?_eq_getElem hi']
        congr 1
        rw [Bool.eq_iff_iff, h1]
        simp [Nat.blt_eq]
      · rw [Array.getElem?_eq_none (by omega), Array.getElem?_eq_none (by rw [upto_size]; omega)]
    rw [hlisted, Nat.zero_add]
    refine tail_anyP ht _ _ _ a w (Nat.le_refl _) (Nat.le_refl _) (by omega) ?_
    let ρ : Nat → Value × List (Nat × Option Obj) := fun j => ((L.find? (fun x => x.1 == j)).map (·.2)).getD (undef, [])
    have hρ : ∀ x ∈ L, ρ x.1 = x.2 := by
      intro x hx
      have : L.find? (fun y => y.1 == x.1) = some x := by
        clear hs hl hlisted hp hφ
        induction L with
        | nil => cases hx
        | cons y L ih =>
          simp only [List.map_cons, List.nodup_cons] at hnd
          rcases List.mem_cons.1 hx with rfl | hx
          · simp
          · have hne : y.1 ≠ x.1 := fun e => hnd.1 (by rw [e]; exact List.mem_map_of_mem hx)
            rw [List.find?_cons_of_neg (by simpa using hne)]
            exact ih hnd.2 hx
      simp only [ρ, this, Option.map_some, Option.getD_some]
    have hall : ∀ j e, nth Φ j = some e → ∃ x ∈ L, x.1 = j := by
      intro j e hj
      have hjl := nth_lt hj
      have : j ∈ L.map (·.1) := hp.mem_iff.2 (by simp [List.mem_range', hjl])
      obtain ⟨x, hx, rfl⟩ := List.mem_map.1 this
      exact ⟨x, hx, rfl⟩
    have hfin := each_use ρ (k := 0) k (fun j e hj => by
      obtain ⟨x, hx, rfl⟩ := hall j e hj
      obtain ⟨e', he', hφ'⟩ := hφ x hx
      rw [hj] at he'
      simp only [Option.some.injEq] at he'
      subst he'
      rw [Nat.zero_add, hρ x hx]; exact hφ')
    refine hfin a w ⟨hs.size, hs.defers, fun p hp' => ?_, fun p hp' => ?_, ?_, hs.kp⟩
    · refine hs.tmp p ?_
      rcases List.mem_append.1 hp' with hp' | hp'
      · obtain ⟨j, e, hj, rfl⟩ := outT_mem ρ hp'
        obtain ⟨x, hx, rfl⟩ := hall j e hj
        refine List.mem_append_left _ (List.mem_filterMap.2 ⟨x, hx, ?_⟩)
        rw [hj, Nat.zero_add, hρ x hx]; rfl
      · exact List.mem_append_right _ hp'
    all_goals
      have hperm : (outB ρ 0 Φ ++ B0).Perm (L.flatMap (·.2.2) ++ B0) := by
        refine List.Perm.append_right _ ?_
        rw [outB_range]
        refine (List.Perm.flatMap_right _ hp.symm).trans ?_
        rw [List.flatMap_map]
        have hcong : ∀ l : List (Nat × Value × List (Nat × Option Obj)), (∀ x ∈ l, ρ x.1 = x.2) → l.flatMap (fun x => (ρ x.1).2) = l.flatMap (·.2.2) := by
          intro l
          induction l with
          | nil => intro _; rfl
          | cons y l ih => intro h; simp only [List.flatMap_cons]; rw [h y (by simp), ih (fun x hx => h x (by simp [hx]))]
        rw [hcong L hρ]
    · exact hs.blk p (hperm.mem_iff.1 hp')
    · exact (hperm.pairwise_iff (fun {x y} h => by rcases h with h | h | h; exact .inr (.inl h); exact .inl h; exact .inr (.inr (fun e => h e.symm)))).2 hs.apart
  | succ u ih =>
    intro L listed a w hU hp hφ hs hsz hl hcl
    have hUne : U ≠ [] := by intro e; rw [e] at hU; simp at hU
    have hmem : ∀ j, j < Φ.length → j ∈ L.map (·.1) ∨ j ∈ U := fun j hj => by
      have : j ∈ L.map (·.1) ++ U := hp.mem_iff.2 (by simp [List.mem_range', hj])
      exact List.mem_append.1 this
    have hUlt : ∀ j ∈ U, j < Φ.length := fun j hj => by
      have : j ∈ List.range' 0 Φ.length := hp.mem_iff.1 (List.mem_append_right _ hj)
      simpa [List.mem_range'] using this
    have hnd : (L.map (·.1) ++ U).Nodup := hp.nodup_iff.2 (List.nodup_range' ..)
    have hdis : ∀ j ∈ U, j ∉ L.map (·.1) := fun j hj hx => (List.nodup_append.1 hnd).2.2 j hx j hj rfl
    rw [show u + 1 + (ops.size - Φ.length) = (u + (ops.size - Φ.length)) + 1 from by omega]
    refine ⟨fun hemp => ?_, fun i hi => ?_⟩
    · -- the least that is not listed is ready
      exfalso
      obtain ⟨i, hi, hmin⟩ := least hUne
      have hilt := hUlt i hi
      obtain ⟨e, he⟩ := nth_of_lt hilt
      have hat := head_nth hh he
      rw [Nat.zero_add] at hat
      obtain ⟨o, hoi, hbe⟩ := hat.op
      have : i ∈ Region.ready .any ops listed := by
        simp only [Region.ready, List.mem_filter, List.mem_range, Bool.and_eq_true]
        refine ⟨by omega, ?_, ?_⟩
        · have := (hl i (by omega)).1
          cases hb : listed.getD i true with
          | false => rfl
          | true => exact absurd (this hb) (hdis i hi)
        · rw [hoi]
          simp only [Option.map_some, Option.getD_some, Array.all_eq_true_iff_forall_mem]
          intro x hx
          cases hb : Region.binds .any x with
          | false => rfl
          | true =>
            have hlt := hbe x hx hb
            have hxn : x.on < ops.size := by omega
            have hin : x.on ∈ L.map (·.1) := by
              rcases hmem x.on (by omega) with h | h
              · exact h
              · have := hmin _ h; omega
            have h1 := (hl x.on hxn).2 hin
            rw [Array.getD_eq_getD_getElem?, Array.getElem?_eq_getElem (by omega), Option.getD_some] at h1 ⊢
            simp [h1]
      rw [hemp] at this
      cases this
    · -- whichever is ready
      have hin : i < ops.size ∧ listed.getD i true = false := by
        simp only [Region.ready, List.mem_filter, List.mem_range, Bool.and_eq_true, Bool.not_eq_true'] at hi
        exact ⟨hi.1, hi.2.1⟩
      have hnl : i ∉ L.map (·.1) := fun h => by rw [(hl i hin.1).2 h] at hin; cases hin.2
      have hilt : i < Φ.length := by
        rcases Nat.lt_or_ge i Φ.length with h | h
        · exact h
        · exfalso
          simp only [tailOkP, Bool.and_eq_true, List.all_eq_true] at ht
          obtain ⟨j, hj⟩ : ∃ j, j ∈ U := List.exists_mem_of_ne_nil _ hUne
          have h1 := (ht.2 i (by simp only [List.mem_range']; exact ⟨i - Φ.length, by omega, by omega⟩)).1 j (by have := hUlt j hj; simp; omega)
          have h2 := reach_spec hcl _ _ _ (fun k hk => edge_spec hk hi) h1
          have hjn : j < ops.size := by have := hUlt j hj; omega
          refine hdis j hj ((hl j hjn).1 ?_)
          rw [Array.getD_eq_getD_getElem?, Array.getElem?_eq_getElem (by omega), Option.getD_some] at h2 ⊢
          exact h2
      have hiU : i ∈ U := (hmem i hilt).resolve_left hnl
      obtain ⟨e, he⟩ := nth_of_lt hilt
      have hat := head_nth hh he
      have hob := obs_nth ho he
      rw [Nat.zero_add] at hat hob
      obtain ⟨U1, U2, rfl⟩ := List.append_of_mem hiU
      have hfr : fresh e.d (L.filterMap (fun x => (nth Φ x.1).map (fun e => (e.d, x.2.1))) ++ T0) = true := by
        refine fresh_of (fun p hp' => ?_)
        rcases List.mem_append.1 hp' with hp' | hp'
        · obtain ⟨x, hx, hxe⟩ := List.mem_filterMap.1 hp'
          obtain ⟨e', he', _⟩ := hφ x hx
          rw [he'] at hxe
          simp only [Option.map_some, Option.some.injEq] at hxe
          subst hxe
          have hne : x.1 ≠ i := fun e => hnl (by rw [← e]; exact List.mem_map_of_mem hx)
          rcases Nat.lt_or_gt_of_ne hne with h | h
          · exact head_ne hh he' he h
          · exact fun e => head_ne hh he he' h e.symm
        · exact fresh_ne hat.fr p hp'
      refine deps_use (hob _ _ a w _ (fun p hp => List.mem_append_right _ hp) (fun p hp => List.mem_append_right _ hp)) ?_ hfr hs ?_
      · intro j hj
        have h1 := edge_spec (hat.nd j hj) hi
        have hjn : j < ops.size := by
          rcases Nat.lt_or_ge j ops.size with h | h
          · exact h
          · rw [Array.getD_eq_getD_getElem?, Array.getElem?_eq_none (by omega)] at h1; cases h1
        have hjL : j ∈ L.map (·.1) := by
          refine (hl j hjn).1 ?_
          rw [Array.getD_eq_getD_getElem?, Array.getElem?_eq_getElem (by omega), Option.getD_some] at h1 ⊢
          exact h1
        obtain ⟨x, hx, rfl⟩ := List.mem_map.1 hjL
        obtain ⟨e', he', hφ'⟩ := hφ x hx
        refine ⟨e', x.2.1, x.2.2, he', hφ', List.mem_append_left _ (List.mem_filterMap.2 ⟨x, hx, by rw [he']; rfl⟩), fun p hp => List.mem_append_left _ (List.mem_flatMap.2 ⟨x, hx, hp⟩)⟩
      · intro v bs a' w' hv hs'
        refine ih (U1 ++ U2) ((i, v, bs) :: L) (listed.setIfInBounds i true) a' w' (by simp at hU ⊢; omega) ?_ ?_ ?_ (by simpa using hsz) ?_ (closed_set hcl hi)
        · refine List.Perm.trans ?_ hp
          simp only [List.map_cons, List.cons_append]
          rw [← List.append_assoc, ← List.append_assoc]
          exact List.perm_middle.symm
        · intro x hx
          rcases List.mem_cons.1 hx with rfl | hx
          · exact ⟨e, he, hv⟩
          · exact hφ x hx
        · simp only [List.filterMap_cons, he, Option.map_some, List.flatMap_cons, List.cons_append, List.append_assoc]
          exact hs'
        · intro j hj
          simp only [List.map_cons, List.mem_cons]
          by_cases hji : i = j
          · subst hji
            simp [Array.getD_eq_getD_getElem?, Array.getElem?_setIfInBounds_self_of_lt (show i < listed.size by omega)]
          · rw [Array.getD_eq_getD_getElem?, Array.getElem?_setIfInBounds_ne hji, ← Array.getD_eq_getD_getElem?, hl j hj]
            exact ⟨.inr, fun h => h.resolve_left (fun e => hji e.symm)⟩
/-- A region that draws its order. -/
theorem cd_drawQ {id : Nat} {ops : Array Oper} {a : Act} {w : World} {T0 : List (Nat × Value)} {B0 : List (Nat × Option Obj)} (hm : P.follows .mixedOrders = true) (hs : Sx N D T0 B0 M w0 a w) (Φ : List Op1)
    (hh : headOk ops N T0 0 Φ = true) (ht : tailOkP ops Φ.length = true) (ho : Obs N D M w0 P r Q ops Φ T0 B0 0 Φ)
    (k : Each Φ (fun T B => ∀ a' w', Sx N D (T ++ T0) (B ++ B0) M w0 a' w' → tailWp P r Q ops (ops.size - Φ.length) Φ.length a' w')) :
    (Code.region id ops true).wpIn (Fx r) 0 P Q a w := by
  have hmn : Φ.length ≤ ops.size := by
    simp only [tailOkP, Bool.and_eq_true] at ht
    exact Nat.le_of_ble_eq_true ht.1
  refine wpIn_region_any hm ?_
  have := head_any (r := r) (Q := Q) hh ht ho k (List.range' 0 Φ.length) Φ.length [] (Array.replicate ops.size false) a { w with drawn := w.drawn + 1 } (by simp) (by simp) (by simp) (hs.drawn _) (by simp)
    (fun j hj => by simp [Array.getD_eq_getD_getElem?, hj]) (fun k j hk hks => by simp [Array.getD_eq_getD_getElem?, hks] at hk)
  rw [show Φ.length + (ops.size - Φ.length) = ops.size from by omega] at this
  exact this
/-- A region that draws its order. -/
theorem cd_draw {id : Nat} {ops : Array Oper} {a : Act} {w : World} {T0 : List (Nat × Value)} {B0 : List (Nat × Option Obj)} (hm : P.follows .mixedOrders = true) (hs : Sx N D T0 B0 M w0 a w) (Φ : List Op1)
    (hh : headOk ops N T0 0 Φ = true) (ht : tailOk ops Φ.length = true) (ho : Obs N D M w0 P r Q ops Φ T0 B0 0 Φ)
    (k : Each Φ (fun T B => ∀ a' w', Sx N D (T ++ T0) (B ++ B0) M w0 a' w' → wpOpsIn (Fx r) 0 P ops Q (List.range' Φ.length (ops.size - Φ.length)) a' w')) :
    (Code.region id ops true).wpIn (Fx r) 0 P Q a w := by
  have hmn : Φ.length ≤ ops.size := by
    simp only [tailOk, Bool.and_eq_true] at ht
    exact Nat.le_of_ble_eq_true ht.1
  have gen : ∀ (Ψ : List Op1) (C C' : List (Nat × Value) → List (Nat × Option Obj) → Prop), (∀ T B, C T B → C' T B) → Each Ψ C → Each Ψ C' := by
    intro Ψ
    induction Ψ with
    | nil => intro C C' h hC; exact h _ _ hC
    | cons e Ψ ih => intro C C' h hC v bs hv; exact ih _ _ (fun T B hx => h _ _ hx) (hC v bs hv)
  exact cd_drawQ hm hs Φ hh (tailOk.gen ht) ho (gen Φ _ _ (fun T B h a' w' hs' => tailWp_of ht _ _ _ _ (Nat.le_refl _) (by omega) (h a' w' hs')) k)
end

section
variable {N : Nat} {D : List Deferred} {T : List (Nat × Value)} {B B' : List (Nat × Option Obj)} {M : List Nat} {w0 : World} {a : Act} {w : World}
variable {P : Program} {r : Option Nat} {Q : Exit → Act → World → Prop} {K : Act → World → Prop} {l : List Oper} {o : Oper}
theorem nth_arr (l : List Oper) (k : Nat) : l.toArray[k]? = nth l k := by rw [nth_get]; simp
/-- An operation of a head, without a guard. -/
theorem ob {k : Nat} (ho : nth l k = some o) (hg : o.guard = none) (h : o.wpIn (Fx r) 0 P a w K Q) : wpOpIn (Fx r) 0 P l.toArray Q k K a w := by
  simp only [wpOpIn, nth_arr, ho, Region.wanted, hg, if_true]; exact h
/-- An operation of a head whose guard is gg: its value where gg is so. -/
theorem ob_gv {k j t d : Nat} {pol gg : Bool} {u v : Value} (hs : Sx N D T B M w0 a w) (ho : nth l k = some o) (hg : o.guard = some (j, pol)) (hj : (nth l j).bind (·.dst) = some t) (ht : (t, u) ∈ T) (hu : ison pol u = gg)
    (hdo : o.dst = some d) (hd : Nat.blt d N = true) (hf : fresh d T = true)
    (h1 : gg = true → ∀ K : Act → World → Prop, (∀ a' w', Sx N D ((d, v) :: T) B M w0 a' w' → K a' w') → o.wpIn (Fx r) 0 P a w K Q)
    (kk : ∀ a' w', Sx N D ((d, Gv gg v) :: T) B M w0 a' w' → K a' w') : wpOpIn (Fx r) 0 P l.toArray Q k K a w := by
  have hw := wanted_ison (ops := l.toArray) hs hg (by rw [nth_arr]; exact hj) ht
  simp only [wpOpIn, nth_arr, ho, hw, hu]
  cases gg with
  | true => simp only [if_true]; exact h1 rfl _ kk
  | false => simp only [Bool.false_eq_true, if_false, hdo]; exact ⟨fun _ _ => trivial, kk _ _ (hs.put hd hf)⟩
theorem dropN_drop {α : Type} : ∀ (n : Nat) (l : List α), dropN n l = l.drop n := by
  intro n
  induction n with
  | zero => intro l; rfl
  | succ n ih => intro l; cases l with
    | nil => rfl
    | cons x l => simp only [dropN, List.drop_succ_cons]; exact ih l
/-- A region that draws its order. -/
theorem cd_drawn1 {id : Nat} {T0 : List (Nat × Value)} {B0 : List (Nat × Option Obj)} (hm : P.follows .mixedOrders = true) (hs : Sx N D T0 B0 M w0 a w) (Φ : List Op1)
    (hh : headOk l.toArray N T0 0 Φ = true) (ht : tailOk l.toArray Φ.length = true)
    (h : Obs N D M w0 P r Q l.toArray Φ T0 B0 0 Φ ∧
      Each Φ (fun T B => ∀ a' w', Sx N D (T ++ T0) (B ++ B0) M w0 a' w' → wpListIn (Fx r) 0 P l.toArray Q (dropN Φ.length l) a' w')) :
    (Code.region id l.toArray true).wpIn (Fx r) 0 P Q a w := by
  obtain ⟨h1, h2⟩ := h
  have hmn : Φ.length ≤ l.length := by
    simp only [tailOk, Bool.and_eq_true] at ht
    have := Nat.le_of_ble_eq_true ht.1
    simpa using this
  refine cd_draw hm hs Φ hh ht h1 ?_
  have he : ∀ a' w', wpListIn (Fx r) 0 P l.toArray Q (dropN Φ.length l) a' w' → wpOpsIn (Fx r) 0 P l.toArray Q (List.range' Φ.length (l.toArray.size - Φ.length)) a' w' := by
    intro a' w' h
    have := wpOpsIn_eq_wpListIn (F := Fx r) (n := 0) (P := P) (ops := l.toArray) (Q := Q) (dropN Φ.length l) Φ.length (by intro j; rw [dropN_drop]; simp)
    rw [dropN_drop, List.length_drop] at this
    rw [dropN_drop] at h
    simp only [List.size_toArray]
    rw [this]; exact h
  clear h1 hh ht hmn hm
  generalize dropN Φ.length l = tl at h2 he
  generalize List.range' Φ.length (l.toArray.size - Φ.length) = rg at he ⊢
  have gen : ∀ (Ψ : List Op1) (C C' : List (Nat × Value) → List (Nat × Option Obj) → Prop), (∀ T B, C T B → C' T B) → Each Ψ C → Each Ψ C' := by
    intro Ψ
    induction Ψ with
    | nil => intro C C' h hC; exact h _ _ hC
    | cons e Ψ ih => intro C C' h hC v bs hv; exact ih _ _ (fun T B hx => h _ _ hx) (hC v bs hv)
  exact gen Φ _ _ (fun T B h a' w' hs' => he a' w' (h a' w' hs')) h2
theorem cd_drawnP1 {id : Nat} {T0 : List (Nat × Value)} {B0 : List (Nat × Option Obj)} (hm : P.follows .mixedOrders = true) (hs : Sx N D T0 B0 M w0 a w) (Φ : List Op1)
    (hh : headOk l.toArray N T0 0 Φ = true) (ht : tailOkP l.toArray Φ.length = true)
    (h : Obs N D M w0 P r Q l.toArray Φ T0 B0 0 Φ ∧
      Each Φ (fun T B => ∀ a' w', Sx N D (T ++ T0) (B ++ B0) M w0 a' w' → tailWp P r Q l.toArray (l.length - Φ.length) Φ.length a' w')) :
    (Code.region id l.toArray true).wpIn (Fx r) 0 P Q a w := by
  refine cd_drawQ hm hs Φ hh ht h.1 ?_
  rw [List.size_toArray]; exact h.2
theorem cd_drawnP {id : Nat} {y : Code} {T0 : List (Nat × Value)} {B0 : List (Nat × Option Obj)} (hm : P.follows .mixedOrders = true) (hs : Sx N D T0 B0 M w0 a w) (Φ : List Op1)
    (hh : headOk l.toArray N T0 0 Φ = true) (ht : tailOkP l.toArray Φ.length = true)
    (h : ∀ K : Act → World → Prop, (∀ a w, y.wpIn (Fx r) 0 P Q a w → K a w) →
      Obs N D M w0 P r (Exit.then K Q) l.toArray Φ T0 B0 0 Φ ∧
      Each Φ (fun T B => ∀ a' w', Sx N D (T ++ T0) (B ++ B0) M w0 a' w' → tailWp P r (Exit.then K Q) l.toArray (l.length - Φ.length) Φ.length a' w')) :
    (Code.seq (Code.region id l.toArray true) y).wpIn (Fx r) 0 P Q a w := wpIn_seq_k fun K hK => cd_drawnP1 hm hs Φ hh ht (h K hK)
/-- A region that draws its order, and what stands behind it. -/
theorem cd_drawn {id : Nat} {y : Code} {T0 : List (Nat × Value)} {B0 : List (Nat × Option Obj)} (hm : P.follows .mixedOrders = true) (hs : Sx N D T0 B0 M w0 a w) (Φ : List Op1)
    (hh : headOk l.toArray N T0 0 Φ = true) (ht : tailOk l.toArray Φ.length = true)
    (h : ∀ K : Act → World → Prop, (∀ a w, y.wpIn (Fx r) 0 P Q a w → K a w) →
      Obs N D M w0 P r (Exit.then K Q) l.toArray Φ T0 B0 0 Φ ∧
      Each Φ (fun T B => ∀ a' w', Sx N D (T ++ T0) (B ++ B0) M w0 a' w' → wpListIn (Fx r) 0 P l.toArray (Exit.then K Q) (dropN Φ.length l) a' w')) :
    (Code.seq (Code.region id l.toArray true) y).wpIn (Fx r) 0 P Q a w := wpIn_seq_k fun K hK => cd_drawn1 hm hs Φ hh ht (h K hK)
end

/-! ### Ways out; ways that meet -/
section
variable {P : Program} {r : Option Nat} {Q : Exit → Act → World → Prop} {K : Act → World → Prop} {a : Act} {w : World}
theorem th_exit {id : Nat} (h : Q (.exit id) a w) : Exit.then K Q (.exit id) a w := h
theorem th_ret (h : Q .ret a w) : Exit.then K Q .ret a w := h
theorem in_ret {id : Nat} (h : Q .ret a w) : Exit.inBlock id Q .ret a w := h
theorem in_norm {id : Nat} (h : Q .normal a w) : Exit.inBlock id Q .normal a w := h
theorem th_norm (h : K a w) : Exit.then K Q .normal a w := h
theorem cd_cut {x y : Code} (J : Act → World → Prop) (h1 : x.wpIn (Fx r) 0 P (Exit.then J Q) a w) (h2 : ∀ a w, J a w → y.wpIn (Fx r) 0 P Q a w) : (Code.seq x y).wpIn (Fx r) 0 P Q a w :=
  wpIn_seq (Go.wpIn_mono h1 (fun e a w h => by cases e <;> first | exact h2 _ _ h | exact h))
theorem cd_block {id : Nat} {c : Code} (h : c.wpIn (Fx r) 0 P (Exit.inBlock id Q) a w) : (Code.block id c).wpIn (Fx r) 0 P Q a w := wpIn_block h
theorem cd_exit {id : Nat} (h : Q (.exit id) a w) : (Code.exit id).wpIn (Fx r) 0 P Q a w := wpIn_exit h
theorem cd_skip (h : Q .normal a w) : Code.skip.wpIn (Fx r) 0 P Q a w := wpIn_skip h
/-- The last region of a block, nothing behind it. -/
theorem cd_region1 {id : Nat} {l : List Oper} (h : wpListIn (Fx r) 0 P l.toArray Q l a w) : (Code.region id l.toArray false).wpIn (Fx r) 0 P Q a w := wpIn_region_lit h
end

theorem ison_gt (g c : Bool) : ison true (Gv g (.bool c)) = (g && c) := by cases g <;> cases c <;> rfl
theorem ison_gf (g c : Bool) : ison false (Gv g (.bool c)) = (g && !c) := by cases g <;> cases c <;> rfl
theorem ison_t (c : Bool) : ison true (.bool c) = c := by cases c <;> rfl
theorem ison_f (c : Bool) : ison false (.bool c) = !c := by cases c <;> rfl
theorem evT {T0 T : List (Nat × Value)} {t : Nat} {v : Value} (hT : ∀ p ∈ T0, p ∈ T) (i : Nat) (h : nth T0 i = some (t, v)) : Ev T (.tmp t) v := .tmp (hT _ (mem_nth h))
theorem inB {B0 B : List (Nat × Option Obj)} {p : Nat × Option Obj} (hB : ∀ p ∈ B0, p ∈ B) (i : Nat) (h : nth B0 i = some p) : p ∈ B := hB _ (mem_nth h)
theorem and_l {a b : Bool} (h : (a && b) = true) : a = true := by cases a; cases h; rfl
theorem and_i {a b : Bool} (h : a = true) (g : b = true) : (a && b) = true := by subst h; subst g; rfl
theorem Sx.cellsM {N : Nat} {D : List Deferred} {T : List (Nat × Value)} {B : List (Nat × Option Obj)} {M : List Nat} {w0 : World} {a : Act} {w : World} (hs : Sx N D T B M w0 a w) {b : Nat} {l : List Value} {e : TypeId} {fr : Nat × Nat}
    (h : (b, some (.cells ⟨l⟩ e fr)) ∈ B) : CellsAt w b 0 l := CellsAt.of_block ((hs.blk _ h _ rfl).2)

/-- As keepT, each value by an equation. -/
def picksE (l : List (Nat × Value)) : List Nat → List (Nat × Value) → Prop
  | [], [] => True
  | i :: is, x :: xs => (∃ v, nth l i = some (x.1, v) ∧ v = x.2) ∧ picksE l is xs
  | _, _ => False
theorem picksE_mem {l : List (Nat × Value)} : ∀ {is : List Nat} {xs : List (Nat × Value)}, picksE l is xs → ∀ x ∈ xs, x ∈ l := by
  intro is
  induction is with
  | nil => intro xs h x hx; cases xs with
    | nil => cases hx
    | cons y ys => exact h.elim
  | cons i is ih => intro xs h x hx; cases xs with
    | nil => cases hx
    | cons y ys =>
      rcases List.mem_cons.1 hx with rfl | hx
      · obtain ⟨v, h1, rfl⟩ := h.1
        exact mem_nth h1
      · exact ih h.2 x hx
theorem Sx.keepE {N : Nat} {D : List Deferred} {T : List (Nat × Value)} {B : List (Nat × Option Obj)} {M : List Nat} {w0 : World} {a : Act} {w : World} (is : List Nat) (T' : List (Nat × Value)) (h : picksE T is T') (hs : Sx N D T B M w0 a w) : Sx N D T' B M w0 a w := hs.tmps (picksE_mem h)
theorem st_indexM {N : Nat} {D : List Deferred} {T : List (Nat × Value)} {B : List (Nat × Option Obj)} {M : List Nat} {w0 : World} {a : Act} {w : World} {P : Program} {r : Option Nat} {Q : Exit → Act → World → Prop} {K : Act → World → Prop}
    {d : Nat} {ty : TypeId} {pos : String} {aft : Array Edge} {g : Option (Nat × Bool)} {t e : TypeId} {x y : Operand} {A : Option Addr} {b o o' n len cap : Nat} {i : Int} (hs : Sx N D T B M w0 a w) (hx : Ev T x (.slice A len cap)) (hy : Ev T y (.int .i64 i)) (hd : Nat.blt d N = true) (hf : fresh d T = true)
    (hA : A = some ⟨b, o, none⟩) (hu : ∀ w, (underlying t).run P w = .ok (.slice e) w) (hsz : ∀ w, (sizeOf e).run P w = .ok n w) (hi : 0 ≤ i ∧ i < len) (ho : o + i.toNat * n = o')
    (k : ∀ a' w', Sx N D ((d, .pointer (some ⟨b, o', none⟩)) :: T) B M w0 a' w' → K a' w') : (Oper.mk (some d) (.indexAddr t x y) ty pos aft g).wpIn (Fx r) 0 P a w K Q := by
  subst hA
  exact st_indexSl hs hx hy hd hf hu hsz hi ho k

/-! ### Slices that are read -/
/-- The slice (A, n, c) reads as xs: each element's cells stand in memory that was there. -/
structure SlAt {α : Type} (enc : α → List Value) (sz : Nat) (w : World) (A : Option Addr) (n : Nat) (xs : List α) : Prop where
  len : n = xs.length
  el : ∀ i x, xs[i]? = some x → ∃ b o, A = some ⟨b, o, none⟩ ∧ b < w.heap.size ∧ CellsAt w b (o + i * sz) (enc x)
theorem SlAt.kp {α : Type} {enc : α → List Value} {sz : Nat} {w w' : World} {A : Option Addr} {n : Nat} {xs : List α} (h : SlAt enc sz w A n xs) (hk : Kp [] w w') : SlAt enc sz w' A n xs :=
  ⟨h.len, fun i x hx => let ⟨b, o, h1, h2, h3⟩ := h.el i x hx; ⟨b, o, h1, Nat.lt_of_lt_of_le h2 hk.size, h3.kp hk (by simp)⟩⟩

/-- The cells l hold xs, one behind the other. -/
def Reads {α : Type} (enc : α → List Value) (sz : Nat) (l : List Value) (xs : List α) : Prop := ∀ i x, xs[i]? = some x → ∀ j v, nth (enc x) j = some v → nth l (i * sz + j) = some v
theorem Reads.at {α : Type} {enc : α → List Value} {sz : Nat} {l : List Value} {xs : List α} {w : World} {b i : Nat} {x : α} (hr : Reads enc sz l xs) (h : CellsAt w b 0 l) (hx : xs[i]? = some x) : CellsAt w b (i * sz) (enc x) := by
  intro j v hv
  have := h (i * sz + j) v (hr i x hx j v hv)
  rw [Nat.zero_add] at this; exact this
/-- A slice that the call made (or a callee): nil and empty, or at the head of the block b. -/
def Own {α : Type} (enc : α → List Value) (sz : Nat) (e : TypeId) (A : Option Addr) (c : Nat) (xs : List α) (b : Nat) (o : Option Obj) : Prop :=
  (xs = [] ∧ c = 0) ∨ (A = some ⟨b, 0, none⟩ ∧ xs.length ≤ c ∧ ∃ l, o = some (.cells ⟨l⟩ e (0, 0)) ∧ Reads enc sz l xs ∧ c * sz ≤ l.length)
theorem Own.open {α : Type} {enc : α → List Value} {sz : Nat} {e : TypeId} {A : Option Addr} {c : Nat} {xs : List α} {b : Nat} {o : Option Obj} (h : Own enc sz e A c xs b o) {i : Nat} {x : α} (hx : xs[i]? = some x) :
    A = some ⟨b, 0, none⟩ ∧ ∃ l, o = some (.cells ⟨l⟩ e (0, 0)) ∧ Reads enc sz l xs := by
  rcases h with ⟨rfl, _⟩ | ⟨h1, _, l, h2, h3, _⟩
  · simp at hx
  · exact ⟨h1, l, h2, h3⟩
theorem Own.at {α : Type} {enc : α → List Value} {sz : Nat} {e : TypeId} {A : Option Addr} {c : Nat} {xs : List α} {b : Nat} {o : Option Obj} (h : Own enc sz e A c xs b o)
    {N : Nat} {D : List Deferred} {T : List (Nat × Value)} {B : List (Nat × Option Obj)} {M : List Nat} {w0 : World} {a : Act} {w : World} (hs : Sx N D T B M w0 a w) (i : Nat) (hb : nth B i = some (b, o)) : SlAt enc sz w A xs.length xs := by
  refine ⟨rfl, fun j x hx => ?_⟩
  obtain ⟨h1, l, rfl, h3⟩ := h.open hx
  have h4 := (hs.blk _ (mem_nth hb) _ rfl).2
  refine ⟨b, 0, h1, lt_of_some h4, ?_⟩
  rw [Nat.zero_add]
  exact h3.at (CellsAt.of_block h4) hx
theorem Sx.cellsO {N : Nat} {D : List Deferred} {T : List (Nat × Value)} {B : List (Nat × Option Obj)} {M : List Nat} {w0 : World} {a : Act} {w : World} (hs : Sx N D T B M w0 a w) (i : Nat) {b : Nat} {o : Option Obj} {l : List Value} {e : TypeId} {fr : Nat × Nat}
    (h : nth B i = some (b, o)) (ho : o = some (.cells ⟨l⟩ e fr)) : CellsAt w b 0 l := by
  subst ho; exact CellsAt.of_block ((hs.blk _ (mem_nth h) _ rfl).2)

section
variable {N : Nat} {D : List Deferred} {T : List (Nat × Value)} {B : List (Nat × Option Obj)} {M : List Nat} {w0 : World} {a : Act} {w : World}
variable {P : Program} {r : Option Nat} {Q : Exit → Act → World → Prop} {K : Act → World → Prop}
variable {d : Nat} {ty : TypeId} {pos : String} {aft : Array Edge} {g : Option (Nat × Bool)}
/-- An element of an array's value, one cell. -/
theorem st_index1 {t e : TypeId} {x y : Operand} {l : List Value} {v : Value} {n len : Nat} {i : Int} (hs : Sx N D T B M w0 a w) (hx : Ev T x (.agg ⟨l⟩)) (hy : Ev T y (.int .i64 i)) (hd : Nat.blt d N = true) (hf : fresh d T = true)
    (hu : ∀ w, (underlying t).run P w = .ok (.array len e) w) (hag : ∀ w, (isAgg e).run P w = .ok false w) (hsz : ∀ w, (sizeOf e).run P w = .ok n w) (hi : 0 ≤ i ∧ i < len) (hv : nth l (i.toNat * n) = some v)
    (k : ∀ a' w', Sx N D ((d, v) :: T) B M w0 a' w' → K a' w') : (Oper.mk (some d) (.index t x y) ty pos aft g).wpIn (Fx r) 0 P a w K Q := by
  rw [nth_get] at hv
  exact st_run hs nofun (by simp [execOp, hs.ev hx, hs.ev hy, Instr.index, asIntOf, hu, hi.1, hi.2, hsz, part, hag, hv]) hd hf k
/-- A field of a struct's value, one cell. -/
theorem st_fieldv {t : TypeId} {x : Operand} {f : Nat} {l : List Value} {v : Value} {fs : Array Field} {fd : Field} (hs : Sx N D T B M w0 a w) (hx : Ev T x (.agg ⟨l⟩)) (hd : Nat.blt d N = true) (hf : fresh d T = true)
    (hu : ∀ w, (underlying t).run P w = .ok (.struct fs) w) (hfd : fs[f]? = some fd) (hag : ∀ w, (isAgg fd.type).run P w = .ok false w) (hv : nth l fd.offset = some v)
    (k : ∀ a' w', Sx N D ((d, v) :: T) B M w0 a' w' → K a' w') : (Oper.mk (some d) (.field t x f) ty pos aft g).wpIn (Fx r) 0 P a w K Q := by
  rw [nth_get] at hv
  exact st_run hs nofun (by simp [execOp, hs.ev hx, Instr.field, hu, hfd, part, hag, asAgg, hv]) hd hf k
theorem st_makeFunc {fn : Fn} {xs ys : List Operand} {us vs : List Value} (hs : Sx N D T B M w0 a w) (hx : Evs T xs us) (hy : Evs T ys vs) (hd : Nat.blt d N = true) (hf : fresh d T = true)
    (k : ∀ a' w', Sx N D ((d, .func fn ⟨us⟩ ⟨vs⟩) :: T) B M w0 a' w' → K a' w') : (Oper.mk (some d) (.makeFunc fn ⟨xs⟩ ⟨ys⟩) ty pos aft g).wpIn (Fx r) 0 P a w K Q := by
  have h1 : Array.map a.eval ⟨xs⟩ = ⟨us⟩ := by rw [← hs.evs hx]; simp
  have h2 : Array.map a.eval ⟨ys⟩ = ⟨vs⟩ := by rw [← hs.evs hy]; simp
  exact st_run hs nofun (by simp [execOp, Instr.makeFunc, h1, h2]) hd hf k
end
/-- The first place, from i on, at which f says yes; -1: none of the next n. -/
def first (f : Nat → Bool) : Nat → Nat → Int
  | 0, _ => -1
  | n + 1, i => if f i then (i : Int) else first f n (i + 1)
theorem first_yes {f : Nat → Bool} {n i : Nat} (h : i < n) (hf : f i = true) : first f (n - i) i = i := by
  obtain ⟨m, hm⟩ : ∃ m, n - i = m + 1 := ⟨n - i - 1, by omega⟩
  rw [hm, first, if_pos hf]
theorem first_no {f : Nat → Bool} {n i : Nat} (h : i < n) (hf : f i = false) : first f (n - i) i = first f (n - (i + 1)) (i + 1) := by
  obtain ⟨m, hm⟩ : ∃ m, n - i = m + 1 := ⟨n - i - 1, by omega⟩
  rw [hm, first, if_neg (by simp [hf]), show n - (i + 1) = m from by omega]
end Go.Sx
