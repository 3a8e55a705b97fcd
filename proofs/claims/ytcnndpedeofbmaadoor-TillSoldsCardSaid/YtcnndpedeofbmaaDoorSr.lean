/-
  RANGE OVER A FUNCTION: an iterator's contract, the loop that ranges over it, the iterator's own calls of yield.
-/
import Derived.Test.YtcnndpedeofbmaaDoorSx
import Derived.RangeFuncLeaves
import Derived.RangeFuncSeq
set_option maxRecDepth 100000
namespace Go.Sx
open Go
/-- The blocks below n lie as they lay. -/
structure Sm (n : Nat) (a b : World) : Prop where
  os : b.os = a.os
  tape : b.tape = a.tape
  output : b.output = a.output
  size : a.heap.size ≤ b.heap.size
  block : ∀ k, k < n → b.heap[k]? = a.heap[k]?
/-- The blocks from n on lie as they lay. -/
structure Up (n : Nat) (a b : World) : Prop where
  size : a.heap.size ≤ b.heap.size
  block : ∀ k, n ≤ k → k < a.heap.size → b.heap[k]? = a.heap[k]?
/-- What an iterator does: it hands the elements of xs to yield, one after the other, till yield says no; it reads only of what Rd tells. -/
def Seq {α : Type} (P : Program) (f : FuncId) (lb : List Value) (encs : α → List Value) (xs : List α) (Rd : World → Prop) : Prop :=
  ∀ (l : Nat) (J : Nat → World → Prop) (R : World → Prop) (W : World),
    (∀ i A B, J i A → Sm W.heap.size A B → J i B) → (∀ A B, R A → Sm W.heap.size A B → R B) → (∀ i A, J i A → Rd A) →
    (∀ i x A, xs[i]? = some x → W.heap.size ≤ A.heap.size → J i A → YieldAt Fence.wide 0 P l ⟨encs x⟩ A (fun e B => ∃ y, e = .returned (.bool y) ∧ Up W.heap.size A B ∧ (y = true → J (i + 1) B) ∧ (y = false → R B))) →
    J 0 W → Calls P f ⟨[.func (.yield l) #[] #[]] ++ lb⟩ W (fun e B => (∃ v, e = .returned v) ∧ (J xs.length B ∨ R B))
def markOf (d : Nat) : Deferred := { target := .collected d, args := #[] }
section
variable {N : Nat} {D : List Deferred} {T : List (Nat × Value)} {B : List (Nat × Option Obj)} {M : List Nat} {w0 : World} {a : Act} {w : World} {P : Program}
theorem enterM {N : Nat} {f : FuncId} {fn : Func} {c : Code} {vs : List Value} {R : Ending → World → Prop} {M : List Nat} (w0 : World) (hf : P.funcs[f]? = some fn) (hb : fn.body = some c) (hN : fn.ntmps = N) (hv : Nat.ble vs.length N = true)
    (h : ∀ (Q : Exit → Act → World → Prop) (a : Act), (∀ a w, bodyPostM (Fx none) 0 P fn R .ret a w → Q .ret a w) → (∀ a w, bodyPostM (Fx none) 0 P fn R .normal a w → Q .normal a w) →
      Sx N [] (argsT 0 vs) [] M w0 a w0 → c.wpIn (Fx none) 0 P Q a w0) : Calls P f ⟨vs⟩ w0 R := by
  have hN' : vs.length ≤ fn.ntmps := by rw [hN]; exact Nat.le_of_ble_eq_true hv
  refine (callsIn_wide (n := 0)).1 (callsIn_of_wp_marks hf hb trivial (h (bodyPostM (Fx none) 0 P fn R) _ (fun _ _ h => h) (fun _ _ h => h) ?_))
  refine ⟨by simp; omega, rfl, fun p hp => ?_, fun p hp => (by cases hp), List.Pairwise.nil, Kp.refl _ _⟩
  obtain ⟨j, h1, h2⟩ := argsT_mem hp
  have hj : j < vs.length := (List.getElem?_eq_some_iff.1 h2).1
  rw [h1, Nat.zero_add, Array.getElem?_append_left (by simpa using hj)]
  simpa using h2
theorem cd_retM {r : Option Nat} {fn : Func} {xs : List ResultVar} {vs : List Value} {v : Value} {Q : Exit → Act → World → Prop}
    (hs : Sx N [] T B [] w0 a w) (hQ : ∀ a w, bodyPostM (Fx none) 0 P fn (Ret w0 (fun u bs => u = v ∧ bs = [])) .ret a w → Q .ret a w) (hr : fn.results = ⟨xs⟩) (h : ResVs P T w xs vs) (hp : pack vs = v) :
    Code.ret.wpIn (Fx r) 0 P Q a w := by
  refine wpIn_ret (hQ a w ?_)
  simp only [bodyPostM, hs.defers, LeavesInM, LeavesIn]
  exact ⟨pack vs, run_results hs hr h, pack vs, [], rfl, hs.kp, New.nil _ _, hp, rfl⟩
theorem cd_retM1 {r : Option Nat} {fn : Func} {xs : List ResultVar} {vs : List Value} {v : Value} {Q : Exit → Act → World → Prop} {d : Nat}
    (hs : Sx N [markOf d] T ((d, some (.deferred (some []))) :: B) [] w0 a w) (hQ : ∀ a w, bodyPostM (Fx none) 0 P fn (Ret w0 (fun u bs => u = v ∧ bs = [])) .ret a w → Q .ret a w) (hr : fn.results = ⟨xs⟩)
    (h : ∀ w, Sx N [] T B [] w0 { a with defers := [] } w → ResVs P T w xs vs) (hp : pack vs = v) :
    Code.ret.wpIn (Fx r) 0 P Q a w := by
  refine wpIn_ret (hQ a w ?_)
  simp only [bodyPostM, hs.defers, LeavesInM, LeavesIn]
  obtain ⟨h1, h2⟩ := hs.blk _ List.mem_cons_self _ rfl
  have hlt := lt_of_some h2
  have hd : w0.heap.size ≤ d := h1.resolve_left (by simp)
  refine ⟨by simp, .inl ⟨d, _, rfl, run_takeDeferred h2, ?_⟩⟩
  have hap := (List.pairwise_cons.1 hs.apart).1
  have hs2 : Sx N [] T B [] w0 { a with defers := [] } (w.putObj d (.deferred none)) := by
    refine ⟨hs.size, rfl, hs.tmp, fun p hp o ho => ?_, (List.pairwise_cons.1 hs.apart).2, ?_⟩
    · have hx := hs.blk p (List.mem_cons_of_mem _ hp) o ho
      have hne : d ≠ p.1 := by
        rcases hap p hp with e | e | e
        · cases e
        · rw [e] at ho; cases ho
        · exact e
      exact ⟨hx.1, by rw [World.putObj_heap_other (fun e => hne e.symm)]; exact hx.2⟩
    · refine ⟨hs.kp.os, hs.kp.tape, hs.kp.output, by simpa [World.putObj] using hs.kp.size, fun k hk hm => ?_⟩
      rw [World.putObj_heap_other (by omega)]
      exact hs.kp.block k hk hm
  have hrr := run_results (a := { a with defers := [] }) hs2 hr (h _ hs2)
  exact ⟨pack vs, hrr, pack vs, [], rfl, hs2.kp, New.nil _ _, hp, rfl⟩
end

def allCells (B : List (Nat × Option Obj)) : Bool := B.all (fun p => match p.2 with | some o => o.isCells | none => true)
/-- How a round may end: it goes on, or the function that ranges returns. -/
def roundQ {X : Type} (N : Nat) (BI : Nat → List (Nat × Option Obj)) (BX : X → List (Nat × Option Obj)) (PI : Nat → Prop) (PX : X → Prop) (i : Nat) (M : List Nat) (W2 : World) : Exit → Act → World → Prop
  | .normal, a, w => PI (i + 1) ∧ ∃ T B, (∀ p ∈ BI (i + 1), p ∈ B) ∧ Sx N [] T B M W2 a w
  | .ret, a, w => ∃ x T B, PX x ∧ (∀ p ∈ BX x, p ∈ B) ∧ Sx N [] T B M W2 a w
  | _, _, _ => False
def tells (B : List (Nat × Option Obj)) (W : World) : Prop := ∀ p ∈ B, ∀ o, p.2 = some o → W.heap[p.1]? = some o
def isSome1 (B : List (Nat × Option Obj)) : Bool := B.all (fun p => p.2.isSome)
theorem Sx.rebase {N : Nat} {D : List Deferred} {T : List (Nat × Value)} {B : List (Nat × Option Obj)} {M : List Nat} {w0 : World} {a : Act} {w : World} (hs : Sx N D T B M w0 a w) : Sx N D T B (B.map (·.1)) w a w :=
  ⟨hs.size, hs.defers, hs.tmp, fun p hp o ho => ⟨.inl (List.mem_map_of_mem hp), (hs.blk p hp o ho).2⟩, hs.apart, Kp.refl _ _⟩
theorem putObj_kp {M : List Nat} {W : World} {l : Nat} {o : Obj} (h : l ∈ M) : Kp M W (W.putObj l o) :=
  ⟨rfl, rfl, rfl, by simp [World.putObj], fun k _ hm => World.putObj_heap_other (fun e => hm (e ▸ h))⟩
theorem not_cells_ne {B : List (Nat × Option Obj)} {W : World} {l : Nat} {o : Obj} (hc : allCells B = true) (hsm : isSome1 B = true) (ht : tells B W) (hl : W.heap[l]? = some o) (ho : o.isCells = false) : l ∉ B.map (·.1) := by
  intro hm
  obtain ⟨p, hp, rfl⟩ := List.mem_map.1 hm
  have h1 := List.all_eq_true.1 hsm p hp
  obtain ⟨o', ho'⟩ := Option.isSome_iff_exists.1 h1
  have h2 := ht p hp o' ho'
  rw [hl] at h2
  cases h2
  have h3 := List.all_eq_true.1 hc p hp
  rw [ho'] at h3
  simp only at h3
  rw [ho] at h3; cases h3
theorem cd_range {α X : Type} {N : Nat} {g : Operand} {ps : List Tmp} {assign body : Code} {Q : Exit → Act → World → Prop} {a : Act} {w w0 : World} {P : Program} {T : List (Nat × Value)} {f : FuncId} {lb : List Value} {Rd : World → Prop}
    (encs : α → List Value) (xs : List α) (BI : Nat → List (Nat × Option Obj)) (BX : X → List (Nat × Option Obj)) (PI : Nat → Prop) (PX : X → Prop) (ids : List Nat)
    (hs : Sx N [] T (BI 0) [] w0 a w) (hg : Ev T g (.func (.func f) #[] ⟨lb⟩)) (eg : ∀ args w, (callFunc f args).run P w = .ok (.enter f args) w) (hseq : Seq P f lb encs xs Rd)
    (hids : ∀ i, (BI i).map (·.1) = ids) (hidx : ∀ x, (BX x).map (·.1) = ids) (hsome : ∀ i, isSome1 (BI i) = true) (_hsomx : ∀ x, isSome1 (BX x) = true)
    (hps : ∀ x, (encs x).length = ps.length) (hpl : ps.all (fun p => Nat.blt p N && fresh p T) = true) (hnd : ps.Nodup) (hp0 : PI 0)
    (hrd : ∀ i W, PI i → Kp [] w0 W → tells (BI i) W → Rd W)
    (hround : ∀ l i x a' W, xs[i]? = some x → PI i → Kp [] w0 W → Sx N [] (ps.zip (encs x) ++ T) (BI i) ids W a' W →
      assign.wpIn (Fx (some l)) 0 P (Exit.then (fun a1 W1 => ∃ T1 B1, Sx N [] T1 B1 ids W a1 W1 ∧ allCells B1 = true ∧ isSome1 B1 = true ∧ ∀ W2, Kp [] w0 W2 → Sx N [] T1 B1 (B1.map (·.1)) W2 a1 W2 →
        body.wpIn (Fx (some l)) 0 P (roundQ N BI BX PI PX i (B1.map (·.1)) W2) a1 W2) (fun _ _ _ => False)) a' W)
    (hdone : ∀ d a' w', PI xs.length → Sx N [markOf d] T ((d, some (.deferred (some []))) :: BI xs.length) [] w0 a' w' → Q .normal a' w')
    (hstop : ∀ d x a' w', PX x → Sx N [markOf d] T ((d, some (.deferred (some []))) :: BX x) [] w0 a' w' → Code.ret.wpIn (Fx none) 0 P Q a' w') :
    (Code.rangeFunc g ps.toArray assign body).wpIn (Fx none) 0 P Q a w := by
  refine wpIn_rangeFunc ?_
  intro fn hfn
  show ∃ l mark w₁ d w₁' f args w₂, (Instr.enterLoop fn a.tmps ps.toArray assign body none).run P w = .ok (l, mark) w₁ ∧ _
  obtain ⟨rec, hrec⟩ : ∃ rec : LoopState → Option Code → Loop, rec = fun st pe => { state := st, pending := pe, fn, tmps := a.tmps, params := ps.toArray, assign, body, defers := w.heap.size } := ⟨_, rfl⟩
  obtain ⟨W1, hW1⟩ : ∃ W1, (w.alloc (.deferred (some []))).alloc (.loop (rec .ready none)) = W1 := ⟨_, rfl⟩
  have hL1 : W1.heap[w.heap.size + 1]? = some (.loop (rec .ready none)) := by
    rw [← hW1]; have := World.alloc_heap_new (w.alloc (.deferred (some []))) (.loop (rec .ready none)); rwa [World.size_alloc] at this
  have hK1 : W1.heap[w.heap.size]? = some (.deferred (some [])) := by
    rw [← hW1]; exact (RowKit.Below.heap_alloc _ _ _ (by simp)).trans (World.alloc_heap_new w _)
  have hkw : Kp [] w W1 := by rw [← hW1]; exact (Kp.push [] w _).trans (Kp.push [] _ _)
  have hsz1 : W1.heap.size = w.heap.size + 2 := by rw [← hW1]; simp
  have hblk0 := hs.blk
  have hidlt : ∀ k ∈ ids, w0.heap.size ≤ k ∧ k < w.heap.size := fun k hk => by
    rw [← hids 0] at hk
    obtain ⟨p, hp, rfl⟩ := List.mem_map.1 hk
    obtain ⟨o, ho⟩ := Option.isSome_iff_exists.1 (List.all_eq_true.1 (hsome 0) p hp)
    have := hblk0 p hp o ho
    exact ⟨this.1.resolve_left (by simp), lt_of_some this.2⟩
  have hw0w := hs.kp.size
  let J : Nat → World → Prop := fun i A => PI i ∧ Kp [] w0 A ∧ tells (BI i) A ∧ A.heap[w.heap.size + 1]? = some (.loop (rec .ready none)) ∧ A.heap[w.heap.size]? = some (.deferred (some []))
  let R : World → Prop := fun A => ∃ x, PX x ∧ Kp [] w0 A ∧ tells (BX x) A ∧ A.heap[w.heap.size + 1]? = some (.loop (rec .done (some .ret))) ∧ A.heap[w.heap.size]? = some (.deferred (some []))
  have kpSm : ∀ {A B : World}, Kp [] w0 A → Sm W1.heap.size A B → Kp [] w0 B := fun hk hm =>
    ⟨hm.os.trans hk.os, hm.tape.trans hk.tape, hm.output.trans hk.output, Nat.le_trans hk.size hm.size, fun k hkk h => (hm.block k (by omega)).trans (hk.block k hkk h)⟩
  have tellSm : ∀ {A B : World} {Bl : List (Nat × Option Obj)}, Bl.map (·.1) = ids → tells Bl A → Sm W1.heap.size A B → tells Bl B := fun he ht hm p hp o ho => by
    rw [hm.block p.1 (by have := hidlt p.1 (he ▸ List.mem_map_of_mem hp); omega)]; exact ht p hp o ho
  have hW1K : Kp [] w0 W1 := hs.kp.trans hkw
  have ht0 : tells (BI 0) w := fun p hp o ho => (hblk0 p hp o ho).2
  have ht1 : tells (BI 0) W1 := fun p hp o ho => hkw.at (ht0 p hp o ho) (by simp)
  have hapI : ∀ i, (BI i).Pairwise (fun p q => p.2 = none ∨ q.2 = none ∨ p.1 ≠ q.1) := by
    have h0 : ids.Pairwise (· ≠ ·) := by
      rw [← hids 0, List.pairwise_map]
      refine hs.apart.imp_of_mem (fun {p q} hp hq h => ?_)
      have e1 := List.all_eq_true.1 (hsome 0) p hp
      have e2 := List.all_eq_true.1 (hsome 0) q hq
      rcases h with h | h | h
      · rw [h] at e1; cases e1
      · rw [h] at e2; cases e2
      · exact h
    intro i
    rw [← hids i, List.pairwise_map] at h0
    exact h0.imp (fun h => .inr (.inr h))
  have hapX : ∀ x, (BX x).Pairwise (fun p q => p.2 = none ∨ q.2 = none ∨ p.1 ≠ q.1) := by
    have h0 : ids.Pairwise (· ≠ ·) := by
      rw [← hids 0, List.pairwise_map]
      refine hs.apart.imp_of_mem (fun {p q} hp hq h => ?_)
      have e1 := List.all_eq_true.1 (hsome 0) p hp
      have e2 := List.all_eq_true.1 (hsome 0) q hq
      rcases h with h | h | h
      · rw [h] at e1; cases e1
      · rw [h] at e2; cases e2
      · exact h
    intro i
    rw [← hidx i, List.pairwise_map] at h0
    exact h0.imp (fun h => .inr (.inr h))
  refine ⟨w.heap.size + 1, [{ target := .collected w.heap.size, args := #[] }], W1, { target := .fn (.func f) ⟨lb⟩, args := #[.func (.yield (w.heap.size + 1)) #[] #[]] }, W1, f,
    ⟨[.func (.yield (w.heap.size + 1)) #[] #[]] ++ lb⟩, W1, ?_, ?_, fun _ _ => trivial, ?_, fun h => by simp [Fx, Fence.wide] at h, ?_⟩
  · rw [← hW1, hrec]; exact run_enterLoop_outer _ _ _ _ _
  · simp only [resolve, hs.ev hg]
    simp [go_sem]
  · simp [invoke, go_sem, eg]
  · have hsq := fun c1 c2 c3 c4 => hseq (w.heap.size + 1) J R W1 c1 c2 c3 c4 ⟨hp0, hW1K, ht1, hL1, hK1⟩
    refine calls_in none _ (Calls.mono (hsq ?_ ?_ ?_ ?_) ?_)
    · rintro i A B ⟨h1, h2, h3, h4, h5⟩ hm
      exact ⟨h1, kpSm h2 hm, tellSm (hids i) h3 hm, (hm.block _ (by omega)).trans h4, (hm.block _ (by omega)).trans h5⟩
    · rintro A B ⟨x, h1, h2, h3, h4, h5⟩ hm
      exact ⟨x, h1, kpSm h2 hm, tellSm (hidx x) h3 hm, (hm.block _ (by omega)).trans h4, (hm.block _ (by omega)).trans h5⟩
    · rintro i A ⟨h1, h2, h3, -, -⟩
      exact hrd i A h1 h2 h3
    · -- one round
      rintro i x W hx hWs ⟨hpi, hkW, htW, hl, hk⟩
      have hlt : w.heap.size + 1 < W.heap.size := lt_of_some hl
      have hy := run_yield (P := P) (args := ⟨encs x⟩) hl (by rw [hrec]; simp [hps x])
      rw [hrec] at hy
      refine ⟨fn, _, assign, body, hy, roundIn_of_wpIn hfn ?_⟩
      have hsr : Sx N [] (ps.zip (encs x) ++ T) (BI i) ids W { tmps := (ps.toArray.zip ⟨encs x⟩).foldl (fun t (p, v) => t.setIfInBounds p v) a.tmps, defers := [] } W := by
        have hz : ps.toArray.zip ⟨encs x⟩ = (ps.zip (encs x)).toArray := by simp
        rw [hz]
        simp only [List.foldl_toArray]
        have gen : ∀ (ps : List Tmp) (vs : List Value) (t : Array Value), t.size = N → ps.length = vs.length → ps.Nodup → (ps.all (fun p => Nat.blt p N && fresh p T) = true) → (∀ p ∈ T, t[p.1]? = some p.2) →
            ((ps.zip vs).foldl (fun t (x : Tmp × Value) => t.setIfInBounds x.1 x.2) t).size = N ∧ (∀ p ∈ T, ((ps.zip vs).foldl (fun t (x : Tmp × Value) => t.setIfInBounds x.1 x.2) t)[p.1]? = some p.2) ∧
            (∀ p ∈ ps.zip vs, ((ps.zip vs).foldl (fun t (x : Tmp × Value) => t.setIfInBounds x.1 x.2) t)[p.1]? = some p.2) ∧ (∀ k, k ∉ ps → ((ps.zip vs).foldl (fun t (x : Tmp × Value) => t.setIfInBounds x.1 x.2) t)[k]? = t[k]?) := by
          intro ps
          induction ps with
          | nil => intro vs t h1 _ _ _ h3; exact ⟨h1, h3, fun p hp => by simp at hp, fun _ _ => rfl⟩
          | cons q ps ih =>
            intro vs t h1 hlen hnd hal h3
            cases vs with
            | nil => simp at hlen
            | cons v vs =>
              simp only [List.all_cons, Bool.and_eq_true] at hal
              obtain ⟨⟨hq1, hq2⟩, hal⟩ := hal
              have hqN : q < N := by simpa [Nat.blt_eq] using hq1
              rw [List.nodup_cons] at hnd
              obtain ⟨i1, i2, i3, i4⟩ := ih vs (t.setIfInBounds q v) (by simpa using h1) (by simpa using hlen) hnd.2 hal (fun p hp => by rw [Array.getElem?_setIfInBounds_ne (fun e => fresh_ne hq2 p hp e.symm)]; exact h3 p hp)
              refine ⟨i1, i2, fun p hp => ?_, fun k hk => ?_⟩
              · rw [List.zip_cons_cons] at hp
                rcases List.mem_cons.1 hp with rfl | hp
                · rw [List.zip_cons_cons, List.foldl_cons, i4 _ hnd.1, Array.getElem?_setIfInBounds_self_of_lt (Nat.lt_of_lt_of_eq hqN h1.symm)]
                · exact i3 p hp
              · rw [List.zip_cons_cons, List.foldl_cons, i4 k (fun h => hk (by simp [h])), Array.getElem?_setIfInBounds_ne (fun e => hk (by simp [e]))]
        obtain ⟨g1, g2, g3, -⟩ := gen ps (encs x) a.tmps hs.size (hps x).symm hnd hpl hs.tmp
        refine ⟨g1, rfl, fun p hp => ?_, fun p hp o ho => ⟨.inl (by rw [← hids i]; exact List.mem_map_of_mem hp), htW p hp o ho⟩, hapI i, Kp.refl _ _⟩
        rcases List.mem_append.1 hp with hp | hp
        · exact g3 p hp
        · exact g2 p hp
      refine wpIn_mono (hround _ i x _ W hx hpi hkW hsr) ?_
      rintro e a1 Wa he
      cases e with
      | normal =>
        obtain ⟨T1, B1, hs1, hc1, hsm1, hbody⟩ := he
        have hl' : Wa.heap[w.heap.size + 1]? = some (.loop (rec .ready none)) := hs1.kp.at hl (fun h => by have := hidlt _ h; omega)
        have hk' : Wa.heap[w.heap.size]? = some (.deferred (some [])) := hs1.kp.at hk (fun h => by have := hidlt _ h; omega)
        have hlt' : w.heap.size + 1 < Wa.heap.size := lt_of_some hl'
        have ht1' : tells B1 Wa := fun p hp o ho => (hs1.blk p hp o ho).2
        have hnl : w.heap.size + 1 ∉ B1.map (·.1) := not_cells_ne hc1 hsm1 ht1' hl' rfl
        have hnk : w.heap.size ∉ B1.map (·.1) := not_cells_ne hc1 hsm1 ht1' hk' rfl
        refine ⟨_, run_beginRound hl' (by rw [hrec]), ?_⟩
        obtain ⟨W2, hW2⟩ : ∃ W2, Wa.putObj (w.heap.size + 1) (.loop { rec .ready none with state := .busy }) = W2 := ⟨_, rfl⟩
        rw [hW2]
        have hl2 : W2.heap[w.heap.size + 1]? = some (.loop { rec .ready none with state := .busy }) := by rw [← hW2]; exact World.putObj_heap_same hlt'
        have hk2 : W2.heap[w.heap.size]? = some (.deferred (some [])) := by rw [← hW2]; exact (World.putObj_heap_other (by omega)).trans hk'
        have hWa2 : Kp [w.heap.size + 1] Wa W2 := by rw [← hW2]; exact putObj_kp (by simp)
        have hs2 : Sx N [] T1 B1 (B1.map (·.1)) W2 a1 W2 := by
          refine ⟨hs1.size, hs1.defers, hs1.tmp, fun p hp o ho => ⟨.inl (List.mem_map_of_mem hp), ?_⟩, hs1.apart, Kp.refl _ _⟩
          exact hWa2.at (ht1' p hp o ho) (fun h => by simp at h; exact hnl (h ▸ List.mem_map_of_mem hp))
        have hB1lo : ∀ k ∈ B1.map (·.1), w0.heap.size ≤ k ∧ (k ∈ ids ∨ W.heap.size ≤ k) := fun k hk' => by
          obtain ⟨p, hp, rfl⟩ := List.mem_map.1 hk'
          obtain ⟨o, ho⟩ := Option.isSome_iff_exists.1 (List.all_eq_true.1 hsm1 p hp)
          rcases (hs1.blk p hp o ho).1 with h | h
          · exact ⟨(hidlt _ h).1, .inl h⟩
          · exact ⟨by omega, .inr h⟩
        have hk0a : Kp [] w0 Wa := ⟨hs1.kp.os.trans hkW.os, hs1.kp.tape.trans hkW.tape, hs1.kp.output.trans hkW.output, Nat.le_trans hkW.size hs1.kp.size, fun k hkk _ =>
          (hs1.kp.block k (by have := hkW.size; omega) (fun h => by have := hidlt _ h; omega)).trans (hkW.block k hkk (by simp))⟩
        have hk02 : Kp [] w0 W2 := ⟨hWa2.os.trans hk0a.os, hWa2.tape.trans hk0a.tape, hWa2.output.trans hk0a.output, Nat.le_trans hk0a.size hWa2.size, fun k hkk _ =>
          (hWa2.block k (by have := hk0a.size; omega) (by simp; omega)).trans (hk0a.block k hkk (by simp))⟩
        refine wpIn_mono (hbody W2 hk02 hs2) ?_
        have after : ∀ {T' : List (Nat × Value)} {B' : List (Nat × Option Obj)} {a3 : Act} {W3 : World} (jump : Option Code) (st : LoopState), st = (if jump.isNone then .ready else .done) → Sx N [] T' B' (B1.map (·.1)) W2 a3 W3 →
            ∃ W4, (Instr.endRound (w.heap.size + 1) jump).run P W3 = .ok (.bool jump.isNone) W4 ∧ Kp [] w0 W4 ∧ (∀ Bl : List (Nat × Option Obj), Bl.map (·.1) = ids → (∀ p ∈ Bl, p ∈ B') → tells Bl W4) ∧
              W4.heap[w.heap.size + 1]? = some (.loop (rec st jump)) ∧ W4.heap[w.heap.size]? = some (.deferred (some [])) ∧ Up W1.heap.size W W4 := by
          intro T' B' a3 W3 jump st hst hs3
          have hl3 := hs3.kp.at hl2 hnl
          have hk3 := hs3.kp.at hk2 hnk
          have hend := run_endRound (P := P) jump hl3
          rw [hrec] at hend hl3
          refine ⟨_, hend, ?_, ?_, ?_, ?_, ?_⟩
          · have h3 : Kp [] w0 W3 := ⟨hs3.kp.os.trans hk02.os, hs3.kp.tape.trans hk02.tape, hs3.kp.output.trans hk02.output, Nat.le_trans hk02.size hs3.kp.size, fun k hkk _ =>
              (hs3.kp.block k (by have := hk02.size; omega) (fun h => by have := hB1lo _ h; omega)).trans (hk02.block k hkk (by simp))⟩
            exact ⟨h3.os, h3.tape, h3.output, by simpa [World.putObj] using h3.size, fun k hkk _ => (World.putObj_heap_other (by omega)).trans (h3.block k hkk (by simp))⟩
          · intro Bl hBl hsub p hp o ho
            rw [World.putObj_heap_other (by have := hidlt p.1 (hBl ▸ List.mem_map_of_mem hp); omega)]
            exact (hs3.blk p (hsub p hp) o ho).2
          · rw [hrec, hst]; exact World.putObj_heap_same (lt_of_some hl3)
          · exact (World.putObj_heap_other (by omega)).trans hk3
          · refine ⟨?_, fun k hk1 hk2 => ?_⟩
            · have e1 := hs1.kp.size; have e2 := hWa2.size; have e3 := hs3.kp.size
              simp only [World.putObj, Array.size_setIfInBounds]; omega
            · rw [World.putObj_heap_other (by omega)]
              have e1 := hs1.kp.size; have e2 := hWa2.size
              rw [hs3.kp.block k (by omega) (fun h => by rcases (hB1lo _ h).2 with h | h; (have := hidlt _ h; omega); omega)]
              rw [hWa2.block k (by omega) (by simp; omega)]
              exact hs1.kp.block k hk2 (fun h => by have := hidlt _ h; omega)
        rintro e a3 W3 hp
        cases e with
        | normal =>
          obtain ⟨hpi', T', B', hsub, hs3⟩ := hp
          obtain ⟨W4, hend, h1, h2, h3, h4, h5⟩ := after none .ready rfl hs3
          exact ⟨_, W4, hend, true, rfl, h5, fun _ => ⟨hpi', h1, h2 _ (hids _) hsub, h3, h4⟩, nofun⟩
        | ret =>
          obtain ⟨x', T', B', hpx, hsub, hs3⟩ := hp
          obtain ⟨W4, hend, h1, h2, h3, h4, h5⟩ := after (some .ret) .done rfl hs3
          exact ⟨_, W4, hend, false, rfl, h5, nofun, fun _ => ⟨x', hpx, h1, h2 _ (hidx _) hsub, h3, h4⟩⟩
        | exit id => exact hp.elim
        | goto t => exact hp.elim
        | panic ch => exact hp.elim
        | outgrown => exact hp.elim
      | exit id => exact he.elim
      | goto t => exact he.elim
      | ret => exact he.elim
      | panic ch => exact he.elim
      | outgrown => exact he.elim
    · -- behind the iterator
      rintro e W2 ⟨⟨v, rfl⟩, (⟨hpi, hkW, htW, hl, hk⟩ | ⟨x, hpx, hkW, htW, hl, hk⟩)⟩
      all_goals
        have hne : ∀ {Bl : List (Nat × Option Obj)} {p : Nat × Option Obj}, Bl.map (·.1) = ids → p ∈ Bl → p.1 < w.heap.size := fun he hp => (hidlt _ (he ▸ List.mem_map_of_mem hp)).2
        have hge : ∀ {Bl : List (Nat × Option Obj)} {p : Nat × Option Obj}, Bl.map (·.1) = ids → p ∈ Bl → w0.heap.size ≤ p.1 := fun he hp => (hidlt _ (he ▸ List.mem_map_of_mem hp)).1
        have fin : ∀ (Bl : List (Nat × Option Obj)), Bl.map (·.1) = ids → tells Bl W2 → Bl.Pairwise (fun p q => p.2 = none ∨ q.2 = none ∨ p.1 ≠ q.1) → ∀ o : Obj,
            Sx N [markOf w.heap.size] T ((w.heap.size, some (.deferred (some []))) :: Bl) [] w0 { a with defers := markOf w.heap.size :: a.defers } (W2.putObj (w.heap.size + 1) o) := fun Bl he ht hap o => by
          refine ⟨hs.size, by rw [show a.defers = [] from hs.defers], hs.tmp, fun p hp o' ho => ?_, List.pairwise_cons.2 ⟨fun p hp => .inr (.inr (by have := hne he hp; simp only; omega)), hap⟩, ?_⟩
          · rcases List.mem_cons.1 hp with rfl | hp
            · simp only [Option.some.injEq] at ho
              subst ho
              exact ⟨.inr hw0w, (World.putObj_heap_other (by simp only; omega)).trans hk⟩
            · exact ⟨.inr (hge he hp), (World.putObj_heap_other (by have := hne he hp; omega)).trans (ht p hp o' ho)⟩
          · exact ⟨hkW.os, hkW.tape, hkW.output, by simpa [World.putObj] using hkW.size, fun k hkk _ => (World.putObj_heap_other (by omega)).trans (hkW.block k hkk (by simp))⟩
      · exact ⟨none, _, by have := run_endLoop (P := P) hl (by rw [hrec]; simp); rw [hrec] at this; exact this, hdone _ _ _ hpi (fin _ (hids _) htW (hapI _) _)⟩
      · exact ⟨some .ret, _, by have := run_endLoop (P := P) hl (by rw [hrec]; simp); rw [hrec] at this; exact this, hstop _ x _ _ hpx (fin _ (hidx _) htW (hapX _) _)⟩

/-! ### The iterator's own walk -/
theorem Kp.sm {M : List Nat} {a b : World} {n : Nat} (h : Kp M a b) (hM : ∀ k ∈ M, n ≤ k) (hn : n ≤ a.heap.size) : Sm n a b :=
  ⟨h.os, h.tape, h.output, h.size, fun k hk => h.block k (by omega) (fun hm => by have := hM k hm; omega)⟩
theorem CellsAt.blk_lt {w : World} {b o : Nat} {l : List Value} (h : CellsAt w b o l) (hne : 0 < l.length) : b < w.heap.size := by
  cases l with
  | nil => simp at hne
  | cons v l =>
    have := h 0 v rfl
    unfold World.cell? at this
    rcases Nat.lt_or_ge b w.heap.size with hx | hx
    · exact hx
    · rw [Array.getElem?_eq_none (by simpa using hx)] at this; simp at this
theorem SlAt.blk_lt {α : Type} {enc : α → List Value} {sz n : Nat} {w : World} {A : Option Addr} {xs : List α} (h : SlAt enc sz w A n xs) (hne : ∀ x, 0 < (enc x).length) {k : Nat} {x : α} (hx : xs[k]? = some x) {b o : Nat} (hA : A = some ⟨b, o, none⟩) :
    b < w.heap.size := by
  obtain ⟨b', o', hA', -, hc⟩ := h.el k x hx
  rw [hA] at hA'
  simp only [Option.some.injEq, Addr.mk.injEq] at hA'
  obtain ⟨rfl, rfl, -⟩ := hA'
  exact hc.blk_lt (hne x)
/-- A slice's elements still stand, where only blocks from W's end on were set. -/
theorem SlAt.kpW {α : Type} {enc : α → List Value} {sz n : Nat} {W wb w' : World} {A : Option Addr} {xs : List α} {M : List Nat} (hW : SlAt enc sz W A n xs) (h : SlAt enc sz wb A n xs) (hk : Kp M wb w') (hM : ∀ k ∈ M, W.heap.size ≤ k) (hne : ∀ x, 0 < (enc x).length) : SlAt enc sz w' A n xs :=
  ⟨h.len, fun k x hx => by
    obtain ⟨b, o, hA, h1, hc⟩ := h.el k x hx
    have hlt := hW.blk_lt hne hx hA
    exact ⟨b, o, hA, Nat.lt_of_lt_of_le h1 hk.size, hc.kp hk (fun hm => by have := hM _ hm; omega)⟩⟩
section
variable {N : Nat} {D : List Deferred} {T : List (Nat × Value)} {B : List (Nat × Option Obj)} {M : List Nat} {wb : World} {a : Act} {w : World} {P : Program} {r : Option Nat} {Q : Exit → Act → World → Prop} {K : Act → World → Prop}
variable {d : Nat} {ty : TypeId} {pos : String} {aft : Array Edge} {g : Option (Nat × Bool)}
theorem st_yield {fo : Operand} {l n : Nat} {J1 R : World → Prop} {xs : List Operand} {vs : List Value} {at_ : Array TypeId} (hs : Sx N D T B M wb a w) (hfo : Ev T fo (.func (.yield l) #[] #[])) (hx : Evs T xs vs)
    (hd : Nat.blt d N = true) (hf : fresh d T = true) (hlo : ∀ p ∈ B, n ≤ p.1)
    (hy : YieldAt Fence.wide 0 P l ⟨vs⟩ w (fun e W' => ∃ y, e = .returned (.bool y) ∧ Up n w W' ∧ (y = true → J1 W') ∧ (y = false → R W')))
    (k : ∀ (y : Bool) a' w', (y = true → J1 w') → (y = false → R w') → n ≤ w'.heap.size → Sx N D ((d, .bool y) :: T) B (B.map (·.1)) w' a' w' → K a' w') (hn : n ≤ w.heap.size) :
    (Oper.mk (some d) (.call { callee := .value fo, args := ⟨xs⟩, argTypes := at_ }) ty pos aft g).wpIn (Fx none) 0 P a w K Q := by
  refine ⟨fun _ _ => trivial, ?_⟩
  obtain ⟨fn, tmps, assign, body, hrun, hround⟩ := hy
  rw [Oper.semAt_eq _ _ _ (by intro c h; cases h)]
  have hrun' : (execOp a.eval (Oper.mk (some d) (.call { callee := .value fo, args := ⟨xs⟩, argTypes := at_ }) ty pos aft g)).run P w = .ok (.round l fn tmps assign body) w := by
    have h1 : Array.map a.eval ⟨xs⟩ = ⟨vs⟩ := by rw [← hs.evs hx]; simp
    simp [execOp, resolve, hs.ev hfo, Deferred.ofValue, invoke, h1, hrun]
  rw [hrun']
  refine ⟨fun h => by simp [Fx, Fence.wide] at h, RoundIn.mono hround (fun e w' he => ?_)⟩
  obtain ⟨y, rfl, hup, h1, h2⟩ := he
  have hs2 : Sx N D ((d, .bool y) :: T) B M wb (a.put (some d) (.bool y)) w := hs.put hd hf
  refine k y _ _ h1 h2 (Nat.le_trans hn hup.size) ⟨hs2.size, hs2.defers, hs2.tmp, fun p hp o ho => ⟨.inl (List.mem_map_of_mem hp), ?_⟩, hs2.apart, Kp.refl _ _⟩
  have hx := (hs2.blk p hp o ho).2
  rw [hup.block p.1 (hlo p hp) (lt_of_some hx)]; exact hx
theorem cd_retX {r : Option Nat} {fn : Func} {xs : List ResultVar} {vs : List Value} {R : Ending → World → Prop} {Q : Exit → Act → World → Prop}
    (hs : Sx N [] T B M wb a w) (hQ : ∀ a w, bodyPost P fn R .ret a w → Q .ret a w) (hr : fn.results = ⟨xs⟩) (h : ResVs P T w xs vs) (hR : R (.returned (pack vs)) w) : Code.ret.wpIn (Fx r) 0 P Q a w :=
  wpIn_ret (hQ a w ⟨hs.defers, pack vs, run_results hs hr h, hR⟩)
theorem endX {fn : Func} {xs : List ResultVar} {vs : List Value} {R : Ending → World → Prop} {Q : Exit → Act → World → Prop}
    (hs : Sx N [] T B M wb a w) (hQ : ∀ a w, bodyPost P fn R .normal a w → Q .normal a w) (hr : fn.results = ⟨xs⟩) (h : ResVs P T w xs vs) (hR : R (.returned (pack vs)) w) : Q .normal a w :=
  hQ a w ⟨hs.defers, pack vs, run_results hs hr h, hR⟩
end
end Go.Sx
