/-
  RANGE OVER A FUNCTION, at large: any number of such loops in one call, blocks that were there may change, rounds that leave the loop.
-/
import Derived.Test.YtcnndpedeofbmaaDoorSr
import Derived.Test.YtcnndpedeofbmaaDoorSg
set_option maxRecDepth 100000
namespace Go.Sx
open Go
/-- What is kept since W, by way of another world. -/
theorem Kp.viaM {M0 M : List Nat} {W a b : World} (hk : Kp M0 W a) (h : Kp M a b) (hM : ∀ q ∈ M, q ∈ M0 ∨ W.heap.size ≤ q) : Kp M0 W b :=
  ⟨h.os.trans hk.os, h.tape.trans hk.tape, h.output.trans hk.output, Nat.le_trans hk.size h.size, fun k hkk hm =>
    (h.block k (Nat.lt_of_lt_of_le hkk hk.size) (fun hq => by rcases hM k hq with h | h; exact hm h; omega)).trans (hk.block k hkk hm)⟩
theorem cell_some {w : World} {b o : Nat} {v : Value} (h : w.cell? ⟨b, o, none⟩ = some v) : ∃ c e fr, w.heap[b]? = some (.cells c e fr) := by
  unfold World.cell? at h
  cases hb : w.heap[b]? with
  | none => rw [hb] at h; cases h
  | some x => cases x <;> first | exact ⟨_, _, _, rfl⟩ | (rw [hb] at h; simp at h)
/-- Cells do not lie in a map's block. -/
theorem CellsAt.neM {w : World} {b o m : Nat} {l : List Value} {es : Array MapEntry} {clk : Nat} (h : CellsAt w b o l) (hne : 0 < l.length) (hm : w.heap[m]? = some (.map es clk)) : b ≠ m := by
  intro e
  subst e
  cases l with
  | nil => simp at hne
  | cons v l =>
    obtain ⟨c, e, fr, hx⟩ := cell_some (h 0 v rfl)
    rw [hm] at hx; cases hx
theorem SlAt.kpN {α : Type} {enc : α → List Value} {sz n : Nat} {W w' : World} {A : Option Addr} {xs : List α} {M : List Nat} (hW : SlAt enc sz W A n xs) (hk : Kp M W w') (hM : ∀ (k : Nat) (x : α), xs[k]? = some x → ∀ (b o : Nat), A = some ⟨b, o, none⟩ → b ∉ M) : SlAt enc sz w' A n xs :=
  ⟨hW.len, fun k x hx => by
    obtain ⟨b, o, hA, h1, hc⟩ := hW.el k x hx
    exact ⟨b, o, hA, Nat.lt_of_lt_of_le h1 hk.size, hc.kp hk (hM k x hx b o hA)⟩⟩
theorem SlAt.kpMap {α : Type} {enc : α → List Value} {sz n m : Nat} {W w' : World} {A : Option Addr} {xs : List α} {es : Array MapEntry} {clk : Nat} (hW : SlAt enc sz W A n xs) (hk : Kp [m] W w') (hm : W.heap[m]? = some (.map es clk)) (hne : ∀ x, 0 < (enc x).length) : SlAt enc sz w' A n xs :=
  hW.kpN hk (fun k x hx b o hA hb => by
    obtain ⟨b', o', hA', -, hc⟩ := hW.el k x hx
    rw [hA] at hA'
    simp only [Option.some.injEq, Addr.mk.injEq] at hA'
    obtain ⟨rfl, rfl, -⟩ := hA'
    simp only [List.mem_singleton] at hb
    exact hc.neM (hne x) hm hb)
/-! ### Marks among the deferred calls -/
def marks (ds : List Nat) : List (Nat × Option Obj) := ds.map (fun d => (d, some (.deferred (some []))))
def dmarks (ds : List Nat) : List Deferred := ds.map markOf
section
variable {N : Nat} {D : List Deferred} {T : List (Nat × Value)} {B B1 : List (Nat × Option Obj)} {M : List Nat} {w0 : World} {a : Act} {w : World} {P : Program}
theorem Sx.unmark {d : Nat} {a' : Act} (hs : Sx N D T (B1 ++ (d, some (.deferred (some []))) :: B) M w0 a w) (h1 : a'.tmps = a.tmps) {D' : List Deferred} (h2 : a'.defers = D') : Sx N D' T (B1 ++ B) M w0 a' (w.putObj d (.deferred none)) := by
  have h : Sx N D T ((d, some (.deferred (some []))) :: (B1 ++ B)) M w0 a w := hs.perm (List.perm_middle).symm
  have hb := (h.blk _ List.mem_cons_self _ rfl).2
  have hw := h.write (i := 0) (b := d) (o := .deferred (some [])) (o' := .deferred none) (w' := w.putObj d (.deferred none)) rfl (World.putObj_heap_same (lt_of_some hb)) (by simp [World.putObj]) (fun k hk => World.putObj_heap_other hk) rfl rfl rfl
  have hw := hw.blks (B' := B1 ++ B) (List.sublist_cons_self _ _)
  exact ⟨by rw [h1]; exact hw.size, h2, by rw [h1]; exact hw.tmp, hw.blk, hw.apart, hw.kp⟩
theorem leaves_marks {fn : Func} {R : Ending → World → Prop} {tmps : Array Value} : ∀ (ds : List Nat) (a : Act) (w : World), a.tmps = tmps → Sx N D T (B1 ++ marks ds) M w0 a w →
    (∀ a' w', a'.tmps = tmps → Sx N [] T B1 M w0 a' w' → ∃ v, (results fn tmps).run P w' = .ok v w' ∧ R (.returned v) w') → LeavesInM (Fx none) 0 P fn tmps R (dmarks ds) .returning w := by
  intro ds
  induction ds with
  | nil =>
    intro a w ht hs h
    obtain ⟨v, h1, h2⟩ := h { a with defers := [] } w ht (by
      have hs := hs.blks (B' := B1) (by simp [marks])
      exact ⟨hs.size, rfl, hs.tmp, hs.blk, hs.apart, hs.kp⟩)
    simp only [dmarks, List.map_nil, LeavesInM, LeavesIn]
    exact ⟨v, h1, h2⟩
  | cons d ds ih =>
    intro a w ht hs h
    have hb := (hs.blk (d, some (.deferred (some []))) (by simp [marks]) _ rfl).2
    simp only [dmarks, List.map_cons, LeavesInM]
    refine ⟨by simp, .inl ⟨d, _, rfl, run_takeDeferred hb, ?_⟩⟩
    exact ih a _ ht (Sx.unmark (a' := a) (D' := D) hs rfl hs.defers) h
/-- A call that has marks among its deferred calls returns. -/
theorem cd_retY {r : Option Nat} {fn : Func} {xs : List ResultVar} {vs : List Value} {R : Ending → World → Prop} {Q : Exit → Act → World → Prop} {ds : List Nat}
    (hs : Sx N (dmarks ds) T (B1 ++ marks ds) M w0 a w) (hQ : ∀ a w, bodyPostM (Fx none) 0 P fn R .ret a w → Q .ret a w) (hr : fn.results = ⟨xs⟩)
    (h : ∀ a w, Sx N [] T B1 M w0 a w → ResVs P T w xs vs) (hR : ∀ a w, Sx N [] T B1 M w0 a w → R (.returned (pack vs)) w) : Code.ret.wpIn (Fx r) 0 P Q a w := by
  refine wpIn_ret (hQ a w ?_)
  simp only [bodyPostM, hs.defers]
  refine leaves_marks ds a w rfl hs (fun a' w' ht hs' => ⟨pack vs, ?_, hR _ _ hs'⟩)
  rw [← ht]; exact run_results hs' hr (h _ _ hs')
theorem cd_retYv {r : Option Nat} {fn : Func} {xs : List ResultVar} {vs : List Value} {v : Value} {Q : Exit → Act → World → Prop} {ds : List Nat}
    (hs : Sx N (dmarks ds) T (B1 ++ marks ds) [] w0 a w) (hQ : ∀ a w, bodyPostM (Fx none) 0 P fn (Ret w0 (fun u bs => u = v ∧ bs = [])) .ret a w → Q .ret a w) (hr : fn.results = ⟨xs⟩)
    (h : ∀ a w, Sx N [] T B1 [] w0 a w → ResVs P T w xs vs) (hp : pack vs = v) : Code.ret.wpIn (Fx r) 0 P Q a w :=
  cd_retY hs hQ hr h (fun _ _ hs' => ⟨pack vs, [], rfl, hs'.kp, New.nil _ _, hp, rfl⟩)
theorem cd_retYb {r : Option Nat} {fn : Func} {xs : List ResultVar} {vs : List Value} {bs : List (Nat × Option Obj)} {post : Value → List (Nat × Option Obj) → Prop} {Q : Exit → Act → World → Prop} {ds : List Nat}
    (hs : Sx N (dmarks ds) T (B1 ++ marks ds) [] w0 a w) (hQ : ∀ a w, bodyPostM (Fx none) 0 P fn (Ret w0 post) .ret a w → Q .ret a w) (hr : fn.results = ⟨xs⟩)
    (h : ∀ a w, Sx N [] T B1 [] w0 a w → ResVs P T w xs vs) (hb : bs.Sublist B1) (hp : post (pack vs) bs) : Code.ret.wpIn (Fx r) 0 P Q a w :=
  cd_retY hs hQ hr h (fun _ _ hs' => ⟨pack vs, bs, rfl, hs'.kp, ⟨fun p hp o ho => by
    obtain ⟨h1, h2⟩ := hs'.blk p (hb.subset hp) o ho
    exact ⟨h1.resolve_left (by simp), h2⟩, hs'.apart.sublist hb⟩, hp⟩)
theorem cd_retYg {r : Option Nat} {fn : Func} {xs : List ResultVar} {vs : List Value} {B2 : List (Nat × Option Obj)} {ids : List Nat} {post : Value → List (Nat × Option Obj) → Prop} {Q : Exit → Act → World → Prop} {ds : List Nat}
    (hs : Sx N (dmarks ds) T (B1 ++ marks ds) ids w0 a w) (hQ : ∀ a w, bodyPostM (Fx none) 0 P fn (RetG w0 ids post) .ret a w → Q .ret a w) (hr : fn.results = ⟨xs⟩)
    (h : ∀ a w, Sx N [] T B1 ids w0 a w → ResVs P T w xs vs) (hsub : B2.Sublist B1) (hB : ∀ p ∈ B2, ∃ o, p.2 = some o) (hp : post (pack vs) B2) : Code.ret.wpIn (Fx r) 0 P Q a w :=
  cd_retY hs hQ hr h (fun _ _ hs' => ⟨pack vs, B2, rfl, hs'.kp, (hs'.blks hsub).told hB, fun p hp' => by
    obtain ⟨o, ho⟩ := hB p hp'
    exact (hs'.blk p (hsub.subset hp') o ho).1, hp⟩)
theorem enterGM {N : Nat} {f : FuncId} {fn : Func} {c : Code} {vs : List Value} {R : Ending → World → Prop} {C : List (Nat × Option Obj)} (w0 : World) (hf : P.funcs[f]? = some fn) (hb : fn.body = some c) (hN : fn.ntmps = N) (hv : Nat.ble vs.length N = true) (hC : Told C w0)
    (h : ∀ (Q : Exit → Act → World → Prop) (a : Act), (∀ a w, bodyPostM (Fx none) 0 P fn R .ret a w → Q .ret a w) → (∀ a w, bodyPostM (Fx none) 0 P fn R .normal a w → Q .normal a w) →
      Sx N [] (argsT 0 vs) C (C.map (·.1)) w0 a w0 → c.wpIn (Fx none) 0 P Q a w0) : Calls P f ⟨vs⟩ w0 R := by
  refine enterM (M := C.map (·.1)) w0 hf hb hN hv (fun Q a h1 h2 hs => h Q a h1 h2 ?_)
  refine ⟨hs.size, hs.defers, hs.tmp, fun p hp o ho => ⟨.inl (List.mem_map_of_mem hp), ?_⟩, hC.apart.imp (fun h => .inr (.inr h)), hs.kp⟩
  obtain ⟨o', ho', hw⟩ := hC.blk p hp
  rw [ho] at ho'
  cases ho'
  exact hw
end
section
variable {N : Nat} {D : List Deferred} {T : List (Nat × Value)} {B1 C : List (Nat × Option Obj)} {M : List Nat} {w0 : World} {a : Act} {w : World}
variable {P : Program} {r : Option Nat} {Q : Exit → Act → World → Prop} {K : Act → World → Prop}
variable {d : Nat} {ty : TypeId} {pos : String} {aft : Array Edge} {g : Option (Nat × Bool)}
/-- A call that may change blocks that stand first. -/
theorem st_callGF {post : Value → List (Nat × Option Obj) → Prop} {fo : Operand} {f : FuncId} {xs : List Operand} {vs args : List Value} {fi ca : List Value} {at_ : Array TypeId} (hs : Sx N D T (C ++ B1) M w0 a w)
    (hfo : Ev T fo (.func (.func f) ⟨fi⟩ ⟨ca⟩)) (hx : Evs T xs vs) (hd : Nat.blt d N = true) (hf : fresh d T = true)
    (hcf : ∀ (args : Array Value) (w : World), (callFunc f args).run P w = .ok (.enter f args) w) (ha : fi ++ (vs ++ ca) = args) (hC : ∀ p ∈ C, ∃ o, p.2 = some o)
    (hc : CallsG P f args C w post) (k : ∀ v B' a' w', post v B' → (∀ p ∈ B', ∃ o, p.2 = some o) → Sx N D ((d, v) :: T) (B' ++ B1) M w0 a' w' → K a' w') :
    (Oper.mk (some d) (.call { callee := .value fo, args := ⟨xs⟩, argTypes := at_ }) ty pos aft g).wpIn (Fx r) 0 P a w K Q :=
  st_callG (hs.perm List.perm_append_comm) hfo hx hd hf hcf ha hC hc (fun v B' a' w' h1 h2 h3 => k v B' a' w' h1 h2 (h3.perm List.perm_append_comm))
end
theorem own_tells {α : Type} {enc : α → List Value} {sz : Nat} {e : TypeId} {A : Option Addr} {c : Nat} {xs : List α} {b : Nat} {o : Option Obj} (h : Own enc sz e A c xs b o) {B : List (Nat × Option Obj)} {W : World} (ht : tells B W) (i : Nat) (hb : nth B i = some (b, o)) : SlAt enc sz W A xs.length xs := by
  refine ⟨rfl, fun j x hx => ?_⟩
  obtain ⟨h1, l, rfl, h3⟩ := h.open hx
  have h4 := ht _ (mem_nth hb) _ rfl
  refine ⟨b, 0, h1, lt_of_some h4, ?_⟩
  rw [Nat.zero_add]
  exact h3.at (CellsAt.of_block h4) hx
/-! ### The loop -/
/-- How a round may end: it goes on, or leaves the loop by a jump. -/
def roundY (N : Nat) (Inv : Nat → List (Nat × Option Obj) → Prop) (Out : Code → List (Nat × Option Obj) → Prop) (i : Nat) (M : List Nat) (W2 : World) : Exit → Act → World → Prop
  | .normal, a, w => ∃ B0 T B, Inv (i + 1) B0 ∧ (∀ p ∈ B0, p ∈ B) ∧ Sx N [] T B M W2 a w
  | .ret, a, w => ∃ B0 T B, Out .ret B0 ∧ (∀ p ∈ B0, p ∈ B) ∧ Sx N [] T B M W2 a w
  | .exit id, a, w => ∃ B0 T B, Out (.exit id) B0 ∧ (∀ p ∈ B0, p ∈ B) ∧ Sx N [] T B M W2 a w
  | _, _, _ => False
theorem cd_rangeY {α : Type} {N : Nat} {g : Operand} {ps : List Tmp} {assign body : Code} {Q : Exit → Act → World → Prop} {a : Act} {w w0 : World} {P : Program} {D : List Deferred} {M : List Nat} {T : List (Nat × Value)} {f : FuncId} {lb : List Value} {Rd : World → Prop} {Bs : List (Nat × Option Obj)}
    (encs : α → List Value) (xs : List α) (Inv : Nat → List (Nat × Option Obj) → Prop) (Out : Code → List (Nat × Option Obj) → Prop) (ids : List Nat)
    (hs : Sx N D T Bs M w0 a w) (hg : Ev T g (.func (.func f) #[] ⟨lb⟩)) (eg : ∀ args w, (callFunc f args).run P w = .ok (.enter f args) w) (hseq : Seq P f lb encs xs Rd)
    (h0 : Inv 0 Bs) (hids : ∀ i B, Inv i B → B.map (·.1) = ids ∧ isSome1 B = true) (hidx : ∀ c B, Out c B → B.map (·.1) = ids ∧ isSome1 B = true)
    (hps : ∀ x, (encs x).length = ps.length) (hpl : ps.all (fun p => Nat.blt p N && fresh p T) = true) (hnd : ps.Nodup)
    (hrd : ∀ i B W, Inv i B → Kp M w0 W → tells B W → Rd W)
    (hround : ∀ l i x B a' W, xs[i]? = some x → Inv i B → Kp M w0 W → Sx N [] (ps.zip (encs x) ++ T) B ids W a' W →
      assign.wpIn (Fx (some l)) 0 P (Exit.then (fun a1 W1 => ∃ T1 B1, Sx N [] T1 B1 ids W a1 W1 ∧ isSome1 B1 = true ∧ ∀ W2, Kp M w0 W2 → (∀ k ∈ B1.map (·.1), k ∈ M ∨ w0.heap.size ≤ k) → Sx N [] T1 B1 (B1.map (·.1)) W2 a1 W2 →
        body.wpIn (Fx (some l)) 0 P (roundY N Inv Out i (B1.map (·.1)) W2) a1 W2) (fun _ _ _ => False)) a' W)
    (hdone : ∀ d B a' w', Inv xs.length B → Sx N (markOf d :: D) T ((d, some (.deferred (some []))) :: B) M w0 a' w' → Q .normal a' w')
    (hstop : ∀ d c B a' w', Out c B → Sx N (markOf d :: D) T ((d, some (.deferred (some []))) :: B) M w0 a' w' → c.wpIn (Fx none) 0 P Q a' w') :
    (Code.rangeFunc g ps.toArray assign body).wpIn (Fx none) 0 P Q a w := by
  refine wpIn_rangeFunc ?_
  intro fn hfn
  show ∃ l mark w₁ d w₁' f args w₂, (Instr.enterLoop fn a.tmps ps.toArray assign body none).run P w = .ok (l, mark) w₁ ∧ _
  obtain ⟨rec, hrec⟩ : ∃ rec : LoopState → Option Code → Loop, rec = fun st pe => { state := st, pending := pe, fn, tmps := a.tmps, params := ps.toArray, assign, body, defers := w.heap.size } := ⟨_, rfl⟩
  obtain ⟨W1, hW1⟩ : ∃ W1, (w.alloc (.deferred (some []))).alloc (.loop (rec .ready none)) = W1 := ⟨_, rfl⟩
  have hL1 : W1.heap[w.heap.size + 1]? = some (.loop (rec .ready none)) := by
    rw [← hW1]; have := World.alloc_heap_new (w.alloc (.deferred (some []))) (.loop (rec .ready none)); rwa [World.size_alloc] at this
  have hK1 : W1.heap[w.heap.size]? = some (.deferred (some [])) := by
    rw [← hW1]; exact (RowKit.Below.heap_alloc _ _ _ (by simp)).trans (World.alloc_heap_new w _)
  have hkw : Kp [] w W1 := by rw [← hW1]; exact (Kp.push [] w _).trans (Kp.push [] _ _)
  have hsz1 : W1.heap.size = w.heap.size + 2 := by rw [← hW1]; simp
  have hblk0 := hs.blk
  have hI0 := hids 0 Bs h0
  have hidlt : ∀ k ∈ ids, (k ∈ M ∨ w0.heap.size ≤ k) ∧ k < w.heap.size := fun k hk => by
    rw [← hI0.1] at hk
    obtain ⟨p, hp, rfl⟩ := List.mem_map.1 hk
    obtain ⟨o, ho⟩ := Option.isSome_iff_exists.1 (List.all_eq_true.1 hI0.2 p hp)
    have := hblk0 p hp o ho
    exact ⟨this.1, lt_of_some this.2⟩
  have hw0w := hs.kp.size
  let J : Nat → World → Prop := fun i A => ∃ B, Inv i B ∧ Kp M w0 A ∧ tells B A ∧ A.heap[w.heap.size + 1]? = some (.loop (rec .ready none)) ∧ A.heap[w.heap.size]? = some (.deferred (some []))
  let R : World → Prop := fun A => ∃ c B, Out c B ∧ Kp M w0 A ∧ tells B A ∧ A.heap[w.heap.size + 1]? = some (.loop (rec .done (some c))) ∧ A.heap[w.heap.size]? = some (.deferred (some []))
  have kpSm : ∀ {A B : World}, Kp M w0 A → Sm W1.heap.size A B → Kp M w0 B := fun hk hm =>
    ⟨hm.os.trans hk.os, hm.tape.trans hk.tape, hm.output.trans hk.output, Nat.le_trans hk.size hm.size, fun k hkk h => (hm.block k (by omega)).trans (hk.block k hkk h)⟩
  have tellSm : ∀ {A B : World} {Bl : List (Nat × Option Obj)}, Bl.map (·.1) = ids → tells Bl A → Sm W1.heap.size A B → tells Bl B := fun he ht hm p hp o ho => by
    rw [hm.block p.1 (by have := hidlt p.1 (he ▸ List.mem_map_of_mem hp); omega)]; exact ht p hp o ho
  have hW1K : Kp M w0 W1 := hs.kp.trans hkw.nil
  have ht0 : tells Bs w := fun p hp o ho => (hblk0 p hp o ho).2
  have ht1 : tells Bs W1 := fun p hp o ho => hkw.at (ht0 p hp o ho) (by simp)
  have hapids : ids.Pairwise (· ≠ ·) := by
    rw [← hI0.1, List.pairwise_map]
    refine hs.apart.imp_of_mem (fun {p q} hp hq h => ?_)
    have e1 := List.all_eq_true.1 hI0.2 p hp
    have e2 := List.all_eq_true.1 hI0.2 q hq
    rcases h with h | h | h
    · rw [h] at e1; cases e1
    · rw [h] at e2; cases e2
    · exact h
  have hapB : ∀ B : List (Nat × Option Obj), B.map (·.1) = ids → B.Pairwise (fun p q => p.2 = none ∨ q.2 = none ∨ p.1 ≠ q.1) := by
    intro B hB
    have h0 := hapids
    rw [← hB, List.pairwise_map] at h0
    exact h0.imp (fun h => .inr (.inr h))
  refine ⟨w.heap.size + 1, [{ target := .collected w.heap.size, args := #[] }], W1, { target := .fn (.func f) ⟨lb⟩, args := #[.func (.yield (w.heap.size + 1)) #[] #[]] }, W1, f,
    ⟨[.func (.yield (w.heap.size + 1)) #[] #[]] ++ lb⟩, W1, ?_, ?_, fun _ _ => trivial, ?_, fun h => by simp [Fx, Fence.wide] at h, ?_⟩
  · rw [← hW1, hrec]; exact run_enterLoop_outer _ _ _ _ _
  · simp only [resolve, hs.ev hg]
    simp [go_sem]
  · simp [invoke, go_sem, eg]
  · have hsq := fun c1 c2 c3 c4 => hseq (w.heap.size + 1) J R W1 c1 c2 c3 c4 ⟨Bs, h0, hW1K, ht1, hL1, hK1⟩
    refine calls_in none _ (Calls.mono (hsq ?_ ?_ ?_ ?_) ?_)
    · rintro i A B ⟨Bl, h1, h2, h3, h4, h5⟩ hm
      exact ⟨Bl, h1, kpSm h2 hm, tellSm (hids i Bl h1).1 h3 hm, (hm.block _ (by omega)).trans h4, (hm.block _ (by omega)).trans h5⟩
    · rintro A B ⟨c, Bl, h1, h2, h3, h4, h5⟩ hm
      exact ⟨c, Bl, h1, kpSm h2 hm, tellSm (hidx c Bl h1).1 h3 hm, (hm.block _ (by omega)).trans h4, (hm.block _ (by omega)).trans h5⟩
    · rintro i A ⟨Bl, h1, h2, h3, -, -⟩
      exact hrd i Bl A h1 h2 h3
    · -- one round
      rintro i x W hx hWs ⟨Bi, hpi, hkW, htW, hl, hk⟩
      have hBi := hids i Bi hpi
      have hlt : w.heap.size + 1 < W.heap.size := lt_of_some hl
      have hy := run_yield (P := P) (args := ⟨encs x⟩) hl (by rw [hrec]; simp [hps x])
      rw [hrec] at hy
      refine ⟨fn, _, assign, body, hy, roundIn_of_wpIn hfn ?_⟩
      have hsr : Sx N [] (ps.zip (encs x) ++ T) Bi ids W { tmps := (ps.toArray.zip ⟨encs x⟩).foldl (fun t (p, v) => t.setIfInBounds p v) a.tmps, defers := [] } W := by
        have hz : ps.toArray.zip ⟨encs x⟩ = (ps.zip (encs x)).toArray := by simp
        rw [hz]
        simp only [List.foldl_toArray]
        have gen : ∀ (ps : List Tmp) (vs : List Value) (t : Array Value), t.size = N → ps.length = vs.length → ps.Nodup → (ps.all (fun p => Nat.blt p N && fresh p T) = true) → (∀ p ∈ T, t[p.1]? = some p.2) →
            ((ps.zip vs).foldl (fun t (x : Tmp × Value) => t.setIfInBounds x.1 x.2) t).size = N ∧ (∀ p ∈ T, ((ps.zip vs).foldl (fun t (x : Tmp × Value) => t.setIfInBounds x.1 x.2) t)[p.1]? = some p.2) ∧
            (∀ p ∈ ps.zip vs, ((ps.zip vs).foldl (fun t (x : Tmp × Value) => t.setIfInBounds x.1 x.2) t)[p.1]? = some p.2) ∧ (∀ k, k ∉ ps → ((ps.zip vs).foldl (fun t (x : Tmp × Value) => t.setIfInBounds x.1 x.2) t)[k]? = t[k]?) := by
          intro ps
          induction ps with
          | nil => intro vs t h1 _ _ _ h3; exact ⟨h1, h3, fun p hp => by simp at hp, fun _ _ => rfl⟩
          | cons q ps ih =>
            intro vs t h1 hlen hnd hal h3
            cases vs with
            | nil => simp at hlen
            | cons v vs =>
              simp only [List.all_cons, Bool.and_eq_true] at hal
              obtain ⟨⟨hq1, hq2⟩, hal⟩ := hal
              have hqN : q < N := by simpa [Nat.blt_eq] using hq1
              rw [List.nodup_cons] at hnd
              obtain ⟨i1, i2, i3, i4⟩ := ih vs (t.setIfInBounds q v) (by simpa using h1) (by simpa using hlen) hnd.2 hal (fun p hp => by rw [Array.getElem?_setIfInBounds_ne (fun e => fresh_ne hq2 p hp e.symm)]; exact h3 p hp)
              refine ⟨i1, i2, fun p hp => ?_, fun k hk => ?_⟩
              · rw [List.zip_cons_cons] at hp
                rcases List.mem_cons.1 hp with rfl | hp
                · rw [List.zip_cons_cons, List.foldl_cons, i4 _ hnd.1, Array.getElem?_setIfInBounds_self_of_lt (Nat.lt_of_lt_of_eq hqN h1.symm)]
                · exact i3 p hp
              · rw [List.zip_cons_cons, List.foldl_cons, i4 k (fun h => hk (by simp [h])), Array.getElem?_setIfInBounds_ne (fun e => hk (by simp [e]))]
        obtain ⟨g1, g2, g3, -⟩ := gen ps (encs x) a.tmps hs.size (hps x).symm hnd hpl hs.tmp
        refine ⟨g1, rfl, fun p hp => ?_, fun p hp o ho => ⟨.inl (by rw [← hBi.1]; exact List.mem_map_of_mem hp), htW p hp o ho⟩, hapB _ hBi.1, Kp.refl _ _⟩
        rcases List.mem_append.1 hp with hp | hp
        · exact g3 p hp
        · exact g2 p hp
      refine wpIn_mono (hround _ i x Bi _ W hx hpi hkW hsr) ?_
      rintro e a1 Wa he
      cases e with
      | normal =>
        obtain ⟨T1, B1, hs1, hsm1, hbody⟩ := he
        have hl' : Wa.heap[w.heap.size + 1]? = some (.loop (rec .ready none)) := hs1.kp.at hl (fun h => by have := hidlt _ h; omega)
        have hk' : Wa.heap[w.heap.size]? = some (.deferred (some [])) := hs1.kp.at hk (fun h => by have := hidlt _ h; omega)
        have hlt' : w.heap.size + 1 < Wa.heap.size := lt_of_some hl'
        have ht1' : tells B1 Wa := fun p hp o ho => (hs1.blk p hp o ho).2
        have hB1lo : ∀ k ∈ B1.map (·.1), (k ∈ M ∨ w0.heap.size ≤ k) ∧ (k ∈ ids ∨ W.heap.size ≤ k) := fun k hk' => by
          obtain ⟨p, hp, rfl⟩ := List.mem_map.1 hk'
          obtain ⟨o, ho⟩ := Option.isSome_iff_exists.1 (List.all_eq_true.1 hsm1 p hp)
          rcases (hs1.blk p hp o ho).1 with h | h
          · exact ⟨(hidlt _ h).1, .inl h⟩
          · exact ⟨.inr (by omega), .inr h⟩
        have hnl : w.heap.size + 1 ∉ B1.map (·.1) := fun h => by rcases (hB1lo _ h).2 with h | h; (have := hidlt _ h; omega); omega
        have hnk : w.heap.size ∉ B1.map (·.1) := fun h => by rcases (hB1lo _ h).2 with h | h; (have := hidlt _ h; omega); omega
        refine ⟨_, run_beginRound hl' (by rw [hrec]), ?_⟩
        obtain ⟨W2, hW2⟩ : ∃ W2, Wa.putObj (w.heap.size + 1) (.loop { rec .ready none with state := .busy }) = W2 := ⟨_, rfl⟩
        rw [hW2]
        have hl2 : W2.heap[w.heap.size + 1]? = some (.loop { rec .ready none with state := .busy }) := by rw [← hW2]; exact World.putObj_heap_same hlt'
        have hk2 : W2.heap[w.heap.size]? = some (.deferred (some [])) := by rw [← hW2]; exact (World.putObj_heap_other (by omega)).trans hk'
        have hWa2 : Kp [w.heap.size + 1] Wa W2 := by rw [← hW2]; exact putObj_kp (by simp)
        have hs2 : Sx N [] T1 B1 (B1.map (·.1)) W2 a1 W2 := by
          refine ⟨hs1.size, hs1.defers, hs1.tmp, fun p hp o ho => ⟨.inl (List.mem_map_of_mem hp), ?_⟩, hs1.apart, Kp.refl _ _⟩
          exact hWa2.at (ht1' p hp o ho) (fun h => by simp at h; exact hnl (h ▸ List.mem_map_of_mem hp))
        have hk0a : Kp M w0 Wa := hkW.viaM hs1.kp (fun q hq => (hidlt q hq).1)
        have hk02 : Kp M w0 W2 := hk0a.viaM hWa2 (fun q hq => by simp at hq; omega)
        refine wpIn_mono (hbody W2 hk02 (fun k hk => (hB1lo k hk).1) hs2) ?_
        have after : ∀ {T' : List (Nat × Value)} {B' : List (Nat × Option Obj)} {a3 : Act} {W3 : World} (jump : Option Code) (st : LoopState), st = (if jump.isNone then .ready else .done) → Sx N [] T' B' (B1.map (·.1)) W2 a3 W3 →
            ∃ W4, (Instr.endRound (w.heap.size + 1) jump).run P W3 = .ok (.bool jump.isNone) W4 ∧ Kp M w0 W4 ∧ (∀ Bl : List (Nat × Option Obj), Bl.map (·.1) = ids → (∀ p ∈ Bl, p ∈ B') → tells Bl W4) ∧
              W4.heap[w.heap.size + 1]? = some (.loop (rec st jump)) ∧ W4.heap[w.heap.size]? = some (.deferred (some [])) ∧ Up W1.heap.size W W4 := by
          intro T' B' a3 W3 jump st hst hs3
          have hl3 := hs3.kp.at hl2 hnl
          have hk3 := hs3.kp.at hk2 hnk
          have hend := run_endRound (P := P) jump hl3
          rw [hrec] at hend hl3
          refine ⟨_, hend, ?_, ?_, ?_, ?_, ?_⟩
          · have h3 : Kp M w0 W3 := hk02.viaM hs3.kp (fun q hq => (hB1lo q hq).1)
            exact h3.viaM (putObj_kp (M := [w.heap.size + 1]) (by simp)) (fun q hq => by simp at hq; omega)
          · intro Bl hBl hsub p hp o ho
            rw [World.putObj_heap_other (by have := hidlt p.1 (hBl ▸ List.mem_map_of_mem hp); omega)]
            exact (hs3.blk p (hsub p hp) o ho).2
          · rw [hrec, hst]; exact World.putObj_heap_same (lt_of_some hl3)
          · exact (World.putObj_heap_other (by omega)).trans hk3
          · refine ⟨?_, fun k hk1 hk2 => ?_⟩
            · have e1 := hs1.kp.size; have e2 := hWa2.size; have e3 := hs3.kp.size
              simp only [World.putObj, Array.size_setIfInBounds]; omega
            · rw [World.putObj_heap_other (by omega)]
              have e1 := hs1.kp.size; have e2 := hWa2.size
              rw [hs3.kp.block k (by omega) (fun h => by rcases (hB1lo _ h).2 with h | h; (have := hidlt _ h; omega); omega)]
              rw [hWa2.block k (by omega) (by simp; omega)]
              exact hs1.kp.block k hk2 (fun h => by have := hidlt _ h; omega)
        rintro e a3 W3 hp
        cases e with
        | normal =>
          obtain ⟨B0, T', B', hpi', hsub, hs3⟩ := hp
          obtain ⟨W4, hend, h1, h2, h3, h4, h5⟩ := after none .ready rfl hs3
          exact ⟨_, W4, hend, true, rfl, h5, fun _ => ⟨B0, hpi', h1, h2 _ (hids _ _ hpi').1 hsub, h3, h4⟩, nofun⟩
        | ret =>
          obtain ⟨B0, T', B', hpx, hsub, hs3⟩ := hp
          obtain ⟨W4, hend, h1, h2, h3, h4, h5⟩ := after (some .ret) .done rfl hs3
          exact ⟨_, W4, hend, false, rfl, h5, nofun, fun _ => ⟨_, B0, hpx, h1, h2 _ (hidx _ _ hpx).1 hsub, h3, h4⟩⟩
        | exit id =>
          obtain ⟨B0, T', B', hpx, hsub, hs3⟩ := hp
          obtain ⟨W4, hend, h1, h2, h3, h4, h5⟩ := after (some (.exit id)) .done rfl hs3
          exact ⟨_, W4, hend, false, rfl, h5, nofun, fun _ => ⟨_, B0, hpx, h1, h2 _ (hidx _ _ hpx).1 hsub, h3, h4⟩⟩
        | goto t => exact hp.elim
        | panic ch => exact hp.elim
        | outgrown => exact hp.elim
      | exit id => exact he.elim
      | goto t => exact he.elim
      | ret => exact he.elim
      | panic ch => exact he.elim
      | outgrown => exact he.elim
    · -- behind the iterator
      rintro e W2 ⟨⟨v, rfl⟩, (⟨Bl, hpi, hkW, htW, hl, hk⟩ | ⟨c, Bl, hpx, hkW, htW, hl, hk⟩)⟩
      all_goals
        have fin : ∀ (Bl : List (Nat × Option Obj)), Bl.map (·.1) = ids → tells Bl W2 → ∀ o : Obj,
            Sx N (markOf w.heap.size :: D) T ((w.heap.size, some (.deferred (some []))) :: Bl) M w0 { a with defers := markOf w.heap.size :: a.defers } (W2.putObj (w.heap.size + 1) o) := fun Bl he ht o => by
          have hne : ∀ p ∈ Bl, (p.1 ∈ M ∨ w0.heap.size ≤ p.1) ∧ p.1 < w.heap.size := fun p hp => hidlt _ (he ▸ List.mem_map_of_mem hp)
          refine ⟨hs.size, by rw [show a.defers = D from hs.defers], hs.tmp, fun p hp o' ho => ?_, List.pairwise_cons.2 ⟨fun p hp => .inr (.inr (by have := hne p hp; simp only; omega)), hapB _ he⟩, ?_⟩
          · rcases List.mem_cons.1 hp with rfl | hp
            · simp only [Option.some.injEq] at ho
              subst ho
              exact ⟨.inr hw0w, (World.putObj_heap_other (by simp only; omega)).trans hk⟩
            · exact ⟨(hne p hp).1, (World.putObj_heap_other (by have := hne p hp; omega)).trans (ht p hp o' ho)⟩
          · exact hkW.viaM (putObj_kp (M := [w.heap.size + 1]) (by simp)) (fun q hq => by simp at hq; omega)
      · exact ⟨none, _, by have := run_endLoop (P := P) hl (by rw [hrec]; simp); rw [hrec] at this; exact this, hdone _ Bl _ _ hpi (fin _ (hids _ _ hpi).1 htW _)⟩
      · exact ⟨some c, _, by have := run_endLoop (P := P) hl (by rw [hrec]; simp); rw [hrec] at this; exact this, hstop _ c Bl _ _ hpx (fin _ (hidx _ _ hpx).1 htW _)⟩
end Go.Sx
