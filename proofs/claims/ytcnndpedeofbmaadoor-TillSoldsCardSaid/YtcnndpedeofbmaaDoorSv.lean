/-
  REGIONS THAT DRAW THEIR ORDER: special operations in whatever order their edges leave; what is told follows which of them are done.
-/
import Derived.Test.YtcnndpedeofbmaaDoorSy
set_option maxRecDepth 100000
namespace Go.Sx
open Go
/-- What is told when some of the special operations are done (a flag for each): x is what the run chose. -/
structure SpecD where
  X : Type
  T : List Bool → X → List (Nat × Value)
  B : List Bool → X → List (Nat × Option Obj)
def flags (sp : List Nat) (L : List Nat) : List Bool := sp.map (fun j => L.any (fun i => Nat.beq i j))
def fullF (sp : List Nat) : List Bool := sp.map (fun _ => true)
def setF (sp : List Nat) (d : List Bool) (k : Nat) : List Bool := List.zipWith (fun j b => Nat.beq k j || b) sp d
def flagOf (sp : List Nat) (d : List Bool) (j : Nat) : Bool := (sp.zip d).any (fun p => Nat.beq p.1 j && p.2)
def okD (ops : Array Oper) (sp : List Nat) (d : List Bool) : Bool := sp.all (fun k => !flagOf sp d k || sp.all (fun j => !edge ops k j || flagOf sp d j))
def rdyD (ops : Array Oper) (sp : List Nat) (d : List Bool) (k : Nat) : Bool := !flagOf sp d k && sp.all (fun j => !edge ops k j || flagOf sp d j)
def allF : Nat → List (List Bool)
  | 0 => [[]]
  | n + 1 => (allF n).flatMap (fun d => [false :: d, true :: d])
def tblOk (ops : Array Oper) (sp : List Nat) (tbl : Nat → List (List Bool)) : Bool := sp.all (fun k => (allF sp.length).all (fun d => !(okD ops sp d && rdyD ops sp d k) || (tbl k).any (fun d' => d' == d)))
theorem allF_mem : ∀ d : List Bool, d ∈ allF d.length := by
  intro d
  induction d with
  | nil => simp [allF]
  | cons b d ih => simp only [List.length_cons, allF, List.mem_flatMap]; exact ⟨d, ih, by cases b <;> simp⟩
theorem flags_len (sp L : List Nat) : (flags sp L).length = sp.length := by simp [flags]
theorem zip_map_self {α β : Type} (f : α → β) : ∀ l : List α, l.zip (l.map f) = l.map (fun x => (x, f x)) := by
  intro l
  induction l with
  | nil => rfl
  | cons x l ih => simp [ih]
theorem flagOf_mem {sp L : List Nat} {j : Nat} (hj : j ∈ sp) : flagOf sp (flags sp L) j = true ↔ j ∈ L := by
  simp only [flagOf, flags, zip_map_self, List.any_map, List.any_eq_true, Function.comp, Bool.and_eq_true]
  constructor
  · rintro ⟨k, -, hk, i, hi, hik⟩
    rw [← Nat.eq_of_beq_eq_true hk, ← Nat.eq_of_beq_eq_true hik]; exact hi
  · intro h; exact ⟨j, hj, by simp, j, h, by simp⟩
theorem flags_sp {sp L : List Nat} {i : Nat} : flags sp (i :: L) = setF sp (flags sp L) i := by
  simp only [flags, setF]
  induction sp with
  | nil => rfl
  | cons j sp ih => simp only [List.map_cons, List.zipWith_cons_cons, ih]; rfl
theorem flags_ord {sp L : List Nat} {i : Nat} (h : isS sp i = false) : flags sp (i :: L) = flags sp L := by
  refine List.map_congr_left (fun j hj => ?_)
  have : Nat.beq i j = false := by
    cases hb : Nat.beq i j with
    | false => rfl
    | true =>
      have e := Nat.eq_of_beq_eq_true hb
      subst e
      have : isS sp i = true := List.any_eq_true.2 ⟨i, hj, by simp⟩
      rw [h] at this; cases this
  simp [this]
theorem tblOk_mem {ops : Array Oper} {sp : List Nat} {tbl : Nat → List (List Bool)} (h : tblOk ops sp tbl = true) {k : Nat} (hk : k ∈ sp) {d : List Bool} (hl : d.length = sp.length) (h1 : okD ops sp d = true) (h2 : rdyD ops sp d k = true) : d ∈ tbl k := by
  simp only [tblOk, List.all_eq_true] at h
  have := h k hk d (hl ▸ allF_mem d)
  rw [h1, h2] at this
  simpa using this
theorem spLt {sp : List Nat} {n : Nat} (h : sp.all (fun j => Nat.blt j n) = true) : ∀ j ∈ sp, j < n := fun j hj => by
  have := List.all_eq_true.1 h j hj; simpa [Nat.blt_eq] using this
def AllD (f : List Bool → Prop) : List (List Bool) → Prop
  | [] => True
  | d :: ds => f d ∧ AllD f ds
theorem allD_mem {f : List Bool → Prop} : ∀ {ds : List (List Bool)} {d : List Bool}, AllD f ds → d ∈ ds → f d := by
  intro ds
  induction ds with
  | nil => intro d _ h; cases h
  | cons e ds ih => intro d h hd; rcases List.mem_cons.1 hd with rfl | hd; exact h.1; exact ih h.2 hd
section
variable {N : Nat} {D : List Deferred} {M : List Nat} {w0 : World} {P : Program} {r : Option Nat} {Q : Exit → Act → World → Prop}
def ObD (N : Nat) (D : List Deferred) (M : List Nat) (w0 : World) (P : Program) (r : Option Nat) (Q : Exit → Act → World → Prop) (ops : Array Oper) (Φ : List Op1) (T0 : List (Nat × Value)) (B0 : List (Nat × Option Obj)) (sp : List Nat) (S : SpecD) (k : Nat) (e : Op1) (d : List Bool) : Prop :=
  ∀ (T : List (Nat × Value)) (B : List (Nat × Option Obj)) (a : Act) (w : World) (K : Act → World → Prop) (x : S.X), (∀ p ∈ T0, p ∈ T) → (∀ p ∈ B0, p ∈ B) →
    Deps Φ T B e.nd (fresh e.d T = true → Sx N D (S.T d x ++ T) (S.B d x ++ B) M w0 a w → (∀ x' a' w', Sx N D (S.T (setF sp d k) x' ++ T) (S.B (setF sp d k) x' ++ B) M w0 a' w' → K a' w') → wpOpIn (Fx r) 0 P ops Q k K a w)
def ObsD (N : Nat) (D : List Deferred) (M : List Nat) (w0 : World) (P : Program) (r : Option Nat) (Q : Exit → Act → World → Prop) (ops : Array Oper) (Φ : List Op1) (T0 : List (Nat × Value)) (B0 : List (Nat × Option Obj)) (sp : List Nat) (S : SpecD) (tbl : Nat → List (List Bool)) : Nat → List Op1 → Prop
  | _, [] => True
  | k, e :: l => match isS sp k with
    | false => Ob N D M w0 P r Q ops Φ T0 B0 k e ∧ ObsD N D M w0 P r Q ops Φ T0 B0 sp S tbl (k + 1) l
    | true => AllD (ObD N D M w0 P r Q ops Φ T0 B0 sp S k e) (tbl k) ∧ ObsD N D M w0 P r Q ops Φ T0 B0 sp S tbl (k + 1) l
def headD (ops : Array Oper) (sp : List Nat) (T0 : List (Nat × Value)) : Nat → List Op1 → Bool
  | _, [] => true
  | k, e :: l => ((ops[k]?).map (fun o => o.after.all (fun x => !Region.binds .any x || Nat.blt x.on k))).getD false && e.nd.all (fun j => edge ops k j && !isS sp j) && l.all (fun e' => !Nat.beq e.d e'.d) && fresh e.d T0 && headD ops sp T0 (k + 1) l
/-- What the special ones tell is of their own places. -/
def OwnD (Φ : List Op1) (sp : List Nat) (S : SpecD) : Prop := ∀ d x, (S.T d x).all (fun p => sp.any (fun j => ((nth Φ j).map (fun e => Nat.beq e.d p.1)).getD false)) = true
theorem obsD_nth {ops : Array Oper} {Φ0 : List Op1} {T0 : List (Nat × Value)} {B0 : List (Nat × Option Obj)} {sp : List Nat} {S : SpecD} {tbl : Nat → List (List Bool)} : ∀ {l : List Op1} {k j : Nat} {e : Op1}, ObsD N D M w0 P r Q ops Φ0 T0 B0 sp S tbl k l → nth l j = some e →
    (isS sp (k + j) = false → Ob N D M w0 P r Q ops Φ0 T0 B0 (k + j) e) ∧ (isS sp (k + j) = true → AllD (ObD N D M w0 P r Q ops Φ0 T0 B0 sp S (k + j) e) (tbl (k + j))) := by
  intro l
  induction l with
  | nil => intro k j e _ h; cases h
  | cons x l ih =>
    intro k j e h hj
    cases j with
    | zero =>
      simp only [nth, Option.some.injEq] at hj; subst hj
      rw [Nat.add_zero]
      cases hb : isS sp k with
      | false => simp only [ObsD, hb] at h; exact ⟨fun _ => h.1, fun hx => by cases hx⟩
      | true => simp only [ObsD, hb] at h; exact ⟨fun hx => (by cases hx), fun _ => h.1⟩
    | succ j =>
      rw [show k + (j + 1) = k + 1 + j from by omega]
      cases hb : isS sp k with
      | false => simp only [ObsD, hb] at h; exact ih h.2 hj
      | true => simp only [ObsD, hb] at h; exact ih h.2 hj
theorem headD_nth {ops : Array Oper} {sp : List Nat} {T0 : List (Nat × Value)} : ∀ {l : List Op1} {k j : Nat} {e : Op1}, headD ops sp T0 k l = true → nth l j = some e → HeadSt ops sp T0 (k + j) e := by
  intro l
  induction l with
  | nil => intro k j e _ h; cases h
  | cons x l ih =>
    intro k j e h hj
    simp only [headD, Bool.and_eq_true] at h
    obtain ⟨⟨⟨⟨h3, h4⟩, _⟩, h5⟩, h6⟩ := h
    cases j with
    | zero =>
      simp only [nth, Option.some.injEq] at hj
      subst hj
      refine ⟨?_, ?_, ?_⟩
      · cases ho : ops[k]? with
        | none => rw [ho] at h3; cases h3
        | some o =>
          rw [ho] at h3
          simp only [Option.map_some, Option.getD_some, Array.all_eq_true_iff_forall_mem] at h3
          refine ⟨o, rfl, fun y hy hb => ?_⟩
          have := h3 y hy
          rw [hb] at this
          simpa using this
      · intro j hj
        have := List.all_eq_true.1 h4 j hj
        simpa using this
      · exact h5
    | succ j =>
      rw [show k + (j + 1) = k + 1 + j from by omega]
      exact ih h6 hj
theorem headD_ne {ops : Array Oper} {sp : List Nat} {T0 : List (Nat × Value)} : ∀ {l : List Op1} {k i j : Nat} {e e' : Op1}, headD ops sp T0 k l = true → nth l i = some e → nth l j = some e' → i < j → e.d ≠ e'.d := by
  intro l
  induction l with
  | nil => intro k i j e e' _ h; cases h
  | cons x l ih =>
    intro k i j e e' h hi hj hlt
    simp only [headD, Bool.and_eq_true] at h
    obtain ⟨⟨⟨_, h5⟩, _⟩, h6⟩ := h
    cases j with
    | zero => omega
    | succ j => cases i with
      | zero =>
        simp only [nth, Option.some.injEq] at hi
        subst hi
        simp only [List.all_eq_true, Bool.not_eq_true'] at h5
        have := h5 e' (mem_nth hj)
        intro he
        rw [he] at this
        simp at this
      | succ i =>
        exact ih h6 hi hj (by omega)
theorem headD_any {ops : Array Oper} {Φ : List Op1} {T0 : List (Nat × Value)} {B0 : List (Nat × Option Obj)} {sp : List Nat} {S : SpecD} {tbl : Nat → List (List Bool)} (hh : headD ops sp T0 0 Φ = true) (hspn : sp.all (fun j => Nat.blt j Φ.length) = true) (hown : OwnD Φ sp S) (htb : tblOk ops sp tbl = true) (ht : tailOkP ops Φ.length = true)
    (ho : ObsD N D M w0 P r Q ops Φ T0 B0 sp S tbl 0 Φ)
    (k : EachS sp 0 Φ (fun T B => ∀ x a' w', Sx N D (S.T (fullF sp) x ++ (T ++ T0)) (S.B (fullF sp) x ++ (B ++ B0)) M w0 a' w' → tailWp P r Q ops (ops.size - Φ.length) Φ.length a' w')) :
    ∀ (U : List Nat) (u : Nat) (L : List (Nat × Value × List (Nat × Option Obj))) (listed : Array Bool) (a : Act) (w : World) (x : S.X), U.length = u →
      (L.map (·.1) ++ U).Perm (List.range' 0 Φ.length) → (∀ x ∈ L, ∃ e, nth Φ x.1 = some e ∧ (isS sp x.1 = false → e.φ x.2.1 x.2.2)) →
      Sx N D (S.T (flags sp (L.map (·.1))) x ++ (L.filterMap (tOf sp Φ) ++ T0)) (S.B (flags sp (L.map (·.1))) x ++ (L.flatMap (bsOf sp) ++ B0)) M w0 a w →
      listed.size = ops.size → (∀ j, j < ops.size → (listed.getD j true = true ↔ j ∈ L.map (·.1))) → (∀ k j, listed.getD k true = true → k < ops.size → edge ops k j = true → listed.getD j false = true) →
      wpAnyIn (Fx r) 0 P .any ops Q (u + (ops.size - Φ.length)) listed a w := by
  have hmn : Φ.length ≤ ops.size := by
    simp only [tailOkP, Bool.and_eq_true] at ht
    exact Nat.le_of_ble_eq_true ht.1
  intro U u
  induction u generalizing U with
  | zero =>
    intro L listed a w xs hU hp hφ hs hsz hl hcl
    clear hcl
    have hU' : U = [] := List.eq_nil_of_length_eq_zero hU
    subst hU'
    rw [List.append_nil] at hp
    have hnd : (L.map (·.1)).Nodup := hp.nodup_iff.2 (List.nodup_range' ..)
    have hlisted : listed = upto Φ.length ops.size := by
      apply Array.ext_getElem?
      intro i
      by_cases hi : i < ops.size
      · rw [upto_get _ _ _ hi]
        have h1 := hl i hi
        have h2 : i ∈ L.map (·.1) ↔ i < Φ.length := by rw [hp.mem_iff]; simp [List.mem_range']
        have hi' : i < listed.size := by omega
        rw [Array.getD_eq_getD_getElem?, Array.getElem?_eq_getElem hi', Option.getD_some, h2] at h1
        rw [Array.getElem?_eq_getElem hi']
        congr 1
        rw [Bool.eq_iff_iff, h1]
        simp [Nat.blt_eq]
      · rw [Array.getElem?_eq_none (by omega), Array.getElem?_eq_none (by rw [upto_size]; omega)]
    rw [hlisted, Nat.zero_add]
    refine tail_anyP ht _ _ _ a w (Nat.le_refl _) (Nat.le_refl _) (by omega) ?_
    let ρ : Nat → Value × List (Nat × Option Obj) := fun j => ((L.find? (fun x => x.1 == j)).map (·.2)).getD (undef, [])
    have hρ : ∀ x ∈ L, ρ x.1 = x.2 := by
      intro x hx
      have : L.find? (fun y => y.1 == x.1) = some x := by
        clear hs hl hlisted hp hφ
        induction L with
        | nil => cases hx
        | cons y L ih =>
          simp only [List.map_cons, List.nodup_cons] at hnd
          rcases List.mem_cons.1 hx with rfl | hx
          · simp
          · have hne : y.1 ≠ x.1 := fun e => hnd.1 (by rw [e]; exact List.mem_map_of_mem hx)
            rw [List.find?_cons_of_neg (by simpa using hne)]
            exact ih hnd.2 hx
      simp only [ρ, this, Option.map_some, Option.getD_some]
    have hall : ∀ j e, nth Φ j = some e → ∃ x ∈ L, x.1 = j := by
      intro j e hj
      have hjl := nth_lt hj
      have : j ∈ L.map (·.1) := hp.mem_iff.2 (by simp [List.mem_range', hjl])
      obtain ⟨x, hx, rfl⟩ := List.mem_map.1 this
      exact ⟨x, hx, rfl⟩
    have hfin := eachS_use ρ (k := 0) k (fun j e hj hb => by
      obtain ⟨x, hx, rfl⟩ := hall j e hj
      obtain ⟨e', he', hφ'⟩ := hφ x hx
      rw [hj] at he'
      simp only [Option.some.injEq] at he'
      subst he'
      rw [Nat.zero_add] at hb; rw [Nat.zero_add, hρ x hx]; exact hφ' hb)
    have hcnt : flags sp (L.map (·.1)) = fullF sp := by
      refine List.map_congr_left (fun j hj => ?_)
      have hjn := spLt hspn j hj
      rw [List.any_eq_true]
      exact ⟨j, hp.mem_iff.2 (by simp [List.mem_range', hjn]), by simp⟩
    rw [hcnt] at hs
    refine hfin xs a w ?_
    refine Sx.perm ?_ (hs.tmps (T' := S.T (fullF sp) xs ++ (outTS sp ρ 0 Φ ++ T0)) ?_)
    · refine List.Perm.append_left _ (List.Perm.append_right _ ?_)
      rw [outBS_range ρ Φ 0]
      refine (List.Perm.flatMap_right _ hp.symm).trans ?_
      rw [List.flatMap_map]
      have hcong : ∀ l : List (Nat × Value × List (Nat × Option Obj)), (∀ x ∈ l, ρ x.1 = x.2) → l.flatMap (fun x => bsOf sp (x.1, ρ x.1)) = l.flatMap (bsOf sp) := by
        intro l
        induction l with
        | nil => intro _; rfl
        | cons y l ih => intro h; simp only [List.flatMap_cons]; rw [h y (by simp), ih (fun x hx => h x (by simp [hx]))]
      rw [hcong L hρ]
    · intro p hp'
      rcases List.mem_append.1 hp' with hp' | hp'
      · exact List.mem_append_left _ hp'
      rcases List.mem_append.1 hp' with hp' | hp'
      · obtain ⟨j, e, hj, hb, rfl⟩ := outTS_mem ρ hp'
        obtain ⟨x, hx, rfl⟩ := hall j e hj
        rw [Nat.zero_add] at hb
        refine List.mem_append_right _ (List.mem_append_left _ (List.mem_filterMap.2 ⟨x, hx, ?_⟩))
        rw [tOf, hj, Nat.zero_add, hρ x hx, hb]; rfl
      · exact List.mem_append_right _ (List.mem_append_right _ hp')
  | succ u ih =>
    intro L listed a w xs hU hp hφ hs hsz hl hcl
    have hUne : U ≠ [] := by intro e; rw [e] at hU; simp at hU
    have hmem : ∀ j, j < Φ.length → j ∈ L.map (·.1) ∨ j ∈ U := fun j hj => by
      have : j ∈ L.map (·.1) ++ U := hp.mem_iff.2 (by simp [List.mem_range', hj])
      exact List.mem_append.1 this
    have hUlt : ∀ j ∈ U, j < Φ.length := fun j hj => by
      have : j ∈ List.range' 0 Φ.length := hp.mem_iff.1 (List.mem_append_right _ hj)
      simpa [List.mem_range'] using this
    have hnd : (L.map (·.1) ++ U).Nodup := hp.nodup_iff.2 (List.nodup_range' ..)
    have hdis : ∀ j ∈ U, j ∉ L.map (·.1) := fun j hj hx => (List.nodup_append.1 hnd).2.2 j hx j hj rfl
    rw [show u + 1 + (ops.size - Φ.length) = (u + (ops.size - Φ.length)) + 1 from by omega]
    refine ⟨fun hemp => ?_, fun i hi => ?_⟩
    · -- the least that is not listed is ready
      exfalso
      obtain ⟨i, hi, hmin⟩ := least hUne
      have hilt := hUlt i hi
      obtain ⟨e, he⟩ := nth_of_lt hilt
      have hat := headD_nth hh he
      rw [Nat.zero_add] at hat
      obtain ⟨o, hoi, hbe⟩ := hat.op
      have : i ∈ Region.ready .any ops listed := by
        simp only [Region.ready, List.mem_filter, List.mem_range, Bool.and_eq_true]
        refine ⟨by omega, ?_, ?_⟩
        · have := (hl i (by omega)).1
          cases hb : listed.getD i true with
          | false => rfl
          | true => exact absurd (this hb) (hdis i hi)
        · rw [hoi]
          simp only [Option.map_some, Option.getD_some, Array.all_eq_true_iff_forall_mem]
          intro x hx
          cases hb : Region.binds .any x with
          | false => rfl
          | true =>
            have hlt := hbe x hx hb
            have hxn : x.on < ops.size := by omega
            have hin : x.on ∈ L.map (·.1) := by
              rcases hmem x.on (by omega) with h | h
              · exact h
              · have := hmin _ h; omega
            have h1 := (hl x.on hxn).2 hin
            rw [Array.getD_eq_getD_getElem?, Array.getElem?_eq_getElem (by omega), Option.getD_some] at h1 ⊢
            simp [h1]
      rw [hemp] at this
      cases this
    · -- whichever is ready
      have hin : i < ops.size ∧ listed.getD i true = false := by
        simp only [Region.ready, List.mem_filter, List.mem_range, Bool.and_eq_true, Bool.not_eq_true'] at hi
        exact ⟨hi.1, hi.2.1⟩
      have hnl : i ∉ L.map (·.1) := fun h => by rw [(hl i hin.1).2 h] at hin; cases hin.2
      have hilt : i < Φ.length := by
        rcases Nat.lt_or_ge i Φ.length with h | h
        · exact h
        · exfalso
          simp only [tailOkP, Bool.and_eq_true, List.all_eq_true] at ht
          obtain ⟨j, hj⟩ : ∃ j, j ∈ U := List.exists_mem_of_ne_nil _ hUne
          have h1 := (ht.2 i (by simp only [List.mem_range']; exact ⟨i - Φ.length, by omega, by omega⟩)).1 j (by have := hUlt j hj; simp; omega)
          have h2 := reach_spec hcl _ _ _ (fun k hk => edge_spec hk hi) h1
          have hjn : j < ops.size := by have := hUlt j hj; omega
          refine hdis j hj ((hl j hjn).1 ?_)
          rw [Array.getD_eq_getD_getElem?, Array.getElem?_eq_getElem (by omega), Option.getD_some] at h2 ⊢
          exact h2
      have hiU : i ∈ U := (hmem i hilt).resolve_left hnl
      obtain ⟨e, he⟩ := nth_of_lt hilt
      have hat := headD_nth hh he
      have hob := obsD_nth ho he
      rw [Nat.zero_add] at hat hob
      obtain ⟨U1, U2, rfl⟩ := List.append_of_mem hiU
      have hedge : ∀ j, edge ops i j = true → j ∈ L.map (·.1) := fun j hj => by
        have h1 := edge_spec hj hi
        have hjn : j < ops.size := by
          rcases Nat.lt_or_ge j ops.size with h | h
          · exact h
          · rw [Array.getD_eq_getD_getElem?, Array.getElem?_eq_none (by omega)] at h1; cases h1
        refine (hl j hjn).1 ?_
        rw [Array.getD_eq_getD_getElem?, Array.getElem?_eq_getElem (by omega), Option.getD_some] at h1 ⊢
        exact h1
      have hdeps : ∀ j ∈ e.nd, ∃ e' v bs, nth Φ j = some e' ∧ e'.φ v bs ∧ (e'.d, v) ∈ L.filterMap (tOf sp Φ) ++ T0 ∧ ∀ p ∈ bs, p ∈ L.flatMap (bsOf sp) ++ B0 := by
        intro j hj
        obtain ⟨hje, hyb⟩ := hat.nd j hj
        obtain ⟨x, hx, rfl⟩ := List.mem_map.1 (hedge j hje)
        obtain ⟨y, hy, hφ'⟩ := hφ x hx
        exact ⟨y, x.2.1, x.2.2, hy, hφ' hyb, List.mem_append_left _ (List.mem_filterMap.2 ⟨x, hx, by rw [tOf, hy, hyb]; rfl⟩),
          fun p hp => List.mem_append_left _ (List.mem_flatMap.2 ⟨x, hx, by rw [bsOf, hyb]; exact hp⟩)⟩
      have hpn : ∀ v : Value, ∀ bs : List (Nat × Option Obj), (((i, v, bs) :: L).map (·.1) ++ (U1 ++ U2)).Perm (List.range' 0 Φ.length) := fun v bs => by
        refine List.Perm.trans ?_ hp
        simp only [List.map_cons, List.cons_append]
        rw [← List.append_assoc, ← List.append_assoc]
        exact List.perm_middle.symm
      have hln : ∀ v : Value, ∀ bs : List (Nat × Option Obj), ∀ j, j < ops.size → ((listed.setIfInBounds i true).getD j true = true ↔ j ∈ ((i, v, bs) :: L).map (·.1)) := by
        intro v bs j hj
        simp only [List.map_cons, List.mem_cons]
        by_cases hji : i = j
        · subst hji
          simp [Array.getD_eq_getD_getElem?, Array.getElem?_setIfInBounds_self_of_lt (show i < listed.size by omega)]
        · rw [Array.getD_eq_getD_getElem?, Array.getElem?_setIfInBounds_ne hji, ← Array.getD_eq_getD_getElem?, hl j hj]
          exact ⟨.inr, fun h => h.resolve_left (fun e => hji e.symm)⟩
      have hfr : fresh e.d (L.filterMap (tOf sp Φ) ++ T0) = true := by
        refine fresh_of (fun p hp' => ?_)
        rcases List.mem_append.1 hp' with hp' | hp'
        · obtain ⟨x, hx, hxe⟩ := List.mem_filterMap.1 hp'
          obtain ⟨e', he', _⟩ := hφ x hx
          cases hb' : isS sp x.1 with
          | true => rw [tOf, hb'] at hxe; cases hxe
          | false =>
            rw [tOf, hb', he'] at hxe
            simp only [cond_false, Option.map_some, Option.some.injEq] at hxe
            subst hxe
            have hne : x.1 ≠ i := fun e => hnl (by rw [← e]; exact List.mem_map_of_mem hx)
            rcases Nat.lt_or_gt_of_ne hne with h | h
            · exact headD_ne hh he' he h
            · exact fun e => headD_ne hh he he' h e.symm
        · exact fresh_ne hat.fr p hp'
      cases hb : isS sp i with
      | false =>
        have hfr' : fresh e.d (S.T (flags sp (L.map (·.1))) xs ++ (L.filterMap (tOf sp Φ) ++ T0)) = true := by
          refine fresh_of (fun p hp' => ?_)
          rcases List.mem_append.1 hp' with hp' | hp'
          · have h1 := List.all_eq_true.1 (hown (flags sp (L.map (·.1))) xs) p hp'
            obtain ⟨j, hj, hje⟩ := List.any_eq_true.1 h1
            cases hn : nth Φ j with
            | none => rw [hn] at hje; cases hje
            | some e' =>
              rw [hn] at hje
              have hd : e'.d = p.1 := Nat.eq_of_beq_eq_true hje
              rw [← hd]
              have hji : j ≠ i := fun e => by
                subst e
                have : isS sp j = true := List.any_eq_true.2 ⟨j, hj, by simp⟩
                rw [this] at hb; cases hb
              rcases Nat.lt_or_gt_of_ne hji with h | h
              · exact headD_ne hh hn he h
              · exact fun e => headD_ne hh he hn h e.symm
          · exact fresh_ne hfr p hp'
        have hob1 := hob.1 hb
        refine deps_use (hob1 (S.T (flags sp (L.map (·.1))) xs ++ (L.filterMap (tOf sp Φ) ++ T0)) (S.B (flags sp (L.map (·.1))) xs ++ (L.flatMap (bsOf sp) ++ B0)) a w _ (fun p hp => List.mem_append_right _ (List.mem_append_right _ hp)) (fun p hp => List.mem_append_right _ (List.mem_append_right _ hp)))
          (fun j hj => by obtain ⟨e', v, bs, h1, h2, h3, h4⟩ := hdeps j hj; exact ⟨e', v, bs, h1, h2, List.mem_append_right _ h3, fun p hp => List.mem_append_right _ (h4 p hp)⟩) hfr' hs ?_
        intro v bs a' w' hv hs'
        refine ih (U1 ++ U2) ((i, v, bs) :: L) (listed.setIfInBounds i true) a' w' xs (by simp at hU ⊢; omega) (hpn v bs) ?_ ?_ (by simpa using hsz) (hln v bs) (closed_set hcl hi)
        · intro x hx
          rcases List.mem_cons.1 hx with rfl | hx
          · exact ⟨e, he, fun _ => hv⟩
          · exact hφ x hx
        · have h1 : flags sp (((i, v, bs) :: L).map (·.1)) = flags sp (L.map (·.1)) := flags_ord hb
          have h2 : ((i, v, bs) :: L).filterMap (tOf sp Φ) = (e.d, v) :: L.filterMap (tOf sp Φ) := by simp [tOf, he, hb]
          have h3 : ((i, v, bs) :: L).flatMap (bsOf sp) = bs ++ L.flatMap (bsOf sp) := by simp [bsOf, hb]
          rw [h1, h2, h3]
          refine Sx.perm ?_ (hs'.tmps (fun p hp => ?_))
          · simp only [List.append_assoc]
            rw [← List.append_assoc, ← List.append_assoc bs]
            exact List.Perm.append_right _ List.perm_append_comm
          · simp only [List.mem_append, List.mem_cons] at hp ⊢
            rcases hp with hp | hp | hp
            · exact .inr (.inl hp)
            · rcases hp with hp | hp
              · exact .inl hp
              · exact .inr (.inr (.inl hp))
            · exact .inr (.inr (.inr hp))
      | true =>
        have hd : okD ops sp (flags sp (L.map (·.1))) = true := by
          simp only [okD, List.all_eq_true, Bool.or_eq_true, Bool.not_eq_true']
          intro k hk
          cases hkf : flagOf sp (flags sp (L.map (·.1))) k with
          | false => exact .inl rfl
          | true =>
            refine .inr (fun j hj => ?_)
            cases hje : edge ops k j with
            | false => exact .inl rfl
            | true =>
              refine .inr ?_
              have hkL := (flagOf_mem hk).1 hkf
              have hkn : k < ops.size := by
                simp only [edge] at hje
                cases ho : ops[k]? with
                | none => rw [ho] at hje; cases hje
                | some o => exact (Array.getElem?_eq_some_iff.1 ho).1
              have h1 := hcl k j ((hl k hkn).2 hkL) hkn hje
              have hjn : j < ops.size := by
                rcases Nat.lt_or_ge j ops.size with h | h
                · exact h
                · rw [Array.getD_eq_getD_getElem?, Array.getElem?_eq_none (by omega)] at h1; cases h1
              refine (flagOf_mem hj).2 ((hl j hjn).1 ?_)
              rw [Array.getD_eq_getD_getElem?, Array.getElem?_eq_getElem (by omega), Option.getD_some] at h1 ⊢
              exact h1
        have hisp : i ∈ sp := by
          obtain ⟨j, hj, hji⟩ := List.any_eq_true.1 hb
          rw [← Nat.eq_of_beq_eq_true hji]; exact hj
        have hr : rdyD ops sp (flags sp (L.map (·.1))) i = true := by
          simp only [rdyD, Bool.and_eq_true, Bool.not_eq_true', List.all_eq_true, Bool.or_eq_true]
          refine ⟨?_, fun j hj => ?_⟩
          · cases h : flagOf sp (flags sp (L.map (·.1))) i with
            | false => rfl
            | true => exact absurd ((flagOf_mem hisp).1 h) hnl
          · cases hje : edge ops i j with
            | false => exact .inl rfl
            | true => exact .inr ((flagOf_mem hj).2 (hedge j hje))
        have hmt := tblOk_mem htb hisp (flags_len sp _) hd hr
        have hob2 := allD_mem (hob.2 hb) hmt
        refine deps_use (hob2 (L.filterMap (tOf sp Φ) ++ T0) (L.flatMap (bsOf sp) ++ B0) a w _ xs (fun p hp => List.mem_append_right _ hp) (fun p hp => List.mem_append_right _ hp)) hdeps hfr hs ?_
        intro x' a' w' hs'
        refine ih (U1 ++ U2) ((i, undef, []) :: L) (listed.setIfInBounds i true) a' w' x' (by simp at hU ⊢; omega) (hpn _ _) ?_ ?_ (by simpa using hsz) (hln _ _) (closed_set hcl hi)
        · intro x hx
          rcases List.mem_cons.1 hx with rfl | hx
          · exact ⟨e, he, fun h => by rw [hb] at h; cases h⟩
          · exact hφ x hx
        · have h1 : flags sp (((i, undef, []) :: L).map (·.1)) = setF sp (flags sp (L.map (·.1))) i := flags_sp
          have h2 : ((i, undef, []) :: L).filterMap (tOf sp Φ) = L.filterMap (tOf sp Φ) := by simp [tOf, hb]
          have h3 : ((i, undef, []) :: L).flatMap (bsOf sp) = L.flatMap (bsOf sp) := by simp [bsOf, hb]
          rw [h1, h2, h3]
          exact hs'
def lookD {β : Type} (z : β) : List (List Bool × β) → List Bool → β
  | [], _ => z
  | (e, b) :: l, d => bif e == d then b else lookD z l d
theorem lookD_all {β : Type} {z : β} {p : β → Prop} (hz : p z) : ∀ {l : List (List Bool × β)}, (∀ e ∈ l, p e.2) → ∀ d, p (lookD z l d) := by
  intro l
  induction l with
  | nil => intro _ d; exact hz
  | cons e l ih =>
    intro h d
    obtain ⟨e1, b⟩ := e
    simp only [lookD]
    cases e1 == d with
    | true => exact h (e1, b) (by simp)
    | false => exact ih (fun e he => h e (by simp [he])) d
/-- What is told, by a table. -/
def SpecD.tab (X : Type) (T : List (List Bool × (X → List (Nat × Value)))) (B : List (List Bool × (X → List (Nat × Option Obj)))) : SpecD := ⟨X, lookD (fun _ => []) T, lookD (fun _ => []) B⟩
theorem ownD_tab {Φ : List Op1} {sp : List Nat} {X : Type} {T : List (List Bool × (X → List (Nat × Value)))} {B : List (List Bool × (X → List (Nat × Option Obj)))}
    (h : ∀ x, T.all (fun e => (e.2 x).all (fun p => sp.any (fun j => ((nth Φ j).map (fun e => Nat.beq e.d p.1)).getD false))) = true) : OwnD Φ sp (SpecD.tab X T B) := by
  intro d x
  refine lookD_all (p := fun (f : X → List (Nat × Value)) => (f x).all (fun p => sp.any (fun j => ((nth Φ j).map (fun e => Nat.beq e.d p.1)).getD false)) = true) rfl (fun e he => ?_) d
  exact List.all_eq_true.1 (h x) e he
theorem Sx.reT {T1 T2 T : List (Nat × Value)} {B : List (Nat × Option Obj)} {a : Act} {w : World} (is : List Nat) (h : pickL T1 is = some T2) (hs : Sx N D (T1 ++ T) B M w0 a w) : Sx N D (T2 ++ T) B M w0 a w :=
  hs.tmps (fun p hp => by
    rcases List.mem_append.1 hp with hp | hp
    · exact List.mem_append_left _ (pickL_mem h p hp)
    · exact List.mem_append_right _ hp)
theorem cd_drawD1 {id : Nat} {l : List Oper} {a : Act} {w : World} {T0 : List (Nat × Value)} {B0 : List (Nat × Option Obj)} (hm : P.follows .mixedOrders = true) (sp : List Nat) (tbl : Nat → List (List Bool)) (S : SpecD) (x0 : S.X) (hs : Sx N D (S.T (flags sp []) x0 ++ T0) (S.B (flags sp []) x0 ++ B0) M w0 a w) (Φ : List Op1)
    (hh : headD l.toArray sp T0 0 Φ = true) (hspn : sp.all (fun j => Nat.blt j Φ.length) = true) (hown : OwnD Φ sp S) (htb : tblOk l.toArray sp tbl = true) (ht : tailOkP l.toArray Φ.length = true)
    (h : ObsD N D M w0 P r Q l.toArray Φ T0 B0 sp S tbl 0 Φ ∧
      EachS sp 0 Φ (fun T B => ∀ x a' w', Sx N D (S.T (fullF sp) x ++ (T ++ T0)) (S.B (fullF sp) x ++ (B ++ B0)) M w0 a' w' → tailWp P r Q l.toArray (l.length - Φ.length) Φ.length a' w')) :
    (Code.region id l.toArray true).wpIn (Fx r) 0 P Q a w := by
  obtain ⟨h1, h2⟩ := h
  have hmn : Φ.length ≤ l.length := by
    simp only [tailOkP, Bool.and_eq_true] at ht
    have := Nat.le_of_ble_eq_true ht.1
    simpa using this
  refine wpIn_region_any hm ?_
  have := headD_any (r := r) (Q := Q) hh hspn hown htb ht h1 (by rw [List.size_toArray]; exact h2) (List.range' 0 Φ.length) Φ.length [] (Array.replicate l.toArray.size false) a { w with drawn := w.drawn + 1 } x0 (by simp) (by simp) (by simp) (hs.drawn _) (by simp)
    (fun j hj => by simp only [List.size_toArray] at hj; simp [Array.getD_eq_getD_getElem?, hj]) (fun k j hk hks => by simp only [List.size_toArray] at hks; simp [Array.getD_eq_getD_getElem?, hks] at hk)
  rw [show Φ.length + (l.toArray.size - Φ.length) = l.toArray.size from by simp; omega] at this
  exact this
theorem cd_drawD {id : Nat} {y : Code} {l : List Oper} {a : Act} {w : World} {T0 : List (Nat × Value)} {B0 : List (Nat × Option Obj)} (hm : P.follows .mixedOrders = true) (sp : List Nat) (tbl : Nat → List (List Bool)) (S : SpecD) (x0 : S.X) (hs : Sx N D (S.T (flags sp []) x0 ++ T0) (S.B (flags sp []) x0 ++ B0) M w0 a w) (Φ : List Op1)
    (hh : headD l.toArray sp T0 0 Φ = true) (hspn : sp.all (fun j => Nat.blt j Φ.length) = true) (hown : OwnD Φ sp S) (htb : tblOk l.toArray sp tbl = true) (ht : tailOkP l.toArray Φ.length = true)
    (h : ∀ K : Act → World → Prop, (∀ a w, y.wpIn (Fx r) 0 P Q a w → K a w) →
      ObsD N D M w0 P r (Exit.then K Q) l.toArray Φ T0 B0 sp S tbl 0 Φ ∧
      EachS sp 0 Φ (fun T B => ∀ x a' w', Sx N D (S.T (fullF sp) x ++ (T ++ T0)) (S.B (fullF sp) x ++ (B ++ B0)) M w0 a' w' → tailWp P r (Exit.then K Q) l.toArray (l.length - Φ.length) Φ.length a' w')) :
    (Code.seq (Code.region id l.toArray true) y).wpIn (Fx r) 0 P Q a w := wpIn_seq_k fun K hK => cd_drawD1 hm sp tbl S x0 hs Φ hh hspn hown htb ht (h K hK)
end
end Go.Sx
