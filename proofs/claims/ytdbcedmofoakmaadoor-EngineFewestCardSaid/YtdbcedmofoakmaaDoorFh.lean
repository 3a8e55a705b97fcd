/- The law: chosen, row, Before. -/
import Derived.Test.YtdbcedmofoakmaaDoorFg
import Derived.Test.YtdbcedmofoakmaaDoorEi2
import Derived.Test.YtdbcedmofoakmaaDoorSh
set_option maxRecDepth 100000
namespace Go.Proofs.YtdbcedmofoakmaaDoor
open Go Go.Sx Go.Eng
theorem isPlan_of {b : Book} {l : List Walks} (hl : l.length = b.parts.length) (h : ∀ (j : Nat) (y : Walks) (x : Part), l[j]? = some y → b.parts[j]? = some x → okWalks x y = true) : b.isPlan l = true := by
  simp only [Book.isPlan, Bool.and_eq_true, beq_iff_eq, List.all_eq_true]
  refine ⟨hl, fun q hq => ?_⟩
  obtain ⟨i, hi⟩ := List.mem_iff_getElem?.1 hq
  rw [List.getElem?_zip_eq_some] at hi
  exact h i q.1 q.2 hi.1 hi.2
theorem rowL_snoc {l : List Walks} {i : Nat} {y : Walks} (h : l[i]? = some y) : rowL (l.take (i + 1)) = rowL (l.take i) ++ [y.c, y.w] := by
  have app : ∀ (a : List Walks) (z : Walks), rowL (a ++ [z]) = rowL a ++ [z.c, z.w] := by
    intro a z
    induction a with
    | nil => rfl
    | cons x a ih => simp only [List.cons_append, rowL, ih]
  rw [List.take_add_one, h, Option.toList_some, app]
theorem rowL_len : ∀ l : List Walks, (rowL l).length = 2 * l.length
  | [] => rfl
  | _ :: l => by simp only [rowL, List.length_cons, rowL_len l]; omega
theorem before_drop {a c : List Int} {i : Nat} {x y : Int} (hx : a[i]? = some x) (hy : c[i]? = some y) : beforeL (a.drop i) (c.drop i) = if x = y then beforeL (a.drop (i + 1)) (c.drop (i + 1)) else decide (x < y) := by
  obtain ⟨h1, e1⟩ := List.getElem?_eq_some_iff.1 hx
  obtain ⟨h2, e2⟩ := List.getElem?_eq_some_iff.1 hy
  rw [List.drop_eq_getElem_cons h1, List.drop_eq_getElem_cons h2, e1, e2, beforeL]
theorem before_end {a c : List Int} {i : Nat} (h : a.length ≤ i ∨ c.length ≤ i) (h1 : i ≤ a.length) (h2 : i ≤ c.length) : beforeL (a.drop i) (c.drop i) = decide (a.length < c.length) := by
  have key : ∀ (p q : List Int), p = [] ∨ q = [] → beforeL p q = decide (p.length < q.length) := by
    intro p q h
    rcases h with rfl | rfl
    · cases q <;> simp [beforeL]
    · cases p <;> simp [beforeL]
  rw [key _ _ (by rcases h with h | h; exact .inl (List.drop_eq_nil_of_le h); exact .inr (List.drop_eq_nil_of_le h)), List.length_drop, List.length_drop]
  congr 1
  simp only [eq_iff_iff]; omega

theorem chosen_b (b : Book) (A : Option Addr) (n cp : Nat) (A4 : Option Addr) (m4 c4 : Nat) (bits : List Int) (w : World) (hP : PartsAt w A n b.parts) (hn : n ≤ 140737488351232) (hI : SlAt intL 1 w A4 m4 bits) (hm4 : m4 ≤ 140737488351232) (hb : Bd b) :
    CallsB Tryd.prog 36 [.agg ⟨bookL b A n cp⟩, .slice A4 m4 c4] w (fun v bs => ∃ l A7 c7 b7 o7, v = .slice A7 l.length c7 ∧ Sx.Own walksL 2 64 A7 c7 l b7 o7 ∧ bs = [(b7, o7)] ∧ b.isPlan l = true) := by
 have hl2 := hP.len
 refine enter (N := 48) (M := []) w Tryd.func36 rfl rfl rfl (fun Q0 a_0 hQ0 hN0 hs0 => ?_)
 refine cd_region fun K1 hK1 => ?_
 refine sq rfl (st_box hs0 (Ev.t 0 rfl) rfl rfl rfl fun b2 _ _ hs1 => ?_); clear hs0
 refine sq rfl (st_assign hs1 (.const _) rfl rfl fun _ _ hs2 => ?_); clear hs1
 refine hK1 _ _ ?_; clear hK1
 have hs3 := Sx.keepT [0, 1, 3] [_, _, _] ⟨rfl, rfl, rfl, trivial⟩ hs2; clear hs2
 refine cd_region fun K3 hK3 => ?_
 refine sq rfl (st_assign hs3 (.const _) rfl rfl fun _ _ hs4 => ?_); clear hs3
 refine hK3 _ _ ?_; clear hK3
 refine cd_seq fun K4 hK4 => ?_
 refine cd_region fun K5 hK5 => ?_
 refine sq rfl (st_assign hs4 (.const _) rfl rfl fun _ _ hs5 => ?_); clear hs4
 refine hK5 _ _ ?_; clear hK5
 have hs6 := hs5.hide 0; clear hs5
 refine cd_block ?_
 have hs7 : Sx 48 [] [(6, .int .i64 ((OwG.mk 0 none 0 ([] : List Walks) 0 none).k : Int)), (5, .slice ((OwG.mk 0 none 0 ([] : List Walks) 0 none).A) ((OwG.mk 0 none 0 ([] : List Walks) 0 none).l.length) ((OwG.mk 0 none 0 ([] : List Walks) 0 none).c)), (4, .slice none 0 0), (2, .pointer (some ⟨b2, 0, none⟩)), (1, .slice A4 m4 c4)] [((OwG.mk 0 none 0 ([] : List Walks) 0 none).b, (OwG.mk 0 none 0 ([] : List Walks) 0 none).o), (b2, some (.cells ⟨(bookL b A n cp)⟩ 27 (0, 0)))] [] w _ _ := Sx.keepE [0, 1, 2, 3, 4] _ ⟨⟨_, rfl, rfl⟩, ⟨_, rfl, rfl⟩, ⟨_, rfl, rfl⟩, ⟨_, rfl, rfl⟩, ⟨_, rfl, rfl⟩, trivial⟩ hs6; clear hs6
 refine cd_loop (X := OwG Walks) (fun g a_ w_ => (g.k ≤ n) ∧ (g.l.length = g.k) ∧ (∀ (j : Nat) (y : Walks) (x : Part), g.l[j]? = some y → b.parts[j]? = some x → okWalks x y = true) ∧ (Sx.Own walksL 2 64 g.A g.c g.l g.b g.o) ∧ Sx 48 [] [(6, .int .i64 (g.k : Int)), (5, .slice g.A g.l.length g.c), (4, .slice none 0 0), (2, .pointer (some ⟨b2, 0, none⟩)), (1, .slice A4 m4 c4)] [(g.b, g.o), (b2, some (.cells ⟨(bookL b A n cp)⟩ 27 (0, 0)))] [] w a_ w_) (fun g => n - g.k) ((OwG.mk 0 none 0 ([] : List Walks) 0 none)) ⟨?_, ?_, ?_, ?_, hs7⟩ ?_
 · exact Nat.zero_le _
 · rfl
 · intro j y x h; simp at h
 · exact .inl ⟨rfl, rfl⟩
 intro g a_8 w_8 ⟨hk, hgl, hv, hown, hs8⟩; clear hs7
 refine cd_seq fun K6 hK6 => ?_
 refine cd_region fun K7 hK7 => ?_
 refine sq rfl (st_move hs8 (Ev.t 0 rfl) rfl rfl fun _ _ hs9 => ?_); clear hs8
 refine sq rfl (st_field (o' := 22) hs9 (Ev.t 4 rfl) rfl rfl Tryd.runUnderlying27 rfl Tryd.sizeOf25 rfl rfl fun _ _ hs10 => ?_); clear hs9
 refine sq rfl (st_load1 (o := 0) (off := 22) (v := .slice A n cp) hs10 (Ev.t 0 rfl) rfl rfl Tryd.isAgg25 (hs10.cells 1 rfl) rfl fun _ _ hs11 => ?_); clear hs10
 refine sq rfl (st_len hs11 (Ev.t 0 rfl) rfl rfl Tryd.runUnderlying25 fun _ _ hs12 => ?_); clear hs11
 refine sq rfl (st_cmp (c := decide (((g.k : Int) : Int) < (n : Int))) hs12 (Ev.t 3 rfl) (Ev.t 0 rfl) rfl rfl rfl rfl fun _ _ hs13 => ?_); clear hs12
 refine hK7 _ _ ?_; clear hK7
 have hs14 := Sx.keepT [0, 5, 6, 7, 8, 9] [_, _, _, _, _, _] ⟨rfl, rfl, rfl, rfl, rfl, rfl, trivial⟩ hs13; clear hs13
 refine cd_cond hs14 (Ev.t 0 rfl) (fun hc8 => ?_) (fun hc8 => ?_)
 · have hin : g.k < n := by simpa using hc8
   have hil : g.k < b.parts.length := by omega
   obtain ⟨x9, hx9⟩ : ∃ x, b.parts[g.k]? = some x := ⟨_, List.getElem?_eq_getElem (by have := hP.len; omega)⟩
   obtain ⟨b10, o10, hA10, -, hc10⟩ := hP.el g.k x9 hx9
   have hxw := (hb.parts g.k x9 hx9).2
   have hlen100 := hb.len
   have htc := turn_bd (n := pickN bits (2 * (g.k : Int))) (m := x9.walks + 1) (by omega)
   refine cd_skip ?_
   refine th_norm (hK6 _ _ ?_)
   refine cd_seq fun K11 hK11 => ?_
   refine cd_block ?_
   refine cd_drawn mixed hs14 [⟨15, [], Is (.slice A4 m4 c4)⟩,
      ⟨16, [], Is (.int .i64 (g.k : Int))⟩,
      ⟨17, [1], Is (.int .i64 (2 * (g.k : Int)))⟩,
      ⟨18, [0, 2], Is (.int .i64 (pickN bits (2 * (g.k : Int))))⟩,
      ⟨19, [], Is (.pointer (some ⟨b2, 22, none⟩))⟩,
      ⟨20, [4], Is (.slice A n cp)⟩,
      ⟨21, [], Is (.int .i64 (g.k : Int))⟩,
      ⟨22, [5, 6], Is (.pointer (some ⟨b10, o10 + g.k * 4, none⟩))⟩,
      ⟨23, [7], Is (.pointer (some ⟨b10, o10 + g.k * 4 + 3, none⟩))⟩,
      ⟨24, [8], Is (.int .i64 x9.walks)⟩,
      ⟨25, [9], Is (.int .i64 (x9.walks + 1))⟩,
      ⟨26, [3, 10], Is (.int .i64 (turn (pickN bits (2 * (g.k : Int))) (x9.walks + 1)))⟩] (by kernel_rfl) (by kernel_rfl) fun K12 hK12 => ⟨⟨?_, ?_, ?_, ?_, ?_, ?_, ?_, ?_, ?_, ?_, ?_, ?_, trivial⟩, ?_⟩
   · intro T_ B_ a_ w_ K_ hT hB
     intro hf hsD hk
     exact ob rfl rfl (st_move hsD (Ev.tmp (hT _ (mem_nth (i := 5) rfl))) rfl hf fun a_1 w_1 h1 => hk _ _ _ _ ⟨rfl, rfl⟩ h1)
   · intro T_ B_ a_ w_ K_ hT hB
     intro hf hsD hk
     exact ob rfl rfl (st_move hsD (Ev.tmp (hT _ (mem_nth (i := 1) rfl))) rfl hf fun a_1 w_1 h1 => hk _ _ _ _ ⟨rfl, rfl⟩ h1)
   · intro T_ B_ a_ w_ K_ hT hB
     rintro _ _ ⟨rfl, rfl⟩ h16 -
     intro hf hsD hk
     exact ob rfl rfl (st_mul (z := 2 * (g.k : Int)) hsD (.const _) (Ev.tmp h16) rfl hf rfl (by omega) fun a_1 w_1 h1 => hk _ _ _ _ ⟨rfl, rfl⟩ h1)
   · intro T_ B_ a_ w_ K_ hT hB
     rintro _ _ ⟨rfl, rfl⟩ h15 -
     rintro _ _ ⟨rfl, rfl⟩ h17 -
     intro hf hsD hk
     exact ob rfl rfl (st_callv (vs := [.slice A4 m4 c4, .int .i64 (2 * (g.k : Int))]) hsD (.func _) ⟨(Ev.tmp h15), (Ev.tmp h17), trivial⟩ rfl hf Tryd.call67 rfl (pick_v A4 m4 c4 bits (2 * (g.k : Int)) _ (hI.kp hsD.kp) (by omega)) fun a_1 w_1 h1 => hk _ _ _ _ ⟨rfl, rfl⟩ h1)
   · intro T_ B_ a_ w_ K_ hT hB
     intro hf hsD hk
     exact ob rfl rfl (st_field (o' := 22) hsD (Ev.tmp (hT _ (mem_nth (i := 4) rfl))) rfl hf Tryd.runUnderlying27 rfl Tryd.sizeOf25 rfl rfl fun a_1 w_1 h1 => hk _ _ _ _ ⟨rfl, rfl⟩ h1)
   · intro T_ B_ a_ w_ K_ hT hB
     rintro _ _ ⟨rfl, rfl⟩ h19 -
     intro hf hsD hk
     exact ob rfl rfl (st_load1 (o := 0) (off := 22) (v := .slice A n cp) hsD (Ev.tmp h19) rfl hf Tryd.isAgg25 (hsD.cellsM (hB _ (mem_nth (i := 1) rfl))) rfl fun a_1 w_1 h1 => hk _ _ _ _ ⟨rfl, rfl⟩ h1)
   · intro T_ B_ a_ w_ K_ hT hB
     intro hf hsD hk
     exact ob rfl rfl (st_move hsD (Ev.tmp (hT _ (mem_nth (i := 1) rfl))) rfl hf fun a_1 w_1 h1 => hk _ _ _ _ ⟨rfl, rfl⟩ h1)
   · intro T_ B_ a_ w_ K_ hT hB
     rintro _ _ ⟨rfl, rfl⟩ h20 -
     rintro _ _ ⟨rfl, rfl⟩ h21 -
     intro hf hsD hk
     exact ob rfl rfl (st_indexM (o' := o10 + g.k * 4) hsD (Ev.tmp h20) (Ev.tmp h21) rfl hf hA10 Tryd.runUnderlying25 Tryd.sizeOf66 ⟨by omega, by have := hP.len; have := (List.getElem?_eq_some_iff.1 hx9).1; omega⟩ rfl fun a_1 w_1 h1 => hk _ _ _ _ ⟨rfl, rfl⟩ h1)
   · intro T_ B_ a_ w_ K_ hT hB
     rintro _ _ ⟨rfl, rfl⟩ h22 -
     intro hf hsD hk
     exact ob rfl rfl (st_field (o' := o10 + g.k * 4 + 3) hsD (Ev.tmp h22) rfl hf Tryd.runUnderlying66 rfl Tryd.sizeOf3 rfl rfl fun a_1 w_1 h1 => hk _ _ _ _ ⟨rfl, rfl⟩ h1)
   · intro T_ B_ a_ w_ K_ hT hB
     rintro _ _ ⟨rfl, rfl⟩ h23 -
     intro hf hsD hk
     exact ob rfl rfl (st_load1 (o := o10 + g.k * 4) (off := 3) (v := .int .i64 x9.walks) hsD (Ev.tmp h23) rfl hf Tryd.isAgg3 (hsD.old hc10 (by simp)) rfl fun a_1 w_1 h1 => hk _ _ _ _ ⟨rfl, rfl⟩ h1)
   · intro T_ B_ a_ w_ K_ hT hB
     rintro _ _ ⟨rfl, rfl⟩ h24 -
     intro hf hsD hk
     exact ob rfl rfl (st_add (z := x9.walks + 1) hsD (Ev.tmp h24) (.const _) rfl hf rfl (by omega) fun a_1 w_1 h1 => hk _ _ _ _ ⟨rfl, rfl⟩ h1)
   · intro T_ B_ a_ w_ K_ hT hB
     rintro _ _ ⟨rfl, rfl⟩ h18 -
     rintro _ _ ⟨rfl, rfl⟩ h25 -
     intro hf hsD hk
     exact ob rfl rfl (st_callv (vs := [.int .i64 (pickN bits (2 * (g.k : Int))), .int .i64 (x9.walks + 1)]) hsD (.func _) ⟨(Ev.tmp h18), (Ev.tmp h25), trivial⟩ rfl hf Tryd.call38 rfl (turn_v (pickN bits (2 * (g.k : Int))) (x9.walks + 1) (by omega) _) fun a_1 w_1 h1 => hk _ _ _ _ ⟨rfl, rfl⟩ h1)
   rintro _ _ ⟨rfl, rfl⟩
   rintro _ _ ⟨rfl, rfl⟩
   rintro _ _ ⟨rfl, rfl⟩
   rintro _ _ ⟨rfl, rfl⟩
   rintro _ _ ⟨rfl, rfl⟩
   rintro _ _ ⟨rfl, rfl⟩
   rintro _ _ ⟨rfl, rfl⟩
   rintro _ _ ⟨rfl, rfl⟩
   rintro _ _ ⟨rfl, rfl⟩
   rintro _ _ ⟨rfl, rfl⟩
   rintro _ _ ⟨rfl, rfl⟩
   rintro _ _ ⟨rfl, rfl⟩
   intro a_15 w_15 hs15
   clear hs14
   have hs16 := Sx.as (T' := [_, _, _, _, _, _, _, _, _, _, _, _, _, _, _, _, _, _]) (B' := [_, _]) rfl rfl hs15; clear hs15
   refine sq rfl (st_assign hs16 (Ev.t 11 rfl) rfl rfl fun _ _ hs17 => ?_); clear hs16
   refine hK12 _ _ ?_; clear hK12
   have hs18 := Sx.keepT [0, 14, 15, 16, 17, 18] [_, _, _, _, _, _] ⟨rfl, rfl, rfl, rfl, rfl, rfl, trivial⟩ hs17; clear hs17
   obtain ⟨cc, hcc⟩ : ∃ cc, turn (pickN bits (2 * (g.k : Int))) (x9.walks + 1) = cc := ⟨_, rfl⟩
   rw [hcc] at htc
   have htw := turn_bd (n := pickN bits (2 * (g.k : Int) + 1)) (m := x9.walks - cc + 1) (by omega)
   have hs19 := Sx.keepE [0, 1, 2, 3, 4, 5] [(7, .int .i64 cc), (6, _), (5, _), (4, _), (2, _), (1, _)] ⟨⟨_, rfl, (by rw [hcc])⟩, ⟨_, rfl, rfl⟩, ⟨_, rfl, rfl⟩, ⟨_, rfl, rfl⟩, ⟨_, rfl, rfl⟩, ⟨_, rfl, rfl⟩, trivial⟩ hs18; clear hs18
   have hs20 := Sx.front hs19 0 rfl; clear hs19
   refine cd_drawS1 mixed [19] ⟨OwX walksL 2 64 (g.l ++ [(Walks.mk cc (turn (pickN bits (2 * (g.k : Int) + 1)) (x9.walks - cc + 1)))]), fun n_ x_ => match n_ with | 0 => [] | _ => [(46, .slice x_.A (g.l.length + 1) x_.c)], fun n_ x_ => match n_ with | 0 => [(g.b, g.o)] | _ => [(x_.b, x_.o)]⟩ (OwX.zero (enc := walksL) (sz := 2) (fun _ => rfl) 64 (g.l ++ [(Walks.mk cc (turn (pickN bits (2 * (g.k : Int) + 1)) (x9.walks - cc + 1)))])) hs20 [⟨27, [], Is (.slice g.A g.l.length g.c)⟩,
      ⟨28, [], Is (.int .i64 cc)⟩,
      ⟨29, [], Is (.slice A4 m4 c4)⟩,
      ⟨30, [], Is (.int .i64 (g.k : Int))⟩,
      ⟨31, [3], Is (.int .i64 (2 * (g.k : Int)))⟩,
      ⟨32, [4], Is (.int .i64 ((2 * (g.k : Int)) + 1))⟩,
      ⟨33, [2, 5], Is (.int .i64 (pickN bits ((2 * (g.k : Int)) + 1)))⟩,
      ⟨34, [], Is (.pointer (some ⟨b2, 22, none⟩))⟩,
      ⟨35, [7], Is (.slice A n cp)⟩,
      ⟨36, [], Is (.int .i64 (g.k : Int))⟩,
      ⟨37, [8, 9], Is (.pointer (some ⟨b10, o10 + g.k * 4, none⟩))⟩,
      ⟨38, [10], Is (.pointer (some ⟨b10, o10 + g.k * 4 + 3, none⟩))⟩,
      ⟨39, [11], Is (.int .i64 x9.walks)⟩,
      ⟨40, [], Is (.int .i64 cc)⟩,
      ⟨41, [12, 13], Is (.int .i64 (x9.walks - cc))⟩,
      ⟨42, [14], Is (.int .i64 ((x9.walks - cc) + 1))⟩,
      ⟨43, [6, 15], Is (.int .i64 (turn (pickN bits ((2 * (g.k : Int)) + 1)) ((x9.walks - cc) + 1)))⟩,
      ⟨44, [1, 16], Is (.agg ⟨[.int .i64 cc, .int .i64 (turn (pickN bits ((2 * (g.k : Int)) + 1)) ((x9.walks - cc) + 1))]⟩)⟩,
      ⟨45, [17], fun v_ bs_ => ∃ b13, v_ = .slice (some ⟨b13, 0, none⟩) 1 1 ∧ bs_ = [(b13, some (.cells ⟨[.int .i64 cc, .int .i64 (turn (pickN bits ((2 * (g.k : Int)) + 1)) ((x9.walks - cc) + 1))]⟩ 64 (0, 0)))]⟩,
      ⟨46, [0, 18], Is undef⟩] (by kernel_rfl) (fun n_ _ => by rcases n_ with _ | _ <;> rfl) (by kernel_rfl) ⟨⟨?_, ?_, ?_, ?_, ?_, ?_, ?_, ?_, ?_, ?_, ?_, ?_, ?_, ?_, ?_, ?_, ?_, ?_, ?_, ?_, trivial⟩, ?_⟩
   · intro T_ B_ a_ w_ K_ hT hB
     intro hf hsD hk
     exact ob rfl rfl (st_move hsD (Ev.tmp (hT _ (mem_nth (i := 2) rfl))) rfl hf fun a_1 w_1 h1 => hk _ _ _ _ ⟨rfl, rfl⟩ h1)
   · intro T_ B_ a_ w_ K_ hT hB
     intro hf hsD hk
     exact ob rfl rfl (st_move hsD (Ev.tmp (hT _ (mem_nth (i := 0) rfl))) rfl hf fun a_1 w_1 h1 => hk _ _ _ _ ⟨rfl, rfl⟩ h1)
   · intro T_ B_ a_ w_ K_ hT hB
     intro hf hsD hk
     exact ob rfl rfl (st_move hsD (Ev.tmp (hT _ (mem_nth (i := 5) rfl))) rfl hf fun a_1 w_1 h1 => hk _ _ _ _ ⟨rfl, rfl⟩ h1)
   · intro T_ B_ a_ w_ K_ hT hB
     intro hf hsD hk
     exact ob rfl rfl (st_move hsD (Ev.tmp (hT _ (mem_nth (i := 1) rfl))) rfl hf fun a_1 w_1 h1 => hk _ _ _ _ ⟨rfl, rfl⟩ h1)
   · intro T_ B_ a_ w_ K_ hT hB
     rintro _ _ ⟨rfl, rfl⟩ h30 -
     intro hf hsD hk
     exact ob rfl rfl (st_mul (z := 2 * (g.k : Int)) hsD (.const _) (Ev.tmp h30) rfl hf rfl (by omega) fun a_1 w_1 h1 => hk _ _ _ _ ⟨rfl, rfl⟩ h1)
   · intro T_ B_ a_ w_ K_ hT hB
     rintro _ _ ⟨rfl, rfl⟩ h31 -
     intro hf hsD hk
     exact ob rfl rfl (st_add (z := (2 * (g.k : Int)) + 1) hsD (Ev.tmp h31) (.const _) rfl hf rfl (by omega) fun a_1 w_1 h1 => hk _ _ _ _ ⟨rfl, rfl⟩ h1)
   · intro T_ B_ a_ w_ K_ hT hB
     rintro _ _ ⟨rfl, rfl⟩ h29 -
     rintro _ _ ⟨rfl, rfl⟩ h32 -
     intro hf hsD hk
     exact ob rfl rfl (st_callv (vs := [.slice A4 m4 c4, .int .i64 ((2 * (g.k : Int)) + 1)]) hsD (.func _) ⟨(Ev.tmp h29), (Ev.tmp h32), trivial⟩ rfl hf Tryd.call67 rfl (pick_v A4 m4 c4 bits ((2 * (g.k : Int)) + 1) _ (hI.kp hsD.kp) (by omega)) fun a_1 w_1 h1 => hk _ _ _ _ ⟨rfl, rfl⟩ h1)
   · intro T_ B_ a_ w_ K_ hT hB
     intro hf hsD hk
     exact ob rfl rfl (st_field (o' := 22) hsD (Ev.tmp (hT _ (mem_nth (i := 4) rfl))) rfl hf Tryd.runUnderlying27 rfl Tryd.sizeOf25 rfl rfl fun a_1 w_1 h1 => hk _ _ _ _ ⟨rfl, rfl⟩ h1)
   · intro T_ B_ a_ w_ K_ hT hB
     rintro _ _ ⟨rfl, rfl⟩ h34 -
     intro hf hsD hk
     exact ob rfl rfl (st_load1 (o := 0) (off := 22) (v := .slice A n cp) hsD (Ev.tmp h34) rfl hf Tryd.isAgg25 (hsD.cellsM (hB _ (mem_nth (i := 0) rfl))) rfl fun a_1 w_1 h1 => hk _ _ _ _ ⟨rfl, rfl⟩ h1)
   · intro T_ B_ a_ w_ K_ hT hB
     intro hf hsD hk
     exact ob rfl rfl (st_move hsD (Ev.tmp (hT _ (mem_nth (i := 1) rfl))) rfl hf fun a_1 w_1 h1 => hk _ _ _ _ ⟨rfl, rfl⟩ h1)
   · intro T_ B_ a_ w_ K_ hT hB
     rintro _ _ ⟨rfl, rfl⟩ h35 -
     rintro _ _ ⟨rfl, rfl⟩ h36 -
     intro hf hsD hk
     exact ob rfl rfl (st_indexM (o' := o10 + g.k * 4) hsD (Ev.tmp h35) (Ev.tmp h36) rfl hf hA10 Tryd.runUnderlying25 Tryd.sizeOf66 ⟨by omega, by have := hP.len; have := (List.getElem?_eq_some_iff.1 hx9).1; omega⟩ rfl fun a_1 w_1 h1 => hk _ _ _ _ ⟨rfl, rfl⟩ h1)
   · intro T_ B_ a_ w_ K_ hT hB
     rintro _ _ ⟨rfl, rfl⟩ h37 -
     intro hf hsD hk
     exact ob rfl rfl (st_field (o' := o10 + g.k * 4 + 3) hsD (Ev.tmp h37) rfl hf Tryd.runUnderlying66 rfl Tryd.sizeOf3 rfl rfl fun a_1 w_1 h1 => hk _ _ _ _ ⟨rfl, rfl⟩ h1)
   · intro T_ B_ a_ w_ K_ hT hB
     rintro _ _ ⟨rfl, rfl⟩ h38 -
     intro hf hsD hk
     exact ob rfl rfl (st_load1 (o := o10 + g.k * 4) (off := 3) (v := .int .i64 x9.walks) hsD (Ev.tmp h38) rfl hf Tryd.isAgg3 (hsD.old hc10 (by simp)) rfl fun a_1 w_1 h1 => hk _ _ _ _ ⟨rfl, rfl⟩ h1)
   · intro T_ B_ a_ w_ K_ hT hB
     intro hf hsD hk
     exact ob rfl rfl (st_move hsD (Ev.tmp (hT _ (mem_nth (i := 0) rfl))) rfl hf fun a_1 w_1 h1 => hk _ _ _ _ ⟨rfl, rfl⟩ h1)
   · intro T_ B_ a_ w_ K_ hT hB
     rintro _ _ ⟨rfl, rfl⟩ h39 -
     rintro _ _ ⟨rfl, rfl⟩ h40 -
     intro hf hsD hk
     exact ob rfl rfl (st_sub (z := x9.walks - cc) hsD (Ev.tmp h39) (Ev.tmp h40) rfl hf rfl (by omega) fun a_1 w_1 h1 => hk _ _ _ _ ⟨rfl, rfl⟩ h1)
   · intro T_ B_ a_ w_ K_ hT hB
     rintro _ _ ⟨rfl, rfl⟩ h41 -
     intro hf hsD hk
     exact ob rfl rfl (st_add (z := (x9.walks - cc) + 1) hsD (Ev.tmp h41) (.const _) rfl hf rfl (by omega) fun a_1 w_1 h1 => hk _ _ _ _ ⟨rfl, rfl⟩ h1)
   · intro T_ B_ a_ w_ K_ hT hB
     rintro _ _ ⟨rfl, rfl⟩ h33 -
     rintro _ _ ⟨rfl, rfl⟩ h42 -
     intro hf hsD hk
     exact ob rfl rfl (st_callv (vs := [.int .i64 (pickN bits ((2 * (g.k : Int)) + 1)), .int .i64 ((x9.walks - cc) + 1)]) hsD (.func _) ⟨(Ev.tmp h33), (Ev.tmp h42), trivial⟩ rfl hf Tryd.call38 rfl (turn_v (pickN bits ((2 * (g.k : Int)) + 1)) ((x9.walks - cc) + 1) (by omega) _) fun a_1 w_1 h1 => hk _ _ _ _ ⟨rfl, rfl⟩ h1)
   · intro T_ B_ a_ w_ K_ hT hB
     rintro _ _ ⟨rfl, rfl⟩ h28 -
     rintro _ _ ⟨rfl, rfl⟩ h43 -
     intro hf hsD hk
     exact ob rfl rfl (st_build hsD (qs := [(0, .int .i64 cc), (1, .int .i64 (turn (pickN bits ((2 * (g.k : Int)) + 1)) ((x9.walks - cc) + 1)))]) (v := .agg ⟨[.int .i64 cc, .int .i64 (turn (pickN bits ((2 * (g.k : Int)) + 1)) ((x9.walks - cc) + 1))]⟩) ⟨(Ev.tmp h28), (Ev.tmp h43), trivial⟩ rfl hf rfl (fun _ => by kernel_rfl) fun a_1 w_1 h1 => hk _ _ _ _ ⟨rfl, rfl⟩ h1)
   · intro T_ B_ a_ w_ K_ hT hB
     rintro _ _ ⟨rfl, rfl⟩ h44 -
     intro hf hsD hk
     exact ob rfl rfl (st_buildSlice hsD (qs := [(0, .agg ⟨[.int .i64 cc, .int .i64 (turn (pickN bits ((2 * (g.k : Int)) + 1)) ((x9.walks - cc) + 1))]⟩)]) (e := 64) (l := [.int .i64 cc, .int .i64 (turn (pickN bits ((2 * (g.k : Int)) + 1)) ((x9.walks - cc) + 1))]) ⟨(Ev.tmp h44), trivial⟩ rfl hf rfl (fun _ => by kernel_rfl) fun b13 a_1 w_1 h1 => hk _ _ _ _ ⟨b13, rfl, rfl⟩ h1)
   · intro T_ B_ a_ w_ K_ x_ hT hB
     rintro _ _ ⟨rfl, rfl⟩ h27 -
     rintro _ _ ⟨b13, rfl, rfl⟩ h45 hB45
     intro hf hsD hk
     exact ob rfl rfl (st_append (enc := walksL) (zs := g.l) (ys := [(Walks.mk cc (turn (pickN bits (2 * (g.k : Int) + 1)) (x9.walks - cc + 1)))]) (c := g.c) (i := 0) (b := g.b) (o := g.o) hsD (Ev.tmp (List.mem_append_right _ h27)) (Ev.tmp (List.mem_append_right _ h45)) rfl hf Tryd.underlying28 (show (Tryd.prog.info? 64).map (fun i => (i.zero, i.size, i.bytes)) = some (some (.agg #[.int .i64 0, .int .i64 0]), 2, 16) by kernel_rfl) rfl (fun _ => rfl) (fun _ u hu => by simp only [walksL, List.mem_cons, List.not_mem_nil, or_false] at hu; rcases hu with rfl | rfl <;> rfl) hown rfl (sl_at (enc := walksL) (sz := 2) (ys := [(Walks.mk cc (turn (pickN bits (2 * (g.k : Int) + 1)) (x9.walks - cc + 1)))]) (fun _ => rfl) (by decide) (hsD.cellsM (List.mem_append_right _ (hB45 _ List.mem_cons_self)))) (by omega) (by omega) (fun A7 c7 b7 o7 a_1 w_1 hown7 h1 => hk ⟨A7, c7, b7, o7, hown7⟩ _ _ h1))
   rintro _ _ ⟨rfl, rfl⟩
   rintro _ _ ⟨rfl, rfl⟩
   rintro _ _ ⟨rfl, rfl⟩
   rintro _ _ ⟨rfl, rfl⟩
   rintro _ _ ⟨rfl, rfl⟩
   rintro _ _ ⟨rfl, rfl⟩
   rintro _ _ ⟨rfl, rfl⟩
   rintro _ _ ⟨rfl, rfl⟩
   rintro _ _ ⟨rfl, rfl⟩
   rintro _ _ ⟨rfl, rfl⟩
   rintro _ _ ⟨rfl, rfl⟩
   rintro _ _ ⟨rfl, rfl⟩
   rintro _ _ ⟨rfl, rfl⟩
   rintro _ _ ⟨rfl, rfl⟩
   rintro _ _ ⟨rfl, rfl⟩
   rintro _ _ ⟨rfl, rfl⟩
   rintro _ _ ⟨rfl, rfl⟩
   rintro _ _ ⟨rfl, rfl⟩
   rintro _ _ ⟨b13, rfl, rfl⟩
   intro x_ a_21 w_21 hs21
   clear hs20
   have hs22 := Sx.as (T' := [_, _, _, _, _, _, _, _, _, _, _, _, _, _, _, _, _, _, _, _, _, _, _, _, _, _]) (B' := [_, _, _]) rfl rfl hs21; clear hs21
   have hs23 := Sx.keepT [0, 1, 2, 3, 4, 5, 6, 7, 8, 9, 10, 11, 12, 13, 14, 15, 16, 17, 18, 19, 20, 21, 23, 24, 25] [_, _, _, _, _, _, _, _, _, _, _, _, _, _, _, _, _, _, _, _, _, _, _, _, _] ⟨rfl, rfl, rfl, rfl, rfl, rfl, rfl, rfl, rfl, rfl, rfl, rfl, rfl, rfl, rfl, rfl, rfl, rfl, rfl, rfl, rfl, rfl, rfl, rfl, rfl, trivial⟩ hs22; clear hs22
   refine sq rfl (st_assign hs23 (Ev.t 0 rfl) rfl rfl fun _ _ hs24 => ?_); clear hs23
   refine wpListIn_nil ?_
   have hs25 := Sx.keepT [0, 22, 23, 24, 25] [_, _, _, _, _] ⟨rfl, rfl, rfl, rfl, rfl, trivial⟩ hs24; clear hs24
   refine in_norm ?_
   refine th_norm (hK11 _ _ ?_)
   refine cd_region1 ?_
   refine sq rfl (st_move hs25 (Ev.t 1 rfl) rfl rfl fun _ _ hs26 => ?_); clear hs25
   refine sq rfl (st_add (z := (g.k : Int) + 1) hs26 (Ev.t 0 rfl) (.const _) rfl rfl rfl (by omega) fun _ _ hs27 => ?_); clear hs26
   have hs28 := Sx.keepT [0, 1, 2, 4, 5, 6] [_, _, _, _, _, _] ⟨rfl, rfl, rfl, rfl, rfl, rfl, trivial⟩ hs27; clear hs27
   refine sq rfl (st_assign hs28 (Ev.t 0 rfl) rfl rfl fun _ _ hs29 => ?_); clear hs28
   refine wpListIn_nil ?_
   have hs30 := Sx.keepT [0, 3, 4, 5, 6] [_, _, _, _, _] ⟨rfl, rfl, rfl, rfl, rfl, trivial⟩ hs29; clear hs29
   refine ⟨(OwG.mk (g.k + 1) x_.A x_.c (g.l ++ [(Walks.mk cc (turn (pickN bits (2 * (g.k : Int) + 1)) (x9.walks - cc + 1)))]) x_.b x_.o), ⟨?_, ?_, ?_, ?_, ?_⟩, by (show n - (g.k + 1) < n - g.k; omega)⟩
   · exact hin
   · simp [hgl]
   · exact snoc_all (R := fun x y => okWalks x y = true) hv hgl hx9 (okWalks_iff.2 ⟨htc.1, by simp only; omega, htw.1, by simp only; omega⟩)
   · exact x_.h
   have hs31 : Sx 48 [] [(6, .int .i64 ((g.k : Int) + 1)), (5, .slice x_.A (g.l.length + 1) x_.c), (4, .slice none 0 0), (2, .pointer (some ⟨b2, 0, none⟩)), (1, .slice A4 m4 c4)] [(x_.b, x_.o), (b2, some (.cells ⟨(bookL b A n cp)⟩ 27 (0, 0)))] [] w _ _ := Sx.blks hs30 ((List.Sublist.cons_cons _ (List.Sublist.cons _ (List.Sublist.cons_cons _ List.Sublist.slnil))))
   exact Sx.keepE [0, 1, 2, 3, 4] _ ⟨⟨_, rfl, rfl⟩, ⟨_, rfl, (by simp)⟩, ⟨_, rfl, rfl⟩, ⟨_, rfl, rfl⟩, ⟨_, rfl, rfl⟩, trivial⟩ hs31
 · have hkn : g.k = n := by simp at hc8; omega
   refine cd_exit ?_
   refine th_exit ?_
   refine th_exit ?_
   refine in_hit ?_
   refine th_norm (hK4 _ _ ?_)
   refine cd_region fun K14 hK14 => ?_
   refine sq rfl (st_move hs14 (Ev.t 2 rfl) rfl rfl fun _ _ hs15 => ?_); clear hs14
   have hs16 := Sx.keepT [0, 1, 2, 3, 5, 6] [_, _, _, _, _, _] ⟨rfl, rfl, rfl, rfl, rfl, rfl, trivial⟩ hs15; clear hs15
   refine sq rfl (st_assign hs16 (Ev.t 0 rfl) rfl rfl fun _ _ hs17 => ?_); clear hs16
   refine hK14 _ _ ?_; clear hK14
   have hs18 := Sx.keepT [0] [_] ⟨rfl, trivial⟩ hs17; clear hs17
   exact cd_ret (vs := [.slice g.A g.l.length g.c]) (bs := [(g.b, g.o)]) hs18 hQ0 rfl ⟨.tmp 0 rfl, trivial⟩ (.cons_cons _ (List.nil_sublist _)) ⟨g.l, g.A, g.c, g.b, g.o, rfl, hown, rfl, isPlan_of (by omega) hv⟩

theorem row_b (A2 : Option Addr) (m c2 : Nat) (plan : List Walks) (w : World) (hL : PlanAt w A2 m plan) (hm : m ≤ 140737488351232) (hs5 : m ≤ 100) :
    CallsB Tryd.prog 43 [.slice A2 m c2] w (fun v bs => ∃ A7 c7 b7 o7, v = .slice A7 (rowL plan).length c7 ∧ Sx.Own intL 1 3 A7 c7 (rowL plan) b7 o7 ∧ bs = [(b7, o7)]) := by
 have hl2 := hL.len
 refine enter (N := 25) (M := []) w Tryd.func43 rfl rfl rfl (fun Q0 a_0 hQ0 hN0 hs0 => ?_)
 refine cd_region fun K1 hK1 => ?_
 refine sq rfl (st_assign hs0 (.const _) rfl rfl fun _ _ hs1 => ?_); clear hs0
 refine hK1 _ _ ?_; clear hK1
 refine cd_region fun K2 hK2 => ?_
 refine sq rfl (st_assign hs1 (.const _) rfl rfl fun _ _ hs2 => ?_); clear hs1
 refine hK2 _ _ ?_; clear hK2
 have hs3 := hs2.hide 0; clear hs2
 refine cd_seq fun K3 hK3 => ?_
 refine cd_region fun K4 hK4 => ?_
 refine sq rfl (st_assign hs3 (.const _) rfl rfl fun _ _ hs4 => ?_); clear hs3
 refine hK4 _ _ ?_; clear hK4
 refine cd_block ?_
 have hs5 : Sx 25 [] [(4, .int .i64 ((OwG.mk 0 none 0 ([] : List Int) 0 none).k : Int)), (3, .slice ((OwG.mk 0 none 0 ([] : List Int) 0 none).A) ((OwG.mk 0 none 0 ([] : List Int) 0 none).l.length) ((OwG.mk 0 none 0 ([] : List Int) 0 none).c)), (2, .slice none 0 0), (0, .slice A2 m c2)] [((OwG.mk 0 none 0 ([] : List Int) 0 none).b, (OwG.mk 0 none 0 ([] : List Int) 0 none).o)] [] w _ _ := Sx.keepE [0, 1, 2, 3] _ ⟨⟨_, rfl, rfl⟩, ⟨_, rfl, rfl⟩, ⟨_, rfl, rfl⟩, ⟨_, rfl, rfl⟩, trivial⟩ hs4; clear hs4
 refine cd_loop (X := OwG Int) (fun g a_ w_ => (g.k ≤ m) ∧ (g.l = rowL (plan.take g.k)) ∧ (Sx.Own intL 1 3 g.A g.c g.l g.b g.o) ∧ Sx 25 [] [(4, .int .i64 (g.k : Int)), (3, .slice g.A g.l.length g.c), (2, .slice none 0 0), (0, .slice A2 m c2)] [(g.b, g.o)] [] w a_ w_) (fun g => m - g.k) ((OwG.mk 0 none 0 ([] : List Int) 0 none)) ⟨?_, ?_, ?_, hs5⟩ ?_
 · exact Nat.zero_le _
 · simp [rowL]
 · exact .inl ⟨rfl, rfl⟩
 intro g a_6 w_6 ⟨hk, hgl, hown, hs6⟩; clear hs5
 refine cd_seq fun K5 hK5 => ?_
 refine cd_region fun K6 hK6 => ?_
 refine sq rfl (st_move hs6 (Ev.t 0 rfl) rfl rfl fun _ _ hs7 => ?_); clear hs6
 refine sq rfl (st_move hs7 (Ev.t 4 rfl) rfl rfl fun _ _ hs8 => ?_); clear hs7
 refine sq rfl (st_len hs8 (Ev.t 0 rfl) rfl rfl Tryd.runUnderlying28 fun _ _ hs9 => ?_); clear hs8
 refine sq rfl (st_cmp (c := decide (((g.k : Int) : Int) < (m : Int))) hs9 (Ev.t 2 rfl) (Ev.t 0 rfl) rfl rfl rfl rfl fun _ _ hs10 => ?_); clear hs9
 refine hK6 _ _ ?_; clear hK6
 have hs11 := Sx.keepT [0, 4, 5, 6, 7] [_, _, _, _, _] ⟨rfl, rfl, rfl, rfl, rfl, trivial⟩ hs10; clear hs10
 refine cd_cond hs11 (Ev.t 0 rfl) (fun hc7 => ?_) (fun hc7 => ?_)
 · have hin : g.k < m := by simpa using hc7
   have hil : g.k < plan.length := by omega
   obtain ⟨x8, hx8⟩ : ∃ x, plan[g.k]? = some x := ⟨_, List.getElem?_eq_getElem (by have := hL.len; omega)⟩
   obtain ⟨b9, o9, hA9, -, hc9⟩ := hL.el g.k x8 hx8
   have hrl := rowL_len (plan.take g.k)
   rw [← hgl, List.length_take] at hrl
   refine cd_skip ?_
   refine th_norm (hK5 _ _ ?_)
   refine cd_seq fun K10 hK10 => ?_
   refine cd_block ?_
   refine cd_drawn1 mixed hs11 [⟨11, [], Is (.slice g.A g.l.length g.c)⟩,
      ⟨12, [], Is (.slice A2 m c2)⟩,
      ⟨13, [], Is (.int .i64 (g.k : Int))⟩,
      ⟨14, [1, 2], Is (.pointer (some ⟨b9, o9 + g.k * 2, none⟩))⟩,
      ⟨15, [3], Is (.pointer (some ⟨b9, o9 + g.k * 2, none⟩))⟩,
      ⟨16, [4], Is (.int .i64 x8.c)⟩,
      ⟨17, [], Is (.slice A2 m c2)⟩,
      ⟨18, [], Is (.int .i64 (g.k : Int))⟩,
      ⟨19, [6, 7], Is (.pointer (some ⟨b9, o9 + g.k * 2, none⟩))⟩,
      ⟨20, [8], Is (.pointer (some ⟨b9, o9 + g.k * 2 + 1, none⟩))⟩,
      ⟨21, [9], Is (.int .i64 x8.w)⟩,
      ⟨22, [5, 10], fun v_ bs_ => ∃ b11, v_ = .slice (some ⟨b11, 0, none⟩) 2 2 ∧ bs_ = [(b11, some (.cells ⟨[.int .i64 x8.c, .int .i64 x8.w]⟩ 3 (0, 0)))]⟩] (by kernel_rfl) (by kernel_rfl) ⟨⟨?_, ?_, ?_, ?_, ?_, ?_, ?_, ?_, ?_, ?_, ?_, ?_, trivial⟩, ?_⟩
   · intro T_ B_ a_ w_ K_ hT hB
     intro hf hsD hk
     exact ob rfl rfl (st_move hsD (Ev.tmp (hT _ (mem_nth (i := 2) rfl))) rfl hf fun a_1 w_1 h1 => hk _ _ _ _ ⟨rfl, rfl⟩ h1)
   · intro T_ B_ a_ w_ K_ hT hB
     intro hf hsD hk
     exact ob rfl rfl (st_move hsD (Ev.tmp (hT _ (mem_nth (i := 4) rfl))) rfl hf fun a_1 w_1 h1 => hk _ _ _ _ ⟨rfl, rfl⟩ h1)
   · intro T_ B_ a_ w_ K_ hT hB
     intro hf hsD hk
     exact ob rfl rfl (st_move hsD (Ev.tmp (hT _ (mem_nth (i := 1) rfl))) rfl hf fun a_1 w_1 h1 => hk _ _ _ _ ⟨rfl, rfl⟩ h1)
   · intro T_ B_ a_ w_ K_ hT hB
     rintro _ _ ⟨rfl, rfl⟩ h12 -
     rintro _ _ ⟨rfl, rfl⟩ h13 -
     intro hf hsD hk
     exact ob rfl rfl (st_indexM (o' := o9 + g.k * 2) hsD (Ev.tmp h12) (Ev.tmp h13) rfl hf hA9 Tryd.runUnderlying28 Tryd.sizeOf64 ⟨by omega, by have := hL.len; have := (List.getElem?_eq_some_iff.1 hx8).1; omega⟩ rfl fun a_1 w_1 h1 => hk _ _ _ _ ⟨rfl, rfl⟩ h1)
   · intro T_ B_ a_ w_ K_ hT hB
     rintro _ _ ⟨rfl, rfl⟩ h14 -
     intro hf hsD hk
     exact ob rfl rfl (st_field (o' := o9 + g.k * 2) hsD (Ev.tmp h14) rfl hf Tryd.runUnderlying64 rfl Tryd.sizeOf3 rfl rfl fun a_1 w_1 h1 => hk _ _ _ _ ⟨rfl, rfl⟩ h1)
   · intro T_ B_ a_ w_ K_ hT hB
     rintro _ _ ⟨rfl, rfl⟩ h15 -
     intro hf hsD hk
     exact ob rfl rfl (st_load1 (o := o9 + g.k * 2) (off := 0) (v := .int .i64 x8.c) hsD (Ev.tmp h15) rfl hf Tryd.isAgg3 (hsD.old hc9 (by simp)) rfl fun a_1 w_1 h1 => hk _ _ _ _ ⟨rfl, rfl⟩ h1)
   · intro T_ B_ a_ w_ K_ hT hB
     intro hf hsD hk
     exact ob rfl rfl (st_move hsD (Ev.tmp (hT _ (mem_nth (i := 4) rfl))) rfl hf fun a_1 w_1 h1 => hk _ _ _ _ ⟨rfl, rfl⟩ h1)
   · intro T_ B_ a_ w_ K_ hT hB
     intro hf hsD hk
     exact ob rfl rfl (st_move hsD (Ev.tmp (hT _ (mem_nth (i := 1) rfl))) rfl hf fun a_1 w_1 h1 => hk _ _ _ _ ⟨rfl, rfl⟩ h1)
   · intro T_ B_ a_ w_ K_ hT hB
     rintro _ _ ⟨rfl, rfl⟩ h17 -
     rintro _ _ ⟨rfl, rfl⟩ h18 -
     intro hf hsD hk
     exact ob rfl rfl (st_indexM (o' := o9 + g.k * 2) hsD (Ev.tmp h17) (Ev.tmp h18) rfl hf hA9 Tryd.runUnderlying28 Tryd.sizeOf64 ⟨by omega, by have := hL.len; have := (List.getElem?_eq_some_iff.1 hx8).1; omega⟩ rfl fun a_1 w_1 h1 => hk _ _ _ _ ⟨rfl, rfl⟩ h1)
   · intro T_ B_ a_ w_ K_ hT hB
     rintro _ _ ⟨rfl, rfl⟩ h19 -
     intro hf hsD hk
     exact ob rfl rfl (st_field (o' := o9 + g.k * 2 + 1) hsD (Ev.tmp h19) rfl hf Tryd.runUnderlying64 rfl Tryd.sizeOf3 rfl rfl fun a_1 w_1 h1 => hk _ _ _ _ ⟨rfl, rfl⟩ h1)
   · intro T_ B_ a_ w_ K_ hT hB
     rintro _ _ ⟨rfl, rfl⟩ h20 -
     intro hf hsD hk
     exact ob rfl rfl (st_load1 (o := o9 + g.k * 2) (off := 1) (v := .int .i64 x8.w) hsD (Ev.tmp h20) rfl hf Tryd.isAgg3 (hsD.old hc9 (by simp)) rfl fun a_1 w_1 h1 => hk _ _ _ _ ⟨rfl, rfl⟩ h1)
   · intro T_ B_ a_ w_ K_ hT hB
     rintro _ _ ⟨rfl, rfl⟩ h16 -
     rintro _ _ ⟨rfl, rfl⟩ h21 -
     intro hf hsD hk
     exact ob rfl rfl (st_buildSlice hsD (qs := [(0, .int .i64 x8.c), (1, .int .i64 x8.w)]) (e := 3) (l := [.int .i64 x8.c, .int .i64 x8.w]) ⟨(Ev.tmp h16), (Ev.tmp h21), trivial⟩ rfl hf rfl (fun _ => by kernel_rfl) fun b11 a_1 w_1 h1 => hk _ _ _ _ ⟨b11, rfl, rfl⟩ h1)
   rintro _ _ ⟨rfl, rfl⟩
   rintro _ _ ⟨rfl, rfl⟩
   rintro _ _ ⟨rfl, rfl⟩
   rintro _ _ ⟨rfl, rfl⟩
   rintro _ _ ⟨rfl, rfl⟩
   rintro _ _ ⟨rfl, rfl⟩
   rintro _ _ ⟨rfl, rfl⟩
   rintro _ _ ⟨rfl, rfl⟩
   rintro _ _ ⟨rfl, rfl⟩
   rintro _ _ ⟨rfl, rfl⟩
   rintro _ _ ⟨rfl, rfl⟩
   rintro _ _ ⟨b11, rfl, rfl⟩
   intro a_12 w_12 hs12
   clear hs11
   have hs13 := Sx.as (T' := [_, _, _, _, _, _, _, _, _, _, _, _, _, _, _, _, _]) (B' := [_, _]) rfl rfl hs12; clear hs12
   refine sq rfl (st_append (enc := intL) (zs := g.l) (ys := [x8.c, x8.w]) (c := g.c) (i := 1) hs13 (Ev.t 0 rfl) (Ev.t 11 rfl) rfl rfl Tryd.underlying47 (show (Tryd.prog.info? 3).map (fun i => (i.zero, i.size, i.bytes)) = some (some (.int .i64 0), 1, 8) by kernel_rfl) rfl (fun _ => rfl) (fun _ u hu => by simp only [intL, List.mem_cons, List.not_mem_nil, or_false] at hu; subst hu; rfl) hown rfl (sl_at (enc := intL) (sz := 1) (ys := [x8.c, x8.w]) (fun _ => rfl) (by decide) (hs13.cells 0 rfl)) (by omega) (by omega) (fun A7 c7 b7 o7 _ _ hown7 hs14 => ?_)); clear hs13
   have hs15 := Sx.as (T' := [_, _, _, _, _, _, _, _, _, _, _, _, _, _, _, _, _, _]) (B' := [_, _]) rfl rfl hs14; clear hs14
   have hs16 := Sx.keepT [0, 1, 2, 3, 4, 5, 6, 7, 8, 9, 10, 11, 12, 13, 14, 16, 17] [_, _, _, _, _, _, _, _, _, _, _, _, _, _, _, _, _] ⟨rfl, rfl, rfl, rfl, rfl, rfl, rfl, rfl, rfl, rfl, rfl, rfl, rfl, rfl, rfl, rfl, rfl, trivial⟩ hs15; clear hs15
   refine sq rfl (st_assign hs16 (Ev.t 0 rfl) rfl rfl fun _ _ hs17 => ?_); clear hs16
   refine wpListIn_nil ?_
   have hs18 := Sx.keepT [0, 15, 16, 17] [_, _, _, _] ⟨rfl, rfl, rfl, rfl, trivial⟩ hs17; clear hs17
   refine in_norm ?_
   refine th_norm (hK10 _ _ ?_)
   refine cd_region1 ?_
   refine sq rfl (st_move hs18 (Ev.t 1 rfl) rfl rfl fun _ _ hs19 => ?_); clear hs18
   refine sq rfl (st_add (z := (g.k : Int) + 1) hs19 (Ev.t 0 rfl) (.const _) rfl rfl rfl (by omega) fun _ _ hs20 => ?_); clear hs19
   have hs21 := Sx.keepT [0, 1, 2, 4, 5] [_, _, _, _, _] ⟨rfl, rfl, rfl, rfl, rfl, trivial⟩ hs20; clear hs20
   refine sq rfl (st_assign hs21 (Ev.t 0 rfl) rfl rfl fun _ _ hs22 => ?_); clear hs21
   refine wpListIn_nil ?_
   have hs23 := Sx.keepT [0, 3, 4, 5] [_, _, _, _] ⟨rfl, rfl, rfl, rfl, trivial⟩ hs22; clear hs22
   refine ⟨(OwG.mk (g.k + 1) A7 c7 (g.l ++ [x8.c, x8.w]) b7 o7), ⟨?_, ?_, ?_, ?_⟩, by (show m - (g.k + 1) < m - g.k; omega)⟩
   · exact hin
   · show g.l ++ _ = rowL (plan.take (g.k + 1))
     rw [rowL_snoc hx8, hgl]
   · exact hown7
   have hs24 : Sx 25 [] [(4, .int .i64 ((g.k : Int) + 1)), (3, .slice A7 (g.l.length + 2) c7), (2, .slice none 0 0), (0, .slice A2 m c2)] [(b7, o7)] [] w _ _ := Sx.blks hs23 ((List.Sublist.cons _ (List.Sublist.cons_cons _ List.Sublist.slnil)))
   exact Sx.keepE [0, 1, 2, 3] _ ⟨⟨_, rfl, rfl⟩, ⟨_, rfl, (by simp)⟩, ⟨_, rfl, rfl⟩, ⟨_, rfl, rfl⟩, trivial⟩ hs24
 · have hkm : g.k = m := by simp at hc7; omega
   refine cd_exit ?_
   refine th_exit ?_
   refine th_exit ?_
   refine in_hit ?_
   refine th_norm (hK3 _ _ ?_)
   refine cd_region fun K12 hK12 => ?_
   refine sq rfl (st_move hs11 (Ev.t 2 rfl) rfl rfl fun _ _ hs12 => ?_); clear hs11
   have hs13 := Sx.keepT [0, 1, 2, 3, 5] [_, _, _, _, _] ⟨rfl, rfl, rfl, rfl, rfl, trivial⟩ hs12; clear hs12
   refine sq rfl (st_assign hs13 (Ev.t 0 rfl) rfl rfl fun _ _ hs14 => ?_); clear hs13
   refine hK12 _ _ ?_; clear hK12
   have hs15 := Sx.keepT [0] [_] ⟨rfl, trivial⟩ hs14; clear hs14
   have hfin : g.l = rowL plan := by rw [hgl, hkm, List.take_of_length_le (by omega)]
   exact cd_ret (vs := [.slice g.A g.l.length g.c]) (bs := [(g.b, g.o)]) hs15 hQ0 rfl ⟨.tmp 0 rfl, trivial⟩ (.cons_cons _ (List.nil_sublist _)) ⟨g.A, g.c, g.b, g.o, by rw [← hfin]; rfl, hfin ▸ hown, rfl⟩

theorem before_v (A5 : Option Addr) (m5 c5 : Nat) (xs : List Int) (A6 : Option Addr) (m6 c6 : Nat) (ys : List Int) (w : World) (hX : SlAt intL 1 w A5 m5 xs) (hY : SlAt intL 1 w A6 m6 ys) (hm5 : m5 ≤ 140737488351232) (_hm6 : m6 ≤ 140737488351232) :
    CallsV Tryd.prog 42 [.slice A5 m5 c5, .slice A6 m6 c6] w (.bool (beforeL xs ys)) := by
 have hl5 := hX.len
 have hl6 := hY.len
 refine enter (N := 41) (M := []) w Tryd.func42 rfl rfl rfl (fun Q0 a_0 hQ0 hN0 hs0 => ?_)
 refine cd_region fun K1 hK1 => ?_
 refine sq rfl (st_assign hs0 (.const _) rfl rfl fun _ _ hs1 => ?_); clear hs0
 refine hK1 _ _ ?_; clear hK1
 refine cd_seq fun K2 hK2 => ?_
 refine cd_region fun K3 hK3 => ?_
 refine sq rfl (st_assign hs1 (.const _) rfl rfl fun _ _ hs2 => ?_); clear hs1
 refine hK3 _ _ ?_; clear hK3
 refine cd_block ?_
 have hs3 : Sx 41 [] [(5, .int .i64 (0 : Int)), (4, .bool false), (0, .slice A5 m5 c5), (1, .slice A6 m6 c6)] [] [] w _ _ := Sx.keepE [0, 1, 2, 3] _ ⟨⟨_, rfl, rfl⟩, ⟨_, rfl, rfl⟩, ⟨_, rfl, rfl⟩, ⟨_, rfl, rfl⟩, trivial⟩ hs2; clear hs2
 refine cd_loop (X := Nat) (fun i a_ w_ => (i ≤ m5 ∧ i ≤ m6) ∧ (beforeL xs ys = beforeL (xs.drop i) (ys.drop i)) ∧ Sx 41 [] [(5, .int .i64 (i : Int)), (4, .bool false), (0, .slice A5 m5 c5), (1, .slice A6 m6 c6)] [] [] w a_ w_) (fun i => m5 - i) (0) ⟨?_, ?_, hs3⟩ ?_
 · exact ⟨Nat.zero_le _, Nat.zero_le _⟩
 · simp
 intro i a_4 w_4 ⟨hi, hf, hs4⟩; clear hs3
 refine cd_seq fun K4 hK4 => ?_
 refine cd_region fun K5 hK5 => ?_
 refine sq rfl (st_move hs4 (Ev.t 0 rfl) rfl rfl fun _ _ hs5 => ?_); clear hs4
 refine sq rfl (st_move hs5 (Ev.t 3 rfl) rfl rfl fun _ _ hs6 => ?_); clear hs5
 refine sq rfl (st_len hs6 (Ev.t 0 rfl) rfl rfl Tryd.runUnderlying47 fun _ _ hs7 => ?_); clear hs6
 refine sq rfl (st_cmp (c := decide (((i : Int) : Int) < (m5 : Int))) hs7 (Ev.t 2 rfl) (Ev.t 0 rfl) rfl rfl rfl rfl fun _ _ hs8 => ?_); clear hs7
 refine sq rfl (st_move hs8 (Ev.t 0 rfl) rfl rfl fun _ _ hs9 => ?_); clear hs8
 refine sq_gv hs9 (gg := decide (((i : Int) : Int) < (m5 : Int))) (v := .int .i64 (i : Int)) rfl rfl 0 rfl (ison_t _) rfl rfl rfl (fun hg6 K7 hK7 => st_move hs9 (Ev.t 5 rfl) rfl rfl hK7) fun _ _ hs10 => ?_; clear hs9
 refine sq_gv hs10 (gg := decide (((i : Int) : Int) < (m5 : Int))) (v := .slice A6 m6 c6) rfl rfl 1 rfl (ison_t _) rfl rfl rfl (fun hg8 K9 hK9 => st_move hs10 (Ev.t 9 rfl) rfl rfl hK9) fun _ _ hs11 => ?_; clear hs10
 refine sq_gv hs11 (gg := decide (((i : Int) : Int) < (m5 : Int))) (v := .int .i64 (m6 : Int)) rfl rfl 2 rfl (ison_t _) rfl rfl rfl (fun hg10 K11 hK11 => st_len hs11 ((Ev.t 0 rfl).un hg10) rfl rfl Tryd.runUnderlying47 hK11) fun _ _ hs12 => ?_; clear hs11
 refine sq_gv hs12 (gg := decide (((i : Int) : Int) < (m5 : Int))) (v := .bool (decide (((i : Int) : Int) < (m6 : Int)))) rfl rfl 3 rfl (ison_t _) rfl rfl rfl (fun hg12 K13 hK13 => st_cmp (c := decide (((i : Int) : Int) < (m6 : Int))) hs12 ((Ev.t 2 rfl).un hg12) ((Ev.t 0 rfl).un hg12) rfl rfl rfl rfl hK13) fun _ _ hs13 => ?_; clear hs12
 refine sq rfl (st_and hs13 (gx := true) (gy := decide (((i : Int) : Int) < (m5 : Int))) (Ev.t 4 rfl) rfl (Ev.t 0 rfl) (fun h => h) rfl rfl fun _ _ hs14 => ?_); clear hs13
 refine hK5 _ _ ?_; clear hK5
 have hs15 := Sx.keepT [0, 10, 11, 12, 13] [_, _, _, _, _] ⟨rfl, rfl, rfl, rfl, rfl, trivial⟩ hs14; clear hs14
 refine cd_cond hs15 (Ev.t 0 rfl) (fun hc14 => ?_) (fun hc14 => ?_)
 · simp only [Bool.and_eq_true, decide_eq_true_eq] at hc14
   have hi1 := hc14.1; have hi2 := hc14.2
   obtain ⟨x15, hx15⟩ : ∃ x, xs[i]? = some x := ⟨_, List.getElem?_eq_getElem (by have := hX.len; omega)⟩
   obtain ⟨b16, o16, hA16, -, hc16⟩ := hX.el i x15 hx15
   obtain ⟨x17, hx17⟩ : ∃ x, ys[i]? = some x := ⟨_, List.getElem?_eq_getElem (by have := hY.len; omega)⟩
   obtain ⟨b18, o18, hA18, -, hc18⟩ := hY.el i x17 hx17
   have hbd := before_drop hx15 hx17
   refine cd_skip ?_
   refine th_norm (hK4 _ _ ?_)
   refine cd_seq fun K19 hK19 => ?_
   refine cd_block ?_
   refine cd_drawn mixed hs15 [⟨18, [], Is (.slice A5 m5 c5)⟩,
      ⟨19, [], Is (.int .i64 (i : Int))⟩,
      ⟨20, [0, 1], Is (.pointer (some ⟨b16, o16 + i * 1, none⟩))⟩,
      ⟨21, [2], Is (.int .i64 x15)⟩,
      ⟨22, [], Is (.slice A6 m6 c6)⟩,
      ⟨23, [], Is (.int .i64 (i : Int))⟩,
      ⟨24, [4, 5], Is (.pointer (some ⟨b18, o18 + i * 1, none⟩))⟩,
      ⟨25, [6], Is (.int .i64 x17)⟩,
      ⟨26, [3, 7], Is (.bool ((x15 : Int) != x17))⟩] (by kernel_rfl) (by kernel_rfl) fun K20 hK20 => ⟨⟨?_, ?_, ?_, ?_, ?_, ?_, ?_, ?_, ?_, trivial⟩, ?_⟩
   · intro T_ B_ a_ w_ K_ hT hB
     intro hf hsD hk
     exact ob rfl rfl (st_move hsD (Ev.tmp (hT _ (mem_nth (i := 3) rfl))) rfl hf fun a_1 w_1 h1 => hk _ _ _ _ ⟨rfl, rfl⟩ h1)
   · intro T_ B_ a_ w_ K_ hT hB
     intro hf hsD hk
     exact ob rfl rfl (st_move hsD (Ev.tmp (hT _ (mem_nth (i := 1) rfl))) rfl hf fun a_1 w_1 h1 => hk _ _ _ _ ⟨rfl, rfl⟩ h1)
   · intro T_ B_ a_ w_ K_ hT hB
     rintro _ _ ⟨rfl, rfl⟩ h18 -
     rintro _ _ ⟨rfl, rfl⟩ h19 -
     intro hf hsD hk
     exact ob rfl rfl (st_indexM (o' := o16 + i * 1) hsD (Ev.tmp h18) (Ev.tmp h19) rfl hf hA16 Tryd.runUnderlying47 Tryd.sizeOf3 ⟨by omega, by have := hX.len; have := (List.getElem?_eq_some_iff.1 hx15).1; omega⟩ rfl fun a_1 w_1 h1 => hk _ _ _ _ ⟨rfl, rfl⟩ h1)
   · intro T_ B_ a_ w_ K_ hT hB
     rintro _ _ ⟨rfl, rfl⟩ h20 -
     intro hf hsD hk
     exact ob rfl rfl (st_load1 (o := o16 + i * 1) (off := 0) (v := .int .i64 x15) hsD (Ev.tmp h20) rfl hf Tryd.isAgg3 (hsD.old hc16 (by simp)) rfl fun a_1 w_1 h1 => hk _ _ _ _ ⟨rfl, rfl⟩ h1)
   · intro T_ B_ a_ w_ K_ hT hB
     intro hf hsD hk
     exact ob rfl rfl (st_move hsD (Ev.tmp (hT _ (mem_nth (i := 4) rfl))) rfl hf fun a_1 w_1 h1 => hk _ _ _ _ ⟨rfl, rfl⟩ h1)
   · intro T_ B_ a_ w_ K_ hT hB
     intro hf hsD hk
     exact ob rfl rfl (st_move hsD (Ev.tmp (hT _ (mem_nth (i := 1) rfl))) rfl hf fun a_1 w_1 h1 => hk _ _ _ _ ⟨rfl, rfl⟩ h1)
   · intro T_ B_ a_ w_ K_ hT hB
     rintro _ _ ⟨rfl, rfl⟩ h22 -
     rintro _ _ ⟨rfl, rfl⟩ h23 -
     intro hf hsD hk
     exact ob rfl rfl (st_indexM (o' := o18 + i * 1) hsD (Ev.tmp h22) (Ev.tmp h23) rfl hf hA18 Tryd.runUnderlying47 Tryd.sizeOf3 ⟨by omega, by have := hY.len; have := (List.getElem?_eq_some_iff.1 hx17).1; omega⟩ rfl fun a_1 w_1 h1 => hk _ _ _ _ ⟨rfl, rfl⟩ h1)
   · intro T_ B_ a_ w_ K_ hT hB
     rintro _ _ ⟨rfl, rfl⟩ h24 -
     intro hf hsD hk
     exact ob rfl rfl (st_load1 (o := o18 + i * 1) (off := 0) (v := .int .i64 x17) hsD (Ev.tmp h24) rfl hf Tryd.isAgg3 (hsD.old hc18 (by simp)) rfl fun a_1 w_1 h1 => hk _ _ _ _ ⟨rfl, rfl⟩ h1)
   · intro T_ B_ a_ w_ K_ hT hB
     rintro _ _ ⟨rfl, rfl⟩ h21 -
     rintro _ _ ⟨rfl, rfl⟩ h25 -
     intro hf hsD hk
     exact ob rfl rfl (st_cmp (c := (x15 : Int) != x17) hsD (Ev.tmp h21) (Ev.tmp h25) rfl hf rfl rfl fun a_1 w_1 h1 => hk _ _ _ _ ⟨rfl, rfl⟩ h1)
   rintro _ _ ⟨rfl, rfl⟩
   rintro _ _ ⟨rfl, rfl⟩
   rintro _ _ ⟨rfl, rfl⟩
   rintro _ _ ⟨rfl, rfl⟩
   rintro _ _ ⟨rfl, rfl⟩
   rintro _ _ ⟨rfl, rfl⟩
   rintro _ _ ⟨rfl, rfl⟩
   rintro _ _ ⟨rfl, rfl⟩
   rintro _ _ ⟨rfl, rfl⟩
   intro a_16 w_16 hs16
   clear hs15
   have hs17 := Sx.as (T' := [_, _, _, _, _, _, _, _, _, _, _, _, _, _]) (B' := []) rfl rfl hs16; clear hs16
   refine hK20 _ _ ?_; clear hK20
   have hs18 := Sx.keepT [8, 10, 11, 12, 13] [_, _, _, _, _] ⟨rfl, rfl, rfl, rfl, rfl, trivial⟩ hs17; clear hs17
   refine cd_cond hs18 (Ev.t 0 rfl) (fun hc21 => ?_) (fun hc21 => ?_)
   · have hne : ¬ (x15 = x17) := by simpa using hc21
     refine cd_drawn mixed hs18 [⟨27, [], Is (.slice A5 m5 c5)⟩,
      ⟨28, [], Is (.int .i64 (i : Int))⟩,
      ⟨29, [0, 1], Is (.pointer (some ⟨b16, o16 + i * 1, none⟩))⟩,
      ⟨30, [2], Is (.int .i64 x15)⟩,
      ⟨31, [], Is (.slice A6 m6 c6)⟩,
      ⟨32, [], Is (.int .i64 (i : Int))⟩,
      ⟨33, [4, 5], Is (.pointer (some ⟨b18, o18 + i * 1, none⟩))⟩,
      ⟨34, [6], Is (.int .i64 x17)⟩,
      ⟨35, [3, 7], Is (.bool (decide ((x15 : Int) < x17)))⟩] (by kernel_rfl) (by kernel_rfl) fun K22 hK22 => ⟨⟨?_, ?_, ?_, ?_, ?_, ?_, ?_, ?_, ?_, trivial⟩, ?_⟩
     · intro T_ B_ a_ w_ K_ hT hB
       intro hf hsD hk
       exact ob rfl rfl (st_move hsD (Ev.tmp (hT _ (mem_nth (i := 3) rfl))) rfl hf fun a_1 w_1 h1 => hk _ _ _ _ ⟨rfl, rfl⟩ h1)
     · intro T_ B_ a_ w_ K_ hT hB
       intro hf hsD hk
       exact ob rfl rfl (st_move hsD (Ev.tmp (hT _ (mem_nth (i := 1) rfl))) rfl hf fun a_1 w_1 h1 => hk _ _ _ _ ⟨rfl, rfl⟩ h1)
     · intro T_ B_ a_ w_ K_ hT hB
       rintro _ _ ⟨rfl, rfl⟩ h27 -
       rintro _ _ ⟨rfl, rfl⟩ h28 -
       intro hf hsD hk
       exact ob rfl rfl (st_indexM (o' := o16 + i * 1) hsD (Ev.tmp h27) (Ev.tmp h28) rfl hf hA16 Tryd.runUnderlying47 Tryd.sizeOf3 ⟨by omega, by have := hX.len; have := (List.getElem?_eq_some_iff.1 hx15).1; omega⟩ rfl fun a_1 w_1 h1 => hk _ _ _ _ ⟨rfl, rfl⟩ h1)
     · intro T_ B_ a_ w_ K_ hT hB
       rintro _ _ ⟨rfl, rfl⟩ h29 -
       intro hf hsD hk
       exact ob rfl rfl (st_load1 (o := o16 + i * 1) (off := 0) (v := .int .i64 x15) hsD (Ev.tmp h29) rfl hf Tryd.isAgg3 (hsD.old hc16 (by simp)) rfl fun a_1 w_1 h1 => hk _ _ _ _ ⟨rfl, rfl⟩ h1)
     · intro T_ B_ a_ w_ K_ hT hB
       intro hf hsD hk
       exact ob rfl rfl (st_move hsD (Ev.tmp (hT _ (mem_nth (i := 4) rfl))) rfl hf fun a_1 w_1 h1 => hk _ _ _ _ ⟨rfl, rfl⟩ h1)
     · intro T_ B_ a_ w_ K_ hT hB
       intro hf hsD hk
       exact ob rfl rfl (st_move hsD (Ev.tmp (hT _ (mem_nth (i := 1) rfl))) rfl hf fun a_1 w_1 h1 => hk _ _ _ _ ⟨rfl, rfl⟩ h1)
     · intro T_ B_ a_ w_ K_ hT hB
       rintro _ _ ⟨rfl, rfl⟩ h31 -
       rintro _ _ ⟨rfl, rfl⟩ h32 -
       intro hf hsD hk
       exact ob rfl rfl (st_indexM (o' := o18 + i * 1) hsD (Ev.tmp h31) (Ev.tmp h32) rfl hf hA18 Tryd.runUnderlying47 Tryd.sizeOf3 ⟨by omega, by have := hY.len; have := (List.getElem?_eq_some_iff.1 hx17).1; omega⟩ rfl fun a_1 w_1 h1 => hk _ _ _ _ ⟨rfl, rfl⟩ h1)
     · intro T_ B_ a_ w_ K_ hT hB
       rintro _ _ ⟨rfl, rfl⟩ h33 -
       intro hf hsD hk
       exact ob rfl rfl (st_load1 (o := o18 + i * 1) (off := 0) (v := .int .i64 x17) hsD (Ev.tmp h33) rfl hf Tryd.isAgg3 (hsD.old hc18 (by simp)) rfl fun a_1 w_1 h1 => hk _ _ _ _ ⟨rfl, rfl⟩ h1)
     · intro T_ B_ a_ w_ K_ hT hB
       rintro _ _ ⟨rfl, rfl⟩ h30 -
       rintro _ _ ⟨rfl, rfl⟩ h34 -
       intro hf hsD hk
       exact ob rfl rfl (st_cmp (c := decide ((x15 : Int) < x17)) hsD (Ev.tmp h30) (Ev.tmp h34) rfl hf rfl rfl fun a_1 w_1 h1 => hk _ _ _ _ ⟨rfl, rfl⟩ h1)
     rintro _ _ ⟨rfl, rfl⟩
     rintro _ _ ⟨rfl, rfl⟩
     rintro _ _ ⟨rfl, rfl⟩
     rintro _ _ ⟨rfl, rfl⟩
     rintro _ _ ⟨rfl, rfl⟩
     rintro _ _ ⟨rfl, rfl⟩
     rintro _ _ ⟨rfl, rfl⟩
     rintro _ _ ⟨rfl, rfl⟩
     rintro _ _ ⟨rfl, rfl⟩
     intro a_19 w_19 hs19
     clear hs18
     have hs20 := Sx.as (T' := [_, _, _, _, _, _, _, _, _, _, _, _, _, _]) (B' := []) rfl rfl hs19; clear hs19
     have hs21 := Sx.keepT [0, 1, 2, 3, 4, 5, 6, 7, 8, 9, 10, 12, 13] [_, _, _, _, _, _, _, _, _, _, _, _, _] ⟨rfl, rfl, rfl, rfl, rfl, rfl, rfl, rfl, rfl, rfl, rfl, rfl, rfl, trivial⟩ hs20; clear hs20
     refine sq rfl (st_assign hs21 (Ev.t 8 rfl) rfl rfl fun _ _ hs22 => ?_); clear hs21
     refine hK22 _ _ ?_; clear hK22
     have hs23 := Sx.keepT [0] [_] ⟨rfl, trivial⟩ hs22; clear hs22
     refine cd_retv (vs := [.bool (decide ((x15 : Int) < x17))]) hs23 (fun a_ w_ h => in_ret (th_ret (th_ret (in_ret (th_ret (hQ0 a_ w_ h)))))) rfl ⟨.tmp 0 rfl, trivial⟩ ?_
     clear hs23 hQ0 hN0 hK19 hK2
     first | (rw [hf, hbd, if_neg hne]; rfl) | (rw [hf, hfin]; simp [pack, hl5, hl6])
   · have heq : x15 = x17 := by simpa using hc21
     refine cd_skip ?_
     refine in_norm ?_
     refine th_norm (hK19 _ _ ?_)
     refine cd_region1 ?_
     refine sq rfl (st_move hs18 (Ev.t 1 rfl) rfl rfl fun _ _ hs19 => ?_); clear hs18
     refine sq rfl (st_add (z := (i : Int) + 1) hs19 (Ev.t 0 rfl) (.const _) rfl rfl rfl (by omega) fun _ _ hs20 => ?_); clear hs19
     have hs21 := Sx.keepT [0, 1, 2, 4, 5, 6] [_, _, _, _, _, _] ⟨rfl, rfl, rfl, rfl, rfl, rfl, trivial⟩ hs20; clear hs20
     refine sq rfl (st_assign hs21 (Ev.t 0 rfl) rfl rfl fun _ _ hs22 => ?_); clear hs21
     refine wpListIn_nil ?_
     have hs23 := Sx.keepT [0, 4, 5, 6] [_, _, _, _] ⟨rfl, rfl, rfl, rfl, trivial⟩ hs22; clear hs22
     refine ⟨i + 1, ⟨?_, ?_, ?_⟩, by omega⟩
     · omega
     · rw [hf, hbd, if_pos heq]
     exact Sx.keepE [0, 1, 2, 3] _ ⟨⟨_, rfl, rfl⟩, ⟨_, rfl, rfl⟩, ⟨_, rfl, rfl⟩, ⟨_, rfl, rfl⟩, trivial⟩ hs23
 · have hend : xs.length ≤ i ∨ ys.length ≤ i := by simp at hc14; omega
   have hfin := before_end hend (by omega) (by omega)
   refine cd_exit ?_
   refine th_exit ?_
   refine th_exit ?_
   refine in_hit ?_
   refine th_norm (hK2 _ _ ?_)
   refine cd_region fun K23 hK23 => ?_
   refine sq rfl (st_move hs15 (Ev.t 3 rfl) rfl rfl fun _ _ hs16 => ?_); clear hs15
   refine sq rfl (st_len hs16 (Ev.t 0 rfl) rfl rfl Tryd.runUnderlying47 fun _ _ hs17 => ?_); clear hs16
   refine sq rfl (st_move hs17 (Ev.t 6 rfl) rfl rfl fun _ _ hs18 => ?_); clear hs17
   refine sq rfl (st_len hs18 (Ev.t 0 rfl) rfl rfl Tryd.runUnderlying47 fun _ _ hs19 => ?_); clear hs18
   refine sq rfl (st_cmp (c := decide (((m5 : Int) : Int) < (m6 : Int))) hs19 (Ev.t 2 rfl) (Ev.t 0 rfl) rfl rfl rfl rfl fun _ _ hs20 => ?_); clear hs19
   have hs21 := Sx.keepT [0, 1, 2, 3, 4, 5, 6, 8, 9] [_, _, _, _, _, _, _, _, _] ⟨rfl, rfl, rfl, rfl, rfl, rfl, rfl, rfl, rfl, trivial⟩ hs20; clear hs20
   refine sq rfl (st_assign hs21 (Ev.t 0 rfl) rfl rfl fun _ _ hs22 => ?_); clear hs21
   refine hK23 _ _ ?_; clear hK23
   have hs23 := Sx.keepT [0] [_] ⟨rfl, trivial⟩ hs22; clear hs22
   refine cd_retv (vs := [.bool (decide (((m5 : Int) : Int) < (m6 : Int)))]) hs23 hQ0 rfl ⟨.tmp 0 rfl, trivial⟩ ?_
   clear hs23 hQ0 hN0
   first | (rw [hf, hbd, if_neg hne]; rfl) | (rw [hf, hfin]; simp [pack, hl5, hl6])
end Go.Proofs.YtdbcedmofoakmaaDoor
