/- The law: chosen, row, Before. -/
import Derived.Test.YtdbcedmofoakmaaDoorFg
import Derived.Test.YtdbcedmofoakmaaDoorEi2
import Derived.Test.YtdbcedmofoakmaaDoorSh
set_option maxRecDepth 100000
namespace Go.Proofs.YtdbcedmofoakmaaDoor
open Go Go.Sx Go.Eng Go.Proofs.Tryd
theorem isPlan_of {b : Book} {l : List Walks} (hl : l.length = b.parts.length) (h : ∀ (j : Nat) (y : Walks) (x : Part), l[j]? = some y → b.parts[j]? = some x → okWalks x y = true) : b.isPlan l = true := by
  simp only [Book.isPlan, Bool.and_eq_true, beq_iff_eq, List.all_eq_true]
  refine ⟨hl, fun q hq => ?_⟩
  obtain ⟨i, hi⟩ := List.mem_iff_getElem?.1 hq
  rw [List.getElem?_zip_eq_some] at hi
  exact h i q.1 q.2 hi.1 hi.2

theorem chosen_b (b : Book) (A : Option Addr) (n cp : Nat) (A4 : Option Addr) (m4 c4 : Nat) (bits : List Int) (w : World) (hP : PartsAt w A n b.parts) (hn : n ≤ 140737488351232) (hI : SlAt intL 1 w A4 m4 bits) (hm4 : m4 ≤ 140737488351232) (hb : Bd b) :
    CallsB Tryd.prog 36 [.agg ⟨bookL b A n cp⟩, .slice A4 m4 c4] w (fun v bs => ∃ l A7 c7 b7 o7, v = .slice A7 l.length c7 ∧ Sx.Own walksL 2 64 A7 c7 l b7 o7 ∧ bs = [(b7, o7)] ∧ b.isPlan l = true) := by
 have hl2 := hP.len
 refine enter (N := 48) (M := []) w func36 rfl rfl rfl (fun Q0 a_0 hQ0 hN0 hs0 => ?_)
 refine cd_region fun K1 hK1 => ?_
 refine sq rfl (st_box hs0 (Ev.t 0 rfl) rfl rfl rfl fun b2 _ _ hs1 => ?_); clear hs0
 refine sq rfl (st_assign hs1 (.const _) rfl rfl fun _ _ hs2 => ?_); clear hs1
 refine hK1 _ _ ?_; clear hK1
 have hs3 := hs2.keep [0, 1, 3] [_, _, _] rfl; clear hs2
 refine cd_region fun K3 hK3 => ?_
 refine sq rfl (st_assign hs3 (.const _) rfl rfl fun _ _ hs4 => ?_); clear hs3
 refine hK3 _ _ ?_; clear hK3
 refine cd_seq fun K4 hK4 => ?_
 refine cd_region fun K5 hK5 => ?_
 refine sq rfl (st_assign hs4 (.const _) rfl rfl fun _ _ hs5 => ?_); clear hs4
 refine hK5 _ _ ?_; clear hK5
 have hs6 := hs5.hide 0; clear hs5
 refine cd_block ?_
 have hs7 : Sx 48 [] [(6, .int .i64 ((OwG.mk 0 none 0 ([] : List Walks) 0 none).k : Int)), (5, .slice ((OwG.mk 0 none 0 ([] : List Walks) 0 none).A) ((OwG.mk 0 none 0 ([] : List Walks) 0 none).l.length) ((OwG.mk 0 none 0 ([] : List Walks) 0 none).c)), (4, .slice none 0 0), (2, .pointer (some ⟨b2, 0, none⟩)), (1, .slice A4 m4 c4)] [((OwG.mk 0 none 0 ([] : List Walks) 0 none).b, (OwG.mk 0 none 0 ([] : List Walks) 0 none).o), (b2, some (.cells ⟨(bookL b A n cp)⟩ 27 (0, 0)))] [] w _ _ := Sx.keepE [0, 1, 2, 3, 4] _ ⟨⟨_, rfl, rfl⟩, ⟨_, rfl, rfl⟩, ⟨_, rfl, rfl⟩, ⟨_, rfl, rfl⟩, ⟨_, rfl, rfl⟩, trivial⟩ hs6; clear hs6
 refine cd_loop (X := OwG Walks) (fun g a_ w_ => (g.k ≤ n) ∧ (g.l.length = g.k) ∧ (∀ (j : Nat) (y : Walks) (x : Part), g.l[j]? = some y → b.parts[j]? = some x → okWalks x y = true) ∧ (Sx.Own walksL 2 64 g.A g.c g.l g.b g.o) ∧ Sx 48 [] [(6, .int .i64 (g.k : Int)), (5, .slice g.A g.l.length g.c), (4, .slice none 0 0), (2, .pointer (some ⟨b2, 0, none⟩)), (1, .slice A4 m4 c4)] [(g.b, g.o), (b2, some (.cells ⟨(bookL b A n cp)⟩ 27 (0, 0)))] [] w a_ w_) (fun g => n - g.k) ((OwG.mk 0 none 0 ([] : List Walks) 0 none)) ⟨?_, ?_, ?_, ?_, hs7⟩ ?_
 · exact Nat.zero_le _
 · rfl
 · intro j y x h; simp at h
 · exact .inl ⟨rfl, rfl⟩
 intro g a_8 w_8 ⟨hk, hgl, hv, hown, hs8⟩; clear hs7
 refine cd_seq fun K6 hK6 => ?_
 refine cd_region fun K7 hK7 => ?_
 refine sq rfl (st_move hs8 (Ev.t 0 rfl) rfl rfl fun _ _ hs9 => ?_); clear hs8
 refine sq rfl (st_field (o' := 22) hs9 (Ev.t 4 rfl) rfl rfl runUnderlying27 rfl sizeOf25 rfl rfl fun _ _ hs10 => ?_); clear hs9
 refine sq rfl (st_load1 (o := 0) (off := 22) (v := .slice A n cp) hs10 (Ev.t 0 rfl) rfl rfl isAgg25 (hs10.cells 1 rfl) rfl fun _ _ hs11 => ?_); clear hs10
 refine sq rfl (st_len hs11 (Ev.t 0 rfl) rfl rfl runUnderlying25 fun _ _ hs12 => ?_); clear hs11
 refine sq rfl (st_cmp (c := decide (((g.k : Int) : Int) < (n : Int))) hs12 (Ev.t 3 rfl) (Ev.t 0 rfl) rfl rfl rfl rfl fun _ _ hs13 => ?_); clear hs12
 refine hK7 _ _ ?_; clear hK7
 have hs14 := hs13.keep [0, 5, 6, 7, 8, 9] [_, _, _, _, _, _] rfl; clear hs13
 refine cd_cond hs14 (Ev.t 0 rfl) (fun hc8 => ?_) (fun hc8 => ?_)
 · have hin : g.k < n := by simpa using hc8
   have hil : g.k < b.parts.length := by omega
   obtain ⟨x9, hx9⟩ : ∃ x, b.parts[g.k]? = some x := ⟨_, List.getElem?_eq_getElem (by have := hP.len; omega)⟩
   obtain ⟨b10, o10, hA10, -, hc10⟩ := hP.el g.k x9 hx9
   have hxw := (hb.parts g.k x9 hx9).2
   have hlen100 := hb.len
   have htc := turn_bd (n := pickN bits (2 * (g.k : Int))) (m := x9.walks + 1) (by omega)
   refine cd_skip ?_
   refine th_norm (hK6 _ _ ?_)
   refine cd_seq fun K11 hK11 => ?_
   refine cd_block ?_
   refine cd_drawn mixed hs14 [⟨15, [], Is (.slice A4 m4 c4)⟩, ⟨16, [], Is (.int .i64 (g.k : Int))⟩, ⟨17, [1], Is (.int .i64 (2 * (g.k : Int)))⟩, ⟨18, [0, 2], Is (.int .i64 (pickN bits (2 * (g.k : Int))))⟩, ⟨19, [], Is (.pointer (some ⟨b2, 22, none⟩))⟩, ⟨20, [4], Is (.slice A n cp)⟩, ⟨21, [], Is (.int .i64 (g.k : Int))⟩, ⟨22, [5, 6], Is (.pointer (some ⟨b10, o10 + g.k * 4, none⟩))⟩, ⟨23, [7], Is (.pointer (some ⟨b10, o10 + g.k * 4 + 3, none⟩))⟩, ⟨24, [8], Is (.int .i64 x9.walks)⟩, ⟨25, [9], Is (.int .i64 (x9.walks + 1))⟩, ⟨26, [3, 10], Is (.int .i64 (turn (pickN bits (2 * (g.k : Int))) (x9.walks + 1)))⟩] (by kernel_rfl) (by kernel_rfl) fun K12 hK12 => ⟨⟨?_, ?_, ?_, ?_, ?_, ?_, ?_, ?_, ?_, ?_, ?_, ?_, trivial⟩, ?_⟩
   · rintro T_ B_ a_ w_ K_ hT hB hf hsD hk
     exact ob rfl rfl (st_move hsD (evT hT 5 rfl) rfl hf fun _ _ => hk _ _ _ _ ⟨rfl, rfl⟩)
   · rintro T_ B_ a_ w_ K_ hT hB hf hsD hk
     exact ob rfl rfl (st_move hsD (evT hT 1 rfl) rfl hf fun _ _ => hk _ _ _ _ ⟨rfl, rfl⟩)
   · rintro T_ B_ a_ w_ K_ hT hB _ _ ⟨rfl, rfl⟩ h16 - hf hsD hk
     exact ob rfl rfl (st_mul (z := 2 * (g.k : Int)) hsD (.const _) (Ev.tmp h16) rfl hf rfl (by omega) fun _ _ => hk _ _ _ _ ⟨rfl, rfl⟩)
   · rintro T_ B_ a_ w_ K_ hT hB _ _ ⟨rfl, rfl⟩ h15 - _ _ ⟨rfl, rfl⟩ h17 - hf hsD hk
     exact ob rfl rfl (st_callv (vs := [.slice A4 m4 c4, .int .i64 (2 * (g.k : Int))]) hsD (.func _) ⟨(Ev.tmp h15), (Ev.tmp h17), trivial⟩ rfl hf call67 rfl (pick_v A4 m4 c4 bits (2 * (g.k : Int)) _ (hI.kp hsD.kp) (by omega)) fun _ _ => hk _ _ _ _ ⟨rfl, rfl⟩)
   · rintro T_ B_ a_ w_ K_ hT hB hf hsD hk
     exact ob rfl rfl (st_field (o' := 22) hsD (evT hT 4 rfl) rfl hf runUnderlying27 rfl sizeOf25 rfl rfl fun _ _ => hk _ _ _ _ ⟨rfl, rfl⟩)
   · rintro T_ B_ a_ w_ K_ hT hB _ _ ⟨rfl, rfl⟩ h19 - hf hsD hk
     exact ob rfl rfl (st_load1 (o := 0) (off := 22) (v := .slice A n cp) hsD (Ev.tmp h19) rfl hf isAgg25 (hsD.cellsM (inB hB 1 rfl)) rfl fun _ _ => hk _ _ _ _ ⟨rfl, rfl⟩)
   · rintro T_ B_ a_ w_ K_ hT hB hf hsD hk
     exact ob rfl rfl (st_move hsD (evT hT 1 rfl) rfl hf fun _ _ => hk _ _ _ _ ⟨rfl, rfl⟩)
   · rintro T_ B_ a_ w_ K_ hT hB _ _ ⟨rfl, rfl⟩ h20 - _ _ ⟨rfl, rfl⟩ h21 - hf hsD hk
     exact ob rfl rfl (st_indexM (o' := o10 + g.k * 4) hsD (Ev.tmp h20) (Ev.tmp h21) rfl hf hA10 runUnderlying25 sizeOf66 ⟨by omega, by have := hP.len; have := (List.getElem?_eq_some_iff.1 hx9).1; omega⟩ rfl fun _ _ => hk _ _ _ _ ⟨rfl, rfl⟩)
   · rintro T_ B_ a_ w_ K_ hT hB _ _ ⟨rfl, rfl⟩ h22 - hf hsD hk
     exact ob rfl rfl (st_field (o' := o10 + g.k * 4 + 3) hsD (Ev.tmp h22) rfl hf runUnderlying66 rfl sizeOf3 rfl rfl fun _ _ => hk _ _ _ _ ⟨rfl, rfl⟩)
   · rintro T_ B_ a_ w_ K_ hT hB _ _ ⟨rfl, rfl⟩ h23 - hf hsD hk
     exact ob rfl rfl (st_load1 (o := o10 + g.k * 4) (off := 3) (v := .int .i64 x9.walks) hsD (Ev.tmp h23) rfl hf isAgg3 (hsD.old hc10 (by simp)) rfl fun _ _ => hk _ _ _ _ ⟨rfl, rfl⟩)
   · rintro T_ B_ a_ w_ K_ hT hB _ _ ⟨rfl, rfl⟩ h24 - hf hsD hk
     exact ob rfl rfl (st_add (z := x9.walks + 1) hsD (Ev.tmp h24) (.const _) rfl hf rfl (by omega) fun _ _ => hk _ _ _ _ ⟨rfl, rfl⟩)
   · rintro T_ B_ a_ w_ K_ hT hB _ _ ⟨rfl, rfl⟩ h18 - _ _ ⟨rfl, rfl⟩ h25 - hf hsD hk
     exact ob rfl rfl (st_callv (vs := [.int .i64 (pickN bits (2 * (g.k : Int))), .int .i64 (x9.walks + 1)]) hsD (.func _) ⟨(Ev.tmp h18), (Ev.tmp h25), trivial⟩ rfl hf call38 rfl (turn_v (pickN bits (2 * (g.k : Int))) (x9.walks + 1) (by omega) _) fun _ _ => hk _ _ _ _ ⟨rfl, rfl⟩)
   rintro _ _ ⟨rfl, rfl⟩ _ _ ⟨rfl, rfl⟩ _ _ ⟨rfl, rfl⟩ _ _ ⟨rfl, rfl⟩ _ _ ⟨rfl, rfl⟩ _ _ ⟨rfl, rfl⟩ _ _ ⟨rfl, rfl⟩ _ _ ⟨rfl, rfl⟩ _ _ ⟨rfl, rfl⟩ _ _ ⟨rfl, rfl⟩ _ _ ⟨rfl, rfl⟩ _ _ ⟨rfl, rfl⟩ a_15 w_15 hs15; clear hs14
   have hs16 := Sx.as (T' := [_, _, _, _, _, _, _, _, _, _, _, _, _, _, _, _, _, _]) (B' := [_, _]) rfl rfl hs15; clear hs15
   refine sq rfl (st_assign hs16 (Ev.t 11 rfl) rfl rfl fun _ _ hs17 => ?_); clear hs16
   refine hK12 _ _ ?_; clear hK12
   have hs18 := hs17.keep [0, 14, 15, 16, 17, 18] [_, _, _, _, _, _] rfl; clear hs17
   obtain ⟨cc, hcc⟩ : ∃ cc, turn (pickN bits (2 * (g.k : Int))) (x9.walks + 1) = cc := ⟨_, rfl⟩
   rw [hcc] at htc
   have htw := turn_bd (n := pickN bits (2 * (g.k : Int) + 1)) (m := x9.walks - cc + 1) (by omega)
   have hs19 := Sx.keepE [0, 1, 2, 3, 4, 5] [(7, .int .i64 cc), (6, _), (5, _), (4, _), (2, _), (1, _)] ⟨⟨_, rfl, (by rw [hcc])⟩, ⟨_, rfl, rfl⟩, ⟨_, rfl, rfl⟩, ⟨_, rfl, rfl⟩, ⟨_, rfl, rfl⟩, ⟨_, rfl, rfl⟩, trivial⟩ hs18; clear hs18
   have hs20 := Sx.front hs19 0 rfl; clear hs19
   refine cd_drawS1 mixed [19] ⟨OwX walksL 2 64 (g.l ++ [(Walks.mk cc (turn (pickN bits (2 * (g.k : Int) + 1)) (x9.walks - cc + 1)))]), fun n_ x_ => match n_ with | 0 => [] | _ => [(46, .slice x_.A (g.l.length + 1) x_.c)], fun n_ x_ => match n_ with | 0 => [(g.b, g.o)] | _ => [(x_.b, x_.o)]⟩ (OwX.zero (enc := walksL) (sz := 2) (fun _ => rfl) 64 (g.l ++ [(Walks.mk cc (turn (pickN bits (2 * (g.k : Int) + 1)) (x9.walks - cc + 1)))])) hs20 [⟨27, [], Is (.slice g.A g.l.length g.c)⟩, ⟨28, [], Is (.int .i64 cc)⟩, ⟨29, [], Is (.slice A4 m4 c4)⟩, ⟨30, [], Is (.int .i64 (g.k : Int))⟩, ⟨31, [3], Is (.int .i64 (2 * (g.k : Int)))⟩, ⟨32, [4], Is (.int .i64 ((2 * (g.k : Int)) + 1))⟩, ⟨33, [2, 5], Is (.int .i64 (pickN bits ((2 * (g.k : Int)) + 1)))⟩, ⟨34, [], Is (.pointer (some ⟨b2, 22, none⟩))⟩, ⟨35, [7], Is (.slice A n cp)⟩, ⟨36, [], Is (.int .i64 (g.k : Int))⟩, ⟨37, [8, 9], Is (.pointer (some ⟨b10, o10 + g.k * 4, none⟩))⟩, ⟨38, [10], Is (.pointer (some ⟨b10, o10 + g.k * 4 + 3, none⟩))⟩, ⟨39, [11], Is (.int .i64 x9.walks)⟩, ⟨40, [], Is (.int .i64 cc)⟩, ⟨41, [12, 13], Is (.int .i64 (x9.walks - cc))⟩, ⟨42, [14], Is (.int .i64 ((x9.walks - cc) + 1))⟩, ⟨43, [6, 15], Is (.int .i64 (turn (pickN bits ((2 * (g.k : Int)) + 1)) ((x9.walks - cc) + 1)))⟩, ⟨44, [1, 16], Is (.agg ⟨[.int .i64 cc, .int .i64 (turn (pickN bits ((2 * (g.k : Int)) + 1)) ((x9.walks - cc) + 1))]⟩)⟩, ⟨45, [17], fun v_ bs_ => ∃ b13, v_ = .slice (some ⟨b13, 0, none⟩) 1 1 ∧ bs_ = [(b13, some (.cells ⟨[.int .i64 cc, .int .i64 (turn (pickN bits ((2 * (g.k : Int)) + 1)) ((x9.walks - cc) + 1))]⟩ 64 (0, 0)))]⟩, ⟨46, [0, 18], Is undef⟩] (by kernel_rfl) (fun n_ _ => by rcases n_ with _ | _ <;> rfl) (by kernel_rfl) ⟨⟨?_, ?_, ?_, ?_, ?_, ?_, ?_, ?_, ?_, ?_, ?_, ?_, ?_, ?_, ?_, ?_, ?_, ?_, ?_, ?_, trivial⟩, ?_⟩
   · rintro T_ B_ a_ w_ K_ hT hB hf hsD hk
     exact ob rfl rfl (st_move hsD (evT hT 2 rfl) rfl hf fun _ _ => hk _ _ _ _ ⟨rfl, rfl⟩)
   · rintro T_ B_ a_ w_ K_ hT hB hf hsD hk
     exact ob rfl rfl (st_move hsD (evT hT 0 rfl) rfl hf fun _ _ => hk _ _ _ _ ⟨rfl, rfl⟩)
   · rintro T_ B_ a_ w_ K_ hT hB hf hsD hk
     exact ob rfl rfl (st_move hsD (evT hT 5 rfl) rfl hf fun _ _ => hk _ _ _ _ ⟨rfl, rfl⟩)
   · rintro T_ B_ a_ w_ K_ hT hB hf hsD hk
     exact ob rfl rfl (st_move hsD (evT hT 1 rfl) rfl hf fun _ _ => hk _ _ _ _ ⟨rfl, rfl⟩)
   · rintro T_ B_ a_ w_ K_ hT hB _ _ ⟨rfl, rfl⟩ h30 - hf hsD hk
     exact ob rfl rfl (st_mul (z := 2 * (g.k : Int)) hsD (.const _) (Ev.tmp h30) rfl hf rfl (by omega) fun _ _ => hk _ _ _ _ ⟨rfl, rfl⟩)
   · rintro T_ B_ a_ w_ K_ hT hB _ _ ⟨rfl, rfl⟩ h31 - hf hsD hk
     exact ob rfl rfl (st_add (z := (2 * (g.k : Int)) + 1) hsD (Ev.tmp h31) (.const _) rfl hf rfl (by omega) fun _ _ => hk _ _ _ _ ⟨rfl, rfl⟩)
   · rintro T_ B_ a_ w_ K_ hT hB _ _ ⟨rfl, rfl⟩ h29 - _ _ ⟨rfl, rfl⟩ h32 - hf hsD hk
     exact ob rfl rfl (st_callv (vs := [.slice A4 m4 c4, .int .i64 ((2 * (g.k : Int)) + 1)]) hsD (.func _) ⟨(Ev.tmp h29), (Ev.tmp h32), trivial⟩ rfl hf call67 rfl (pick_v A4 m4 c4 bits ((2 * (g.k : Int)) + 1) _ (hI.kp hsD.kp) (by omega)) fun _ _ => hk _ _ _ _ ⟨rfl, rfl⟩)
   · rintro T_ B_ a_ w_ K_ hT hB hf hsD hk
     exact ob rfl rfl (st_field (o' := 22) hsD (evT hT 4 rfl) rfl hf runUnderlying27 rfl sizeOf25 rfl rfl fun _ _ => hk _ _ _ _ ⟨rfl, rfl⟩)
   · rintro T_ B_ a_ w_ K_ hT hB _ _ ⟨rfl, rfl⟩ h34 - hf hsD hk
     exact ob rfl rfl (st_load1 (o := 0) (off := 22) (v := .slice A n cp) hsD (Ev.tmp h34) rfl hf isAgg25 (hsD.cellsM (inB hB 0 rfl)) rfl fun _ _ => hk _ _ _ _ ⟨rfl, rfl⟩)
   · rintro T_ B_ a_ w_ K_ hT hB hf hsD hk
     exact ob rfl rfl (st_move hsD (evT hT 1 rfl) rfl hf fun _ _ => hk _ _ _ _ ⟨rfl, rfl⟩)
   · rintro T_ B_ a_ w_ K_ hT hB _ _ ⟨rfl, rfl⟩ h35 - _ _ ⟨rfl, rfl⟩ h36 - hf hsD hk
     exact ob rfl rfl (st_indexM (o' := o10 + g.k * 4) hsD (Ev.tmp h35) (Ev.tmp h36) rfl hf hA10 runUnderlying25 sizeOf66 ⟨by omega, by have := hP.len; have := (List.getElem?_eq_some_iff.1 hx9).1; omega⟩ rfl fun _ _ => hk _ _ _ _ ⟨rfl, rfl⟩)
   · rintro T_ B_ a_ w_ K_ hT hB _ _ ⟨rfl, rfl⟩ h37 - hf hsD hk
     exact ob rfl rfl (st_field (o' := o10 + g.k * 4 + 3) hsD (Ev.tmp h37) rfl hf runUnderlying66 rfl sizeOf3 rfl rfl fun _ _ => hk _ _ _ _ ⟨rfl, rfl⟩)
   · rintro T_ B_ a_ w_ K_ hT hB _ _ ⟨rfl, rfl⟩ h38 - hf hsD hk
     exact ob rfl rfl (st_load1 (o := o10 + g.k * 4) (off := 3) (v := .int .i64 x9.walks) hsD (Ev.tmp h38) rfl hf isAgg3 (hsD.old hc10 (by simp)) rfl fun _ _ => hk _ _ _ _ ⟨rfl, rfl⟩)
   · rintro T_ B_ a_ w_ K_ hT hB hf hsD hk
     exact ob rfl rfl (st_move hsD (evT hT 0 rfl) rfl hf fun _ _ => hk _ _ _ _ ⟨rfl, rfl⟩)
   · rintro T_ B_ a_ w_ K_ hT hB _ _ ⟨rfl, rfl⟩ h39 - _ _ ⟨rfl, rfl⟩ h40 - hf hsD hk
     exact ob rfl rfl (st_sub (z := x9.walks - cc) hsD (Ev.tmp h39) (Ev.tmp h40) rfl hf rfl (by omega) fun _ _ => hk _ _ _ _ ⟨rfl, rfl⟩)
   · rintro T_ B_ a_ w_ K_ hT hB _ _ ⟨rfl, rfl⟩ h41 - hf hsD hk
     exact ob rfl rfl (st_add (z := (x9.walks - cc) + 1) hsD (Ev.tmp h41) (.const _) rfl hf rfl (by omega) fun _ _ => hk _ _ _ _ ⟨rfl, rfl⟩)
   · rintro T_ B_ a_ w_ K_ hT hB _ _ ⟨rfl, rfl⟩ h33 - _ _ ⟨rfl, rfl⟩ h42 - hf hsD hk
     exact ob rfl rfl (st_callv (vs := [.int .i64 (pickN bits ((2 * (g.k : Int)) + 1)), .int .i64 ((x9.walks - cc) + 1)]) hsD (.func _) ⟨(Ev.tmp h33), (Ev.tmp h42), trivial⟩ rfl hf call38 rfl (turn_v (pickN bits ((2 * (g.k : Int)) + 1)) ((x9.walks - cc) + 1) (by omega) _) fun _ _ => hk _ _ _ _ ⟨rfl, rfl⟩)
   · rintro T_ B_ a_ w_ K_ hT hB _ _ ⟨rfl, rfl⟩ h28 - _ _ ⟨rfl, rfl⟩ h43 - hf hsD hk
     exact ob rfl rfl (st_build hsD (qs := [(0, .int .i64 cc), (1, .int .i64 (turn (pickN bits ((2 * (g.k : Int)) + 1)) ((x9.walks - cc) + 1)))]) (v := .agg ⟨[.int .i64 cc, .int .i64 (turn (pickN bits ((2 * (g.k : Int)) + 1)) ((x9.walks - cc) + 1))]⟩) ⟨(Ev.tmp h28), (Ev.tmp h43), trivial⟩ rfl hf rfl (fun _ => by kernel_rfl) fun _ _ => hk _ _ _ _ ⟨rfl, rfl⟩)
   · rintro T_ B_ a_ w_ K_ hT hB _ _ ⟨rfl, rfl⟩ h44 - hf hsD hk
     exact ob rfl rfl (st_buildSlice hsD (qs := [(0, .agg ⟨[.int .i64 cc, .int .i64 (turn (pickN bits ((2 * (g.k : Int)) + 1)) ((x9.walks - cc) + 1))]⟩)]) (e := 64) (l := [.int .i64 cc, .int .i64 (turn (pickN bits ((2 * (g.k : Int)) + 1)) ((x9.walks - cc) + 1))]) ⟨(Ev.tmp h44), trivial⟩ rfl hf rfl (fun _ => by kernel_rfl) fun b13 _ _ => hk _ _ _ _ ⟨b13, rfl, rfl⟩)
   · rintro T_ B_ a_ w_ K_ x_ hT hB _ _ ⟨rfl, rfl⟩ h27 - _ _ ⟨b13, rfl, rfl⟩ h45 hB45 hf hsD hk
     exact ob rfl rfl (st_append (enc := walksL) (zs := g.l) (ys := [(Walks.mk cc (turn (pickN bits (2 * (g.k : Int) + 1)) (x9.walks - cc + 1)))]) (c := g.c) (i := 0) (b := g.b) (o := g.o) hsD (Ev.tmp (List.mem_append_right _ h27)) (Ev.tmp (List.mem_append_right _ h45)) rfl hf underlying28 (show (Tryd.prog.info? 64).map (fun i => (i.zero, i.size, i.bytes)) = some (some (.agg #[.int .i64 0, .int .i64 0]), 2, 16) by kernel_rfl) rfl (fun _ => rfl) (fun _ u hu => by simp only [walksL, List.mem_cons, List.not_mem_nil, or_false] at hu; rcases hu with rfl | rfl <;> rfl) hown rfl (sl_at (enc := walksL) (sz := 2) (ys := [(Walks.mk cc (turn (pickN bits (2 * (g.k : Int) + 1)) (x9.walks - cc + 1)))]) (fun _ => rfl) (by decide) (hsD.cellsM (List.mem_append_right _ (hB45 _ List.mem_cons_self)))) (by omega) (by omega) (fun A7 c7 b7 o7 a_1 w_1 hown7 h1 => hk ⟨A7, c7, b7, o7, hown7⟩ _ _ h1))
   rintro _ _ ⟨rfl, rfl⟩
   rintro _ _ ⟨rfl, rfl⟩
   rintro _ _ ⟨rfl, rfl⟩
   rintro _ _ ⟨rfl, rfl⟩
   rintro _ _ ⟨rfl, rfl⟩
   rintro _ _ ⟨rfl, rfl⟩
   rintro _ _ ⟨rfl, rfl⟩
   rintro _ _ ⟨rfl, rfl⟩
   rintro _ _ ⟨rfl, rfl⟩
   rintro _ _ ⟨rfl, rfl⟩
   rintro _ _ ⟨rfl, rfl⟩
   rintro _ _ ⟨rfl, rfl⟩
   rintro _ _ ⟨rfl, rfl⟩
   rintro _ _ ⟨rfl, rfl⟩
   rintro _ _ ⟨rfl, rfl⟩
   rintro _ _ ⟨rfl, rfl⟩
   rintro _ _ ⟨rfl, rfl⟩
   rintro _ _ ⟨rfl, rfl⟩
   rintro _ _ ⟨b13, rfl, rfl⟩
   intro x_ a_21 w_21 hs21
   clear hs20
   have hs22 := Sx.as (T' := [_, _, _, _, _, _, _, _, _, _, _, _, _, _, _, _, _, _, _, _, _, _, _, _, _, _]) (B' := [_, _, _]) rfl rfl hs21; clear hs21
   have hs23 := hs22.keep [0, 1, 2, 3, 4, 5, 6, 7, 8, 9, 10, 11, 12, 13, 14, 15, 16, 17, 18, 19, 20, 21, 23, 24, 25] [_, _, _, _, _, _, _, _, _, _, _, _, _, _, _, _, _, _, _, _, _, _, _, _, _] rfl; clear hs22
   refine sq rfl (st_assign hs23 (Ev.t 0 rfl) rfl rfl fun _ _ hs24 => ?_); clear hs23
   refine wpListIn_nil ?_
   have hs25 := hs24.keep [0, 22, 23, 24, 25] [_, _, _, _, _] rfl; clear hs24
   refine in_norm ?_
   refine th_norm (hK11 _ _ ?_)
   refine cd_region1 ?_
   refine sq rfl (st_move hs25 (Ev.t 1 rfl) rfl rfl fun _ _ hs26 => ?_); clear hs25
   refine sq rfl (st_add (z := (g.k : Int) + 1) hs26 (Ev.t 0 rfl) (.const _) rfl rfl rfl (by omega) fun _ _ hs27 => ?_); clear hs26
   have hs28 := hs27.keep [0, 1, 2, 4, 5, 6] [_, _, _, _, _, _] rfl; clear hs27
   refine sq rfl (st_assign hs28 (Ev.t 0 rfl) rfl rfl fun _ _ hs29 => ?_); clear hs28
   refine wpListIn_nil ?_
   have hs30 := hs29.keep [0, 3, 4, 5, 6] [_, _, _, _, _] rfl; clear hs29
   refine ⟨(OwG.mk (g.k + 1) x_.A x_.c (g.l ++ [(Walks.mk cc (turn (pickN bits (2 * (g.k : Int) + 1)) (x9.walks - cc + 1)))]) x_.b x_.o), ⟨?_, ?_, ?_, ?_, ?_⟩, by (show n - (g.k + 1) < n - g.k; omega)⟩
   · exact hin
   · simp [hgl]
   · exact snoc_all (R := fun x y => okWalks x y = true) hv hgl hx9 (okWalks_iff.2 ⟨htc.1, by simp only; omega, htw.1, by simp only; omega⟩)
   · exact x_.h
   have hs31 : Sx 48 [] [(6, .int .i64 ((g.k : Int) + 1)), (5, .slice x_.A (g.l.length + 1) x_.c), (4, .slice none 0 0), (2, .pointer (some ⟨b2, 0, none⟩)), (1, .slice A4 m4 c4)] [(x_.b, x_.o), (b2, some (.cells ⟨(bookL b A n cp)⟩ 27 (0, 0)))] [] w _ _ := Sx.blks hs30 ((List.Sublist.cons_cons _ (List.Sublist.cons _ (List.Sublist.cons_cons _ List.Sublist.slnil))))
   exact Sx.keepE [0, 1, 2, 3, 4] _ ⟨⟨_, rfl, rfl⟩, ⟨_, rfl, (by simp)⟩, ⟨_, rfl, rfl⟩, ⟨_, rfl, rfl⟩, ⟨_, rfl, rfl⟩, trivial⟩ hs31
 · have hkn : g.k = n := by simp at hc8; omega
   refine cd_exit ?_
   refine th_exit ?_
   refine th_exit ?_
   refine in_hit ?_
   refine th_norm (hK4 _ _ ?_)
   refine cd_region fun K14 hK14 => ?_
   refine sq rfl (st_move hs14 (Ev.t 2 rfl) rfl rfl fun _ _ hs15 => ?_); clear hs14
   have hs16 := hs15.keep [0, 1, 2, 3, 5, 6] [_, _, _, _, _, _] rfl; clear hs15
   refine sq rfl (st_assign hs16 (Ev.t 0 rfl) rfl rfl fun _ _ hs17 => ?_); clear hs16
   refine hK14 _ _ ?_; clear hK14
   have hs18 := hs17.keep [0] [_] rfl; clear hs17
   exact cd_ret (vs := [.slice g.A g.l.length g.c]) (bs := [(g.b, g.o)]) hs18 hQ0 rfl ⟨.tmp 0 rfl, trivial⟩ (.cons_cons _ (List.nil_sublist _)) ⟨g.l, g.A, g.c, g.b, g.o, rfl, hown, rfl, isPlan_of (by omega) hv⟩
end Go.Proofs.YtdbcedmofoakmaaDoor
