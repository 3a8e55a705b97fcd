/- The engine: whether a part may fail, plans. -/
import Derived.Test.YtdbcedmofoakmaaDoorEc
set_option maxRecDepth 100000
namespace Go.Proofs.YtdbcedmofoakmaaDoor
open Go Go.Sx Go.Eng Go.Proofs.Tryd
theorem may_v (b : Book) (A : Option Addr) (n cp : Nat) (k : Nat) (x : Part) (hx : b.parts[k]? = some x) (c v : Int) (w : World) (hP : PartsAt w A n b.parts) (_hn : n ≤ 140737488351232) :
    CallsV Tryd.prog 77 [.agg ⟨(bookL b A n cp)⟩, .int .i64 (k : Int), .agg ⟨[.int .i64 c, .int .i64 v]⟩] w (.bool (b.may x c v)) := by
 refine enter (N := 27) (M := []) w func77 rfl rfl rfl (fun Q0 a_0 hQ0 hN0 hs0 => ?_)
 refine cd_region fun K1 hK1 => ?_
 refine sq rfl (st_box hs0 (Ev.t 0 rfl) rfl rfl rfl fun b2 _ _ hs1 => ?_); clear hs0
 refine sq rfl (st_box hs1 (Ev.t 3 rfl) rfl rfl rfl fun b3 _ _ hs2 => ?_); clear hs1
 refine sq rfl (st_assign hs2 (.const _) rfl rfl fun _ _ hs3 => ?_); clear hs2
 refine hK1 _ _ ?_; clear hK1
 have hs4 := hs3.keep [0, 1, 2, 4] [_, _, _, _] rfl; clear hs3
 refine cd_seq fun K4 hK4 => ?_
 refine cd_region fun K5 hK5 => ?_
 refine sq rfl (st_loadA (o := 0) (off := 0) (vs := [.int .i64 c, .int .i64 v]) hs4 (Ev.t 1 rfl) rfl rfl isAgg103 sizeOf103 (hs4.cells 0 rfl) rfl fun _ _ hs5 => ?_); clear hs4
 refine sq rfl (st_callv (vs := [.agg ⟨[.int .i64 c, .int .i64 v]⟩]) hs5 (.func _) ⟨(Ev.t 0 rfl), trivial⟩ rfl rfl call75 rfl (stands_v c v _) fun _ _ hs6 => ?_); clear hs5
 refine hK5 _ _ ?_; clear hK5
 have hs7 := hs6.keep [0, 2, 3, 4, 5] [_, _, _, _, _] rfl; clear hs6
 refine cd_cond hs7 (Ev.t 0 rfl) (fun hc6 => ?_) (fun hc6 => ?_)
 · refine cd_region fun K7 hK7 => ?_
   have hs8 := hs7.keep [0, 2, 3, 4] [_, _, _, _] rfl; clear hs7
   refine sq rfl (st_assign hs8 (.const _) rfl rfl fun _ _ hs9 => ?_); clear hs8
   refine hK7 _ _ ?_; clear hK7
   have hs10 := hs9.keep [0] [_] rfl; clear hs9
   refine cd_retv (vs := [.bool true]) hs10 (fun a_ w_ h => th_ret (hQ0 a_ w_ h)) rfl ⟨.tmp 0 rfl, trivial⟩ ?_
   clear hs10 hQ0 hN0 hK4
   simp_all [pack, Book.may]
   all_goals try (intro h; omega)
 · refine cd_skip ?_
   refine th_norm (hK4 _ _ ?_)
   obtain ⟨b8, o8, hA8, -, hc8⟩ := hP.el k x hx
   refine cd_drawn mixed hs7 [⟨9, [], Is (.pointer (some ⟨b2, 0, none⟩))⟩, ⟨10, [0], Is (.pointer (some ⟨b2, 22, none⟩))⟩, ⟨11, [1], Is (.slice A n cp)⟩, ⟨12, [], Is (.int .i64 (k : Int))⟩, ⟨13, [2, 3], Is (.pointer (some ⟨b8, o8 + k * 4, none⟩))⟩, ⟨14, [4], Is (.pointer (some ⟨b8, o8 + k * 4 + 2, none⟩))⟩, ⟨15, [5], Is (.bool x.light)⟩, ⟨16, [6], Is (.bool x.light)⟩, ⟨17, [7], Is (Gv x.light (.agg ⟨(bookL b A n cp)⟩))⟩, ⟨18, [7], Is (Gv x.light (.pointer (some ⟨b3, 1, none⟩)))⟩, ⟨19, [7, 9], Is (Gv x.light (.int .i64 v))⟩, ⟨20, [7, 8, 10], Is (Gv x.light (.agg ⟨[.int .i64 ((if v < b.mark then b.weak else b.full).lo), .int .i64 ((if v < b.mark then b.weak else b.full).hi)]⟩))⟩, ⟨21, [7, 11], Is (Gv x.light (.int .i64 ((if v < b.mark then b.weak else b.full).lo)))⟩, ⟨22, [7], Is (Gv x.light (.pointer (some ⟨b2, 0, none⟩)))⟩, ⟨23, [7, 13], Is (Gv x.light (.pointer (some ⟨b2, 21, none⟩)))⟩, ⟨24, [7, 14], Is (Gv x.light (.int .i64 b.lamp))⟩, ⟨25, [7, 12, 15], Is (Gv x.light (.bool (decide (((if v < b.mark then b.weak else b.full).lo : Int) < b.lamp))))⟩, ⟨26, [7, 16], Is (.bool (x.light && (decide (((if v < b.mark then b.weak else b.full).lo : Int) < b.lamp))))⟩] (by kernel_rfl) (by kernel_rfl) fun K9 hK9 => ⟨⟨?_, ?_, ?_, ?_, ?_, ?_, ?_, ?_, ?_, ?_, ?_, ?_, ?_, ?_, ?_, ?_, ?_, ?_, trivial⟩, ?_⟩
   · rintro T_ B_ a_ w_ K_ hT hB hf hsD hk
     exact ob rfl rfl (st_field (o' := 0) hsD (evT hT 3 rfl) rfl hf runUnderlying75 rfl sizeOf27 rfl rfl fun _ _ => hk _ _ _ _ ⟨rfl, rfl⟩)
   · rintro T_ B_ a_ w_ K_ hT hB _ _ ⟨rfl, rfl⟩ h9 - hf hsD hk
     exact ob rfl rfl (st_field (o' := 22) hsD (Ev.tmp h9) rfl hf runUnderlying27 rfl sizeOf25 rfl rfl fun _ _ => hk _ _ _ _ ⟨rfl, rfl⟩)
   · rintro T_ B_ a_ w_ K_ hT hB _ _ ⟨rfl, rfl⟩ h10 - hf hsD hk
     exact ob rfl rfl (st_load1 (o := 0) (off := 22) (v := .slice A n cp) hsD (Ev.tmp h10) rfl hf isAgg25 (hsD.cellsM (inB hB 1 rfl)) rfl fun _ _ => hk _ _ _ _ ⟨rfl, rfl⟩)
   · rintro T_ B_ a_ w_ K_ hT hB hf hsD hk
     exact ob rfl rfl (st_move hsD (evT hT 4 rfl) rfl hf fun _ _ => hk _ _ _ _ ⟨rfl, rfl⟩)
   · rintro T_ B_ a_ w_ K_ hT hB _ _ ⟨rfl, rfl⟩ h11 - _ _ ⟨rfl, rfl⟩ h12 - hf hsD hk
     exact ob rfl rfl (st_indexM (o' := o8 + k * 4) hsD (Ev.tmp h11) (Ev.tmp h12) rfl hf hA8 runUnderlying25 sizeOf66 ⟨by omega, by have := hP.len; have := (List.getElem?_eq_some_iff.1 hx).1; omega⟩ rfl fun _ _ => hk _ _ _ _ ⟨rfl, rfl⟩)
   · rintro T_ B_ a_ w_ K_ hT hB _ _ ⟨rfl, rfl⟩ h13 - hf hsD hk
     exact ob rfl rfl (st_field (o' := o8 + k * 4 + 2) hsD (Ev.tmp h13) rfl hf runUnderlying66 rfl sizeOf4 rfl rfl fun _ _ => hk _ _ _ _ ⟨rfl, rfl⟩)
   · rintro T_ B_ a_ w_ K_ hT hB _ _ ⟨rfl, rfl⟩ h14 - hf hsD hk
     exact ob rfl rfl (st_load1 (o := o8 + k * 4) (off := 2) (v := .bool x.light) hsD (Ev.tmp h14) rfl hf isAgg4 (hsD.old hc8 (by simp)) rfl fun _ _ => hk _ _ _ _ ⟨rfl, rfl⟩)
   · rintro T_ B_ a_ w_ K_ hT hB _ _ ⟨rfl, rfl⟩ h15 - hf hsD hk
     exact ob rfl rfl (st_move hsD (Ev.tmp h15) rfl hf fun _ _ => hk _ _ _ _ ⟨rfl, rfl⟩)
   · rintro T_ B_ a_ w_ K_ hT hB _ _ ⟨rfl, rfl⟩ h16 - hf hsD hk
     exact ob_gv hsD (gg := x.light) (v := .agg ⟨(bookL b A n cp)⟩) rfl rfl rfl h16 (ison_t _) rfl rfl hf (fun hg K1 hK1 => st_loadA (o := 0) (off := 0) (vs := (bookL b A n cp)) hsD (evT hT 3 rfl) rfl hf isAgg75 sizeOf75 (hsD.cellsM (inB hB 1 rfl)) rfl hK1) fun _ _ => hk _ _ _ _ ⟨rfl, rfl⟩
   · rintro T_ B_ a_ w_ K_ hT hB _ _ ⟨rfl, rfl⟩ h16 - hf hsD hk
     exact ob_gv hsD (gg := x.light) (v := .pointer (some ⟨b3, 1, none⟩)) rfl rfl rfl h16 (ison_t _) rfl rfl hf (fun hg K1 hK1 => st_indexArr (o' := 1) hsD (evT hT 2 rfl) (.const _) rfl hf runUnderlying103 sizeOf3 (by decide) rfl hK1) fun _ _ => hk _ _ _ _ ⟨rfl, rfl⟩
   · rintro T_ B_ a_ w_ K_ hT hB _ _ ⟨rfl, rfl⟩ h16 - _ _ ⟨rfl, rfl⟩ h18 - hf hsD hk
     exact ob_gv hsD (gg := x.light) (v := .int .i64 v) rfl rfl rfl h16 (ison_t _) rfl rfl hf (fun hg K1 hK1 => st_load1 (o := 0) (off := 1) (v := .int .i64 v) hsD ((Ev.tmp h18).un hg) rfl hf isAgg3 (hsD.cellsM (inB hB 0 rfl)) rfl hK1) fun _ _ => hk _ _ _ _ ⟨rfl, rfl⟩
   · rintro T_ B_ a_ w_ K_ hT hB _ _ ⟨rfl, rfl⟩ h16 - _ _ ⟨rfl, rfl⟩ h17 - _ _ ⟨rfl, rfl⟩ h19 - hf hsD hk
     exact ob_gv hsD (gg := x.light) (v := .agg ⟨[.int .i64 ((if v < b.mark then b.weak else b.full).lo), .int .i64 ((if v < b.mark then b.weak else b.full).hi)]⟩) rfl rfl rfl h16 (ison_t _) rfl rfl hf (fun hg K1 hK1 => st_callv (vs := [.agg ⟨(bookL b A n cp)⟩, .int .i64 v]) hsD (.func _) ⟨((Ev.tmp h17).un hg), ((Ev.tmp h19).un hg), trivial⟩ rfl hf call49 rfl (current_v b A n cp v _) hK1) fun _ _ => hk _ _ _ _ ⟨rfl, rfl⟩
   · rintro T_ B_ a_ w_ K_ hT hB _ _ ⟨rfl, rfl⟩ h16 - _ _ ⟨rfl, rfl⟩ h20 - hf hsD hk
     exact ob_gv hsD (gg := x.light) (v := .int .i64 ((if v < b.mark then b.weak else b.full).lo)) rfl rfl rfl h16 (ison_t _) rfl rfl hf (fun hg K1 hK1 => st_fieldv (v := .int .i64 ((if v < b.mark then b.weak else b.full).lo)) hsD ((Ev.tmp h20).un hg) rfl hf runUnderlying23 rfl isAgg3 rfl hK1) fun _ _ => hk _ _ _ _ ⟨rfl, rfl⟩
   · rintro T_ B_ a_ w_ K_ hT hB _ _ ⟨rfl, rfl⟩ h16 - hf hsD hk
     exact ob_gv hsD (gg := x.light) (v := .pointer (some ⟨b2, 0, none⟩)) rfl rfl rfl h16 (ison_t _) rfl rfl hf (fun hg K1 hK1 => st_field (o' := 0) hsD (evT hT 3 rfl) rfl hf runUnderlying75 rfl sizeOf27 rfl rfl hK1) fun _ _ => hk _ _ _ _ ⟨rfl, rfl⟩
   · rintro T_ B_ a_ w_ K_ hT hB _ _ ⟨rfl, rfl⟩ h16 - _ _ ⟨rfl, rfl⟩ h22 - hf hsD hk
     exact ob_gv hsD (gg := x.light) (v := .pointer (some ⟨b2, 21, none⟩)) rfl rfl rfl h16 (ison_t _) rfl rfl hf (fun hg K1 hK1 => st_field (o' := 21) hsD ((Ev.tmp h22).un hg) rfl hf runUnderlying27 rfl sizeOf3 rfl rfl hK1) fun _ _ => hk _ _ _ _ ⟨rfl, rfl⟩
   · rintro T_ B_ a_ w_ K_ hT hB _ _ ⟨rfl, rfl⟩ h16 - _ _ ⟨rfl, rfl⟩ h23 - hf hsD hk
     exact ob_gv hsD (gg := x.light) (v := .int .i64 b.lamp) rfl rfl rfl h16 (ison_t _) rfl rfl hf (fun hg K1 hK1 => st_load1 (o := 0) (off := 21) (v := .int .i64 b.lamp) hsD ((Ev.tmp h23).un hg) rfl hf isAgg3 (hsD.cellsM (inB hB 1 rfl)) rfl hK1) fun _ _ => hk _ _ _ _ ⟨rfl, rfl⟩
   · rintro T_ B_ a_ w_ K_ hT hB _ _ ⟨rfl, rfl⟩ h16 - _ _ ⟨rfl, rfl⟩ h21 - _ _ ⟨rfl, rfl⟩ h24 - hf hsD hk
     exact ob_gv hsD (gg := x.light) (v := .bool (decide (((if v < b.mark then b.weak else b.full).lo : Int) < b.lamp))) rfl rfl rfl h16 (ison_t _) rfl rfl hf (fun hg K1 hK1 => st_cmp (c := decide (((if v < b.mark then b.weak else b.full).lo : Int) < b.lamp)) hsD ((Ev.tmp h21).un hg) ((Ev.tmp h24).un hg) rfl hf rfl rfl hK1) fun _ _ => hk _ _ _ _ ⟨rfl, rfl⟩
   · rintro T_ B_ a_ w_ K_ hT hB _ _ ⟨rfl, rfl⟩ h16 - _ _ ⟨rfl, rfl⟩ h25 - hf hsD hk
     exact ob rfl rfl (st_and hsD (gx := true) (gy := x.light) (Ev.tmp h16) rfl (Ev.tmp h25) (fun h => h) rfl hf fun _ _ => hk _ _ _ _ ⟨rfl, rfl⟩)
   rintro _ _ ⟨rfl, rfl⟩ _ _ ⟨rfl, rfl⟩ _ _ ⟨rfl, rfl⟩ _ _ ⟨rfl, rfl⟩ _ _ ⟨rfl, rfl⟩ _ _ ⟨rfl, rfl⟩ _ _ ⟨rfl, rfl⟩ _ _ ⟨rfl, rfl⟩ _ _ ⟨rfl, rfl⟩ _ _ ⟨rfl, rfl⟩ _ _ ⟨rfl, rfl⟩ _ _ ⟨rfl, rfl⟩ _ _ ⟨rfl, rfl⟩ _ _ ⟨rfl, rfl⟩ _ _ ⟨rfl, rfl⟩ _ _ ⟨rfl, rfl⟩ _ _ ⟨rfl, rfl⟩ _ _ ⟨rfl, rfl⟩ a_8 w_8 hs8; clear hs7
   have hs9 := Sx.as (T' := [_, _, _, _, _, _, _, _, _, _, _, _, _, _, _, _, _, _, _, _, _, _, _]) (B' := [_, _]) rfl rfl hs8; clear hs8
   have hs10 := hs9.keep [0, 1, 2, 3, 4, 5, 6, 7, 8, 9, 10, 11, 12, 13, 14, 15, 16, 17, 18, 20, 21, 22] [_, _, _, _, _, _, _, _, _, _, _, _, _, _, _, _, _, _, _, _, _, _] rfl; clear hs9
   refine sq rfl (st_assign hs10 (Ev.t 17 rfl) rfl rfl fun _ _ hs11 => ?_); clear hs10
   refine hK9 _ _ ?_; clear hK9
   have hs12 := hs11.keep [0] [_] rfl; clear hs11
   refine cd_retv (vs := [.bool (x.light && (decide (((if v < b.mark then b.weak else b.full).lo : Int) < b.lamp)))]) hs12 hQ0 rfl ⟨.tmp 0 rfl, trivial⟩ ?_
   clear hs12 hQ0 hN0
   simp_all [pack, Book.may]
   all_goals try (intro h; omega)

theorem isPlan_v (b : Book) (A : Option Addr) (n cp : Nat) (A2 : Option Addr) (m c2 : Nat) (plan : List Walks) (w : World) (hP : PartsAt w A n b.parts) (hn : n ≤ 140737488351232) (hL : PlanAt w A2 m plan) (hm : m ≤ 140737488351232) (hb : Bd b) :
    CallsV Tryd.prog 52 [.agg ⟨(bookL b A n cp)⟩, .slice A2 m c2] w (.bool (b.isPlan plan)) := by
 refine enter (N := 52) (M := []) w func52 rfl rfl rfl (fun Q0 a_0 hQ0 hN0 hs0 => ?_)
 refine cd_region fun K1 hK1 => ?_
 refine sq rfl (st_box hs0 (Ev.t 0 rfl) rfl rfl rfl fun b2 _ _ hs1 => ?_); clear hs0
 refine sq rfl (st_assign hs1 (.const _) rfl rfl fun _ _ hs2 => ?_); clear hs1
 refine hK1 _ _ ?_; clear hK1
 have hs3 := hs2.keep [0, 1, 3] [_, _, _] rfl; clear hs2
 refine cd_region fun K3 hK3 => ?_
 refine sq rfl (st_move hs3 (Ev.t 2 rfl) rfl rfl fun _ _ hs4 => ?_); clear hs3
 refine sq rfl (st_len hs4 (Ev.t 0 rfl) rfl rfl runUnderlying28 fun _ _ hs5 => ?_); clear hs4
 refine sq rfl (st_field (o' := 0) hs5 (Ev.t 3 rfl) rfl rfl runUnderlying75 rfl sizeOf27 rfl rfl fun _ _ hs6 => ?_); clear hs5
 refine sq rfl (st_field (o' := 22) hs6 (Ev.t 0 rfl) rfl rfl runUnderlying27 rfl sizeOf25 rfl rfl fun _ _ hs7 => ?_); clear hs6
 refine sq rfl (st_load1 (o := 0) (off := 22) (v := .slice A n cp) hs7 (Ev.t 0 rfl) rfl rfl isAgg25 (hs7.cells 0 rfl) rfl fun _ _ hs8 => ?_); clear hs7
 refine sq rfl (st_len hs8 (Ev.t 0 rfl) rfl rfl runUnderlying25 fun _ _ hs9 => ?_); clear hs8
 refine sq rfl (st_cmp (c := ((m : Int) : Int) == (n : Int)) hs9 (Ev.t 4 rfl) (Ev.t 0 rfl) rfl rfl rfl rfl fun _ _ hs10 => ?_); clear hs9
 refine sq rfl (st_assign hs10 (Ev.t 0 rfl) rfl rfl fun _ _ hs11 => ?_); clear hs10
 refine hK3 _ _ ?_; clear hK3
 have hs12 := hs11.keep [0, 8, 9, 10] [_, _, _, _] rfl; clear hs11
 by_cases hlen : (m : Int) = (n : Int)
 · skip
   have hl1 := hL.len; have hl2 := hP.len; have hz : (plan.zip b.parts).length = m := by rw [List.length_zip]; omega
   have hs13 := Sx.keepE [0, 1, 2, 3] [(5, .bool (((plan.zip b.parts).take 0).all (fun q => okWalks q.2 q.1))), (4, _), (2, _), (1, _)] ⟨⟨_, rfl, by simp [hlen]⟩, ⟨_, rfl, rfl⟩, ⟨_, rfl, rfl⟩, ⟨_, rfl, rfl⟩, trivial⟩ hs12; clear hs12
   refine cd_seq fun K4 hK4 => ?_
   refine cd_region fun K5 hK5 => ?_
   refine sq rfl (st_move hs13 (Ev.t 3 rfl) rfl rfl fun _ _ hs14 => ?_); clear hs13
   refine sq rfl (st_len hs14 (Ev.t 0 rfl) rfl rfl runUnderlying28 fun _ _ hs15 => ?_); clear hs14
   refine sq rfl (st_move hs15 (.const _) rfl rfl fun _ _ hs16 => ?_); clear hs15
   refine hK5 _ _ ?_; clear hK5
   have hs17 := hs16.keep [0, 1, 2, 3, 4, 5] [_, _, _, _, _, _] rfl; clear hs16
   refine cd_block ?_
   have hs18 : Sx 52 [] [(17, .int .i64 (0 : Int)), (16, .int .i64 (m : Int)), (15, .slice A2 m c2), (5, .bool (((plan.zip b.parts).take 0).all (fun q => okWalks q.2 q.1))), (4, .bool false), (2, .pointer (some ⟨b2, 0, none⟩))] [(b2, some (.cells ⟨(bookL b A n cp)⟩ 75 (0, 0)))] [] w _ _ := Sx.keepE [0, 1, 2, 3, 4, 5] _ ⟨⟨_, rfl, rfl⟩, ⟨_, rfl, rfl⟩, ⟨_, rfl, rfl⟩, ⟨_, rfl, rfl⟩, ⟨_, rfl, rfl⟩, ⟨_, rfl, rfl⟩, trivial⟩ hs17; clear hs17
   refine cd_loop (X := Nat) (fun i a_ w_ => (i ≤ m) ∧ Sx 52 [] [(17, .int .i64 (i : Int)), (16, .int .i64 (m : Int)), (15, .slice A2 m c2), (5, .bool (((plan.zip b.parts).take i).all (fun q => okWalks q.2 q.1))), (4, .bool false), (2, .pointer (some ⟨b2, 0, none⟩))] [(b2, some (.cells ⟨(bookL b A n cp)⟩ 75 (0, 0)))] [] w a_ w_) (fun i => m - i) (0) ⟨?_, hs18⟩ ?_
   · first | omega | simp
   intro i a_19 w_19 ⟨hi, hs19⟩; clear hs18
   refine cd_region fun K6 hK6 => ?_
   refine sq rfl (st_cmp (c := decide (((i : Int) : Int) < (m : Int))) hs19 (Ev.t 0 rfl) (Ev.t 1 rfl) rfl rfl rfl rfl fun _ _ hs20 => ?_); clear hs19
   refine hK6 _ _ ?_; clear hK6
   refine cd_seq fun K7 hK7 => ?_
   refine cd_cond hs20 (Ev.t 0 rfl) (fun hc8 => ?_) (fun hc8 => ?_)
   · simp only [decide_eq_true_eq] at hc8
     obtain ⟨x9, hx9⟩ : ∃ x, plan[i]? = some x := ⟨_, List.getElem?_eq_getElem (by have := hL.len; omega)⟩
     obtain ⟨b10, o10, hA10, -, hc10⟩ := hL.el i x9 hx9
     obtain ⟨x11, hx11⟩ : ∃ x, b.parts[i]? = some x := ⟨_, List.getElem?_eq_getElem (by have := hP.len; omega)⟩
     obtain ⟨b12, o12, hA12, -, hc12⟩ := hP.el i x11 hx11
     refine cd_skip ?_
     refine th_norm (hK7 _ _ ?_)
     refine cd_seq fun K13 hK13 => ?_
     refine cd_block ?_
     refine cd_region fun K14 hK14 => ?_
     refine sq rfl (st_move hs20 (Ev.t 1 rfl) rfl rfl fun _ _ hs21 => ?_); clear hs20
     refine sq rfl (st_indexM (o' := o10 + i * 2) hs21 (Ev.t 4 rfl) (Ev.t 2 rfl) rfl rfl hA10 runUnderlying28 sizeOf64 ⟨by omega, by have := hL.len; have := (List.getElem?_eq_some_iff.1 hx9).1; omega⟩ rfl fun _ _ hs22 => ?_); clear hs21
     refine sq rfl (st_loadA (o := o10 + i * 2) (off := 0) (vs := (walksL x9)) hs22 (Ev.t 0 rfl) rfl rfl isAgg64 sizeOf64 (hs22.old hc10 (by simp)) rfl fun _ _ hs23 => ?_); clear hs22
     refine sq rfl (st_alloc hs23 rfl rfl zeroValue64 rfl fun b15 _ _ hs24 => ?_); clear hs23
     refine sq rfl (st_assign hs24 (Ev.t 3 rfl) rfl rfl fun _ _ hs25 => ?_); clear hs24
     refine sq rfl (st_store (l' := (walksL x9)) (vs := (walksL x9)) (i := 0) hs25 (Ev.t 1 rfl) (Ev.t 2 rfl) sizeOf64 rfl rfl rfl rfl rfl rfl fun _ _ hs26 => ?_); clear hs25
     have hs27 := hs26.asB [_, _] rfl; clear hs26
     refine hK14 _ _ ?_; clear hK14
     have hs28 := hs27.keep [0, 1, 6, 7, 8, 9, 10, 11] [_, _, _, _, _, _, _, _] rfl; clear hs27
     refine cd_drawn1 mixed hs28 [⟨22, [], Is (.bool (((plan.zip b.parts).take i).all (fun q => okWalks q.2 q.1)))⟩, ⟨23, [0], Is (.bool (((plan.zip b.parts).take i).all (fun q => okWalks q.2 q.1)))⟩, ⟨24, [1], Is (Gv (((plan.zip b.parts).take i).all (fun q => okWalks q.2 q.1)) (.pointer (some ⟨b15, 0, none⟩)))⟩, ⟨25, [1, 2], Is (Gv (((plan.zip b.parts).take i).all (fun q => okWalks q.2 q.1)) (.int .i64 x9.c))⟩, ⟨26, [1], Is (Gv (((plan.zip b.parts).take i).all (fun q => okWalks q.2 q.1)) (.pointer (some ⟨b2, 0, none⟩)))⟩, ⟨27, [1, 4], Is (Gv (((plan.zip b.parts).take i).all (fun q => okWalks q.2 q.1)) (.pointer (some ⟨b2, 22, none⟩)))⟩, ⟨28, [1, 5], Is (Gv (((plan.zip b.parts).take i).all (fun q => okWalks q.2 q.1)) (.slice A n cp))⟩, ⟨29, [1], Is (Gv (((plan.zip b.parts).take i).all (fun q => okWalks q.2 q.1)) (.int .i64 (i : Int)))⟩, ⟨30, [1, 6, 7], Is (Gv (((plan.zip b.parts).take i).all (fun q => okWalks q.2 q.1)) (.pointer (some ⟨b12, o12 + i * 4, none⟩)))⟩, ⟨31, [1, 8], Is (Gv (((plan.zip b.parts).take i).all (fun q => okWalks q.2 q.1)) (.pointer (some ⟨b12, o12 + i * 4 + 3, none⟩)))⟩, ⟨32, [1, 9], Is (Gv (((plan.zip b.parts).take i).all (fun q => okWalks q.2 q.1)) (.int .i64 x11.walks))⟩, ⟨33, [1, 3, 10], Is (Gv (((plan.zip b.parts).take i).all (fun q => okWalks q.2 q.1)) (.bool (within x9.c 0 x11.walks)))⟩, ⟨34, [1, 11], Is (.bool ((((plan.zip b.parts).take i).all (fun q => okWalks q.2 q.1)) && (within x9.c 0 x11.walks)))⟩, ⟨35, [12], Is (.bool ((((plan.zip b.parts).take i).all (fun q => okWalks q.2 q.1)) && (within x9.c 0 x11.walks)))⟩, ⟨36, [13], Is (Gv ((((plan.zip b.parts).take i).all (fun q => okWalks q.2 q.1)) && (within x9.c 0 x11.walks)) (.pointer (some ⟨b15, 1, none⟩)))⟩, ⟨37, [13, 14], Is (Gv ((((plan.zip b.parts).take i).all (fun q => okWalks q.2 q.1)) && (within x9.c 0 x11.walks)) (.int .i64 x9.w))⟩, ⟨38, [13], Is (Gv ((((plan.zip b.parts).take i).all (fun q => okWalks q.2 q.1)) && (within x9.c 0 x11.walks)) (.pointer (some ⟨b2, 0, none⟩)))⟩, ⟨39, [13, 16], Is (Gv ((((plan.zip b.parts).take i).all (fun q => okWalks q.2 q.1)) && (within x9.c 0 x11.walks)) (.pointer (some ⟨b2, 22, none⟩)))⟩, ⟨40, [13, 17], Is (Gv ((((plan.zip b.parts).take i).all (fun q => okWalks q.2 q.1)) && (within x9.c 0 x11.walks)) (.slice A n cp))⟩, ⟨41, [13], Is (Gv ((((plan.zip b.parts).take i).all (fun q => okWalks q.2 q.1)) && (within x9.c 0 x11.walks)) (.int .i64 (i : Int)))⟩, ⟨42, [13, 18, 19], Is (Gv ((((plan.zip b.parts).take i).all (fun q => okWalks q.2 q.1)) && (within x9.c 0 x11.walks)) (.pointer (some ⟨b12, o12 + i * 4, none⟩)))⟩, ⟨43, [13, 20], Is (Gv ((((plan.zip b.parts).take i).all (fun q => okWalks q.2 q.1)) && (within x9.c 0 x11.walks)) (.pointer (some ⟨b12, o12 + i * 4 + 3, none⟩)))⟩, ⟨44, [13, 21], Is (Gv ((((plan.zip b.parts).take i).all (fun q => okWalks q.2 q.1)) && (within x9.c 0 x11.walks)) (.int .i64 x11.walks))⟩, ⟨45, [13], Is (Gv ((((plan.zip b.parts).take i).all (fun q => okWalks q.2 q.1)) && (within x9.c 0 x11.walks)) (.pointer (some ⟨b15, 0, none⟩)))⟩, ⟨46, [13, 23], Is (Gv ((((plan.zip b.parts).take i).all (fun q => okWalks q.2 q.1)) && (within x9.c 0 x11.walks)) (.int .i64 x9.c))⟩, ⟨47, [13, 22, 24], Is (Gv ((((plan.zip b.parts).take i).all (fun q => okWalks q.2 q.1)) && (within x9.c 0 x11.walks)) (.int .i64 (x11.walks - x9.c)))⟩, ⟨48, [13, 15, 25], Is (Gv ((((plan.zip b.parts).take i).all (fun q => okWalks q.2 q.1)) && (within x9.c 0 x11.walks)) (.bool (within x9.w 0 (x11.walks - x9.c))))⟩, ⟨49, [13, 26], Is (.bool (((((plan.zip b.parts).take i).all (fun q => okWalks q.2 q.1)) && (within x9.c 0 x11.walks)) && (within x9.w 0 (x11.walks - x9.c))))⟩] (by kernel_rfl) (by kernel_rfl) ⟨⟨?_, ?_, ?_, ?_, ?_, ?_, ?_, ?_, ?_, ?_, ?_, ?_, ?_, ?_, ?_, ?_, ?_, ?_, ?_, ?_, ?_, ?_, ?_, ?_, ?_, ?_, ?_, ?_, trivial⟩, ?_⟩
     · rintro T_ B_ a_ w_ K_ hT hB hf hsD hk
       exact ob rfl rfl (st_move hsD (evT hT 5 rfl) rfl hf fun _ _ => hk _ _ _ _ ⟨rfl, rfl⟩)
     · rintro T_ B_ a_ w_ K_ hT hB _ _ ⟨rfl, rfl⟩ h22 - hf hsD hk
       exact ob rfl rfl (st_move hsD (Ev.tmp h22) rfl hf fun _ _ => hk _ _ _ _ ⟨rfl, rfl⟩)
     · rintro T_ B_ a_ w_ K_ hT hB _ _ ⟨rfl, rfl⟩ h23 - hf hsD hk
       exact ob_gv hsD (gg := ((plan.zip b.parts).take i).all (fun q => okWalks q.2 q.1)) (v := .pointer (some ⟨b15, 0, none⟩)) rfl rfl rfl h23 (ison_t _) rfl rfl hf (fun hg K1 hK1 => st_field (o' := 0) hsD (evT hT 1 rfl) rfl hf runUnderlying64 rfl sizeOf3 rfl rfl hK1) fun _ _ => hk _ _ _ _ ⟨rfl, rfl⟩
     · rintro T_ B_ a_ w_ K_ hT hB _ _ ⟨rfl, rfl⟩ h23 - _ _ ⟨rfl, rfl⟩ h24 - hf hsD hk
       exact ob_gv hsD (gg := ((plan.zip b.parts).take i).all (fun q => okWalks q.2 q.1)) (v := .int .i64 x9.c) rfl rfl rfl h23 (ison_t _) rfl rfl hf (fun hg K1 hK1 => st_load1 (o := 0) (off := 0) (v := .int .i64 x9.c) hsD ((Ev.tmp h24).un hg) rfl hf isAgg3 (hsD.cellsM (inB hB 0 rfl)) rfl hK1) fun _ _ => hk _ _ _ _ ⟨rfl, rfl⟩
     · rintro T_ B_ a_ w_ K_ hT hB _ _ ⟨rfl, rfl⟩ h23 - hf hsD hk
       exact ob_gv hsD (gg := ((plan.zip b.parts).take i).all (fun q => okWalks q.2 q.1)) (v := .pointer (some ⟨b2, 0, none⟩)) rfl rfl rfl h23 (ison_t _) rfl rfl hf (fun hg K1 hK1 => st_field (o' := 0) hsD (evT hT 7 rfl) rfl hf runUnderlying75 rfl sizeOf27 rfl rfl hK1) fun _ _ => hk _ _ _ _ ⟨rfl, rfl⟩
     · rintro T_ B_ a_ w_ K_ hT hB _ _ ⟨rfl, rfl⟩ h23 - _ _ ⟨rfl, rfl⟩ h26 - hf hsD hk
       exact ob_gv hsD (gg := ((plan.zip b.parts).take i).all (fun q => okWalks q.2 q.1)) (v := .pointer (some ⟨b2, 22, none⟩)) rfl rfl rfl h23 (ison_t _) rfl rfl hf (fun hg K1 hK1 => st_field (o' := 22) hsD ((Ev.tmp h26).un hg) rfl hf runUnderlying27 rfl sizeOf25 rfl rfl hK1) fun _ _ => hk _ _ _ _ ⟨rfl, rfl⟩
     · rintro T_ B_ a_ w_ K_ hT hB _ _ ⟨rfl, rfl⟩ h23 - _ _ ⟨rfl, rfl⟩ h27 - hf hsD hk
       exact ob_gv hsD (gg := ((plan.zip b.parts).take i).all (fun q => okWalks q.2 q.1)) (v := .slice A n cp) rfl rfl rfl h23 (ison_t _) rfl rfl hf (fun hg K1 hK1 => st_load1 (o := 0) (off := 22) (v := .slice A n cp) hsD ((Ev.tmp h27).un hg) rfl hf isAgg25 (hsD.cellsM (inB hB 1 rfl)) rfl hK1) fun _ _ => hk _ _ _ _ ⟨rfl, rfl⟩
     · rintro T_ B_ a_ w_ K_ hT hB _ _ ⟨rfl, rfl⟩ h23 - hf hsD hk
       exact ob_gv hsD (gg := ((plan.zip b.parts).take i).all (fun q => okWalks q.2 q.1)) (v := .int .i64 (i : Int)) rfl rfl rfl h23 (ison_t _) rfl rfl hf (fun hg K1 hK1 => st_move hsD (evT hT 0 rfl) rfl hf hK1) fun _ _ => hk _ _ _ _ ⟨rfl, rfl⟩
     · rintro T_ B_ a_ w_ K_ hT hB _ _ ⟨rfl, rfl⟩ h23 - _ _ ⟨rfl, rfl⟩ h28 - _ _ ⟨rfl, rfl⟩ h29 - hf hsD hk
       exact ob_gv hsD (gg := ((plan.zip b.parts).take i).all (fun q => okWalks q.2 q.1)) (v := .pointer (some ⟨b12, o12 + i * 4, none⟩)) rfl rfl rfl h23 (ison_t _) rfl rfl hf (fun hg K1 hK1 => st_indexM (o' := o12 + i * 4) hsD ((Ev.tmp h28).un hg) ((Ev.tmp h29).un hg) rfl hf hA12 runUnderlying25 sizeOf66 ⟨by omega, by have := hP.len; have := (List.getElem?_eq_some_iff.1 hx11).1; omega⟩ rfl hK1) fun _ _ => hk _ _ _ _ ⟨rfl, rfl⟩
     · rintro T_ B_ a_ w_ K_ hT hB _ _ ⟨rfl, rfl⟩ h23 - _ _ ⟨rfl, rfl⟩ h30 - hf hsD hk
       exact ob_gv hsD (gg := ((plan.zip b.parts).take i).all (fun q => okWalks q.2 q.1)) (v := .pointer (some ⟨b12, o12 + i * 4 + 3, none⟩)) rfl rfl rfl h23 (ison_t _) rfl rfl hf (fun hg K1 hK1 => st_field (o' := o12 + i * 4 + 3) hsD ((Ev.tmp h30).un hg) rfl hf runUnderlying66 rfl sizeOf3 rfl rfl hK1) fun _ _ => hk _ _ _ _ ⟨rfl, rfl⟩
     · rintro T_ B_ a_ w_ K_ hT hB _ _ ⟨rfl, rfl⟩ h23 - _ _ ⟨rfl, rfl⟩ h31 - hf hsD hk
       exact ob_gv hsD (gg := ((plan.zip b.parts).take i).all (fun q => okWalks q.2 q.1)) (v := .int .i64 x11.walks) rfl rfl rfl h23 (ison_t _) rfl rfl hf (fun hg K1 hK1 => st_load1 (o := o12 + i * 4) (off := 3) (v := .int .i64 x11.walks) hsD ((Ev.tmp h31).un hg) rfl hf isAgg3 (hsD.old hc12 (by simp)) rfl hK1) fun _ _ => hk _ _ _ _ ⟨rfl, rfl⟩
     · rintro T_ B_ a_ w_ K_ hT hB _ _ ⟨rfl, rfl⟩ h23 - _ _ ⟨rfl, rfl⟩ h25 - _ _ ⟨rfl, rfl⟩ h32 - hf hsD hk
       exact ob_gv hsD (gg := ((plan.zip b.parts).take i).all (fun q => okWalks q.2 q.1)) (v := .bool (within x9.c 0 x11.walks)) rfl rfl rfl h23 (ison_t _) rfl rfl hf (fun hg K1 hK1 => st_callv (vs := [.int .i64 x9.c, .int .i64 0, .int .i64 x11.walks]) hsD (.func _) ⟨((Ev.tmp h25).un hg), (.const _), ((Ev.tmp h32).un hg), trivial⟩ rfl hf call48 rfl (within_v x9.c 0 x11.walks _) hK1) fun _ _ => hk _ _ _ _ ⟨rfl, rfl⟩
     · rintro T_ B_ a_ w_ K_ hT hB _ _ ⟨rfl, rfl⟩ h23 - _ _ ⟨rfl, rfl⟩ h33 - hf hsD hk
       exact ob rfl rfl (st_and hsD (gx := true) (gy := ((plan.zip b.parts).take i).all (fun q => okWalks q.2 q.1)) (Ev.tmp h23) rfl (Ev.tmp h33) (fun h => h) rfl hf fun _ _ => hk _ _ _ _ ⟨rfl, rfl⟩)
     · rintro T_ B_ a_ w_ K_ hT hB _ _ ⟨rfl, rfl⟩ h34 - hf hsD hk
       exact ob rfl rfl (st_move hsD (Ev.tmp h34) rfl hf fun _ _ => hk _ _ _ _ ⟨rfl, rfl⟩)
     · rintro T_ B_ a_ w_ K_ hT hB _ _ ⟨rfl, rfl⟩ h35 - hf hsD hk
       exact ob_gv hsD (gg := (((plan.zip b.parts).take i).all (fun q => okWalks q.2 q.1)) && (within x9.c 0 x11.walks)) (v := .pointer (some ⟨b15, 1, none⟩)) rfl rfl rfl h35 (ison_t _) rfl rfl hf (fun hg K1 hK1 => st_field (o' := 1) hsD (evT hT 1 rfl) rfl hf runUnderlying64 rfl sizeOf3 rfl rfl hK1) fun _ _ => hk _ _ _ _ ⟨rfl, rfl⟩
     · rintro T_ B_ a_ w_ K_ hT hB _ _ ⟨rfl, rfl⟩ h35 - _ _ ⟨rfl, rfl⟩ h36 - hf hsD hk
       exact ob_gv hsD (gg := (((plan.zip b.parts).take i).all (fun q => okWalks q.2 q.1)) && (within x9.c 0 x11.walks)) (v := .int .i64 x9.w) rfl rfl rfl h35 (ison_t _) rfl rfl hf (fun hg K1 hK1 => st_load1 (o := 0) (off := 1) (v := .int .i64 x9.w) hsD ((Ev.tmp h36).un hg) rfl hf isAgg3 (hsD.cellsM (inB hB 0 rfl)) rfl hK1) fun _ _ => hk _ _ _ _ ⟨rfl, rfl⟩
     · rintro T_ B_ a_ w_ K_ hT hB _ _ ⟨rfl, rfl⟩ h35 - hf hsD hk
       exact ob_gv hsD (gg := (((plan.zip b.parts).take i).all (fun q => okWalks q.2 q.1)) && (within x9.c 0 x11.walks)) (v := .pointer (some ⟨b2, 0, none⟩)) rfl rfl rfl h35 (ison_t _) rfl rfl hf (fun hg K1 hK1 => st_field (o' := 0) hsD (evT hT 7 rfl) rfl hf runUnderlying75 rfl sizeOf27 rfl rfl hK1) fun _ _ => hk _ _ _ _ ⟨rfl, rfl⟩
     · rintro T_ B_ a_ w_ K_ hT hB _ _ ⟨rfl, rfl⟩ h35 - _ _ ⟨rfl, rfl⟩ h38 - hf hsD hk
       exact ob_gv hsD (gg := (((plan.zip b.parts).take i).all (fun q => okWalks q.2 q.1)) && (within x9.c 0 x11.walks)) (v := .pointer (some ⟨b2, 22, none⟩)) rfl rfl rfl h35 (ison_t _) rfl rfl hf (fun hg K1 hK1 => st_field (o' := 22) hsD ((Ev.tmp h38).un hg) rfl hf runUnderlying27 rfl sizeOf25 rfl rfl hK1) fun _ _ => hk _ _ _ _ ⟨rfl, rfl⟩
     · rintro T_ B_ a_ w_ K_ hT hB _ _ ⟨rfl, rfl⟩ h35 - _ _ ⟨rfl, rfl⟩ h39 - hf hsD hk
       exact ob_gv hsD (gg := (((plan.zip b.parts).take i).all (fun q => okWalks q.2 q.1)) && (within x9.c 0 x11.walks)) (v := .slice A n cp) rfl rfl rfl h35 (ison_t _) rfl rfl hf (fun hg K1 hK1 => st_load1 (o := 0) (off := 22) (v := .slice A n cp) hsD ((Ev.tmp h39).un hg) rfl hf isAgg25 (hsD.cellsM (inB hB 1 rfl)) rfl hK1) fun _ _ => hk _ _ _ _ ⟨rfl, rfl⟩
     · rintro T_ B_ a_ w_ K_ hT hB _ _ ⟨rfl, rfl⟩ h35 - hf hsD hk
       exact ob_gv hsD (gg := (((plan.zip b.parts).take i).all (fun q => okWalks q.2 q.1)) && (within x9.c 0 x11.walks)) (v := .int .i64 (i : Int)) rfl rfl rfl h35 (ison_t _) rfl rfl hf (fun hg K1 hK1 => st_move hsD (evT hT 0 rfl) rfl hf hK1) fun _ _ => hk _ _ _ _ ⟨rfl, rfl⟩
     · rintro T_ B_ a_ w_ K_ hT hB _ _ ⟨rfl, rfl⟩ h35 - _ _ ⟨rfl, rfl⟩ h40 - _ _ ⟨rfl, rfl⟩ h41 - hf hsD hk
       exact ob_gv hsD (gg := (((plan.zip b.parts).take i).all (fun q => okWalks q.2 q.1)) && (within x9.c 0 x11.walks)) (v := .pointer (some ⟨b12, o12 + i * 4, none⟩)) rfl rfl rfl h35 (ison_t _) rfl rfl hf (fun hg K1 hK1 => st_indexM (o' := o12 + i * 4) hsD ((Ev.tmp h40).un hg) ((Ev.tmp h41).un hg) rfl hf hA12 runUnderlying25 sizeOf66 ⟨by omega, by have := hP.len; have := (List.getElem?_eq_some_iff.1 hx11).1; omega⟩ rfl hK1) fun _ _ => hk _ _ _ _ ⟨rfl, rfl⟩
     · rintro T_ B_ a_ w_ K_ hT hB _ _ ⟨rfl, rfl⟩ h35 - _ _ ⟨rfl, rfl⟩ h42 - hf hsD hk
       exact ob_gv hsD (gg := (((plan.zip b.parts).take i).all (fun q => okWalks q.2 q.1)) && (within x9.c 0 x11.walks)) (v := .pointer (some ⟨b12, o12 + i * 4 + 3, none⟩)) rfl rfl rfl h35 (ison_t _) rfl rfl hf (fun hg K1 hK1 => st_field (o' := o12 + i * 4 + 3) hsD ((Ev.tmp h42).un hg) rfl hf runUnderlying66 rfl sizeOf3 rfl rfl hK1) fun _ _ => hk _ _ _ _ ⟨rfl, rfl⟩
     · rintro T_ B_ a_ w_ K_ hT hB _ _ ⟨rfl, rfl⟩ h35 - _ _ ⟨rfl, rfl⟩ h43 - hf hsD hk
       exact ob_gv hsD (gg := (((plan.zip b.parts).take i).all (fun q => okWalks q.2 q.1)) && (within x9.c 0 x11.walks)) (v := .int .i64 x11.walks) rfl rfl rfl h35 (ison_t _) rfl rfl hf (fun hg K1 hK1 => st_load1 (o := o12 + i * 4) (off := 3) (v := .int .i64 x11.walks) hsD ((Ev.tmp h43).un hg) rfl hf isAgg3 (hsD.old hc12 (by simp)) rfl hK1) fun _ _ => hk _ _ _ _ ⟨rfl, rfl⟩
     · rintro T_ B_ a_ w_ K_ hT hB _ _ ⟨rfl, rfl⟩ h35 - hf hsD hk
       exact ob_gv hsD (gg := (((plan.zip b.parts).take i).all (fun q => okWalks q.2 q.1)) && (within x9.c 0 x11.walks)) (v := .pointer (some ⟨b15, 0, none⟩)) rfl rfl rfl h35 (ison_t _) rfl rfl hf (fun hg K1 hK1 => st_field (o' := 0) hsD (evT hT 1 rfl) rfl hf runUnderlying64 rfl sizeOf3 rfl rfl hK1) fun _ _ => hk _ _ _ _ ⟨rfl, rfl⟩
     · rintro T_ B_ a_ w_ K_ hT hB _ _ ⟨rfl, rfl⟩ h35 - _ _ ⟨rfl, rfl⟩ h45 - hf hsD hk
       exact ob_gv hsD (gg := (((plan.zip b.parts).take i).all (fun q => okWalks q.2 q.1)) && (within x9.c 0 x11.walks)) (v := .int .i64 x9.c) rfl rfl rfl h35 (ison_t _) rfl rfl hf (fun hg K1 hK1 => st_load1 (o := 0) (off := 0) (v := .int .i64 x9.c) hsD ((Ev.tmp h45).un hg) rfl hf isAgg3 (hsD.cellsM (inB hB 0 rfl)) rfl hK1) fun _ _ => hk _ _ _ _ ⟨rfl, rfl⟩
     · rintro T_ B_ a_ w_ K_ hT hB _ _ ⟨rfl, rfl⟩ h35 - _ _ ⟨rfl, rfl⟩ h44 - _ _ ⟨rfl, rfl⟩ h46 - hf hsD hk
       exact ob_gv hsD (gg := (((plan.zip b.parts).take i).all (fun q => okWalks q.2 q.1)) && (within x9.c 0 x11.walks)) (v := .int .i64 (x11.walks - x9.c)) rfl rfl rfl h35 (ison_t _) rfl rfl hf (fun hg K1 hK1 => st_sub (z := x11.walks - x9.c) hsD ((Ev.tmp h44).un hg) ((Ev.tmp h46).un hg) rfl hf rfl (by have h1 := (hb.parts i x11 hx11).2; simp [within] at hg; omega) hK1) fun _ _ => hk _ _ _ _ ⟨rfl, rfl⟩
     · rintro T_ B_ a_ w_ K_ hT hB _ _ ⟨rfl, rfl⟩ h35 - _ _ ⟨rfl, rfl⟩ h37 - _ _ ⟨rfl, rfl⟩ h47 - hf hsD hk
       exact ob_gv hsD (gg := (((plan.zip b.parts).take i).all (fun q => okWalks q.2 q.1)) && (within x9.c 0 x11.walks)) (v := .bool (within x9.w 0 (x11.walks - x9.c))) rfl rfl rfl h35 (ison_t _) rfl rfl hf (fun hg K1 hK1 => st_callv (vs := [.int .i64 x9.w, .int .i64 0, .int .i64 (x11.walks - x9.c)]) hsD (.func _) ⟨((Ev.tmp h37).un hg), (.const _), ((Ev.tmp h47).un hg), trivial⟩ rfl hf call48 rfl (within_v x9.w 0 (x11.walks - x9.c) _) hK1) fun _ _ => hk _ _ _ _ ⟨rfl, rfl⟩
     · rintro T_ B_ a_ w_ K_ hT hB _ _ ⟨rfl, rfl⟩ h35 - _ _ ⟨rfl, rfl⟩ h48 - hf hsD hk
       exact ob rfl rfl (st_and hsD (gx := true) (gy := (((plan.zip b.parts).take i).all (fun q => okWalks q.2 q.1)) && (within x9.c 0 x11.walks)) (Ev.tmp h35) rfl (Ev.tmp h48) (fun h => h) rfl hf fun _ _ => hk _ _ _ _ ⟨rfl, rfl⟩)
     rintro _ _ ⟨rfl, rfl⟩ _ _ ⟨rfl, rfl⟩ _ _ ⟨rfl, rfl⟩ _ _ ⟨rfl, rfl⟩ _ _ ⟨rfl, rfl⟩ _ _ ⟨rfl, rfl⟩ _ _ ⟨rfl, rfl⟩ _ _ ⟨rfl, rfl⟩ _ _ ⟨rfl, rfl⟩ _ _ ⟨rfl, rfl⟩ _ _ ⟨rfl, rfl⟩ _ _ ⟨rfl, rfl⟩ _ _ ⟨rfl, rfl⟩ _ _ ⟨rfl, rfl⟩ _ _ ⟨rfl, rfl⟩ _ _ ⟨rfl, rfl⟩ _ _ ⟨rfl, rfl⟩ _ _ ⟨rfl, rfl⟩ _ _ ⟨rfl, rfl⟩ _ _ ⟨rfl, rfl⟩ _ _ ⟨rfl, rfl⟩ _ _ ⟨rfl, rfl⟩ _ _ ⟨rfl, rfl⟩ _ _ ⟨rfl, rfl⟩ _ _ ⟨rfl, rfl⟩ _ _ ⟨rfl, rfl⟩ _ _ ⟨rfl, rfl⟩ _ _ ⟨rfl, rfl⟩ a_29 w_29 hs29; clear hs28
     have hs30 := Sx.as (T' := [_, _, _, _, _, _, _, _, _, _, _, _, _, _, _, _, _, _, _, _, _, _, _, _, _, _, _, _, _, _, _, _, _, _, _, _]) (B' := [_, _]) rfl rfl hs29; clear hs29
     have hs31 := hs30.keep [0, 1, 2, 3, 4, 5, 6, 7, 8, 9, 10, 11, 12, 13, 14, 15, 16, 17, 18, 19, 20, 21, 22, 23, 24, 25, 26, 27, 28, 29, 30, 31, 32, 34, 35] [_, _, _, _, _, _, _, _, _, _, _, _, _, _, _, _, _, _, _, _, _, _, _, _, _, _, _, _, _, _, _, _, _, _, _] rfl; clear hs30
     refine sq rfl (st_assign hs31 (Ev.t 27 rfl) rfl rfl fun _ _ hs32 => ?_); clear hs31
     refine wpListIn_nil ?_
     have hs33 := hs32.keep [0, 31, 32, 33, 34, 35] [_, _, _, _, _, _] rfl; clear hs32
     refine in_norm ?_
     refine th_norm (hK13 _ _ ?_)
     refine cd_region1 ?_
     refine sq rfl (st_add (z := (i : Int) + 1) hs33 (Ev.t 1 rfl) (.const _) rfl rfl rfl (by omega) fun _ _ hs34 => ?_); clear hs33
     have hs35 := hs34.keep [0, 1, 3, 4, 5, 6] [_, _, _, _, _, _] rfl; clear hs34
     refine sq rfl (st_move hs35 (Ev.t 0 rfl) rfl rfl fun _ _ hs36 => ?_); clear hs35
     refine wpListIn_nil ?_
     have hs37 := hs36.keep [0, 2, 3, 4, 5, 6] [_, _, _, _, _, _] rfl; clear hs36
     refine ⟨i + 1, ⟨?_, ?_⟩, by omega⟩
     · first | omega | (simp; done) | (simp; omega)
     have hs38 : Sx 52 [] [(17, .int .i64 ((i : Int) + 1)), (5, .bool (((((plan.zip b.parts).take i).all (fun q => okWalks q.2 q.1)) && (within x9.c 0 x11.walks)) && (within x9.w 0 (x11.walks - x9.c)))), (16, .int .i64 (m : Int)), (15, .slice A2 m c2), (4, .bool false), (2, .pointer (some ⟨b2, 0, none⟩))] [(b2, some (.cells ⟨(bookL b A n cp)⟩ 75 (0, 0)))] [] w _ _ := Sx.blks hs37 ((List.Sublist.cons _ (List.Sublist.cons_cons _ List.Sublist.slnil)))
     exact Sx.keepE [0, 2, 3, 1, 4, 5] _ ⟨⟨_, rfl, rfl⟩, ⟨_, rfl, rfl⟩, ⟨_, rfl, rfl⟩, ⟨_, rfl, by rw [all_snoc (zip_at hx9 hx11)]; simp [okWalks, Bool.and_assoc]⟩, ⟨_, rfl, rfl⟩, ⟨_, rfl, rfl⟩, trivial⟩ hs38
   · refine cd_exit ?_
     refine th_exit ?_
     refine th_exit ?_
     refine in_hit ?_
     refine th_norm (hK4 _ _ ?_)
     refine cd_region fun K16 hK16 => ?_
     refine sq rfl (st_move hs20 (Ev.t 4 rfl) rfl rfl fun _ _ hs21 => ?_); clear hs20
     have hs22 := hs21.keep [0, 1, 2, 3, 4, 5, 7] [_, _, _, _, _, _, _] rfl; clear hs21
     refine sq rfl (st_assign hs22 (Ev.t 0 rfl) rfl rfl fun _ _ hs23 => ?_); clear hs22
     refine hK16 _ _ ?_; clear hK16
     have hs24 := hs23.keep [0] [_] rfl; clear hs23
     refine cd_retv (vs := [.bool (((plan.zip b.parts).take i).all (fun q => okWalks q.2 q.1))]) hs24 hQ0 rfl ⟨.tmp 0 rfl, trivial⟩ ?_
     clear hs24 hQ0 hN0
     show Value.bool _ = Value.bool _
     first | (rw [zip_all_take (by simp at *; omega)]; have e : plan.length = b.parts.length := (by omega); simp [Book.isPlan, e]; done) | (have e : plan.length ≠ b.parts.length := (by omega); simp [Book.isPlan, e])
 · skip
   have hl1 := hL.len; have hl2 := hP.len
   have hs13 := Sx.keepE [0, 1, 2, 3] [(5, .bool false), (4, _), (2, _), (1, _)] ⟨⟨_, rfl, by simp [hlen]⟩, ⟨_, rfl, rfl⟩, ⟨_, rfl, rfl⟩, ⟨_, rfl, rfl⟩, trivial⟩ hs12; clear hs12
   refine cd_seq fun K17 hK17 => ?_
   refine cd_region fun K18 hK18 => ?_
   refine sq rfl (st_move hs13 (Ev.t 3 rfl) rfl rfl fun _ _ hs14 => ?_); clear hs13
   refine sq rfl (st_len hs14 (Ev.t 0 rfl) rfl rfl runUnderlying28 fun _ _ hs15 => ?_); clear hs14
   refine sq rfl (st_move hs15 (.const _) rfl rfl fun _ _ hs16 => ?_); clear hs15
   refine hK18 _ _ ?_; clear hK18
   have hs17 := hs16.keep [0, 1, 2, 3, 4, 5] [_, _, _, _, _, _] rfl; clear hs16
   refine cd_block ?_
   have hs18 : Sx 52 [] [(17, .int .i64 (0 : Int)), (16, .int .i64 (m : Int)), (15, .slice A2 m c2), (5, .bool false), (4, .bool false), (2, .pointer (some ⟨b2, 0, none⟩))] [(b2, some (.cells ⟨(bookL b A n cp)⟩ 75 (0, 0)))] [] w _ _ := Sx.keepE [0, 1, 2, 3, 4, 5] _ ⟨⟨_, rfl, rfl⟩, ⟨_, rfl, rfl⟩, ⟨_, rfl, rfl⟩, ⟨_, rfl, rfl⟩, ⟨_, rfl, rfl⟩, ⟨_, rfl, rfl⟩, trivial⟩ hs17; clear hs17
   refine cd_loop (X := Nat) (fun i a_ w_ => (i ≤ m) ∧ Sx 52 [] [(17, .int .i64 (i : Int)), (16, .int .i64 (m : Int)), (15, .slice A2 m c2), (5, .bool false), (4, .bool false), (2, .pointer (some ⟨b2, 0, none⟩))] [(b2, some (.cells ⟨(bookL b A n cp)⟩ 75 (0, 0)))] [] w a_ w_) (fun i => m - i) (0) ⟨?_, hs18⟩ ?_
   · first | omega | simp
   intro i a_19 w_19 ⟨hi, hs19⟩; clear hs18
   refine cd_region fun K19 hK19 => ?_
   refine sq rfl (st_cmp (c := decide (((i : Int) : Int) < (m : Int))) hs19 (Ev.t 0 rfl) (Ev.t 1 rfl) rfl rfl rfl rfl fun _ _ hs20 => ?_); clear hs19
   refine hK19 _ _ ?_; clear hK19
   refine cd_seq fun K20 hK20 => ?_
   refine cd_cond hs20 (Ev.t 0 rfl) (fun hc21 => ?_) (fun hc21 => ?_)
   · simp only [decide_eq_true_eq] at hc21
     obtain ⟨x22, hx22⟩ : ∃ x, plan[i]? = some x := ⟨_, List.getElem?_eq_getElem (by have := hL.len; omega)⟩
     obtain ⟨b23, o23, hA23, -, hc23⟩ := hL.el i x22 hx22
     refine cd_skip ?_
     refine th_norm (hK20 _ _ ?_)
     refine cd_seq fun K24 hK24 => ?_
     refine cd_block ?_
     refine cd_region fun K25 hK25 => ?_
     refine sq rfl (st_move hs20 (Ev.t 1 rfl) rfl rfl fun _ _ hs21 => ?_); clear hs20
     refine sq rfl (st_indexM (o' := o23 + i * 2) hs21 (Ev.t 4 rfl) (Ev.t 2 rfl) rfl rfl hA23 runUnderlying28 sizeOf64 ⟨by omega, by have := hL.len; have := (List.getElem?_eq_some_iff.1 hx22).1; omega⟩ rfl fun _ _ hs22 => ?_); clear hs21
     refine sq rfl (st_loadA (o := o23 + i * 2) (off := 0) (vs := (walksL x22)) hs22 (Ev.t 0 rfl) rfl rfl isAgg64 sizeOf64 (hs22.old hc23 (by simp)) rfl fun _ _ hs23 => ?_); clear hs22
     refine sq rfl (st_alloc hs23 rfl rfl zeroValue64 rfl fun b26 _ _ hs24 => ?_); clear hs23
     refine sq rfl (st_assign hs24 (Ev.t 3 rfl) rfl rfl fun _ _ hs25 => ?_); clear hs24
     refine sq rfl (st_store (l' := (walksL x22)) (vs := (walksL x22)) (i := 0) hs25 (Ev.t 1 rfl) (Ev.t 2 rfl) sizeOf64 rfl rfl rfl rfl rfl rfl fun _ _ hs26 => ?_); clear hs25
     have hs27 := hs26.asB [_, _] rfl; clear hs26
     refine hK25 _ _ ?_; clear hK25
     have hs28 := hs27.keep [0, 1, 6, 7, 8, 9, 10, 11] [_, _, _, _, _, _, _, _] rfl; clear hs27
     refine cd_drawn1 mixed hs28 [⟨22, [], Is (.bool false)⟩, ⟨23, [0], Is (.bool false)⟩, ⟨24, [1], Is (undef)⟩, ⟨25, [1, 2], Is (undef)⟩, ⟨26, [1], Is (undef)⟩, ⟨27, [1, 4], Is (undef)⟩, ⟨28, [1, 5], Is (undef)⟩, ⟨29, [1], Is (undef)⟩, ⟨30, [1, 6, 7], Is (undef)⟩, ⟨31, [1, 8], Is (undef)⟩, ⟨32, [1, 9], Is (undef)⟩, ⟨33, [1, 3, 10], Is (undef)⟩, ⟨34, [1, 11], Is (.bool false)⟩, ⟨35, [12], Is (.bool false)⟩, ⟨36, [13], Is (undef)⟩, ⟨37, [13, 14], Is (undef)⟩, ⟨38, [13], Is (undef)⟩, ⟨39, [13, 16], Is (undef)⟩, ⟨40, [13, 17], Is (undef)⟩, ⟨41, [13], Is (undef)⟩, ⟨42, [13, 18, 19], Is (undef)⟩, ⟨43, [13, 20], Is (undef)⟩, ⟨44, [13, 21], Is (undef)⟩, ⟨45, [13], Is (undef)⟩, ⟨46, [13, 23], Is (undef)⟩, ⟨47, [13, 22, 24], Is (undef)⟩, ⟨48, [13, 15, 25], Is (undef)⟩, ⟨49, [13, 26], Is (.bool false)⟩] (by kernel_rfl) (by kernel_rfl) ⟨⟨?_, ?_, ?_, ?_, ?_, ?_, ?_, ?_, ?_, ?_, ?_, ?_, ?_, ?_, ?_, ?_, ?_, ?_, ?_, ?_, ?_, ?_, ?_, ?_, ?_, ?_, ?_, ?_, trivial⟩, ?_⟩
     · rintro T_ B_ a_ w_ K_ hT hB hf hsD hk
       exact ob rfl rfl (st_move hsD (evT hT 5 rfl) rfl hf fun _ _ => hk _ _ _ _ ⟨rfl, rfl⟩)
     · rintro T_ B_ a_ w_ K_ hT hB _ _ ⟨rfl, rfl⟩ h22 - hf hsD hk
       exact ob rfl rfl (st_move hsD (Ev.tmp h22) rfl hf fun _ _ => hk _ _ _ _ ⟨rfl, rfl⟩)
     · rintro T_ B_ a_ w_ K_ hT hB _ _ ⟨rfl, rfl⟩ h23 - hf hsD hk
       exact ob_gv hsD (gg := false) (v := undef) rfl rfl rfl h23 rfl rfl rfl hf (fun h => absurd h (by decide)) fun _ _ => hk _ _ _ _ ⟨rfl, rfl⟩
     · rintro T_ B_ a_ w_ K_ hT hB _ _ ⟨rfl, rfl⟩ h23 - _ _ ⟨rfl, rfl⟩ h24 - hf hsD hk
       exact ob_gv hsD (gg := false) (v := undef) rfl rfl rfl h23 rfl rfl rfl hf (fun h => absurd h (by decide)) fun _ _ => hk _ _ _ _ ⟨rfl, rfl⟩
     · rintro T_ B_ a_ w_ K_ hT hB _ _ ⟨rfl, rfl⟩ h23 - hf hsD hk
       exact ob_gv hsD (gg := false) (v := undef) rfl rfl rfl h23 rfl rfl rfl hf (fun h => absurd h (by decide)) fun _ _ => hk _ _ _ _ ⟨rfl, rfl⟩
     · rintro T_ B_ a_ w_ K_ hT hB _ _ ⟨rfl, rfl⟩ h23 - _ _ ⟨rfl, rfl⟩ h26 - hf hsD hk
       exact ob_gv hsD (gg := false) (v := undef) rfl rfl rfl h23 rfl rfl rfl hf (fun h => absurd h (by decide)) fun _ _ => hk _ _ _ _ ⟨rfl, rfl⟩
     · rintro T_ B_ a_ w_ K_ hT hB _ _ ⟨rfl, rfl⟩ h23 - _ _ ⟨rfl, rfl⟩ h27 - hf hsD hk
       exact ob_gv hsD (gg := false) (v := undef) rfl rfl rfl h23 rfl rfl rfl hf (fun h => absurd h (by decide)) fun _ _ => hk _ _ _ _ ⟨rfl, rfl⟩
     · rintro T_ B_ a_ w_ K_ hT hB _ _ ⟨rfl, rfl⟩ h23 - hf hsD hk
       exact ob_gv hsD (gg := false) (v := undef) rfl rfl rfl h23 rfl rfl rfl hf (fun h => absurd h (by decide)) fun _ _ => hk _ _ _ _ ⟨rfl, rfl⟩
     · rintro T_ B_ a_ w_ K_ hT hB _ _ ⟨rfl, rfl⟩ h23 - _ _ ⟨rfl, rfl⟩ h28 - _ _ ⟨rfl, rfl⟩ h29 - hf hsD hk
       exact ob_gv hsD (gg := false) (v := undef) rfl rfl rfl h23 rfl rfl rfl hf (fun h => absurd h (by decide)) fun _ _ => hk _ _ _ _ ⟨rfl, rfl⟩
     · rintro T_ B_ a_ w_ K_ hT hB _ _ ⟨rfl, rfl⟩ h23 - _ _ ⟨rfl, rfl⟩ h30 - hf hsD hk
       exact ob_gv hsD (gg := false) (v := undef) rfl rfl rfl h23 rfl rfl rfl hf (fun h => absurd h (by decide)) fun _ _ => hk _ _ _ _ ⟨rfl, rfl⟩
     · rintro T_ B_ a_ w_ K_ hT hB _ _ ⟨rfl, rfl⟩ h23 - _ _ ⟨rfl, rfl⟩ h31 - hf hsD hk
       exact ob_gv hsD (gg := false) (v := undef) rfl rfl rfl h23 rfl rfl rfl hf (fun h => absurd h (by decide)) fun _ _ => hk _ _ _ _ ⟨rfl, rfl⟩
     · rintro T_ B_ a_ w_ K_ hT hB _ _ ⟨rfl, rfl⟩ h23 - _ _ ⟨rfl, rfl⟩ h25 - _ _ ⟨rfl, rfl⟩ h32 - hf hsD hk
       exact ob_gv hsD (gg := false) (v := undef) rfl rfl rfl h23 rfl rfl rfl hf (fun h => absurd h (by decide)) fun _ _ => hk _ _ _ _ ⟨rfl, rfl⟩
     · rintro T_ B_ a_ w_ K_ hT hB _ _ ⟨rfl, rfl⟩ h23 - _ _ ⟨rfl, rfl⟩ h33 - hf hsD hk
       exact ob rfl rfl (st_pick hsD (Ev.tmp h23) rfl hf (fun h => by cases h) (fun h => (.const _)) fun _ _ => hk _ _ _ _ ⟨rfl, rfl⟩)
     · rintro T_ B_ a_ w_ K_ hT hB _ _ ⟨rfl, rfl⟩ h34 - hf hsD hk
       exact ob rfl rfl (st_move hsD (Ev.tmp h34) rfl hf fun _ _ => hk _ _ _ _ ⟨rfl, rfl⟩)
     · rintro T_ B_ a_ w_ K_ hT hB _ _ ⟨rfl, rfl⟩ h35 - hf hsD hk
       exact ob_gv hsD (gg := false) (v := undef) rfl rfl rfl h35 rfl rfl rfl hf (fun h => absurd h (by decide)) fun _ _ => hk _ _ _ _ ⟨rfl, rfl⟩
     · rintro T_ B_ a_ w_ K_ hT hB _ _ ⟨rfl, rfl⟩ h35 - _ _ ⟨rfl, rfl⟩ h36 - hf hsD hk
       exact ob_gv hsD (gg := false) (v := undef) rfl rfl rfl h35 rfl rfl rfl hf (fun h => absurd h (by decide)) fun _ _ => hk _ _ _ _ ⟨rfl, rfl⟩
     · rintro T_ B_ a_ w_ K_ hT hB _ _ ⟨rfl, rfl⟩ h35 - hf hsD hk
       exact ob_gv hsD (gg := false) (v := undef) rfl rfl rfl h35 rfl rfl rfl hf (fun h => absurd h (by decide)) fun _ _ => hk _ _ _ _ ⟨rfl, rfl⟩
     · rintro T_ B_ a_ w_ K_ hT hB _ _ ⟨rfl, rfl⟩ h35 - _ _ ⟨rfl, rfl⟩ h38 - hf hsD hk
       exact ob_gv hsD (gg := false) (v := undef) rfl rfl rfl h35 rfl rfl rfl hf (fun h => absurd h (by decide)) fun _ _ => hk _ _ _ _ ⟨rfl, rfl⟩
     · rintro T_ B_ a_ w_ K_ hT hB _ _ ⟨rfl, rfl⟩ h35 - _ _ ⟨rfl, rfl⟩ h39 - hf hsD hk
       exact ob_gv hsD (gg := false) (v := undef) rfl rfl rfl h35 rfl rfl rfl hf (fun h => absurd h (by decide)) fun _ _ => hk _ _ _ _ ⟨rfl, rfl⟩
     · rintro T_ B_ a_ w_ K_ hT hB _ _ ⟨rfl, rfl⟩ h35 - hf hsD hk
       exact ob_gv hsD (gg := false) (v := undef) rfl rfl rfl h35 rfl rfl rfl hf (fun h => absurd h (by decide)) fun _ _ => hk _ _ _ _ ⟨rfl, rfl⟩
     · rintro T_ B_ a_ w_ K_ hT hB _ _ ⟨rfl, rfl⟩ h35 - _ _ ⟨rfl, rfl⟩ h40 - _ _ ⟨rfl, rfl⟩ h41 - hf hsD hk
       exact ob_gv hsD (gg := false) (v := undef) rfl rfl rfl h35 rfl rfl rfl hf (fun h => absurd h (by decide)) fun _ _ => hk _ _ _ _ ⟨rfl, rfl⟩
     · rintro T_ B_ a_ w_ K_ hT hB _ _ ⟨rfl, rfl⟩ h35 - _ _ ⟨rfl, rfl⟩ h42 - hf hsD hk
       exact ob_gv hsD (gg := false) (v := undef) rfl rfl rfl h35 rfl rfl rfl hf (fun h => absurd h (by decide)) fun _ _ => hk _ _ _ _ ⟨rfl, rfl⟩
     · rintro T_ B_ a_ w_ K_ hT hB _ _ ⟨rfl, rfl⟩ h35 - _ _ ⟨rfl, rfl⟩ h43 - hf hsD hk
       exact ob_gv hsD (gg := false) (v := undef) rfl rfl rfl h35 rfl rfl rfl hf (fun h => absurd h (by decide)) fun _ _ => hk _ _ _ _ ⟨rfl, rfl⟩
     · rintro T_ B_ a_ w_ K_ hT hB _ _ ⟨rfl, rfl⟩ h35 - hf hsD hk
       exact ob_gv hsD (gg := false) (v := undef) rfl rfl rfl h35 rfl rfl rfl hf (fun h => absurd h (by decide)) fun _ _ => hk _ _ _ _ ⟨rfl, rfl⟩
     · rintro T_ B_ a_ w_ K_ hT hB _ _ ⟨rfl, rfl⟩ h35 - _ _ ⟨rfl, rfl⟩ h45 - hf hsD hk
       exact ob_gv hsD (gg := false) (v := undef) rfl rfl rfl h35 rfl rfl rfl hf (fun h => absurd h (by decide)) fun _ _ => hk _ _ _ _ ⟨rfl, rfl⟩
     · rintro T_ B_ a_ w_ K_ hT hB _ _ ⟨rfl, rfl⟩ h35 - _ _ ⟨rfl, rfl⟩ h44 - _ _ ⟨rfl, rfl⟩ h46 - hf hsD hk
       exact ob_gv hsD (gg := false) (v := undef) rfl rfl rfl h35 rfl rfl rfl hf (fun h => absurd h (by decide)) fun _ _ => hk _ _ _ _ ⟨rfl, rfl⟩
     · rintro T_ B_ a_ w_ K_ hT hB _ _ ⟨rfl, rfl⟩ h35 - _ _ ⟨rfl, rfl⟩ h37 - _ _ ⟨rfl, rfl⟩ h47 - hf hsD hk
       exact ob_gv hsD (gg := false) (v := undef) rfl rfl rfl h35 rfl rfl rfl hf (fun h => absurd h (by decide)) fun _ _ => hk _ _ _ _ ⟨rfl, rfl⟩
     · rintro T_ B_ a_ w_ K_ hT hB _ _ ⟨rfl, rfl⟩ h35 - _ _ ⟨rfl, rfl⟩ h48 - hf hsD hk
       exact ob rfl rfl (st_pick hsD (Ev.tmp h35) rfl hf (fun h => by cases h) (fun h => (.const _)) fun _ _ => hk _ _ _ _ ⟨rfl, rfl⟩)
     rintro _ _ ⟨rfl, rfl⟩ _ _ ⟨rfl, rfl⟩ _ _ ⟨rfl, rfl⟩ _ _ ⟨rfl, rfl⟩ _ _ ⟨rfl, rfl⟩ _ _ ⟨rfl, rfl⟩ _ _ ⟨rfl, rfl⟩ _ _ ⟨rfl, rfl⟩ _ _ ⟨rfl, rfl⟩ _ _ ⟨rfl, rfl⟩ _ _ ⟨rfl, rfl⟩ _ _ ⟨rfl, rfl⟩ _ _ ⟨rfl, rfl⟩ _ _ ⟨rfl, rfl⟩ _ _ ⟨rfl, rfl⟩ _ _ ⟨rfl, rfl⟩ _ _ ⟨rfl, rfl⟩ _ _ ⟨rfl, rfl⟩ _ _ ⟨rfl, rfl⟩ _ _ ⟨rfl, rfl⟩ _ _ ⟨rfl, rfl⟩ _ _ ⟨rfl, rfl⟩ _ _ ⟨rfl, rfl⟩ _ _ ⟨rfl, rfl⟩ _ _ ⟨rfl, rfl⟩ _ _ ⟨rfl, rfl⟩ _ _ ⟨rfl, rfl⟩ _ _ ⟨rfl, rfl⟩ a_29 w_29 hs29; clear hs28
     have hs30 := Sx.as (T' := [_, _, _, _, _, _, _, _, _, _, _, _, _, _, _, _, _, _, _, _, _, _, _, _, _, _, _, _, _, _, _, _, _, _, _, _]) (B' := [_, _]) rfl rfl hs29; clear hs29
     have hs31 := hs30.keep [0, 1, 2, 3, 4, 5, 6, 7, 8, 9, 10, 11, 12, 13, 14, 15, 16, 17, 18, 19, 20, 21, 22, 23, 24, 25, 26, 27, 28, 29, 30, 31, 32, 34, 35] [_, _, _, _, _, _, _, _, _, _, _, _, _, _, _, _, _, _, _, _, _, _, _, _, _, _, _, _, _, _, _, _, _, _, _] rfl; clear hs30
     refine sq rfl (st_assign hs31 (Ev.t 27 rfl) rfl rfl fun _ _ hs32 => ?_); clear hs31
     refine wpListIn_nil ?_
     have hs33 := hs32.keep [0, 31, 32, 33, 34, 35] [_, _, _, _, _, _] rfl; clear hs32
     refine in_norm ?_
     refine th_norm (hK24 _ _ ?_)
     refine cd_region1 ?_
     refine sq rfl (st_add (z := (i : Int) + 1) hs33 (Ev.t 1 rfl) (.const _) rfl rfl rfl (by omega) fun _ _ hs34 => ?_); clear hs33
     have hs35 := hs34.keep [0, 1, 3, 4, 5, 6] [_, _, _, _, _, _] rfl; clear hs34
     refine sq rfl (st_move hs35 (Ev.t 0 rfl) rfl rfl fun _ _ hs36 => ?_); clear hs35
     refine wpListIn_nil ?_
     have hs37 := hs36.keep [0, 2, 3, 4, 5, 6] [_, _, _, _, _, _] rfl; clear hs36
     refine ⟨i + 1, ⟨?_, ?_⟩, by omega⟩
     · first | omega | (simp; done) | (simp; omega)
     have hs38 : Sx 52 [] [(17, .int .i64 ((i : Int) + 1)), (5, .bool false), (16, .int .i64 (m : Int)), (15, .slice A2 m c2), (4, .bool false), (2, .pointer (some ⟨b2, 0, none⟩))] [(b2, some (.cells ⟨(bookL b A n cp)⟩ 75 (0, 0)))] [] w _ _ := Sx.blks hs37 ((List.Sublist.cons _ (List.Sublist.cons_cons _ List.Sublist.slnil)))
     exact Sx.keepE [0, 2, 3, 1, 4, 5] _ ⟨⟨_, rfl, rfl⟩, ⟨_, rfl, rfl⟩, ⟨_, rfl, rfl⟩, ⟨_, rfl, rfl⟩, ⟨_, rfl, rfl⟩, ⟨_, rfl, rfl⟩, trivial⟩ hs38
   · refine cd_exit ?_
     refine th_exit ?_
     refine th_exit ?_
     refine in_hit ?_
     refine th_norm (hK17 _ _ ?_)
     refine cd_region fun K27 hK27 => ?_
     refine sq rfl (st_move hs20 (Ev.t 4 rfl) rfl rfl fun _ _ hs21 => ?_); clear hs20
     have hs22 := hs21.keep [0, 1, 2, 3, 4, 5, 7] [_, _, _, _, _, _, _] rfl; clear hs21
     refine sq rfl (st_assign hs22 (Ev.t 0 rfl) rfl rfl fun _ _ hs23 => ?_); clear hs22
     refine hK27 _ _ ?_; clear hK27
     have hs24 := hs23.keep [0] [_] rfl; clear hs23
     refine cd_retv (vs := [.bool false]) hs24 hQ0 rfl ⟨.tmp 0 rfl, trivial⟩ ?_
     clear hs24 hQ0 hN0
     show Value.bool _ = Value.bool _
     first | (rw [zip_all_take (by simp at *; omega)]; have e : plan.length = b.parts.length := (by omega); simp [Book.isPlan, e]; done) | (have e : plan.length ≠ b.parts.length := (by omega); simp [Book.isPlan, e])

theorem fails_v (b : Book) (A : Option Addr) (n cp : Nat) (A2 : Option Addr) (m c2 : Nat) (plan : List Walks) (w : World) (hP : PartsAt w A n b.parts) (hn : n ≤ 140737488351232) (hL : PlanAt w A2 m plan) (hm : m ≤ 140737488351232) (hG : CellsAt w 0 0 stuffsL) (hb : Bd b) (hpl : b.isPlan plan = true) :
    CallsV Tryd.prog 59 [.agg ⟨(bookL b A n cp)⟩, .slice A2 m c2] w (.int .i64 (b.failsI plan)) := by
 have hlen := isPlan_len hpl
 have hl1 := hL.len
 have hl2 := hP.len
 refine enter (N := 30) (M := []) w func59 rfl rfl rfl (fun Q0 a_0 hQ0 hN0 hs0 => ?_)
 refine cd_region fun K1 hK1 => ?_
 refine sq rfl (st_box hs0 (Ev.t 0 rfl) rfl rfl rfl fun b2 _ _ hs1 => ?_); clear hs0
 refine sq rfl (st_assign hs1 (.const _) rfl rfl fun _ _ hs2 => ?_); clear hs1
 refine hK1 _ _ ?_; clear hK1
 have hs3 := hs2.keep [0, 1, 3] [_, _, _] rfl; clear hs2
 refine cd_drawn mixed hs3 [⟨8, [], Is (.agg ⟨(bookL b A n cp)⟩)⟩, ⟨9, [], Is (.agg ⟨[.func (.func 81) ⟨[]⟩ ⟨[]⟩]⟩)⟩, ⟨10, [0, 1], Is (.agg ⟨[.int .i64 b.coal.lo, .int .i64 b.water.lo]⟩)⟩, ⟨5, [], fun v_ bs_ => ∃ b4, v_ = .pointer (some ⟨b4, 0, none⟩) ∧ bs_ = [(b4, some (.cells ⟨[.int .i64 0, .int .i64 0]⟩ 103 (0, 0)))]⟩] (by kernel_rfl) (by kernel_rfl) fun K3 hK3 => ⟨⟨?_, ?_, ?_, ?_, trivial⟩, ?_⟩
 · rintro T_ B_ a_ w_ K_ hT hB hf hsD hk
   exact ob rfl rfl (st_loadA (o := 0) (off := 0) (vs := (bookL b A n cp)) hsD (evT hT 1 rfl) rfl hf isAgg75 sizeOf75 (hsD.cellsM (inB hB 0 rfl)) rfl fun _ _ => hk _ _ _ _ ⟨rfl, rfl⟩)
 · rintro T_ B_ a_ w_ K_ hT hB hf hsD hk
   exact ob rfl rfl (st_callv (vs := []) hsD (.func _) trivial rfl hf call72 rfl (low_v  _) fun _ _ => hk _ _ _ _ ⟨rfl, rfl⟩)
 · rintro T_ B_ a_ w_ K_ hT hB _ _ ⟨rfl, rfl⟩ h8 - _ _ ⟨rfl, rfl⟩ h9 - hf hsD hk
   exact ob rfl rfl (st_callv (vs := [.agg ⟨(bookL b A n cp)⟩, .agg ⟨[.func (.func 81) ⟨[]⟩ ⟨[]⟩]⟩]) hsD (.func _) ⟨(Ev.tmp h8), (Ev.tmp h9), trivial⟩ rfl hf call71 rfl (at0_v b A n cp _) fun _ _ => hk _ _ _ _ ⟨rfl, rfl⟩)
 · rintro T_ B_ a_ w_ K_ hT hB hf hsD hk
   exact ob rfl rfl (st_alloc hsD rfl hf zeroValue103 rfl fun b4 _ _ => hk _ _ _ _ ⟨b4, rfl, rfl⟩)
 rintro _ _ ⟨rfl, rfl⟩ _ _ ⟨rfl, rfl⟩ _ _ ⟨rfl, rfl⟩ _ _ ⟨b4, rfl, rfl⟩ a_4 w_4 hs4; clear hs3
 have hs5 := Sx.as (T' := [_, _, _, _, _, _, _]) (B' := [_, _]) rfl rfl hs4; clear hs4
 refine sq rfl (st_store (l' := [.int .i64 b.coal.lo, .int .i64 b.water.lo]) (vs := [.int .i64 b.coal.lo, .int .i64 b.water.lo]) (i := 0) hs5 (Ev.t 3 rfl) (Ev.t 2 rfl) sizeOf103 rfl rfl rfl rfl rfl rfl fun _ _ hs6 => ?_); clear hs5
 have hs7 := hs6.asB [_, _] rfl; clear hs6
 refine hK3 _ _ ?_; clear hK3
 have hs8 := hs7.keep [3, 4, 5, 6] [_, _, _, _] rfl; clear hs7
 refine cd_seq fun K5 hK5 => ?_
 refine cd_region fun K6 hK6 => ?_
 refine sq rfl (st_move hs8 (Ev.t 3 rfl) rfl rfl fun _ _ hs9 => ?_); clear hs8
 refine sq rfl (st_len hs9 (Ev.t 0 rfl) rfl rfl runUnderlying28 fun _ _ hs10 => ?_); clear hs9
 refine sq rfl (st_move hs10 (.const _) rfl rfl fun _ _ hs11 => ?_); clear hs10
 refine hK6 _ _ ?_; clear hK6
 have hs12 := hs11.keep [0, 1, 2, 3, 4, 5] [_, _, _, _, _, _] rfl; clear hs11
 refine cd_block ?_
 have hs13 : Sx 30 [] [(13, .int .i64 (0 : Int)), (12, .int .i64 (m : Int)), (11, .slice A2 m c2), (5, .pointer (some ⟨b4, 0, none⟩)), (4, .int .i64 0), (2, .pointer (some ⟨b2, 0, none⟩))] [(b4, some (.cells ⟨[.int .i64 ((b.run false plan 0).1), .int .i64 ((b.run false plan 0).2)]⟩ 103 (0, 0))), (b2, some (.cells ⟨(bookL b A n cp)⟩ 75 (0, 0)))] [] w _ _ := Sx.keepE [0, 1, 2, 3, 4, 5] _ ⟨⟨_, rfl, rfl⟩, ⟨_, rfl, rfl⟩, ⟨_, rfl, rfl⟩, ⟨_, rfl, rfl⟩, ⟨_, rfl, rfl⟩, ⟨_, rfl, rfl⟩, trivial⟩ hs12; clear hs12
 refine cd_loop (X := Nat) (fun i a_ w_ => (i ≤ m) ∧ (b.failsI plan = first (b.mayAt plan) (m - i) i) ∧ Sx 30 [] [(13, .int .i64 (i : Int)), (12, .int .i64 (m : Int)), (11, .slice A2 m c2), (5, .pointer (some ⟨b4, 0, none⟩)), (4, .int .i64 0), (2, .pointer (some ⟨b2, 0, none⟩))] [(b4, some (.cells ⟨[.int .i64 ((b.run false plan i).1), .int .i64 ((b.run false plan i).2)]⟩ 103 (0, 0))), (b2, some (.cells ⟨(bookL b A n cp)⟩ 75 (0, 0)))] [] w a_ w_) (fun i => m - i) (0) ⟨?_, ?_, hs13⟩ ?_
 · first | omega | simp
 · rw [Book.failsI, hl1]; rfl
 intro i a_14 w_14 ⟨hi, hf, hs14⟩; clear hs13
 refine cd_region fun K7 hK7 => ?_
 refine sq rfl (st_cmp (c := decide (((i : Int) : Int) < (m : Int))) hs14 (Ev.t 0 rfl) (Ev.t 1 rfl) rfl rfl rfl rfl fun _ _ hs15 => ?_); clear hs14
 refine hK7 _ _ ?_; clear hK7
 refine cd_seq fun K8 hK8 => ?_
 refine cd_cond hs15 (Ev.t 0 rfl) (fun hc9 => ?_) (fun hc9 => ?_)
 · simp only [decide_eq_true_eq] at hc9
   have hil : i < b.parts.length := by omega
   obtain ⟨x10, hx10⟩ : ∃ x, plan[i]? = some x := ⟨_, List.getElem?_eq_getElem (by have := hL.len; omega)⟩
   obtain ⟨b11, o11, hA11, -, hc11⟩ := hL.el i x10 hx10
   obtain ⟨x12, hx12⟩ : ∃ x, b.parts[i]? = some x := ⟨_, List.getElem?_eq_getElem (by have := hP.len; omega)⟩
   obtain ⟨b13, o13, hA13, -, hc13⟩ := hP.el i x12 hx12
   refine cd_skip ?_
   refine th_norm (hK8 _ _ ?_)
   refine cd_seq fun K14 hK14 => ?_
   refine cd_block ?_
   refine cd_region fun K15 hK15 => ?_
   refine sq rfl (st_move hs15 (Ev.t 1 rfl) rfl rfl fun _ _ hs16 => ?_); clear hs15
   refine sq rfl (st_indexM (o' := o11 + i * 2) hs16 (Ev.t 4 rfl) (Ev.t 2 rfl) rfl rfl hA11 runUnderlying28 sizeOf64 ⟨by omega, by have := hL.len; have := (List.getElem?_eq_some_iff.1 hx10).1; omega⟩ rfl fun _ _ hs17 => ?_); clear hs16
   refine sq rfl (st_loadA (o := o11 + i * 2) (off := 0) (vs := (walksL x10)) hs17 (Ev.t 0 rfl) rfl rfl isAgg64 sizeOf64 (hs17.old hc11 (by simp)) rfl fun _ _ hs18 => ?_); clear hs17
   refine sq rfl (st_alloc hs18 rfl rfl zeroValue64 rfl fun b16 _ _ hs19 => ?_); clear hs18
   refine sq rfl (st_assign hs19 (Ev.t 3 rfl) rfl rfl fun _ _ hs20 => ?_); clear hs19
   refine sq rfl (st_store (l' := (walksL x10)) (vs := (walksL x10)) (i := 0) hs20 (Ev.t 1 rfl) (Ev.t 2 rfl) sizeOf64 rfl rfl rfl rfl rfl rfl fun _ _ hs21 => ?_); clear hs20
   have hs22 := hs21.asB [_, _, _] rfl; clear hs21
   refine hK15 _ _ ?_; clear hK15
   have hs23 := hs22.keep [0, 1, 6, 7, 8, 9, 10, 11] [_, _, _, _, _, _, _, _] rfl; clear hs22
   refine cd_drawn mixed hs23 [⟨18, [], Is (.agg ⟨(bookL b A n cp)⟩)⟩, ⟨19, [], Is (.int .i64 (i : Int))⟩, ⟨20, [], Is (.agg ⟨[.int .i64 ((b.run false plan i).1), .int .i64 ((b.run false plan i).2)]⟩)⟩, ⟨21, [], Is (.agg ⟨(walksL x10)⟩)⟩, ⟨22, [], Is (.agg ⟨[.func (.func 81) ⟨[]⟩ ⟨[]⟩]⟩)⟩] (by kernel_rfl) (by kernel_rfl) fun K17 hK17 => ⟨⟨?_, ?_, ?_, ?_, ?_, trivial⟩, ?_⟩
   · rintro T_ B_ a_ w_ K_ hT hB hf hsD hk
     exact ob rfl rfl (st_loadA (o := 0) (off := 0) (vs := (bookL b A n cp)) hsD (evT hT 7 rfl) rfl hf isAgg75 sizeOf75 (hsD.cellsM (inB hB 2 rfl)) rfl fun _ _ => hk _ _ _ _ ⟨rfl, rfl⟩)
   · rintro T_ B_ a_ w_ K_ hT hB hf hsD hk
     exact ob rfl rfl (st_move hsD (evT hT 0 rfl) rfl hf fun _ _ => hk _ _ _ _ ⟨rfl, rfl⟩)
   · rintro T_ B_ a_ w_ K_ hT hB hf hsD hk
     exact ob rfl rfl (st_loadA (o := 0) (off := 0) (vs := [.int .i64 ((b.run false plan i).1), .int .i64 ((b.run false plan i).2)]) hsD (evT hT 5 rfl) rfl hf isAgg103 sizeOf103 (hsD.cellsM (inB hB 1 rfl)) rfl fun _ _ => hk _ _ _ _ ⟨rfl, rfl⟩)
   · rintro T_ B_ a_ w_ K_ hT hB hf hsD hk
     exact ob rfl rfl (st_loadA (o := 0) (off := 0) (vs := (walksL x10)) hsD (evT hT 1 rfl) rfl hf isAgg64 sizeOf64 (hsD.cellsM (inB hB 0 rfl)) rfl fun _ _ => hk _ _ _ _ ⟨rfl, rfl⟩)
   · rintro T_ B_ a_ w_ K_ hT hB hf hsD hk
     exact ob rfl rfl (st_callv (vs := []) hsD (.func _) trivial rfl hf call72 rfl (low_v  _) fun _ _ => hk _ _ _ _ ⟨rfl, rfl⟩)
   rintro _ _ ⟨rfl, rfl⟩ _ _ ⟨rfl, rfl⟩ _ _ ⟨rfl, rfl⟩ _ _ ⟨rfl, rfl⟩ _ _ ⟨rfl, rfl⟩ a_24 w_24 hs24; clear hs23
   have hs25 := Sx.as (T' := [_, _, _, _, _, _, _, _, _, _, _, _, _]) (B' := [_, _, _]) rfl rfl hs24; clear hs24
   refine sq rfl (st_callv (vs := [.agg ⟨(bookL b A n cp)⟩, .int .i64 (i : Int), .agg ⟨[.int .i64 ((b.run false plan i).1), .int .i64 ((b.run false plan i).2)]⟩, .agg ⟨(walksL x10)⟩, .agg ⟨[.func (.func 81) ⟨[]⟩ ⟨[]⟩]⟩]) hs25 (.func _) ⟨(Ev.t 0 rfl), (Ev.t 1 rfl), (Ev.t 2 rfl), (Ev.t 3 rfl), (Ev.t 4 rfl), trivial⟩ rfl rfl call74 rfl (after0_v b A n cp i x12 hx12 x10 ((b.run false plan i).1) ((b.run false plan i).2) _ (hP.kp hs25.kp) hn (hG.kp hs25.kp (by simp)) hb (isPlan_bd hb hpl hx12 hx10) (run_cb hb hpl false (Nat.le_of_lt (List.getElem?_eq_some_iff.1 hx12).1))) fun _ _ hs26 => ?_); clear hs25
   refine sq rfl (st_store (l' := [.int .i64 (b.afterC false x12 x10.c ((b.run false plan i).1)), .int .i64 (b.afterW false x12 x10.w ((b.run false plan i).2))]) (vs := [.int .i64 (b.afterC false x12 x10.c ((b.run false plan i).1)), .int .i64 (b.afterW false x12 x10.w ((b.run false plan i).2))]) (i := 1) hs26 (Ev.t 11 rfl) (Ev.t 0 rfl) sizeOf103 rfl rfl rfl rfl rfl rfl fun _ _ hs27 => ?_); clear hs26
   have hs28 := hs27.asB [_, _, _] rfl; clear hs27
   refine hK17 _ _ ?_; clear hK17
   have hs29 := hs28.keep [6, 8, 9, 10, 11, 12, 13] [_, _, _, _, _, _, _] rfl; clear hs28
   refine cd_region fun K18 hK18 => ?_
   refine sq rfl (st_loadA (o := 0) (off := 0) (vs := (bookL b A n cp)) hs29 (Ev.t 6 rfl) rfl rfl isAgg75 sizeOf75 (hs29.cells 2 rfl) rfl fun _ _ hs30 => ?_); clear hs29
   refine sq rfl (st_move hs30 (Ev.t 1 rfl) rfl rfl fun _ _ hs31 => ?_); clear hs30
   refine sq rfl (st_loadA (o := 0) (off := 0) (vs := [.int .i64 (b.afterC false x12 x10.c ((b.run false plan i).1)), .int .i64 (b.afterW false x12 x10.w ((b.run false plan i).2))]) hs31 (Ev.t 6 rfl) rfl rfl isAgg103 sizeOf103 (hs31.cells 1 rfl) rfl fun _ _ hs32 => ?_); clear hs31
   refine sq rfl (st_callv (vs := [.agg ⟨(bookL b A n cp)⟩, .int .i64 (i : Int), .agg ⟨[.int .i64 (b.afterC false x12 x10.c ((b.run false plan i).1)), .int .i64 (b.afterW false x12 x10.w ((b.run false plan i).2))]⟩]) hs32 (.func _) ⟨(Ev.t 2 rfl), (Ev.t 1 rfl), (Ev.t 0 rfl), trivial⟩ rfl rfl call77 rfl (may_v b A n cp i x12 hx12 (b.afterC false x12 x10.c ((b.run false plan i).1)) (b.afterW false x12 x10.w ((b.run false plan i).2)) _ (hP.kp hs32.kp) hn) fun _ _ hs33 => ?_); clear hs32
   refine hK18 _ _ ?_; clear hK18
   have hs34 := hs33.keep [0, 4, 5, 6, 7, 8, 9, 10] [_, _, _, _, _, _, _, _] rfl; clear hs33
   have hmy : b.may x12 (b.afterC false x12 x10.c (b.run false plan i).1) (b.afterW false x12 x10.w (b.run false plan i).2) = b.mayAt plan i := by rw [Book.mayAt, hx12, Book.run_succ hx12 hx10]
   have hs35 := Sx.keepE [0, 1, 2, 3, 4, 5, 6, 7] [(27, .bool (b.mayAt plan i)), (6, _), (13, _), (12, _), (11, _), (5, _), (4, _), (2, _)] ⟨⟨_, rfl, by rw [hmy]⟩, ⟨_, rfl, rfl⟩, ⟨_, rfl, rfl⟩, ⟨_, rfl, rfl⟩, ⟨_, rfl, rfl⟩, ⟨_, rfl, rfl⟩, ⟨_, rfl, rfl⟩, ⟨_, rfl, rfl⟩, trivial⟩ hs34; clear hs34
   refine cd_cond hs35 (Ev.t 0 rfl) (fun hc19 => ?_) (fun hc19 => ?_)
   · have hyes := first_yes (n := m) (i := i) (f := b.mayAt plan) (by omega) hc19
     refine cd_region fun K20 hK20 => ?_
     refine sq rfl (st_move hs35 (Ev.t 1 rfl) rfl rfl fun _ _ hs36 => ?_); clear hs35
     have hs37 := hs36.keep [0, 1, 2, 3, 4, 5, 6, 8] [_, _, _, _, _, _, _, _] rfl; clear hs36
     refine sq rfl (st_assign hs37 (Ev.t 0 rfl) rfl rfl fun _ _ hs38 => ?_); clear hs37
     refine hK20 _ _ ?_; clear hK20
     have hs39 := hs38.keep [0] [_] rfl; clear hs38
     refine cd_retv (vs := [.int .i64 (i : Int)]) hs39 (fun a_ w_ h => in_ret (th_ret (th_ret (in_ret (th_ret (hQ0 a_ w_ h)))))) rfl ⟨.tmp 0 rfl, trivial⟩ ?_
     clear hs39 hQ0 hN0 hK14 hK5
     first | (rw [hf, hyes]; rfl) | (subst him; rw [hf, Nat.sub_self]; rfl)
   · refine cd_skip ?_
     refine in_norm ?_
     refine th_norm (hK14 _ _ ?_)
     refine cd_region1 ?_
     refine sq rfl (st_add (z := (i : Int) + 1) hs35 (Ev.t 2 rfl) (.const _) rfl rfl rfl (by omega) fun _ _ hs36 => ?_); clear hs35
     have hs37 := hs36.keep [0, 1, 2, 4, 5, 6, 7, 8] [_, _, _, _, _, _, _, _] rfl; clear hs36
     refine sq rfl (st_move hs37 (Ev.t 0 rfl) rfl rfl fun _ _ hs38 => ?_); clear hs37
     refine wpListIn_nil ?_
     have hs39 := hs38.keep [0, 4, 5, 6, 7, 8] [_, _, _, _, _, _] rfl; clear hs38
     refine ⟨i + 1, ⟨?_, ?_, ?_⟩, by omega⟩
     · first | omega | (simp; done) | (simp; omega)
     · rw [hf]; exact first_no (by omega) (by simpa using hc19)
     have hs40 : Sx 30 [] [(13, .int .i64 ((i : Int) + 1)), (12, .int .i64 (m : Int)), (11, .slice A2 m c2), (5, .pointer (some ⟨b4, 0, none⟩)), (4, .int .i64 0), (2, .pointer (some ⟨b2, 0, none⟩))] [(b4, some (.cells ⟨[.int .i64 (b.afterC false x12 x10.c ((b.run false plan i).1)), .int .i64 (b.afterW false x12 x10.w ((b.run false plan i).2))]⟩ 103 (0, 0))), (b2, some (.cells ⟨(bookL b A n cp)⟩ 75 (0, 0)))] [] w _ _ := Sx.blks hs39 ((List.Sublist.cons _ (List.Sublist.cons_cons _ (List.Sublist.cons_cons _ List.Sublist.slnil))))
     rw [Book.run_succ (hi := false) hx12 hx10]
     exact Sx.keepE [0, 1, 2, 3, 4, 5] _ ⟨⟨_, rfl, rfl⟩, ⟨_, rfl, rfl⟩, ⟨_, rfl, rfl⟩, ⟨_, rfl, rfl⟩, ⟨_, rfl, rfl⟩, ⟨_, rfl, rfl⟩, trivial⟩ hs40
 · have him : i = m := by simp at hc9; omega
   refine cd_exit ?_
   refine th_exit ?_
   refine th_exit ?_
   refine in_hit ?_
   refine th_norm (hK5 _ _ ?_)
   refine cd_region fun K21 hK21 => ?_
   have hs16 := hs15.keep [0, 1, 2, 3, 4, 6] [_, _, _, _, _, _] rfl; clear hs15
   refine sq rfl (st_assign hs16 (.const _) rfl rfl fun _ _ hs17 => ?_); clear hs16
   refine hK21 _ _ ?_; clear hK21
   have hs18 := hs17.keep [0] [_] rfl; clear hs17
   refine cd_retv (vs := [.int .i64 (-1)]) hs18 hQ0 rfl ⟨.tmp 0 rfl, trivial⟩ ?_
   clear hs18 hQ0 hN0
   first | (rw [hf, hyes]; rfl) | (subst him; rw [hf, Nat.sub_self]; rfl)
end Go.Proofs.YtdbcedmofoakmaaDoor
