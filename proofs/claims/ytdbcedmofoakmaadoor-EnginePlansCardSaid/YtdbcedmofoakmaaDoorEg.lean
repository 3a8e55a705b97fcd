/- The reference: Fails, Left. -/
import Derived.Test.YtdbcedmofoakmaaDoorEf
set_option maxRecDepth 100000
namespace Go.Proofs.YtdbcedmofoakmaaDoor
open Go Go.Sx Go.Eng
theorem rFails_v (b : Book) (A : Option Addr) (n cp : Nat) (A2 : Option Addr) (m c2 : Nat) (plan : List Walks) (w : World) (hP : PartsAt w A n b.parts) (hn : n ≤ 140737488351232) (hL : PlanAt w A2 m plan) (hm : m ≤ 140737488351232) :
    CallsV Tryd.prog 22 [.agg ⟨(bookL b A n cp)⟩, .slice A2 m c2] w (.tuple ⟨[.int .i64 ((b.failsR plan).1), .int .i64 ((b.failsR plan).2)]⟩) := by
 refine enter (N := 49) (M := []) w Tryd.func22 rfl rfl rfl (fun Q0 a_0 hQ0 hN0 hs0 => ?_)
 refine cd_region fun K1 hK1 => ?_
 refine sq rfl (st_box hs0 (Ev.t 0 rfl) rfl rfl rfl fun b2 _ _ hs1 => ?_); clear hs0
 refine sq rfl (st_assign hs1 (.const _) rfl rfl fun _ _ hs2 => ?_); clear hs1
 refine sq rfl (st_assign hs2 (.const _) rfl rfl fun _ _ hs3 => ?_); clear hs2
 refine hK1 _ _ ?_; clear hK1
 have hs4 := Sx.keepT [0, 1, 2, 4] [_, _, _, _] ⟨rfl, rfl, rfl, rfl, trivial⟩ hs3; clear hs3
 refine cd_seq fun K3 hK3 => ?_
 refine cd_region fun K4 hK4 => ?_
 refine sq rfl (st_loadA (o := 0) (off := 0) (vs := (bookL b A n cp)) hs4 (Ev.t 2 rfl) rfl rfl Tryd.isAgg27 Tryd.sizeOf27 (hs4.cells 0 rfl) rfl fun _ _ hs5 => ?_); clear hs4
 refine sq rfl (st_callv (vs := [.agg ⟨(bookL b A n cp)⟩]) hs5 (.func _) ⟨(Ev.t 0 rfl), trivial⟩ rfl rfl Tryd.call17 rfl (rcheck_v b A n cp _ (hP.kp hs5.kp) hn) fun _ _ hs6 => ?_); clear hs5
 refine sq rfl (st_assign hs6 (Ev.t 0 rfl) rfl rfl fun _ _ hs7 => ?_); clear hs6
 refine hK4 _ _ ?_; clear hK4
 have hs8 := Sx.keepT [0, 3, 4, 5, 6] [_, _, _, _, _] ⟨rfl, rfl, rfl, rfl, rfl, trivial⟩ hs7; clear hs7
 refine cd_region fun K5 hK5 => ?_
 refine sq rfl (st_move hs8 (Ev.t 0 rfl) rfl rfl fun _ _ hs9 => ?_); clear hs8
 refine sq rfl (st_cmp (c := (if b.ok then 0 else 40 : Int) != 0) hs9 (Ev.t 0 rfl) (.const _) rfl rfl rfl rfl fun _ _ hs10 => ?_); clear hs9
 refine hK5 _ _ ?_; clear hK5
 have hs11 := Sx.keepT [0, 2, 3, 4, 5, 6] [_, _, _, _, _, _] ⟨rfl, rfl, rfl, rfl, rfl, rfl, trivial⟩ hs10; clear hs10
 refine cd_cond hs11 (Ev.t 0 rfl) (fun hc6 => ?_) (fun hc6 => ?_)
 · have hok : b.ok = false := by cases h : b.ok <;> simp [h] at hc6 ⊢
   refine cd_region fun K7 hK7 => ?_
   refine sq rfl (st_move hs11 (Ev.t 1 rfl) rfl rfl fun _ _ hs12 => ?_); clear hs11
   have hs13 := Sx.keepT [0, 1, 2, 3, 5, 6] [_, _, _, _, _, _] ⟨rfl, rfl, rfl, rfl, rfl, rfl, trivial⟩ hs12; clear hs12
   refine sq rfl (st_assign hs13 (.const _) rfl rfl fun _ _ hs14 => ?_); clear hs13
   have hs15 := Sx.keepT [0, 1, 2, 3, 5, 6] [_, _, _, _, _, _] ⟨rfl, rfl, rfl, rfl, rfl, rfl, trivial⟩ hs14; clear hs14
   refine sq rfl (st_assign hs15 (Ev.t 1 rfl) rfl rfl fun _ _ hs16 => ?_); clear hs15
   refine hK7 _ _ ?_; clear hK7
   have hs17 := Sx.keepT [0, 1] [_, _] ⟨rfl, rfl, trivial⟩ hs16; clear hs16
   refine cd_retv (vs := [.int .i64 0, .int .i64 (if b.ok then 0 else 40)]) hs17 (fun a_ w_ h => th_ret (hQ0 a_ w_ h)) rfl ⟨.tmp 1 rfl, .tmp 0 rfl, trivial⟩ ?_
   clear hs17 hQ0 hN0 hK3
   first | (simp [pack, Book.failsR, hok, hpl, hF, hi0]; done) | (simp [pack, Book.failsR, hok, hpl, hF]; done) | simp_all [pack, Book.failsR]
 · have hok : b.ok = true := by cases h : b.ok <;> simp [h] at hc6 ⊢
   have hb := ok_bd hok
   refine cd_skip ?_
   refine th_norm (hK3 _ _ ?_)
   refine cd_seq fun K8 hK8 => ?_
   refine cd_region fun K9 hK9 => ?_
   refine sq rfl (st_loadA (o := 0) (off := 0) (vs := (bookL b A n cp)) hs11 (Ev.t 4 rfl) rfl rfl Tryd.isAgg27 Tryd.sizeOf27 (hs11.cells 0 rfl) rfl fun _ _ hs12 => ?_); clear hs11
   refine sq rfl (st_move hs12 (Ev.t 6 rfl) rfl rfl fun _ _ hs13 => ?_); clear hs12
   refine sq rfl (st_callv (vs := [.agg ⟨(bookL b A n cp)⟩, .slice A2 m c2]) hs13 (.func _) ⟨(Ev.t 1 rfl), (Ev.t 0 rfl), trivial⟩ rfl rfl Tryd.call54 rfl (risPlan_v b A n cp A2 m c2 plan _ (hP.kp hs13.kp) hn (hL.kp hs13.kp) hm hb) fun _ _ hs14 => ?_); clear hs13
   refine sq rfl (st_not hs14 (Ev.t 0 rfl) rfl rfl fun _ _ hs15 => ?_); clear hs14
   refine hK9 _ _ ?_; clear hK9
   have hs16 := Sx.keepT [0, 6, 7, 8, 9] [_, _, _, _, _] ⟨rfl, rfl, rfl, rfl, rfl, trivial⟩ hs15; clear hs15
   refine cd_cond hs16 (Ev.t 0 rfl) (fun hc10 => ?_) (fun hc10 => ?_)
   · refine cd_region fun K11 hK11 => ?_
     have hs17 := Sx.keepT [0, 1, 3, 4] [_, _, _, _] ⟨rfl, rfl, rfl, rfl, trivial⟩ hs16; clear hs16
     refine sq rfl (st_assign hs17 (.const _) rfl rfl fun _ _ hs18 => ?_); clear hs17
     have hs19 := Sx.keepT [0, 1, 3, 4] [_, _, _, _] ⟨rfl, rfl, rfl, rfl, trivial⟩ hs18; clear hs18
     refine sq rfl (st_assign hs19 (.const _) rfl rfl fun _ _ hs20 => ?_); clear hs19
     refine hK11 _ _ ?_; clear hK11
     have hs21 := Sx.keepT [0, 1] [_, _] ⟨rfl, rfl, trivial⟩ hs20; clear hs20
     refine cd_retv (vs := [.int .i64 0, .int .i64 41]) hs21 (fun a_ w_ h => th_ret (hQ0 a_ w_ h)) rfl ⟨.tmp 1 rfl, .tmp 0 rfl, trivial⟩ ?_
     clear hs21 hQ0 hN0 hK8
     first | (simp [pack, Book.failsR, hok, hpl, hF, hi0]; done) | (simp [pack, Book.failsR, hok, hpl, hF]; done) | simp_all [pack, Book.failsR]
   · have hpl : b.isPlan plan = true := by simpa using hc10
     have hlen := isPlan_len hpl
     have hl1 := hL.len
     have hl2 := hP.len
     refine cd_skip ?_
     refine th_norm (hK8 _ _ ?_)
     refine cd_region fun K12 hK12 => ?_
     refine sq rfl (st_loadA (o := 0) (off := 0) (vs := (bookL b A n cp)) hs16 (Ev.t 3 rfl) rfl rfl Tryd.isAgg27 Tryd.sizeOf27 (hs16.cells 0 rfl) rfl fun _ _ hs17 => ?_); clear hs16
     refine sq rfl (st_callv (vs := [.agg ⟨(bookL b A n cp)⟩]) hs17 (.func _) ⟨(Ev.t 0 rfl), trivial⟩ rfl rfl Tryd.call55 rfl (rat_v b A n cp _) fun _ _ hs18 => ?_); clear hs17
     refine sq rfl (st_alloc hs18 rfl rfl Tryd.zeroValue82 rfl fun b13 _ _ hs19 => ?_); clear hs18
     refine sq rfl (st_store (l' := [.int .i64 b.coal.lo, .int .i64 b.coal.hi, .int .i64 b.water.lo, .int .i64 b.water.hi]) (vs := [.int .i64 b.coal.lo, .int .i64 b.coal.hi, .int .i64 b.water.lo, .int .i64 b.water.hi]) (i := 0) hs19 (Ev.t 0 rfl) (Ev.t 1 rfl) Tryd.sizeOf82 rfl rfl rfl rfl rfl rfl fun _ _ hs20 => ?_); clear hs19
     have hs21 := Sx.as (T' := [_, _, _, _, _, _, _, _]) (B' := [_, _]) rfl rfl hs20; clear hs20
     refine hK12 _ _ ?_; clear hK12
     have hs22 := Sx.keepT [0, 4, 5, 6, 7] [_, _, _, _, _] ⟨rfl, rfl, rfl, rfl, rfl, trivial⟩ hs21; clear hs21
     refine cd_seq fun K14 hK14 => ?_
     refine cd_region fun K15 hK15 => ?_
     refine sq rfl (st_assign hs22 (.const _) rfl rfl fun _ _ hs23 => ?_); clear hs22
     refine hK15 _ _ ?_; clear hK15
     refine cd_block ?_
     have hs24 : Sx 49 [] [(8, .int .i64 (0 : Int)), (7, .pointer (some ⟨b13, 0, none⟩)), (5, .int .i64 0), (4, .int .i64 0), (2, .pointer (some ⟨b2, 0, none⟩)), (1, .slice A2 m c2)] [(b13, some (.cells ⟨[.int .i64 ((b.run false plan 0).1), .int .i64 ((b.run true plan 0).1), .int .i64 ((b.run false plan 0).2), .int .i64 ((b.run true plan 0).2)]⟩ 82 (0, 0))), (b2, some (.cells ⟨(bookL b A n cp)⟩ 27 (0, 0)))] [] w _ _ := Sx.keepE [0, 1, 2, 3, 4, 5] _ ⟨⟨_, rfl, rfl⟩, ⟨_, rfl, rfl⟩, ⟨_, rfl, rfl⟩, ⟨_, rfl, rfl⟩, ⟨_, rfl, rfl⟩, ⟨_, rfl, rfl⟩, trivial⟩ hs23; clear hs23
     refine cd_loop (X := Nat) (fun i a_ w_ => (i ≤ m) ∧ (b.failsI plan = first (b.mayAt plan) (m - i) i) ∧ Sx 49 [] [(8, .int .i64 (i : Int)), (7, .pointer (some ⟨b13, 0, none⟩)), (5, .int .i64 0), (4, .int .i64 0), (2, .pointer (some ⟨b2, 0, none⟩)), (1, .slice A2 m c2)] [(b13, some (.cells ⟨[.int .i64 ((b.run false plan i).1), .int .i64 ((b.run true plan i).1), .int .i64 ((b.run false plan i).2), .int .i64 ((b.run true plan i).2)]⟩ 82 (0, 0))), (b2, some (.cells ⟨(bookL b A n cp)⟩ 27 (0, 0)))] [] w a_ w_) (fun i => m - i) (0) ⟨?_, ?_, hs24⟩ ?_
     · first | omega | simp
     · rw [Book.failsI, hl1]; rfl
     intro i a_25 w_25 ⟨hi, hf, hs25⟩; clear hs24
     refine cd_seq fun K16 hK16 => ?_
     refine cd_region fun K17 hK17 => ?_
     refine sq rfl (st_move hs25 (Ev.t 0 rfl) rfl rfl fun _ _ hs26 => ?_); clear hs25
     refine sq rfl (st_move hs26 (Ev.t 6 rfl) rfl rfl fun _ _ hs27 => ?_); clear hs26
     refine sq rfl (st_len hs27 (Ev.t 0 rfl) rfl rfl Tryd.runUnderlying28 fun _ _ hs28 => ?_); clear hs27
     refine sq rfl (st_cmp (c := decide (((i : Int) : Int) < (m : Int))) hs28 (Ev.t 2 rfl) (Ev.t 0 rfl) rfl rfl rfl rfl fun _ _ hs29 => ?_); clear hs28
     refine hK17 _ _ ?_; clear hK17
     have hs30 := Sx.keepT [0, 4, 5, 6, 7, 8, 9] [_, _, _, _, _, _, _] ⟨rfl, rfl, rfl, rfl, rfl, rfl, rfl, trivial⟩ hs29; clear hs29
     refine cd_cond hs30 (Ev.t 0 rfl) (fun hc18 => ?_) (fun hc18 => ?_)
     · simp only [decide_eq_true_eq] at hc18
       have hil : i < b.parts.length := by omega
       obtain ⟨x19, hx19⟩ : ∃ x, plan[i]? = some x := ⟨_, List.getElem?_eq_getElem (by have := hL.len; omega)⟩
       obtain ⟨b20, o20, hA20, -, hc20⟩ := hL.el i x19 hx19
       obtain ⟨x21, hx21⟩ : ∃ x, b.parts[i]? = some x := ⟨_, List.getElem?_eq_getElem (by have := hP.len; omega)⟩
       obtain ⟨b22, o22, hA22, -, hc22⟩ := hP.el i x21 hx21
       have hwy := isPlan_bd hb hpl hx21 hx19
       have hxy := (hb.parts i x21 hx21).1
       have r1 := run_cb hb hpl false (i := i) (by omega)
       have r2 := run_cb hb hpl true (i := i) (by omega)
       have m1 := mulbd ⟨hwy.1, hwy.2.1⟩ ⟨hb.load.1, hb.load.2.1⟩
       have m2 := mulbd ⟨hwy.2.2.1, hwy.2.2.2⟩ hb.load.2.2
       have hr := hb.room
       refine cd_skip ?_
       refine th_norm (hK16 _ _ ?_)
       refine cd_seq fun K23 hK23 => ?_
       refine cd_block ?_
       refine cd_drawn mixed hs30 [⟨26, [], Is (.agg ⟨(bookL b A n cp)⟩)⟩,
      ⟨27, [], Is (.agg ⟨(bookL b A n cp)⟩)⟩,
      ⟨28, [], Is (.agg ⟨[.int .i64 ((b.run false plan i).1), .int .i64 ((b.run true plan i).1), .int .i64 ((b.run false plan i).2), .int .i64 ((b.run true plan i).2)]⟩)⟩,
      ⟨29, [], Is (.slice A2 m c2)⟩,
      ⟨30, [], Is (.int .i64 (i : Int))⟩,
      ⟨31, [3, 4], Is (.pointer (some ⟨b20, o20 + i * 2, none⟩))⟩,
      ⟨32, [5], Is (.agg ⟨(walksL x19)⟩)⟩,
      ⟨33, [1, 2, 6], Is (.agg ⟨[.int .i64 (min b.bunker ((b.run false plan i).1 + x19.c * b.scoop)), .int .i64 (min b.bunker ((b.run true plan i).1 + x19.c * b.scoop)), .int .i64 (min b.tank ((b.run false plan i).2 + x19.w * b.pail)), .int .i64 (min b.tank ((b.run true plan i).2 + x19.w * b.pail))]⟩)⟩,
      ⟨34, [], Is (.pointer (some ⟨b2, 22, none⟩))⟩,
      ⟨35, [8], Is (.slice A n cp)⟩,
      ⟨36, [], Is (.int .i64 (i : Int))⟩,
      ⟨37, [9, 10], Is (.pointer (some ⟨b22, o22 + i * 4, none⟩))⟩,
      ⟨38, [11], Is (.agg ⟨(partL x21)⟩)⟩,
      ⟨39, [0, 7, 12], Is (.agg ⟨[.int .i64 ((min b.bunker ((b.run false plan i).1 + x19.c * b.scoop)) - x21.mi.hi * (b.burn x21.light).hi), .int .i64 ((min b.bunker ((b.run true plan i).1 + x19.c * b.scoop)) - x21.mi.lo * (b.burn x21.light).lo), .int .i64 ((min b.tank ((b.run false plan i).2 + x19.w * b.pail)) - x21.mi.hi * (b.drink x21.light).hi), .int .i64 ((min b.tank ((b.run true plan i).2 + x19.w * b.pail)) - x21.mi.lo * (b.drink x21.light).lo)]⟩)⟩] (by kernel_rfl) (by kernel_rfl) fun K24 hK24 => ⟨⟨?_, ?_, ?_, ?_, ?_, ?_, ?_, ?_, ?_, ?_, ?_, ?_, ?_, ?_, trivial⟩, ?_⟩
       · intro T_ B_ a_ w_ K_ hT hB
         intro hf hsD hk
         exact ob rfl rfl (st_loadA (o := 0) (off := 0) (vs := (bookL b A n cp)) hsD (Ev.tmp (hT _ (mem_nth (i := 5) rfl))) rfl hf Tryd.isAgg27 Tryd.sizeOf27 (hsD.cellsM (hB _ (mem_nth (i := 1) rfl))) rfl fun a_1 w_1 h1 => hk _ _ _ _ ⟨rfl, rfl⟩ h1)
       · intro T_ B_ a_ w_ K_ hT hB
         intro hf hsD hk
         exact ob rfl rfl (st_loadA (o := 0) (off := 0) (vs := (bookL b A n cp)) hsD (Ev.tmp (hT _ (mem_nth (i := 5) rfl))) rfl hf Tryd.isAgg27 Tryd.sizeOf27 (hsD.cellsM (hB _ (mem_nth (i := 1) rfl))) rfl fun a_1 w_1 h1 => hk _ _ _ _ ⟨rfl, rfl⟩ h1)
       · intro T_ B_ a_ w_ K_ hT hB
         intro hf hsD hk
         exact ob rfl rfl (st_loadA (o := 0) (off := 0) (vs := [.int .i64 ((b.run false plan i).1), .int .i64 ((b.run true plan i).1), .int .i64 ((b.run false plan i).2), .int .i64 ((b.run true plan i).2)]) hsD (Ev.tmp (hT _ (mem_nth (i := 2) rfl))) rfl hf Tryd.isAgg82 Tryd.sizeOf82 (hsD.cellsM (hB _ (mem_nth (i := 0) rfl))) rfl fun a_1 w_1 h1 => hk _ _ _ _ ⟨rfl, rfl⟩ h1)
       · intro T_ B_ a_ w_ K_ hT hB
         intro hf hsD hk
         exact ob rfl rfl (st_move hsD (Ev.tmp (hT _ (mem_nth (i := 6) rfl))) rfl hf fun a_1 w_1 h1 => hk _ _ _ _ ⟨rfl, rfl⟩ h1)
       · intro T_ B_ a_ w_ K_ hT hB
         intro hf hsD hk
         exact ob rfl rfl (st_move hsD (Ev.tmp (hT _ (mem_nth (i := 1) rfl))) rfl hf fun a_1 w_1 h1 => hk _ _ _ _ ⟨rfl, rfl⟩ h1)
       · intro T_ B_ a_ w_ K_ hT hB
         rintro _ _ ⟨rfl, rfl⟩ h29 -
         rintro _ _ ⟨rfl, rfl⟩ h30 -
         intro hf hsD hk
         exact ob rfl rfl (st_indexM (o' := o20 + i * 2) hsD (Ev.tmp h29) (Ev.tmp h30) rfl hf hA20 Tryd.runUnderlying28 Tryd.sizeOf64 ⟨by omega, by have := hL.len; have := (List.getElem?_eq_some_iff.1 hx19).1; omega⟩ rfl fun a_1 w_1 h1 => hk _ _ _ _ ⟨rfl, rfl⟩ h1)
       · intro T_ B_ a_ w_ K_ hT hB
         rintro _ _ ⟨rfl, rfl⟩ h31 -
         intro hf hsD hk
         exact ob rfl rfl (st_loadA (o := o20 + i * 2) (off := 0) (vs := (walksL x19)) hsD (Ev.tmp h31) rfl hf Tryd.isAgg64 Tryd.sizeOf64 (hsD.old hc20 (by simp)) rfl fun a_1 w_1 h1 => hk _ _ _ _ ⟨rfl, rfl⟩ h1)
       · intro T_ B_ a_ w_ K_ hT hB
         rintro _ _ ⟨rfl, rfl⟩ h27 -
         rintro _ _ ⟨rfl, rfl⟩ h28 -
         rintro _ _ ⟨rfl, rfl⟩ h32 -
         intro hf hsD hk
         exact ob rfl rfl (st_callv (vs := [.agg ⟨(bookL b A n cp)⟩, .agg ⟨[.int .i64 ((b.run false plan i).1), .int .i64 ((b.run true plan i).1), .int .i64 ((b.run false plan i).2), .int .i64 ((b.run true plan i).2)]⟩, .agg ⟨(walksL x19)⟩]) hsD (.func _) ⟨(Ev.tmp h27), (Ev.tmp h28), (Ev.tmp h32), trivial⟩ rfl hf Tryd.call57 rfl (brought_v b A n cp x19 ((b.run false plan i).1) ((b.run true plan i).1) ((b.run false plan i).2) ((b.run true plan i).2) _ hb hwy (by omega) (by omega)) fun a_1 w_1 h1 => hk _ _ _ _ ⟨rfl, rfl⟩ h1)
       · intro T_ B_ a_ w_ K_ hT hB
         intro hf hsD hk
         exact ob rfl rfl (st_field (o' := 22) hsD (Ev.tmp (hT _ (mem_nth (i := 5) rfl))) rfl hf Tryd.runUnderlying27 rfl Tryd.sizeOf25 rfl rfl fun a_1 w_1 h1 => hk _ _ _ _ ⟨rfl, rfl⟩ h1)
       · intro T_ B_ a_ w_ K_ hT hB
         rintro _ _ ⟨rfl, rfl⟩ h34 -
         intro hf hsD hk
         exact ob rfl rfl (st_load1 (o := 0) (off := 22) (v := .slice A n cp) hsD (Ev.tmp h34) rfl hf Tryd.isAgg25 (hsD.cellsM (hB _ (mem_nth (i := 1) rfl))) rfl fun a_1 w_1 h1 => hk _ _ _ _ ⟨rfl, rfl⟩ h1)
       · intro T_ B_ a_ w_ K_ hT hB
         intro hf hsD hk
         exact ob rfl rfl (st_move hsD (Ev.tmp (hT _ (mem_nth (i := 1) rfl))) rfl hf fun a_1 w_1 h1 => hk _ _ _ _ ⟨rfl, rfl⟩ h1)
       · intro T_ B_ a_ w_ K_ hT hB
         rintro _ _ ⟨rfl, rfl⟩ h35 -
         rintro _ _ ⟨rfl, rfl⟩ h36 -
         intro hf hsD hk
         exact ob rfl rfl (st_indexM (o' := o22 + i * 4) hsD (Ev.tmp h35) (Ev.tmp h36) rfl hf hA22 Tryd.runUnderlying25 Tryd.sizeOf66 ⟨by omega, by have := hP.len; have := (List.getElem?_eq_some_iff.1 hx21).1; omega⟩ rfl fun a_1 w_1 h1 => hk _ _ _ _ ⟨rfl, rfl⟩ h1)
       · intro T_ B_ a_ w_ K_ hT hB
         rintro _ _ ⟨rfl, rfl⟩ h37 -
         intro hf hsD hk
         exact ob rfl rfl (st_loadA (o := o22 + i * 4) (off := 0) (vs := (partL x21)) hsD (Ev.tmp h37) rfl hf Tryd.isAgg66 Tryd.sizeOf66 (hsD.old hc22 (by simp)) rfl fun a_1 w_1 h1 => hk _ _ _ _ ⟨rfl, rfl⟩ h1)
       · intro T_ B_ a_ w_ K_ hT hB
         rintro _ _ ⟨rfl, rfl⟩ h26 -
         rintro _ _ ⟨rfl, rfl⟩ h33 -
         rintro _ _ ⟨rfl, rfl⟩ h38 -
         intro hf hsD hk
         exact ob rfl rfl (st_callv (vs := [.agg ⟨(bookL b A n cp)⟩, .agg ⟨[.int .i64 (min b.bunker ((b.run false plan i).1 + x19.c * b.scoop)), .int .i64 (min b.bunker ((b.run true plan i).1 + x19.c * b.scoop)), .int .i64 (min b.tank ((b.run false plan i).2 + x19.w * b.pail)), .int .i64 (min b.tank ((b.run true plan i).2 + x19.w * b.pail))]⟩, .agg ⟨(partL x21)⟩]) hsD (.func _) ⟨(Ev.tmp h26), (Ev.tmp h33), (Ev.tmp h38), trivial⟩ rfl hf Tryd.call56 rfl (worked_v b A n cp x21 (min b.bunker ((b.run false plan i).1 + x19.c * b.scoop)) (min b.bunker ((b.run true plan i).1 + x19.c * b.scoop)) (min b.tank ((b.run false plan i).2 + x19.w * b.pail)) (min b.tank ((b.run true plan i).2 + x19.w * b.pail)) _ hb hxy (by omega) (by omega)) fun a_1 w_1 h1 => hk _ _ _ _ ⟨rfl, rfl⟩ h1)
       rintro _ _ ⟨rfl, rfl⟩
       rintro _ _ ⟨rfl, rfl⟩
       rintro _ _ ⟨rfl, rfl⟩
       rintro _ _ ⟨rfl, rfl⟩
       rintro _ _ ⟨rfl, rfl⟩
       rintro _ _ ⟨rfl, rfl⟩
       rintro _ _ ⟨rfl, rfl⟩
       rintro _ _ ⟨rfl, rfl⟩
       rintro _ _ ⟨rfl, rfl⟩
       rintro _ _ ⟨rfl, rfl⟩
       rintro _ _ ⟨rfl, rfl⟩
       rintro _ _ ⟨rfl, rfl⟩
       rintro _ _ ⟨rfl, rfl⟩
       rintro _ _ ⟨rfl, rfl⟩
       intro a_31 w_31 hs31
       clear hs30
       have hs32 := Sx.as (T' := [_, _, _, _, _, _, _, _, _, _, _, _, _, _, _, _, _, _, _, _, _]) (B' := [_, _]) rfl rfl hs31; clear hs31
       refine sq rfl (st_store (l' := [.int .i64 ((min b.bunker ((b.run false plan i).1 + x19.c * b.scoop)) - x21.mi.hi * (b.burn x21.light).hi), .int .i64 ((min b.bunker ((b.run true plan i).1 + x19.c * b.scoop)) - x21.mi.lo * (b.burn x21.light).lo), .int .i64 ((min b.tank ((b.run false plan i).2 + x19.w * b.pail)) - x21.mi.hi * (b.drink x21.light).hi), .int .i64 ((min b.tank ((b.run true plan i).2 + x19.w * b.pail)) - x21.mi.lo * (b.drink x21.light).lo)]) (vs := [.int .i64 ((min b.bunker ((b.run false plan i).1 + x19.c * b.scoop)) - x21.mi.hi * (b.burn x21.light).hi), .int .i64 ((min b.bunker ((b.run true plan i).1 + x19.c * b.scoop)) - x21.mi.lo * (b.burn x21.light).lo), .int .i64 ((min b.tank ((b.run false plan i).2 + x19.w * b.pail)) - x21.mi.hi * (b.drink x21.light).hi), .int .i64 ((min b.tank ((b.run true plan i).2 + x19.w * b.pail)) - x21.mi.lo * (b.drink x21.light).lo)]) (i := 0) hs32 (Ev.t 16 rfl) (Ev.t 13 rfl) Tryd.sizeOf82 rfl rfl rfl rfl rfl rfl fun _ _ hs33 => ?_); clear hs32
       have hs34 := Sx.as (T' := [_, _, _, _, _, _, _, _, _, _, _, _, _, _, _, _, _, _, _, _, _]) (B' := [_, _]) rfl rfl hs33; clear hs33
       refine hK24 _ _ ?_; clear hK24
       have hs35 := Sx.keepT [15, 16, 17, 18, 19, 20] [_, _, _, _, _, _] ⟨rfl, rfl, rfl, rfl, rfl, rfl, trivial⟩ hs34; clear hs34
       refine cd_drawn mixed hs35 [⟨40, [], Is (.agg ⟨(bookL b A n cp)⟩)⟩,
      ⟨41, [], Is (.agg ⟨[.int .i64 ((min b.bunker ((b.run false plan i).1 + x19.c * b.scoop)) - x21.mi.hi * (b.burn x21.light).hi), .int .i64 ((min b.bunker ((b.run true plan i).1 + x19.c * b.scoop)) - x21.mi.lo * (b.burn x21.light).lo), .int .i64 ((min b.tank ((b.run false plan i).2 + x19.w * b.pail)) - x21.mi.hi * (b.drink x21.light).hi), .int .i64 ((min b.tank ((b.run true plan i).2 + x19.w * b.pail)) - x21.mi.lo * (b.drink x21.light).lo)]⟩)⟩,
      ⟨42, [], Is (.pointer (some ⟨b2, 22, none⟩))⟩,
      ⟨43, [2], Is (.slice A n cp)⟩,
      ⟨44, [], Is (.int .i64 (i : Int))⟩,
      ⟨45, [3, 4], Is (.pointer (some ⟨b22, o22 + i * 4, none⟩))⟩,
      ⟨46, [5], Is (.agg ⟨(partL x21)⟩)⟩,
      ⟨47, [0, 1, 6], Is (.bool (b.may x21 ((min b.bunker ((b.run false plan i).1 + x19.c * b.scoop)) - x21.mi.hi * (b.burn x21.light).hi) ((min b.tank ((b.run false plan i).2 + x19.w * b.pail)) - x21.mi.hi * (b.drink x21.light).hi)))⟩] (by kernel_rfl) (by kernel_rfl) fun K25 hK25 => ⟨⟨?_, ?_, ?_, ?_, ?_, ?_, ?_, ?_, trivial⟩, ?_⟩
       · intro T_ B_ a_ w_ K_ hT hB
         intro hf hsD hk
         exact ob rfl rfl (st_loadA (o := 0) (off := 0) (vs := (bookL b A n cp)) hsD (Ev.tmp (hT _ (mem_nth (i := 4) rfl))) rfl hf Tryd.isAgg27 Tryd.sizeOf27 (hsD.cellsM (hB _ (mem_nth (i := 1) rfl))) rfl fun a_1 w_1 h1 => hk _ _ _ _ ⟨rfl, rfl⟩ h1)
       · intro T_ B_ a_ w_ K_ hT hB
         intro hf hsD hk
         exact ob rfl rfl (st_loadA (o := 0) (off := 0) (vs := [.int .i64 ((min b.bunker ((b.run false plan i).1 + x19.c * b.scoop)) - x21.mi.hi * (b.burn x21.light).hi), .int .i64 ((min b.bunker ((b.run true plan i).1 + x19.c * b.scoop)) - x21.mi.lo * (b.burn x21.light).lo), .int .i64 ((min b.tank ((b.run false plan i).2 + x19.w * b.pail)) - x21.mi.hi * (b.drink x21.light).hi), .int .i64 ((min b.tank ((b.run true plan i).2 + x19.w * b.pail)) - x21.mi.lo * (b.drink x21.light).lo)]) hsD (Ev.tmp (hT _ (mem_nth (i := 1) rfl))) rfl hf Tryd.isAgg82 Tryd.sizeOf82 (hsD.cellsM (hB _ (mem_nth (i := 0) rfl))) rfl fun a_1 w_1 h1 => hk _ _ _ _ ⟨rfl, rfl⟩ h1)
       · intro T_ B_ a_ w_ K_ hT hB
         intro hf hsD hk
         exact ob rfl rfl (st_field (o' := 22) hsD (Ev.tmp (hT _ (mem_nth (i := 4) rfl))) rfl hf Tryd.runUnderlying27 rfl Tryd.sizeOf25 rfl rfl fun a_1 w_1 h1 => hk _ _ _ _ ⟨rfl, rfl⟩ h1)
       · intro T_ B_ a_ w_ K_ hT hB
         rintro _ _ ⟨rfl, rfl⟩ h42 -
         intro hf hsD hk
         exact ob rfl rfl (st_load1 (o := 0) (off := 22) (v := .slice A n cp) hsD (Ev.tmp h42) rfl hf Tryd.isAgg25 (hsD.cellsM (hB _ (mem_nth (i := 1) rfl))) rfl fun a_1 w_1 h1 => hk _ _ _ _ ⟨rfl, rfl⟩ h1)
       · intro T_ B_ a_ w_ K_ hT hB
         intro hf hsD hk
         exact ob rfl rfl (st_move hsD (Ev.tmp (hT _ (mem_nth (i := 0) rfl))) rfl hf fun a_1 w_1 h1 => hk _ _ _ _ ⟨rfl, rfl⟩ h1)
       · intro T_ B_ a_ w_ K_ hT hB
         rintro _ _ ⟨rfl, rfl⟩ h43 -
         rintro _ _ ⟨rfl, rfl⟩ h44 -
         intro hf hsD hk
         exact ob rfl rfl (st_indexM (o' := o22 + i * 4) hsD (Ev.tmp h43) (Ev.tmp h44) rfl hf hA22 Tryd.runUnderlying25 Tryd.sizeOf66 ⟨by omega, by have := hP.len; have := (List.getElem?_eq_some_iff.1 hx21).1; omega⟩ rfl fun a_1 w_1 h1 => hk _ _ _ _ ⟨rfl, rfl⟩ h1)
       · intro T_ B_ a_ w_ K_ hT hB
         rintro _ _ ⟨rfl, rfl⟩ h45 -
         intro hf hsD hk
         exact ob rfl rfl (st_loadA (o := o22 + i * 4) (off := 0) (vs := (partL x21)) hsD (Ev.tmp h45) rfl hf Tryd.isAgg66 Tryd.sizeOf66 (hsD.old hc22 (by simp)) rfl fun a_1 w_1 h1 => hk _ _ _ _ ⟨rfl, rfl⟩ h1)
       · intro T_ B_ a_ w_ K_ hT hB
         rintro _ _ ⟨rfl, rfl⟩ h40 -
         rintro _ _ ⟨rfl, rfl⟩ h41 -
         rintro _ _ ⟨rfl, rfl⟩ h46 -
         intro hf hsD hk
         exact ob rfl rfl (st_callv (vs := [.agg ⟨(bookL b A n cp)⟩, .agg ⟨[.int .i64 ((min b.bunker ((b.run false plan i).1 + x19.c * b.scoop)) - x21.mi.hi * (b.burn x21.light).hi), .int .i64 ((min b.bunker ((b.run true plan i).1 + x19.c * b.scoop)) - x21.mi.lo * (b.burn x21.light).lo), .int .i64 ((min b.tank ((b.run false plan i).2 + x19.w * b.pail)) - x21.mi.hi * (b.drink x21.light).hi), .int .i64 ((min b.tank ((b.run true plan i).2 + x19.w * b.pail)) - x21.mi.lo * (b.drink x21.light).lo)]⟩, .agg ⟨(partL x21)⟩]) hsD (.func _) ⟨(Ev.tmp h40), (Ev.tmp h41), (Ev.tmp h46), trivial⟩ rfl hf Tryd.call60 rfl (rfails_v b A n cp x21 ((min b.bunker ((b.run false plan i).1 + x19.c * b.scoop)) - x21.mi.hi * (b.burn x21.light).hi) ((min b.bunker ((b.run true plan i).1 + x19.c * b.scoop)) - x21.mi.lo * (b.burn x21.light).lo) ((min b.tank ((b.run false plan i).2 + x19.w * b.pail)) - x21.mi.hi * (b.drink x21.light).hi) ((min b.tank ((b.run true plan i).2 + x19.w * b.pail)) - x21.mi.lo * (b.drink x21.light).lo) _ hb) fun a_1 w_1 h1 => hk _ _ _ _ ⟨rfl, rfl⟩ h1)
       rintro _ _ ⟨rfl, rfl⟩
       rintro _ _ ⟨rfl, rfl⟩
       rintro _ _ ⟨rfl, rfl⟩
       rintro _ _ ⟨rfl, rfl⟩
       rintro _ _ ⟨rfl, rfl⟩
       rintro _ _ ⟨rfl, rfl⟩
       rintro _ _ ⟨rfl, rfl⟩
       rintro _ _ ⟨rfl, rfl⟩
       intro a_36 w_36 hs36
       clear hs35
       have hs37 := Sx.as (T' := [_, _, _, _, _, _, _, _, _, _, _, _, _, _]) (B' := [_, _]) rfl rfl hs36; clear hs36
       refine hK25 _ _ ?_; clear hK25
       have hs38 := Sx.keepT [7, 8, 9, 10, 11, 12, 13] [_, _, _, _, _, _, _] ⟨rfl, rfl, rfl, rfl, rfl, rfl, rfl, trivial⟩ hs37; clear hs37
       have hmy : (b.may x21 ((min b.bunker ((b.run false plan i).1 + x19.c * b.scoop)) - x21.mi.hi * (b.burn x21.light).hi) ((min b.tank ((b.run false plan i).2 + x19.w * b.pail)) - x21.mi.hi * (b.drink x21.light).hi)) = b.mayAt plan i := by rw [Book.mayAt, hx21, Book.run_succ hx21 hx19]; rfl
       have hs39 := Sx.keepE [0, 1, 2, 3, 4, 5, 6] [(47, .bool (b.mayAt plan i)), (8, _), (7, _), (5, _), (4, _), (2, _), (1, _)] ⟨⟨_, rfl, by rw [hmy]⟩, ⟨_, rfl, rfl⟩, ⟨_, rfl, rfl⟩, ⟨_, rfl, rfl⟩, ⟨_, rfl, rfl⟩, ⟨_, rfl, rfl⟩, ⟨_, rfl, rfl⟩, trivial⟩ hs38; clear hs38
       refine cd_cond hs39 (Ev.t 0 rfl) (fun hc26 => ?_) (fun hc26 => ?_)
       · have hF : b.failsI plan = (i : Int) := hf.trans (first_yes (by omega) hc26)
         have hi0 : ¬ ((i : Int) < 0) := by omega
         refine cd_region fun K27 hK27 => ?_
         refine sq rfl (st_move hs39 (Ev.t 1 rfl) rfl rfl fun _ _ hs40 => ?_); clear hs39
         have hs41 := Sx.keepT [0, 1, 2, 3, 4, 6, 7] [_, _, _, _, _, _, _] ⟨rfl, rfl, rfl, rfl, rfl, rfl, rfl, trivial⟩ hs40; clear hs40
         refine sq rfl (st_assign hs41 (Ev.t 0 rfl) rfl rfl fun _ _ hs42 => ?_); clear hs41
         have hs43 := Sx.keepT [0, 1, 2, 3, 4, 6, 7] [_, _, _, _, _, _, _] ⟨rfl, rfl, rfl, rfl, rfl, rfl, rfl, trivial⟩ hs42; clear hs42
         refine sq rfl (st_assign hs43 (.const _) rfl rfl fun _ _ hs44 => ?_); clear hs43
         refine hK27 _ _ ?_; clear hK27
         have hs45 := Sx.keepT [0, 1] [_, _] ⟨rfl, rfl, trivial⟩ hs44; clear hs44
         refine cd_retv (vs := [.int .i64 (i : Int), .int .i64 0]) hs45 (fun a_ w_ h => in_ret (th_ret (th_ret (in_ret (th_ret (hQ0 a_ w_ h)))))) rfl ⟨.tmp 1 rfl, .tmp 0 rfl, trivial⟩ ?_
         clear hs45 hQ0 hN0 hK23 hK14
         first | (simp [pack, Book.failsR, hok, hpl, hF, hi0]; done) | (simp [pack, Book.failsR, hok, hpl, hF]; done) | simp_all [pack, Book.failsR]
       · refine cd_skip ?_
         refine in_norm ?_
         refine th_norm (hK23 _ _ ?_)
         refine cd_region1 ?_
         refine sq rfl (st_move hs39 (Ev.t 1 rfl) rfl rfl fun _ _ hs40 => ?_); clear hs39
         refine sq rfl (st_add (z := (i : Int) + 1) hs40 (Ev.t 0 rfl) (.const _) rfl rfl rfl (by omega) fun _ _ hs41 => ?_); clear hs40
         have hs42 := Sx.keepT [0, 1, 2, 4, 5, 6, 7, 8] [_, _, _, _, _, _, _, _] ⟨rfl, rfl, rfl, rfl, rfl, rfl, rfl, rfl, trivial⟩ hs41; clear hs41
         refine sq rfl (st_assign hs42 (Ev.t 0 rfl) rfl rfl fun _ _ hs43 => ?_); clear hs42
         refine wpListIn_nil ?_
         have hs44 := Sx.keepT [0, 4, 5, 6, 7, 8] [_, _, _, _, _, _] ⟨rfl, rfl, rfl, rfl, rfl, rfl, trivial⟩ hs43; clear hs43
         refine ⟨i + 1, ⟨?_, ?_, ?_⟩, by omega⟩
         · first | omega | (simp; done) | (simp; omega)
         · rw [hf]; exact first_no (by omega) hc26
         rw [Book.run_succ (hi := false) hx21 hx19, Book.run_succ (hi := true) hx21 hx19]
         exact Sx.keepE [0, 1, 2, 3, 4, 5] _ ⟨⟨_, rfl, rfl⟩, ⟨_, rfl, rfl⟩, ⟨_, rfl, rfl⟩, ⟨_, rfl, rfl⟩, ⟨_, rfl, rfl⟩, ⟨_, rfl, rfl⟩, trivial⟩ hs44
     · have him : i = m := by simp at hc18; omega
       have hF : b.failsI plan = -1 := by subst him; rw [hf, Nat.sub_self]; rfl
       refine cd_exit ?_
       refine th_exit ?_
       refine th_exit ?_
       refine in_hit ?_
       refine th_norm (hK14 _ _ ?_)
       refine cd_region fun K28 hK28 => ?_
       have hs31 := Sx.keepT [0, 1, 2, 3, 5, 6] [_, _, _, _, _, _] ⟨rfl, rfl, rfl, rfl, rfl, rfl, trivial⟩ hs30; clear hs30
       refine sq rfl (st_assign hs31 (.const _) rfl rfl fun _ _ hs32 => ?_); clear hs31
       have hs33 := Sx.keepT [0, 1, 2, 3, 5, 6] [_, _, _, _, _, _] ⟨rfl, rfl, rfl, rfl, rfl, rfl, trivial⟩ hs32; clear hs32
       refine sq rfl (st_assign hs33 (.const _) rfl rfl fun _ _ hs34 => ?_); clear hs33
       refine hK28 _ _ ?_; clear hK28
       have hs35 := Sx.keepT [0, 1] [_, _] ⟨rfl, rfl, trivial⟩ hs34; clear hs34
       refine cd_retv (vs := [.int .i64 0, .int .i64 4]) hs35 hQ0 rfl ⟨.tmp 1 rfl, .tmp 0 rfl, trivial⟩ ?_
       clear hs35 hQ0 hN0
       first | (simp [pack, Book.failsR, hok, hpl, hF, hi0]; done) | (simp [pack, Book.failsR, hok, hpl, hF]; done) | simp_all [pack, Book.failsR]

theorem rLeft_v (b : Book) (A : Option Addr) (n cp : Nat) (A2 : Option Addr) (m c2 : Nat) (plan : List Walks) (k : Int) (w : World) (hP : PartsAt w A n b.parts) (hn : n ≤ 140737488351232) (hL : PlanAt w A2 m plan) (hm : m ≤ 140737488351232) :
    CallsV Tryd.prog 19 [.agg ⟨(bookL b A n cp)⟩, .slice A2 m c2, .int .i64 k] w (.tuple ⟨[.agg ⟨[.int .i64 ((b.leftR plan k).1.lo), .int .i64 ((b.leftR plan k).1.hi)]⟩, .agg ⟨[.int .i64 ((b.leftR plan k).2.1.lo), .int .i64 ((b.leftR plan k).2.1.hi)]⟩, .int .i64 ((b.leftR plan k).2.2)]⟩) := by
 refine enter (N := 63) (M := []) w Tryd.func19 rfl rfl rfl (fun Q0 a_0 hQ0 hN0 hs0 => ?_)
 refine cd_region fun K1 hK1 => ?_
 refine sq rfl (st_box hs0 (Ev.t 0 rfl) rfl rfl rfl fun b2 _ _ hs1 => ?_); clear hs0
 refine sq rfl (st_alloc hs1 rfl rfl Tryd.zeroValue23 rfl fun b3 _ _ hs2 => ?_); clear hs1
 refine sq rfl (st_alloc hs2 rfl rfl Tryd.zeroValue23 rfl fun b4 _ _ hs3 => ?_); clear hs2
 refine sq rfl (st_assign hs3 (.const _) rfl rfl fun _ _ hs4 => ?_); clear hs3
 refine hK1 _ _ ?_; clear hK1
 have hs5 := Sx.keepT [0, 1, 2, 3, 5, 6] [_, _, _, _, _, _] ⟨rfl, rfl, rfl, rfl, rfl, rfl, trivial⟩ hs4; clear hs4
 refine cd_seq fun K5 hK5 => ?_
 refine cd_region fun K6 hK6 => ?_
 refine sq rfl (st_loadA (o := 0) (off := 0) (vs := (bookL b A n cp)) hs5 (Ev.t 3 rfl) rfl rfl Tryd.isAgg27 Tryd.sizeOf27 (hs5.cells 2 rfl) rfl fun _ _ hs6 => ?_); clear hs5
 refine sq rfl (st_callv (vs := [.agg ⟨(bookL b A n cp)⟩]) hs6 (.func _) ⟨(Ev.t 0 rfl), trivial⟩ rfl rfl Tryd.call17 rfl (rcheck_v b A n cp _ (hP.kp hs6.kp) hn) fun _ _ hs7 => ?_); clear hs6
 refine sq rfl (st_assign hs7 (Ev.t 0 rfl) rfl rfl fun _ _ hs8 => ?_); clear hs7
 refine hK6 _ _ ?_; clear hK6
 have hs9 := Sx.keepT [0, 3, 4, 5, 6, 7, 8] [_, _, _, _, _, _, _] ⟨rfl, rfl, rfl, rfl, rfl, rfl, rfl, trivial⟩ hs8; clear hs8
 refine cd_region fun K7 hK7 => ?_
 refine sq rfl (st_move hs9 (Ev.t 0 rfl) rfl rfl fun _ _ hs10 => ?_); clear hs9
 refine sq rfl (st_cmp (c := (if b.ok then 0 else 40 : Int) != 0) hs10 (Ev.t 0 rfl) (.const _) rfl rfl rfl rfl fun _ _ hs11 => ?_); clear hs10
 refine hK7 _ _ ?_; clear hK7
 have hs12 := Sx.keepT [0, 2, 3, 4, 5, 6, 7, 8] [_, _, _, _, _, _, _, _] ⟨rfl, rfl, rfl, rfl, rfl, rfl, rfl, rfl, trivial⟩ hs11; clear hs11
 refine cd_cond hs12 (Ev.t 0 rfl) (fun hc8 => ?_) (fun hc8 => ?_)
 · have hok : b.ok = false := by cases h : b.ok <;> simp [h] at hc8 ⊢
   refine cd_region fun K9 hK9 => ?_
   refine sq rfl (st_build hs12 (qs := []) (v := .agg ⟨[.int .i64 0, .int .i64 0]⟩) trivial rfl rfl rfl (fun _ => by kernel_rfl) fun _ _ hs13 => ?_); clear hs12
   refine sq rfl (st_build hs13 (qs := []) (v := .agg ⟨[.int .i64 0, .int .i64 0]⟩) trivial rfl rfl rfl (fun _ => by kernel_rfl) fun _ _ hs14 => ?_); clear hs13
   refine sq rfl (st_move hs14 (Ev.t 3 rfl) rfl rfl fun _ _ hs15 => ?_); clear hs14
   refine sq rfl (st_store (l' := [.int .i64 0, .int .i64 0]) (vs := [.int .i64 0, .int .i64 0]) (i := 1) hs15 (Ev.t 7 rfl) (Ev.t 2 rfl) Tryd.sizeOf23 rfl rfl rfl rfl rfl rfl fun _ _ hs16 => ?_); clear hs15
   have hs17 := Sx.as (T' := [_, _, _, _, _, _, _, _, _, _, _]) (B' := [_, _, _]) rfl rfl hs16; clear hs16
   refine sq rfl (st_store (l' := [.int .i64 0, .int .i64 0]) (vs := [.int .i64 0, .int .i64 0]) (i := 0) hs17 (Ev.t 6 rfl) (Ev.t 1 rfl) Tryd.sizeOf23 rfl rfl rfl rfl rfl rfl fun _ _ hs18 => ?_); clear hs17
   have hs19 := Sx.as (T' := [_, _, _, _, _, _, _, _, _, _, _]) (B' := [_, _, _]) rfl rfl hs18; clear hs18
   have hs20 := Sx.keepT [0, 1, 2, 3, 4, 6, 7, 8, 9, 10] [_, _, _, _, _, _, _, _, _, _] ⟨rfl, rfl, rfl, rfl, rfl, rfl, rfl, rfl, rfl, rfl, trivial⟩ hs19; clear hs19
   refine sq rfl (st_assign hs20 (Ev.t 0 rfl) rfl rfl fun _ _ hs21 => ?_); clear hs20
   refine hK9 _ _ ?_; clear hK9
   have hs22 := Sx.keepT [0, 6, 7] [_, _, _] ⟨rfl, rfl, rfl, trivial⟩ hs21; clear hs21
   refine cd_retv (vs := [.agg ⟨[.int .i64 0, .int .i64 0]⟩, .agg ⟨[.int .i64 0, .int .i64 0]⟩, .int .i64 (if b.ok then 0 else 40)]) hs22 (fun a_ w_ h => th_ret (hQ0 a_ w_ h)) rfl ⟨resA (o := 0) (off := 0) (vs := [.int .i64 0, .int .i64 0]) 2 rfl Tryd.isAgg23 Tryd.sizeOf23 (hs22.cells 1 rfl) rfl, resA (o := 0) (off := 0) (vs := [.int .i64 0, .int .i64 0]) 1 rfl Tryd.isAgg23 Tryd.sizeOf23 (hs22.cells 0 rfl) rfl, .tmp 0 rfl, trivial⟩ ?_
   clear hs22 hQ0 hN0 hK5
   first | (subst him; simp [pack, Book.leftR, hok, hC, hD]; done) | (simp [pack, Book.leftR, hok, hC, hD, hi0]; done) | (simp [pack, Book.leftR, hok, hC]; done) | simp [pack, Book.leftR, hok]
 · have hok : b.ok = true := by cases h : b.ok <;> simp [h] at hc8 ⊢
   have hb := ok_bd hok
   refine cd_skip ?_
   refine th_norm (hK5 _ _ ?_)
   refine cd_seq fun K10 hK10 => ?_
   refine cd_region fun K11 hK11 => ?_
   refine sq rfl (st_loadA (o := 0) (off := 0) (vs := (bookL b A n cp)) hs12 (Ev.t 5 rfl) rfl rfl Tryd.isAgg27 Tryd.sizeOf27 (hs12.cells 2 rfl) rfl fun _ _ hs13 => ?_); clear hs12
   refine sq rfl (st_move hs13 (Ev.t 7 rfl) rfl rfl fun _ _ hs14 => ?_); clear hs13
   refine sq rfl (st_callv (vs := [.agg ⟨(bookL b A n cp)⟩, .slice A2 m c2]) hs14 (.func _) ⟨(Ev.t 1 rfl), (Ev.t 0 rfl), trivial⟩ rfl rfl Tryd.call54 rfl (risPlan_v b A n cp A2 m c2 plan _ (hP.kp hs14.kp) hn (hL.kp hs14.kp) hm hb) fun _ _ hs15 => ?_); clear hs14
   refine sq rfl (st_not hs15 (Ev.t 0 rfl) rfl rfl fun _ _ hs16 => ?_); clear hs15
   refine sq rfl (st_move hs16 (Ev.t 0 rfl) rfl rfl fun _ _ hs17 => ?_); clear hs16
   refine sq_gv hs17 (gg := !(!(b.isPlan plan))) (v := .int .i64 k) rfl rfl 0 rfl (ison_f _) rfl rfl rfl (fun hg12 K13 hK13 => st_move hs17 (Ev.t 12 rfl) rfl rfl hK13) fun _ _ hs18 => ?_; clear hs17
   refine sq_gv hs18 (gg := !(!(b.isPlan plan))) (v := .pointer (some ⟨b2, 22, none⟩)) rfl rfl 1 rfl (ison_f _) rfl rfl rfl (fun hg14 K15 hK15 => st_field (o' := 22) hs18 (Ev.t 11 rfl) rfl rfl Tryd.runUnderlying27 rfl Tryd.sizeOf25 rfl rfl hK15) fun _ _ hs19 => ?_; clear hs18
   refine sq_gv hs19 (gg := !(!(b.isPlan plan))) (v := .slice A n cp) rfl rfl 2 rfl (ison_f _) rfl rfl rfl (fun hg16 K17 hK17 => st_load1 (o := 0) (off := 22) (v := .slice A n cp) hs19 ((Ev.t 0 rfl).un hg16) rfl rfl Tryd.isAgg25 (hs19.cells 2 rfl) rfl hK17) fun _ _ hs20 => ?_; clear hs19
   refine sq_gv hs20 (gg := !(!(b.isPlan plan))) (v := .int .i64 (n : Int)) rfl rfl 3 rfl (ison_f _) rfl rfl rfl (fun hg18 K19 hK19 => st_len hs20 ((Ev.t 0 rfl).un hg18) rfl rfl Tryd.runUnderlying25 hK19) fun _ _ hs21 => ?_; clear hs20
   refine sq_gv hs21 (gg := !(!(b.isPlan plan))) (v := .int .i64 ((n : Int) - 1)) rfl rfl 4 rfl (ison_f _) rfl rfl rfl (fun hg20 K21 hK21 => st_sub (z := (n : Int) - 1) hs21 ((Ev.t 0 rfl).un hg20) (.const _) rfl rfl rfl (by omega) hK21) fun _ _ hs22 => ?_; clear hs21
   refine sq_gv hs22 (gg := !(!(b.isPlan plan))) (v := .bool (within k 0 ((n : Int) - 1))) rfl rfl 5 rfl (ison_f _) rfl rfl rfl (fun hg22 K23 hK23 => st_callv (vs := [.int .i64 k, .int .i64 0, .int .i64 ((n : Int) - 1)]) hs22 (.func _) ⟨((Ev.t 4 rfl).un hg22), (.const _), ((Ev.t 0 rfl).un hg22), trivial⟩ rfl rfl Tryd.call37 rfl (amid_v k 0 ((n : Int) - 1) _) hK23) fun _ _ hs23 => ?_; clear hs22
   refine sq_gv hs23 (gg := !(!(b.isPlan plan))) (v := .bool (!(within k 0 ((n : Int) - 1)))) rfl rfl 6 rfl (ison_f _) rfl rfl rfl (fun hg24 K25 hK25 => st_not hs23 ((Ev.t 0 rfl).un hg24) rfl rfl hK25) fun _ _ hs24 => ?_; clear hs23
   refine sq rfl (st_or hs24 (gx := true) (gy := !(!(b.isPlan plan))) (Ev.t 7 rfl) rfl (Ev.t 0 rfl) (fun h => (by first | exact absurd h (by decide) | (rw [h]; rfl))) rfl rfl fun _ _ hs25 => ?_); clear hs24
   refine hK11 _ _ ?_; clear hK11
   have hs26 := Sx.keepT [0, 15, 16, 17, 18, 19, 20] [_, _, _, _, _, _, _] ⟨rfl, rfl, rfl, rfl, rfl, rfl, rfl, trivial⟩ hs25; clear hs25
   refine cd_cond hs26 (Ev.t 0 rfl) (fun hc26 => ?_) (fun hc26 => ?_)
   · have hC : ¬ (b.isPlan plan = true ∧ within k 0 ((b.parts.length : Int) - 1) = true) := by
       rw [← hP.len]; intro ⟨h1, h2⟩; simp [h1, h2] at hc26
     refine cd_region fun K27 hK27 => ?_
     refine sq rfl (st_build hs26 (qs := []) (v := .agg ⟨[.int .i64 0, .int .i64 0]⟩) trivial rfl rfl rfl (fun _ => by kernel_rfl) fun _ _ hs27 => ?_); clear hs26
     refine sq rfl (st_build hs27 (qs := []) (v := .agg ⟨[.int .i64 0, .int .i64 0]⟩) trivial rfl rfl rfl (fun _ => by kernel_rfl) fun _ _ hs28 => ?_); clear hs27
     refine sq rfl (st_store (l' := [.int .i64 0, .int .i64 0]) (vs := [.int .i64 0, .int .i64 0]) (i := 1) hs28 (Ev.t 5 rfl) (Ev.t 1 rfl) Tryd.sizeOf23 rfl rfl rfl rfl rfl rfl fun _ _ hs29 => ?_); clear hs28
     have hs30 := Sx.as (T' := [_, _, _, _, _, _, _, _, _]) (B' := [_, _, _]) rfl rfl hs29; clear hs29
     refine sq rfl (st_store (l' := [.int .i64 0, .int .i64 0]) (vs := [.int .i64 0, .int .i64 0]) (i := 0) hs30 (Ev.t 4 rfl) (Ev.t 0 rfl) Tryd.sizeOf23 rfl rfl rfl rfl rfl rfl fun _ _ hs31 => ?_); clear hs30
     have hs32 := Sx.as (T' := [_, _, _, _, _, _, _, _, _]) (B' := [_, _, _]) rfl rfl hs31; clear hs31
     have hs33 := Sx.keepT [0, 1, 2, 4, 5, 6, 7, 8] [_, _, _, _, _, _, _, _] ⟨rfl, rfl, rfl, rfl, rfl, rfl, rfl, rfl, trivial⟩ hs32; clear hs32
     refine sq rfl (st_assign hs33 (.const _) rfl rfl fun _ _ hs34 => ?_); clear hs33
     refine hK27 _ _ ?_; clear hK27
     have hs35 := Sx.keepT [0, 4, 5] [_, _, _] ⟨rfl, rfl, rfl, trivial⟩ hs34; clear hs34
     refine cd_retv (vs := [.agg ⟨[.int .i64 0, .int .i64 0]⟩, .agg ⟨[.int .i64 0, .int .i64 0]⟩, .int .i64 41]) hs35 (fun a_ w_ h => th_ret (hQ0 a_ w_ h)) rfl ⟨resA (o := 0) (off := 0) (vs := [.int .i64 0, .int .i64 0]) 2 rfl Tryd.isAgg23 Tryd.sizeOf23 (hs35.cells 1 rfl) rfl, resA (o := 0) (off := 0) (vs := [.int .i64 0, .int .i64 0]) 1 rfl Tryd.isAgg23 Tryd.sizeOf23 (hs35.cells 0 rfl) rfl, .tmp 0 rfl, trivial⟩ ?_
     clear hs35 hQ0 hN0 hK10
     first | (subst him; simp [pack, Book.leftR, hok, hC, hD]; done) | (simp [pack, Book.leftR, hok, hC, hD, hi0]; done) | (simp [pack, Book.leftR, hok, hC]; done) | simp [pack, Book.leftR, hok]
   · simp only [Bool.or_eq_false_iff, Bool.not_eq_false'] at hc26
     have hpl := hc26.1
     have hwi := hc26.2
     have hwj := Eng.within_iff.1 hwi
     have hlen := isPlan_len hpl
     have hl1 := hL.len
     have hl2 := hP.len
     have hkk : (k.toNat : Int) = k := Int.toNat_of_nonneg hwj.1
     have hC : b.isPlan plan = true ∧ within k 0 ((b.parts.length : Int) - 1) = true := ⟨hpl, by rw [← hl2]; exact hwi⟩
     refine cd_skip ?_
     refine th_norm (hK10 _ _ ?_)
     refine cd_region fun K28 hK28 => ?_
     refine sq rfl (st_loadA (o := 0) (off := 0) (vs := (bookL b A n cp)) hs26 (Ev.t 4 rfl) rfl rfl Tryd.isAgg27 Tryd.sizeOf27 (hs26.cells 2 rfl) rfl fun _ _ hs27 => ?_); clear hs26
     refine sq rfl (st_callv (vs := [.agg ⟨(bookL b A n cp)⟩]) hs27 (.func _) ⟨(Ev.t 0 rfl), trivial⟩ rfl rfl Tryd.call55 rfl (rat_v b A n cp _) fun _ _ hs28 => ?_); clear hs27
     refine sq rfl (st_alloc hs28 rfl rfl Tryd.zeroValue82 rfl fun b29 _ _ hs29 => ?_); clear hs28
     refine sq rfl (st_store (l' := [.int .i64 b.coal.lo, .int .i64 b.coal.hi, .int .i64 b.water.lo, .int .i64 b.water.hi]) (vs := [.int .i64 b.coal.lo, .int .i64 b.coal.hi, .int .i64 b.water.lo, .int .i64 b.water.hi]) (i := 0) hs29 (Ev.t 0 rfl) (Ev.t 1 rfl) Tryd.sizeOf82 rfl rfl rfl rfl rfl rfl fun _ _ hs30 => ?_); clear hs29
     have hs31 := Sx.as (T' := [_, _, _, _, _, _, _, _, _, _]) (B' := [_, _, _, _]) rfl rfl hs30; clear hs30
     refine hK28 _ _ ?_; clear hK28
     have hs32 := Sx.keepT [0, 4, 5, 6, 7, 8, 9] [_, _, _, _, _, _, _] ⟨rfl, rfl, rfl, rfl, rfl, rfl, rfl, trivial⟩ hs31; clear hs31
     refine cd_seq fun K30 hK30 => ?_
     refine cd_region fun K31 hK31 => ?_
     refine sq rfl (st_assign hs32 (.const _) rfl rfl fun _ _ hs33 => ?_); clear hs32
     refine hK31 _ _ ?_; clear hK31
     refine cd_block ?_
     have hs34 : Sx 63 [] [(11, .int .i64 (0 : Int)), (10, .pointer (some ⟨b29, 0, none⟩)), (8, .int .i64 0), (7, .pointer (some ⟨b4, 0, none⟩)), (6, .pointer (some ⟨b3, 0, none⟩)), (3, .pointer (some ⟨b2, 0, none⟩)), (1, .slice A2 m c2), (2, .int .i64 k)] [(b29, some (.cells ⟨[.int .i64 ((b.run false plan 0).1), .int .i64 ((b.run true plan 0).1), .int .i64 ((b.run false plan 0).2), .int .i64 ((b.run true plan 0).2)]⟩ 82 (0, 0))), (b4, some (.cells ⟨[.int .i64 0, .int .i64 0]⟩ 23 (0, 0))), (b3, some (.cells ⟨[.int .i64 0, .int .i64 0]⟩ 23 (0, 0))), (b2, some (.cells ⟨(bookL b A n cp)⟩ 27 (0, 0)))] [] w _ _ := Sx.keepE [0, 1, 2, 3, 4, 5, 6, 7] _ ⟨⟨_, rfl, rfl⟩, ⟨_, rfl, rfl⟩, ⟨_, rfl, rfl⟩, ⟨_, rfl, rfl⟩, ⟨_, rfl, rfl⟩, ⟨_, rfl, rfl⟩, ⟨_, rfl, rfl⟩, ⟨_, rfl, rfl⟩, trivial⟩ hs33; clear hs33
     refine cd_loop (X := Nat) (fun i a_ w_ => (i ≤ k.toNat + 1) ∧ (b.deadI plan k.toNat = first (b.dead plan) (k.toNat + 1 - i) i) ∧ Sx 63 [] [(11, .int .i64 (i : Int)), (10, .pointer (some ⟨b29, 0, none⟩)), (8, .int .i64 0), (7, .pointer (some ⟨b4, 0, none⟩)), (6, .pointer (some ⟨b3, 0, none⟩)), (3, .pointer (some ⟨b2, 0, none⟩)), (1, .slice A2 m c2), (2, .int .i64 k)] [(b29, some (.cells ⟨[.int .i64 ((b.run false plan i).1), .int .i64 ((b.run true plan i).1), .int .i64 ((b.run false plan i).2), .int .i64 ((b.run true plan i).2)]⟩ 82 (0, 0))), (b4, some (.cells ⟨[.int .i64 0, .int .i64 0]⟩ 23 (0, 0))), (b3, some (.cells ⟨[.int .i64 0, .int .i64 0]⟩ 23 (0, 0))), (b2, some (.cells ⟨(bookL b A n cp)⟩ 27 (0, 0)))] [] w a_ w_) (fun i => k.toNat + 1 - i) (0) ⟨?_, ?_, hs34⟩ ?_
     · first | omega | simp
     · rfl
     intro i a_35 w_35 ⟨hi, hf, hs35⟩; clear hs34
     refine cd_seq fun K32 hK32 => ?_
     refine cd_region fun K33 hK33 => ?_
     refine sq rfl (st_move hs35 (Ev.t 0 rfl) rfl rfl fun _ _ hs36 => ?_); clear hs35
     refine sq rfl (st_move hs36 (Ev.t 8 rfl) rfl rfl fun _ _ hs37 => ?_); clear hs36
     refine sq rfl (st_cmp (c := decide (((i : Int) : Int) ≤ k)) hs37 (Ev.t 1 rfl) (Ev.t 0 rfl) rfl rfl rfl rfl fun _ _ hs38 => ?_); clear hs37
     refine hK33 _ _ ?_; clear hK33
     have hs39 := Sx.keepT [0, 3, 4, 5, 6, 7, 8, 9, 10] [_, _, _, _, _, _, _, _, _] ⟨rfl, rfl, rfl, rfl, rfl, rfl, rfl, rfl, rfl, trivial⟩ hs38; clear hs38
     refine cd_cond hs39 (Ev.t 0 rfl) (fun hc34 => ?_) (fun hc34 => ?_)
     · have hik : i ≤ k.toNat := by simp at hc34; omega
       have hil : i < b.parts.length := by omega
       obtain ⟨x35, hx35⟩ : ∃ x, plan[i]? = some x := ⟨_, List.getElem?_eq_getElem (by have := hL.len; omega)⟩
       obtain ⟨b36, o36, hA36, -, hc36⟩ := hL.el i x35 hx35
       obtain ⟨x37, hx37⟩ : ∃ x, b.parts[i]? = some x := ⟨_, List.getElem?_eq_getElem (by have := hP.len; omega)⟩
       obtain ⟨b38, o38, hA38, -, hc38⟩ := hP.el i x37 hx37
       have hwy := isPlan_bd hb hpl hx37 hx35
       have hxy := (hb.parts i x37 hx37).1
       have r1 := run_cb hb hpl false (i := i) (by omega)
       have r2 := run_cb hb hpl true (i := i) (by omega)
       have m1 := mulbd ⟨hwy.1, hwy.2.1⟩ ⟨hb.load.1, hb.load.2.1⟩
       have m2 := mulbd ⟨hwy.2.2.1, hwy.2.2.2⟩ hb.load.2.2
       have hr := hb.room
       refine cd_skip ?_
       refine th_norm (hK32 _ _ ?_)
       refine cd_seq fun K39 hK39 => ?_
       refine cd_block ?_
       refine cd_drawn mixed hs39 [⟨41, [], Is (.agg ⟨(bookL b A n cp)⟩)⟩,
      ⟨42, [], Is (.agg ⟨(bookL b A n cp)⟩)⟩,
      ⟨43, [], Is (.agg ⟨[.int .i64 ((b.run false plan i).1), .int .i64 ((b.run true plan i).1), .int .i64 ((b.run false plan i).2), .int .i64 ((b.run true plan i).2)]⟩)⟩,
      ⟨44, [], Is (.slice A2 m c2)⟩,
      ⟨45, [], Is (.int .i64 (i : Int))⟩,
      ⟨46, [3, 4], Is (.pointer (some ⟨b36, o36 + i * 2, none⟩))⟩,
      ⟨47, [5], Is (.agg ⟨(walksL x35)⟩)⟩,
      ⟨48, [1, 2, 6], Is (.agg ⟨[.int .i64 (min b.bunker ((b.run false plan i).1 + x35.c * b.scoop)), .int .i64 (min b.bunker ((b.run true plan i).1 + x35.c * b.scoop)), .int .i64 (min b.tank ((b.run false plan i).2 + x35.w * b.pail)), .int .i64 (min b.tank ((b.run true plan i).2 + x35.w * b.pail))]⟩)⟩,
      ⟨49, [], Is (.pointer (some ⟨b2, 22, none⟩))⟩,
      ⟨50, [8], Is (.slice A n cp)⟩,
      ⟨51, [], Is (.int .i64 (i : Int))⟩,
      ⟨52, [9, 10], Is (.pointer (some ⟨b38, o38 + i * 4, none⟩))⟩,
      ⟨53, [11], Is (.agg ⟨(partL x37)⟩)⟩,
      ⟨54, [0, 7, 12], Is (.agg ⟨[.int .i64 ((min b.bunker ((b.run false plan i).1 + x35.c * b.scoop)) - x37.mi.hi * (b.burn x37.light).hi), .int .i64 ((min b.bunker ((b.run true plan i).1 + x35.c * b.scoop)) - x37.mi.lo * (b.burn x37.light).lo), .int .i64 ((min b.tank ((b.run false plan i).2 + x35.w * b.pail)) - x37.mi.hi * (b.drink x37.light).hi), .int .i64 ((min b.tank ((b.run true plan i).2 + x35.w * b.pail)) - x37.mi.lo * (b.drink x37.light).lo)]⟩)⟩] (by kernel_rfl) (by kernel_rfl) fun K40 hK40 => ⟨⟨?_, ?_, ?_, ?_, ?_, ?_, ?_, ?_, ?_, ?_, ?_, ?_, ?_, ?_, trivial⟩, ?_⟩
       · intro T_ B_ a_ w_ K_ hT hB
         intro hf hsD hk
         exact ob rfl rfl (st_loadA (o := 0) (off := 0) (vs := (bookL b A n cp)) hsD (Ev.tmp (hT _ (mem_nth (i := 6) rfl))) rfl hf Tryd.isAgg27 Tryd.sizeOf27 (hsD.cellsM (hB _ (mem_nth (i := 3) rfl))) rfl fun a_1 w_1 h1 => hk _ _ _ _ ⟨rfl, rfl⟩ h1)
       · intro T_ B_ a_ w_ K_ hT hB
         intro hf hsD hk
         exact ob rfl rfl (st_loadA (o := 0) (off := 0) (vs := (bookL b A n cp)) hsD (Ev.tmp (hT _ (mem_nth (i := 6) rfl))) rfl hf Tryd.isAgg27 Tryd.sizeOf27 (hsD.cellsM (hB _ (mem_nth (i := 3) rfl))) rfl fun a_1 w_1 h1 => hk _ _ _ _ ⟨rfl, rfl⟩ h1)
       · intro T_ B_ a_ w_ K_ hT hB
         intro hf hsD hk
         exact ob rfl rfl (st_loadA (o := 0) (off := 0) (vs := [.int .i64 ((b.run false plan i).1), .int .i64 ((b.run true plan i).1), .int .i64 ((b.run false plan i).2), .int .i64 ((b.run true plan i).2)]) hsD (Ev.tmp (hT _ (mem_nth (i := 2) rfl))) rfl hf Tryd.isAgg82 Tryd.sizeOf82 (hsD.cellsM (hB _ (mem_nth (i := 0) rfl))) rfl fun a_1 w_1 h1 => hk _ _ _ _ ⟨rfl, rfl⟩ h1)
       · intro T_ B_ a_ w_ K_ hT hB
         intro hf hsD hk
         exact ob rfl rfl (st_move hsD (Ev.tmp (hT _ (mem_nth (i := 7) rfl))) rfl hf fun a_1 w_1 h1 => hk _ _ _ _ ⟨rfl, rfl⟩ h1)
       · intro T_ B_ a_ w_ K_ hT hB
         intro hf hsD hk
         exact ob rfl rfl (st_move hsD (Ev.tmp (hT _ (mem_nth (i := 1) rfl))) rfl hf fun a_1 w_1 h1 => hk _ _ _ _ ⟨rfl, rfl⟩ h1)
       · intro T_ B_ a_ w_ K_ hT hB
         rintro _ _ ⟨rfl, rfl⟩ h44 -
         rintro _ _ ⟨rfl, rfl⟩ h45 -
         intro hf hsD hk
         exact ob rfl rfl (st_indexM (o' := o36 + i * 2) hsD (Ev.tmp h44) (Ev.tmp h45) rfl hf hA36 Tryd.runUnderlying28 Tryd.sizeOf64 ⟨by omega, by have := hL.len; have := (List.getElem?_eq_some_iff.1 hx35).1; omega⟩ rfl fun a_1 w_1 h1 => hk _ _ _ _ ⟨rfl, rfl⟩ h1)
       · intro T_ B_ a_ w_ K_ hT hB
         rintro _ _ ⟨rfl, rfl⟩ h46 -
         intro hf hsD hk
         exact ob rfl rfl (st_loadA (o := o36 + i * 2) (off := 0) (vs := (walksL x35)) hsD (Ev.tmp h46) rfl hf Tryd.isAgg64 Tryd.sizeOf64 (hsD.old hc36 (by simp)) rfl fun a_1 w_1 h1 => hk _ _ _ _ ⟨rfl, rfl⟩ h1)
       · intro T_ B_ a_ w_ K_ hT hB
         rintro _ _ ⟨rfl, rfl⟩ h42 -
         rintro _ _ ⟨rfl, rfl⟩ h43 -
         rintro _ _ ⟨rfl, rfl⟩ h47 -
         intro hf hsD hk
         exact ob rfl rfl (st_callv (vs := [.agg ⟨(bookL b A n cp)⟩, .agg ⟨[.int .i64 ((b.run false plan i).1), .int .i64 ((b.run true plan i).1), .int .i64 ((b.run false plan i).2), .int .i64 ((b.run true plan i).2)]⟩, .agg ⟨(walksL x35)⟩]) hsD (.func _) ⟨(Ev.tmp h42), (Ev.tmp h43), (Ev.tmp h47), trivial⟩ rfl hf Tryd.call57 rfl (brought_v b A n cp x35 ((b.run false plan i).1) ((b.run true plan i).1) ((b.run false plan i).2) ((b.run true plan i).2) _ hb hwy (by omega) (by omega)) fun a_1 w_1 h1 => hk _ _ _ _ ⟨rfl, rfl⟩ h1)
       · intro T_ B_ a_ w_ K_ hT hB
         intro hf hsD hk
         exact ob rfl rfl (st_field (o' := 22) hsD (Ev.tmp (hT _ (mem_nth (i := 6) rfl))) rfl hf Tryd.runUnderlying27 rfl Tryd.sizeOf25 rfl rfl fun a_1 w_1 h1 => hk _ _ _ _ ⟨rfl, rfl⟩ h1)
       · intro T_ B_ a_ w_ K_ hT hB
         rintro _ _ ⟨rfl, rfl⟩ h49 -
         intro hf hsD hk
         exact ob rfl rfl (st_load1 (o := 0) (off := 22) (v := .slice A n cp) hsD (Ev.tmp h49) rfl hf Tryd.isAgg25 (hsD.cellsM (hB _ (mem_nth (i := 3) rfl))) rfl fun a_1 w_1 h1 => hk _ _ _ _ ⟨rfl, rfl⟩ h1)
       · intro T_ B_ a_ w_ K_ hT hB
         intro hf hsD hk
         exact ob rfl rfl (st_move hsD (Ev.tmp (hT _ (mem_nth (i := 1) rfl))) rfl hf fun a_1 w_1 h1 => hk _ _ _ _ ⟨rfl, rfl⟩ h1)
       · intro T_ B_ a_ w_ K_ hT hB
         rintro _ _ ⟨rfl, rfl⟩ h50 -
         rintro _ _ ⟨rfl, rfl⟩ h51 -
         intro hf hsD hk
         exact ob rfl rfl (st_indexM (o' := o38 + i * 4) hsD (Ev.tmp h50) (Ev.tmp h51) rfl hf hA38 Tryd.runUnderlying25 Tryd.sizeOf66 ⟨by omega, by have := hP.len; have := (List.getElem?_eq_some_iff.1 hx37).1; omega⟩ rfl fun a_1 w_1 h1 => hk _ _ _ _ ⟨rfl, rfl⟩ h1)
       · intro T_ B_ a_ w_ K_ hT hB
         rintro _ _ ⟨rfl, rfl⟩ h52 -
         intro hf hsD hk
         exact ob rfl rfl (st_loadA (o := o38 + i * 4) (off := 0) (vs := (partL x37)) hsD (Ev.tmp h52) rfl hf Tryd.isAgg66 Tryd.sizeOf66 (hsD.old hc38 (by simp)) rfl fun a_1 w_1 h1 => hk _ _ _ _ ⟨rfl, rfl⟩ h1)
       · intro T_ B_ a_ w_ K_ hT hB
         rintro _ _ ⟨rfl, rfl⟩ h41 -
         rintro _ _ ⟨rfl, rfl⟩ h48 -
         rintro _ _ ⟨rfl, rfl⟩ h53 -
         intro hf hsD hk
         exact ob rfl rfl (st_callv (vs := [.agg ⟨(bookL b A n cp)⟩, .agg ⟨[.int .i64 (min b.bunker ((b.run false plan i).1 + x35.c * b.scoop)), .int .i64 (min b.bunker ((b.run true plan i).1 + x35.c * b.scoop)), .int .i64 (min b.tank ((b.run false plan i).2 + x35.w * b.pail)), .int .i64 (min b.tank ((b.run true plan i).2 + x35.w * b.pail))]⟩, .agg ⟨(partL x37)⟩]) hsD (.func _) ⟨(Ev.tmp h41), (Ev.tmp h48), (Ev.tmp h53), trivial⟩ rfl hf Tryd.call56 rfl (worked_v b A n cp x37 (min b.bunker ((b.run false plan i).1 + x35.c * b.scoop)) (min b.bunker ((b.run true plan i).1 + x35.c * b.scoop)) (min b.tank ((b.run false plan i).2 + x35.w * b.pail)) (min b.tank ((b.run true plan i).2 + x35.w * b.pail)) _ hb hxy (by omega) (by omega)) fun a_1 w_1 h1 => hk _ _ _ _ ⟨rfl, rfl⟩ h1)
       rintro _ _ ⟨rfl, rfl⟩
       rintro _ _ ⟨rfl, rfl⟩
       rintro _ _ ⟨rfl, rfl⟩
       rintro _ _ ⟨rfl, rfl⟩
       rintro _ _ ⟨rfl, rfl⟩
       rintro _ _ ⟨rfl, rfl⟩
       rintro _ _ ⟨rfl, rfl⟩
       rintro _ _ ⟨rfl, rfl⟩
       rintro _ _ ⟨rfl, rfl⟩
       rintro _ _ ⟨rfl, rfl⟩
       rintro _ _ ⟨rfl, rfl⟩
       rintro _ _ ⟨rfl, rfl⟩
       rintro _ _ ⟨rfl, rfl⟩
       rintro _ _ ⟨rfl, rfl⟩
       intro a_40 w_40 hs40
       clear hs39
       have hs41 := Sx.as (T' := [_, _, _, _, _, _, _, _, _, _, _, _, _, _, _, _, _, _, _, _, _, _, _]) (B' := [_, _, _, _]) rfl rfl hs40; clear hs40
       refine sq rfl (st_store (l' := [.int .i64 ((min b.bunker ((b.run false plan i).1 + x35.c * b.scoop)) - x37.mi.hi * (b.burn x37.light).hi), .int .i64 ((min b.bunker ((b.run true plan i).1 + x35.c * b.scoop)) - x37.mi.lo * (b.burn x37.light).lo), .int .i64 ((min b.tank ((b.run false plan i).2 + x35.w * b.pail)) - x37.mi.hi * (b.drink x37.light).hi), .int .i64 ((min b.tank ((b.run true plan i).2 + x35.w * b.pail)) - x37.mi.lo * (b.drink x37.light).lo)]) (vs := [.int .i64 ((min b.bunker ((b.run false plan i).1 + x35.c * b.scoop)) - x37.mi.hi * (b.burn x37.light).hi), .int .i64 ((min b.bunker ((b.run true plan i).1 + x35.c * b.scoop)) - x37.mi.lo * (b.burn x37.light).lo), .int .i64 ((min b.tank ((b.run false plan i).2 + x35.w * b.pail)) - x37.mi.hi * (b.drink x37.light).hi), .int .i64 ((min b.tank ((b.run true plan i).2 + x35.w * b.pail)) - x37.mi.lo * (b.drink x37.light).lo)]) (i := 0) hs41 (Ev.t 16 rfl) (Ev.t 13 rfl) Tryd.sizeOf82 rfl rfl rfl rfl rfl rfl fun _ _ hs42 => ?_); clear hs41
       have hs43 := Sx.as (T' := [_, _, _, _, _, _, _, _, _, _, _, _, _, _, _, _, _, _, _, _, _, _, _]) (B' := [_, _, _, _]) rfl rfl hs42; clear hs42
       refine hK40 _ _ ?_; clear hK40
       have hs44 := Sx.keepT [15, 16, 17, 18, 19, 20, 21, 22] [_, _, _, _, _, _, _, _] ⟨rfl, rfl, rfl, rfl, rfl, rfl, rfl, rfl, trivial⟩ hs43; clear hs43
       refine cd_region fun K41 hK41 => ?_
       refine sq rfl (st_loadA (o := 0) (off := 0) (vs := [.int .i64 ((min b.bunker ((b.run false plan i).1 + x35.c * b.scoop)) - x37.mi.hi * (b.burn x37.light).hi), .int .i64 ((min b.bunker ((b.run true plan i).1 + x35.c * b.scoop)) - x37.mi.lo * (b.burn x37.light).lo), .int .i64 ((min b.tank ((b.run false plan i).2 + x35.w * b.pail)) - x37.mi.hi * (b.drink x37.light).hi), .int .i64 ((min b.tank ((b.run true plan i).2 + x35.w * b.pail)) - x37.mi.lo * (b.drink x37.light).lo)]) hs44 (Ev.t 1 rfl) rfl rfl Tryd.isAgg82 Tryd.sizeOf82 (hs44.cells 0 rfl) rfl fun _ _ hs45 => ?_); clear hs44
       refine sq rfl (st_callv (vs := [.agg ⟨[.int .i64 ((min b.bunker ((b.run false plan i).1 + x35.c * b.scoop)) - x37.mi.hi * (b.burn x37.light).hi), .int .i64 ((min b.bunker ((b.run true plan i).1 + x35.c * b.scoop)) - x37.mi.lo * (b.burn x37.light).lo), .int .i64 ((min b.tank ((b.run false plan i).2 + x35.w * b.pail)) - x37.mi.hi * (b.drink x37.light).hi), .int .i64 ((min b.tank ((b.run true plan i).2 + x35.w * b.pail)) - x37.mi.lo * (b.drink x37.light).lo)]⟩]) hs45 (.func _) ⟨(Ev.t 0 rfl), trivial⟩ rfl rfl Tryd.call58 rfl (rstands_v ((min b.bunker ((b.run false plan i).1 + x35.c * b.scoop)) - x37.mi.hi * (b.burn x37.light).hi) ((min b.bunker ((b.run true plan i).1 + x35.c * b.scoop)) - x37.mi.lo * (b.burn x37.light).lo) ((min b.tank ((b.run false plan i).2 + x35.w * b.pail)) - x37.mi.hi * (b.drink x37.light).hi) ((min b.tank ((b.run true plan i).2 + x35.w * b.pail)) - x37.mi.lo * (b.drink x37.light).lo) _) fun _ _ hs46 => ?_); clear hs45
       refine hK41 _ _ ?_; clear hK41
       have hs47 := Sx.keepT [0, 2, 3, 4, 5, 6, 7, 8, 9] [_, _, _, _, _, _, _, _, _] ⟨rfl, rfl, rfl, rfl, rfl, rfl, rfl, rfl, rfl, trivial⟩ hs46; clear hs46
       have hmy : (decide ((min b.bunker ((b.run false plan i).1 + x35.c * b.scoop)) - x37.mi.hi * (b.burn x37.light).hi < 0) || decide ((min b.tank ((b.run false plan i).2 + x35.w * b.pail)) - x37.mi.hi * (b.drink x37.light).hi < 0)) = b.dead plan i := by rw [Book.dead, Book.run_succ hx37 hx35]; rfl
       have hs48 := Sx.keepE [0, 1, 2, 3, 4, 5, 6, 7, 8] [(56, .bool (b.dead plan i)), (11, _), (10, _), (8, _), (7, _), (6, _), (3, _), (1, _), (2, _)] ⟨⟨_, rfl, by rw [hmy]⟩, ⟨_, rfl, rfl⟩, ⟨_, rfl, rfl⟩, ⟨_, rfl, rfl⟩, ⟨_, rfl, rfl⟩, ⟨_, rfl, rfl⟩, ⟨_, rfl, rfl⟩, ⟨_, rfl, rfl⟩, ⟨_, rfl, rfl⟩, trivial⟩ hs47; clear hs47
       refine cd_cond hs48 (Ev.t 0 rfl) (fun hc42 => ?_) (fun hc42 => ?_)
       · have hD : b.deadI plan k.toNat = (i : Int) := hf.trans (first_yes (by omega) hc42)
         have hi0 : ¬ ((i : Int) < 0) := by omega
         refine cd_region fun K43 hK43 => ?_
         refine sq rfl (st_build hs48 (qs := []) (v := .agg ⟨[.int .i64 0, .int .i64 0]⟩) trivial rfl rfl rfl (fun _ => by kernel_rfl) fun _ _ hs49 => ?_); clear hs48
         refine sq rfl (st_build hs49 (qs := []) (v := .agg ⟨[.int .i64 0, .int .i64 0]⟩) trivial rfl rfl rfl (fun _ => by kernel_rfl) fun _ _ hs50 => ?_); clear hs49
         refine sq rfl (st_store (l' := [.int .i64 0, .int .i64 0]) (vs := [.int .i64 0, .int .i64 0]) (i := 2) hs50 (Ev.t 7 rfl) (Ev.t 1 rfl) Tryd.sizeOf23 rfl rfl rfl rfl rfl rfl fun _ _ hs51 => ?_); clear hs50
         have hs52 := Sx.as (T' := [_, _, _, _, _, _, _, _, _, _, _]) (B' := [_, _, _, _]) rfl rfl hs51; clear hs51
         refine sq rfl (st_store (l' := [.int .i64 0, .int .i64 0]) (vs := [.int .i64 0, .int .i64 0]) (i := 1) hs52 (Ev.t 6 rfl) (Ev.t 0 rfl) Tryd.sizeOf23 rfl rfl rfl rfl rfl rfl fun _ _ hs53 => ?_); clear hs52
         have hs54 := Sx.as (T' := [_, _, _, _, _, _, _, _, _, _, _]) (B' := [_, _, _, _]) rfl rfl hs53; clear hs53
         have hs55 := Sx.keepT [0, 1, 2, 3, 4, 6, 7, 8, 9, 10] [_, _, _, _, _, _, _, _, _, _] ⟨rfl, rfl, rfl, rfl, rfl, rfl, rfl, rfl, rfl, rfl, trivial⟩ hs54; clear hs54
         refine sq rfl (st_assign hs55 (.const _) rfl rfl fun _ _ hs56 => ?_); clear hs55
         refine hK43 _ _ ?_; clear hK43
         have hs57 := Sx.keepT [0, 6, 7] [_, _, _] ⟨rfl, rfl, rfl, trivial⟩ hs56; clear hs56
         refine cd_retv (vs := [.agg ⟨[.int .i64 0, .int .i64 0]⟩, .agg ⟨[.int .i64 0, .int .i64 0]⟩, .int .i64 42]) hs57 (fun a_ w_ h => in_ret (th_ret (th_ret (in_ret (th_ret (hQ0 a_ w_ h)))))) rfl ⟨resA (o := 0) (off := 0) (vs := [.int .i64 0, .int .i64 0]) 2 rfl Tryd.isAgg23 Tryd.sizeOf23 (hs57.cells 2 rfl) rfl, resA (o := 0) (off := 0) (vs := [.int .i64 0, .int .i64 0]) 1 rfl Tryd.isAgg23 Tryd.sizeOf23 (hs57.cells 1 rfl) rfl, .tmp 0 rfl, trivial⟩ ?_
         clear hs57 hQ0 hN0 hK39 hK30
         first | (subst him; simp [pack, Book.leftR, hok, hC, hD]; done) | (simp [pack, Book.leftR, hok, hC, hD, hi0]; done) | (simp [pack, Book.leftR, hok, hC]; done) | simp [pack, Book.leftR, hok]
       · refine cd_skip ?_
         refine in_norm ?_
         refine th_norm (hK39 _ _ ?_)
         refine cd_region1 ?_
         refine sq rfl (st_move hs48 (Ev.t 1 rfl) rfl rfl fun _ _ hs49 => ?_); clear hs48
         refine sq rfl (st_add (z := (i : Int) + 1) hs49 (Ev.t 0 rfl) (.const _) rfl rfl rfl (by omega) fun _ _ hs50 => ?_); clear hs49
         have hs51 := Sx.keepT [0, 1, 2, 4, 5, 6, 7, 8, 9, 10] [_, _, _, _, _, _, _, _, _, _] ⟨rfl, rfl, rfl, rfl, rfl, rfl, rfl, rfl, rfl, rfl, trivial⟩ hs50; clear hs50
         refine sq rfl (st_assign hs51 (Ev.t 0 rfl) rfl rfl fun _ _ hs52 => ?_); clear hs51
         refine wpListIn_nil ?_
         have hs53 := Sx.keepT [0, 4, 5, 6, 7, 8, 9, 10] [_, _, _, _, _, _, _, _] ⟨rfl, rfl, rfl, rfl, rfl, rfl, rfl, rfl, trivial⟩ hs52; clear hs52
         refine ⟨i + 1, ⟨?_, ?_, ?_⟩, by omega⟩
         · first | omega | (simp; done) | (simp; omega)
         · rw [hf]; exact first_no (by omega) hc42
         rw [Book.run_succ (hi := false) hx37 hx35, Book.run_succ (hi := true) hx37 hx35]
         exact Sx.keepE [0, 1, 2, 3, 4, 5, 6, 7] _ ⟨⟨_, rfl, rfl⟩, ⟨_, rfl, rfl⟩, ⟨_, rfl, rfl⟩, ⟨_, rfl, rfl⟩, ⟨_, rfl, rfl⟩, ⟨_, rfl, rfl⟩, ⟨_, rfl, rfl⟩, ⟨_, rfl, rfl⟩, trivial⟩ hs53
     · have him : i = k.toNat + 1 := by simp at hc34; omega
       have hD : b.deadI plan k.toNat = -1 := by subst him; rw [hf, Nat.sub_self]; rfl
       refine cd_exit ?_
       refine th_exit ?_
       refine th_exit ?_
       refine in_hit ?_
       refine th_norm (hK30 _ _ ?_)
       have hs40 : Sx 63 [] [(38, .bool (decide (((i : Int) : Int) ≤ k))), (11, .int .i64 (i : Int)), (10, .pointer (some ⟨b29, 0, none⟩)), (8, .int .i64 0), (7, .pointer (some ⟨b4, 0, none⟩)), (6, .pointer (some ⟨b3, 0, none⟩)), (3, .pointer (some ⟨b2, 0, none⟩)), (1, .slice A2 m c2), (2, .int .i64 k)] [(b3, some (.cells ⟨[.int .i64 0, .int .i64 0]⟩ 23 (0, 0))), (b29, some (.cells ⟨[.int .i64 ((b.run false plan i).1), .int .i64 ((b.run true plan i).1), .int .i64 ((b.run false plan i).2), .int .i64 ((b.run true plan i).2)]⟩ 82 (0, 0))), (b4, some (.cells ⟨[.int .i64 0, .int .i64 0]⟩ 23 (0, 0))), (b2, some (.cells ⟨(bookL b A n cp)⟩ 27 (0, 0)))] [] w _ _ := Sx.front hs39 2 rfl; clear hs39
       refine cd_drawS mixed [4] ⟨Unit, fun n_ x_ => match n_ with | 0 => [] | _ => [], fun n_ x_ => match n_ with | 0 => [(b3, some (.cells ⟨[.int .i64 0, .int .i64 0]⟩ 23 (0, 0)))] | _ => [(b3, some (.cells ⟨[.int .i64 ((b.run false plan i).1), .int .i64 ((b.run true plan i).1)]⟩ 23 (0, 0)))]⟩ () hs40 [⟨59, [], Is (.pointer (some ⟨b29, 0, none⟩))⟩,
      ⟨60, [0], Is (.agg ⟨[.int .i64 ((b.run false plan i).1), .int .i64 ((b.run true plan i).1)]⟩)⟩,
      ⟨61, [], Is (.pointer (some ⟨b29, 2, none⟩))⟩,
      ⟨62, [2], Is (.agg ⟨[.int .i64 ((b.run false plan i).2), .int .i64 ((b.run true plan i).2)]⟩)⟩,
      ⟨67, [1], Is undef⟩] (by kernel_rfl) (fun n_ _ => by rcases n_ with _ | _ <;> rfl) (by kernel_rfl) fun K44 hK44 => ⟨⟨?_, ?_, ?_, ?_, ?_, trivial⟩, ?_⟩
       · intro T_ B_ a_ w_ K_ hT hB
         intro hf hsD hk
         exact ob rfl rfl (st_field (o' := 0) hsD (Ev.tmp (hT _ (mem_nth (i := 2) rfl))) rfl hf Tryd.runUnderlying82 rfl Tryd.sizeOf23 rfl rfl fun a_1 w_1 h1 => hk _ _ _ _ ⟨rfl, rfl⟩ h1)
       · intro T_ B_ a_ w_ K_ hT hB
         rintro _ _ ⟨rfl, rfl⟩ h59 -
         intro hf hsD hk
         exact ob rfl rfl (st_loadA (o := 0) (off := 0) (vs := [.int .i64 ((b.run false plan i).1), .int .i64 ((b.run true plan i).1)]) hsD (Ev.tmp h59) rfl hf Tryd.isAgg23 Tryd.sizeOf23 (hsD.cellsM (hB _ (mem_nth (i := 0) rfl))) rfl fun a_1 w_1 h1 => hk _ _ _ _ ⟨rfl, rfl⟩ h1)
       · intro T_ B_ a_ w_ K_ hT hB
         intro hf hsD hk
         exact ob rfl rfl (st_field (o' := 2) hsD (Ev.tmp (hT _ (mem_nth (i := 2) rfl))) rfl hf Tryd.runUnderlying82 rfl Tryd.sizeOf23 rfl rfl fun a_1 w_1 h1 => hk _ _ _ _ ⟨rfl, rfl⟩ h1)
       · intro T_ B_ a_ w_ K_ hT hB
         rintro _ _ ⟨rfl, rfl⟩ h61 -
         intro hf hsD hk
         exact ob rfl rfl (st_loadA (o := 0) (off := 2) (vs := [.int .i64 ((b.run false plan i).2), .int .i64 ((b.run true plan i).2)]) hsD (Ev.tmp h61) rfl hf Tryd.isAgg23 Tryd.sizeOf23 (hsD.cellsM (hB _ (mem_nth (i := 0) rfl))) rfl fun a_1 w_1 h1 => hk _ _ _ _ ⟨rfl, rfl⟩ h1)
       · intro T_ B_ a_ w_ K_ x_ hT hB
         rintro _ _ ⟨rfl, rfl⟩ h60 -
         intro hf hsD hk
         exact ob rfl rfl (st_store (l' := [.int .i64 ((b.run false plan i).1), .int .i64 ((b.run true plan i).1)]) (vs := [.int .i64 ((b.run false plan i).1), .int .i64 ((b.run true plan i).1)]) (i := 0) hsD (Ev.tmp (List.mem_append_right _ (hT _ (mem_nth (i := 5) rfl)))) (Ev.tmp (List.mem_append_right _ h60)) Tryd.sizeOf23 rfl rfl rfl rfl rfl rfl fun a_1 w_1 h1 => hk x_ _ _ h1)
       rintro _ _ ⟨rfl, rfl⟩
       rintro _ _ ⟨rfl, rfl⟩
       rintro _ _ ⟨rfl, rfl⟩
       rintro _ _ ⟨rfl, rfl⟩
       intro _ a_41 w_41 hs41
       clear hs40
       have hs42 := Sx.as (T' := [_, _, _, _, _, _, _, _, _, _, _, _, _]) (B' := [_, _, _, _]) rfl rfl hs41; clear hs41
       refine sq rfl (st_store (l' := [.int .i64 ((b.run false plan i).2), .int .i64 ((b.run true plan i).2)]) (vs := [.int .i64 ((b.run false plan i).2), .int .i64 ((b.run true plan i).2)]) (i := 2) hs42 (Ev.t 8 rfl) (Ev.t 3 rfl) Tryd.sizeOf23 rfl rfl rfl rfl rfl rfl fun _ _ hs43 => ?_); clear hs42
       have hs44 := Sx.as (T' := [_, _, _, _, _, _, _, _, _, _, _, _, _]) (B' := [_, _, _, _]) rfl rfl hs43; clear hs43
       have hs45 := Sx.keepT [0, 1, 2, 3, 4, 5, 6, 8, 9, 10, 11, 12] [_, _, _, _, _, _, _, _, _, _, _, _] ⟨rfl, rfl, rfl, rfl, rfl, rfl, rfl, rfl, rfl, rfl, rfl, rfl, trivial⟩ hs44; clear hs44
       refine sq rfl (st_assign hs45 (.const _) rfl rfl fun _ _ hs46 => ?_); clear hs45
       refine hK44 _ _ ?_; clear hK44
       have hs47 := Sx.keepT [0, 8, 9] [_, _, _] ⟨rfl, rfl, rfl, trivial⟩ hs46; clear hs46
       refine cd_retv (vs := [.agg ⟨[.int .i64 ((b.run false plan i).1), .int .i64 ((b.run true plan i).1)]⟩, .agg ⟨[.int .i64 ((b.run false plan i).2), .int .i64 ((b.run true plan i).2)]⟩, .int .i64 0]) hs47 hQ0 rfl ⟨resA (o := 0) (off := 0) (vs := [.int .i64 ((b.run false plan i).1), .int .i64 ((b.run true plan i).1)]) 2 rfl Tryd.isAgg23 Tryd.sizeOf23 (hs47.cells 0 rfl) rfl, resA (o := 0) (off := 0) (vs := [.int .i64 ((b.run false plan i).2), .int .i64 ((b.run true plan i).2)]) 1 rfl Tryd.isAgg23 Tryd.sizeOf23 (hs47.cells 2 rfl) rfl, .tmp 0 rfl, trivial⟩ ?_
       clear hs47 hQ0 hN0
       first | (subst him; simp [pack, Book.leftR, hok, hC, hD]; done) | (simp [pack, Book.leftR, hok, hC, hD, hi0]; done) | (simp [pack, Book.leftR, hok, hC]; done) | simp [pack, Book.leftR, hok]
end Go.Proofs.YtdbcedmofoakmaaDoor
