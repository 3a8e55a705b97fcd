/- The law EngineLonger: stretched, and its walk. -/
import Derived.Test.YtdbcedmofoakmaaDoorFp
import Derived.Test.YtdbcedmofoakmaaDoorEh2
set_option maxRecDepth 100000
namespace Go.Proofs.YtdbcedmofoakmaaDoor
open Go Go.Sx Go.Eng
theorem stretched_b (b : Book) (A : Option Addr) (n cp : Nat) (q : Nat) (x : Part) (hx : b.parts[q]? = some x) (d : Int) (hb : Bd b) (hd : 0 ≤ d ∧ d ≤ 100) (w : World) (hP : PartsAt w A n b.parts) (hn : n ≤ 140737488351232) :
    CallsB Tryd.prog 44 [.agg ⟨bookL b A n cp⟩, .int .i64 (q : Int), .int .i64 d] w (fun v bs => ∃ A7 c7 b7 o7, v = .agg ⟨bookL (b.upto q x (min 60 (x.mi.hi + d))) A7 n c7⟩ ∧ Sx.Own partL 4 66 A7 c7 (b.upto q x (min 60 (x.mi.hi + d))).parts b7 o7 ∧ bs = [(b7, o7)]) := by
 have hl2 := hP.len
 have hqp := (List.getElem?_eq_some_iff.1 hx).1
 have hxm := (hb.parts q x hx).1 true
 simp only [Span.end, if_true] at hxm
 refine enter (N := 31) (M := []) w Tryd.func44 rfl rfl rfl (fun Q0 a_0 hQ0 hN0 hs0 => ?_)
 refine cd_region fun K1 hK1 => ?_
 refine sq rfl (st_box hs0 (Ev.t 0 rfl) rfl rfl rfl fun b2 _ _ hs1 => ?_); clear hs0
 refine sq rfl (st_alloc hs1 rfl rfl Tryd.zeroValue27 rfl fun b3 _ _ hs2 => ?_); clear hs1
 refine hK1 _ _ ?_; clear hK1
 have hs3 := Sx.keepT [0, 1, 3, 4] [_, _, _, _] ⟨rfl, rfl, rfl, rfl, trivial⟩ hs2; clear hs2
 refine cd_region fun K4 hK4 => ?_
 refine sq rfl (st_loadA (o := 0) (off := 0) (vs := (bookL b A n cp)) hs3 (Ev.t 1 rfl) rfl rfl Tryd.isAgg27 Tryd.sizeOf27 (hs3.cells 1 rfl) rfl fun _ _ hs4 => ?_); clear hs3
 refine sq rfl (st_alloc hs4 rfl rfl Tryd.zeroValue27 rfl fun b5 _ _ hs5 => ?_); clear hs4
 refine sq rfl (st_store (l' := (bookL b A n cp)) (vs := (bookL b A n cp)) (i := 0) hs5 (Ev.t 0 rfl) (Ev.t 1 rfl) Tryd.sizeOf27 rfl rfl rfl rfl rfl rfl fun _ _ hs6 => ?_); clear hs5
 have hs7 := Sx.as (T' := [_, _, _, _, _, _]) (B' := [_, _, _]) rfl rfl hs6; clear hs6
 refine hK4 _ _ ?_; clear hK4
 have hs8 := Sx.keepT [0, 2, 3, 4, 5] [_, _, _, _, _] ⟨rfl, rfl, rfl, rfl, rfl, trivial⟩ hs7; clear hs7
 refine cd_region fun K6 hK6 => ?_
 refine sq rfl (st_buildSlice hs8 (qs := []) (e := 66) (l := []) trivial rfl rfl rfl (fun _ => by kernel_rfl) fun b7 _ _ hs9 => ?_); clear hs8
 refine sq rfl (st_field (o' := 22) hs9 (Ev.t 3 rfl) rfl rfl Tryd.runUnderlying27 rfl Tryd.sizeOf25 rfl rfl fun _ _ hs10 => ?_); clear hs9
 refine sq rfl (st_load1 (o := 0) (off := 22) (v := .slice A n cp) hs10 (Ev.t 0 rfl) rfl rfl Tryd.isAgg25 (hs10.cells 3 rfl) rfl fun _ _ hs11 => ?_); clear hs10
 refine sq rfl (st_append (enc := partL) (zs := ([] : List Part)) (ys := b.parts) (c := 0) (i := 0) hs11 (Ev.t 2 rfl) (Ev.t 0 rfl) rfl rfl Tryd.underlying25 (show (Tryd.prog.info? 66).map (fun i => (i.zero, i.size, i.bytes)) = some (some (.agg #[.int .i64 0, .int .i64 0, .bool false, .int .i64 0]), 4, 32) by kernel_rfl) rfl (fun _ => rfl) (fun _ u hu => by simp only [partL, List.mem_cons, List.not_mem_nil, or_false] at hu; rcases hu with rfl | rfl | rfl | rfl <;> rfl) (.inl ⟨rfl, rfl⟩) rfl (hP.kp hs11.kp) (by have := hb.len; simp; omega) (by have := hb.len; simp; omega) (fun A7 c7 bq oq a_12 w_12 hown hs12 => ?_)); clear hs11
 have hs13 : Sx 31 [] [(12, .slice A7 (([] : List Part).length + n) c7), (11, .slice A n cp), (10, .pointer (some ⟨b2, 22, none⟩)), (9, .slice (some ⟨b7, 0, none⟩) 0 0), (7, .pointer (some ⟨b5, 0, none⟩)), (6, .pointer (some ⟨b3, 0, none⟩)), (3, .pointer (some ⟨b2, 0, none⟩)), (1, .int .i64 (q : Int)), (2, .int .i64 d)] [(bq, oq), (b5, some (.cells ⟨(bookL b A n cp)⟩ 27 (0, 0))), (b3, some (.cells ⟨[.int .i64 0, .int .i64 0, .int .i64 0, .int .i64 0, .int .i64 0, .int .i64 0, .int .i64 0, .int .i64 0, .int .i64 0, .int .i64 0, .int .i64 0, .int .i64 0, .int .i64 0, .int .i64 0, .int .i64 0, .int .i64 0, .int .i64 0, .int .i64 0, .int .i64 0, .int .i64 0, .int .i64 0, .int .i64 0, .slice none 0 0]⟩ 27 (0, 0))), (b2, some (.cells ⟨(bookL b A n cp)⟩ 27 (0, 0)))] [] w _ _ := hs12; clear hs12
 rw [List.nil_append] at hown
 have hs14 := Sx.keepE [0, 1, 2, 3, 4, 5, 6, 7, 8] [(12, .slice A7 n c7), (11, _), (10, _), (9, _), (7, _), (6, _), (3, _), (1, _), (2, _)] ⟨⟨_, rfl, (by simp)⟩, ⟨_, rfl, rfl⟩, ⟨_, rfl, rfl⟩, ⟨_, rfl, rfl⟩, ⟨_, rfl, rfl⟩, ⟨_, rfl, rfl⟩, ⟨_, rfl, rfl⟩, ⟨_, rfl, rfl⟩, ⟨_, rfl, rfl⟩, trivial⟩ hs13; clear hs13
 refine sq rfl (st_field (o' := 22) hs14 (Ev.t 4 rfl) rfl rfl Tryd.runUnderlying27 rfl Tryd.sizeOf25 rfl rfl fun _ _ hs15 => ?_); clear hs14
 refine sq rfl (st_store (l' := [.int .i64 b.coal.lo, .int .i64 b.coal.hi, .int .i64 b.water.lo, .int .i64 b.water.hi, .int .i64 b.bunker, .int .i64 b.tank, .int .i64 b.scoop, .int .i64 b.pail, .int .i64 b.burn0.lo, .int .i64 b.burn0.hi, .int .i64 b.burn1.lo, .int .i64 b.burn1.hi, .int .i64 b.drink0.lo, .int .i64 b.drink0.hi, .int .i64 b.drink1.lo, .int .i64 b.drink1.hi, .int .i64 b.full.lo, .int .i64 b.full.hi, .int .i64 b.weak.lo, .int .i64 b.weak.hi, .int .i64 b.mark, .int .i64 b.lamp, .slice A7 n c7]) (vs := [.slice A7 n c7]) (i := 1) hs15 (Ev.t 0 rfl) (Ev.t 1 rfl) Tryd.sizeOf25 rfl rfl rfl rfl rfl rfl fun _ _ hs16 => ?_); clear hs15
 have hs17 := Sx.as (T' := [_, _, _, _, _, _, _, _, _, _]) (B' := [_, _, _, _]) rfl rfl hs16; clear hs16
 refine hK6 _ _ ?_; clear hK6
 have hs18 := Sx.keepT [5, 6, 8, 9] [_, _, _, _] ⟨rfl, rfl, rfl, rfl, trivial⟩ hs17; clear hs17
 obtain ⟨hAo, lo9, hoo, hro⟩ := hown.open hx
 refine cd_drawn mixed hs18 [⟨14, [], Is (.pointer (some ⟨b5, 22, none⟩))⟩,
      ⟨15, [0], Is (.slice A7 n c7)⟩,
      ⟨16, [], Is (.int .i64 (q : Int))⟩,
      ⟨17, [], Is (.pointer (some ⟨b5, 22, none⟩))⟩,
      ⟨18, [3], Is (.slice A7 n c7)⟩,
      ⟨19, [], Is (.int .i64 (q : Int))⟩,
      ⟨20, [4, 5], Is (.pointer (some ⟨bq, q * 4, none⟩))⟩,
      ⟨21, [6], Is (.pointer (some ⟨bq, q * 4, none⟩))⟩,
      ⟨22, [7], Is (.pointer (some ⟨bq, q * 4 + 1, none⟩))⟩,
      ⟨23, [8], Is (.int .i64 x.mi.hi)⟩,
      ⟨24, [], Is (.int .i64 d)⟩,
      ⟨25, [9, 10], Is (.int .i64 (x.mi.hi + d))⟩,
      ⟨26, [11], Is (.int .i64 (min 60 (x.mi.hi + d)))⟩] (by kernel_rfl) (by kernel_rfl) fun K8 hK8 => ⟨⟨?_, ?_, ?_, ?_, ?_, ?_, ?_, ?_, ?_, ?_, ?_, ?_, ?_, trivial⟩, ?_⟩
 · intro T_ B_ a_ w_ K_ hT hB
   intro hf hsD hk
   exact ob rfl rfl (st_field (o' := 22) hsD (Ev.tmp (hT _ (mem_nth (i := 0) rfl))) rfl hf Tryd.runUnderlying27 rfl Tryd.sizeOf25 rfl rfl fun a_1 w_1 h1 => hk _ _ _ _ ⟨rfl, rfl⟩ h1)
 · intro T_ B_ a_ w_ K_ hT hB
   rintro _ _ ⟨rfl, rfl⟩ h14 -
   intro hf hsD hk
   exact ob rfl rfl (st_load1 (o := 0) (off := 22) (v := .slice A7 n c7) hsD (Ev.tmp h14) rfl hf Tryd.isAgg25 (hsD.cellsM (hB _ (mem_nth (i := 1) rfl))) rfl fun a_1 w_1 h1 => hk _ _ _ _ ⟨rfl, rfl⟩ h1)
 · intro T_ B_ a_ w_ K_ hT hB
   intro hf hsD hk
   exact ob rfl rfl (st_move hsD (Ev.tmp (hT _ (mem_nth (i := 2) rfl))) rfl hf fun a_1 w_1 h1 => hk _ _ _ _ ⟨rfl, rfl⟩ h1)
 · intro T_ B_ a_ w_ K_ hT hB
   intro hf hsD hk
   exact ob rfl rfl (st_field (o' := 22) hsD (Ev.tmp (hT _ (mem_nth (i := 0) rfl))) rfl hf Tryd.runUnderlying27 rfl Tryd.sizeOf25 rfl rfl fun a_1 w_1 h1 => hk _ _ _ _ ⟨rfl, rfl⟩ h1)
 · intro T_ B_ a_ w_ K_ hT hB
   rintro _ _ ⟨rfl, rfl⟩ h17 -
   intro hf hsD hk
   exact ob rfl rfl (st_load1 (o := 0) (off := 22) (v := .slice A7 n c7) hsD (Ev.tmp h17) rfl hf Tryd.isAgg25 (hsD.cellsM (hB _ (mem_nth (i := 1) rfl))) rfl fun a_1 w_1 h1 => hk _ _ _ _ ⟨rfl, rfl⟩ h1)
 · intro T_ B_ a_ w_ K_ hT hB
   intro hf hsD hk
   exact ob rfl rfl (st_move hsD (Ev.tmp (hT _ (mem_nth (i := 2) rfl))) rfl hf fun a_1 w_1 h1 => hk _ _ _ _ ⟨rfl, rfl⟩ h1)
 · intro T_ B_ a_ w_ K_ hT hB
   rintro _ _ ⟨rfl, rfl⟩ h18 -
   rintro _ _ ⟨rfl, rfl⟩ h19 -
   intro hf hsD hk
   exact ob rfl rfl (st_indexM (o' := q * 4) hsD (Ev.tmp h18) (Ev.tmp h19) rfl hf hAo Tryd.runUnderlying25 Tryd.sizeOf66 ⟨by omega, by have := (List.getElem?_eq_some_iff.1 hx).1; omega⟩ (by simp) fun a_1 w_1 h1 => hk _ _ _ _ ⟨rfl, rfl⟩ h1)
 · intro T_ B_ a_ w_ K_ hT hB
   rintro _ _ ⟨rfl, rfl⟩ h20 -
   intro hf hsD hk
   exact ob rfl rfl (st_field (o' := q * 4) hsD (Ev.tmp h20) rfl hf Tryd.runUnderlying66 rfl Tryd.sizeOf23 rfl rfl fun a_1 w_1 h1 => hk _ _ _ _ ⟨rfl, rfl⟩ h1)
 · intro T_ B_ a_ w_ K_ hT hB
   rintro _ _ ⟨rfl, rfl⟩ h21 -
   intro hf hsD hk
   exact ob rfl rfl (st_field (o' := q * 4 + 1) hsD (Ev.tmp h21) rfl hf Tryd.runUnderlying23 rfl Tryd.sizeOf3 rfl rfl fun a_1 w_1 h1 => hk _ _ _ _ ⟨rfl, rfl⟩ h1)
 · intro T_ B_ a_ w_ K_ hT hB
   rintro _ _ ⟨rfl, rfl⟩ h22 -
   intro hf hsD hk
   exact ob rfl rfl (st_load1 (o := (q * 4)) (off := 1) (v := .int .i64 x.mi.hi) hsD (Ev.tmp h22) rfl hf Tryd.isAgg3 (hro.at (hsD.cellsM (by rw [← hoo]; exact hB _ (mem_nth (i := 0) rfl))) hx) rfl fun a_1 w_1 h1 => hk _ _ _ _ ⟨rfl, rfl⟩ h1)
 · intro T_ B_ a_ w_ K_ hT hB
   intro hf hsD hk
   exact ob rfl rfl (st_move hsD (Ev.tmp (hT _ (mem_nth (i := 3) rfl))) rfl hf fun a_1 w_1 h1 => hk _ _ _ _ ⟨rfl, rfl⟩ h1)
 · intro T_ B_ a_ w_ K_ hT hB
   rintro _ _ ⟨rfl, rfl⟩ h23 -
   rintro _ _ ⟨rfl, rfl⟩ h24 -
   intro hf hsD hk
   exact ob rfl rfl (st_add (z := x.mi.hi + d) hsD (Ev.tmp h23) (Ev.tmp h24) rfl hf rfl (by omega) fun a_1 w_1 h1 => hk _ _ _ _ ⟨rfl, rfl⟩ h1)
 · intro T_ B_ a_ w_ K_ hT hB
   rintro _ _ ⟨rfl, rfl⟩ h25 -
   intro hf hsD hk
   exact ob rfl rfl (st_min hsD (.const _) (Ev.tmp h25) rfl hf fun a_1 w_1 h1 => hk _ _ _ _ ⟨rfl, rfl⟩ h1)
 rintro _ _ ⟨rfl, rfl⟩
 rintro _ _ ⟨rfl, rfl⟩
 rintro _ _ ⟨rfl, rfl⟩
 rintro _ _ ⟨rfl, rfl⟩
 rintro _ _ ⟨rfl, rfl⟩
 rintro _ _ ⟨rfl, rfl⟩
 rintro _ _ ⟨rfl, rfl⟩
 rintro _ _ ⟨rfl, rfl⟩
 rintro _ _ ⟨rfl, rfl⟩
 rintro _ _ ⟨rfl, rfl⟩
 rintro _ _ ⟨rfl, rfl⟩
 rintro _ _ ⟨rfl, rfl⟩
 rintro _ _ ⟨rfl, rfl⟩
 intro a_19 w_19 hs19
 clear hs18
 have hs20 := Sx.as (T' := [_, _, _, _, _, _, _, _, _, _, _, _, _, _, _, _, _]) (B' := [_, _, _, _]) rfl rfl hs19; clear hs19
 refine sq rfl (st_indexM (o' := q * 4) hs20 (Ev.t 1 rfl) (Ev.t 2 rfl) rfl rfl hAo Tryd.runUnderlying25 Tryd.sizeOf66 ⟨by omega, by have := (List.getElem?_eq_some_iff.1 hx).1; omega⟩ (by simp) fun _ _ hs21 => ?_); clear hs20
 refine sq rfl (st_field (o' := q * 4) hs21 (Ev.t 0 rfl) rfl rfl Tryd.runUnderlying66 rfl Tryd.sizeOf23 rfl rfl fun _ _ hs22 => ?_); clear hs21
 refine sq rfl (st_field (o' := q * 4 + 1) hs22 (Ev.t 0 rfl) rfl rfl Tryd.runUnderlying23 rfl Tryd.sizeOf3 rfl rfl fun _ _ hs23 => ?_); clear hs22
 refine sq rfl (st_storeOwn (enc := partL) (sz := 4) (off := 1) (kk := q) (i := 0) (u := x) (u' := x.upto (min 60 (x.mi.hi + d))) hs23 (Ev.t 0 rfl) (Ev.t 15 rfl) Tryd.sizeOf3 rfl hown hx (fun _ => rfl) (by decide) rfl rfl rfl (fun o8 _ _ hown8 hs24 => ?_)); clear hs23
 have hs25 := Sx.as (T' := [_, _, _, _, _, _, _, _, _, _, _, _, _, _, _, _, _, _, _, _]) (B' := [_, _, _, _]) rfl rfl hs24; clear hs24
 refine hK8 _ _ ?_; clear hK8
 have hs26 := Sx.keepT [16, 17] [_, _] ⟨rfl, rfl, trivial⟩ hs25; clear hs25
 refine cd_region fun K9 hK9 => ?_
 refine sq rfl (st_loadA (o := 0) (off := 0) (vs := [.int .i64 b.coal.lo, .int .i64 b.coal.hi, .int .i64 b.water.lo, .int .i64 b.water.hi, .int .i64 b.bunker, .int .i64 b.tank, .int .i64 b.scoop, .int .i64 b.pail, .int .i64 b.burn0.lo, .int .i64 b.burn0.hi, .int .i64 b.burn1.lo, .int .i64 b.burn1.hi, .int .i64 b.drink0.lo, .int .i64 b.drink0.hi, .int .i64 b.drink1.lo, .int .i64 b.drink1.hi, .int .i64 b.full.lo, .int .i64 b.full.hi, .int .i64 b.weak.lo, .int .i64 b.weak.hi, .int .i64 b.mark, .int .i64 b.lamp, .slice A7 n c7]) hs26 (Ev.t 0 rfl) rfl rfl Tryd.isAgg27 Tryd.sizeOf27 (hs26.cells 1 rfl) rfl fun _ _ hs27 => ?_); clear hs26
 refine sq rfl (st_store (l' := [.int .i64 b.coal.lo, .int .i64 b.coal.hi, .int .i64 b.water.lo, .int .i64 b.water.hi, .int .i64 b.bunker, .int .i64 b.tank, .int .i64 b.scoop, .int .i64 b.pail, .int .i64 b.burn0.lo, .int .i64 b.burn0.hi, .int .i64 b.burn1.lo, .int .i64 b.burn1.hi, .int .i64 b.drink0.lo, .int .i64 b.drink0.hi, .int .i64 b.drink1.lo, .int .i64 b.drink1.hi, .int .i64 b.full.lo, .int .i64 b.full.hi, .int .i64 b.weak.lo, .int .i64 b.weak.hi, .int .i64 b.mark, .int .i64 b.lamp, .slice A7 n c7]) (vs := [.int .i64 b.coal.lo, .int .i64 b.coal.hi, .int .i64 b.water.lo, .int .i64 b.water.hi, .int .i64 b.bunker, .int .i64 b.tank, .int .i64 b.scoop, .int .i64 b.pail, .int .i64 b.burn0.lo, .int .i64 b.burn0.hi, .int .i64 b.burn1.lo, .int .i64 b.burn1.hi, .int .i64 b.drink0.lo, .int .i64 b.drink0.hi, .int .i64 b.drink1.lo, .int .i64 b.drink1.hi, .int .i64 b.full.lo, .int .i64 b.full.hi, .int .i64 b.weak.lo, .int .i64 b.weak.hi, .int .i64 b.mark, .int .i64 b.lamp, .slice A7 n c7]) (i := 2) hs27 (Ev.t 2 rfl) (Ev.t 0 rfl) Tryd.sizeOf27 rfl rfl rfl rfl rfl rfl fun _ _ hs28 => ?_); clear hs27
 have hs29 := Sx.as (T' := [_, _, _]) (B' := [_, _, _, _]) rfl rfl hs28; clear hs28
 refine hK9 _ _ ?_; clear hK9
 have hs30 := Sx.keepT [2] [_] ⟨rfl, trivial⟩ hs29; clear hs29
 exact cd_ret (vs := [.agg ⟨[.int .i64 b.coal.lo, .int .i64 b.coal.hi, .int .i64 b.water.lo, .int .i64 b.water.hi, .int .i64 b.bunker, .int .i64 b.tank, .int .i64 b.scoop, .int .i64 b.pail, .int .i64 b.burn0.lo, .int .i64 b.burn0.hi, .int .i64 b.burn1.lo, .int .i64 b.burn1.hi, .int .i64 b.drink0.lo, .int .i64 b.drink0.hi, .int .i64 b.drink1.lo, .int .i64 b.drink1.hi, .int .i64 b.full.lo, .int .i64 b.full.hi, .int .i64 b.weak.lo, .int .i64 b.weak.hi, .int .i64 b.mark, .int .i64 b.lamp, .slice A7 n c7]⟩]) (bs := [(bq, o8)]) hs30 hQ0 rfl ⟨resA (o := 0) (off := 0) (vs := [.int .i64 b.coal.lo, .int .i64 b.coal.hi, .int .i64 b.water.lo, .int .i64 b.water.hi, .int .i64 b.bunker, .int .i64 b.tank, .int .i64 b.scoop, .int .i64 b.pail, .int .i64 b.burn0.lo, .int .i64 b.burn0.hi, .int .i64 b.burn1.lo, .int .i64 b.burn1.hi, .int .i64 b.drink0.lo, .int .i64 b.drink0.hi, .int .i64 b.drink1.lo, .int .i64 b.drink1.hi, .int .i64 b.full.lo, .int .i64 b.full.hi, .int .i64 b.weak.lo, .int .i64 b.weak.hi, .int .i64 b.mark, .int .i64 b.lamp, .slice A7 n c7]) 0 rfl Tryd.isAgg27 Tryd.sizeOf27 (hs30.cells 2 rfl) rfl, trivial⟩ (.cons_cons _ (List.nil_sublist _)) ⟨A7, c7, bq, o8, rfl, hown8, rfl⟩

theorem EngineLonger_v (b : Book) (A : Option Addr) (n cp : Nat) (k0 k1 : Int) (w : World) (hP : PartsAt w A n b.parts) (hn : n ≤ 140737488351232) (hG : CellsAt w 0 0 stuffsL) (hcp : n ≤ cp) :
    CallsV Tryd.prog 9 [.agg ⟨(bookL b A n cp)⟩, .agg ⟨[.int .i64 k0, .int .i64 k1]⟩] w (.bool true) := by
 refine enter (N := 130) (M := []) w Tryd.func9 rfl rfl rfl (fun Q0 a_0 hQ0 hN0 hs0 => ?_)
 rcases hok : b.ok with _ | _
 · skip
   refine cd_region fun K1 hK1 => ?_
   refine sq rfl (st_box hs0 (Ev.t 0 rfl) rfl rfl rfl fun b2 _ _ hs1 => ?_); clear hs0
   refine sq rfl (st_box hs1 (Ev.t 2 rfl) rfl rfl rfl fun b3 _ _ hs2 => ?_); clear hs1
   refine sq rfl (st_assign hs2 (.const _) rfl rfl fun _ _ hs3 => ?_); clear hs2
   refine hK1 _ _ ?_; clear hK1
   have hs4 := Sx.keepT [0, 1, 2] [_, _, _] ⟨rfl, rfl, rfl, trivial⟩ hs3; clear hs3
   refine cd_seq fun K4 hK4 => ?_
   refine cd_region fun K5 hK5 => ?_
   refine sq rfl (st_loadA (o := 0) (off := 0) (vs := (bookL b A n cp)) hs4 (Ev.t 2 rfl) rfl rfl Tryd.isAgg27 Tryd.sizeOf27 (hs4.cells 1 rfl) rfl fun _ _ hs5 => ?_); clear hs4
   refine sq rfl (st_callv (vs := [.agg ⟨(bookL b A n cp)⟩]) hs5 (.func _) ⟨(Ev.t 0 rfl), trivial⟩ rfl rfl Tryd.call32 rfl (callsV_eq (v' := .bool false) (sound_v b A n cp _ (hP.kp hs5.kp) hn) (by rw [hok])) fun _ _ hs6 => ?_); clear hs5
   refine sq rfl (st_not hs6 (Ev.t 0 rfl) rfl rfl fun _ _ hs7 => ?_); clear hs6
   refine hK5 _ _ ?_; clear hK5
   have hs8 := Sx.keepT [0, 3, 4, 5] [_, _, _, _] ⟨rfl, rfl, rfl, rfl, trivial⟩ hs7; clear hs7
   have hc6 : true = true := rfl
   refine cd_cond hs8 (Ev.t 0 rfl) (fun _ => ?_) (fun h => absurd (hc6.symm.trans h) (by decide))
   refine cd_region fun K7 hK7 => ?_
   refine sq rfl (st_callv (vs := []) hs8 (.func _) trivial rfl rfl Tryd.call20 rfl (fired_v _ (hG.kp hs8.kp (by simp))) fun _ _ hs9 => ?_); clear hs8
   have hs10 := Sx.keepT [0, 1, 3, 4] [_, _, _, _] ⟨rfl, rfl, rfl, rfl, trivial⟩ hs9; clear hs9
   refine sq rfl (st_assign hs10 (Ev.t 0 rfl) rfl rfl fun _ _ hs11 => ?_); clear hs10
   refine hK7 _ _ ?_; clear hK7
   have hs12 := Sx.keepT [0] [_] ⟨rfl, trivial⟩ hs11; clear hs11
   refine cd_retv (vs := [.bool true]) hs12 (fun a_ w_ h => th_ret (hQ0 a_ w_ h)) rfl ⟨.tmp 0 rfl, trivial⟩ ?_
   clear hs12 hQ0 hN0 hK4
   first | rfl | (simp [pack]; done) | (simp [pack]; omega)
 · skip
   have hb := ok_bd hok
   have hl2 := hP.len
   have hl5 := ok_len hok
   have htb := turn_bd (n := k0) (m := (n : Int)) (by omega)
   obtain ⟨q, hq⟩ : ∃ q : Nat, (q : Int) = turn k0 (n : Int) := ⟨(turn k0 (n : Int)).toNat, Int.toNat_of_nonneg htb.1⟩
   have hql : q < b.parts.length := by omega
   obtain ⟨x, hx⟩ : ∃ x, b.parts[q]? = some x := ⟨_, List.getElem?_eq_getElem hql⟩
   obtain ⟨r, hr⟩ : ∃ r, b.most b.parts.length = r := ⟨_, rfl⟩
   have hRp : b.partsR = ((r : Int), 0) := by rw [partsR_ok hok, hr]
   have hrn := most_le b b.parts.length
   rw [hr] at hrn
   have hw1 : within (r : Int) 0 (n : Int) = true := Eng.within_iff.2 (by omega)
   have hcl := can_len hok
   rw [hr] at hcl
   have hx5 := ok_part hok hx
   simp only [okSpan_iff, Eng.within_iff] at hx5
   rcases long_cases hok hx with ⟨hcan, hR⟩ | ⟨hcan, z, hR, hat⟩
   · skip
     have hpe : b.planR.2 = 4 := by rw [planR_ok hok, hcan]; rfl
     have hrl : ¬ r = b.parts.length := fun e => by have := hcl.2 e; rw [hcan] at this; cases this
     refine cd_region fun K8 hK8 => ?_
     refine sq rfl (st_box hs0 (Ev.t 0 rfl) rfl rfl rfl fun b9 _ _ hs1 => ?_); clear hs0
     refine sq rfl (st_box hs1 (Ev.t 2 rfl) rfl rfl rfl fun b10 _ _ hs2 => ?_); clear hs1
     refine sq rfl (st_assign hs2 (.const _) rfl rfl fun _ _ hs3 => ?_); clear hs2
     refine hK8 _ _ ?_; clear hK8
     have hs4 := Sx.keepT [0, 1, 2] [_, _, _] ⟨rfl, rfl, rfl, trivial⟩ hs3; clear hs3
     refine cd_seq fun K11 hK11 => ?_
     refine cd_region fun K12 hK12 => ?_
     refine sq rfl (st_loadA (o := 0) (off := 0) (vs := (bookL b A n cp)) hs4 (Ev.t 2 rfl) rfl rfl Tryd.isAgg27 Tryd.sizeOf27 (hs4.cells 1 rfl) rfl fun _ _ hs5 => ?_); clear hs4
     refine sq rfl (st_callv (vs := [.agg ⟨(bookL b A n cp)⟩]) hs5 (.func _) ⟨(Ev.t 0 rfl), trivial⟩ rfl rfl Tryd.call32 rfl (callsV_eq (v' := .bool true) (sound_v b A n cp _ (hP.kp hs5.kp) hn) (by rw [hok])) fun _ _ hs6 => ?_); clear hs5
     refine sq rfl (st_not hs6 (Ev.t 0 rfl) rfl rfl fun _ _ hs7 => ?_); clear hs6
     refine hK12 _ _ ?_; clear hK12
     have hs8 := Sx.keepT [0, 3, 4, 5] [_, _, _, _] ⟨rfl, rfl, rfl, rfl, trivial⟩ hs7; clear hs7
     have hc13 : false = false := rfl
     refine cd_cond hs8 (Ev.t 0 rfl) (fun h => absurd (hc13.symm.trans h) (by decide)) (fun _ => ?_)
     refine cd_skip ?_
     refine th_norm (hK11 _ _ ?_)
     refine cd_region fun K14 hK14 => ?_
     refine sq rfl (st_indexArr (o' := 0) hs8 (Ev.t 2 rfl) (.const _) rfl rfl Tryd.runUnderlying29 Tryd.sizeOf3 (by decide) rfl fun _ _ hs9 => ?_); clear hs8
     refine sq rfl (st_load1 (o := 0) (off := 0) (v := .int .i64 k0) hs9 (Ev.t 0 rfl) rfl rfl Tryd.isAgg3 (hs9.cells 0 rfl) rfl fun _ _ hs10 => ?_); clear hs9
     refine sq rfl (st_field (o' := 22) hs10 (Ev.t 5 rfl) rfl rfl Tryd.runUnderlying27 rfl Tryd.sizeOf25 rfl rfl fun _ _ hs11 => ?_); clear hs10
     refine sq rfl (st_load1 (o := 0) (off := 22) (v := .slice A n cp) hs11 (Ev.t 0 rfl) rfl rfl Tryd.isAgg25 (hs11.cells 1 rfl) rfl fun _ _ hs12 => ?_); clear hs11
     refine sq rfl (st_len hs12 (Ev.t 0 rfl) rfl rfl Tryd.runUnderlying25 fun _ _ hs13 => ?_); clear hs12
     refine sq rfl (st_callv (vs := [.int .i64 k0, .int .i64 (n : Int)]) hs13 (.func _) ⟨(Ev.t 3 rfl), (Ev.t 0 rfl), trivial⟩ rfl rfl Tryd.call38 rfl (turn_v k0 (n : Int) (by omega) _) fun _ _ hs14 => ?_); clear hs13
     refine sq rfl (st_assign hs14 (Ev.t 0 rfl) rfl rfl fun _ _ hs15 => ?_); clear hs14
     refine hK14 _ _ ?_; clear hK14
     have hs16 := Sx.keepT [0, 8, 9, 10] [_, _, _, _] ⟨rfl, rfl, rfl, rfl, trivial⟩ hs15; clear hs15
     have hs17 := Sx.keepE [0, 1, 2, 3] [(5, .int .i64 (q : Int)), (4, _), (3, _), (2, _)] ⟨⟨_, rfl, (by rw [hq])⟩, ⟨_, rfl, rfl⟩, ⟨_, rfl, rfl⟩, ⟨_, rfl, rfl⟩, trivial⟩ hs16; clear hs16
     refine cd_region fun K15 hK15 => ?_
     refine sq rfl (st_loadA (o := 0) (off := 0) (vs := (bookL b A n cp)) hs17 (Ev.t 3 rfl) rfl rfl Tryd.isAgg27 Tryd.sizeOf27 (hs17.cells 1 rfl) rfl fun _ _ hs18 => ?_); clear hs17
     refine sq rfl (st_move hs18 (Ev.t 1 rfl) rfl rfl fun _ _ hs19 => ?_); clear hs18
     refine sq rfl (st_callv (vs := [.agg ⟨(bookL b A n cp)⟩, .int .i64 (q : Int)]) hs19 (.func _) ⟨(Ev.t 1 rfl), (Ev.t 0 rfl), trivial⟩ rfl rfl Tryd.call28 rfl (callsV_eq (v' := .tuple ⟨[.int .i64 0, .int .i64 4]⟩) (Longer_v b A n cp (q : Int) _ (hP.kp hs19.kp) hn (hG.kp hs19.kp (by simp))) (by rw [hR])) fun _ _ hs20 => ?_); clear hs19
     refine sq rfl (st_move hs20 (Ev.t 0 rfl) rfl rfl fun _ _ hs21 => ?_); clear hs20
     refine sq rfl (st_extract hs21 (Ev.t 0 rfl) rfl rfl rfl fun _ _ hs22 => ?_); clear hs21
     refine sq rfl (st_extract hs22 (Ev.t 1 rfl) rfl rfl rfl fun _ _ hs23 => ?_); clear hs22
     refine sq rfl (st_assign hs23 (Ev.t 1 rfl) rfl rfl fun _ _ hs24 => ?_); clear hs23
     refine sq rfl (st_assign hs24 (Ev.t 1 rfl) rfl rfl fun _ _ hs25 => ?_); clear hs24
     refine hK15 _ _ ?_; clear hK15
     have hs26 := Sx.keepT [0, 1, 8, 9, 10, 11] [_, _, _, _, _, _] ⟨rfl, rfl, rfl, rfl, rfl, rfl, trivial⟩ hs25; clear hs25
     refine cd_region fun K16 hK16 => ?_
     refine sq rfl (st_loadA (o := 0) (off := 0) (vs := (bookL b A n cp)) hs26 (Ev.t 5 rfl) rfl rfl Tryd.isAgg27 Tryd.sizeOf27 (hs26.cells 1 rfl) rfl fun _ _ hs27 => ?_); clear hs26
     refine sq rfl (st_callv (vs := [.agg ⟨(bookL b A n cp)⟩]) hs27 (.func _) ⟨(Ev.t 0 rfl), trivial⟩ rfl rfl Tryd.call26 rfl (callsV_eq (v' := .tuple ⟨[.int .i64 (r : Int), .int .i64 0]⟩) (Parts_v b A n cp _ (hP.kp hs27.kp) hn (hG.kp hs27.kp (by simp)) hcp) (by rw [hRp])) fun _ _ hs28 => ?_); clear hs27
     refine sq rfl (st_move hs28 (Ev.t 0 rfl) rfl rfl fun _ _ hs29 => ?_); clear hs28
     refine sq rfl (st_extract hs29 (Ev.t 0 rfl) rfl rfl rfl fun _ _ hs30 => ?_); clear hs29
     refine sq rfl (st_extract hs30 (Ev.t 1 rfl) rfl rfl rfl fun _ _ hs31 => ?_); clear hs30
     refine sq rfl (st_assign hs31 (Ev.t 1 rfl) rfl rfl fun _ _ hs32 => ?_); clear hs31
     refine sq rfl (st_assign hs32 (Ev.t 1 rfl) rfl rfl fun _ _ hs33 => ?_); clear hs32
     refine hK16 _ _ ?_; clear hK16
     have hs34 := Sx.keepT [0, 1, 7, 8, 9, 10, 11, 12] [_, _, _, _, _, _, _, _] ⟨rfl, rfl, rfl, rfl, rfl, rfl, rfl, rfl, trivial⟩ hs33; clear hs33
     refine cd_region fun K17 hK17 => ?_
     refine sq rfl (st_loadA (o := 0) (off := 0) (vs := (bookL b A n cp)) hs34 (Ev.t 7 rfl) rfl rfl Tryd.isAgg27 Tryd.sizeOf27 (hs34.cells 1 rfl) rfl fun _ _ hs35 => ?_); clear hs34
     refine sq rfl (st_call (vs := [.agg ⟨(bookL b A n cp)⟩]) hs35 (.func _) ⟨(Ev.t 0 rfl), trivial⟩ rfl rfl Tryd.call23 rfl (plansL hpe (Plan_b b A n cp _ (hP.kp hs35.kp) hn (hG.kp hs35.kp (by simp)))) fun v19 bs20 a_36 w_36 hp36 hs36 => ?_); clear hs35
     obtain ⟨Ap18, np18, cq18, rfl, rfl⟩ := hp36
     have hs37 := Sx.as (T' := [_, _, _, _, _, _, _, _, _, _]) (B' := [_, _]) rfl rfl hs36; clear hs36
     refine sq rfl (st_move hs37 (Ev.t 0 rfl) rfl rfl fun _ _ hs38 => ?_); clear hs37
     refine sq rfl (st_extract hs38 (Ev.t 0 rfl) rfl rfl rfl fun _ _ hs39 => ?_); clear hs38
     refine sq rfl (st_extract hs39 (Ev.t 1 rfl) rfl rfl rfl fun _ _ hs40 => ?_); clear hs39
     refine sq rfl (st_assign hs40 (Ev.t 1 rfl) rfl rfl fun _ _ hs41 => ?_); clear hs40
     refine sq rfl (st_assign hs41 (Ev.t 1 rfl) rfl rfl fun _ _ hs42 => ?_); clear hs41
     refine hK17 _ _ ?_; clear hK17
     have hs43 := Sx.keepT [0, 7, 8, 9, 10, 11, 12, 13, 14] [_, _, _, _, _, _, _, _, _] ⟨rfl, rfl, rfl, rfl, rfl, rfl, rfl, rfl, rfl, trivial⟩ hs42; clear hs42
     refine cd_seq fun K21 hK21 => ?_
     refine cd_region fun K22 hK22 => ?_
     refine sq rfl (st_move hs43 (Ev.t 3 rfl) rfl rfl fun _ _ hs44 => ?_); clear hs43
     refine sq rfl (st_move hs44 (Ev.t 1 rfl) rfl rfl fun _ _ hs45 => ?_); clear hs44
     refine sq rfl (st_cmp (c := false) hs45 (Ev.t 1 rfl) (Ev.t 0 rfl) rfl rfl rfl rfl fun _ _ hs46 => ?_); clear hs45
     refine sq rfl (st_move hs46 (Ev.t 0 rfl) rfl rfl fun _ _ hs47 => ?_); clear hs46
     refine sq_on hs47 rfl rfl 0 rfl rfl (st_move hs47 (Ev.t 5 rfl) rfl rfl fun _ _ hs48 => ?_); clear hs47
     refine sq_on hs48 rfl rfl 1 rfl rfl (st_cmp (c := false) hs48 (Ev.t 0 rfl) (.const _) rfl rfl rfl rfl fun _ _ hs49 => ?_); clear hs48
     refine sq rfl (st_pick hs49 (Ev.t 2 rfl) rfl rfl (fun h => by cases h) (fun h => (Ev.t 0 rfl)) fun _ _ hs50 => ?_); clear hs49
     refine sq rfl (st_move hs50 (Ev.t 0 rfl) rfl rfl fun _ _ hs51 => ?_); clear hs50
     refine sq_on hs51 rfl rfl 0 rfl rfl (st_move hs51 (Ev.t 10 rfl) rfl rfl fun _ _ hs52 => ?_); clear hs51
     refine sq_on hs52 rfl rfl 1 rfl rfl (st_field (o' := 22) hs52 (Ev.t 17 rfl) rfl rfl Tryd.runUnderlying27 rfl Tryd.sizeOf25 rfl rfl fun _ _ hs53 => ?_); clear hs52
     refine sq_on hs53 rfl rfl 2 rfl rfl (st_load1 (o := 0) (off := 22) (v := .slice A n cp) hs53 (Ev.t 0 rfl) rfl rfl Tryd.isAgg25 (hs53.cells 1 rfl) rfl fun _ _ hs54 => ?_); clear hs53
     refine sq_on hs54 rfl rfl 3 rfl rfl (st_len hs54 (Ev.t 0 rfl) rfl rfl Tryd.runUnderlying25 fun _ _ hs55 => ?_); clear hs54
     refine sq_on hs55 rfl rfl 4 rfl rfl (st_callv (vs := [.int .i64 (r : Int), .int .i64 0, .int .i64 (n : Int)]) hs55 (.func _) ⟨(Ev.t 3 rfl), (.const _), (Ev.t 0 rfl), trivial⟩ rfl rfl Tryd.call37 rfl (amid_t (r : Int) 0 (n : Int) (by assumption) _) fun _ _ hs56 => ?_); clear hs55
     refine sq_on hs56 rfl rfl 5 rfl rfl (st_not hs56 (Ev.t 0 rfl) rfl rfl fun _ _ hs57 => ?_); clear hs56
     refine sq rfl (st_pick hs57 (Ev.t 6 rfl) rfl rfl (fun h => by cases h) (fun h => (Ev.t 0 rfl)) fun _ _ hs58 => ?_); clear hs57
     refine sq rfl (st_move hs58 (Ev.t 0 rfl) rfl rfl fun _ _ hs59 => ?_); clear hs58
     refine sq_on hs59 rfl rfl 0 rfl rfl (st_move hs59 (Ev.t 18 rfl) rfl rfl fun _ _ hs60 => ?_); clear hs59
     refine sq_on hs60 rfl rfl 1 rfl rfl (st_field (o' := 22) hs60 (Ev.t 25 rfl) rfl rfl Tryd.runUnderlying27 rfl Tryd.sizeOf25 rfl rfl fun _ _ hs61 => ?_); clear hs60
     refine sq_on hs61 rfl rfl 2 rfl rfl (st_load1 (o := 0) (off := 22) (v := .slice A n cp) hs61 (Ev.t 0 rfl) rfl rfl Tryd.isAgg25 (hs61.cells 1 rfl) rfl fun _ _ hs62 => ?_); clear hs61
     refine sq_on hs62 rfl rfl 3 rfl rfl (st_len hs62 (Ev.t 0 rfl) rfl rfl Tryd.runUnderlying25 fun _ _ hs63 => ?_); clear hs62
     refine sq_on hs63 rfl rfl 4 rfl rfl (st_cmp (c := ((r : Int) : Int) == (n : Int)) hs63 (Ev.t 3 rfl) (Ev.t 0 rfl) rfl rfl rfl rfl fun _ _ hs64 => ?_); clear hs63
     refine sq_on hs64 rfl rfl 5 rfl rfl (st_move hs64 (Ev.t 21 rfl) rfl rfl fun _ _ hs65 => ?_); clear hs64
     refine sq_on hs65 rfl rfl 6 rfl rfl (st_cmp (c := false) hs65 (Ev.t 0 rfl) (.const _) rfl rfl rfl rfl fun _ _ hs66 => ?_); clear hs65
     refine sq_on hs66 rfl rfl 7 rfl rfl (st_bin hs66 (Ev.t 2 rfl) (Ev.t 0 rfl) (run_neb 4 Tryd.underlying4 _ _ (((r : Int) : Int) == (n : Int)) false) rfl rfl fun _ _ hs67 => ?_); clear hs66
     refine sq rfl (st_pick hs67 (Ev.t 8 rfl) rfl rfl (fun h => by cases h) (fun h => (Ev.t 0 rfl)) fun _ _ hs68 => ?_); clear hs67
     refine hK22 _ _ ?_; clear hK22
     have hs69 := Sx.keepT [0, 28, 29, 30, 31, 32, 33] [_, _, _, _, _, _, _] ⟨rfl, rfl, rfl, rfl, rfl, rfl, rfl, trivial⟩ hs68; clear hs68
     have hc23 : ((((r : Int) : Int) == (n : Int)) != false) = false := by simp; omega
     refine cd_cond hs69 (Ev.t 0 rfl) (fun h => absurd (hc23.symm.trans h) (by decide)) (fun _ => ?_)
     refine cd_skip ?_
     refine th_norm (hK21 _ _ ?_)
     refine cd_seq fun K24 hK24 => ?_
     refine cd_region fun K25 hK25 => ?_
     refine sq rfl (st_move hs69 (Ev.t 1 rfl) rfl rfl fun _ _ hs70 => ?_); clear hs69
     refine sq rfl (st_cmp (c := true) hs70 (Ev.t 0 rfl) (.const _) rfl rfl rfl rfl fun _ _ hs71 => ?_); clear hs70
     refine hK25 _ _ ?_; clear hK25
     have hs72 := Sx.keepT [0, 3, 4, 5, 6, 7, 8] [_, _, _, _, _, _, _] ⟨rfl, rfl, rfl, rfl, rfl, rfl, rfl, trivial⟩ hs71; clear hs71
     have hc26 : true = true := rfl
     refine cd_cond hs72 (Ev.t 0 rfl) (fun _ => ?_) (fun h => absurd (hc26.symm.trans h) (by decide))
     refine cd_region fun K27 hK27 => ?_
     refine sq rfl (st_move hs72 (Ev.t 1 rfl) rfl rfl fun _ _ hs73 => ?_); clear hs72
     refine sq rfl (st_cmp (c := true) hs73 (Ev.t 0 rfl) (.const _) rfl rfl rfl rfl fun _ _ hs74 => ?_); clear hs73
     refine sq rfl (st_move hs74 (Ev.t 0 rfl) rfl rfl fun _ _ hs75 => ?_); clear hs74
     refine sq_on hs75 rfl rfl 0 rfl rfl (st_move hs75 (Ev.t 5 rfl) rfl rfl fun _ _ hs76 => ?_); clear hs75
     refine sq_on hs76 rfl rfl 1 rfl rfl (st_cmp (c := true) hs76 (Ev.t 0 rfl) (.const _) rfl rfl rfl rfl fun _ _ hs77 => ?_); clear hs76
     refine sq rfl (st_pick hs77 (Ev.t 2 rfl) rfl rfl (fun h => (Ev.t 0 rfl)) (fun h => by cases h) fun _ _ hs78 => ?_); clear hs77
     refine sq rfl (st_move hs78 (Ev.t 0 rfl) rfl rfl fun _ _ hs79 => ?_); clear hs78
     refine sq_on hs79 rfl rfl 0 rfl rfl (st_callv (vs := []) hs79 (.func _) trivial rfl rfl Tryd.call20 rfl (fired_v _ (hG.kp hs79.kp (by simp))) fun _ _ hs80 => ?_); clear hs79
     refine sq rfl (st_pick hs80 (Ev.t 1 rfl) rfl rfl (fun h => (Ev.t 0 rfl)) (fun h => by cases h) fun _ _ hs81 => ?_); clear hs80
     have hs82 := Sx.keepT [0, 1, 2, 3, 4, 5, 6, 7, 8, 9, 10, 11, 12, 14, 15] [_, _, _, _, _, _, _, _, _, _, _, _, _, _, _] ⟨rfl, rfl, rfl, rfl, rfl, rfl, rfl, rfl, rfl, rfl, rfl, rfl, rfl, rfl, rfl, trivial⟩ hs81; clear hs81
     refine sq rfl (st_assign hs82 (Ev.t 0 rfl) rfl rfl fun _ _ hs83 => ?_); clear hs82
     refine hK27 _ _ ?_; clear hK27
     have hs84 := Sx.keepT [0] [_] ⟨rfl, trivial⟩ hs83; clear hs83
     refine cd_retv (vs := [.bool true]) hs84 (fun a_ w_ h => th_ret (hQ0 a_ w_ h)) rfl ⟨.tmp 0 rfl, trivial⟩ ?_
     clear hs84 hQ0 hN0 hK24
     first | rfl | (simp [pack]; done) | (simp [pack]; omega)
   · skip
     have hpe : b.planR.2 = 0 := by rw [planR_ok hok, hcan]; rfl
     have hrl := hcl.1 hcan
     have hz60 := hat.le
     have hw2 : within (z : Int) 0 60 = true := Eng.within_iff.2 (by omega)
     have htz := turn_bd (n := k1) (m := (z : Int) + 1) (by omega)
     refine cd_region fun K28 hK28 => ?_
     refine sq rfl (st_box hs0 (Ev.t 0 rfl) rfl rfl rfl fun b29 _ _ hs1 => ?_); clear hs0
     refine sq rfl (st_box hs1 (Ev.t 2 rfl) rfl rfl rfl fun b30 _ _ hs2 => ?_); clear hs1
     refine sq rfl (st_assign hs2 (.const _) rfl rfl fun _ _ hs3 => ?_); clear hs2
     refine hK28 _ _ ?_; clear hK28
     have hs4 := Sx.keepT [0, 1, 2] [_, _, _] ⟨rfl, rfl, rfl, trivial⟩ hs3; clear hs3
     refine cd_seq fun K31 hK31 => ?_
     refine cd_region fun K32 hK32 => ?_
     refine sq rfl (st_loadA (o := 0) (off := 0) (vs := (bookL b A n cp)) hs4 (Ev.t 2 rfl) rfl rfl Tryd.isAgg27 Tryd.sizeOf27 (hs4.cells 1 rfl) rfl fun _ _ hs5 => ?_); clear hs4
     refine sq rfl (st_callv (vs := [.agg ⟨(bookL b A n cp)⟩]) hs5 (.func _) ⟨(Ev.t 0 rfl), trivial⟩ rfl rfl Tryd.call32 rfl (callsV_eq (v' := .bool true) (sound_v b A n cp _ (hP.kp hs5.kp) hn) (by rw [hok])) fun _ _ hs6 => ?_); clear hs5
     refine sq rfl (st_not hs6 (Ev.t 0 rfl) rfl rfl fun _ _ hs7 => ?_); clear hs6
     refine hK32 _ _ ?_; clear hK32
     have hs8 := Sx.keepT [0, 3, 4, 5] [_, _, _, _] ⟨rfl, rfl, rfl, rfl, trivial⟩ hs7; clear hs7
     have hc33 : false = false := rfl
     refine cd_cond hs8 (Ev.t 0 rfl) (fun h => absurd (hc33.symm.trans h) (by decide)) (fun _ => ?_)
     refine cd_skip ?_
     refine th_norm (hK31 _ _ ?_)
     refine cd_region fun K34 hK34 => ?_
     refine sq rfl (st_indexArr (o' := 0) hs8 (Ev.t 2 rfl) (.const _) rfl rfl Tryd.runUnderlying29 Tryd.sizeOf3 (by decide) rfl fun _ _ hs9 => ?_); clear hs8
     refine sq rfl (st_load1 (o := 0) (off := 0) (v := .int .i64 k0) hs9 (Ev.t 0 rfl) rfl rfl Tryd.isAgg3 (hs9.cells 0 rfl) rfl fun _ _ hs10 => ?_); clear hs9
     refine sq rfl (st_field (o' := 22) hs10 (Ev.t 5 rfl) rfl rfl Tryd.runUnderlying27 rfl Tryd.sizeOf25 rfl rfl fun _ _ hs11 => ?_); clear hs10
     refine sq rfl (st_load1 (o := 0) (off := 22) (v := .slice A n cp) hs11 (Ev.t 0 rfl) rfl rfl Tryd.isAgg25 (hs11.cells 1 rfl) rfl fun _ _ hs12 => ?_); clear hs11
     refine sq rfl (st_len hs12 (Ev.t 0 rfl) rfl rfl Tryd.runUnderlying25 fun _ _ hs13 => ?_); clear hs12
     refine sq rfl (st_callv (vs := [.int .i64 k0, .int .i64 (n : Int)]) hs13 (.func _) ⟨(Ev.t 3 rfl), (Ev.t 0 rfl), trivial⟩ rfl rfl Tryd.call38 rfl (turn_v k0 (n : Int) (by omega) _) fun _ _ hs14 => ?_); clear hs13
     refine sq rfl (st_assign hs14 (Ev.t 0 rfl) rfl rfl fun _ _ hs15 => ?_); clear hs14
     refine hK34 _ _ ?_; clear hK34
     have hs16 := Sx.keepT [0, 8, 9, 10] [_, _, _, _] ⟨rfl, rfl, rfl, rfl, trivial⟩ hs15; clear hs15
     have hs17 := Sx.keepE [0, 1, 2, 3] [(5, .int .i64 (q : Int)), (4, _), (3, _), (2, _)] ⟨⟨_, rfl, (by rw [hq])⟩, ⟨_, rfl, rfl⟩, ⟨_, rfl, rfl⟩, ⟨_, rfl, rfl⟩, trivial⟩ hs16; clear hs16
     refine cd_region fun K35 hK35 => ?_
     refine sq rfl (st_loadA (o := 0) (off := 0) (vs := (bookL b A n cp)) hs17 (Ev.t 3 rfl) rfl rfl Tryd.isAgg27 Tryd.sizeOf27 (hs17.cells 1 rfl) rfl fun _ _ hs18 => ?_); clear hs17
     refine sq rfl (st_move hs18 (Ev.t 1 rfl) rfl rfl fun _ _ hs19 => ?_); clear hs18
     refine sq rfl (st_callv (vs := [.agg ⟨(bookL b A n cp)⟩, .int .i64 (q : Int)]) hs19 (.func _) ⟨(Ev.t 1 rfl), (Ev.t 0 rfl), trivial⟩ rfl rfl Tryd.call28 rfl (callsV_eq (v' := .tuple ⟨[.int .i64 (z : Int), .int .i64 0]⟩) (Longer_v b A n cp (q : Int) _ (hP.kp hs19.kp) hn (hG.kp hs19.kp (by simp))) (by rw [hR])) fun _ _ hs20 => ?_); clear hs19
     refine sq rfl (st_move hs20 (Ev.t 0 rfl) rfl rfl fun _ _ hs21 => ?_); clear hs20
     refine sq rfl (st_extract hs21 (Ev.t 0 rfl) rfl rfl rfl fun _ _ hs22 => ?_); clear hs21
     refine sq rfl (st_extract hs22 (Ev.t 1 rfl) rfl rfl rfl fun _ _ hs23 => ?_); clear hs22
     refine sq rfl (st_assign hs23 (Ev.t 1 rfl) rfl rfl fun _ _ hs24 => ?_); clear hs23
     refine sq rfl (st_assign hs24 (Ev.t 1 rfl) rfl rfl fun _ _ hs25 => ?_); clear hs24
     refine hK35 _ _ ?_; clear hK35
     have hs26 := Sx.keepT [0, 1, 8, 9, 10, 11] [_, _, _, _, _, _] ⟨rfl, rfl, rfl, rfl, rfl, rfl, trivial⟩ hs25; clear hs25
     refine cd_region fun K36 hK36 => ?_
     refine sq rfl (st_loadA (o := 0) (off := 0) (vs := (bookL b A n cp)) hs26 (Ev.t 5 rfl) rfl rfl Tryd.isAgg27 Tryd.sizeOf27 (hs26.cells 1 rfl) rfl fun _ _ hs27 => ?_); clear hs26
     refine sq rfl (st_callv (vs := [.agg ⟨(bookL b A n cp)⟩]) hs27 (.func _) ⟨(Ev.t 0 rfl), trivial⟩ rfl rfl Tryd.call26 rfl (callsV_eq (v' := .tuple ⟨[.int .i64 (r : Int), .int .i64 0]⟩) (Parts_v b A n cp _ (hP.kp hs27.kp) hn (hG.kp hs27.kp (by simp)) hcp) (by rw [hRp])) fun _ _ hs28 => ?_); clear hs27
     refine sq rfl (st_move hs28 (Ev.t 0 rfl) rfl rfl fun _ _ hs29 => ?_); clear hs28
     refine sq rfl (st_extract hs29 (Ev.t 0 rfl) rfl rfl rfl fun _ _ hs30 => ?_); clear hs29
     refine sq rfl (st_extract hs30 (Ev.t 1 rfl) rfl rfl rfl fun _ _ hs31 => ?_); clear hs30
     refine sq rfl (st_assign hs31 (Ev.t 1 rfl) rfl rfl fun _ _ hs32 => ?_); clear hs31
     refine sq rfl (st_assign hs32 (Ev.t 1 rfl) rfl rfl fun _ _ hs33 => ?_); clear hs32
     refine hK36 _ _ ?_; clear hK36
     have hs34 := Sx.keepT [0, 1, 7, 8, 9, 10, 11, 12] [_, _, _, _, _, _, _, _] ⟨rfl, rfl, rfl, rfl, rfl, rfl, rfl, rfl, trivial⟩ hs33; clear hs33
     refine cd_region fun K37 hK37 => ?_
     refine sq rfl (st_loadA (o := 0) (off := 0) (vs := (bookL b A n cp)) hs34 (Ev.t 7 rfl) rfl rfl Tryd.isAgg27 Tryd.sizeOf27 (hs34.cells 1 rfl) rfl fun _ _ hs35 => ?_); clear hs34
     refine sq rfl (st_call (vs := [.agg ⟨(bookL b A n cp)⟩]) hs35 (.func _) ⟨(Ev.t 0 rfl), trivial⟩ rfl rfl Tryd.call23 rfl (plansL hpe (Plan_b b A n cp _ (hP.kp hs35.kp) hn (hG.kp hs35.kp (by simp)))) fun v39 bs40 a_36 w_36 hp36 hs36 => ?_); clear hs35
     obtain ⟨Ap38, np38, cq38, rfl, rfl⟩ := hp36
     have hs37 := Sx.as (T' := [_, _, _, _, _, _, _, _, _, _]) (B' := [_, _]) rfl rfl hs36; clear hs36
     refine sq rfl (st_move hs37 (Ev.t 0 rfl) rfl rfl fun _ _ hs38 => ?_); clear hs37
     refine sq rfl (st_extract hs38 (Ev.t 0 rfl) rfl rfl rfl fun _ _ hs39 => ?_); clear hs38
     refine sq rfl (st_extract hs39 (Ev.t 1 rfl) rfl rfl rfl fun _ _ hs40 => ?_); clear hs39
     refine sq rfl (st_assign hs40 (Ev.t 1 rfl) rfl rfl fun _ _ hs41 => ?_); clear hs40
     refine sq rfl (st_assign hs41 (Ev.t 1 rfl) rfl rfl fun _ _ hs42 => ?_); clear hs41
     refine hK37 _ _ ?_; clear hK37
     have hs43 := Sx.keepT [0, 7, 8, 9, 10, 11, 12, 13, 14] [_, _, _, _, _, _, _, _, _] ⟨rfl, rfl, rfl, rfl, rfl, rfl, rfl, rfl, rfl, trivial⟩ hs42; clear hs42
     refine cd_seq fun K41 hK41 => ?_
     refine cd_region fun K42 hK42 => ?_
     refine sq rfl (st_move hs43 (Ev.t 3 rfl) rfl rfl fun _ _ hs44 => ?_); clear hs43
     refine sq rfl (st_move hs44 (Ev.t 1 rfl) rfl rfl fun _ _ hs45 => ?_); clear hs44
     refine sq rfl (st_cmp (c := false) hs45 (Ev.t 1 rfl) (Ev.t 0 rfl) rfl rfl rfl rfl fun _ _ hs46 => ?_); clear hs45
     refine sq rfl (st_move hs46 (Ev.t 0 rfl) rfl rfl fun _ _ hs47 => ?_); clear hs46
     refine sq_on hs47 rfl rfl 0 rfl rfl (st_move hs47 (Ev.t 5 rfl) rfl rfl fun _ _ hs48 => ?_); clear hs47
     refine sq_on hs48 rfl rfl 1 rfl rfl (st_cmp (c := false) hs48 (Ev.t 0 rfl) (.const _) rfl rfl rfl rfl fun _ _ hs49 => ?_); clear hs48
     refine sq rfl (st_pick hs49 (Ev.t 2 rfl) rfl rfl (fun h => by cases h) (fun h => (Ev.t 0 rfl)) fun _ _ hs50 => ?_); clear hs49
     refine sq rfl (st_move hs50 (Ev.t 0 rfl) rfl rfl fun _ _ hs51 => ?_); clear hs50
     refine sq_on hs51 rfl rfl 0 rfl rfl (st_move hs51 (Ev.t 10 rfl) rfl rfl fun _ _ hs52 => ?_); clear hs51
     refine sq_on hs52 rfl rfl 1 rfl rfl (st_field (o' := 22) hs52 (Ev.t 17 rfl) rfl rfl Tryd.runUnderlying27 rfl Tryd.sizeOf25 rfl rfl fun _ _ hs53 => ?_); clear hs52
     refine sq_on hs53 rfl rfl 2 rfl rfl (st_load1 (o := 0) (off := 22) (v := .slice A n cp) hs53 (Ev.t 0 rfl) rfl rfl Tryd.isAgg25 (hs53.cells 1 rfl) rfl fun _ _ hs54 => ?_); clear hs53
     refine sq_on hs54 rfl rfl 3 rfl rfl (st_len hs54 (Ev.t 0 rfl) rfl rfl Tryd.runUnderlying25 fun _ _ hs55 => ?_); clear hs54
     refine sq_on hs55 rfl rfl 4 rfl rfl (st_callv (vs := [.int .i64 (r : Int), .int .i64 0, .int .i64 (n : Int)]) hs55 (.func _) ⟨(Ev.t 3 rfl), (.const _), (Ev.t 0 rfl), trivial⟩ rfl rfl Tryd.call37 rfl (amid_t (r : Int) 0 (n : Int) (by assumption) _) fun _ _ hs56 => ?_); clear hs55
     refine sq_on hs56 rfl rfl 5 rfl rfl (st_not hs56 (Ev.t 0 rfl) rfl rfl fun _ _ hs57 => ?_); clear hs56
     refine sq rfl (st_pick hs57 (Ev.t 6 rfl) rfl rfl (fun h => by cases h) (fun h => (Ev.t 0 rfl)) fun _ _ hs58 => ?_); clear hs57
     refine sq rfl (st_move hs58 (Ev.t 0 rfl) rfl rfl fun _ _ hs59 => ?_); clear hs58
     refine sq_on hs59 rfl rfl 0 rfl rfl (st_move hs59 (Ev.t 18 rfl) rfl rfl fun _ _ hs60 => ?_); clear hs59
     refine sq_on hs60 rfl rfl 1 rfl rfl (st_field (o' := 22) hs60 (Ev.t 25 rfl) rfl rfl Tryd.runUnderlying27 rfl Tryd.sizeOf25 rfl rfl fun _ _ hs61 => ?_); clear hs60
     refine sq_on hs61 rfl rfl 2 rfl rfl (st_load1 (o := 0) (off := 22) (v := .slice A n cp) hs61 (Ev.t 0 rfl) rfl rfl Tryd.isAgg25 (hs61.cells 1 rfl) rfl fun _ _ hs62 => ?_); clear hs61
     refine sq_on hs62 rfl rfl 3 rfl rfl (st_len hs62 (Ev.t 0 rfl) rfl rfl Tryd.runUnderlying25 fun _ _ hs63 => ?_); clear hs62
     refine sq_on hs63 rfl rfl 4 rfl rfl (st_cmp (c := ((r : Int) : Int) == (n : Int)) hs63 (Ev.t 3 rfl) (Ev.t 0 rfl) rfl rfl rfl rfl fun _ _ hs64 => ?_); clear hs63
     refine sq_on hs64 rfl rfl 5 rfl rfl (st_move hs64 (Ev.t 21 rfl) rfl rfl fun _ _ hs65 => ?_); clear hs64
     refine sq_on hs65 rfl rfl 6 rfl rfl (st_cmp (c := true) hs65 (Ev.t 0 rfl) (.const _) rfl rfl rfl rfl fun _ _ hs66 => ?_); clear hs65
     refine sq_on hs66 rfl rfl 7 rfl rfl (st_bin hs66 (Ev.t 2 rfl) (Ev.t 0 rfl) (run_neb 4 Tryd.underlying4 _ _ (((r : Int) : Int) == (n : Int)) true) rfl rfl fun _ _ hs67 => ?_); clear hs66
     refine sq rfl (st_pick hs67 (Ev.t 8 rfl) rfl rfl (fun h => by cases h) (fun h => (Ev.t 0 rfl)) fun _ _ hs68 => ?_); clear hs67
     refine hK42 _ _ ?_; clear hK42
     have hs69 := Sx.keepT [0, 28, 29, 30, 31, 32, 33] [_, _, _, _, _, _, _] ⟨rfl, rfl, rfl, rfl, rfl, rfl, rfl, trivial⟩ hs68; clear hs68
     have hc43 : ((((r : Int) : Int) == (n : Int)) != true) = false := by simp; omega
     refine cd_cond hs69 (Ev.t 0 rfl) (fun h => absurd (hc43.symm.trans h) (by decide)) (fun _ => ?_)
     refine cd_skip ?_
     refine th_norm (hK41 _ _ ?_)
     refine cd_seq fun K44 hK44 => ?_
     refine cd_region fun K45 hK45 => ?_
     refine sq rfl (st_move hs69 (Ev.t 1 rfl) rfl rfl fun _ _ hs70 => ?_); clear hs69
     refine sq rfl (st_cmp (c := false) hs70 (Ev.t 0 rfl) (.const _) rfl rfl rfl rfl fun _ _ hs71 => ?_); clear hs70
     refine hK45 _ _ ?_; clear hK45
     have hs72 := Sx.keepT [0, 3, 4, 5, 6, 7, 8] [_, _, _, _, _, _, _] ⟨rfl, rfl, rfl, rfl, rfl, rfl, rfl, trivial⟩ hs71; clear hs71
     have hc46 : false = false := rfl
     refine cd_cond hs72 (Ev.t 0 rfl) (fun h => absurd (hc46.symm.trans h) (by decide)) (fun _ => ?_)
     refine cd_skip ?_
     refine th_norm (hK44 _ _ ?_)
     refine cd_seq fun K47 hK47 => ?_
     refine cd_region fun K48 hK48 => ?_
     refine sq rfl (st_move hs72 (Ev.t 2 rfl) rfl rfl fun _ _ hs73 => ?_); clear hs72
     refine sq rfl (st_callv (vs := [.int .i64 (z : Int), .int .i64 0, .int .i64 60]) hs73 (.func _) ⟨(Ev.t 0 rfl), (.const _), (.const _), trivial⟩ rfl rfl Tryd.call37 rfl (amid_t (z : Int) 0 60 (by assumption) _) fun _ _ hs74 => ?_); clear hs73
     refine sq rfl (st_not hs74 (Ev.t 0 rfl) rfl rfl fun _ _ hs75 => ?_); clear hs74
     refine hK48 _ _ ?_; clear hK48
     have hs76 := Sx.keepT [0, 5, 6, 7, 8, 9] [_, _, _, _, _, _] ⟨rfl, rfl, rfl, rfl, rfl, rfl, trivial⟩ hs75; clear hs75
     by_cases hf1 : x.mi.hi + (z : Int) ≤ 60
     · skip
       have hd1 : min 60 (x.mi.hi + turn k1 ((z : Int) + 1)) = x.mi.hi + turn k1 ((z : Int) + 1) := by omega
       have hp1 : (b.upto q x (min 60 (x.mi.hi + turn k1 ((z : Int) + 1)))).planR.2 = 0 := by rw [hd1, planR_ok (upto_ok hok hx (by omega)), hat.yes _ (by omega) (by omega)]; rfl
       by_cases hf2 : z < 60 ∧ x.mi.hi + (z : Int) + 1 ≤ 60
       · skip
         have hd2 : min 60 (x.mi.hi + ((z : Int) + 1)) = x.mi.hi + ((z : Int) + 1) := by omega
         have hp2 : (b.upto q x (min 60 (x.mi.hi + ((z : Int) + 1)))).planR.2 = 4 := by rw [hd2, planR_ok (upto_ok hok hx (by omega)), hat.no hf2.1]; rfl
         have hc49 : false = false := rfl
         refine cd_cond hs76 (Ev.t 0 rfl) (fun h => absurd (hc49.symm.trans h) (by decide)) (fun _ => ?_)
         refine cd_skip ?_
         refine th_norm (hK47 _ _ ?_)
         refine cd_drawnP mixed hs76 [⟨79, [], Is (.agg ⟨(bookL b A n cp)⟩)⟩,
      ⟨80, [], Is (.int .i64 (q : Int))⟩,
      ⟨81, [], Is (.pointer (some ⟨b30, 1, none⟩))⟩,
      ⟨82, [2], Is (.int .i64 k1)⟩,
      ⟨83, [], Is (.int .i64 (z : Int))⟩,
      ⟨84, [4], Is (.int .i64 ((z : Int) + 1))⟩,
      ⟨85, [3, 5], Is (.int .i64 (turn k1 ((z : Int) + 1)))⟩] (by kernel_rfl) (by kernel_rfl) fun K50 hK50 => ⟨⟨?_, ?_, ?_, ?_, ?_, ?_, ?_, trivial⟩, ?_⟩
         · intro T_ B_ a_ w_ K_ hT hB
           intro hf hsD hk
           exact ob rfl rfl (st_loadA (o := 0) (off := 0) (vs := (bookL b A n cp)) hsD (Ev.tmp (hT _ (mem_nth (i := 5) rfl))) rfl hf Tryd.isAgg27 Tryd.sizeOf27 (hsD.cellsM (hB _ (mem_nth (i := 1) rfl))) rfl fun a_1 w_1 h1 => hk _ _ _ _ ⟨rfl, rfl⟩ h1)
         · intro T_ B_ a_ w_ K_ hT hB
           intro hf hsD hk
           exact ob rfl rfl (st_move hsD (Ev.tmp (hT _ (mem_nth (i := 2) rfl))) rfl hf fun a_1 w_1 h1 => hk _ _ _ _ ⟨rfl, rfl⟩ h1)
         · intro T_ B_ a_ w_ K_ hT hB
           intro hf hsD hk
           exact ob rfl rfl (st_indexArr (o' := 1) hsD (Ev.tmp (hT _ (mem_nth (i := 4) rfl))) (.const _) rfl hf Tryd.runUnderlying29 Tryd.sizeOf3 (by decide) rfl fun a_1 w_1 h1 => hk _ _ _ _ ⟨rfl, rfl⟩ h1)
         · intro T_ B_ a_ w_ K_ hT hB
           rintro _ _ ⟨rfl, rfl⟩ h81 -
           intro hf hsD hk
           exact ob rfl rfl (st_load1 (o := 0) (off := 1) (v := .int .i64 k1) hsD (Ev.tmp h81) rfl hf Tryd.isAgg3 (hsD.cellsM (hB _ (mem_nth (i := 0) rfl))) rfl fun a_1 w_1 h1 => hk _ _ _ _ ⟨rfl, rfl⟩ h1)
         · intro T_ B_ a_ w_ K_ hT hB
           intro hf hsD hk
           exact ob rfl rfl (st_move hsD (Ev.tmp (hT _ (mem_nth (i := 1) rfl))) rfl hf fun a_1 w_1 h1 => hk _ _ _ _ ⟨rfl, rfl⟩ h1)
         · intro T_ B_ a_ w_ K_ hT hB
           rintro _ _ ⟨rfl, rfl⟩ h83 -
           intro hf hsD hk
           exact ob rfl rfl (st_add (z := (z : Int) + 1) hsD (Ev.tmp h83) (.const _) rfl hf rfl (by omega) fun a_1 w_1 h1 => hk _ _ _ _ ⟨rfl, rfl⟩ h1)
         · intro T_ B_ a_ w_ K_ hT hB
           rintro _ _ ⟨rfl, rfl⟩ h82 -
           rintro _ _ ⟨rfl, rfl⟩ h84 -
           intro hf hsD hk
           exact ob rfl rfl (st_callv (vs := [.int .i64 k1, .int .i64 ((z : Int) + 1)]) hsD (.func _) ⟨(Ev.tmp h82), (Ev.tmp h84), trivial⟩ rfl hf Tryd.call38 rfl (turn_v k1 ((z : Int) + 1) (by omega) _) fun a_1 w_1 h1 => hk _ _ _ _ ⟨rfl, rfl⟩ h1)
         rintro _ _ ⟨rfl, rfl⟩
         rintro _ _ ⟨rfl, rfl⟩
         rintro _ _ ⟨rfl, rfl⟩
         rintro _ _ ⟨rfl, rfl⟩
         rintro _ _ ⟨rfl, rfl⟩
         rintro _ _ ⟨rfl, rfl⟩
         rintro _ _ ⟨rfl, rfl⟩
         intro a_77 w_77 hs77
         clear hs76
         have hs78 := Sx.as (T' := [_, _, _, _, _, _, _, _, _, _, _, _, _]) (B' := [_, _]) rfl rfl hs77; clear hs77
         refine tw_step (by kernel_rfl) (ob rfl rfl (st_call (vs := [.agg ⟨(bookL b A n cp)⟩, .int .i64 (q : Int), .int .i64 (turn k1 ((z : Int) + 1))]) hs78 (.func _) ⟨(Ev.t 0 rfl), (Ev.t 1 rfl), (Ev.t 6 rfl), trivial⟩ rfl rfl Tryd.call44 rfl (stretched_b b A n cp q x hx (turn k1 ((z : Int) + 1)) hb (by omega) _ (hP.kp hs78.kp) hn) fun v52 bs53 a_79 w_79 hp79 hs79 => ?_)); clear hs78
         obtain ⟨As51, cs51, bs51, os51, rfl, hw51, rfl⟩ := hp79
         have hs80 := Sx.as (T' := [_, _, _, _, _, _, _, _, _, _, _, _, _, _]) (B' := [_, _, _]) rfl rfl hs79; clear hs79
         refine tw_step (by kernel_rfl) (ob rfl rfl (st_call (vs := [.agg ⟨(bookL (b.upto q x (min 60 (x.mi.hi + (turn k1 ((z : Int) + 1))))) As51 n cs51)⟩]) hs80 (.func _) ⟨(Ev.t 0 rfl), trivial⟩ rfl rfl Tryd.call23 rfl (plansL hp1 (Plan_b (b.upto q x (min 60 (x.mi.hi + (turn k1 ((z : Int) + 1))))) As51 n cs51 _ (by rw [show n = (b.upto q x (min 60 (x.mi.hi + (turn k1 ((z : Int) + 1))))).parts.length from by simp only [Book.upto, List.length_set]; exact hl2]; exact hw51.at hs80 0 rfl) hn (hG.kp hs80.kp (by simp)))) fun v55 bs56 a_81 w_81 hp81 hs81 => ?_)); clear hs80
         obtain ⟨Ap54, np54, cq54, rfl, rfl⟩ := hp81
         have hs82 := Sx.as (T' := [_, _, _, _, _, _, _, _, _, _, _, _, _, _, _]) (B' := [_, _, _]) rfl rfl hs81; clear hs81
         refine tw_step (by kernel_rfl) (ob rfl rfl (st_move hs82 (Ev.t 0 rfl) rfl rfl fun _ _ hs83 => ?_)); clear hs82
         refine tw_pair (fun a_ w_ => Sx 130 [] [(89, .int .i64 0), (88, .slice Ap54 np54 cq54), (78, .tuple ⟨[.slice Ap54 np54 cq54, .int .i64 0]⟩), (87, .tuple ⟨[.slice Ap54 np54 cq54, .int .i64 0]⟩), (86, .agg ⟨(bookL (b.upto q x (min 60 (x.mi.hi + (turn k1 ((z : Int) + 1))))) As51 n cs51)⟩), (79, .agg ⟨(bookL b A n cp)⟩), (80, .int .i64 (q : Int)), (81, .pointer (some ⟨b30, 1, none⟩)), (82, .int .i64 k1), (83, .int .i64 (z : Int)), (84, .int .i64 ((z : Int) + 1)), (85, .int .i64 (turn k1 ((z : Int) + 1))), (77, .bool false), (6, .int .i64 (z : Int)), (5, .int .i64 (q : Int)), (4, .bool false), (3, .pointer (some ⟨b30, 0, none⟩)), (2, .pointer (some ⟨b29, 0, none⟩))] [(bs51, os51), (b30, some (.cells ⟨[.int .i64 k0, .int .i64 k1]⟩ 29 (0, 0))), (b29, some (.cells ⟨(bookL b A n cp)⟩ 27 (0, 0)))] [] w a_ w_) (by kernel_rfl) ?_ ?_ (fun a_86 w_86 hs86 => ?_)
         · skip
           refine ob rfl rfl (st_extract hs83 (Ev.t 0 rfl) rfl rfl rfl fun _ _ hs84 => ?_); clear hs83
           refine ob rfl rfl (st_extract hs84 (Ev.t 1 rfl) rfl rfl rfl fun _ _ hs85 => ?_); clear hs84
           exact hs85
         · skip
           refine ob rfl rfl (st_extract hs83 (Ev.t 0 rfl) rfl rfl rfl fun _ _ hs84 => ?_); clear hs83
           refine ob rfl rfl (st_extract hs84 (Ev.t 1 rfl) rfl rfl rfl fun _ _ hs85 => ?_); clear hs84
           exact Sx.keepE [1, 0, 2, 3, 4, 5, 6, 7, 8, 9, 10, 11, 12, 13, 14, 15, 16, 17] _ ⟨⟨_, rfl, rfl⟩, ⟨_, rfl, rfl⟩, ⟨_, rfl, rfl⟩, ⟨_, rfl, rfl⟩, ⟨_, rfl, rfl⟩, ⟨_, rfl, rfl⟩, ⟨_, rfl, rfl⟩, ⟨_, rfl, rfl⟩, ⟨_, rfl, rfl⟩, ⟨_, rfl, rfl⟩, ⟨_, rfl, rfl⟩, ⟨_, rfl, rfl⟩, ⟨_, rfl, rfl⟩, ⟨_, rfl, rfl⟩, ⟨_, rfl, rfl⟩, ⟨_, rfl, rfl⟩, ⟨_, rfl, rfl⟩, ⟨_, rfl, rfl⟩, trivial⟩ hs85
         clear hs83
         refine tw_step (by kernel_rfl) (ob rfl rfl (st_assign hs86 (Ev.t 0 rfl) rfl rfl fun _ _ hs87 => ?_)); clear hs86
         refine hK50 _ _ ?_; clear hK50
         have hs88 := Sx.keepT [0, 14, 15, 16, 18] [_, _, _, _, _] ⟨rfl, rfl, rfl, rfl, rfl, trivial⟩ hs87; clear hs87
         refine cd_region fun K57 hK57 => ?_
         refine sq rfl (st_loadA (o := 0) (off := 0) (vs := (bookL b A n cp)) hs88 (Ev.t 4 rfl) rfl rfl Tryd.isAgg27 Tryd.sizeOf27 (hs88.cells 2 rfl) rfl fun _ _ hs89 => ?_); clear hs88
         refine sq rfl (st_move hs89 (Ev.t 3 rfl) rfl rfl fun _ _ hs90 => ?_); clear hs89
         refine sq rfl (st_move hs90 (Ev.t 3 rfl) rfl rfl fun _ _ hs91 => ?_); clear hs90
         refine sq rfl (st_add (z := (z : Int) + 1) hs91 (Ev.t 0 rfl) (.const _) rfl rfl rfl (by omega) fun _ _ hs92 => ?_); clear hs91
         refine sq rfl (st_call (vs := [.agg ⟨(bookL b A n cp)⟩, .int .i64 (q : Int), .int .i64 ((z : Int) + 1)]) hs92 (.func _) ⟨(Ev.t 3 rfl), (Ev.t 2 rfl), (Ev.t 0 rfl), trivial⟩ rfl rfl Tryd.call44 rfl (stretched_b b A n cp q x hx ((z : Int) + 1) hb (by omega) _ (hP.kp hs92.kp) hn) fun v59 bs60 a_93 w_93 hp93 hs93 => ?_); clear hs92
         obtain ⟨As58, cs58, bs58, os58, rfl, hw58, rfl⟩ := hp93
         have hs94 := Sx.as (T' := [_, _, _, _, _, _, _, _, _, _]) (B' := [_, _, _, _]) rfl rfl hs93; clear hs93
         refine sq rfl (st_call (vs := [.agg ⟨(bookL (b.upto q x (min 60 (x.mi.hi + ((z : Int) + 1)))) As58 n cs58)⟩]) hs94 (.func _) ⟨(Ev.t 0 rfl), trivial⟩ rfl rfl Tryd.call23 rfl (plansL hp2 (Plan_b (b.upto q x (min 60 (x.mi.hi + ((z : Int) + 1)))) As58 n cs58 _ (by rw [show n = (b.upto q x (min 60 (x.mi.hi + ((z : Int) + 1)))).parts.length from by simp only [Book.upto, List.length_set]; exact hl2]; exact hw58.at hs94 0 rfl) hn (hG.kp hs94.kp (by simp)))) fun v62 bs63 a_95 w_95 hp95 hs95 => ?_); clear hs94
         obtain ⟨Ap61, np61, cq61, rfl, rfl⟩ := hp95
         have hs96 := Sx.as (T' := [_, _, _, _, _, _, _, _, _, _, _]) (B' := [_, _, _, _]) rfl rfl hs95; clear hs95
         refine sq rfl (st_move hs96 (Ev.t 0 rfl) rfl rfl fun _ _ hs97 => ?_); clear hs96
         refine sq rfl (st_extract hs97 (Ev.t 0 rfl) rfl rfl rfl fun _ _ hs98 => ?_); clear hs97
         refine sq rfl (st_extract hs98 (Ev.t 1 rfl) rfl rfl rfl fun _ _ hs99 => ?_); clear hs98
         refine sq rfl (st_assign hs99 (Ev.t 0 rfl) rfl rfl fun _ _ hs100 => ?_); clear hs99
         refine hK57 _ _ ?_; clear hK57
         have hs101 := Sx.keepT [0, 10, 11, 12, 13, 14] [_, _, _, _, _, _] ⟨rfl, rfl, rfl, rfl, rfl, rfl, trivial⟩ hs100; clear hs100
         refine cd_region fun K64 hK64 => ?_
         refine sq rfl (st_field (o' := 22) hs101 (Ev.t 5 rfl) rfl rfl Tryd.runUnderlying27 rfl Tryd.sizeOf25 rfl rfl fun _ _ hs102 => ?_); clear hs101
         refine sq rfl (st_load1 (o := 0) (off := 22) (v := .slice A n cp) hs102 (Ev.t 0 rfl) rfl rfl Tryd.isAgg25 (hs102.cells 3 rfl) rfl fun _ _ hs103 => ?_); clear hs102
         refine sq rfl (st_move hs103 (Ev.t 5 rfl) rfl rfl fun _ _ hs104 => ?_); clear hs103
         obtain ⟨b65, o65, hA65, -, hc65⟩ := hP.el q x hx
         refine sq rfl (st_indexM (o' := o65 + q * 4) hs104 (Ev.t 1 rfl) (Ev.t 0 rfl) rfl rfl hA65 Tryd.runUnderlying25 Tryd.sizeOf66 ⟨by omega, by have := hP.len; have := (List.getElem?_eq_some_iff.1 hx).1; omega⟩ rfl fun _ _ hs105 => ?_); clear hs104
         refine sq rfl (st_field (o' := o65 + q * 4) hs105 (Ev.t 0 rfl) rfl rfl Tryd.runUnderlying66 rfl Tryd.sizeOf23 rfl rfl fun _ _ hs106 => ?_); clear hs105
         refine sq rfl (st_field (o' := o65 + q * 4 + 1) hs106 (Ev.t 0 rfl) rfl rfl Tryd.runUnderlying23 rfl Tryd.sizeOf3 rfl rfl fun _ _ hs107 => ?_); clear hs106
         refine sq rfl (st_load1 (o := o65 + q * 4) (off := 1) (v := .int .i64 x.mi.hi) hs107 (Ev.t 0 rfl) rfl rfl Tryd.isAgg3 (hs107.old hc65 (by simp)) rfl fun _ _ hs108 => ?_); clear hs107
         refine sq rfl (st_move hs108 (Ev.t 9 rfl) rfl rfl fun _ _ hs109 => ?_); clear hs108
         refine sq rfl (st_add (z := x.mi.hi + (z : Int)) hs109 (Ev.t 1 rfl) (Ev.t 0 rfl) rfl rfl rfl (by omega) fun _ _ hs110 => ?_); clear hs109
         refine sq rfl (st_assign hs110 (Ev.t 0 rfl) rfl rfl fun _ _ hs111 => ?_); clear hs110
         refine hK64 _ _ ?_; clear hK64
         have hs112 := Sx.keepT [0, 10, 11, 12, 14] [_, _, _, _, _] ⟨rfl, rfl, rfl, rfl, rfl, trivial⟩ hs111; clear hs111
         refine cd_region fun K66 hK66 => ?_
         refine sq rfl (st_move hs112 (Ev.t 0 rfl) rfl rfl fun _ _ hs113 => ?_); clear hs112
         refine sq rfl (st_cmp (c := decide ((x.mi.hi + (z : Int) : Int) > 60)) hs113 (Ev.t 0 rfl) (.const _) rfl rfl rfl rfl fun _ _ hs114 => ?_); clear hs113
         refine sq rfl (st_move hs114 (Ev.t 0 rfl) rfl rfl fun _ _ hs115 => ?_); clear hs114
         refine sq_gv hs115 (gg := !(decide ((x.mi.hi + (z : Int) : Int) > 60))) (v := .int .i64 0) rfl rfl 0 rfl (ison_f _) rfl rfl rfl (fun hg67 K68 hK68 => st_move hs115 (Ev.t 5 rfl) rfl rfl hK68) fun _ _ hs116 => ?_; clear hs115
         refine sq_gv hs116 (gg := !(decide ((x.mi.hi + (z : Int) : Int) > 60))) (v := .bool true) rfl rfl 1 rfl (ison_f _) rfl rfl rfl (fun hg69 K70 hK70 => st_cmp (c := true) hs116 ((Ev.t 0 rfl).un hg69) (.const _) rfl rfl rfl rfl hK70) fun _ _ hs117 => ?_; clear hs116
         refine sq rfl (st_or hs117 (gx := true) (gy := !(decide ((x.mi.hi + (z : Int) : Int) > 60))) (Ev.t 2 rfl) rfl (Ev.t 0 rfl) (fun h => (by first | exact absurd h (by decide) | (rw [h]; rfl))) rfl rfl fun _ _ hs118 => ?_); clear hs117
         refine sq rfl (st_move hs118 (Ev.t 0 rfl) rfl rfl fun _ _ hs119 => ?_); clear hs118
         refine sq_gv hs119 (gg := (decide ((x.mi.hi + (z : Int) : Int) > 60)) || true) (v := .int .i64 (z : Int)) rfl rfl 0 rfl (ison_t _) rfl rfl rfl (fun hg71 K72 hK72 => st_move hs119 (Ev.t 10 rfl) rfl rfl hK72) fun _ _ hs120 => ?_; clear hs119
         refine sq_gv hs120 (gg := (decide ((x.mi.hi + (z : Int) : Int) > 60)) || true) (v := .bool (((z : Int) : Int) == 60)) rfl rfl 1 rfl (ison_t _) rfl rfl rfl (fun hg73 K74 hK74 => st_cmp (c := ((z : Int) : Int) == 60) hs120 ((Ev.t 0 rfl).un hg73) (.const _) rfl rfl rfl rfl hK74) fun _ _ hs121 => ?_; clear hs120
         refine sq_gv hs121 (gg := (decide ((x.mi.hi + (z : Int) : Int) > 60)) || true) (v := .bool (((z : Int) : Int) == 60)) rfl rfl 2 rfl (ison_t _) rfl rfl rfl (fun hg75 K76 hK76 => st_move hs121 ((Ev.t 0 rfl).un hg75) rfl rfl hK76) fun _ _ hs122 => ?_; clear hs121
         refine sq_gv hs122 (gg := ((decide ((x.mi.hi + (z : Int) : Int) > 60)) || true) && (!(((z : Int) : Int) == 60))) (v := .int .i64 (x.mi.hi + (z : Int))) rfl rfl 0 rfl (ison_gf _ _) rfl rfl rfl (fun hg77 K78 hK78 => st_move hs122 (Ev.t 10 rfl) rfl rfl hK78) fun _ _ hs123 => ?_; clear hs122
         refine sq_gv hs123 (gg := ((decide ((x.mi.hi + (z : Int) : Int) > 60)) || true) && (!(((z : Int) : Int) == 60))) (v := .int .i64 ((x.mi.hi + (z : Int)) + 1)) rfl rfl 1 rfl (ison_gf _ _) rfl rfl rfl (fun hg79 K80 hK80 => st_add (z := (x.mi.hi + (z : Int)) + 1) hs123 ((Ev.t 0 rfl).un hg79) (.const _) rfl rfl rfl (by omega) hK80) fun _ _ hs124 => ?_; clear hs123
         refine sq_gv hs124 (gg := ((decide ((x.mi.hi + (z : Int) : Int) > 60)) || true) && (!(((z : Int) : Int) == 60))) (v := .bool (decide (((x.mi.hi + (z : Int)) + 1 : Int) > 60))) rfl rfl 2 rfl (ison_gf _ _) rfl rfl rfl (fun hg81 K82 hK82 => st_cmp (c := decide (((x.mi.hi + (z : Int)) + 1 : Int) > 60)) hs124 ((Ev.t 0 rfl).un hg81) (.const _) rfl rfl rfl rfl hK82) fun _ _ hs125 => ?_; clear hs124
         refine sq_gv hs125 (gg := (decide ((x.mi.hi + (z : Int) : Int) > 60)) || true) (v := .bool ((((z : Int) : Int) == 60) || (decide (((x.mi.hi + (z : Int)) + 1 : Int) > 60)))) rfl rfl 6 rfl (ison_t _) rfl rfl rfl (fun hg83 K84 hK84 => st_or hs125 (gx := (decide ((x.mi.hi + (z : Int) : Int) > 60)) || true) (gy := ((decide ((x.mi.hi + (z : Int) : Int) > 60)) || true) && (!(((z : Int) : Int) == 60))) (Ev.t 3 rfl) hg83 (Ev.t 0 rfl) (fun h => and_i hg83 (by first | exact absurd h (by decide) | (rw [h]; rfl))) rfl rfl hK84) fun _ _ hs126 => ?_; clear hs125
         refine sq_gv hs126 (gg := (decide ((x.mi.hi + (z : Int) : Int) > 60)) || true) (v := .bool ((((z : Int) : Int) == 60) || (decide (((x.mi.hi + (z : Int)) + 1 : Int) > 60)))) rfl rfl 7 rfl (ison_t _) rfl rfl rfl (fun hg85 K86 hK86 => st_move hs126 ((Ev.t 0 rfl).un hg85) rfl rfl hK86) fun _ _ hs127 => ?_; clear hs126
         refine sq_gv hs127 (gg := ((decide ((x.mi.hi + (z : Int) : Int) > 60)) || true) && (!((((z : Int) : Int) == 60) || (decide (((x.mi.hi + (z : Int)) + 1 : Int) > 60))))) (v := .int .i64 4) rfl rfl 0 rfl (ison_gf _ _) rfl rfl rfl (fun hg87 K88 hK88 => st_move hs127 (Ev.t 16 rfl) rfl rfl hK88) fun _ _ hs128 => ?_; clear hs127
         refine sq_gv hs128 (gg := ((decide ((x.mi.hi + (z : Int) : Int) > 60)) || true) && (!((((z : Int) : Int) == 60) || (decide (((x.mi.hi + (z : Int)) + 1 : Int) > 60))))) (v := .bool true) rfl rfl 1 rfl (ison_gf _ _) rfl rfl rfl (fun hg89 K90 hK90 => st_cmp (c := true) hs128 ((Ev.t 0 rfl).un hg89) (.const _) rfl rfl rfl rfl hK90) fun _ _ hs129 => ?_; clear hs128
         refine sq_gv hs129 (gg := (decide ((x.mi.hi + (z : Int) : Int) > 60)) || true) (v := .bool (((((z : Int) : Int) == 60) || (decide (((x.mi.hi + (z : Int)) + 1 : Int) > 60))) || true)) rfl rfl 10 rfl (ison_t _) rfl rfl rfl (fun hg91 K92 hK92 => st_or hs129 (gx := (decide ((x.mi.hi + (z : Int) : Int) > 60)) || true) (gy := ((decide ((x.mi.hi + (z : Int) : Int) > 60)) || true) && (!((((z : Int) : Int) == 60) || (decide (((x.mi.hi + (z : Int)) + 1 : Int) > 60))))) (Ev.t 2 rfl) hg91 (Ev.t 0 rfl) (fun h => and_i hg91 (by first | exact absurd h (by decide) | (rw [h]; rfl))) rfl rfl hK92) fun _ _ hs130 => ?_; clear hs129
         refine sq rfl (st_and hs130 (gx := true) (gy := (decide ((x.mi.hi + (z : Int) : Int) > 60)) || true) (Ev.t 11 rfl) rfl (Ev.t 0 rfl) (fun h => h) rfl rfl fun _ _ hs131 => ?_); clear hs130
         refine sq rfl (st_move hs131 (Ev.t 0 rfl) rfl rfl fun _ _ hs132 => ?_); clear hs131
         refine sq_gv hs132 (gg := ((decide ((x.mi.hi + (z : Int) : Int) > 60)) || true) && (((((z : Int) : Int) == 60) || (decide (((x.mi.hi + (z : Int)) + 1 : Int) > 60))) || true)) (v := .bool true) rfl rfl 0 rfl (ison_t _) rfl rfl rfl (fun hg93 K94 hK94 => st_callv (vs := []) hs132 (.func _) trivial rfl rfl Tryd.call20 rfl (fired_v _ (hG.kp hs132.kp (by simp))) hK94) fun _ _ hs133 => ?_; clear hs132
         refine sq rfl (st_and hs133 (gx := true) (gy := ((decide ((x.mi.hi + (z : Int) : Int) > 60)) || true) && (((((z : Int) : Int) == 60) || (decide (((x.mi.hi + (z : Int)) + 1 : Int) > 60))) || true)) (Ev.t 1 rfl) rfl (Ev.t 0 rfl) (fun h => h) rfl rfl fun _ _ hs134 => ?_); clear hs133
         have hs135 := Sx.keepT [0, 1, 2, 3, 4, 5, 6, 7, 8, 9, 10, 11, 12, 13, 14, 15, 16, 17, 18, 19, 20, 21, 22, 23, 24, 25] [_, _, _, _, _, _, _, _, _, _, _, _, _, _, _, _, _, _, _, _, _, _, _, _, _, _] ⟨rfl, rfl, rfl, rfl, rfl, rfl, rfl, rfl, rfl, rfl, rfl, rfl, rfl, rfl, rfl, rfl, rfl, rfl, rfl, rfl, rfl, rfl, rfl, rfl, rfl, rfl, trivial⟩ hs134; clear hs134
         refine sq rfl (st_assign hs135 (Ev.t 0 rfl) rfl rfl fun _ _ hs136 => ?_); clear hs135
         refine hK66 _ _ ?_; clear hK66
         have hs137 := Sx.keepT [0] [_] ⟨rfl, trivial⟩ hs136; clear hs136
         refine cd_retv (vs := [.bool ((((decide ((x.mi.hi + (z : Int) : Int) > 60)) || true) && (((((z : Int) : Int) == 60) || (decide (((x.mi.hi + (z : Int)) + 1 : Int) > 60))) || true)) && true)]) hs137 hQ0 rfl ⟨.tmp 0 rfl, trivial⟩ ?_
         clear hs137 hQ0 hN0
         first | rfl | (simp [pack]; done) | (simp [pack]; omega)
       · skip
         obtain ⟨e3, hp2⟩ : ∃ e, (b.upto q x (min 60 (x.mi.hi + ((z : Int) + 1)))).planR.2 = e := ⟨_, rfl⟩
         have hc95 : false = false := rfl
         refine cd_cond hs76 (Ev.t 0 rfl) (fun h => absurd (hc95.symm.trans h) (by decide)) (fun _ => ?_)
         refine cd_skip ?_
         refine th_norm (hK47 _ _ ?_)
         refine cd_drawnP mixed hs76 [⟨79, [], Is (.agg ⟨(bookL b A n cp)⟩)⟩,
      ⟨80, [], Is (.int .i64 (q : Int))⟩,
      ⟨81, [], Is (.pointer (some ⟨b30, 1, none⟩))⟩,
      ⟨82, [2], Is (.int .i64 k1)⟩,
      ⟨83, [], Is (.int .i64 (z : Int))⟩,
      ⟨84, [4], Is (.int .i64 ((z : Int) + 1))⟩,
      ⟨85, [3, 5], Is (.int .i64 (turn k1 ((z : Int) + 1)))⟩] (by kernel_rfl) (by kernel_rfl) fun K96 hK96 => ⟨⟨?_, ?_, ?_, ?_, ?_, ?_, ?_, trivial⟩, ?_⟩
         · intro T_ B_ a_ w_ K_ hT hB
           intro hf hsD hk
           exact ob rfl rfl (st_loadA (o := 0) (off := 0) (vs := (bookL b A n cp)) hsD (Ev.tmp (hT _ (mem_nth (i := 5) rfl))) rfl hf Tryd.isAgg27 Tryd.sizeOf27 (hsD.cellsM (hB _ (mem_nth (i := 1) rfl))) rfl fun a_1 w_1 h1 => hk _ _ _ _ ⟨rfl, rfl⟩ h1)
         · intro T_ B_ a_ w_ K_ hT hB
           intro hf hsD hk
           exact ob rfl rfl (st_move hsD (Ev.tmp (hT _ (mem_nth (i := 2) rfl))) rfl hf fun a_1 w_1 h1 => hk _ _ _ _ ⟨rfl, rfl⟩ h1)
         · intro T_ B_ a_ w_ K_ hT hB
           intro hf hsD hk
           exact ob rfl rfl (st_indexArr (o' := 1) hsD (Ev.tmp (hT _ (mem_nth (i := 4) rfl))) (.const _) rfl hf Tryd.runUnderlying29 Tryd.sizeOf3 (by decide) rfl fun a_1 w_1 h1 => hk _ _ _ _ ⟨rfl, rfl⟩ h1)
         · intro T_ B_ a_ w_ K_ hT hB
           rintro _ _ ⟨rfl, rfl⟩ h81 -
           intro hf hsD hk
           exact ob rfl rfl (st_load1 (o := 0) (off := 1) (v := .int .i64 k1) hsD (Ev.tmp h81) rfl hf Tryd.isAgg3 (hsD.cellsM (hB _ (mem_nth (i := 0) rfl))) rfl fun a_1 w_1 h1 => hk _ _ _ _ ⟨rfl, rfl⟩ h1)
         · intro T_ B_ a_ w_ K_ hT hB
           intro hf hsD hk
           exact ob rfl rfl (st_move hsD (Ev.tmp (hT _ (mem_nth (i := 1) rfl))) rfl hf fun a_1 w_1 h1 => hk _ _ _ _ ⟨rfl, rfl⟩ h1)
         · intro T_ B_ a_ w_ K_ hT hB
           rintro _ _ ⟨rfl, rfl⟩ h83 -
           intro hf hsD hk
           exact ob rfl rfl (st_add (z := (z : Int) + 1) hsD (Ev.tmp h83) (.const _) rfl hf rfl (by omega) fun a_1 w_1 h1 => hk _ _ _ _ ⟨rfl, rfl⟩ h1)
         · intro T_ B_ a_ w_ K_ hT hB
           rintro _ _ ⟨rfl, rfl⟩ h82 -
           rintro _ _ ⟨rfl, rfl⟩ h84 -
           intro hf hsD hk
           exact ob rfl rfl (st_callv (vs := [.int .i64 k1, .int .i64 ((z : Int) + 1)]) hsD (.func _) ⟨(Ev.tmp h82), (Ev.tmp h84), trivial⟩ rfl hf Tryd.call38 rfl (turn_v k1 ((z : Int) + 1) (by omega) _) fun a_1 w_1 h1 => hk _ _ _ _ ⟨rfl, rfl⟩ h1)
         rintro _ _ ⟨rfl, rfl⟩
         rintro _ _ ⟨rfl, rfl⟩
         rintro _ _ ⟨rfl, rfl⟩
         rintro _ _ ⟨rfl, rfl⟩
         rintro _ _ ⟨rfl, rfl⟩
         rintro _ _ ⟨rfl, rfl⟩
         rintro _ _ ⟨rfl, rfl⟩
         intro a_77 w_77 hs77
         clear hs76
         have hs78 := Sx.as (T' := [_, _, _, _, _, _, _, _, _, _, _, _, _]) (B' := [_, _]) rfl rfl hs77; clear hs77
         refine tw_step (by kernel_rfl) (ob rfl rfl (st_call (vs := [.agg ⟨(bookL b A n cp)⟩, .int .i64 (q : Int), .int .i64 (turn k1 ((z : Int) + 1))]) hs78 (.func _) ⟨(Ev.t 0 rfl), (Ev.t 1 rfl), (Ev.t 6 rfl), trivial⟩ rfl rfl Tryd.call44 rfl (stretched_b b A n cp q x hx (turn k1 ((z : Int) + 1)) hb (by omega) _ (hP.kp hs78.kp) hn) fun v98 bs99 a_79 w_79 hp79 hs79 => ?_)); clear hs78
         obtain ⟨As97, cs97, bs97, os97, rfl, hw97, rfl⟩ := hp79
         have hs80 := Sx.as (T' := [_, _, _, _, _, _, _, _, _, _, _, _, _, _]) (B' := [_, _, _]) rfl rfl hs79; clear hs79
         refine tw_step (by kernel_rfl) (ob rfl rfl (st_call (vs := [.agg ⟨(bookL (b.upto q x (min 60 (x.mi.hi + (turn k1 ((z : Int) + 1))))) As97 n cs97)⟩]) hs80 (.func _) ⟨(Ev.t 0 rfl), trivial⟩ rfl rfl Tryd.call23 rfl (plansL hp1 (Plan_b (b.upto q x (min 60 (x.mi.hi + (turn k1 ((z : Int) + 1))))) As97 n cs97 _ (by rw [show n = (b.upto q x (min 60 (x.mi.hi + (turn k1 ((z : Int) + 1))))).parts.length from by simp only [Book.upto, List.length_set]; exact hl2]; exact hw97.at hs80 0 rfl) hn (hG.kp hs80.kp (by simp)))) fun v101 bs102 a_81 w_81 hp81 hs81 => ?_)); clear hs80
         obtain ⟨Ap100, np100, cq100, rfl, rfl⟩ := hp81
         have hs82 := Sx.as (T' := [_, _, _, _, _, _, _, _, _, _, _, _, _, _, _]) (B' := [_, _, _]) rfl rfl hs81; clear hs81
         refine tw_step (by kernel_rfl) (ob rfl rfl (st_move hs82 (Ev.t 0 rfl) rfl rfl fun _ _ hs83 => ?_)); clear hs82
         refine tw_pair (fun a_ w_ => Sx 130 [] [(89, .int .i64 0), (88, .slice Ap100 np100 cq100), (78, .tuple ⟨[.slice Ap100 np100 cq100, .int .i64 0]⟩), (87, .tuple ⟨[.slice Ap100 np100 cq100, .int .i64 0]⟩), (86, .agg ⟨(bookL (b.upto q x (min 60 (x.mi.hi + (turn k1 ((z : Int) + 1))))) As97 n cs97)⟩), (79, .agg ⟨(bookL b A n cp)⟩), (80, .int .i64 (q : Int)), (81, .pointer (some ⟨b30, 1, none⟩)), (82, .int .i64 k1), (83, .int .i64 (z : Int)), (84, .int .i64 ((z : Int) + 1)), (85, .int .i64 (turn k1 ((z : Int) + 1))), (77, .bool false), (6, .int .i64 (z : Int)), (5, .int .i64 (q : Int)), (4, .bool false), (3, .pointer (some ⟨b30, 0, none⟩)), (2, .pointer (some ⟨b29, 0, none⟩))] [(bs97, os97), (b30, some (.cells ⟨[.int .i64 k0, .int .i64 k1]⟩ 29 (0, 0))), (b29, some (.cells ⟨(bookL b A n cp)⟩ 27 (0, 0)))] [] w a_ w_) (by kernel_rfl) ?_ ?_ (fun a_86 w_86 hs86 => ?_)
         · skip
           refine ob rfl rfl (st_extract hs83 (Ev.t 0 rfl) rfl rfl rfl fun _ _ hs84 => ?_); clear hs83
           refine ob rfl rfl (st_extract hs84 (Ev.t 1 rfl) rfl rfl rfl fun _ _ hs85 => ?_); clear hs84
           exact hs85
         · skip
           refine ob rfl rfl (st_extract hs83 (Ev.t 0 rfl) rfl rfl rfl fun _ _ hs84 => ?_); clear hs83
           refine ob rfl rfl (st_extract hs84 (Ev.t 1 rfl) rfl rfl rfl fun _ _ hs85 => ?_); clear hs84
           exact Sx.keepE [1, 0, 2, 3, 4, 5, 6, 7, 8, 9, 10, 11, 12, 13, 14, 15, 16, 17] _ ⟨⟨_, rfl, rfl⟩, ⟨_, rfl, rfl⟩, ⟨_, rfl, rfl⟩, ⟨_, rfl, rfl⟩, ⟨_, rfl, rfl⟩, ⟨_, rfl, rfl⟩, ⟨_, rfl, rfl⟩, ⟨_, rfl, rfl⟩, ⟨_, rfl, rfl⟩, ⟨_, rfl, rfl⟩, ⟨_, rfl, rfl⟩, ⟨_, rfl, rfl⟩, ⟨_, rfl, rfl⟩, ⟨_, rfl, rfl⟩, ⟨_, rfl, rfl⟩, ⟨_, rfl, rfl⟩, ⟨_, rfl, rfl⟩, ⟨_, rfl, rfl⟩, trivial⟩ hs85
         clear hs83
         refine tw_step (by kernel_rfl) (ob rfl rfl (st_assign hs86 (Ev.t 0 rfl) rfl rfl fun _ _ hs87 => ?_)); clear hs86
         refine hK96 _ _ ?_; clear hK96
         have hs88 := Sx.keepT [0, 14, 15, 16, 18] [_, _, _, _, _] ⟨rfl, rfl, rfl, rfl, rfl, trivial⟩ hs87; clear hs87
         refine cd_region fun K103 hK103 => ?_
         refine sq rfl (st_loadA (o := 0) (off := 0) (vs := (bookL b A n cp)) hs88 (Ev.t 4 rfl) rfl rfl Tryd.isAgg27 Tryd.sizeOf27 (hs88.cells 2 rfl) rfl fun _ _ hs89 => ?_); clear hs88
         refine sq rfl (st_move hs89 (Ev.t 3 rfl) rfl rfl fun _ _ hs90 => ?_); clear hs89
         refine sq rfl (st_move hs90 (Ev.t 3 rfl) rfl rfl fun _ _ hs91 => ?_); clear hs90
         refine sq rfl (st_add (z := (z : Int) + 1) hs91 (Ev.t 0 rfl) (.const _) rfl rfl rfl (by omega) fun _ _ hs92 => ?_); clear hs91
         refine sq rfl (st_call (vs := [.agg ⟨(bookL b A n cp)⟩, .int .i64 (q : Int), .int .i64 ((z : Int) + 1)]) hs92 (.func _) ⟨(Ev.t 3 rfl), (Ev.t 2 rfl), (Ev.t 0 rfl), trivial⟩ rfl rfl Tryd.call44 rfl (stretched_b b A n cp q x hx ((z : Int) + 1) hb (by omega) _ (hP.kp hs92.kp) hn) fun v105 bs106 a_93 w_93 hp93 hs93 => ?_); clear hs92
         obtain ⟨As104, cs104, bs104, os104, rfl, hw104, rfl⟩ := hp93
         have hs94 := Sx.as (T' := [_, _, _, _, _, _, _, _, _, _]) (B' := [_, _, _, _]) rfl rfl hs93; clear hs93
         refine sq rfl (st_call (vs := [.agg ⟨(bookL (b.upto q x (min 60 (x.mi.hi + ((z : Int) + 1)))) As104 n cs104)⟩]) hs94 (.func _) ⟨(Ev.t 0 rfl), trivial⟩ rfl rfl Tryd.call23 rfl (plansL hp2 (Plan_b (b.upto q x (min 60 (x.mi.hi + ((z : Int) + 1)))) As104 n cs104 _ (by rw [show n = (b.upto q x (min 60 (x.mi.hi + ((z : Int) + 1)))).parts.length from by simp only [Book.upto, List.length_set]; exact hl2]; exact hw104.at hs94 0 rfl) hn (hG.kp hs94.kp (by simp)))) fun v108 bs109 a_95 w_95 hp95 hs95 => ?_); clear hs94
         obtain ⟨Ap107, np107, cq107, rfl, rfl⟩ := hp95
         have hs96 := Sx.as (T' := [_, _, _, _, _, _, _, _, _, _, _]) (B' := [_, _, _, _]) rfl rfl hs95; clear hs95
         refine sq rfl (st_move hs96 (Ev.t 0 rfl) rfl rfl fun _ _ hs97 => ?_); clear hs96
         refine sq rfl (st_extract hs97 (Ev.t 0 rfl) rfl rfl rfl fun _ _ hs98 => ?_); clear hs97
         refine sq rfl (st_extract hs98 (Ev.t 1 rfl) rfl rfl rfl fun _ _ hs99 => ?_); clear hs98
         refine sq rfl (st_assign hs99 (Ev.t 0 rfl) rfl rfl fun _ _ hs100 => ?_); clear hs99
         refine hK103 _ _ ?_; clear hK103
         have hs101 := Sx.keepT [0, 10, 11, 12, 13, 14] [_, _, _, _, _, _] ⟨rfl, rfl, rfl, rfl, rfl, rfl, trivial⟩ hs100; clear hs100
         refine cd_region fun K110 hK110 => ?_
         refine sq rfl (st_field (o' := 22) hs101 (Ev.t 5 rfl) rfl rfl Tryd.runUnderlying27 rfl Tryd.sizeOf25 rfl rfl fun _ _ hs102 => ?_); clear hs101
         refine sq rfl (st_load1 (o := 0) (off := 22) (v := .slice A n cp) hs102 (Ev.t 0 rfl) rfl rfl Tryd.isAgg25 (hs102.cells 3 rfl) rfl fun _ _ hs103 => ?_); clear hs102
         refine sq rfl (st_move hs103 (Ev.t 5 rfl) rfl rfl fun _ _ hs104 => ?_); clear hs103
         obtain ⟨b111, o111, hA111, -, hc111⟩ := hP.el q x hx
         refine sq rfl (st_indexM (o' := o111 + q * 4) hs104 (Ev.t 1 rfl) (Ev.t 0 rfl) rfl rfl hA111 Tryd.runUnderlying25 Tryd.sizeOf66 ⟨by omega, by have := hP.len; have := (List.getElem?_eq_some_iff.1 hx).1; omega⟩ rfl fun _ _ hs105 => ?_); clear hs104
         refine sq rfl (st_field (o' := o111 + q * 4) hs105 (Ev.t 0 rfl) rfl rfl Tryd.runUnderlying66 rfl Tryd.sizeOf23 rfl rfl fun _ _ hs106 => ?_); clear hs105
         refine sq rfl (st_field (o' := o111 + q * 4 + 1) hs106 (Ev.t 0 rfl) rfl rfl Tryd.runUnderlying23 rfl Tryd.sizeOf3 rfl rfl fun _ _ hs107 => ?_); clear hs106
         refine sq rfl (st_load1 (o := o111 + q * 4) (off := 1) (v := .int .i64 x.mi.hi) hs107 (Ev.t 0 rfl) rfl rfl Tryd.isAgg3 (hs107.old hc111 (by simp)) rfl fun _ _ hs108 => ?_); clear hs107
         refine sq rfl (st_move hs108 (Ev.t 9 rfl) rfl rfl fun _ _ hs109 => ?_); clear hs108
         refine sq rfl (st_add (z := x.mi.hi + (z : Int)) hs109 (Ev.t 1 rfl) (Ev.t 0 rfl) rfl rfl rfl (by omega) fun _ _ hs110 => ?_); clear hs109
         refine sq rfl (st_assign hs110 (Ev.t 0 rfl) rfl rfl fun _ _ hs111 => ?_); clear hs110
         refine hK110 _ _ ?_; clear hK110
         have hs112 := Sx.keepT [0, 10, 11, 12, 14] [_, _, _, _, _] ⟨rfl, rfl, rfl, rfl, rfl, trivial⟩ hs111; clear hs111
         refine cd_region fun K112 hK112 => ?_
         refine sq rfl (st_move hs112 (Ev.t 0 rfl) rfl rfl fun _ _ hs113 => ?_); clear hs112
         refine sq rfl (st_cmp (c := decide ((x.mi.hi + (z : Int) : Int) > 60)) hs113 (Ev.t 0 rfl) (.const _) rfl rfl rfl rfl fun _ _ hs114 => ?_); clear hs113
         refine sq rfl (st_move hs114 (Ev.t 0 rfl) rfl rfl fun _ _ hs115 => ?_); clear hs114
         refine sq_gv hs115 (gg := !(decide ((x.mi.hi + (z : Int) : Int) > 60))) (v := .int .i64 0) rfl rfl 0 rfl (ison_f _) rfl rfl rfl (fun hg113 K114 hK114 => st_move hs115 (Ev.t 5 rfl) rfl rfl hK114) fun _ _ hs116 => ?_; clear hs115
         refine sq_gv hs116 (gg := !(decide ((x.mi.hi + (z : Int) : Int) > 60))) (v := .bool true) rfl rfl 1 rfl (ison_f _) rfl rfl rfl (fun hg115 K116 hK116 => st_cmp (c := true) hs116 ((Ev.t 0 rfl).un hg115) (.const _) rfl rfl rfl rfl hK116) fun _ _ hs117 => ?_; clear hs116
         refine sq rfl (st_or hs117 (gx := true) (gy := !(decide ((x.mi.hi + (z : Int) : Int) > 60))) (Ev.t 2 rfl) rfl (Ev.t 0 rfl) (fun h => (by first | exact absurd h (by decide) | (rw [h]; rfl))) rfl rfl fun _ _ hs118 => ?_); clear hs117
         refine sq rfl (st_move hs118 (Ev.t 0 rfl) rfl rfl fun _ _ hs119 => ?_); clear hs118
         refine sq_gv hs119 (gg := (decide ((x.mi.hi + (z : Int) : Int) > 60)) || true) (v := .int .i64 (z : Int)) rfl rfl 0 rfl (ison_t _) rfl rfl rfl (fun hg117 K118 hK118 => st_move hs119 (Ev.t 10 rfl) rfl rfl hK118) fun _ _ hs120 => ?_; clear hs119
         refine sq_gv hs120 (gg := (decide ((x.mi.hi + (z : Int) : Int) > 60)) || true) (v := .bool (((z : Int) : Int) == 60)) rfl rfl 1 rfl (ison_t _) rfl rfl rfl (fun hg119 K120 hK120 => st_cmp (c := ((z : Int) : Int) == 60) hs120 ((Ev.t 0 rfl).un hg119) (.const _) rfl rfl rfl rfl hK120) fun _ _ hs121 => ?_; clear hs120
         refine sq_gv hs121 (gg := (decide ((x.mi.hi + (z : Int) : Int) > 60)) || true) (v := .bool (((z : Int) : Int) == 60)) rfl rfl 2 rfl (ison_t _) rfl rfl rfl (fun hg121 K122 hK122 => st_move hs121 ((Ev.t 0 rfl).un hg121) rfl rfl hK122) fun _ _ hs122 => ?_; clear hs121
         refine sq_gv hs122 (gg := ((decide ((x.mi.hi + (z : Int) : Int) > 60)) || true) && (!(((z : Int) : Int) == 60))) (v := .int .i64 (x.mi.hi + (z : Int))) rfl rfl 0 rfl (ison_gf _ _) rfl rfl rfl (fun hg123 K124 hK124 => st_move hs122 (Ev.t 10 rfl) rfl rfl hK124) fun _ _ hs123 => ?_; clear hs122
         refine sq_gv hs123 (gg := ((decide ((x.mi.hi + (z : Int) : Int) > 60)) || true) && (!(((z : Int) : Int) == 60))) (v := .int .i64 ((x.mi.hi + (z : Int)) + 1)) rfl rfl 1 rfl (ison_gf _ _) rfl rfl rfl (fun hg125 K126 hK126 => st_add (z := (x.mi.hi + (z : Int)) + 1) hs123 ((Ev.t 0 rfl).un hg125) (.const _) rfl rfl rfl (by omega) hK126) fun _ _ hs124 => ?_; clear hs123
         refine sq_gv hs124 (gg := ((decide ((x.mi.hi + (z : Int) : Int) > 60)) || true) && (!(((z : Int) : Int) == 60))) (v := .bool (decide (((x.mi.hi + (z : Int)) + 1 : Int) > 60))) rfl rfl 2 rfl (ison_gf _ _) rfl rfl rfl (fun hg127 K128 hK128 => st_cmp (c := decide (((x.mi.hi + (z : Int)) + 1 : Int) > 60)) hs124 ((Ev.t 0 rfl).un hg127) (.const _) rfl rfl rfl rfl hK128) fun _ _ hs125 => ?_; clear hs124
         refine sq_gv hs125 (gg := (decide ((x.mi.hi + (z : Int) : Int) > 60)) || true) (v := .bool ((((z : Int) : Int) == 60) || (decide (((x.mi.hi + (z : Int)) + 1 : Int) > 60)))) rfl rfl 6 rfl (ison_t _) rfl rfl rfl (fun hg129 K130 hK130 => st_or hs125 (gx := (decide ((x.mi.hi + (z : Int) : Int) > 60)) || true) (gy := ((decide ((x.mi.hi + (z : Int) : Int) > 60)) || true) && (!(((z : Int) : Int) == 60))) (Ev.t 3 rfl) hg129 (Ev.t 0 rfl) (fun h => and_i hg129 (by first | exact absurd h (by decide) | (rw [h]; rfl))) rfl rfl hK130) fun _ _ hs126 => ?_; clear hs125
         refine sq_gv hs126 (gg := (decide ((x.mi.hi + (z : Int) : Int) > 60)) || true) (v := .bool ((((z : Int) : Int) == 60) || (decide (((x.mi.hi + (z : Int)) + 1 : Int) > 60)))) rfl rfl 7 rfl (ison_t _) rfl rfl rfl (fun hg131 K132 hK132 => st_move hs126 ((Ev.t 0 rfl).un hg131) rfl rfl hK132) fun _ _ hs127 => ?_; clear hs126
         refine sq_gv hs127 (gg := ((decide ((x.mi.hi + (z : Int) : Int) > 60)) || true) && (!((((z : Int) : Int) == 60) || (decide (((x.mi.hi + (z : Int)) + 1 : Int) > 60))))) (v := .int .i64 e3) rfl rfl 0 rfl (ison_gf _ _) rfl rfl rfl (fun hg133 K134 hK134 => st_move hs127 (Ev.t 16 rfl) rfl rfl hK134) fun _ _ hs128 => ?_; clear hs127
         refine sq_gv hs128 (gg := ((decide ((x.mi.hi + (z : Int) : Int) > 60)) || true) && (!((((z : Int) : Int) == 60) || (decide (((x.mi.hi + (z : Int)) + 1 : Int) > 60))))) (v := .bool ((e3 : Int) == 4)) rfl rfl 1 rfl (ison_gf _ _) rfl rfl rfl (fun hg135 K136 hK136 => st_cmp (c := (e3 : Int) == 4) hs128 ((Ev.t 0 rfl).un hg135) (.const _) rfl rfl rfl rfl hK136) fun _ _ hs129 => ?_; clear hs128
         refine sq_gv hs129 (gg := (decide ((x.mi.hi + (z : Int) : Int) > 60)) || true) (v := .bool (((((z : Int) : Int) == 60) || (decide (((x.mi.hi + (z : Int)) + 1 : Int) > 60))) || ((e3 : Int) == 4))) rfl rfl 10 rfl (ison_t _) rfl rfl rfl (fun hg137 K138 hK138 => st_or hs129 (gx := (decide ((x.mi.hi + (z : Int) : Int) > 60)) || true) (gy := ((decide ((x.mi.hi + (z : Int) : Int) > 60)) || true) && (!((((z : Int) : Int) == 60) || (decide (((x.mi.hi + (z : Int)) + 1 : Int) > 60))))) (Ev.t 2 rfl) hg137 (Ev.t 0 rfl) (fun h => and_i hg137 (by first | exact absurd h (by decide) | (rw [h]; rfl))) rfl rfl hK138) fun _ _ hs130 => ?_; clear hs129
         refine sq rfl (st_and hs130 (gx := true) (gy := (decide ((x.mi.hi + (z : Int) : Int) > 60)) || true) (Ev.t 11 rfl) rfl (Ev.t 0 rfl) (fun h => h) rfl rfl fun _ _ hs131 => ?_); clear hs130
         refine sq rfl (st_move hs131 (Ev.t 0 rfl) rfl rfl fun _ _ hs132 => ?_); clear hs131
         refine sq_gv hs132 (gg := ((decide ((x.mi.hi + (z : Int) : Int) > 60)) || true) && (((((z : Int) : Int) == 60) || (decide (((x.mi.hi + (z : Int)) + 1 : Int) > 60))) || ((e3 : Int) == 4))) (v := .bool true) rfl rfl 0 rfl (ison_t _) rfl rfl rfl (fun hg139 K140 hK140 => st_callv (vs := []) hs132 (.func _) trivial rfl rfl Tryd.call20 rfl (fired_v _ (hG.kp hs132.kp (by simp))) hK140) fun _ _ hs133 => ?_; clear hs132
         refine sq rfl (st_and hs133 (gx := true) (gy := ((decide ((x.mi.hi + (z : Int) : Int) > 60)) || true) && (((((z : Int) : Int) == 60) || (decide (((x.mi.hi + (z : Int)) + 1 : Int) > 60))) || ((e3 : Int) == 4))) (Ev.t 1 rfl) rfl (Ev.t 0 rfl) (fun h => h) rfl rfl fun _ _ hs134 => ?_); clear hs133
         have hs135 := Sx.keepT [0, 1, 2, 3, 4, 5, 6, 7, 8, 9, 10, 11, 12, 13, 14, 15, 16, 17, 18, 19, 20, 21, 22, 23, 24, 25] [_, _, _, _, _, _, _, _, _, _, _, _, _, _, _, _, _, _, _, _, _, _, _, _, _, _] ⟨rfl, rfl, rfl, rfl, rfl, rfl, rfl, rfl, rfl, rfl, rfl, rfl, rfl, rfl, rfl, rfl, rfl, rfl, rfl, rfl, rfl, rfl, rfl, rfl, rfl, rfl, trivial⟩ hs134; clear hs134
         refine sq rfl (st_assign hs135 (Ev.t 0 rfl) rfl rfl fun _ _ hs136 => ?_); clear hs135
         refine hK112 _ _ ?_; clear hK112
         have hs137 := Sx.keepT [0] [_] ⟨rfl, trivial⟩ hs136; clear hs136
         refine cd_retv (vs := [.bool ((((decide ((x.mi.hi + (z : Int) : Int) > 60)) || true) && (((((z : Int) : Int) == 60) || (decide (((x.mi.hi + (z : Int)) + 1 : Int) > 60))) || ((e3 : Int) == 4))) && true)]) hs137 hQ0 rfl ⟨.tmp 0 rfl, trivial⟩ ?_
         clear hs137 hQ0 hN0
         first | rfl | (simp [pack]; done) | (simp [pack]; omega)
     · skip
       obtain ⟨e2, hp1⟩ : ∃ e, (b.upto q x (min 60 (x.mi.hi + turn k1 ((z : Int) + 1)))).planR.2 = e := ⟨_, rfl⟩
       by_cases hf2 : z < 60 ∧ x.mi.hi + (z : Int) + 1 ≤ 60
       · skip
         have hd2 : min 60 (x.mi.hi + ((z : Int) + 1)) = x.mi.hi + ((z : Int) + 1) := by omega
         have hp2 : (b.upto q x (min 60 (x.mi.hi + ((z : Int) + 1)))).planR.2 = 4 := by rw [hd2, planR_ok (upto_ok hok hx (by omega)), hat.no hf2.1]; rfl
         have hc141 : false = false := rfl
         refine cd_cond hs76 (Ev.t 0 rfl) (fun h => absurd (hc141.symm.trans h) (by decide)) (fun _ => ?_)
         refine cd_skip ?_
         refine th_norm (hK47 _ _ ?_)
         refine cd_drawnP mixed hs76 [⟨79, [], Is (.agg ⟨(bookL b A n cp)⟩)⟩,
      ⟨80, [], Is (.int .i64 (q : Int))⟩,
      ⟨81, [], Is (.pointer (some ⟨b30, 1, none⟩))⟩,
      ⟨82, [2], Is (.int .i64 k1)⟩,
      ⟨83, [], Is (.int .i64 (z : Int))⟩,
      ⟨84, [4], Is (.int .i64 ((z : Int) + 1))⟩,
      ⟨85, [3, 5], Is (.int .i64 (turn k1 ((z : Int) + 1)))⟩] (by kernel_rfl) (by kernel_rfl) fun K142 hK142 => ⟨⟨?_, ?_, ?_, ?_, ?_, ?_, ?_, trivial⟩, ?_⟩
         · intro T_ B_ a_ w_ K_ hT hB
           intro hf hsD hk
           exact ob rfl rfl (st_loadA (o := 0) (off := 0) (vs := (bookL b A n cp)) hsD (Ev.tmp (hT _ (mem_nth (i := 5) rfl))) rfl hf Tryd.isAgg27 Tryd.sizeOf27 (hsD.cellsM (hB _ (mem_nth (i := 1) rfl))) rfl fun a_1 w_1 h1 => hk _ _ _ _ ⟨rfl, rfl⟩ h1)
         · intro T_ B_ a_ w_ K_ hT hB
           intro hf hsD hk
           exact ob rfl rfl (st_move hsD (Ev.tmp (hT _ (mem_nth (i := 2) rfl))) rfl hf fun a_1 w_1 h1 => hk _ _ _ _ ⟨rfl, rfl⟩ h1)
         · intro T_ B_ a_ w_ K_ hT hB
           intro hf hsD hk
           exact ob rfl rfl (st_indexArr (o' := 1) hsD (Ev.tmp (hT _ (mem_nth (i := 4) rfl))) (.const _) rfl hf Tryd.runUnderlying29 Tryd.sizeOf3 (by decide) rfl fun a_1 w_1 h1 => hk _ _ _ _ ⟨rfl, rfl⟩ h1)
         · intro T_ B_ a_ w_ K_ hT hB
           rintro _ _ ⟨rfl, rfl⟩ h81 -
           intro hf hsD hk
           exact ob rfl rfl (st_load1 (o := 0) (off := 1) (v := .int .i64 k1) hsD (Ev.tmp h81) rfl hf Tryd.isAgg3 (hsD.cellsM (hB _ (mem_nth (i := 0) rfl))) rfl fun a_1 w_1 h1 => hk _ _ _ _ ⟨rfl, rfl⟩ h1)
         · intro T_ B_ a_ w_ K_ hT hB
           intro hf hsD hk
           exact ob rfl rfl (st_move hsD (Ev.tmp (hT _ (mem_nth (i := 1) rfl))) rfl hf fun a_1 w_1 h1 => hk _ _ _ _ ⟨rfl, rfl⟩ h1)
         · intro T_ B_ a_ w_ K_ hT hB
           rintro _ _ ⟨rfl, rfl⟩ h83 -
           intro hf hsD hk
           exact ob rfl rfl (st_add (z := (z : Int) + 1) hsD (Ev.tmp h83) (.const _) rfl hf rfl (by omega) fun a_1 w_1 h1 => hk _ _ _ _ ⟨rfl, rfl⟩ h1)
         · intro T_ B_ a_ w_ K_ hT hB
           rintro _ _ ⟨rfl, rfl⟩ h82 -
           rintro _ _ ⟨rfl, rfl⟩ h84 -
           intro hf hsD hk
           exact ob rfl rfl (st_callv (vs := [.int .i64 k1, .int .i64 ((z : Int) + 1)]) hsD (.func _) ⟨(Ev.tmp h82), (Ev.tmp h84), trivial⟩ rfl hf Tryd.call38 rfl (turn_v k1 ((z : Int) + 1) (by omega) _) fun a_1 w_1 h1 => hk _ _ _ _ ⟨rfl, rfl⟩ h1)
         rintro _ _ ⟨rfl, rfl⟩
         rintro _ _ ⟨rfl, rfl⟩
         rintro _ _ ⟨rfl, rfl⟩
         rintro _ _ ⟨rfl, rfl⟩
         rintro _ _ ⟨rfl, rfl⟩
         rintro _ _ ⟨rfl, rfl⟩
         rintro _ _ ⟨rfl, rfl⟩
         intro a_77 w_77 hs77
         clear hs76
         have hs78 := Sx.as (T' := [_, _, _, _, _, _, _, _, _, _, _, _, _]) (B' := [_, _]) rfl rfl hs77; clear hs77
         refine tw_step (by kernel_rfl) (ob rfl rfl (st_call (vs := [.agg ⟨(bookL b A n cp)⟩, .int .i64 (q : Int), .int .i64 (turn k1 ((z : Int) + 1))]) hs78 (.func _) ⟨(Ev.t 0 rfl), (Ev.t 1 rfl), (Ev.t 6 rfl), trivial⟩ rfl rfl Tryd.call44 rfl (stretched_b b A n cp q x hx (turn k1 ((z : Int) + 1)) hb (by omega) _ (hP.kp hs78.kp) hn) fun v144 bs145 a_79 w_79 hp79 hs79 => ?_)); clear hs78
         obtain ⟨As143, cs143, bs143, os143, rfl, hw143, rfl⟩ := hp79
         have hs80 := Sx.as (T' := [_, _, _, _, _, _, _, _, _, _, _, _, _, _]) (B' := [_, _, _]) rfl rfl hs79; clear hs79
         refine tw_step (by kernel_rfl) (ob rfl rfl (st_call (vs := [.agg ⟨(bookL (b.upto q x (min 60 (x.mi.hi + (turn k1 ((z : Int) + 1))))) As143 n cs143)⟩]) hs80 (.func _) ⟨(Ev.t 0 rfl), trivial⟩ rfl rfl Tryd.call23 rfl (plansL hp1 (Plan_b (b.upto q x (min 60 (x.mi.hi + (turn k1 ((z : Int) + 1))))) As143 n cs143 _ (by rw [show n = (b.upto q x (min 60 (x.mi.hi + (turn k1 ((z : Int) + 1))))).parts.length from by simp only [Book.upto, List.length_set]; exact hl2]; exact hw143.at hs80 0 rfl) hn (hG.kp hs80.kp (by simp)))) fun v147 bs148 a_81 w_81 hp81 hs81 => ?_)); clear hs80
         obtain ⟨Ap146, np146, cq146, rfl, rfl⟩ := hp81
         have hs82 := Sx.as (T' := [_, _, _, _, _, _, _, _, _, _, _, _, _, _, _]) (B' := [_, _, _]) rfl rfl hs81; clear hs81
         refine tw_step (by kernel_rfl) (ob rfl rfl (st_move hs82 (Ev.t 0 rfl) rfl rfl fun _ _ hs83 => ?_)); clear hs82
         refine tw_pair (fun a_ w_ => Sx 130 [] [(89, .int .i64 e2), (88, .slice Ap146 np146 cq146), (78, .tuple ⟨[.slice Ap146 np146 cq146, .int .i64 e2]⟩), (87, .tuple ⟨[.slice Ap146 np146 cq146, .int .i64 e2]⟩), (86, .agg ⟨(bookL (b.upto q x (min 60 (x.mi.hi + (turn k1 ((z : Int) + 1))))) As143 n cs143)⟩), (79, .agg ⟨(bookL b A n cp)⟩), (80, .int .i64 (q : Int)), (81, .pointer (some ⟨b30, 1, none⟩)), (82, .int .i64 k1), (83, .int .i64 (z : Int)), (84, .int .i64 ((z : Int) + 1)), (85, .int .i64 (turn k1 ((z : Int) + 1))), (77, .bool false), (6, .int .i64 (z : Int)), (5, .int .i64 (q : Int)), (4, .bool false), (3, .pointer (some ⟨b30, 0, none⟩)), (2, .pointer (some ⟨b29, 0, none⟩))] [(bs143, os143), (b30, some (.cells ⟨[.int .i64 k0, .int .i64 k1]⟩ 29 (0, 0))), (b29, some (.cells ⟨(bookL b A n cp)⟩ 27 (0, 0)))] [] w a_ w_) (by kernel_rfl) ?_ ?_ (fun a_86 w_86 hs86 => ?_)
         · skip
           refine ob rfl rfl (st_extract hs83 (Ev.t 0 rfl) rfl rfl rfl fun _ _ hs84 => ?_); clear hs83
           refine ob rfl rfl (st_extract hs84 (Ev.t 1 rfl) rfl rfl rfl fun _ _ hs85 => ?_); clear hs84
           exact hs85
         · skip
           refine ob rfl rfl (st_extract hs83 (Ev.t 0 rfl) rfl rfl rfl fun _ _ hs84 => ?_); clear hs83
           refine ob rfl rfl (st_extract hs84 (Ev.t 1 rfl) rfl rfl rfl fun _ _ hs85 => ?_); clear hs84
           exact Sx.keepE [1, 0, 2, 3, 4, 5, 6, 7, 8, 9, 10, 11, 12, 13, 14, 15, 16, 17] _ ⟨⟨_, rfl, rfl⟩, ⟨_, rfl, rfl⟩, ⟨_, rfl, rfl⟩, ⟨_, rfl, rfl⟩, ⟨_, rfl, rfl⟩, ⟨_, rfl, rfl⟩, ⟨_, rfl, rfl⟩, ⟨_, rfl, rfl⟩, ⟨_, rfl, rfl⟩, ⟨_, rfl, rfl⟩, ⟨_, rfl, rfl⟩, ⟨_, rfl, rfl⟩, ⟨_, rfl, rfl⟩, ⟨_, rfl, rfl⟩, ⟨_, rfl, rfl⟩, ⟨_, rfl, rfl⟩, ⟨_, rfl, rfl⟩, ⟨_, rfl, rfl⟩, trivial⟩ hs85
         clear hs83
         refine tw_step (by kernel_rfl) (ob rfl rfl (st_assign hs86 (Ev.t 0 rfl) rfl rfl fun _ _ hs87 => ?_)); clear hs86
         refine hK142 _ _ ?_; clear hK142
         have hs88 := Sx.keepT [0, 14, 15, 16, 18] [_, _, _, _, _] ⟨rfl, rfl, rfl, rfl, rfl, trivial⟩ hs87; clear hs87
         refine cd_region fun K149 hK149 => ?_
         refine sq rfl (st_loadA (o := 0) (off := 0) (vs := (bookL b A n cp)) hs88 (Ev.t 4 rfl) rfl rfl Tryd.isAgg27 Tryd.sizeOf27 (hs88.cells 2 rfl) rfl fun _ _ hs89 => ?_); clear hs88
         refine sq rfl (st_move hs89 (Ev.t 3 rfl) rfl rfl fun _ _ hs90 => ?_); clear hs89
         refine sq rfl (st_move hs90 (Ev.t 3 rfl) rfl rfl fun _ _ hs91 => ?_); clear hs90
         refine sq rfl (st_add (z := (z : Int) + 1) hs91 (Ev.t 0 rfl) (.const _) rfl rfl rfl (by omega) fun _ _ hs92 => ?_); clear hs91
         refine sq rfl (st_call (vs := [.agg ⟨(bookL b A n cp)⟩, .int .i64 (q : Int), .int .i64 ((z : Int) + 1)]) hs92 (.func _) ⟨(Ev.t 3 rfl), (Ev.t 2 rfl), (Ev.t 0 rfl), trivial⟩ rfl rfl Tryd.call44 rfl (stretched_b b A n cp q x hx ((z : Int) + 1) hb (by omega) _ (hP.kp hs92.kp) hn) fun v151 bs152 a_93 w_93 hp93 hs93 => ?_); clear hs92
         obtain ⟨As150, cs150, bs150, os150, rfl, hw150, rfl⟩ := hp93
         have hs94 := Sx.as (T' := [_, _, _, _, _, _, _, _, _, _]) (B' := [_, _, _, _]) rfl rfl hs93; clear hs93
         refine sq rfl (st_call (vs := [.agg ⟨(bookL (b.upto q x (min 60 (x.mi.hi + ((z : Int) + 1)))) As150 n cs150)⟩]) hs94 (.func _) ⟨(Ev.t 0 rfl), trivial⟩ rfl rfl Tryd.call23 rfl (plansL hp2 (Plan_b (b.upto q x (min 60 (x.mi.hi + ((z : Int) + 1)))) As150 n cs150 _ (by rw [show n = (b.upto q x (min 60 (x.mi.hi + ((z : Int) + 1)))).parts.length from by simp only [Book.upto, List.length_set]; exact hl2]; exact hw150.at hs94 0 rfl) hn (hG.kp hs94.kp (by simp)))) fun v154 bs155 a_95 w_95 hp95 hs95 => ?_); clear hs94
         obtain ⟨Ap153, np153, cq153, rfl, rfl⟩ := hp95
         have hs96 := Sx.as (T' := [_, _, _, _, _, _, _, _, _, _, _]) (B' := [_, _, _, _]) rfl rfl hs95; clear hs95
         refine sq rfl (st_move hs96 (Ev.t 0 rfl) rfl rfl fun _ _ hs97 => ?_); clear hs96
         refine sq rfl (st_extract hs97 (Ev.t 0 rfl) rfl rfl rfl fun _ _ hs98 => ?_); clear hs97
         refine sq rfl (st_extract hs98 (Ev.t 1 rfl) rfl rfl rfl fun _ _ hs99 => ?_); clear hs98
         refine sq rfl (st_assign hs99 (Ev.t 0 rfl) rfl rfl fun _ _ hs100 => ?_); clear hs99
         refine hK149 _ _ ?_; clear hK149
         have hs101 := Sx.keepT [0, 10, 11, 12, 13, 14] [_, _, _, _, _, _] ⟨rfl, rfl, rfl, rfl, rfl, rfl, trivial⟩ hs100; clear hs100
         refine cd_region fun K156 hK156 => ?_
         refine sq rfl (st_field (o' := 22) hs101 (Ev.t 5 rfl) rfl rfl Tryd.runUnderlying27 rfl Tryd.sizeOf25 rfl rfl fun _ _ hs102 => ?_); clear hs101
         refine sq rfl (st_load1 (o := 0) (off := 22) (v := .slice A n cp) hs102 (Ev.t 0 rfl) rfl rfl Tryd.isAgg25 (hs102.cells 3 rfl) rfl fun _ _ hs103 => ?_); clear hs102
         refine sq rfl (st_move hs103 (Ev.t 5 rfl) rfl rfl fun _ _ hs104 => ?_); clear hs103
         obtain ⟨b157, o157, hA157, -, hc157⟩ := hP.el q x hx
         refine sq rfl (st_indexM (o' := o157 + q * 4) hs104 (Ev.t 1 rfl) (Ev.t 0 rfl) rfl rfl hA157 Tryd.runUnderlying25 Tryd.sizeOf66 ⟨by omega, by have := hP.len; have := (List.getElem?_eq_some_iff.1 hx).1; omega⟩ rfl fun _ _ hs105 => ?_); clear hs104
         refine sq rfl (st_field (o' := o157 + q * 4) hs105 (Ev.t 0 rfl) rfl rfl Tryd.runUnderlying66 rfl Tryd.sizeOf23 rfl rfl fun _ _ hs106 => ?_); clear hs105
         refine sq rfl (st_field (o' := o157 + q * 4 + 1) hs106 (Ev.t 0 rfl) rfl rfl Tryd.runUnderlying23 rfl Tryd.sizeOf3 rfl rfl fun _ _ hs107 => ?_); clear hs106
         refine sq rfl (st_load1 (o := o157 + q * 4) (off := 1) (v := .int .i64 x.mi.hi) hs107 (Ev.t 0 rfl) rfl rfl Tryd.isAgg3 (hs107.old hc157 (by simp)) rfl fun _ _ hs108 => ?_); clear hs107
         refine sq rfl (st_move hs108 (Ev.t 9 rfl) rfl rfl fun _ _ hs109 => ?_); clear hs108
         refine sq rfl (st_add (z := x.mi.hi + (z : Int)) hs109 (Ev.t 1 rfl) (Ev.t 0 rfl) rfl rfl rfl (by omega) fun _ _ hs110 => ?_); clear hs109
         refine sq rfl (st_assign hs110 (Ev.t 0 rfl) rfl rfl fun _ _ hs111 => ?_); clear hs110
         refine hK156 _ _ ?_; clear hK156
         have hs112 := Sx.keepT [0, 10, 11, 12, 14] [_, _, _, _, _] ⟨rfl, rfl, rfl, rfl, rfl, trivial⟩ hs111; clear hs111
         refine cd_region fun K158 hK158 => ?_
         refine sq rfl (st_move hs112 (Ev.t 0 rfl) rfl rfl fun _ _ hs113 => ?_); clear hs112
         refine sq rfl (st_cmp (c := decide ((x.mi.hi + (z : Int) : Int) > 60)) hs113 (Ev.t 0 rfl) (.const _) rfl rfl rfl rfl fun _ _ hs114 => ?_); clear hs113
         refine sq rfl (st_move hs114 (Ev.t 0 rfl) rfl rfl fun _ _ hs115 => ?_); clear hs114
         refine sq_gv hs115 (gg := !(decide ((x.mi.hi + (z : Int) : Int) > 60))) (v := .int .i64 e2) rfl rfl 0 rfl (ison_f _) rfl rfl rfl (fun hg159 K160 hK160 => st_move hs115 (Ev.t 5 rfl) rfl rfl hK160) fun _ _ hs116 => ?_; clear hs115
         refine sq_gv hs116 (gg := !(decide ((x.mi.hi + (z : Int) : Int) > 60))) (v := .bool ((e2 : Int) == 0)) rfl rfl 1 rfl (ison_f _) rfl rfl rfl (fun hg161 K162 hK162 => st_cmp (c := (e2 : Int) == 0) hs116 ((Ev.t 0 rfl).un hg161) (.const _) rfl rfl rfl rfl hK162) fun _ _ hs117 => ?_; clear hs116
         refine sq rfl (st_or hs117 (gx := true) (gy := !(decide ((x.mi.hi + (z : Int) : Int) > 60))) (Ev.t 2 rfl) rfl (Ev.t 0 rfl) (fun h => (by first | exact absurd h (by decide) | (rw [h]; rfl))) rfl rfl fun _ _ hs118 => ?_); clear hs117
         refine sq rfl (st_move hs118 (Ev.t 0 rfl) rfl rfl fun _ _ hs119 => ?_); clear hs118
         refine sq_gv hs119 (gg := (decide ((x.mi.hi + (z : Int) : Int) > 60)) || ((e2 : Int) == 0)) (v := .int .i64 (z : Int)) rfl rfl 0 rfl (ison_t _) rfl rfl rfl (fun hg163 K164 hK164 => st_move hs119 (Ev.t 10 rfl) rfl rfl hK164) fun _ _ hs120 => ?_; clear hs119
         refine sq_gv hs120 (gg := (decide ((x.mi.hi + (z : Int) : Int) > 60)) || ((e2 : Int) == 0)) (v := .bool (((z : Int) : Int) == 60)) rfl rfl 1 rfl (ison_t _) rfl rfl rfl (fun hg165 K166 hK166 => st_cmp (c := ((z : Int) : Int) == 60) hs120 ((Ev.t 0 rfl).un hg165) (.const _) rfl rfl rfl rfl hK166) fun _ _ hs121 => ?_; clear hs120
         refine sq_gv hs121 (gg := (decide ((x.mi.hi + (z : Int) : Int) > 60)) || ((e2 : Int) == 0)) (v := .bool (((z : Int) : Int) == 60)) rfl rfl 2 rfl (ison_t _) rfl rfl rfl (fun hg167 K168 hK168 => st_move hs121 ((Ev.t 0 rfl).un hg167) rfl rfl hK168) fun _ _ hs122 => ?_; clear hs121
         refine sq_gv hs122 (gg := ((decide ((x.mi.hi + (z : Int) : Int) > 60)) || ((e2 : Int) == 0)) && (!(((z : Int) : Int) == 60))) (v := .int .i64 (x.mi.hi + (z : Int))) rfl rfl 0 rfl (ison_gf _ _) rfl rfl rfl (fun hg169 K170 hK170 => st_move hs122 (Ev.t 10 rfl) rfl rfl hK170) fun _ _ hs123 => ?_; clear hs122
         refine sq_gv hs123 (gg := ((decide ((x.mi.hi + (z : Int) : Int) > 60)) || ((e2 : Int) == 0)) && (!(((z : Int) : Int) == 60))) (v := .int .i64 ((x.mi.hi + (z : Int)) + 1)) rfl rfl 1 rfl (ison_gf _ _) rfl rfl rfl (fun hg171 K172 hK172 => st_add (z := (x.mi.hi + (z : Int)) + 1) hs123 ((Ev.t 0 rfl).un hg171) (.const _) rfl rfl rfl (by omega) hK172) fun _ _ hs124 => ?_; clear hs123
         refine sq_gv hs124 (gg := ((decide ((x.mi.hi + (z : Int) : Int) > 60)) || ((e2 : Int) == 0)) && (!(((z : Int) : Int) == 60))) (v := .bool (decide (((x.mi.hi + (z : Int)) + 1 : Int) > 60))) rfl rfl 2 rfl (ison_gf _ _) rfl rfl rfl (fun hg173 K174 hK174 => st_cmp (c := decide (((x.mi.hi + (z : Int)) + 1 : Int) > 60)) hs124 ((Ev.t 0 rfl).un hg173) (.const _) rfl rfl rfl rfl hK174) fun _ _ hs125 => ?_; clear hs124
         refine sq_gv hs125 (gg := (decide ((x.mi.hi + (z : Int) : Int) > 60)) || ((e2 : Int) == 0)) (v := .bool ((((z : Int) : Int) == 60) || (decide (((x.mi.hi + (z : Int)) + 1 : Int) > 60)))) rfl rfl 6 rfl (ison_t _) rfl rfl rfl (fun hg175 K176 hK176 => st_or hs125 (gx := (decide ((x.mi.hi + (z : Int) : Int) > 60)) || ((e2 : Int) == 0)) (gy := ((decide ((x.mi.hi + (z : Int) : Int) > 60)) || ((e2 : Int) == 0)) && (!(((z : Int) : Int) == 60))) (Ev.t 3 rfl) hg175 (Ev.t 0 rfl) (fun h => and_i hg175 (by first | exact absurd h (by decide) | (rw [h]; rfl))) rfl rfl hK176) fun _ _ hs126 => ?_; clear hs125
         refine sq_gv hs126 (gg := (decide ((x.mi.hi + (z : Int) : Int) > 60)) || ((e2 : Int) == 0)) (v := .bool ((((z : Int) : Int) == 60) || (decide (((x.mi.hi + (z : Int)) + 1 : Int) > 60)))) rfl rfl 7 rfl (ison_t _) rfl rfl rfl (fun hg177 K178 hK178 => st_move hs126 ((Ev.t 0 rfl).un hg177) rfl rfl hK178) fun _ _ hs127 => ?_; clear hs126
         refine sq_gv hs127 (gg := ((decide ((x.mi.hi + (z : Int) : Int) > 60)) || ((e2 : Int) == 0)) && (!((((z : Int) : Int) == 60) || (decide (((x.mi.hi + (z : Int)) + 1 : Int) > 60))))) (v := .int .i64 4) rfl rfl 0 rfl (ison_gf _ _) rfl rfl rfl (fun hg179 K180 hK180 => st_move hs127 (Ev.t 16 rfl) rfl rfl hK180) fun _ _ hs128 => ?_; clear hs127
         refine sq_gv hs128 (gg := ((decide ((x.mi.hi + (z : Int) : Int) > 60)) || ((e2 : Int) == 0)) && (!((((z : Int) : Int) == 60) || (decide (((x.mi.hi + (z : Int)) + 1 : Int) > 60))))) (v := .bool true) rfl rfl 1 rfl (ison_gf _ _) rfl rfl rfl (fun hg181 K182 hK182 => st_cmp (c := true) hs128 ((Ev.t 0 rfl).un hg181) (.const _) rfl rfl rfl rfl hK182) fun _ _ hs129 => ?_; clear hs128
         refine sq_gv hs129 (gg := (decide ((x.mi.hi + (z : Int) : Int) > 60)) || ((e2 : Int) == 0)) (v := .bool (((((z : Int) : Int) == 60) || (decide (((x.mi.hi + (z : Int)) + 1 : Int) > 60))) || true)) rfl rfl 10 rfl (ison_t _) rfl rfl rfl (fun hg183 K184 hK184 => st_or hs129 (gx := (decide ((x.mi.hi + (z : Int) : Int) > 60)) || ((e2 : Int) == 0)) (gy := ((decide ((x.mi.hi + (z : Int) : Int) > 60)) || ((e2 : Int) == 0)) && (!((((z : Int) : Int) == 60) || (decide (((x.mi.hi + (z : Int)) + 1 : Int) > 60))))) (Ev.t 2 rfl) hg183 (Ev.t 0 rfl) (fun h => and_i hg183 (by first | exact absurd h (by decide) | (rw [h]; rfl))) rfl rfl hK184) fun _ _ hs130 => ?_; clear hs129
         refine sq rfl (st_and hs130 (gx := true) (gy := (decide ((x.mi.hi + (z : Int) : Int) > 60)) || ((e2 : Int) == 0)) (Ev.t 11 rfl) rfl (Ev.t 0 rfl) (fun h => h) rfl rfl fun _ _ hs131 => ?_); clear hs130
         refine sq rfl (st_move hs131 (Ev.t 0 rfl) rfl rfl fun _ _ hs132 => ?_); clear hs131
         refine sq_gv hs132 (gg := ((decide ((x.mi.hi + (z : Int) : Int) > 60)) || ((e2 : Int) == 0)) && (((((z : Int) : Int) == 60) || (decide (((x.mi.hi + (z : Int)) + 1 : Int) > 60))) || true)) (v := .bool true) rfl rfl 0 rfl (ison_t _) rfl rfl rfl (fun hg185 K186 hK186 => st_callv (vs := []) hs132 (.func _) trivial rfl rfl Tryd.call20 rfl (fired_v _ (hG.kp hs132.kp (by simp))) hK186) fun _ _ hs133 => ?_; clear hs132
         refine sq rfl (st_and hs133 (gx := true) (gy := ((decide ((x.mi.hi + (z : Int) : Int) > 60)) || ((e2 : Int) == 0)) && (((((z : Int) : Int) == 60) || (decide (((x.mi.hi + (z : Int)) + 1 : Int) > 60))) || true)) (Ev.t 1 rfl) rfl (Ev.t 0 rfl) (fun h => h) rfl rfl fun _ _ hs134 => ?_); clear hs133
         have hs135 := Sx.keepT [0, 1, 2, 3, 4, 5, 6, 7, 8, 9, 10, 11, 12, 13, 14, 15, 16, 17, 18, 19, 20, 21, 22, 23, 24, 25] [_, _, _, _, _, _, _, _, _, _, _, _, _, _, _, _, _, _, _, _, _, _, _, _, _, _] ⟨rfl, rfl, rfl, rfl, rfl, rfl, rfl, rfl, rfl, rfl, rfl, rfl, rfl, rfl, rfl, rfl, rfl, rfl, rfl, rfl, rfl, rfl, rfl, rfl, rfl, rfl, trivial⟩ hs134; clear hs134
         refine sq rfl (st_assign hs135 (Ev.t 0 rfl) rfl rfl fun _ _ hs136 => ?_); clear hs135
         refine hK158 _ _ ?_; clear hK158
         have hs137 := Sx.keepT [0] [_] ⟨rfl, trivial⟩ hs136; clear hs136
         refine cd_retv (vs := [.bool ((((decide ((x.mi.hi + (z : Int) : Int) > 60)) || ((e2 : Int) == 0)) && (((((z : Int) : Int) == 60) || (decide (((x.mi.hi + (z : Int)) + 1 : Int) > 60))) || true)) && true)]) hs137 hQ0 rfl ⟨.tmp 0 rfl, trivial⟩ ?_
         clear hs137 hQ0 hN0
         first | rfl | (simp [pack]; done) | (simp [pack]; omega)
       · skip
         obtain ⟨e3, hp2⟩ : ∃ e, (b.upto q x (min 60 (x.mi.hi + ((z : Int) + 1)))).planR.2 = e := ⟨_, rfl⟩
         have hc187 : false = false := rfl
         refine cd_cond hs76 (Ev.t 0 rfl) (fun h => absurd (hc187.symm.trans h) (by decide)) (fun _ => ?_)
         refine cd_skip ?_
         refine th_norm (hK47 _ _ ?_)
         refine cd_drawnP mixed hs76 [⟨79, [], Is (.agg ⟨(bookL b A n cp)⟩)⟩,
      ⟨80, [], Is (.int .i64 (q : Int))⟩,
      ⟨81, [], Is (.pointer (some ⟨b30, 1, none⟩))⟩,
      ⟨82, [2], Is (.int .i64 k1)⟩,
      ⟨83, [], Is (.int .i64 (z : Int))⟩,
      ⟨84, [4], Is (.int .i64 ((z : Int) + 1))⟩,
      ⟨85, [3, 5], Is (.int .i64 (turn k1 ((z : Int) + 1)))⟩] (by kernel_rfl) (by kernel_rfl) fun K188 hK188 => ⟨⟨?_, ?_, ?_, ?_, ?_, ?_, ?_, trivial⟩, ?_⟩
         · intro T_ B_ a_ w_ K_ hT hB
           intro hf hsD hk
           exact ob rfl rfl (st_loadA (o := 0) (off := 0) (vs := (bookL b A n cp)) hsD (Ev.tmp (hT _ (mem_nth (i := 5) rfl))) rfl hf Tryd.isAgg27 Tryd.sizeOf27 (hsD.cellsM (hB _ (mem_nth (i := 1) rfl))) rfl fun a_1 w_1 h1 => hk _ _ _ _ ⟨rfl, rfl⟩ h1)
         · intro T_ B_ a_ w_ K_ hT hB
           intro hf hsD hk
           exact ob rfl rfl (st_move hsD (Ev.tmp (hT _ (mem_nth (i := 2) rfl))) rfl hf fun a_1 w_1 h1 => hk _ _ _ _ ⟨rfl, rfl⟩ h1)
         · intro T_ B_ a_ w_ K_ hT hB
           intro hf hsD hk
           exact ob rfl rfl (st_indexArr (o' := 1) hsD (Ev.tmp (hT _ (mem_nth (i := 4) rfl))) (.const _) rfl hf Tryd.runUnderlying29 Tryd.sizeOf3 (by decide) rfl fun a_1 w_1 h1 => hk _ _ _ _ ⟨rfl, rfl⟩ h1)
         · intro T_ B_ a_ w_ K_ hT hB
           rintro _ _ ⟨rfl, rfl⟩ h81 -
           intro hf hsD hk
           exact ob rfl rfl (st_load1 (o := 0) (off := 1) (v := .int .i64 k1) hsD (Ev.tmp h81) rfl hf Tryd.isAgg3 (hsD.cellsM (hB _ (mem_nth (i := 0) rfl))) rfl fun a_1 w_1 h1 => hk _ _ _ _ ⟨rfl, rfl⟩ h1)
         · intro T_ B_ a_ w_ K_ hT hB
           intro hf hsD hk
           exact ob rfl rfl (st_move hsD (Ev.tmp (hT _ (mem_nth (i := 1) rfl))) rfl hf fun a_1 w_1 h1 => hk _ _ _ _ ⟨rfl, rfl⟩ h1)
         · intro T_ B_ a_ w_ K_ hT hB
           rintro _ _ ⟨rfl, rfl⟩ h83 -
           intro hf hsD hk
           exact ob rfl rfl (st_add (z := (z : Int) + 1) hsD (Ev.tmp h83) (.const _) rfl hf rfl (by omega) fun a_1 w_1 h1 => hk _ _ _ _ ⟨rfl, rfl⟩ h1)
         · intro T_ B_ a_ w_ K_ hT hB
           rintro _ _ ⟨rfl, rfl⟩ h82 -
           rintro _ _ ⟨rfl, rfl⟩ h84 -
           intro hf hsD hk
           exact ob rfl rfl (st_callv (vs := [.int .i64 k1, .int .i64 ((z : Int) + 1)]) hsD (.func _) ⟨(Ev.tmp h82), (Ev.tmp h84), trivial⟩ rfl hf Tryd.call38 rfl (turn_v k1 ((z : Int) + 1) (by omega) _) fun a_1 w_1 h1 => hk _ _ _ _ ⟨rfl, rfl⟩ h1)
         rintro _ _ ⟨rfl, rfl⟩
         rintro _ _ ⟨rfl, rfl⟩
         rintro _ _ ⟨rfl, rfl⟩
         rintro _ _ ⟨rfl, rfl⟩
         rintro _ _ ⟨rfl, rfl⟩
         rintro _ _ ⟨rfl, rfl⟩
         rintro _ _ ⟨rfl, rfl⟩
         intro a_77 w_77 hs77
         clear hs76
         have hs78 := Sx.as (T' := [_, _, _, _, _, _, _, _, _, _, _, _, _]) (B' := [_, _]) rfl rfl hs77; clear hs77
         refine tw_step (by kernel_rfl) (ob rfl rfl (st_call (vs := [.agg ⟨(bookL b A n cp)⟩, .int .i64 (q : Int), .int .i64 (turn k1 ((z : Int) + 1))]) hs78 (.func _) ⟨(Ev.t 0 rfl), (Ev.t 1 rfl), (Ev.t 6 rfl), trivial⟩ rfl rfl Tryd.call44 rfl (stretched_b b A n cp q x hx (turn k1 ((z : Int) + 1)) hb (by omega) _ (hP.kp hs78.kp) hn) fun v190 bs191 a_79 w_79 hp79 hs79 => ?_)); clear hs78
         obtain ⟨As189, cs189, bs189, os189, rfl, hw189, rfl⟩ := hp79
         have hs80 := Sx.as (T' := [_, _, _, _, _, _, _, _, _, _, _, _, _, _]) (B' := [_, _, _]) rfl rfl hs79; clear hs79
         refine tw_step (by kernel_rfl) (ob rfl rfl (st_call (vs := [.agg ⟨(bookL (b.upto q x (min 60 (x.mi.hi + (turn k1 ((z : Int) + 1))))) As189 n cs189)⟩]) hs80 (.func _) ⟨(Ev.t 0 rfl), trivial⟩ rfl rfl Tryd.call23 rfl (plansL hp1 (Plan_b (b.upto q x (min 60 (x.mi.hi + (turn k1 ((z : Int) + 1))))) As189 n cs189 _ (by rw [show n = (b.upto q x (min 60 (x.mi.hi + (turn k1 ((z : Int) + 1))))).parts.length from by simp only [Book.upto, List.length_set]; exact hl2]; exact hw189.at hs80 0 rfl) hn (hG.kp hs80.kp (by simp)))) fun v193 bs194 a_81 w_81 hp81 hs81 => ?_)); clear hs80
         obtain ⟨Ap192, np192, cq192, rfl, rfl⟩ := hp81
         have hs82 := Sx.as (T' := [_, _, _, _, _, _, _, _, _, _, _, _, _, _, _]) (B' := [_, _, _]) rfl rfl hs81; clear hs81
         refine tw_step (by kernel_rfl) (ob rfl rfl (st_move hs82 (Ev.t 0 rfl) rfl rfl fun _ _ hs83 => ?_)); clear hs82
         refine tw_pair (fun a_ w_ => Sx 130 [] [(89, .int .i64 e2), (88, .slice Ap192 np192 cq192), (78, .tuple ⟨[.slice Ap192 np192 cq192, .int .i64 e2]⟩), (87, .tuple ⟨[.slice Ap192 np192 cq192, .int .i64 e2]⟩), (86, .agg ⟨(bookL (b.upto q x (min 60 (x.mi.hi + (turn k1 ((z : Int) + 1))))) As189 n cs189)⟩), (79, .agg ⟨(bookL b A n cp)⟩), (80, .int .i64 (q : Int)), (81, .pointer (some ⟨b30, 1, none⟩)), (82, .int .i64 k1), (83, .int .i64 (z : Int)), (84, .int .i64 ((z : Int) + 1)), (85, .int .i64 (turn k1 ((z : Int) + 1))), (77, .bool false), (6, .int .i64 (z : Int)), (5, .int .i64 (q : Int)), (4, .bool false), (3, .pointer (some ⟨b30, 0, none⟩)), (2, .pointer (some ⟨b29, 0, none⟩))] [(bs189, os189), (b30, some (.cells ⟨[.int .i64 k0, .int .i64 k1]⟩ 29 (0, 0))), (b29, some (.cells ⟨(bookL b A n cp)⟩ 27 (0, 0)))] [] w a_ w_) (by kernel_rfl) ?_ ?_ (fun a_86 w_86 hs86 => ?_)
         · skip
           refine ob rfl rfl (st_extract hs83 (Ev.t 0 rfl) rfl rfl rfl fun _ _ hs84 => ?_); clear hs83
           refine ob rfl rfl (st_extract hs84 (Ev.t 1 rfl) rfl rfl rfl fun _ _ hs85 => ?_); clear hs84
           exact hs85
         · skip
           refine ob rfl rfl (st_extract hs83 (Ev.t 0 rfl) rfl rfl rfl fun _ _ hs84 => ?_); clear hs83
           refine ob rfl rfl (st_extract hs84 (Ev.t 1 rfl) rfl rfl rfl fun _ _ hs85 => ?_); clear hs84
           exact Sx.keepE [1, 0, 2, 3, 4, 5, 6, 7, 8, 9, 10, 11, 12, 13, 14, 15, 16, 17] _ ⟨⟨_, rfl, rfl⟩, ⟨_, rfl, rfl⟩, ⟨_, rfl, rfl⟩, ⟨_, rfl, rfl⟩, ⟨_, rfl, rfl⟩, ⟨_, rfl, rfl⟩, ⟨_, rfl, rfl⟩, ⟨_, rfl, rfl⟩, ⟨_, rfl, rfl⟩, ⟨_, rfl, rfl⟩, ⟨_, rfl, rfl⟩, ⟨_, rfl, rfl⟩, ⟨_, rfl, rfl⟩, ⟨_, rfl, rfl⟩, ⟨_, rfl, rfl⟩, ⟨_, rfl, rfl⟩, ⟨_, rfl, rfl⟩, ⟨_, rfl, rfl⟩, trivial⟩ hs85
         clear hs83
         refine tw_step (by kernel_rfl) (ob rfl rfl (st_assign hs86 (Ev.t 0 rfl) rfl rfl fun _ _ hs87 => ?_)); clear hs86
         refine hK188 _ _ ?_; clear hK188
         have hs88 := Sx.keepT [0, 14, 15, 16, 18] [_, _, _, _, _] ⟨rfl, rfl, rfl, rfl, rfl, trivial⟩ hs87; clear hs87
         refine cd_region fun K195 hK195 => ?_
         refine sq rfl (st_loadA (o := 0) (off := 0) (vs := (bookL b A n cp)) hs88 (Ev.t 4 rfl) rfl rfl Tryd.isAgg27 Tryd.sizeOf27 (hs88.cells 2 rfl) rfl fun _ _ hs89 => ?_); clear hs88
         refine sq rfl (st_move hs89 (Ev.t 3 rfl) rfl rfl fun _ _ hs90 => ?_); clear hs89
         refine sq rfl (st_move hs90 (Ev.t 3 rfl) rfl rfl fun _ _ hs91 => ?_); clear hs90
         refine sq rfl (st_add (z := (z : Int) + 1) hs91 (Ev.t 0 rfl) (.const _) rfl rfl rfl (by omega) fun _ _ hs92 => ?_); clear hs91
         refine sq rfl (st_call (vs := [.agg ⟨(bookL b A n cp)⟩, .int .i64 (q : Int), .int .i64 ((z : Int) + 1)]) hs92 (.func _) ⟨(Ev.t 3 rfl), (Ev.t 2 rfl), (Ev.t 0 rfl), trivial⟩ rfl rfl Tryd.call44 rfl (stretched_b b A n cp q x hx ((z : Int) + 1) hb (by omega) _ (hP.kp hs92.kp) hn) fun v197 bs198 a_93 w_93 hp93 hs93 => ?_); clear hs92
         obtain ⟨As196, cs196, bs196, os196, rfl, hw196, rfl⟩ := hp93
         have hs94 := Sx.as (T' := [_, _, _, _, _, _, _, _, _, _]) (B' := [_, _, _, _]) rfl rfl hs93; clear hs93
         refine sq rfl (st_call (vs := [.agg ⟨(bookL (b.upto q x (min 60 (x.mi.hi + ((z : Int) + 1)))) As196 n cs196)⟩]) hs94 (.func _) ⟨(Ev.t 0 rfl), trivial⟩ rfl rfl Tryd.call23 rfl (plansL hp2 (Plan_b (b.upto q x (min 60 (x.mi.hi + ((z : Int) + 1)))) As196 n cs196 _ (by rw [show n = (b.upto q x (min 60 (x.mi.hi + ((z : Int) + 1)))).parts.length from by simp only [Book.upto, List.length_set]; exact hl2]; exact hw196.at hs94 0 rfl) hn (hG.kp hs94.kp (by simp)))) fun v200 bs201 a_95 w_95 hp95 hs95 => ?_); clear hs94
         obtain ⟨Ap199, np199, cq199, rfl, rfl⟩ := hp95
         have hs96 := Sx.as (T' := [_, _, _, _, _, _, _, _, _, _, _]) (B' := [_, _, _, _]) rfl rfl hs95; clear hs95
         refine sq rfl (st_move hs96 (Ev.t 0 rfl) rfl rfl fun _ _ hs97 => ?_); clear hs96
         refine sq rfl (st_extract hs97 (Ev.t 0 rfl) rfl rfl rfl fun _ _ hs98 => ?_); clear hs97
         refine sq rfl (st_extract hs98 (Ev.t 1 rfl) rfl rfl rfl fun _ _ hs99 => ?_); clear hs98
         refine sq rfl (st_assign hs99 (Ev.t 0 rfl) rfl rfl fun _ _ hs100 => ?_); clear hs99
         refine hK195 _ _ ?_; clear hK195
         have hs101 := Sx.keepT [0, 10, 11, 12, 13, 14] [_, _, _, _, _, _] ⟨rfl, rfl, rfl, rfl, rfl, rfl, trivial⟩ hs100; clear hs100
         refine cd_region fun K202 hK202 => ?_
         refine sq rfl (st_field (o' := 22) hs101 (Ev.t 5 rfl) rfl rfl Tryd.runUnderlying27 rfl Tryd.sizeOf25 rfl rfl fun _ _ hs102 => ?_); clear hs101
         refine sq rfl (st_load1 (o := 0) (off := 22) (v := .slice A n cp) hs102 (Ev.t 0 rfl) rfl rfl Tryd.isAgg25 (hs102.cells 3 rfl) rfl fun _ _ hs103 => ?_); clear hs102
         refine sq rfl (st_move hs103 (Ev.t 5 rfl) rfl rfl fun _ _ hs104 => ?_); clear hs103
         obtain ⟨b203, o203, hA203, -, hc203⟩ := hP.el q x hx
         refine sq rfl (st_indexM (o' := o203 + q * 4) hs104 (Ev.t 1 rfl) (Ev.t 0 rfl) rfl rfl hA203 Tryd.runUnderlying25 Tryd.sizeOf66 ⟨by omega, by have := hP.len; have := (List.getElem?_eq_some_iff.1 hx).1; omega⟩ rfl fun _ _ hs105 => ?_); clear hs104
         refine sq rfl (st_field (o' := o203 + q * 4) hs105 (Ev.t 0 rfl) rfl rfl Tryd.runUnderlying66 rfl Tryd.sizeOf23 rfl rfl fun _ _ hs106 => ?_); clear hs105
         refine sq rfl (st_field (o' := o203 + q * 4 + 1) hs106 (Ev.t 0 rfl) rfl rfl Tryd.runUnderlying23 rfl Tryd.sizeOf3 rfl rfl fun _ _ hs107 => ?_); clear hs106
         refine sq rfl (st_load1 (o := o203 + q * 4) (off := 1) (v := .int .i64 x.mi.hi) hs107 (Ev.t 0 rfl) rfl rfl Tryd.isAgg3 (hs107.old hc203 (by simp)) rfl fun _ _ hs108 => ?_); clear hs107
         refine sq rfl (st_move hs108 (Ev.t 9 rfl) rfl rfl fun _ _ hs109 => ?_); clear hs108
         refine sq rfl (st_add (z := x.mi.hi + (z : Int)) hs109 (Ev.t 1 rfl) (Ev.t 0 rfl) rfl rfl rfl (by omega) fun _ _ hs110 => ?_); clear hs109
         refine sq rfl (st_assign hs110 (Ev.t 0 rfl) rfl rfl fun _ _ hs111 => ?_); clear hs110
         refine hK202 _ _ ?_; clear hK202
         have hs112 := Sx.keepT [0, 10, 11, 12, 14] [_, _, _, _, _] ⟨rfl, rfl, rfl, rfl, rfl, trivial⟩ hs111; clear hs111
         refine cd_region fun K204 hK204 => ?_
         refine sq rfl (st_move hs112 (Ev.t 0 rfl) rfl rfl fun _ _ hs113 => ?_); clear hs112
         refine sq rfl (st_cmp (c := decide ((x.mi.hi + (z : Int) : Int) > 60)) hs113 (Ev.t 0 rfl) (.const _) rfl rfl rfl rfl fun _ _ hs114 => ?_); clear hs113
         refine sq rfl (st_move hs114 (Ev.t 0 rfl) rfl rfl fun _ _ hs115 => ?_); clear hs114
         refine sq_gv hs115 (gg := !(decide ((x.mi.hi + (z : Int) : Int) > 60))) (v := .int .i64 e2) rfl rfl 0 rfl (ison_f _) rfl rfl rfl (fun hg205 K206 hK206 => st_move hs115 (Ev.t 5 rfl) rfl rfl hK206) fun _ _ hs116 => ?_; clear hs115
         refine sq_gv hs116 (gg := !(decide ((x.mi.hi + (z : Int) : Int) > 60))) (v := .bool ((e2 : Int) == 0)) rfl rfl 1 rfl (ison_f _) rfl rfl rfl (fun hg207 K208 hK208 => st_cmp (c := (e2 : Int) == 0) hs116 ((Ev.t 0 rfl).un hg207) (.const _) rfl rfl rfl rfl hK208) fun _ _ hs117 => ?_; clear hs116
         refine sq rfl (st_or hs117 (gx := true) (gy := !(decide ((x.mi.hi + (z : Int) : Int) > 60))) (Ev.t 2 rfl) rfl (Ev.t 0 rfl) (fun h => (by first | exact absurd h (by decide) | (rw [h]; rfl))) rfl rfl fun _ _ hs118 => ?_); clear hs117
         refine sq rfl (st_move hs118 (Ev.t 0 rfl) rfl rfl fun _ _ hs119 => ?_); clear hs118
         refine sq_gv hs119 (gg := (decide ((x.mi.hi + (z : Int) : Int) > 60)) || ((e2 : Int) == 0)) (v := .int .i64 (z : Int)) rfl rfl 0 rfl (ison_t _) rfl rfl rfl (fun hg209 K210 hK210 => st_move hs119 (Ev.t 10 rfl) rfl rfl hK210) fun _ _ hs120 => ?_; clear hs119
         refine sq_gv hs120 (gg := (decide ((x.mi.hi + (z : Int) : Int) > 60)) || ((e2 : Int) == 0)) (v := .bool (((z : Int) : Int) == 60)) rfl rfl 1 rfl (ison_t _) rfl rfl rfl (fun hg211 K212 hK212 => st_cmp (c := ((z : Int) : Int) == 60) hs120 ((Ev.t 0 rfl).un hg211) (.const _) rfl rfl rfl rfl hK212) fun _ _ hs121 => ?_; clear hs120
         refine sq_gv hs121 (gg := (decide ((x.mi.hi + (z : Int) : Int) > 60)) || ((e2 : Int) == 0)) (v := .bool (((z : Int) : Int) == 60)) rfl rfl 2 rfl (ison_t _) rfl rfl rfl (fun hg213 K214 hK214 => st_move hs121 ((Ev.t 0 rfl).un hg213) rfl rfl hK214) fun _ _ hs122 => ?_; clear hs121
         refine sq_gv hs122 (gg := ((decide ((x.mi.hi + (z : Int) : Int) > 60)) || ((e2 : Int) == 0)) && (!(((z : Int) : Int) == 60))) (v := .int .i64 (x.mi.hi + (z : Int))) rfl rfl 0 rfl (ison_gf _ _) rfl rfl rfl (fun hg215 K216 hK216 => st_move hs122 (Ev.t 10 rfl) rfl rfl hK216) fun _ _ hs123 => ?_; clear hs122
         refine sq_gv hs123 (gg := ((decide ((x.mi.hi + (z : Int) : Int) > 60)) || ((e2 : Int) == 0)) && (!(((z : Int) : Int) == 60))) (v := .int .i64 ((x.mi.hi + (z : Int)) + 1)) rfl rfl 1 rfl (ison_gf _ _) rfl rfl rfl (fun hg217 K218 hK218 => st_add (z := (x.mi.hi + (z : Int)) + 1) hs123 ((Ev.t 0 rfl).un hg217) (.const _) rfl rfl rfl (by omega) hK218) fun _ _ hs124 => ?_; clear hs123
         refine sq_gv hs124 (gg := ((decide ((x.mi.hi + (z : Int) : Int) > 60)) || ((e2 : Int) == 0)) && (!(((z : Int) : Int) == 60))) (v := .bool (decide (((x.mi.hi + (z : Int)) + 1 : Int) > 60))) rfl rfl 2 rfl (ison_gf _ _) rfl rfl rfl (fun hg219 K220 hK220 => st_cmp (c := decide (((x.mi.hi + (z : Int)) + 1 : Int) > 60)) hs124 ((Ev.t 0 rfl).un hg219) (.const _) rfl rfl rfl rfl hK220) fun _ _ hs125 => ?_; clear hs124
         refine sq_gv hs125 (gg := (decide ((x.mi.hi + (z : Int) : Int) > 60)) || ((e2 : Int) == 0)) (v := .bool ((((z : Int) : Int) == 60) || (decide (((x.mi.hi + (z : Int)) + 1 : Int) > 60)))) rfl rfl 6 rfl (ison_t _) rfl rfl rfl (fun hg221 K222 hK222 => st_or hs125 (gx := (decide ((x.mi.hi + (z : Int) : Int) > 60)) || ((e2 : Int) == 0)) (gy := ((decide ((x.mi.hi + (z : Int) : Int) > 60)) || ((e2 : Int) == 0)) && (!(((z : Int) : Int) == 60))) (Ev.t 3 rfl) hg221 (Ev.t 0 rfl) (fun h => and_i hg221 (by first | exact absurd h (by decide) | (rw [h]; rfl))) rfl rfl hK222) fun _ _ hs126 => ?_; clear hs125
         refine sq_gv hs126 (gg := (decide ((x.mi.hi + (z : Int) : Int) > 60)) || ((e2 : Int) == 0)) (v := .bool ((((z : Int) : Int) == 60) || (decide (((x.mi.hi + (z : Int)) + 1 : Int) > 60)))) rfl rfl 7 rfl (ison_t _) rfl rfl rfl (fun hg223 K224 hK224 => st_move hs126 ((Ev.t 0 rfl).un hg223) rfl rfl hK224) fun _ _ hs127 => ?_; clear hs126
         refine sq_gv hs127 (gg := ((decide ((x.mi.hi + (z : Int) : Int) > 60)) || ((e2 : Int) == 0)) && (!((((z : Int) : Int) == 60) || (decide (((x.mi.hi + (z : Int)) + 1 : Int) > 60))))) (v := .int .i64 e3) rfl rfl 0 rfl (ison_gf _ _) rfl rfl rfl (fun hg225 K226 hK226 => st_move hs127 (Ev.t 16 rfl) rfl rfl hK226) fun _ _ hs128 => ?_; clear hs127
         refine sq_gv hs128 (gg := ((decide ((x.mi.hi + (z : Int) : Int) > 60)) || ((e2 : Int) == 0)) && (!((((z : Int) : Int) == 60) || (decide (((x.mi.hi + (z : Int)) + 1 : Int) > 60))))) (v := .bool ((e3 : Int) == 4)) rfl rfl 1 rfl (ison_gf _ _) rfl rfl rfl (fun hg227 K228 hK228 => st_cmp (c := (e3 : Int) == 4) hs128 ((Ev.t 0 rfl).un hg227) (.const _) rfl rfl rfl rfl hK228) fun _ _ hs129 => ?_; clear hs128
         refine sq_gv hs129 (gg := (decide ((x.mi.hi + (z : Int) : Int) > 60)) || ((e2 : Int) == 0)) (v := .bool (((((z : Int) : Int) == 60) || (decide (((x.mi.hi + (z : Int)) + 1 : Int) > 60))) || ((e3 : Int) == 4))) rfl rfl 10 rfl (ison_t _) rfl rfl rfl (fun hg229 K230 hK230 => st_or hs129 (gx := (decide ((x.mi.hi + (z : Int) : Int) > 60)) || ((e2 : Int) == 0)) (gy := ((decide ((x.mi.hi + (z : Int) : Int) > 60)) || ((e2 : Int) == 0)) && (!((((z : Int) : Int) == 60) || (decide (((x.mi.hi + (z : Int)) + 1 : Int) > 60))))) (Ev.t 2 rfl) hg229 (Ev.t 0 rfl) (fun h => and_i hg229 (by first | exact absurd h (by decide) | (rw [h]; rfl))) rfl rfl hK230) fun _ _ hs130 => ?_; clear hs129
         refine sq rfl (st_and hs130 (gx := true) (gy := (decide ((x.mi.hi + (z : Int) : Int) > 60)) || ((e2 : Int) == 0)) (Ev.t 11 rfl) rfl (Ev.t 0 rfl) (fun h => h) rfl rfl fun _ _ hs131 => ?_); clear hs130
         refine sq rfl (st_move hs131 (Ev.t 0 rfl) rfl rfl fun _ _ hs132 => ?_); clear hs131
         refine sq_gv hs132 (gg := ((decide ((x.mi.hi + (z : Int) : Int) > 60)) || ((e2 : Int) == 0)) && (((((z : Int) : Int) == 60) || (decide (((x.mi.hi + (z : Int)) + 1 : Int) > 60))) || ((e3 : Int) == 4))) (v := .bool true) rfl rfl 0 rfl (ison_t _) rfl rfl rfl (fun hg231 K232 hK232 => st_callv (vs := []) hs132 (.func _) trivial rfl rfl Tryd.call20 rfl (fired_v _ (hG.kp hs132.kp (by simp))) hK232) fun _ _ hs133 => ?_; clear hs132
         refine sq rfl (st_and hs133 (gx := true) (gy := ((decide ((x.mi.hi + (z : Int) : Int) > 60)) || ((e2 : Int) == 0)) && (((((z : Int) : Int) == 60) || (decide (((x.mi.hi + (z : Int)) + 1 : Int) > 60))) || ((e3 : Int) == 4))) (Ev.t 1 rfl) rfl (Ev.t 0 rfl) (fun h => h) rfl rfl fun _ _ hs134 => ?_); clear hs133
         have hs135 := Sx.keepT [0, 1, 2, 3, 4, 5, 6, 7, 8, 9, 10, 11, 12, 13, 14, 15, 16, 17, 18, 19, 20, 21, 22, 23, 24, 25] [_, _, _, _, _, _, _, _, _, _, _, _, _, _, _, _, _, _, _, _, _, _, _, _, _, _] ⟨rfl, rfl, rfl, rfl, rfl, rfl, rfl, rfl, rfl, rfl, rfl, rfl, rfl, rfl, rfl, rfl, rfl, rfl, rfl, rfl, rfl, rfl, rfl, rfl, rfl, rfl, trivial⟩ hs134; clear hs134
         refine sq rfl (st_assign hs135 (Ev.t 0 rfl) rfl rfl fun _ _ hs136 => ?_); clear hs135
         refine hK204 _ _ ?_; clear hK204
         have hs137 := Sx.keepT [0] [_] ⟨rfl, trivial⟩ hs136; clear hs136
         refine cd_retv (vs := [.bool ((((decide ((x.mi.hi + (z : Int) : Int) > 60)) || ((e2 : Int) == 0)) && (((((z : Int) : Int) == 60) || (decide (((x.mi.hi + (z : Int)) + 1 : Int) > 60))) || ((e3 : Int) == 4))) && true)]) hs137 hQ0 rfl ⟨.tmp 0 rfl, trivial⟩ ?_
         clear hs137 hQ0 hN0
         first | rfl | (simp [pack]; done) | (simp [pack]; omega)
end Go.Proofs.YtdbcedmofoakmaaDoor
