/- The reference of the engine: what a part leaves, whether it may fail, plans. -/
import Derived.Test.YtdbcedmofoakmaaDoorEd
import Derived.Test.YtdbcedmofoakmaaDoorSo
set_option maxRecDepth 100000
namespace Go.Proofs.YtdbcedmofoakmaaDoor
open Go Go.Sx Go.Eng
theorem rat_v (b : Book) (A : Option Addr) (n cp : Nat) (w : World)  :
    CallsV Tryd.prog 55 [.agg ⟨(bookL b A n cp)⟩] w (.agg ⟨[.int .i64 b.coal.lo, .int .i64 b.coal.hi, .int .i64 b.water.lo, .int .i64 b.water.hi]⟩) := by
 refine enter (N := 8) (M := []) w Tryd.func55 rfl rfl rfl (fun Q0 a_0 hQ0 hN0 hs0 => ?_)
 refine cd_region fun K1 hK1 => ?_
 refine sq rfl (st_box hs0 (Ev.t 0 rfl) rfl rfl rfl fun b2 _ _ hs1 => ?_); clear hs0
 refine sq rfl (st_alloc hs1 rfl rfl Tryd.zeroValue82 rfl fun b3 _ _ hs2 => ?_); clear hs1
 refine hK1 _ _ ?_; clear hK1
 have hs3 := Sx.keepT [0, 1] [_, _] ⟨rfl, rfl, trivial⟩ hs2; clear hs2
 refine cd_region fun K4 hK4 => ?_
 refine sq rfl (st_field (o' := 0) hs3 (Ev.t 1 rfl) rfl rfl Tryd.runUnderlying27 rfl Tryd.sizeOf23 rfl rfl fun _ _ hs4 => ?_); clear hs3
 refine sq rfl (st_loadA (o := 0) (off := 0) (vs := [.int .i64 b.coal.lo, .int .i64 b.coal.hi]) hs4 (Ev.t 0 rfl) rfl rfl Tryd.isAgg23 Tryd.sizeOf23 (hs4.cells 1 rfl) rfl fun _ _ hs5 => ?_); clear hs4
 refine sq rfl (st_field (o' := 2) hs5 (Ev.t 3 rfl) rfl rfl Tryd.runUnderlying27 rfl Tryd.sizeOf23 rfl rfl fun _ _ hs6 => ?_); clear hs5
 refine sq rfl (st_loadA (o := 0) (off := 2) (vs := [.int .i64 b.water.lo, .int .i64 b.water.hi]) hs6 (Ev.t 0 rfl) rfl rfl Tryd.isAgg23 Tryd.sizeOf23 (hs6.cells 1 rfl) rfl fun _ _ hs7 => ?_); clear hs6
 refine sq rfl (st_build hs7 (qs := [(0, .agg ⟨[.int .i64 b.coal.lo, .int .i64 b.coal.hi]⟩), (1, .agg ⟨[.int .i64 b.water.lo, .int .i64 b.water.hi]⟩)]) (v := .agg ⟨[.int .i64 b.coal.lo, .int .i64 b.coal.hi, .int .i64 b.water.lo, .int .i64 b.water.hi]⟩) ⟨(Ev.t 2 rfl), (Ev.t 0 rfl), trivial⟩ rfl rfl rfl (fun _ => by kernel_rfl) fun _ _ hs8 => ?_); clear hs7
 refine sq rfl (st_store (l' := [.int .i64 b.coal.lo, .int .i64 b.coal.hi, .int .i64 b.water.lo, .int .i64 b.water.hi]) (vs := [.int .i64 b.coal.lo, .int .i64 b.coal.hi, .int .i64 b.water.lo, .int .i64 b.water.hi]) (i := 0) hs8 (Ev.t 5 rfl) (Ev.t 0 rfl) Tryd.sizeOf82 rfl rfl rfl rfl rfl rfl fun _ _ hs9 => ?_); clear hs8
 have hs10 := Sx.as (T' := [_, _, _, _, _, _, _]) (B' := [_, _]) rfl rfl hs9; clear hs9
 refine hK4 _ _ ?_; clear hK4
 have hs11 := Sx.keepT [5] [_] ⟨rfl, trivial⟩ hs10; clear hs10
 refine cd_retv (vs := [.agg ⟨[.int .i64 b.coal.lo, .int .i64 b.coal.hi, .int .i64 b.water.lo, .int .i64 b.water.hi]⟩]) hs11 hQ0 rfl ⟨resA (o := 0) (off := 0) (vs := [.int .i64 b.coal.lo, .int .i64 b.coal.hi, .int .i64 b.water.lo, .int .i64 b.water.hi]) 0 rfl Tryd.isAgg82 Tryd.sizeOf82 (hs11.cells 0 rfl) rfl, trivial⟩ ?_
 clear hs11 hQ0 hN0
 rfl

theorem rstands_v (cl ch vl vh : Int) (w : World)  :
    CallsV Tryd.prog 58 [.agg ⟨[.int .i64 cl, .int .i64 ch, .int .i64 vl, .int .i64 vh]⟩] w (.bool (decide (cl < 0) || decide (vl < 0))) := by
 refine enter (N := 13) (M := []) w Tryd.func58 rfl rfl rfl (fun Q0 a_0 hQ0 hN0 hs0 => ?_)
 refine cd_region fun K1 hK1 => ?_
 refine sq rfl (st_box hs0 (Ev.t 0 rfl) rfl rfl rfl fun b2 _ _ hs1 => ?_); clear hs0
 refine sq rfl (st_assign hs1 (.const _) rfl rfl fun _ _ hs2 => ?_); clear hs1
 refine hK1 _ _ ?_; clear hK1
 have hs3 := Sx.keepT [0, 1] [_, _] ⟨rfl, rfl, trivial⟩ hs2; clear hs2
 refine cd_region fun K3 hK3 => ?_
 refine sq rfl (st_field (o' := 0) hs3 (Ev.t 1 rfl) rfl rfl Tryd.runUnderlying82 rfl Tryd.sizeOf23 rfl rfl fun _ _ hs4 => ?_); clear hs3
 refine sq rfl (st_field (o' := 0) hs4 (Ev.t 0 rfl) rfl rfl Tryd.runUnderlying23 rfl Tryd.sizeOf3 rfl rfl fun _ _ hs5 => ?_); clear hs4
 refine sq rfl (st_load1 (o := 0) (off := 0) (v := .int .i64 cl) hs5 (Ev.t 0 rfl) rfl rfl Tryd.isAgg3 (hs5.cells 0 rfl) rfl fun _ _ hs6 => ?_); clear hs5
 refine sq rfl (st_cmp (c := decide ((cl : Int) < 0)) hs6 (Ev.t 0 rfl) (.const _) rfl rfl rfl rfl fun _ _ hs7 => ?_); clear hs6
 refine sq rfl (st_move hs7 (Ev.t 0 rfl) rfl rfl fun _ _ hs8 => ?_); clear hs7
 refine sq_gv hs8 (gg := !(decide ((cl : Int) < 0))) (v := .pointer (some ⟨b2, 2, none⟩)) rfl rfl 0 rfl (ison_f _) rfl rfl rfl (fun hg4 K5 hK5 => st_field (o' := 2) hs8 (Ev.t 6 rfl) rfl rfl Tryd.runUnderlying82 rfl Tryd.sizeOf23 rfl rfl hK5) fun _ _ hs9 => ?_; clear hs8
 refine sq_gv hs9 (gg := !(decide ((cl : Int) < 0))) (v := .pointer (some ⟨b2, 2, none⟩)) rfl rfl 1 rfl (ison_f _) rfl rfl rfl (fun hg6 K7 hK7 => st_field (o' := 2) hs9 ((Ev.t 0 rfl).un hg6) rfl rfl Tryd.runUnderlying23 rfl Tryd.sizeOf3 rfl rfl hK7) fun _ _ hs10 => ?_; clear hs9
 refine sq_gv hs10 (gg := !(decide ((cl : Int) < 0))) (v := .int .i64 vl) rfl rfl 2 rfl (ison_f _) rfl rfl rfl (fun hg8 K9 hK9 => st_load1 (o := 0) (off := 2) (v := .int .i64 vl) hs10 ((Ev.t 0 rfl).un hg8) rfl rfl Tryd.isAgg3 (hs10.cells 0 rfl) rfl hK9) fun _ _ hs11 => ?_; clear hs10
 refine sq_gv hs11 (gg := !(decide ((cl : Int) < 0))) (v := .bool (decide ((vl : Int) < 0))) rfl rfl 3 rfl (ison_f _) rfl rfl rfl (fun hg10 K11 hK11 => st_cmp (c := decide ((vl : Int) < 0)) hs11 ((Ev.t 0 rfl).un hg10) (.const _) rfl rfl rfl rfl hK11) fun _ _ hs12 => ?_; clear hs11
 refine sq rfl (st_or hs12 (gx := true) (gy := !(decide ((cl : Int) < 0))) (Ev.t 4 rfl) rfl (Ev.t 0 rfl) (fun h => (by first | exact absurd h (by decide) | (rw [h]; rfl))) rfl rfl fun _ _ hs13 => ?_); clear hs12
 have hs14 := Sx.keepT [0, 1, 2, 3, 4, 5, 6, 7, 8, 9, 11] [_, _, _, _, _, _, _, _, _, _, _] ⟨rfl, rfl, rfl, rfl, rfl, rfl, rfl, rfl, rfl, rfl, rfl, trivial⟩ hs13; clear hs13
 refine sq rfl (st_assign hs14 (Ev.t 0 rfl) rfl rfl fun _ _ hs15 => ?_); clear hs14
 refine hK3 _ _ ?_; clear hK3
 have hs16 := Sx.keepT [0] [_] ⟨rfl, trivial⟩ hs15; clear hs15
 refine cd_retv (vs := [.bool ((decide ((cl : Int) < 0)) || (decide ((vl : Int) < 0)))]) hs16 hQ0 rfl ⟨.tmp 0 rfl, trivial⟩ ?_
 clear hs16 hQ0 hN0
 rfl

theorem brought_v (b : Book) (A : Option Addr) (n cp : Nat) (y : Walks) (cl ch vl vh : Int) (w : World) (hb : Bd b) (hw : 0 ≤ y.c ∧ y.c ≤ 1000 ∧ 0 ≤ y.w ∧ y.w ≤ 1000) (hc : -1000000000 ≤ cl ∧ cl ≤ 1000000000 ∧ -1000000000 ≤ ch ∧ ch ≤ 1000000000) (hv : -1000000000 ≤ vl ∧ vl ≤ 1000000000 ∧ -1000000000 ≤ vh ∧ vh ≤ 1000000000) :
    CallsV Tryd.prog 57 [.agg ⟨(bookL b A n cp)⟩, .agg ⟨[.int .i64 cl, .int .i64 ch, .int .i64 vl, .int .i64 vh]⟩, .agg ⟨(walksL y)⟩] w (.agg ⟨[.int .i64 (min b.bunker (cl + y.c * b.scoop)), .int .i64 (min b.bunker (ch + y.c * b.scoop)), .int .i64 (min b.tank (vl + y.w * b.pail)), .int .i64 (min b.tank (vh + y.w * b.pail))]⟩) := by
 have m1 := mulbd ⟨hw.1, hw.2.1⟩ ⟨hb.load.1, hb.load.2.1⟩
 have m2 := mulbd ⟨hw.2.2.1, hw.2.2.2⟩ hb.load.2.2
 have hr := hb.room
 refine enter (N := 54) (M := []) w Tryd.func57 rfl rfl rfl (fun Q0 a_0 hQ0 hN0 hs0 => ?_)
 refine cd_region fun K1 hK1 => ?_
 refine sq rfl (st_box hs0 (Ev.t 0 rfl) rfl rfl rfl fun b2 _ _ hs1 => ?_); clear hs0
 refine sq rfl (st_box hs1 (Ev.t 2 rfl) rfl rfl rfl fun b3 _ _ hs2 => ?_); clear hs1
 refine sq rfl (st_box hs2 (Ev.t 4 rfl) rfl rfl rfl fun b4 _ _ hs3 => ?_); clear hs2
 refine sq rfl (st_alloc hs3 rfl rfl Tryd.zeroValue82 rfl fun b5 _ _ hs4 => ?_); clear hs3
 refine hK1 _ _ ?_; clear hK1
 have hs5 := Sx.keepT [0, 1, 2, 3] [_, _, _, _] ⟨rfl, rfl, rfl, rfl, trivial⟩ hs4; clear hs4
 refine cd_drawn mixed hs5 [⟨9, [], Is (.pointer (some ⟨b4, 0, none⟩))⟩,
      ⟨10, [0], Is (.int .i64 y.c)⟩,
      ⟨11, [], Is (.pointer (some ⟨b2, 6, none⟩))⟩,
      ⟨12, [2], Is (.int .i64 b.scoop)⟩,
      ⟨13, [1, 3], Is (.int .i64 (y.c * b.scoop))⟩,
      ⟨14, [], Is (.pointer (some ⟨b4, 1, none⟩))⟩,
      ⟨15, [5], Is (.int .i64 y.w)⟩,
      ⟨16, [], Is (.pointer (some ⟨b2, 7, none⟩))⟩,
      ⟨17, [7], Is (.int .i64 b.pail)⟩,
      ⟨18, [6, 8], Is (.int .i64 (y.w * b.pail))⟩,
      ⟨7, [4], Is (.int .i64 (y.c * b.scoop))⟩] (by kernel_rfl) (by kernel_rfl) fun K6 hK6 => ⟨⟨?_, ?_, ?_, ?_, ?_, ?_, ?_, ?_, ?_, ?_, ?_, trivial⟩, ?_⟩
 · intro T_ B_ a_ w_ K_ hT hB
   intro hf hsD hk
   exact ob rfl rfl (st_field (o' := 0) hsD (Ev.tmp (hT _ (mem_nth (i := 1) rfl))) rfl hf Tryd.runUnderlying64 rfl Tryd.sizeOf3 rfl rfl fun a_1 w_1 h1 => hk _ _ _ _ ⟨rfl, rfl⟩ h1)
 · intro T_ B_ a_ w_ K_ hT hB
   rintro _ _ ⟨rfl, rfl⟩ h9 -
   intro hf hsD hk
   exact ob rfl rfl (st_load1 (o := 0) (off := 0) (v := .int .i64 y.c) hsD (Ev.tmp h9) rfl hf Tryd.isAgg3 (hsD.cellsM (hB _ (mem_nth (i := 1) rfl))) rfl fun a_1 w_1 h1 => hk _ _ _ _ ⟨rfl, rfl⟩ h1)
 · intro T_ B_ a_ w_ K_ hT hB
   intro hf hsD hk
   exact ob rfl rfl (st_field (o' := 6) hsD (Ev.tmp (hT _ (mem_nth (i := 3) rfl))) rfl hf Tryd.runUnderlying27 rfl Tryd.sizeOf3 rfl rfl fun a_1 w_1 h1 => hk _ _ _ _ ⟨rfl, rfl⟩ h1)
 · intro T_ B_ a_ w_ K_ hT hB
   rintro _ _ ⟨rfl, rfl⟩ h11 -
   intro hf hsD hk
   exact ob rfl rfl (st_load1 (o := 0) (off := 6) (v := .int .i64 b.scoop) hsD (Ev.tmp h11) rfl hf Tryd.isAgg3 (hsD.cellsM (hB _ (mem_nth (i := 3) rfl))) rfl fun a_1 w_1 h1 => hk _ _ _ _ ⟨rfl, rfl⟩ h1)
 · intro T_ B_ a_ w_ K_ hT hB
   rintro _ _ ⟨rfl, rfl⟩ h10 -
   rintro _ _ ⟨rfl, rfl⟩ h12 -
   intro hf hsD hk
   exact ob rfl rfl (st_mul (z := y.c * b.scoop) hsD (Ev.tmp h10) (Ev.tmp h12) rfl hf rfl (by omega) fun a_1 w_1 h1 => hk _ _ _ _ ⟨rfl, rfl⟩ h1)
 · intro T_ B_ a_ w_ K_ hT hB
   intro hf hsD hk
   exact ob rfl rfl (st_field (o' := 1) hsD (Ev.tmp (hT _ (mem_nth (i := 1) rfl))) rfl hf Tryd.runUnderlying64 rfl Tryd.sizeOf3 rfl rfl fun a_1 w_1 h1 => hk _ _ _ _ ⟨rfl, rfl⟩ h1)
 · intro T_ B_ a_ w_ K_ hT hB
   rintro _ _ ⟨rfl, rfl⟩ h14 -
   intro hf hsD hk
   exact ob rfl rfl (st_load1 (o := 0) (off := 1) (v := .int .i64 y.w) hsD (Ev.tmp h14) rfl hf Tryd.isAgg3 (hsD.cellsM (hB _ (mem_nth (i := 1) rfl))) rfl fun a_1 w_1 h1 => hk _ _ _ _ ⟨rfl, rfl⟩ h1)
 · intro T_ B_ a_ w_ K_ hT hB
   intro hf hsD hk
   exact ob rfl rfl (st_field (o' := 7) hsD (Ev.tmp (hT _ (mem_nth (i := 3) rfl))) rfl hf Tryd.runUnderlying27 rfl Tryd.sizeOf3 rfl rfl fun a_1 w_1 h1 => hk _ _ _ _ ⟨rfl, rfl⟩ h1)
 · intro T_ B_ a_ w_ K_ hT hB
   rintro _ _ ⟨rfl, rfl⟩ h16 -
   intro hf hsD hk
   exact ob rfl rfl (st_load1 (o := 0) (off := 7) (v := .int .i64 b.pail) hsD (Ev.tmp h16) rfl hf Tryd.isAgg3 (hsD.cellsM (hB _ (mem_nth (i := 3) rfl))) rfl fun a_1 w_1 h1 => hk _ _ _ _ ⟨rfl, rfl⟩ h1)
 · intro T_ B_ a_ w_ K_ hT hB
   rintro _ _ ⟨rfl, rfl⟩ h15 -
   rintro _ _ ⟨rfl, rfl⟩ h17 -
   intro hf hsD hk
   exact ob rfl rfl (st_mul (z := y.w * b.pail) hsD (Ev.tmp h15) (Ev.tmp h17) rfl hf rfl (by omega) fun a_1 w_1 h1 => hk _ _ _ _ ⟨rfl, rfl⟩ h1)
 · intro T_ B_ a_ w_ K_ hT hB
   rintro _ _ ⟨rfl, rfl⟩ h13 -
   intro hf hsD hk
   exact ob rfl rfl (st_assign hsD (Ev.tmp h13) rfl hf fun a_1 w_1 h1 => hk _ _ _ _ ⟨rfl, rfl⟩ h1)
 rintro _ _ ⟨rfl, rfl⟩
 rintro _ _ ⟨rfl, rfl⟩
 rintro _ _ ⟨rfl, rfl⟩
 rintro _ _ ⟨rfl, rfl⟩
 rintro _ _ ⟨rfl, rfl⟩
 rintro _ _ ⟨rfl, rfl⟩
 rintro _ _ ⟨rfl, rfl⟩
 rintro _ _ ⟨rfl, rfl⟩
 rintro _ _ ⟨rfl, rfl⟩
 rintro _ _ ⟨rfl, rfl⟩
 rintro _ _ ⟨rfl, rfl⟩
 intro a_6 w_6 hs6
 clear hs5
 have hs7 := Sx.as (T' := [_, _, _, _, _, _, _, _, _, _, _, _, _, _, _]) (B' := [_, _, _, _]) rfl rfl hs6; clear hs6
 refine sq rfl (st_assign hs7 (Ev.t 9 rfl) rfl rfl fun _ _ hs8 => ?_); clear hs7
 refine hK6 _ _ ?_; clear hK6
 have hs9 := Sx.keepT [0, 11, 12, 14, 15] [_, _, _, _, _] ⟨rfl, rfl, rfl, rfl, rfl, trivial⟩ hs8; clear hs8
 refine cd_drawn mixed hs9 [⟨19, [], Is (.pointer (some ⟨b2, 4, none⟩))⟩,
      ⟨20, [0], Is (.int .i64 b.bunker)⟩,
      ⟨21, [], Is (.pointer (some ⟨b3, 0, none⟩))⟩,
      ⟨22, [2], Is (.pointer (some ⟨b3, 0, none⟩))⟩,
      ⟨23, [3], Is (.int .i64 cl)⟩,
      ⟨24, [], Is (.int .i64 (y.c * b.scoop))⟩,
      ⟨25, [4, 5], Is (.int .i64 (cl + (y.c * b.scoop)))⟩,
      ⟨26, [1, 6], Is (.int .i64 (min b.bunker (cl + (y.c * b.scoop))))⟩,
      ⟨27, [], Is (.pointer (some ⟨b2, 4, none⟩))⟩,
      ⟨28, [8], Is (.int .i64 b.bunker)⟩,
      ⟨29, [], Is (.pointer (some ⟨b3, 0, none⟩))⟩,
      ⟨30, [10], Is (.pointer (some ⟨b3, 1, none⟩))⟩,
      ⟨31, [11], Is (.int .i64 ch)⟩,
      ⟨32, [], Is (.int .i64 (y.c * b.scoop))⟩,
      ⟨33, [12, 13], Is (.int .i64 (ch + (y.c * b.scoop)))⟩,
      ⟨34, [9, 14], Is (.int .i64 (min b.bunker (ch + (y.c * b.scoop))))⟩,
      ⟨35, [7, 15], Is (.agg ⟨[.int .i64 (min b.bunker (cl + (y.c * b.scoop))), .int .i64 (min b.bunker (ch + (y.c * b.scoop)))]⟩)⟩,
      ⟨36, [], Is (.pointer (some ⟨b2, 5, none⟩))⟩,
      ⟨37, [17], Is (.int .i64 b.tank)⟩,
      ⟨38, [], Is (.pointer (some ⟨b3, 2, none⟩))⟩,
      ⟨39, [19], Is (.pointer (some ⟨b3, 2, none⟩))⟩,
      ⟨40, [20], Is (.int .i64 vl)⟩,
      ⟨41, [], Is (.int .i64 (y.w * b.pail))⟩,
      ⟨42, [21, 22], Is (.int .i64 (vl + (y.w * b.pail)))⟩,
      ⟨43, [18, 23], Is (.int .i64 (min b.tank (vl + (y.w * b.pail))))⟩,
      ⟨44, [], Is (.pointer (some ⟨b2, 5, none⟩))⟩,
      ⟨45, [25], Is (.int .i64 b.tank)⟩,
      ⟨46, [], Is (.pointer (some ⟨b3, 2, none⟩))⟩,
      ⟨47, [27], Is (.pointer (some ⟨b3, 3, none⟩))⟩,
      ⟨48, [28], Is (.int .i64 vh)⟩,
      ⟨49, [], Is (.int .i64 (y.w * b.pail))⟩,
      ⟨50, [29, 30], Is (.int .i64 (vh + (y.w * b.pail)))⟩,
      ⟨51, [26, 31], Is (.int .i64 (min b.tank (vh + (y.w * b.pail))))⟩,
      ⟨52, [24, 32], Is (.agg ⟨[.int .i64 (min b.tank (vl + (y.w * b.pail))), .int .i64 (min b.tank (vh + (y.w * b.pail)))]⟩)⟩,
      ⟨53, [16, 33], Is (.agg ⟨[.int .i64 (min b.bunker (cl + (y.c * b.scoop))), .int .i64 (min b.bunker (ch + (y.c * b.scoop))), .int .i64 (min b.tank (vl + (y.w * b.pail))), .int .i64 (min b.tank (vh + (y.w * b.pail)))]⟩)⟩] (by kernel_rfl) (by kernel_rfl) fun K7 hK7 => ⟨⟨?_, ?_, ?_, ?_, ?_, ?_, ?_, ?_, ?_, ?_, ?_, ?_, ?_, ?_, ?_, ?_, ?_, ?_, ?_, ?_, ?_, ?_, ?_, ?_, ?_, ?_, ?_, ?_, ?_, ?_, ?_, ?_, ?_, ?_, ?_, trivial⟩, ?_⟩
 · intro T_ B_ a_ w_ K_ hT hB
   intro hf hsD hk
   exact ob rfl rfl (st_field (o' := 4) hsD (Ev.tmp (hT _ (mem_nth (i := 4) rfl))) rfl hf Tryd.runUnderlying27 rfl Tryd.sizeOf3 rfl rfl fun a_1 w_1 h1 => hk _ _ _ _ ⟨rfl, rfl⟩ h1)
 · intro T_ B_ a_ w_ K_ hT hB
   rintro _ _ ⟨rfl, rfl⟩ h19 -
   intro hf hsD hk
   exact ob rfl rfl (st_load1 (o := 0) (off := 4) (v := .int .i64 b.bunker) hsD (Ev.tmp h19) rfl hf Tryd.isAgg3 (hsD.cellsM (hB _ (mem_nth (i := 3) rfl))) rfl fun a_1 w_1 h1 => hk _ _ _ _ ⟨rfl, rfl⟩ h1)
 · intro T_ B_ a_ w_ K_ hT hB
   intro hf hsD hk
   exact ob rfl rfl (st_field (o' := 0) hsD (Ev.tmp (hT _ (mem_nth (i := 3) rfl))) rfl hf Tryd.runUnderlying82 rfl Tryd.sizeOf23 rfl rfl fun a_1 w_1 h1 => hk _ _ _ _ ⟨rfl, rfl⟩ h1)
 · intro T_ B_ a_ w_ K_ hT hB
   rintro _ _ ⟨rfl, rfl⟩ h21 -
   intro hf hsD hk
   exact ob rfl rfl (st_field (o' := 0) hsD (Ev.tmp h21) rfl hf Tryd.runUnderlying23 rfl Tryd.sizeOf3 rfl rfl fun a_1 w_1 h1 => hk _ _ _ _ ⟨rfl, rfl⟩ h1)
 · intro T_ B_ a_ w_ K_ hT hB
   rintro _ _ ⟨rfl, rfl⟩ h22 -
   intro hf hsD hk
   exact ob rfl rfl (st_load1 (o := 0) (off := 0) (v := .int .i64 cl) hsD (Ev.tmp h22) rfl hf Tryd.isAgg3 (hsD.cellsM (hB _ (mem_nth (i := 2) rfl))) rfl fun a_1 w_1 h1 => hk _ _ _ _ ⟨rfl, rfl⟩ h1)
 · intro T_ B_ a_ w_ K_ hT hB
   intro hf hsD hk
   exact ob rfl rfl (st_move hsD (Ev.tmp (hT _ (mem_nth (i := 1) rfl))) rfl hf fun a_1 w_1 h1 => hk _ _ _ _ ⟨rfl, rfl⟩ h1)
 · intro T_ B_ a_ w_ K_ hT hB
   rintro _ _ ⟨rfl, rfl⟩ h23 -
   rintro _ _ ⟨rfl, rfl⟩ h24 -
   intro hf hsD hk
   exact ob rfl rfl (st_add (z := cl + (y.c * b.scoop)) hsD (Ev.tmp h23) (Ev.tmp h24) rfl hf rfl (by omega) fun a_1 w_1 h1 => hk _ _ _ _ ⟨rfl, rfl⟩ h1)
 · intro T_ B_ a_ w_ K_ hT hB
   rintro _ _ ⟨rfl, rfl⟩ h20 -
   rintro _ _ ⟨rfl, rfl⟩ h25 -
   intro hf hsD hk
   exact ob rfl rfl (st_min hsD (Ev.tmp h20) (Ev.tmp h25) rfl hf fun a_1 w_1 h1 => hk _ _ _ _ ⟨rfl, rfl⟩ h1)
 · intro T_ B_ a_ w_ K_ hT hB
   intro hf hsD hk
   exact ob rfl rfl (st_field (o' := 4) hsD (Ev.tmp (hT _ (mem_nth (i := 4) rfl))) rfl hf Tryd.runUnderlying27 rfl Tryd.sizeOf3 rfl rfl fun a_1 w_1 h1 => hk _ _ _ _ ⟨rfl, rfl⟩ h1)
 · intro T_ B_ a_ w_ K_ hT hB
   rintro _ _ ⟨rfl, rfl⟩ h27 -
   intro hf hsD hk
   exact ob rfl rfl (st_load1 (o := 0) (off := 4) (v := .int .i64 b.bunker) hsD (Ev.tmp h27) rfl hf Tryd.isAgg3 (hsD.cellsM (hB _ (mem_nth (i := 3) rfl))) rfl fun a_1 w_1 h1 => hk _ _ _ _ ⟨rfl, rfl⟩ h1)
 · intro T_ B_ a_ w_ K_ hT hB
   intro hf hsD hk
   exact ob rfl rfl (st_field (o' := 0) hsD (Ev.tmp (hT _ (mem_nth (i := 3) rfl))) rfl hf Tryd.runUnderlying82 rfl Tryd.sizeOf23 rfl rfl fun a_1 w_1 h1 => hk _ _ _ _ ⟨rfl, rfl⟩ h1)
 · intro T_ B_ a_ w_ K_ hT hB
   rintro _ _ ⟨rfl, rfl⟩ h29 -
   intro hf hsD hk
   exact ob rfl rfl (st_field (o' := 1) hsD (Ev.tmp h29) rfl hf Tryd.runUnderlying23 rfl Tryd.sizeOf3 rfl rfl fun a_1 w_1 h1 => hk _ _ _ _ ⟨rfl, rfl⟩ h1)
 · intro T_ B_ a_ w_ K_ hT hB
   rintro _ _ ⟨rfl, rfl⟩ h30 -
   intro hf hsD hk
   exact ob rfl rfl (st_load1 (o := 0) (off := 1) (v := .int .i64 ch) hsD (Ev.tmp h30) rfl hf Tryd.isAgg3 (hsD.cellsM (hB _ (mem_nth (i := 2) rfl))) rfl fun a_1 w_1 h1 => hk _ _ _ _ ⟨rfl, rfl⟩ h1)
 · intro T_ B_ a_ w_ K_ hT hB
   intro hf hsD hk
   exact ob rfl rfl (st_move hsD (Ev.tmp (hT _ (mem_nth (i := 1) rfl))) rfl hf fun a_1 w_1 h1 => hk _ _ _ _ ⟨rfl, rfl⟩ h1)
 · intro T_ B_ a_ w_ K_ hT hB
   rintro _ _ ⟨rfl, rfl⟩ h31 -
   rintro _ _ ⟨rfl, rfl⟩ h32 -
   intro hf hsD hk
   exact ob rfl rfl (st_add (z := ch + (y.c * b.scoop)) hsD (Ev.tmp h31) (Ev.tmp h32) rfl hf rfl (by omega) fun a_1 w_1 h1 => hk _ _ _ _ ⟨rfl, rfl⟩ h1)
 · intro T_ B_ a_ w_ K_ hT hB
   rintro _ _ ⟨rfl, rfl⟩ h28 -
   rintro _ _ ⟨rfl, rfl⟩ h33 -
   intro hf hsD hk
   exact ob rfl rfl (st_min hsD (Ev.tmp h28) (Ev.tmp h33) rfl hf fun a_1 w_1 h1 => hk _ _ _ _ ⟨rfl, rfl⟩ h1)
 · intro T_ B_ a_ w_ K_ hT hB
   rintro _ _ ⟨rfl, rfl⟩ h26 -
   rintro _ _ ⟨rfl, rfl⟩ h34 -
   intro hf hsD hk
   exact ob rfl rfl (st_callv (vs := [.int .i64 (min b.bunker (cl + (y.c * b.scoop))), .int .i64 (min b.bunker (ch + (y.c * b.scoop)))]) hsD (.func _) ⟨(Ev.tmp h26), (Ev.tmp h34), trivial⟩ rfl hf Tryd.call40 rfl (S_v (min b.bunker (cl + (y.c * b.scoop))) (min b.bunker (ch + (y.c * b.scoop))) _) fun a_1 w_1 h1 => hk _ _ _ _ ⟨rfl, rfl⟩ h1)
 · intro T_ B_ a_ w_ K_ hT hB
   intro hf hsD hk
   exact ob rfl rfl (st_field (o' := 5) hsD (Ev.tmp (hT _ (mem_nth (i := 4) rfl))) rfl hf Tryd.runUnderlying27 rfl Tryd.sizeOf3 rfl rfl fun a_1 w_1 h1 => hk _ _ _ _ ⟨rfl, rfl⟩ h1)
 · intro T_ B_ a_ w_ K_ hT hB
   rintro _ _ ⟨rfl, rfl⟩ h36 -
   intro hf hsD hk
   exact ob rfl rfl (st_load1 (o := 0) (off := 5) (v := .int .i64 b.tank) hsD (Ev.tmp h36) rfl hf Tryd.isAgg3 (hsD.cellsM (hB _ (mem_nth (i := 3) rfl))) rfl fun a_1 w_1 h1 => hk _ _ _ _ ⟨rfl, rfl⟩ h1)
 · intro T_ B_ a_ w_ K_ hT hB
   intro hf hsD hk
   exact ob rfl rfl (st_field (o' := 2) hsD (Ev.tmp (hT _ (mem_nth (i := 3) rfl))) rfl hf Tryd.runUnderlying82 rfl Tryd.sizeOf23 rfl rfl fun a_1 w_1 h1 => hk _ _ _ _ ⟨rfl, rfl⟩ h1)
 · intro T_ B_ a_ w_ K_ hT hB
   rintro _ _ ⟨rfl, rfl⟩ h38 -
   intro hf hsD hk
   exact ob rfl rfl (st_field (o' := 2) hsD (Ev.tmp h38) rfl hf Tryd.runUnderlying23 rfl Tryd.sizeOf3 rfl rfl fun a_1 w_1 h1 => hk _ _ _ _ ⟨rfl, rfl⟩ h1)
 · intro T_ B_ a_ w_ K_ hT hB
   rintro _ _ ⟨rfl, rfl⟩ h39 -
   intro hf hsD hk
   exact ob rfl rfl (st_load1 (o := 0) (off := 2) (v := .int .i64 vl) hsD (Ev.tmp h39) rfl hf Tryd.isAgg3 (hsD.cellsM (hB _ (mem_nth (i := 2) rfl))) rfl fun a_1 w_1 h1 => hk _ _ _ _ ⟨rfl, rfl⟩ h1)
 · intro T_ B_ a_ w_ K_ hT hB
   intro hf hsD hk
   exact ob rfl rfl (st_move hsD (Ev.tmp (hT _ (mem_nth (i := 0) rfl))) rfl hf fun a_1 w_1 h1 => hk _ _ _ _ ⟨rfl, rfl⟩ h1)
 · intro T_ B_ a_ w_ K_ hT hB
   rintro _ _ ⟨rfl, rfl⟩ h40 -
   rintro _ _ ⟨rfl, rfl⟩ h41 -
   intro hf hsD hk
   exact ob rfl rfl (st_add (z := vl + (y.w * b.pail)) hsD (Ev.tmp h40) (Ev.tmp h41) rfl hf rfl (by omega) fun a_1 w_1 h1 => hk _ _ _ _ ⟨rfl, rfl⟩ h1)
 · intro T_ B_ a_ w_ K_ hT hB
   rintro _ _ ⟨rfl, rfl⟩ h37 -
   rintro _ _ ⟨rfl, rfl⟩ h42 -
   intro hf hsD hk
   exact ob rfl rfl (st_min hsD (Ev.tmp h37) (Ev.tmp h42) rfl hf fun a_1 w_1 h1 => hk _ _ _ _ ⟨rfl, rfl⟩ h1)
 · intro T_ B_ a_ w_ K_ hT hB
   intro hf hsD hk
   exact ob rfl rfl (st_field (o' := 5) hsD (Ev.tmp (hT _ (mem_nth (i := 4) rfl))) rfl hf Tryd.runUnderlying27 rfl Tryd.sizeOf3 rfl rfl fun a_1 w_1 h1 => hk _ _ _ _ ⟨rfl, rfl⟩ h1)
 · intro T_ B_ a_ w_ K_ hT hB
   rintro _ _ ⟨rfl, rfl⟩ h44 -
   intro hf hsD hk
   exact ob rfl rfl (st_load1 (o := 0) (off := 5) (v := .int .i64 b.tank) hsD (Ev.tmp h44) rfl hf Tryd.isAgg3 (hsD.cellsM (hB _ (mem_nth (i := 3) rfl))) rfl fun a_1 w_1 h1 => hk _ _ _ _ ⟨rfl, rfl⟩ h1)
 · intro T_ B_ a_ w_ K_ hT hB
   intro hf hsD hk
   exact ob rfl rfl (st_field (o' := 2) hsD (Ev.tmp (hT _ (mem_nth (i := 3) rfl))) rfl hf Tryd.runUnderlying82 rfl Tryd.sizeOf23 rfl rfl fun a_1 w_1 h1 => hk _ _ _ _ ⟨rfl, rfl⟩ h1)
 · intro T_ B_ a_ w_ K_ hT hB
   rintro _ _ ⟨rfl, rfl⟩ h46 -
   intro hf hsD hk
   exact ob rfl rfl (st_field (o' := 3) hsD (Ev.tmp h46) rfl hf Tryd.runUnderlying23 rfl Tryd.sizeOf3 rfl rfl fun a_1 w_1 h1 => hk _ _ _ _ ⟨rfl, rfl⟩ h1)
 · intro T_ B_ a_ w_ K_ hT hB
   rintro _ _ ⟨rfl, rfl⟩ h47 -
   intro hf hsD hk
   exact ob rfl rfl (st_load1 (o := 0) (off := 3) (v := .int .i64 vh) hsD (Ev.tmp h47) rfl hf Tryd.isAgg3 (hsD.cellsM (hB _ (mem_nth (i := 2) rfl))) rfl fun a_1 w_1 h1 => hk _ _ _ _ ⟨rfl, rfl⟩ h1)
 · intro T_ B_ a_ w_ K_ hT hB
   intro hf hsD hk
   exact ob rfl rfl (st_move hsD (Ev.tmp (hT _ (mem_nth (i := 0) rfl))) rfl hf fun a_1 w_1 h1 => hk _ _ _ _ ⟨rfl, rfl⟩ h1)
 · intro T_ B_ a_ w_ K_ hT hB
   rintro _ _ ⟨rfl, rfl⟩ h48 -
   rintro _ _ ⟨rfl, rfl⟩ h49 -
   intro hf hsD hk
   exact ob rfl rfl (st_add (z := vh + (y.w * b.pail)) hsD (Ev.tmp h48) (Ev.tmp h49) rfl hf rfl (by omega) fun a_1 w_1 h1 => hk _ _ _ _ ⟨rfl, rfl⟩ h1)
 · intro T_ B_ a_ w_ K_ hT hB
   rintro _ _ ⟨rfl, rfl⟩ h45 -
   rintro _ _ ⟨rfl, rfl⟩ h50 -
   intro hf hsD hk
   exact ob rfl rfl (st_min hsD (Ev.tmp h45) (Ev.tmp h50) rfl hf fun a_1 w_1 h1 => hk _ _ _ _ ⟨rfl, rfl⟩ h1)
 · intro T_ B_ a_ w_ K_ hT hB
   rintro _ _ ⟨rfl, rfl⟩ h43 -
   rintro _ _ ⟨rfl, rfl⟩ h51 -
   intro hf hsD hk
   exact ob rfl rfl (st_callv (vs := [.int .i64 (min b.tank (vl + (y.w * b.pail))), .int .i64 (min b.tank (vh + (y.w * b.pail)))]) hsD (.func _) ⟨(Ev.tmp h43), (Ev.tmp h51), trivial⟩ rfl hf Tryd.call40 rfl (S_v (min b.tank (vl + (y.w * b.pail))) (min b.tank (vh + (y.w * b.pail))) _) fun a_1 w_1 h1 => hk _ _ _ _ ⟨rfl, rfl⟩ h1)
 · intro T_ B_ a_ w_ K_ hT hB
   rintro _ _ ⟨rfl, rfl⟩ h35 -
   rintro _ _ ⟨rfl, rfl⟩ h52 -
   intro hf hsD hk
   exact ob rfl rfl (st_build hsD (qs := [(0, .agg ⟨[.int .i64 (min b.bunker (cl + (y.c * b.scoop))), .int .i64 (min b.bunker (ch + (y.c * b.scoop)))]⟩), (1, .agg ⟨[.int .i64 (min b.tank (vl + (y.w * b.pail))), .int .i64 (min b.tank (vh + (y.w * b.pail)))]⟩)]) (v := .agg ⟨[.int .i64 (min b.bunker (cl + (y.c * b.scoop))), .int .i64 (min b.bunker (ch + (y.c * b.scoop))), .int .i64 (min b.tank (vl + (y.w * b.pail))), .int .i64 (min b.tank (vh + (y.w * b.pail)))]⟩) ⟨(Ev.tmp h35), (Ev.tmp h52), trivial⟩ rfl hf rfl (fun _ => by kernel_rfl) fun a_1 w_1 h1 => hk _ _ _ _ ⟨rfl, rfl⟩ h1)
 rintro _ _ ⟨rfl, rfl⟩
 rintro _ _ ⟨rfl, rfl⟩
 rintro _ _ ⟨rfl, rfl⟩
 rintro _ _ ⟨rfl, rfl⟩
 rintro _ _ ⟨rfl, rfl⟩
 rintro _ _ ⟨rfl, rfl⟩
 rintro _ _ ⟨rfl, rfl⟩
 rintro _ _ ⟨rfl, rfl⟩
 rintro _ _ ⟨rfl, rfl⟩
 rintro _ _ ⟨rfl, rfl⟩
 rintro _ _ ⟨rfl, rfl⟩
 rintro _ _ ⟨rfl, rfl⟩
 rintro _ _ ⟨rfl, rfl⟩
 rintro _ _ ⟨rfl, rfl⟩
 rintro _ _ ⟨rfl, rfl⟩
 rintro _ _ ⟨rfl, rfl⟩
 rintro _ _ ⟨rfl, rfl⟩
 rintro _ _ ⟨rfl, rfl⟩
 rintro _ _ ⟨rfl, rfl⟩
 rintro _ _ ⟨rfl, rfl⟩
 rintro _ _ ⟨rfl, rfl⟩
 rintro _ _ ⟨rfl, rfl⟩
 rintro _ _ ⟨rfl, rfl⟩
 rintro _ _ ⟨rfl, rfl⟩
 rintro _ _ ⟨rfl, rfl⟩
 rintro _ _ ⟨rfl, rfl⟩
 rintro _ _ ⟨rfl, rfl⟩
 rintro _ _ ⟨rfl, rfl⟩
 rintro _ _ ⟨rfl, rfl⟩
 rintro _ _ ⟨rfl, rfl⟩
 rintro _ _ ⟨rfl, rfl⟩
 rintro _ _ ⟨rfl, rfl⟩
 rintro _ _ ⟨rfl, rfl⟩
 rintro _ _ ⟨rfl, rfl⟩
 rintro _ _ ⟨rfl, rfl⟩
 intro a_10 w_10 hs10
 clear hs9
 have hs11 := Sx.as (T' := [_, _, _, _, _, _, _, _, _, _, _, _, _, _, _, _, _, _, _, _, _, _, _, _, _, _, _, _, _, _, _, _, _, _, _, _, _, _, _, _]) (B' := [_, _, _, _]) rfl rfl hs10; clear hs10
 refine sq rfl (st_store (l' := [.int .i64 (min b.bunker (cl + (y.c * b.scoop))), .int .i64 (min b.bunker (ch + (y.c * b.scoop))), .int .i64 (min b.tank (vl + (y.w * b.pail))), .int .i64 (min b.tank (vh + (y.w * b.pail)))]) (vs := [.int .i64 (min b.bunker (cl + (y.c * b.scoop))), .int .i64 (min b.bunker (ch + (y.c * b.scoop))), .int .i64 (min b.tank (vl + (y.w * b.pail))), .int .i64 (min b.tank (vh + (y.w * b.pail)))]) (i := 0) hs11 (Ev.t 37 rfl) (Ev.t 34 rfl) Tryd.sizeOf82 rfl rfl rfl rfl rfl rfl fun _ _ hs12 => ?_); clear hs11
 have hs13 := Sx.as (T' := [_, _, _, _, _, _, _, _, _, _, _, _, _, _, _, _, _, _, _, _, _, _, _, _, _, _, _, _, _, _, _, _, _, _, _, _, _, _, _, _]) (B' := [_, _, _, _]) rfl rfl hs12; clear hs12
 refine hK7 _ _ ?_; clear hK7
 have hs14 := Sx.keepT [37] [_] ⟨rfl, trivial⟩ hs13; clear hs13
 refine cd_retv (vs := [.agg ⟨[.int .i64 (min b.bunker (cl + (y.c * b.scoop))), .int .i64 (min b.bunker (ch + (y.c * b.scoop))), .int .i64 (min b.tank (vl + (y.w * b.pail))), .int .i64 (min b.tank (vh + (y.w * b.pail)))]⟩]) hs14 hQ0 rfl ⟨resA (o := 0) (off := 0) (vs := [.int .i64 (min b.bunker (cl + (y.c * b.scoop))), .int .i64 (min b.bunker (ch + (y.c * b.scoop))), .int .i64 (min b.tank (vl + (y.w * b.pail))), .int .i64 (min b.tank (vh + (y.w * b.pail)))]) 0 rfl Tryd.isAgg82 Tryd.sizeOf82 (hs14.cells 0 rfl) rfl, trivial⟩ ?_
 clear hs14 hQ0 hN0
 rfl

theorem worked_v (b : Book) (A : Option Addr) (n cp : Nat) (x : Part) (cl ch vl vh : Int) (w : World) (hb : Bd b) (hx : (∀ h, 0 ≤ x.mi.end h ∧ x.mi.end h ≤ 1000)) (hc : -1000000000 ≤ cl ∧ cl ≤ 1000000000 ∧ -1000000000 ≤ ch ∧ ch ≤ 1000000000) (hv : -1000000000 ≤ vl ∧ vl ≤ 1000000000 ∧ -1000000000 ≤ vh ∧ vh ≤ 1000000000) :
    CallsV Tryd.prog 56 [.agg ⟨(bookL b A n cp)⟩, .agg ⟨[.int .i64 cl, .int .i64 ch, .int .i64 vl, .int .i64 vh]⟩, .agg ⟨(partL x)⟩] w (.agg ⟨[.int .i64 (cl - x.mi.hi * (b.burn x.light).hi), .int .i64 (ch - x.mi.lo * (b.burn x.light).lo), .int .i64 (vl - x.mi.hi * (b.drink x.light).hi), .int .i64 (vh - x.mi.lo * (b.drink x.light).lo)]⟩) := by
 have m3 := fun l h => mulbd (hx h) (hb.burn l h)
 have m4 := fun l h => mulbd (hx h) (hb.drink l h)
 have m1 := m3 true true; have m2 := m3 true false; have m5 := m3 false true; have m6 := m3 false false
 have n1 := m4 true true; have n2 := m4 true false; have n5 := m4 false true; have n6 := m4 false false
 simp only [Book.burn, Book.drink, Span.end, if_true, if_false, Bool.false_eq_true] at m1 m2 m5 m6 n1 n2 n5 n6
 clear m3 m4
 refine enter (N := 62) (M := []) w Tryd.func56 rfl rfl rfl (fun Q0 a_0 hQ0 hN0 hs0 => ?_)
 rcases hl : x.light with _ | _
 · skip
   refine cd_region fun K1 hK1 => ?_
   refine sq rfl (st_box hs0 (Ev.t 0 rfl) rfl rfl rfl fun b2 _ _ hs1 => ?_); clear hs0
   refine sq rfl (st_box hs1 (Ev.t 2 rfl) rfl rfl rfl fun b3 _ _ hs2 => ?_); clear hs1
   refine sq rfl (st_box hs2 (Ev.t 4 rfl) rfl rfl rfl fun b4 _ _ hs3 => ?_); clear hs2
   refine sq rfl (st_alloc hs3 rfl rfl Tryd.zeroValue82 rfl fun b5 _ _ hs4 => ?_); clear hs3
   refine hK1 _ _ ?_; clear hK1
   have hs5 := Sx.keepT [0, 1, 2, 3] [_, _, _, _] ⟨rfl, rfl, rfl, rfl, trivial⟩ hs4; clear hs4
   refine cd_drawS mixed [10, 12] ⟨Nat, fun n_ x_ => match n_ with | 0 => [] | 1 => [(7, .pointer (some ⟨x_, 0, none⟩))] | _ => [(7, .pointer (some ⟨x_, 0, none⟩))], fun n_ x_ => match n_ with | 0 => [] | 1 => [(x_, some (.cells ⟨[.int .i64 0, .int .i64 0]⟩ 23 (0, 0)))] | _ => [(x_, some (.cells ⟨[.int .i64 b.burn0.lo, .int .i64 b.burn0.hi]⟩ 23 (0, 0)))]⟩ (0 : Nat) hs5 [⟨9, [], Is (.agg ⟨(partL x)⟩)⟩,
      ⟨10, [0], Is (.int .i64 0)⟩,
      ⟨11, [], Is (.pointer (some ⟨b2, 8, none⟩))⟩,
      ⟨12, [1, 2], Is (.pointer (some ⟨b2, 8, none⟩))⟩,
      ⟨13, [3], Is (.agg ⟨[.int .i64 b.burn0.lo, .int .i64 b.burn0.hi]⟩)⟩,
      ⟨14, [], Is (.agg ⟨(partL x)⟩)⟩,
      ⟨15, [5], Is (.int .i64 0)⟩,
      ⟨16, [], Is (.pointer (some ⟨b2, 12, none⟩))⟩,
      ⟨17, [6, 7], Is (.pointer (some ⟨b2, 12, none⟩))⟩,
      ⟨18, [8], Is (.agg ⟨[.int .i64 b.drink0.lo, .int .i64 b.drink0.hi]⟩)⟩,
      ⟨7, [], Is undef⟩,
      ⟨8, [], fun v_ bs_ => ∃ b7, v_ = .pointer (some ⟨b7, 0, none⟩) ∧ bs_ = [(b7, some (.cells ⟨[.int .i64 0, .int .i64 0]⟩ 23 (0, 0)))]⟩,
      ⟨74, [4], Is undef⟩] (by kernel_rfl) (fun n_ _ => by rcases n_ with _ | _ | _ <;> rfl) (by kernel_rfl) fun K6 hK6 => ⟨⟨?_, ?_, ?_, ?_, ?_, ?_, ?_, ?_, ?_, ?_, ?_, ?_, ?_, trivial⟩, ?_⟩
   · intro T_ B_ a_ w_ K_ hT hB
     intro hf hsD hk
     exact ob rfl rfl (st_loadA (o := 0) (off := 0) (vs := (partL x)) hsD (Ev.tmp (hT _ (mem_nth (i := 1) rfl))) rfl hf Tryd.isAgg66 Tryd.sizeOf66 (hsD.cellsM (hB _ (mem_nth (i := 1) rfl))) rfl fun a_1 w_1 h1 => hk _ _ _ _ ⟨rfl, rfl⟩ h1)
   · intro T_ B_ a_ w_ K_ hT hB
     rintro _ _ ⟨rfl, rfl⟩ h9 -
     intro hf hsD hk
     exact ob rfl rfl (st_callv (vs := [.agg ⟨(partL x)⟩]) (v := .int .i64 0) hsD (.func _) ⟨(Ev.tmp h9), trivial⟩ rfl hf Tryd.call76 rfl (by have h := rkind_v x w_; rw [hl] at h; exact h) fun a_1 w_1 h1 => hk _ _ _ _ ⟨rfl, rfl⟩ h1)
   · intro T_ B_ a_ w_ K_ hT hB
     intro hf hsD hk
     exact ob rfl rfl (st_field (o' := 8) hsD (Ev.tmp (hT _ (mem_nth (i := 3) rfl))) rfl hf Tryd.runUnderlying27 rfl Tryd.sizeOf24 rfl rfl fun a_1 w_1 h1 => hk _ _ _ _ ⟨rfl, rfl⟩ h1)
   · intro T_ B_ a_ w_ K_ hT hB
     rintro _ _ ⟨rfl, rfl⟩ h10 -
     rintro _ _ ⟨rfl, rfl⟩ h11 -
     intro hf hsD hk
     exact ob rfl rfl (st_indexArr (o' := 8) hsD (Ev.tmp h11) (Ev.tmp h10) rfl hf Tryd.runUnderlying24 Tryd.sizeOf23 (by decide) rfl fun a_1 w_1 h1 => hk _ _ _ _ ⟨rfl, rfl⟩ h1)
   · intro T_ B_ a_ w_ K_ hT hB
     rintro _ _ ⟨rfl, rfl⟩ h12 -
     intro hf hsD hk
     exact ob rfl rfl (st_loadA (o := 0) (off := 8) (vs := [.int .i64 b.burn0.lo, .int .i64 b.burn0.hi]) hsD (Ev.tmp h12) rfl hf Tryd.isAgg23 Tryd.sizeOf23 (hsD.cellsM (hB _ (mem_nth (i := 3) rfl))) rfl fun a_1 w_1 h1 => hk _ _ _ _ ⟨rfl, rfl⟩ h1)
   · intro T_ B_ a_ w_ K_ hT hB
     intro hf hsD hk
     exact ob rfl rfl (st_loadA (o := 0) (off := 0) (vs := (partL x)) hsD (Ev.tmp (hT _ (mem_nth (i := 1) rfl))) rfl hf Tryd.isAgg66 Tryd.sizeOf66 (hsD.cellsM (hB _ (mem_nth (i := 1) rfl))) rfl fun a_1 w_1 h1 => hk _ _ _ _ ⟨rfl, rfl⟩ h1)
   · intro T_ B_ a_ w_ K_ hT hB
     rintro _ _ ⟨rfl, rfl⟩ h14 -
     intro hf hsD hk
     exact ob rfl rfl (st_callv (vs := [.agg ⟨(partL x)⟩]) (v := .int .i64 0) hsD (.func _) ⟨(Ev.tmp h14), trivial⟩ rfl hf Tryd.call76 rfl (by have h := rkind_v x w_; rw [hl] at h; exact h) fun a_1 w_1 h1 => hk _ _ _ _ ⟨rfl, rfl⟩ h1)
   · intro T_ B_ a_ w_ K_ hT hB
     intro hf hsD hk
     exact ob rfl rfl (st_field (o' := 12) hsD (Ev.tmp (hT _ (mem_nth (i := 3) rfl))) rfl hf Tryd.runUnderlying27 rfl Tryd.sizeOf24 rfl rfl fun a_1 w_1 h1 => hk _ _ _ _ ⟨rfl, rfl⟩ h1)
   · intro T_ B_ a_ w_ K_ hT hB
     rintro _ _ ⟨rfl, rfl⟩ h15 -
     rintro _ _ ⟨rfl, rfl⟩ h16 -
     intro hf hsD hk
     exact ob rfl rfl (st_indexArr (o' := 12) hsD (Ev.tmp h16) (Ev.tmp h15) rfl hf Tryd.runUnderlying24 Tryd.sizeOf23 (by decide) rfl fun a_1 w_1 h1 => hk _ _ _ _ ⟨rfl, rfl⟩ h1)
   · intro T_ B_ a_ w_ K_ hT hB
     rintro _ _ ⟨rfl, rfl⟩ h17 -
     intro hf hsD hk
     exact ob rfl rfl (st_loadA (o := 0) (off := 12) (vs := [.int .i64 b.drink0.lo, .int .i64 b.drink0.hi]) hsD (Ev.tmp h17) rfl hf Tryd.isAgg23 Tryd.sizeOf23 (hsD.cellsM (hB _ (mem_nth (i := 3) rfl))) rfl fun a_1 w_1 h1 => hk _ _ _ _ ⟨rfl, rfl⟩ h1)
   · intro T_ B_ a_ w_ K_ x_ hT hB
     intro hf hsD hk
     exact ob rfl rfl (st_alloc hsD rfl hf Tryd.zeroValue23 rfl fun b_1 a_1 w_1 h1 => hk b_1 _ _ h1)
   · intro T_ B_ a_ w_ K_ hT hB
     intro hf hsD hk
     exact ob rfl rfl (st_alloc hsD rfl hf Tryd.zeroValue23 rfl fun b7 a_1 w_1 h1 => hk _ _ _ _ ⟨b7, rfl, rfl⟩ h1)
   · intro T_ B_ a_ w_ K_ x_ hT hB
     rintro _ _ ⟨rfl, rfl⟩ h13 -
     intro hf hsD hk
     exact ob rfl rfl (st_store (l' := [.int .i64 b.burn0.lo, .int .i64 b.burn0.hi]) (vs := [.int .i64 b.burn0.lo, .int .i64 b.burn0.hi]) (i := 0) hsD (Ev.t 0 rfl) (Ev.tmp (List.mem_append_right _ h13)) Tryd.sizeOf23 rfl rfl rfl rfl rfl rfl fun a_1 w_1 h1 => hk x_ _ _ h1)
   rintro _ _ ⟨rfl, rfl⟩
   rintro _ _ ⟨rfl, rfl⟩
   rintro _ _ ⟨rfl, rfl⟩
   rintro _ _ ⟨rfl, rfl⟩
   rintro _ _ ⟨rfl, rfl⟩
   rintro _ _ ⟨rfl, rfl⟩
   rintro _ _ ⟨rfl, rfl⟩
   rintro _ _ ⟨rfl, rfl⟩
   rintro _ _ ⟨rfl, rfl⟩
   rintro _ _ ⟨rfl, rfl⟩
   rintro _ _ ⟨b7, rfl, rfl⟩
   intro (b8 : Nat) a_6 w_6 hs6
   clear hs5
   have hs7 := Sx.as (T' := [_, _, _, _, _, _, _, _, _, _, _, _, _, _, _, _]) (B' := [_, _, _, _, _, _]) rfl rfl hs6; clear hs6
   refine sq rfl (st_store (l' := [.int .i64 b.drink0.lo, .int .i64 b.drink0.hi]) (vs := [.int .i64 b.drink0.lo, .int .i64 b.drink0.hi]) (i := 1) hs7 (Ev.t 11 rfl) (Ev.t 10 rfl) Tryd.sizeOf23 rfl rfl rfl rfl rfl rfl fun _ _ hs8 => ?_); clear hs7
   have hs9 := Sx.as (T' := [_, _, _, _, _, _, _, _, _, _, _, _, _, _, _, _]) (B' := [_, _, _, _, _, _]) rfl rfl hs8; clear hs8
   refine hK6 _ _ ?_; clear hK6
   have hs10 := Sx.keepT [0, 11, 12, 13, 14] [_, _, _, _, _] ⟨rfl, rfl, rfl, rfl, rfl, trivial⟩ hs9; clear hs9
   refine cd_drawn mixed hs10 [⟨19, [], Is (.pointer (some ⟨b3, 0, none⟩))⟩,
      ⟨20, [0], Is (.pointer (some ⟨b3, 0, none⟩))⟩,
      ⟨21, [1], Is (.int .i64 cl)⟩,
      ⟨22, [], Is (.pointer (some ⟨b4, 0, none⟩))⟩,
      ⟨23, [3], Is (.pointer (some ⟨b4, 1, none⟩))⟩,
      ⟨24, [4], Is (.int .i64 x.mi.hi)⟩,
      ⟨25, [], Is (.pointer (some ⟨b8, 1, none⟩))⟩,
      ⟨26, [6], Is (.int .i64 b.burn0.hi)⟩,
      ⟨27, [5, 7], Is (.int .i64 (x.mi.hi * b.burn0.hi))⟩,
      ⟨28, [2, 8], Is (.int .i64 (cl - (x.mi.hi * b.burn0.hi)))⟩,
      ⟨29, [], Is (.pointer (some ⟨b3, 0, none⟩))⟩,
      ⟨30, [10], Is (.pointer (some ⟨b3, 1, none⟩))⟩,
      ⟨31, [11], Is (.int .i64 ch)⟩,
      ⟨32, [], Is (.pointer (some ⟨b4, 0, none⟩))⟩,
      ⟨33, [13], Is (.pointer (some ⟨b4, 0, none⟩))⟩,
      ⟨34, [14], Is (.int .i64 x.mi.lo)⟩,
      ⟨35, [], Is (.pointer (some ⟨b8, 0, none⟩))⟩,
      ⟨36, [16], Is (.int .i64 b.burn0.lo)⟩,
      ⟨37, [15, 17], Is (.int .i64 (x.mi.lo * b.burn0.lo))⟩,
      ⟨38, [12, 18], Is (.int .i64 (ch - (x.mi.lo * b.burn0.lo)))⟩,
      ⟨39, [9, 19], Is (.agg ⟨[.int .i64 (cl - (x.mi.hi * b.burn0.hi)), .int .i64 (ch - (x.mi.lo * b.burn0.lo))]⟩)⟩,
      ⟨40, [], Is (.pointer (some ⟨b3, 2, none⟩))⟩,
      ⟨41, [21], Is (.pointer (some ⟨b3, 2, none⟩))⟩,
      ⟨42, [22], Is (.int .i64 vl)⟩,
      ⟨43, [], Is (.pointer (some ⟨b4, 0, none⟩))⟩,
      ⟨44, [24], Is (.pointer (some ⟨b4, 1, none⟩))⟩,
      ⟨45, [25], Is (.int .i64 x.mi.hi)⟩,
      ⟨46, [], Is (.pointer (some ⟨b7, 1, none⟩))⟩,
      ⟨47, [27], Is (.int .i64 b.drink0.hi)⟩,
      ⟨48, [26, 28], Is (.int .i64 (x.mi.hi * b.drink0.hi))⟩,
      ⟨49, [23, 29], Is (.int .i64 (vl - (x.mi.hi * b.drink0.hi)))⟩,
      ⟨50, [], Is (.pointer (some ⟨b3, 2, none⟩))⟩,
      ⟨51, [31], Is (.pointer (some ⟨b3, 3, none⟩))⟩,
      ⟨52, [32], Is (.int .i64 vh)⟩,
      ⟨53, [], Is (.pointer (some ⟨b4, 0, none⟩))⟩,
      ⟨54, [34], Is (.pointer (some ⟨b4, 0, none⟩))⟩,
      ⟨55, [35], Is (.int .i64 x.mi.lo)⟩,
      ⟨56, [], Is (.pointer (some ⟨b7, 0, none⟩))⟩,
      ⟨57, [37], Is (.int .i64 b.drink0.lo)⟩,
      ⟨58, [36, 38], Is (.int .i64 (x.mi.lo * b.drink0.lo))⟩,
      ⟨59, [33, 39], Is (.int .i64 (vh - (x.mi.lo * b.drink0.lo)))⟩,
      ⟨60, [30, 40], Is (.agg ⟨[.int .i64 (vl - (x.mi.hi * b.drink0.hi)), .int .i64 (vh - (x.mi.lo * b.drink0.lo))]⟩)⟩,
      ⟨61, [20, 41], Is (.agg ⟨[.int .i64 (cl - (x.mi.hi * b.burn0.hi)), .int .i64 (ch - (x.mi.lo * b.burn0.lo)), .int .i64 (vl - (x.mi.hi * b.drink0.hi)), .int .i64 (vh - (x.mi.lo * b.drink0.lo))]⟩)⟩] (by kernel_rfl) (by kernel_rfl) fun K9 hK9 => ⟨⟨?_, ?_, ?_, ?_, ?_, ?_, ?_, ?_, ?_, ?_, ?_, ?_, ?_, ?_, ?_, ?_, ?_, ?_, ?_, ?_, ?_, ?_, ?_, ?_, ?_, ?_, ?_, ?_, ?_, ?_, ?_, ?_, ?_, ?_, ?_, ?_, ?_, ?_, ?_, ?_, ?_, ?_, ?_, trivial⟩, ?_⟩
   · intro T_ B_ a_ w_ K_ hT hB
     intro hf hsD hk
     exact ob rfl rfl (st_field (o' := 0) hsD (Ev.tmp (hT _ (mem_nth (i := 4) rfl))) rfl hf Tryd.runUnderlying82 rfl Tryd.sizeOf23 rfl rfl fun a_1 w_1 h1 => hk _ _ _ _ ⟨rfl, rfl⟩ h1)
   · intro T_ B_ a_ w_ K_ hT hB
     rintro _ _ ⟨rfl, rfl⟩ h19 -
     intro hf hsD hk
     exact ob rfl rfl (st_field (o' := 0) hsD (Ev.tmp h19) rfl hf Tryd.runUnderlying23 rfl Tryd.sizeOf3 rfl rfl fun a_1 w_1 h1 => hk _ _ _ _ ⟨rfl, rfl⟩ h1)
   · intro T_ B_ a_ w_ K_ hT hB
     rintro _ _ ⟨rfl, rfl⟩ h20 -
     intro hf hsD hk
     exact ob rfl rfl (st_load1 (o := 0) (off := 0) (v := .int .i64 cl) hsD (Ev.tmp h20) rfl hf Tryd.isAgg3 (hsD.cellsM (hB _ (mem_nth (i := 4) rfl))) rfl fun a_1 w_1 h1 => hk _ _ _ _ ⟨rfl, rfl⟩ h1)
   · intro T_ B_ a_ w_ K_ hT hB
     intro hf hsD hk
     exact ob rfl rfl (st_field (o' := 0) hsD (Ev.tmp (hT _ (mem_nth (i := 3) rfl))) rfl hf Tryd.runUnderlying66 rfl Tryd.sizeOf23 rfl rfl fun a_1 w_1 h1 => hk _ _ _ _ ⟨rfl, rfl⟩ h1)
   · intro T_ B_ a_ w_ K_ hT hB
     rintro _ _ ⟨rfl, rfl⟩ h22 -
     intro hf hsD hk
     exact ob rfl rfl (st_field (o' := 1) hsD (Ev.tmp h22) rfl hf Tryd.runUnderlying23 rfl Tryd.sizeOf3 rfl rfl fun a_1 w_1 h1 => hk _ _ _ _ ⟨rfl, rfl⟩ h1)
   · intro T_ B_ a_ w_ K_ hT hB
     rintro _ _ ⟨rfl, rfl⟩ h23 -
     intro hf hsD hk
     exact ob rfl rfl (st_load1 (o := 0) (off := 1) (v := .int .i64 x.mi.hi) hsD (Ev.tmp h23) rfl hf Tryd.isAgg3 (hsD.cellsM (hB _ (mem_nth (i := 3) rfl))) rfl fun a_1 w_1 h1 => hk _ _ _ _ ⟨rfl, rfl⟩ h1)
   · intro T_ B_ a_ w_ K_ hT hB
     intro hf hsD hk
     exact ob rfl rfl (st_field (o' := 1) hsD (Ev.tmp (hT _ (mem_nth (i := 0) rfl))) rfl hf Tryd.runUnderlying23 rfl Tryd.sizeOf3 rfl rfl fun a_1 w_1 h1 => hk _ _ _ _ ⟨rfl, rfl⟩ h1)
   · intro T_ B_ a_ w_ K_ hT hB
     rintro _ _ ⟨rfl, rfl⟩ h25 -
     intro hf hsD hk
     exact ob rfl rfl (st_load1 (o := 0) (off := 1) (v := .int .i64 b.burn0.hi) hsD (Ev.tmp h25) rfl hf Tryd.isAgg3 (hsD.cellsM (hB _ (mem_nth (i := 0) rfl))) rfl fun a_1 w_1 h1 => hk _ _ _ _ ⟨rfl, rfl⟩ h1)
   · intro T_ B_ a_ w_ K_ hT hB
     rintro _ _ ⟨rfl, rfl⟩ h24 -
     rintro _ _ ⟨rfl, rfl⟩ h26 -
     intro hf hsD hk
     exact ob rfl rfl (st_mul (z := x.mi.hi * b.burn0.hi) hsD (Ev.tmp h24) (Ev.tmp h26) rfl hf rfl (by omega) fun a_1 w_1 h1 => hk _ _ _ _ ⟨rfl, rfl⟩ h1)
   · intro T_ B_ a_ w_ K_ hT hB
     rintro _ _ ⟨rfl, rfl⟩ h21 -
     rintro _ _ ⟨rfl, rfl⟩ h27 -
     intro hf hsD hk
     exact ob rfl rfl (st_sub (z := cl - (x.mi.hi * b.burn0.hi)) hsD (Ev.tmp h21) (Ev.tmp h27) rfl hf rfl (by omega) fun a_1 w_1 h1 => hk _ _ _ _ ⟨rfl, rfl⟩ h1)
   · intro T_ B_ a_ w_ K_ hT hB
     intro hf hsD hk
     exact ob rfl rfl (st_field (o' := 0) hsD (Ev.tmp (hT _ (mem_nth (i := 4) rfl))) rfl hf Tryd.runUnderlying82 rfl Tryd.sizeOf23 rfl rfl fun a_1 w_1 h1 => hk _ _ _ _ ⟨rfl, rfl⟩ h1)
   · intro T_ B_ a_ w_ K_ hT hB
     rintro _ _ ⟨rfl, rfl⟩ h29 -
     intro hf hsD hk
     exact ob rfl rfl (st_field (o' := 1) hsD (Ev.tmp h29) rfl hf Tryd.runUnderlying23 rfl Tryd.sizeOf3 rfl rfl fun a_1 w_1 h1 => hk _ _ _ _ ⟨rfl, rfl⟩ h1)
   · intro T_ B_ a_ w_ K_ hT hB
     rintro _ _ ⟨rfl, rfl⟩ h30 -
     intro hf hsD hk
     exact ob rfl rfl (st_load1 (o := 0) (off := 1) (v := .int .i64 ch) hsD (Ev.tmp h30) rfl hf Tryd.isAgg3 (hsD.cellsM (hB _ (mem_nth (i := 4) rfl))) rfl fun a_1 w_1 h1 => hk _ _ _ _ ⟨rfl, rfl⟩ h1)
   · intro T_ B_ a_ w_ K_ hT hB
     intro hf hsD hk
     exact ob rfl rfl (st_field (o' := 0) hsD (Ev.tmp (hT _ (mem_nth (i := 3) rfl))) rfl hf Tryd.runUnderlying66 rfl Tryd.sizeOf23 rfl rfl fun a_1 w_1 h1 => hk _ _ _ _ ⟨rfl, rfl⟩ h1)
   · intro T_ B_ a_ w_ K_ hT hB
     rintro _ _ ⟨rfl, rfl⟩ h32 -
     intro hf hsD hk
     exact ob rfl rfl (st_field (o' := 0) hsD (Ev.tmp h32) rfl hf Tryd.runUnderlying23 rfl Tryd.sizeOf3 rfl rfl fun a_1 w_1 h1 => hk _ _ _ _ ⟨rfl, rfl⟩ h1)
   · intro T_ B_ a_ w_ K_ hT hB
     rintro _ _ ⟨rfl, rfl⟩ h33 -
     intro hf hsD hk
     exact ob rfl rfl (st_load1 (o := 0) (off := 0) (v := .int .i64 x.mi.lo) hsD (Ev.tmp h33) rfl hf Tryd.isAgg3 (hsD.cellsM (hB _ (mem_nth (i := 3) rfl))) rfl fun a_1 w_1 h1 => hk _ _ _ _ ⟨rfl, rfl⟩ h1)
   · intro T_ B_ a_ w_ K_ hT hB
     intro hf hsD hk
     exact ob rfl rfl (st_field (o' := 0) hsD (Ev.tmp (hT _ (mem_nth (i := 0) rfl))) rfl hf Tryd.runUnderlying23 rfl Tryd.sizeOf3 rfl rfl fun a_1 w_1 h1 => hk _ _ _ _ ⟨rfl, rfl⟩ h1)
   · intro T_ B_ a_ w_ K_ hT hB
     rintro _ _ ⟨rfl, rfl⟩ h35 -
     intro hf hsD hk
     exact ob rfl rfl (st_load1 (o := 0) (off := 0) (v := .int .i64 b.burn0.lo) hsD (Ev.tmp h35) rfl hf Tryd.isAgg3 (hsD.cellsM (hB _ (mem_nth (i := 0) rfl))) rfl fun a_1 w_1 h1 => hk _ _ _ _ ⟨rfl, rfl⟩ h1)
   · intro T_ B_ a_ w_ K_ hT hB
     rintro _ _ ⟨rfl, rfl⟩ h34 -
     rintro _ _ ⟨rfl, rfl⟩ h36 -
     intro hf hsD hk
     exact ob rfl rfl (st_mul (z := x.mi.lo * b.burn0.lo) hsD (Ev.tmp h34) (Ev.tmp h36) rfl hf rfl (by omega) fun a_1 w_1 h1 => hk _ _ _ _ ⟨rfl, rfl⟩ h1)
   · intro T_ B_ a_ w_ K_ hT hB
     rintro _ _ ⟨rfl, rfl⟩ h31 -
     rintro _ _ ⟨rfl, rfl⟩ h37 -
     intro hf hsD hk
     exact ob rfl rfl (st_sub (z := ch - (x.mi.lo * b.burn0.lo)) hsD (Ev.tmp h31) (Ev.tmp h37) rfl hf rfl (by omega) fun a_1 w_1 h1 => hk _ _ _ _ ⟨rfl, rfl⟩ h1)
   · intro T_ B_ a_ w_ K_ hT hB
     rintro _ _ ⟨rfl, rfl⟩ h28 -
     rintro _ _ ⟨rfl, rfl⟩ h38 -
     intro hf hsD hk
     exact ob rfl rfl (st_callv (vs := [.int .i64 (cl - (x.mi.hi * b.burn0.hi)), .int .i64 (ch - (x.mi.lo * b.burn0.lo))]) hsD (.func _) ⟨(Ev.tmp h28), (Ev.tmp h38), trivial⟩ rfl hf Tryd.call40 rfl (S_v (cl - (x.mi.hi * b.burn0.hi)) (ch - (x.mi.lo * b.burn0.lo)) _) fun a_1 w_1 h1 => hk _ _ _ _ ⟨rfl, rfl⟩ h1)
   · intro T_ B_ a_ w_ K_ hT hB
     intro hf hsD hk
     exact ob rfl rfl (st_field (o' := 2) hsD (Ev.tmp (hT _ (mem_nth (i := 4) rfl))) rfl hf Tryd.runUnderlying82 rfl Tryd.sizeOf23 rfl rfl fun a_1 w_1 h1 => hk _ _ _ _ ⟨rfl, rfl⟩ h1)
   · intro T_ B_ a_ w_ K_ hT hB
     rintro _ _ ⟨rfl, rfl⟩ h40 -
     intro hf hsD hk
     exact ob rfl rfl (st_field (o' := 2) hsD (Ev.tmp h40) rfl hf Tryd.runUnderlying23 rfl Tryd.sizeOf3 rfl rfl fun a_1 w_1 h1 => hk _ _ _ _ ⟨rfl, rfl⟩ h1)
   · intro T_ B_ a_ w_ K_ hT hB
     rintro _ _ ⟨rfl, rfl⟩ h41 -
     intro hf hsD hk
     exact ob rfl rfl (st_load1 (o := 0) (off := 2) (v := .int .i64 vl) hsD (Ev.tmp h41) rfl hf Tryd.isAgg3 (hsD.cellsM (hB _ (mem_nth (i := 4) rfl))) rfl fun a_1 w_1 h1 => hk _ _ _ _ ⟨rfl, rfl⟩ h1)
   · intro T_ B_ a_ w_ K_ hT hB
     intro hf hsD hk
     exact ob rfl rfl (st_field (o' := 0) hsD (Ev.tmp (hT _ (mem_nth (i := 3) rfl))) rfl hf Tryd.runUnderlying66 rfl Tryd.sizeOf23 rfl rfl fun a_1 w_1 h1 => hk _ _ _ _ ⟨rfl, rfl⟩ h1)
   · intro T_ B_ a_ w_ K_ hT hB
     rintro _ _ ⟨rfl, rfl⟩ h43 -
     intro hf hsD hk
     exact ob rfl rfl (st_field (o' := 1) hsD (Ev.tmp h43) rfl hf Tryd.runUnderlying23 rfl Tryd.sizeOf3 rfl rfl fun a_1 w_1 h1 => hk _ _ _ _ ⟨rfl, rfl⟩ h1)
   · intro T_ B_ a_ w_ K_ hT hB
     rintro _ _ ⟨rfl, rfl⟩ h44 -
     intro hf hsD hk
     exact ob rfl rfl (st_load1 (o := 0) (off := 1) (v := .int .i64 x.mi.hi) hsD (Ev.tmp h44) rfl hf Tryd.isAgg3 (hsD.cellsM (hB _ (mem_nth (i := 3) rfl))) rfl fun a_1 w_1 h1 => hk _ _ _ _ ⟨rfl, rfl⟩ h1)
   · intro T_ B_ a_ w_ K_ hT hB
     intro hf hsD hk
     exact ob rfl rfl (st_field (o' := 1) hsD (Ev.tmp (hT _ (mem_nth (i := 1) rfl))) rfl hf Tryd.runUnderlying23 rfl Tryd.sizeOf3 rfl rfl fun a_1 w_1 h1 => hk _ _ _ _ ⟨rfl, rfl⟩ h1)
   · intro T_ B_ a_ w_ K_ hT hB
     rintro _ _ ⟨rfl, rfl⟩ h46 -
     intro hf hsD hk
     exact ob rfl rfl (st_load1 (o := 0) (off := 1) (v := .int .i64 b.drink0.hi) hsD (Ev.tmp h46) rfl hf Tryd.isAgg3 (hsD.cellsM (hB _ (mem_nth (i := 1) rfl))) rfl fun a_1 w_1 h1 => hk _ _ _ _ ⟨rfl, rfl⟩ h1)
   · intro T_ B_ a_ w_ K_ hT hB
     rintro _ _ ⟨rfl, rfl⟩ h45 -
     rintro _ _ ⟨rfl, rfl⟩ h47 -
     intro hf hsD hk
     exact ob rfl rfl (st_mul (z := x.mi.hi * b.drink0.hi) hsD (Ev.tmp h45) (Ev.tmp h47) rfl hf rfl (by omega) fun a_1 w_1 h1 => hk _ _ _ _ ⟨rfl, rfl⟩ h1)
   · intro T_ B_ a_ w_ K_ hT hB
     rintro _ _ ⟨rfl, rfl⟩ h42 -
     rintro _ _ ⟨rfl, rfl⟩ h48 -
     intro hf hsD hk
     exact ob rfl rfl (st_sub (z := vl - (x.mi.hi * b.drink0.hi)) hsD (Ev.tmp h42) (Ev.tmp h48) rfl hf rfl (by omega) fun a_1 w_1 h1 => hk _ _ _ _ ⟨rfl, rfl⟩ h1)
   · intro T_ B_ a_ w_ K_ hT hB
     intro hf hsD hk
     exact ob rfl rfl (st_field (o' := 2) hsD (Ev.tmp (hT _ (mem_nth (i := 4) rfl))) rfl hf Tryd.runUnderlying82 rfl Tryd.sizeOf23 rfl rfl fun a_1 w_1 h1 => hk _ _ _ _ ⟨rfl, rfl⟩ h1)
   · intro T_ B_ a_ w_ K_ hT hB
     rintro _ _ ⟨rfl, rfl⟩ h50 -
     intro hf hsD hk
     exact ob rfl rfl (st_field (o' := 3) hsD (Ev.tmp h50) rfl hf Tryd.runUnderlying23 rfl Tryd.sizeOf3 rfl rfl fun a_1 w_1 h1 => hk _ _ _ _ ⟨rfl, rfl⟩ h1)
   · intro T_ B_ a_ w_ K_ hT hB
     rintro _ _ ⟨rfl, rfl⟩ h51 -
     intro hf hsD hk
     exact ob rfl rfl (st_load1 (o := 0) (off := 3) (v := .int .i64 vh) hsD (Ev.tmp h51) rfl hf Tryd.isAgg3 (hsD.cellsM (hB _ (mem_nth (i := 4) rfl))) rfl fun a_1 w_1 h1 => hk _ _ _ _ ⟨rfl, rfl⟩ h1)
   · intro T_ B_ a_ w_ K_ hT hB
     intro hf hsD hk
     exact ob rfl rfl (st_field (o' := 0) hsD (Ev.tmp (hT _ (mem_nth (i := 3) rfl))) rfl hf Tryd.runUnderlying66 rfl Tryd.sizeOf23 rfl rfl fun a_1 w_1 h1 => hk _ _ _ _ ⟨rfl, rfl⟩ h1)
   · intro T_ B_ a_ w_ K_ hT hB
     rintro _ _ ⟨rfl, rfl⟩ h53 -
     intro hf hsD hk
     exact ob rfl rfl (st_field (o' := 0) hsD (Ev.tmp h53) rfl hf Tryd.runUnderlying23 rfl Tryd.sizeOf3 rfl rfl fun a_1 w_1 h1 => hk _ _ _ _ ⟨rfl, rfl⟩ h1)
   · intro T_ B_ a_ w_ K_ hT hB
     rintro _ _ ⟨rfl, rfl⟩ h54 -
     intro hf hsD hk
     exact ob rfl rfl (st_load1 (o := 0) (off := 0) (v := .int .i64 x.mi.lo) hsD (Ev.tmp h54) rfl hf Tryd.isAgg3 (hsD.cellsM (hB _ (mem_nth (i := 3) rfl))) rfl fun a_1 w_1 h1 => hk _ _ _ _ ⟨rfl, rfl⟩ h1)
   · intro T_ B_ a_ w_ K_ hT hB
     intro hf hsD hk
     exact ob rfl rfl (st_field (o' := 0) hsD (Ev.tmp (hT _ (mem_nth (i := 1) rfl))) rfl hf Tryd.runUnderlying23 rfl Tryd.sizeOf3 rfl rfl fun a_1 w_1 h1 => hk _ _ _ _ ⟨rfl, rfl⟩ h1)
   · intro T_ B_ a_ w_ K_ hT hB
     rintro _ _ ⟨rfl, rfl⟩ h56 -
     intro hf hsD hk
     exact ob rfl rfl (st_load1 (o := 0) (off := 0) (v := .int .i64 b.drink0.lo) hsD (Ev.tmp h56) rfl hf Tryd.isAgg3 (hsD.cellsM (hB _ (mem_nth (i := 1) rfl))) rfl fun a_1 w_1 h1 => hk _ _ _ _ ⟨rfl, rfl⟩ h1)
   · intro T_ B_ a_ w_ K_ hT hB
     rintro _ _ ⟨rfl, rfl⟩ h55 -
     rintro _ _ ⟨rfl, rfl⟩ h57 -
     intro hf hsD hk
     exact ob rfl rfl (st_mul (z := x.mi.lo * b.drink0.lo) hsD (Ev.tmp h55) (Ev.tmp h57) rfl hf rfl (by omega) fun a_1 w_1 h1 => hk _ _ _ _ ⟨rfl, rfl⟩ h1)
   · intro T_ B_ a_ w_ K_ hT hB
     rintro _ _ ⟨rfl, rfl⟩ h52 -
     rintro _ _ ⟨rfl, rfl⟩ h58 -
     intro hf hsD hk
     exact ob rfl rfl (st_sub (z := vh - (x.mi.lo * b.drink0.lo)) hsD (Ev.tmp h52) (Ev.tmp h58) rfl hf rfl (by omega) fun a_1 w_1 h1 => hk _ _ _ _ ⟨rfl, rfl⟩ h1)
   · intro T_ B_ a_ w_ K_ hT hB
     rintro _ _ ⟨rfl, rfl⟩ h49 -
     rintro _ _ ⟨rfl, rfl⟩ h59 -
     intro hf hsD hk
     exact ob rfl rfl (st_callv (vs := [.int .i64 (vl - (x.mi.hi * b.drink0.hi)), .int .i64 (vh - (x.mi.lo * b.drink0.lo))]) hsD (.func _) ⟨(Ev.tmp h49), (Ev.tmp h59), trivial⟩ rfl hf Tryd.call40 rfl (S_v (vl - (x.mi.hi * b.drink0.hi)) (vh - (x.mi.lo * b.drink0.lo)) _) fun a_1 w_1 h1 => hk _ _ _ _ ⟨rfl, rfl⟩ h1)
   · intro T_ B_ a_ w_ K_ hT hB
     rintro _ _ ⟨rfl, rfl⟩ h39 -
     rintro _ _ ⟨rfl, rfl⟩ h60 -
     intro hf hsD hk
     exact ob rfl rfl (st_build hsD (qs := [(0, .agg ⟨[.int .i64 (cl - (x.mi.hi * b.burn0.hi)), .int .i64 (ch - (x.mi.lo * b.burn0.lo))]⟩), (1, .agg ⟨[.int .i64 (vl - (x.mi.hi * b.drink0.hi)), .int .i64 (vh - (x.mi.lo * b.drink0.lo))]⟩)]) (v := .agg ⟨[.int .i64 (cl - (x.mi.hi * b.burn0.hi)), .int .i64 (ch - (x.mi.lo * b.burn0.lo)), .int .i64 (vl - (x.mi.hi * b.drink0.hi)), .int .i64 (vh - (x.mi.lo * b.drink0.lo))]⟩) ⟨(Ev.tmp h39), (Ev.tmp h60), trivial⟩ rfl hf rfl (fun _ => by kernel_rfl) fun a_1 w_1 h1 => hk _ _ _ _ ⟨rfl, rfl⟩ h1)
   rintro _ _ ⟨rfl, rfl⟩
   rintro _ _ ⟨rfl, rfl⟩
   rintro _ _ ⟨rfl, rfl⟩
   rintro _ _ ⟨rfl, rfl⟩
   rintro _ _ ⟨rfl, rfl⟩
   rintro _ _ ⟨rfl, rfl⟩
   rintro _ _ ⟨rfl, rfl⟩
   rintro _ _ ⟨rfl, rfl⟩
   rintro _ _ ⟨rfl, rfl⟩
   rintro _ _ ⟨rfl, rfl⟩
   rintro _ _ ⟨rfl, rfl⟩
   rintro _ _ ⟨rfl, rfl⟩
   rintro _ _ ⟨rfl, rfl⟩
   rintro _ _ ⟨rfl, rfl⟩
   rintro _ _ ⟨rfl, rfl⟩
   rintro _ _ ⟨rfl, rfl⟩
   rintro _ _ ⟨rfl, rfl⟩
   rintro _ _ ⟨rfl, rfl⟩
   rintro _ _ ⟨rfl, rfl⟩
   rintro _ _ ⟨rfl, rfl⟩
   rintro _ _ ⟨rfl, rfl⟩
   rintro _ _ ⟨rfl, rfl⟩
   rintro _ _ ⟨rfl, rfl⟩
   rintro _ _ ⟨rfl, rfl⟩
   rintro _ _ ⟨rfl, rfl⟩
   rintro _ _ ⟨rfl, rfl⟩
   rintro _ _ ⟨rfl, rfl⟩
   rintro _ _ ⟨rfl, rfl⟩
   rintro _ _ ⟨rfl, rfl⟩
   rintro _ _ ⟨rfl, rfl⟩
   rintro _ _ ⟨rfl, rfl⟩
   rintro _ _ ⟨rfl, rfl⟩
   rintro _ _ ⟨rfl, rfl⟩
   rintro _ _ ⟨rfl, rfl⟩
   rintro _ _ ⟨rfl, rfl⟩
   rintro _ _ ⟨rfl, rfl⟩
   rintro _ _ ⟨rfl, rfl⟩
   rintro _ _ ⟨rfl, rfl⟩
   rintro _ _ ⟨rfl, rfl⟩
   rintro _ _ ⟨rfl, rfl⟩
   rintro _ _ ⟨rfl, rfl⟩
   rintro _ _ ⟨rfl, rfl⟩
   rintro _ _ ⟨rfl, rfl⟩
   intro a_11 w_11 hs11
   clear hs10
   have hs12 := Sx.as (T' := [_, _, _, _, _, _, _, _, _, _, _, _, _, _, _, _, _, _, _, _, _, _, _, _, _, _, _, _, _, _, _, _, _, _, _, _, _, _, _, _, _, _, _, _, _, _, _, _]) (B' := [_, _, _, _, _, _]) rfl rfl hs11; clear hs11
   refine sq rfl (st_store (l' := [.int .i64 (cl - (x.mi.hi * b.burn0.hi)), .int .i64 (ch - (x.mi.lo * b.burn0.lo)), .int .i64 (vl - (x.mi.hi * b.drink0.hi)), .int .i64 (vh - (x.mi.lo * b.drink0.lo))]) (vs := [.int .i64 (cl - (x.mi.hi * b.burn0.hi)), .int .i64 (ch - (x.mi.lo * b.burn0.lo)), .int .i64 (vl - (x.mi.hi * b.drink0.hi)), .int .i64 (vh - (x.mi.lo * b.drink0.lo))]) (i := 2) hs12 (Ev.t 45 rfl) (Ev.t 42 rfl) Tryd.sizeOf82 rfl rfl rfl rfl rfl rfl fun _ _ hs13 => ?_); clear hs12
   have hs14 := Sx.as (T' := [_, _, _, _, _, _, _, _, _, _, _, _, _, _, _, _, _, _, _, _, _, _, _, _, _, _, _, _, _, _, _, _, _, _, _, _, _, _, _, _, _, _, _, _, _, _, _, _]) (B' := [_, _, _, _, _, _]) rfl rfl hs13; clear hs13
   refine hK9 _ _ ?_; clear hK9
   have hs15 := Sx.keepT [45] [_] ⟨rfl, trivial⟩ hs14; clear hs14
   refine cd_retv (vs := [.agg ⟨[.int .i64 (cl - (x.mi.hi * b.burn0.hi)), .int .i64 (ch - (x.mi.lo * b.burn0.lo)), .int .i64 (vl - (x.mi.hi * b.drink0.hi)), .int .i64 (vh - (x.mi.lo * b.drink0.lo))]⟩]) hs15 hQ0 rfl ⟨resA (o := 0) (off := 0) (vs := [.int .i64 (cl - (x.mi.hi * b.burn0.hi)), .int .i64 (ch - (x.mi.lo * b.burn0.lo)), .int .i64 (vl - (x.mi.hi * b.drink0.hi)), .int .i64 (vh - (x.mi.lo * b.drink0.lo))]) 0 rfl Tryd.isAgg82 Tryd.sizeOf82 (hs15.cells 2 rfl) rfl, trivial⟩ ?_
   clear hs15 hQ0 hN0
   simp [pack, Book.burn, Book.drink, hl]
 · skip
   refine cd_region fun K10 hK10 => ?_
   refine sq rfl (st_box hs0 (Ev.t 0 rfl) rfl rfl rfl fun b11 _ _ hs1 => ?_); clear hs0
   refine sq rfl (st_box hs1 (Ev.t 2 rfl) rfl rfl rfl fun b12 _ _ hs2 => ?_); clear hs1
   refine sq rfl (st_box hs2 (Ev.t 4 rfl) rfl rfl rfl fun b13 _ _ hs3 => ?_); clear hs2
   refine sq rfl (st_alloc hs3 rfl rfl Tryd.zeroValue82 rfl fun b14 _ _ hs4 => ?_); clear hs3
   refine hK10 _ _ ?_; clear hK10
   have hs5 := Sx.keepT [0, 1, 2, 3] [_, _, _, _] ⟨rfl, rfl, rfl, rfl, trivial⟩ hs4; clear hs4
   refine cd_drawS mixed [10, 12] ⟨Nat, fun n_ x_ => match n_ with | 0 => [] | 1 => [(7, .pointer (some ⟨x_, 0, none⟩))] | _ => [(7, .pointer (some ⟨x_, 0, none⟩))], fun n_ x_ => match n_ with | 0 => [] | 1 => [(x_, some (.cells ⟨[.int .i64 0, .int .i64 0]⟩ 23 (0, 0)))] | _ => [(x_, some (.cells ⟨[.int .i64 b.burn1.lo, .int .i64 b.burn1.hi]⟩ 23 (0, 0)))]⟩ (0 : Nat) hs5 [⟨9, [], Is (.agg ⟨(partL x)⟩)⟩,
      ⟨10, [0], Is (.int .i64 1)⟩,
      ⟨11, [], Is (.pointer (some ⟨b11, 8, none⟩))⟩,
      ⟨12, [1, 2], Is (.pointer (some ⟨b11, 10, none⟩))⟩,
      ⟨13, [3], Is (.agg ⟨[.int .i64 b.burn1.lo, .int .i64 b.burn1.hi]⟩)⟩,
      ⟨14, [], Is (.agg ⟨(partL x)⟩)⟩,
      ⟨15, [5], Is (.int .i64 1)⟩,
      ⟨16, [], Is (.pointer (some ⟨b11, 12, none⟩))⟩,
      ⟨17, [6, 7], Is (.pointer (some ⟨b11, 14, none⟩))⟩,
      ⟨18, [8], Is (.agg ⟨[.int .i64 b.drink1.lo, .int .i64 b.drink1.hi]⟩)⟩,
      ⟨7, [], Is undef⟩,
      ⟨8, [], fun v_ bs_ => ∃ b16, v_ = .pointer (some ⟨b16, 0, none⟩) ∧ bs_ = [(b16, some (.cells ⟨[.int .i64 0, .int .i64 0]⟩ 23 (0, 0)))]⟩,
      ⟨74, [4], Is undef⟩] (by kernel_rfl) (fun n_ _ => by rcases n_ with _ | _ | _ <;> rfl) (by kernel_rfl) fun K15 hK15 => ⟨⟨?_, ?_, ?_, ?_, ?_, ?_, ?_, ?_, ?_, ?_, ?_, ?_, ?_, trivial⟩, ?_⟩
   · intro T_ B_ a_ w_ K_ hT hB
     intro hf hsD hk
     exact ob rfl rfl (st_loadA (o := 0) (off := 0) (vs := (partL x)) hsD (Ev.tmp (hT _ (mem_nth (i := 1) rfl))) rfl hf Tryd.isAgg66 Tryd.sizeOf66 (hsD.cellsM (hB _ (mem_nth (i := 1) rfl))) rfl fun a_1 w_1 h1 => hk _ _ _ _ ⟨rfl, rfl⟩ h1)
   · intro T_ B_ a_ w_ K_ hT hB
     rintro _ _ ⟨rfl, rfl⟩ h9 -
     intro hf hsD hk
     exact ob rfl rfl (st_callv (vs := [.agg ⟨(partL x)⟩]) (v := .int .i64 1) hsD (.func _) ⟨(Ev.tmp h9), trivial⟩ rfl hf Tryd.call76 rfl (by have h := rkind_v x w_; rw [hl] at h; exact h) fun a_1 w_1 h1 => hk _ _ _ _ ⟨rfl, rfl⟩ h1)
   · intro T_ B_ a_ w_ K_ hT hB
     intro hf hsD hk
     exact ob rfl rfl (st_field (o' := 8) hsD (Ev.tmp (hT _ (mem_nth (i := 3) rfl))) rfl hf Tryd.runUnderlying27 rfl Tryd.sizeOf24 rfl rfl fun a_1 w_1 h1 => hk _ _ _ _ ⟨rfl, rfl⟩ h1)
   · intro T_ B_ a_ w_ K_ hT hB
     rintro _ _ ⟨rfl, rfl⟩ h10 -
     rintro _ _ ⟨rfl, rfl⟩ h11 -
     intro hf hsD hk
     exact ob rfl rfl (st_indexArr (o' := 10) hsD (Ev.tmp h11) (Ev.tmp h10) rfl hf Tryd.runUnderlying24 Tryd.sizeOf23 (by decide) rfl fun a_1 w_1 h1 => hk _ _ _ _ ⟨rfl, rfl⟩ h1)
   · intro T_ B_ a_ w_ K_ hT hB
     rintro _ _ ⟨rfl, rfl⟩ h12 -
     intro hf hsD hk
     exact ob rfl rfl (st_loadA (o := 0) (off := 10) (vs := [.int .i64 b.burn1.lo, .int .i64 b.burn1.hi]) hsD (Ev.tmp h12) rfl hf Tryd.isAgg23 Tryd.sizeOf23 (hsD.cellsM (hB _ (mem_nth (i := 3) rfl))) rfl fun a_1 w_1 h1 => hk _ _ _ _ ⟨rfl, rfl⟩ h1)
   · intro T_ B_ a_ w_ K_ hT hB
     intro hf hsD hk
     exact ob rfl rfl (st_loadA (o := 0) (off := 0) (vs := (partL x)) hsD (Ev.tmp (hT _ (mem_nth (i := 1) rfl))) rfl hf Tryd.isAgg66 Tryd.sizeOf66 (hsD.cellsM (hB _ (mem_nth (i := 1) rfl))) rfl fun a_1 w_1 h1 => hk _ _ _ _ ⟨rfl, rfl⟩ h1)
   · intro T_ B_ a_ w_ K_ hT hB
     rintro _ _ ⟨rfl, rfl⟩ h14 -
     intro hf hsD hk
     exact ob rfl rfl (st_callv (vs := [.agg ⟨(partL x)⟩]) (v := .int .i64 1) hsD (.func _) ⟨(Ev.tmp h14), trivial⟩ rfl hf Tryd.call76 rfl (by have h := rkind_v x w_; rw [hl] at h; exact h) fun a_1 w_1 h1 => hk _ _ _ _ ⟨rfl, rfl⟩ h1)
   · intro T_ B_ a_ w_ K_ hT hB
     intro hf hsD hk
     exact ob rfl rfl (st_field (o' := 12) hsD (Ev.tmp (hT _ (mem_nth (i := 3) rfl))) rfl hf Tryd.runUnderlying27 rfl Tryd.sizeOf24 rfl rfl fun a_1 w_1 h1 => hk _ _ _ _ ⟨rfl, rfl⟩ h1)
   · intro T_ B_ a_ w_ K_ hT hB
     rintro _ _ ⟨rfl, rfl⟩ h15 -
     rintro _ _ ⟨rfl, rfl⟩ h16 -
     intro hf hsD hk
     exact ob rfl rfl (st_indexArr (o' := 14) hsD (Ev.tmp h16) (Ev.tmp h15) rfl hf Tryd.runUnderlying24 Tryd.sizeOf23 (by decide) rfl fun a_1 w_1 h1 => hk _ _ _ _ ⟨rfl, rfl⟩ h1)
   · intro T_ B_ a_ w_ K_ hT hB
     rintro _ _ ⟨rfl, rfl⟩ h17 -
     intro hf hsD hk
     exact ob rfl rfl (st_loadA (o := 0) (off := 14) (vs := [.int .i64 b.drink1.lo, .int .i64 b.drink1.hi]) hsD (Ev.tmp h17) rfl hf Tryd.isAgg23 Tryd.sizeOf23 (hsD.cellsM (hB _ (mem_nth (i := 3) rfl))) rfl fun a_1 w_1 h1 => hk _ _ _ _ ⟨rfl, rfl⟩ h1)
   · intro T_ B_ a_ w_ K_ x_ hT hB
     intro hf hsD hk
     exact ob rfl rfl (st_alloc hsD rfl hf Tryd.zeroValue23 rfl fun b_1 a_1 w_1 h1 => hk b_1 _ _ h1)
   · intro T_ B_ a_ w_ K_ hT hB
     intro hf hsD hk
     exact ob rfl rfl (st_alloc hsD rfl hf Tryd.zeroValue23 rfl fun b16 a_1 w_1 h1 => hk _ _ _ _ ⟨b16, rfl, rfl⟩ h1)
   · intro T_ B_ a_ w_ K_ x_ hT hB
     rintro _ _ ⟨rfl, rfl⟩ h13 -
     intro hf hsD hk
     exact ob rfl rfl (st_store (l' := [.int .i64 b.burn1.lo, .int .i64 b.burn1.hi]) (vs := [.int .i64 b.burn1.lo, .int .i64 b.burn1.hi]) (i := 0) hsD (Ev.t 0 rfl) (Ev.tmp (List.mem_append_right _ h13)) Tryd.sizeOf23 rfl rfl rfl rfl rfl rfl fun a_1 w_1 h1 => hk x_ _ _ h1)
   rintro _ _ ⟨rfl, rfl⟩
   rintro _ _ ⟨rfl, rfl⟩
   rintro _ _ ⟨rfl, rfl⟩
   rintro _ _ ⟨rfl, rfl⟩
   rintro _ _ ⟨rfl, rfl⟩
   rintro _ _ ⟨rfl, rfl⟩
   rintro _ _ ⟨rfl, rfl⟩
   rintro _ _ ⟨rfl, rfl⟩
   rintro _ _ ⟨rfl, rfl⟩
   rintro _ _ ⟨rfl, rfl⟩
   rintro _ _ ⟨b16, rfl, rfl⟩
   intro (b17 : Nat) a_6 w_6 hs6
   clear hs5
   have hs7 := Sx.as (T' := [_, _, _, _, _, _, _, _, _, _, _, _, _, _, _, _]) (B' := [_, _, _, _, _, _]) rfl rfl hs6; clear hs6
   refine sq rfl (st_store (l' := [.int .i64 b.drink1.lo, .int .i64 b.drink1.hi]) (vs := [.int .i64 b.drink1.lo, .int .i64 b.drink1.hi]) (i := 1) hs7 (Ev.t 11 rfl) (Ev.t 10 rfl) Tryd.sizeOf23 rfl rfl rfl rfl rfl rfl fun _ _ hs8 => ?_); clear hs7
   have hs9 := Sx.as (T' := [_, _, _, _, _, _, _, _, _, _, _, _, _, _, _, _]) (B' := [_, _, _, _, _, _]) rfl rfl hs8; clear hs8
   refine hK15 _ _ ?_; clear hK15
   have hs10 := Sx.keepT [0, 11, 12, 13, 14] [_, _, _, _, _] ⟨rfl, rfl, rfl, rfl, rfl, trivial⟩ hs9; clear hs9
   refine cd_drawn mixed hs10 [⟨19, [], Is (.pointer (some ⟨b12, 0, none⟩))⟩,
      ⟨20, [0], Is (.pointer (some ⟨b12, 0, none⟩))⟩,
      ⟨21, [1], Is (.int .i64 cl)⟩,
      ⟨22, [], Is (.pointer (some ⟨b13, 0, none⟩))⟩,
      ⟨23, [3], Is (.pointer (some ⟨b13, 1, none⟩))⟩,
      ⟨24, [4], Is (.int .i64 x.mi.hi)⟩,
      ⟨25, [], Is (.pointer (some ⟨b17, 1, none⟩))⟩,
      ⟨26, [6], Is (.int .i64 b.burn1.hi)⟩,
      ⟨27, [5, 7], Is (.int .i64 (x.mi.hi * b.burn1.hi))⟩,
      ⟨28, [2, 8], Is (.int .i64 (cl - (x.mi.hi * b.burn1.hi)))⟩,
      ⟨29, [], Is (.pointer (some ⟨b12, 0, none⟩))⟩,
      ⟨30, [10], Is (.pointer (some ⟨b12, 1, none⟩))⟩,
      ⟨31, [11], Is (.int .i64 ch)⟩,
      ⟨32, [], Is (.pointer (some ⟨b13, 0, none⟩))⟩,
      ⟨33, [13], Is (.pointer (some ⟨b13, 0, none⟩))⟩,
      ⟨34, [14], Is (.int .i64 x.mi.lo)⟩,
      ⟨35, [], Is (.pointer (some ⟨b17, 0, none⟩))⟩,
      ⟨36, [16], Is (.int .i64 b.burn1.lo)⟩,
      ⟨37, [15, 17], Is (.int .i64 (x.mi.lo * b.burn1.lo))⟩,
      ⟨38, [12, 18], Is (.int .i64 (ch - (x.mi.lo * b.burn1.lo)))⟩,
      ⟨39, [9, 19], Is (.agg ⟨[.int .i64 (cl - (x.mi.hi * b.burn1.hi)), .int .i64 (ch - (x.mi.lo * b.burn1.lo))]⟩)⟩,
      ⟨40, [], Is (.pointer (some ⟨b12, 2, none⟩))⟩,
      ⟨41, [21], Is (.pointer (some ⟨b12, 2, none⟩))⟩,
      ⟨42, [22], Is (.int .i64 vl)⟩,
      ⟨43, [], Is (.pointer (some ⟨b13, 0, none⟩))⟩,
      ⟨44, [24], Is (.pointer (some ⟨b13, 1, none⟩))⟩,
      ⟨45, [25], Is (.int .i64 x.mi.hi)⟩,
      ⟨46, [], Is (.pointer (some ⟨b16, 1, none⟩))⟩,
      ⟨47, [27], Is (.int .i64 b.drink1.hi)⟩,
      ⟨48, [26, 28], Is (.int .i64 (x.mi.hi * b.drink1.hi))⟩,
      ⟨49, [23, 29], Is (.int .i64 (vl - (x.mi.hi * b.drink1.hi)))⟩,
      ⟨50, [], Is (.pointer (some ⟨b12, 2, none⟩))⟩,
      ⟨51, [31], Is (.pointer (some ⟨b12, 3, none⟩))⟩,
      ⟨52, [32], Is (.int .i64 vh)⟩,
      ⟨53, [], Is (.pointer (some ⟨b13, 0, none⟩))⟩,
      ⟨54, [34], Is (.pointer (some ⟨b13, 0, none⟩))⟩,
      ⟨55, [35], Is (.int .i64 x.mi.lo)⟩,
      ⟨56, [], Is (.pointer (some ⟨b16, 0, none⟩))⟩,
      ⟨57, [37], Is (.int .i64 b.drink1.lo)⟩,
      ⟨58, [36, 38], Is (.int .i64 (x.mi.lo * b.drink1.lo))⟩,
      ⟨59, [33, 39], Is (.int .i64 (vh - (x.mi.lo * b.drink1.lo)))⟩,
      ⟨60, [30, 40], Is (.agg ⟨[.int .i64 (vl - (x.mi.hi * b.drink1.hi)), .int .i64 (vh - (x.mi.lo * b.drink1.lo))]⟩)⟩,
      ⟨61, [20, 41], Is (.agg ⟨[.int .i64 (cl - (x.mi.hi * b.burn1.hi)), .int .i64 (ch - (x.mi.lo * b.burn1.lo)), .int .i64 (vl - (x.mi.hi * b.drink1.hi)), .int .i64 (vh - (x.mi.lo * b.drink1.lo))]⟩)⟩] (by kernel_rfl) (by kernel_rfl) fun K18 hK18 => ⟨⟨?_, ?_, ?_, ?_, ?_, ?_, ?_, ?_, ?_, ?_, ?_, ?_, ?_, ?_, ?_, ?_, ?_, ?_, ?_, ?_, ?_, ?_, ?_, ?_, ?_, ?_, ?_, ?_, ?_, ?_, ?_, ?_, ?_, ?_, ?_, ?_, ?_, ?_, ?_, ?_, ?_, ?_, ?_, trivial⟩, ?_⟩
   · intro T_ B_ a_ w_ K_ hT hB
     intro hf hsD hk
     exact ob rfl rfl (st_field (o' := 0) hsD (Ev.tmp (hT _ (mem_nth (i := 4) rfl))) rfl hf Tryd.runUnderlying82 rfl Tryd.sizeOf23 rfl rfl fun a_1 w_1 h1 => hk _ _ _ _ ⟨rfl, rfl⟩ h1)
   · intro T_ B_ a_ w_ K_ hT hB
     rintro _ _ ⟨rfl, rfl⟩ h19 -
     intro hf hsD hk
     exact ob rfl rfl (st_field (o' := 0) hsD (Ev.tmp h19) rfl hf Tryd.runUnderlying23 rfl Tryd.sizeOf3 rfl rfl fun a_1 w_1 h1 => hk _ _ _ _ ⟨rfl, rfl⟩ h1)
   · intro T_ B_ a_ w_ K_ hT hB
     rintro _ _ ⟨rfl, rfl⟩ h20 -
     intro hf hsD hk
     exact ob rfl rfl (st_load1 (o := 0) (off := 0) (v := .int .i64 cl) hsD (Ev.tmp h20) rfl hf Tryd.isAgg3 (hsD.cellsM (hB _ (mem_nth (i := 4) rfl))) rfl fun a_1 w_1 h1 => hk _ _ _ _ ⟨rfl, rfl⟩ h1)
   · intro T_ B_ a_ w_ K_ hT hB
     intro hf hsD hk
     exact ob rfl rfl (st_field (o' := 0) hsD (Ev.tmp (hT _ (mem_nth (i := 3) rfl))) rfl hf Tryd.runUnderlying66 rfl Tryd.sizeOf23 rfl rfl fun a_1 w_1 h1 => hk _ _ _ _ ⟨rfl, rfl⟩ h1)
   · intro T_ B_ a_ w_ K_ hT hB
     rintro _ _ ⟨rfl, rfl⟩ h22 -
     intro hf hsD hk
     exact ob rfl rfl (st_field (o' := 1) hsD (Ev.tmp h22) rfl hf Tryd.runUnderlying23 rfl Tryd.sizeOf3 rfl rfl fun a_1 w_1 h1 => hk _ _ _ _ ⟨rfl, rfl⟩ h1)
   · intro T_ B_ a_ w_ K_ hT hB
     rintro _ _ ⟨rfl, rfl⟩ h23 -
     intro hf hsD hk
     exact ob rfl rfl (st_load1 (o := 0) (off := 1) (v := .int .i64 x.mi.hi) hsD (Ev.tmp h23) rfl hf Tryd.isAgg3 (hsD.cellsM (hB _ (mem_nth (i := 3) rfl))) rfl fun a_1 w_1 h1 => hk _ _ _ _ ⟨rfl, rfl⟩ h1)
   · intro T_ B_ a_ w_ K_ hT hB
     intro hf hsD hk
     exact ob rfl rfl (st_field (o' := 1) hsD (Ev.tmp (hT _ (mem_nth (i := 0) rfl))) rfl hf Tryd.runUnderlying23 rfl Tryd.sizeOf3 rfl rfl fun a_1 w_1 h1 => hk _ _ _ _ ⟨rfl, rfl⟩ h1)
   · intro T_ B_ a_ w_ K_ hT hB
     rintro _ _ ⟨rfl, rfl⟩ h25 -
     intro hf hsD hk
     exact ob rfl rfl (st_load1 (o := 0) (off := 1) (v := .int .i64 b.burn1.hi) hsD (Ev.tmp h25) rfl hf Tryd.isAgg3 (hsD.cellsM (hB _ (mem_nth (i := 0) rfl))) rfl fun a_1 w_1 h1 => hk _ _ _ _ ⟨rfl, rfl⟩ h1)
   · intro T_ B_ a_ w_ K_ hT hB
     rintro _ _ ⟨rfl, rfl⟩ h24 -
     rintro _ _ ⟨rfl, rfl⟩ h26 -
     intro hf hsD hk
     exact ob rfl rfl (st_mul (z := x.mi.hi * b.burn1.hi) hsD (Ev.tmp h24) (Ev.tmp h26) rfl hf rfl (by omega) fun a_1 w_1 h1 => hk _ _ _ _ ⟨rfl, rfl⟩ h1)
   · intro T_ B_ a_ w_ K_ hT hB
     rintro _ _ ⟨rfl, rfl⟩ h21 -
     rintro _ _ ⟨rfl, rfl⟩ h27 -
     intro hf hsD hk
     exact ob rfl rfl (st_sub (z := cl - (x.mi.hi * b.burn1.hi)) hsD (Ev.tmp h21) (Ev.tmp h27) rfl hf rfl (by omega) fun a_1 w_1 h1 => hk _ _ _ _ ⟨rfl, rfl⟩ h1)
   · intro T_ B_ a_ w_ K_ hT hB
     intro hf hsD hk
     exact ob rfl rfl (st_field (o' := 0) hsD (Ev.tmp (hT _ (mem_nth (i := 4) rfl))) rfl hf Tryd.runUnderlying82 rfl Tryd.sizeOf23 rfl rfl fun a_1 w_1 h1 => hk _ _ _ _ ⟨rfl, rfl⟩ h1)
   · intro T_ B_ a_ w_ K_ hT hB
     rintro _ _ ⟨rfl, rfl⟩ h29 -
     intro hf hsD hk
     exact ob rfl rfl (st_field (o' := 1) hsD (Ev.tmp h29) rfl hf Tryd.runUnderlying23 rfl Tryd.sizeOf3 rfl rfl fun a_1 w_1 h1 => hk _ _ _ _ ⟨rfl, rfl⟩ h1)
   · intro T_ B_ a_ w_ K_ hT hB
     rintro _ _ ⟨rfl, rfl⟩ h30 -
     intro hf hsD hk
     exact ob rfl rfl (st_load1 (o := 0) (off := 1) (v := .int .i64 ch) hsD (Ev.tmp h30) rfl hf Tryd.isAgg3 (hsD.cellsM (hB _ (mem_nth (i := 4) rfl))) rfl fun a_1 w_1 h1 => hk _ _ _ _ ⟨rfl, rfl⟩ h1)
   · intro T_ B_ a_ w_ K_ hT hB
     intro hf hsD hk
     exact ob rfl rfl (st_field (o' := 0) hsD (Ev.tmp (hT _ (mem_nth (i := 3) rfl))) rfl hf Tryd.runUnderlying66 rfl Tryd.sizeOf23 rfl rfl fun a_1 w_1 h1 => hk _ _ _ _ ⟨rfl, rfl⟩ h1)
   · intro T_ B_ a_ w_ K_ hT hB
     rintro _ _ ⟨rfl, rfl⟩ h32 -
     intro hf hsD hk
     exact ob rfl rfl (st_field (o' := 0) hsD (Ev.tmp h32) rfl hf Tryd.runUnderlying23 rfl Tryd.sizeOf3 rfl rfl fun a_1 w_1 h1 => hk _ _ _ _ ⟨rfl, rfl⟩ h1)
   · intro T_ B_ a_ w_ K_ hT hB
     rintro _ _ ⟨rfl, rfl⟩ h33 -
     intro hf hsD hk
     exact ob rfl rfl (st_load1 (o := 0) (off := 0) (v := .int .i64 x.mi.lo) hsD (Ev.tmp h33) rfl hf Tryd.isAgg3 (hsD.cellsM (hB _ (mem_nth (i := 3) rfl))) rfl fun a_1 w_1 h1 => hk _ _ _ _ ⟨rfl, rfl⟩ h1)
   · intro T_ B_ a_ w_ K_ hT hB
     intro hf hsD hk
     exact ob rfl rfl (st_field (o' := 0) hsD (Ev.tmp (hT _ (mem_nth (i := 0) rfl))) rfl hf Tryd.runUnderlying23 rfl Tryd.sizeOf3 rfl rfl fun a_1 w_1 h1 => hk _ _ _ _ ⟨rfl, rfl⟩ h1)
   · intro T_ B_ a_ w_ K_ hT hB
     rintro _ _ ⟨rfl, rfl⟩ h35 -
     intro hf hsD hk
     exact ob rfl rfl (st_load1 (o := 0) (off := 0) (v := .int .i64 b.burn1.lo) hsD (Ev.tmp h35) rfl hf Tryd.isAgg3 (hsD.cellsM (hB _ (mem_nth (i := 0) rfl))) rfl fun a_1 w_1 h1 => hk _ _ _ _ ⟨rfl, rfl⟩ h1)
   · intro T_ B_ a_ w_ K_ hT hB
     rintro _ _ ⟨rfl, rfl⟩ h34 -
     rintro _ _ ⟨rfl, rfl⟩ h36 -
     intro hf hsD hk
     exact ob rfl rfl (st_mul (z := x.mi.lo * b.burn1.lo) hsD (Ev.tmp h34) (Ev.tmp h36) rfl hf rfl (by omega) fun a_1 w_1 h1 => hk _ _ _ _ ⟨rfl, rfl⟩ h1)
   · intro T_ B_ a_ w_ K_ hT hB
     rintro _ _ ⟨rfl, rfl⟩ h31 -
     rintro _ _ ⟨rfl, rfl⟩ h37 -
     intro hf hsD hk
     exact ob rfl rfl (st_sub (z := ch - (x.mi.lo * b.burn1.lo)) hsD (Ev.tmp h31) (Ev.tmp h37) rfl hf rfl (by omega) fun a_1 w_1 h1 => hk _ _ _ _ ⟨rfl, rfl⟩ h1)
   · intro T_ B_ a_ w_ K_ hT hB
     rintro _ _ ⟨rfl, rfl⟩ h28 -
     rintro _ _ ⟨rfl, rfl⟩ h38 -
     intro hf hsD hk
     exact ob rfl rfl (st_callv (vs := [.int .i64 (cl - (x.mi.hi * b.burn1.hi)), .int .i64 (ch - (x.mi.lo * b.burn1.lo))]) hsD (.func _) ⟨(Ev.tmp h28), (Ev.tmp h38), trivial⟩ rfl hf Tryd.call40 rfl (S_v (cl - (x.mi.hi * b.burn1.hi)) (ch - (x.mi.lo * b.burn1.lo)) _) fun a_1 w_1 h1 => hk _ _ _ _ ⟨rfl, rfl⟩ h1)
   · intro T_ B_ a_ w_ K_ hT hB
     intro hf hsD hk
     exact ob rfl rfl (st_field (o' := 2) hsD (Ev.tmp (hT _ (mem_nth (i := 4) rfl))) rfl hf Tryd.runUnderlying82 rfl Tryd.sizeOf23 rfl rfl fun a_1 w_1 h1 => hk _ _ _ _ ⟨rfl, rfl⟩ h1)
   · intro T_ B_ a_ w_ K_ hT hB
     rintro _ _ ⟨rfl, rfl⟩ h40 -
     intro hf hsD hk
     exact ob rfl rfl (st_field (o' := 2) hsD (Ev.tmp h40) rfl hf Tryd.runUnderlying23 rfl Tryd.sizeOf3 rfl rfl fun a_1 w_1 h1 => hk _ _ _ _ ⟨rfl, rfl⟩ h1)
   · intro T_ B_ a_ w_ K_ hT hB
     rintro _ _ ⟨rfl, rfl⟩ h41 -
     intro hf hsD hk
     exact ob rfl rfl (st_load1 (o := 0) (off := 2) (v := .int .i64 vl) hsD (Ev.tmp h41) rfl hf Tryd.isAgg3 (hsD.cellsM (hB _ (mem_nth (i := 4) rfl))) rfl fun a_1 w_1 h1 => hk _ _ _ _ ⟨rfl, rfl⟩ h1)
   · intro T_ B_ a_ w_ K_ hT hB
     intro hf hsD hk
     exact ob rfl rfl (st_field (o' := 0) hsD (Ev.tmp (hT _ (mem_nth (i := 3) rfl))) rfl hf Tryd.runUnderlying66 rfl Tryd.sizeOf23 rfl rfl fun a_1 w_1 h1 => hk _ _ _ _ ⟨rfl, rfl⟩ h1)
   · intro T_ B_ a_ w_ K_ hT hB
     rintro _ _ ⟨rfl, rfl⟩ h43 -
     intro hf hsD hk
     exact ob rfl rfl (st_field (o' := 1) hsD (Ev.tmp h43) rfl hf Tryd.runUnderlying23 rfl Tryd.sizeOf3 rfl rfl fun a_1 w_1 h1 => hk _ _ _ _ ⟨rfl, rfl⟩ h1)
   · intro T_ B_ a_ w_ K_ hT hB
     rintro _ _ ⟨rfl, rfl⟩ h44 -
     intro hf hsD hk
     exact ob rfl rfl (st_load1 (o := 0) (off := 1) (v := .int .i64 x.mi.hi) hsD (Ev.tmp h44) rfl hf Tryd.isAgg3 (hsD.cellsM (hB _ (mem_nth (i := 3) rfl))) rfl fun a_1 w_1 h1 => hk _ _ _ _ ⟨rfl, rfl⟩ h1)
   · intro T_ B_ a_ w_ K_ hT hB
     intro hf hsD hk
     exact ob rfl rfl (st_field (o' := 1) hsD (Ev.tmp (hT _ (mem_nth (i := 1) rfl))) rfl hf Tryd.runUnderlying23 rfl Tryd.sizeOf3 rfl rfl fun a_1 w_1 h1 => hk _ _ _ _ ⟨rfl, rfl⟩ h1)
   · intro T_ B_ a_ w_ K_ hT hB
     rintro _ _ ⟨rfl, rfl⟩ h46 -
     intro hf hsD hk
     exact ob rfl rfl (st_load1 (o := 0) (off := 1) (v := .int .i64 b.drink1.hi) hsD (Ev.tmp h46) rfl hf Tryd.isAgg3 (hsD.cellsM (hB _ (mem_nth (i := 1) rfl))) rfl fun a_1 w_1 h1 => hk _ _ _ _ ⟨rfl, rfl⟩ h1)
   · intro T_ B_ a_ w_ K_ hT hB
     rintro _ _ ⟨rfl, rfl⟩ h45 -
     rintro _ _ ⟨rfl, rfl⟩ h47 -
     intro hf hsD hk
     exact ob rfl rfl (st_mul (z := x.mi.hi * b.drink1.hi) hsD (Ev.tmp h45) (Ev.tmp h47) rfl hf rfl (by omega) fun a_1 w_1 h1 => hk _ _ _ _ ⟨rfl, rfl⟩ h1)
   · intro T_ B_ a_ w_ K_ hT hB
     rintro _ _ ⟨rfl, rfl⟩ h42 -
     rintro _ _ ⟨rfl, rfl⟩ h48 -
     intro hf hsD hk
     exact ob rfl rfl (st_sub (z := vl - (x.mi.hi * b.drink1.hi)) hsD (Ev.tmp h42) (Ev.tmp h48) rfl hf rfl (by omega) fun a_1 w_1 h1 => hk _ _ _ _ ⟨rfl, rfl⟩ h1)
   · intro T_ B_ a_ w_ K_ hT hB
     intro hf hsD hk
     exact ob rfl rfl (st_field (o' := 2) hsD (Ev.tmp (hT _ (mem_nth (i := 4) rfl))) rfl hf Tryd.runUnderlying82 rfl Tryd.sizeOf23 rfl rfl fun a_1 w_1 h1 => hk _ _ _ _ ⟨rfl, rfl⟩ h1)
   · intro T_ B_ a_ w_ K_ hT hB
     rintro _ _ ⟨rfl, rfl⟩ h50 -
     intro hf hsD hk
     exact ob rfl rfl (st_field (o' := 3) hsD (Ev.tmp h50) rfl hf Tryd.runUnderlying23 rfl Tryd.sizeOf3 rfl rfl fun a_1 w_1 h1 => hk _ _ _ _ ⟨rfl, rfl⟩ h1)
   · intro T_ B_ a_ w_ K_ hT hB
     rintro _ _ ⟨rfl, rfl⟩ h51 -
     intro hf hsD hk
     exact ob rfl rfl (st_load1 (o := 0) (off := 3) (v := .int .i64 vh) hsD (Ev.tmp h51) rfl hf Tryd.isAgg3 (hsD.cellsM (hB _ (mem_nth (i := 4) rfl))) rfl fun a_1 w_1 h1 => hk _ _ _ _ ⟨rfl, rfl⟩ h1)
   · intro T_ B_ a_ w_ K_ hT hB
     intro hf hsD hk
     exact ob rfl rfl (st_field (o' := 0) hsD (Ev.tmp (hT _ (mem_nth (i := 3) rfl))) rfl hf Tryd.runUnderlying66 rfl Tryd.sizeOf23 rfl rfl fun a_1 w_1 h1 => hk _ _ _ _ ⟨rfl, rfl⟩ h1)
   · intro T_ B_ a_ w_ K_ hT hB
     rintro _ _ ⟨rfl, rfl⟩ h53 -
     intro hf hsD hk
     exact ob rfl rfl (st_field (o' := 0) hsD (Ev.tmp h53) rfl hf Tryd.runUnderlying23 rfl Tryd.sizeOf3 rfl rfl fun a_1 w_1 h1 => hk _ _ _ _ ⟨rfl, rfl⟩ h1)
   · intro T_ B_ a_ w_ K_ hT hB
     rintro _ _ ⟨rfl, rfl⟩ h54 -
     intro hf hsD hk
     exact ob rfl rfl (st_load1 (o := 0) (off := 0) (v := .int .i64 x.mi.lo) hsD (Ev.tmp h54) rfl hf Tryd.isAgg3 (hsD.cellsM (hB _ (mem_nth (i := 3) rfl))) rfl fun a_1 w_1 h1 => hk _ _ _ _ ⟨rfl, rfl⟩ h1)
   · intro T_ B_ a_ w_ K_ hT hB
     intro hf hsD hk
     exact ob rfl rfl (st_field (o' := 0) hsD (Ev.tmp (hT _ (mem_nth (i := 1) rfl))) rfl hf Tryd.runUnderlying23 rfl Tryd.sizeOf3 rfl rfl fun a_1 w_1 h1 => hk _ _ _ _ ⟨rfl, rfl⟩ h1)
   · intro T_ B_ a_ w_ K_ hT hB
     rintro _ _ ⟨rfl, rfl⟩ h56 -
     intro hf hsD hk
     exact ob rfl rfl (st_load1 (o := 0) (off := 0) (v := .int .i64 b.drink1.lo) hsD (Ev.tmp h56) rfl hf Tryd.isAgg3 (hsD.cellsM (hB _ (mem_nth (i := 1) rfl))) rfl fun a_1 w_1 h1 => hk _ _ _ _ ⟨rfl, rfl⟩ h1)
   · intro T_ B_ a_ w_ K_ hT hB
     rintro _ _ ⟨rfl, rfl⟩ h55 -
     rintro _ _ ⟨rfl, rfl⟩ h57 -
     intro hf hsD hk
     exact ob rfl rfl (st_mul (z := x.mi.lo * b.drink1.lo) hsD (Ev.tmp h55) (Ev.tmp h57) rfl hf rfl (by omega) fun a_1 w_1 h1 => hk _ _ _ _ ⟨rfl, rfl⟩ h1)
   · intro T_ B_ a_ w_ K_ hT hB
     rintro _ _ ⟨rfl, rfl⟩ h52 -
     rintro _ _ ⟨rfl, rfl⟩ h58 -
     intro hf hsD hk
     exact ob rfl rfl (st_sub (z := vh - (x.mi.lo * b.drink1.lo)) hsD (Ev.tmp h52) (Ev.tmp h58) rfl hf rfl (by omega) fun a_1 w_1 h1 => hk _ _ _ _ ⟨rfl, rfl⟩ h1)
   · intro T_ B_ a_ w_ K_ hT hB
     rintro _ _ ⟨rfl, rfl⟩ h49 -
     rintro _ _ ⟨rfl, rfl⟩ h59 -
     intro hf hsD hk
     exact ob rfl rfl (st_callv (vs := [.int .i64 (vl - (x.mi.hi * b.drink1.hi)), .int .i64 (vh - (x.mi.lo * b.drink1.lo))]) hsD (.func _) ⟨(Ev.tmp h49), (Ev.tmp h59), trivial⟩ rfl hf Tryd.call40 rfl (S_v (vl - (x.mi.hi * b.drink1.hi)) (vh - (x.mi.lo * b.drink1.lo)) _) fun a_1 w_1 h1 => hk _ _ _ _ ⟨rfl, rfl⟩ h1)
   · intro T_ B_ a_ w_ K_ hT hB
     rintro _ _ ⟨rfl, rfl⟩ h39 -
     rintro _ _ ⟨rfl, rfl⟩ h60 -
     intro hf hsD hk
     exact ob rfl rfl (st_build hsD (qs := [(0, .agg ⟨[.int .i64 (cl - (x.mi.hi * b.burn1.hi)), .int .i64 (ch - (x.mi.lo * b.burn1.lo))]⟩), (1, .agg ⟨[.int .i64 (vl - (x.mi.hi * b.drink1.hi)), .int .i64 (vh - (x.mi.lo * b.drink1.lo))]⟩)]) (v := .agg ⟨[.int .i64 (cl - (x.mi.hi * b.burn1.hi)), .int .i64 (ch - (x.mi.lo * b.burn1.lo)), .int .i64 (vl - (x.mi.hi * b.drink1.hi)), .int .i64 (vh - (x.mi.lo * b.drink1.lo))]⟩) ⟨(Ev.tmp h39), (Ev.tmp h60), trivial⟩ rfl hf rfl (fun _ => by kernel_rfl) fun a_1 w_1 h1 => hk _ _ _ _ ⟨rfl, rfl⟩ h1)
   rintro _ _ ⟨rfl, rfl⟩
   rintro _ _ ⟨rfl, rfl⟩
   rintro _ _ ⟨rfl, rfl⟩
   rintro _ _ ⟨rfl, rfl⟩
   rintro _ _ ⟨rfl, rfl⟩
   rintro _ _ ⟨rfl, rfl⟩
   rintro _ _ ⟨rfl, rfl⟩
   rintro _ _ ⟨rfl, rfl⟩
   rintro _ _ ⟨rfl, rfl⟩
   rintro _ _ ⟨rfl, rfl⟩
   rintro _ _ ⟨rfl, rfl⟩
   rintro _ _ ⟨rfl, rfl⟩
   rintro _ _ ⟨rfl, rfl⟩
   rintro _ _ ⟨rfl, rfl⟩
   rintro _ _ ⟨rfl, rfl⟩
   rintro _ _ ⟨rfl, rfl⟩
   rintro _ _ ⟨rfl, rfl⟩
   rintro _ _ ⟨rfl, rfl⟩
   rintro _ _ ⟨rfl, rfl⟩
   rintro _ _ ⟨rfl, rfl⟩
   rintro _ _ ⟨rfl, rfl⟩
   rintro _ _ ⟨rfl, rfl⟩
   rintro _ _ ⟨rfl, rfl⟩
   rintro _ _ ⟨rfl, rfl⟩
   rintro _ _ ⟨rfl, rfl⟩
   rintro _ _ ⟨rfl, rfl⟩
   rintro _ _ ⟨rfl, rfl⟩
   rintro _ _ ⟨rfl, rfl⟩
   rintro _ _ ⟨rfl, rfl⟩
   rintro _ _ ⟨rfl, rfl⟩
   rintro _ _ ⟨rfl, rfl⟩
   rintro _ _ ⟨rfl, rfl⟩
   rintro _ _ ⟨rfl, rfl⟩
   rintro _ _ ⟨rfl, rfl⟩
   rintro _ _ ⟨rfl, rfl⟩
   rintro _ _ ⟨rfl, rfl⟩
   rintro _ _ ⟨rfl, rfl⟩
   rintro _ _ ⟨rfl, rfl⟩
   rintro _ _ ⟨rfl, rfl⟩
   rintro _ _ ⟨rfl, rfl⟩
   rintro _ _ ⟨rfl, rfl⟩
   rintro _ _ ⟨rfl, rfl⟩
   rintro _ _ ⟨rfl, rfl⟩
   intro a_11 w_11 hs11
   clear hs10
   have hs12 := Sx.as (T' := [_, _, _, _, _, _, _, _, _, _, _, _, _, _, _, _, _, _, _, _, _, _, _, _, _, _, _, _, _, _, _, _, _, _, _, _, _, _, _, _, _, _, _, _, _, _, _, _]) (B' := [_, _, _, _, _, _]) rfl rfl hs11; clear hs11
   refine sq rfl (st_store (l' := [.int .i64 (cl - (x.mi.hi * b.burn1.hi)), .int .i64 (ch - (x.mi.lo * b.burn1.lo)), .int .i64 (vl - (x.mi.hi * b.drink1.hi)), .int .i64 (vh - (x.mi.lo * b.drink1.lo))]) (vs := [.int .i64 (cl - (x.mi.hi * b.burn1.hi)), .int .i64 (ch - (x.mi.lo * b.burn1.lo)), .int .i64 (vl - (x.mi.hi * b.drink1.hi)), .int .i64 (vh - (x.mi.lo * b.drink1.lo))]) (i := 2) hs12 (Ev.t 45 rfl) (Ev.t 42 rfl) Tryd.sizeOf82 rfl rfl rfl rfl rfl rfl fun _ _ hs13 => ?_); clear hs12
   have hs14 := Sx.as (T' := [_, _, _, _, _, _, _, _, _, _, _, _, _, _, _, _, _, _, _, _, _, _, _, _, _, _, _, _, _, _, _, _, _, _, _, _, _, _, _, _, _, _, _, _, _, _, _, _]) (B' := [_, _, _, _, _, _]) rfl rfl hs13; clear hs13
   refine hK18 _ _ ?_; clear hK18
   have hs15 := Sx.keepT [45] [_] ⟨rfl, trivial⟩ hs14; clear hs14
   refine cd_retv (vs := [.agg ⟨[.int .i64 (cl - (x.mi.hi * b.burn1.hi)), .int .i64 (ch - (x.mi.lo * b.burn1.lo)), .int .i64 (vl - (x.mi.hi * b.drink1.hi)), .int .i64 (vh - (x.mi.lo * b.drink1.lo))]⟩]) hs15 hQ0 rfl ⟨resA (o := 0) (off := 0) (vs := [.int .i64 (cl - (x.mi.hi * b.burn1.hi)), .int .i64 (ch - (x.mi.lo * b.burn1.lo)), .int .i64 (vl - (x.mi.hi * b.drink1.hi)), .int .i64 (vh - (x.mi.lo * b.drink1.lo))]) 0 rfl Tryd.isAgg82 Tryd.sizeOf82 (hs15.cells 2 rfl) rfl, trivial⟩ ?_
   clear hs15 hQ0 hN0
   simp [pack, Book.burn, Book.drink, hl]

theorem rfails_v (b : Book) (A : Option Addr) (n cp : Nat) (x : Part) (cl ch vl vh : Int) (w : World) (hb : Bd b) :
    CallsV Tryd.prog 60 [.agg ⟨(bookL b A n cp)⟩, .agg ⟨[.int .i64 cl, .int .i64 ch, .int .i64 vl, .int .i64 vh]⟩, .agg ⟨(partL x)⟩] w (.bool (b.may x cl vl)) := by
 have hwk := hb.wk
 refine enter (N := 39) (M := []) w Tryd.func60 rfl rfl rfl (fun Q0 a_0 hQ0 hN0 hs0 => ?_)
 refine cd_region fun K1 hK1 => ?_
 refine sq rfl (st_box hs0 (Ev.t 0 rfl) rfl rfl rfl fun b2 _ _ hs1 => ?_); clear hs0
 refine sq rfl (st_box hs1 (Ev.t 2 rfl) rfl rfl rfl fun b3 _ _ hs2 => ?_); clear hs1
 refine sq rfl (st_box hs2 (Ev.t 4 rfl) rfl rfl rfl fun b4 _ _ hs3 => ?_); clear hs2
 refine sq rfl (st_assign hs3 (.const _) rfl rfl fun _ _ hs4 => ?_); clear hs3
 refine hK1 _ _ ?_; clear hK1
 have hs5 := Sx.keepT [0, 1, 2, 3] [_, _, _, _] ⟨rfl, rfl, rfl, rfl, trivial⟩ hs4; clear hs4
 refine cd_region fun K5 hK5 => ?_
 refine sq rfl (st_field (o' := 16) hs5 (Ev.t 3 rfl) rfl rfl Tryd.runUnderlying27 rfl Tryd.sizeOf23 rfl rfl fun _ _ hs6 => ?_); clear hs5
 refine sq rfl (st_field (o' := 16) hs6 (Ev.t 0 rfl) rfl rfl Tryd.runUnderlying23 rfl Tryd.sizeOf3 rfl rfl fun _ _ hs7 => ?_); clear hs6
 refine sq rfl (st_load1 (o := 0) (off := 16) (v := .int .i64 b.full.lo) hs7 (Ev.t 0 rfl) rfl rfl Tryd.isAgg3 (hs7.cells 2 rfl) rfl fun _ _ hs8 => ?_); clear hs7
 refine sq rfl (st_field (o' := 21) hs8 (Ev.t 6 rfl) rfl rfl Tryd.runUnderlying27 rfl Tryd.sizeOf3 rfl rfl fun _ _ hs9 => ?_); clear hs8
 refine sq rfl (st_load1 (o := 0) (off := 21) (v := .int .i64 b.lamp) hs9 (Ev.t 0 rfl) rfl rfl Tryd.isAgg3 (hs9.cells 2 rfl) rfl fun _ _ hs10 => ?_); clear hs9
 refine sq rfl (st_cmp (c := decide ((b.full.lo : Int) < b.lamp)) hs10 (Ev.t 2 rfl) (Ev.t 0 rfl) rfl rfl rfl rfl fun _ _ hs11 => ?_); clear hs10
 refine sq rfl (st_move hs11 (Ev.t 0 rfl) rfl rfl fun _ _ hs12 => ?_); clear hs11
 refine sq_gv hs12 (gg := !(decide ((b.full.lo : Int) < b.lamp))) (v := .pointer (some ⟨b3, 2, none⟩)) rfl rfl 0 rfl (ison_f _) rfl rfl rfl (fun hg6 K7 hK7 => st_field (o' := 2) hs12 (Ev.t 9 rfl) rfl rfl Tryd.runUnderlying82 rfl Tryd.sizeOf23 rfl rfl hK7) fun _ _ hs13 => ?_; clear hs12
 refine sq_gv hs13 (gg := !(decide ((b.full.lo : Int) < b.lamp))) (v := .pointer (some ⟨b3, 2, none⟩)) rfl rfl 1 rfl (ison_f _) rfl rfl rfl (fun hg8 K9 hK9 => st_field (o' := 2) hs13 ((Ev.t 0 rfl).un hg8) rfl rfl Tryd.runUnderlying23 rfl Tryd.sizeOf3 rfl rfl hK9) fun _ _ hs14 => ?_; clear hs13
 refine sq_gv hs14 (gg := !(decide ((b.full.lo : Int) < b.lamp))) (v := .int .i64 vl) rfl rfl 2 rfl (ison_f _) rfl rfl rfl (fun hg10 K11 hK11 => st_load1 (o := 0) (off := 2) (v := .int .i64 vl) hs14 ((Ev.t 0 rfl).un hg10) rfl rfl Tryd.isAgg3 (hs14.cells 1 rfl) rfl hK11) fun _ _ hs15 => ?_; clear hs14
 refine sq_gv hs15 (gg := !(decide ((b.full.lo : Int) < b.lamp))) (v := .pointer (some ⟨b2, 20, none⟩)) rfl rfl 3 rfl (ison_f _) rfl rfl rfl (fun hg12 K13 hK13 => st_field (o' := 20) hs15 (Ev.t 13 rfl) rfl rfl Tryd.runUnderlying27 rfl Tryd.sizeOf3 rfl rfl hK13) fun _ _ hs16 => ?_; clear hs15
 refine sq_gv hs16 (gg := !(decide ((b.full.lo : Int) < b.lamp))) (v := .int .i64 b.mark) rfl rfl 4 rfl (ison_f _) rfl rfl rfl (fun hg14 K15 hK15 => st_load1 (o := 0) (off := 20) (v := .int .i64 b.mark) hs16 ((Ev.t 0 rfl).un hg14) rfl rfl Tryd.isAgg3 (hs16.cells 2 rfl) rfl hK15) fun _ _ hs17 => ?_; clear hs16
 refine sq_gv hs17 (gg := !(decide ((b.full.lo : Int) < b.lamp))) (v := .bool (decide ((vl : Int) < b.mark))) rfl rfl 5 rfl (ison_f _) rfl rfl rfl (fun hg16 K17 hK17 => st_cmp (c := decide ((vl : Int) < b.mark)) hs17 ((Ev.t 2 rfl).un hg16) ((Ev.t 0 rfl).un hg16) rfl rfl rfl rfl hK17) fun _ _ hs18 => ?_; clear hs17
 refine sq_gv hs18 (gg := !(decide ((b.full.lo : Int) < b.lamp))) (v := .bool (decide ((vl : Int) < b.mark))) rfl rfl 6 rfl (ison_f _) rfl rfl rfl (fun hg18 K19 hK19 => st_move hs18 ((Ev.t 0 rfl).un hg18) rfl rfl hK19) fun _ _ hs19 => ?_; clear hs18
 refine sq_gv hs19 (gg := (!(decide ((b.full.lo : Int) < b.lamp))) && (decide ((vl : Int) < b.mark))) (v := .pointer (some ⟨b2, 18, none⟩)) rfl rfl 0 rfl (ison_gt _ _) rfl rfl rfl (fun hg20 K21 hK21 => st_field (o' := 18) hs19 (Ev.t 17 rfl) rfl rfl Tryd.runUnderlying27 rfl Tryd.sizeOf23 rfl rfl hK21) fun _ _ hs20 => ?_; clear hs19
 refine sq_gv hs20 (gg := (!(decide ((b.full.lo : Int) < b.lamp))) && (decide ((vl : Int) < b.mark))) (v := .pointer (some ⟨b2, 18, none⟩)) rfl rfl 1 rfl (ison_gt _ _) rfl rfl rfl (fun hg22 K23 hK23 => st_field (o' := 18) hs20 ((Ev.t 0 rfl).un hg22) rfl rfl Tryd.runUnderlying23 rfl Tryd.sizeOf3 rfl rfl hK23) fun _ _ hs21 => ?_; clear hs20
 refine sq_gv hs21 (gg := (!(decide ((b.full.lo : Int) < b.lamp))) && (decide ((vl : Int) < b.mark))) (v := .int .i64 b.weak.lo) rfl rfl 2 rfl (ison_gt _ _) rfl rfl rfl (fun hg24 K25 hK25 => st_load1 (o := 0) (off := 18) (v := .int .i64 b.weak.lo) hs21 ((Ev.t 0 rfl).un hg24) rfl rfl Tryd.isAgg3 (hs21.cells 2 rfl) rfl hK25) fun _ _ hs22 => ?_; clear hs21
 refine sq_gv hs22 (gg := (!(decide ((b.full.lo : Int) < b.lamp))) && (decide ((vl : Int) < b.mark))) (v := .pointer (some ⟨b2, 21, none⟩)) rfl rfl 3 rfl (ison_gt _ _) rfl rfl rfl (fun hg26 K27 hK27 => st_field (o' := 21) hs22 (Ev.t 20 rfl) rfl rfl Tryd.runUnderlying27 rfl Tryd.sizeOf3 rfl rfl hK27) fun _ _ hs23 => ?_; clear hs22
 refine sq_gv hs23 (gg := (!(decide ((b.full.lo : Int) < b.lamp))) && (decide ((vl : Int) < b.mark))) (v := .int .i64 b.lamp) rfl rfl 4 rfl (ison_gt _ _) rfl rfl rfl (fun hg28 K29 hK29 => st_load1 (o := 0) (off := 21) (v := .int .i64 b.lamp) hs23 ((Ev.t 0 rfl).un hg28) rfl rfl Tryd.isAgg3 (hs23.cells 2 rfl) rfl hK29) fun _ _ hs24 => ?_; clear hs23
 refine sq_gv hs24 (gg := (!(decide ((b.full.lo : Int) < b.lamp))) && (decide ((vl : Int) < b.mark))) (v := .bool (decide ((b.weak.lo : Int) < b.lamp))) rfl rfl 5 rfl (ison_gt _ _) rfl rfl rfl (fun hg30 K31 hK31 => st_cmp (c := decide ((b.weak.lo : Int) < b.lamp)) hs24 ((Ev.t 2 rfl).un hg30) ((Ev.t 0 rfl).un hg30) rfl rfl rfl rfl hK31) fun _ _ hs25 => ?_; clear hs24
 refine sq_gv hs25 (gg := !(decide ((b.full.lo : Int) < b.lamp))) (v := .bool ((decide ((vl : Int) < b.mark)) && (decide ((b.weak.lo : Int) < b.lamp)))) rfl rfl 13 rfl (ison_f _) rfl rfl rfl (fun hg32 K33 hK33 => st_and hs25 (gx := !(decide ((b.full.lo : Int) < b.lamp))) (gy := (!(decide ((b.full.lo : Int) < b.lamp))) && (decide ((vl : Int) < b.mark))) (Ev.t 6 rfl) hg32 (Ev.t 0 rfl) (fun h => and_i hg32 h) rfl rfl hK33) fun _ _ hs26 => ?_; clear hs25
 refine sq rfl (st_or hs26 (gx := true) (gy := !(decide ((b.full.lo : Int) < b.lamp))) (Ev.t 14 rfl) rfl (Ev.t 0 rfl) (fun h => (by first | exact absurd h (by decide) | (rw [h]; rfl))) rfl rfl fun _ _ hs27 => ?_); clear hs26
 refine sq rfl (st_assign hs27 (Ev.t 0 rfl) rfl rfl fun _ _ hs28 => ?_); clear hs27
 refine hK5 _ _ ?_; clear hK5
 have hs29 := Sx.keepT [0, 23, 24, 25] [_, _, _, _] ⟨rfl, rfl, rfl, rfl, trivial⟩ hs28; clear hs28
 refine cd_region fun K34 hK34 => ?_
 refine sq rfl (st_loadA (o := 0) (off := 0) (vs := [.int .i64 cl, .int .i64 ch, .int .i64 vl, .int .i64 vh]) hs29 (Ev.t 3 rfl) rfl rfl Tryd.isAgg82 Tryd.sizeOf82 (hs29.cells 1 rfl) rfl fun _ _ hs30 => ?_); clear hs29
 refine sq rfl (st_callv (vs := [.agg ⟨[.int .i64 cl, .int .i64 ch, .int .i64 vl, .int .i64 vh]⟩]) hs30 (.func _) ⟨(Ev.t 0 rfl), trivial⟩ rfl rfl Tryd.call58 rfl (rstands_v cl ch vl vh _) fun _ _ hs31 => ?_); clear hs30
 refine sq rfl (st_move hs31 (Ev.t 0 rfl) rfl rfl fun _ _ hs32 => ?_); clear hs31
 refine sq_gv hs32 (gg := !(decide (cl < 0) || decide (vl < 0))) (v := .pointer (some ⟨b4, 2, none⟩)) rfl rfl 0 rfl (ison_f _) rfl rfl rfl (fun hg35 K36 hK36 => st_field (o' := 2) hs32 (Ev.t 5 rfl) rfl rfl Tryd.runUnderlying66 rfl Tryd.sizeOf4 rfl rfl hK36) fun _ _ hs33 => ?_; clear hs32
 refine sq_gv hs33 (gg := !(decide (cl < 0) || decide (vl < 0))) (v := .bool x.light) rfl rfl 1 rfl (ison_f _) rfl rfl rfl (fun hg37 K38 hK38 => st_load1 (o := 0) (off := 2) (v := .bool x.light) hs33 ((Ev.t 0 rfl).un hg37) rfl rfl Tryd.isAgg4 (hs33.cells 0 rfl) rfl hK38) fun _ _ hs34 => ?_; clear hs33
 refine sq_gv hs34 (gg := !(decide (cl < 0) || decide (vl < 0))) (v := .bool x.light) rfl rfl 2 rfl (ison_f _) rfl rfl rfl (fun hg39 K40 hK40 => st_move hs34 ((Ev.t 0 rfl).un hg39) rfl rfl hK40) fun _ _ hs35 => ?_; clear hs34
 refine sq_gv hs35 (gg := (!(decide (cl < 0) || decide (vl < 0))) && x.light) (v := .bool ((decide ((b.full.lo : Int) < b.lamp)) || ((decide ((vl : Int) < b.mark)) && (decide ((b.weak.lo : Int) < b.lamp))))) rfl rfl 0 rfl (ison_gt _ _) rfl rfl rfl (fun hg41 K42 hK42 => st_move hs35 (Ev.t 6 rfl) rfl rfl hK42) fun _ _ hs36 => ?_; clear hs35
 refine sq_gv hs36 (gg := !(decide (cl < 0) || decide (vl < 0))) (v := .bool (x.light && ((decide ((b.full.lo : Int) < b.lamp)) || ((decide ((vl : Int) < b.mark)) && (decide ((b.weak.lo : Int) < b.lamp)))))) rfl rfl 4 rfl (ison_f _) rfl rfl rfl (fun hg43 K44 hK44 => st_and hs36 (gx := !(decide (cl < 0) || decide (vl < 0))) (gy := (!(decide (cl < 0) || decide (vl < 0))) && x.light) (Ev.t 1 rfl) hg43 (Ev.t 0 rfl) (fun h => and_i hg43 h) rfl rfl hK44) fun _ _ hs37 => ?_; clear hs36
 refine sq rfl (st_or hs37 (gx := true) (gy := !(decide (cl < 0) || decide (vl < 0))) (Ev.t 5 rfl) rfl (Ev.t 0 rfl) (fun h => (by first | exact absurd h (by decide) | (rw [h]; rfl))) rfl rfl fun _ _ hs38 => ?_); clear hs37
 have hs39 := Sx.keepT [0, 1, 2, 3, 4, 5, 6, 7, 8, 9, 11, 12] [_, _, _, _, _, _, _, _, _, _, _, _] ⟨rfl, rfl, rfl, rfl, rfl, rfl, rfl, rfl, rfl, rfl, rfl, rfl, trivial⟩ hs38; clear hs38
 refine sq rfl (st_assign hs39 (Ev.t 0 rfl) rfl rfl fun _ _ hs40 => ?_); clear hs39
 refine hK34 _ _ ?_; clear hK34
 have hs41 := Sx.keepT [0] [_] ⟨rfl, trivial⟩ hs40; clear hs40
 refine cd_retv (vs := [.bool ((decide (cl < 0) || decide (vl < 0)) || (x.light && ((decide ((b.full.lo : Int) < b.lamp)) || ((decide ((vl : Int) < b.mark)) && (decide ((b.weak.lo : Int) < b.lamp))))))]) hs41 hQ0 rfl ⟨.tmp 0 rfl, trivial⟩ ?_
 clear hs41 hQ0 hN0
 show Value.bool _ = Value.bool _
 congr 1
 unfold Book.may
 generalize x.light = l
 rw [Bool.eq_iff_iff]
 rcases l with _ | _ <;> by_cases h1 : vl < b.mark <;> simp [h1] <;> omega
end Go.Proofs.YtdbcedmofoakmaaDoor
