/- The laws of the engine that compare it with the reference: their walks. -/
import Derived.Test.YtdbcedmofoakmaaDoorFa
import Derived.Test.YtdbcedmofoakmaaDoorEm2
set_option maxRecDepth 100000
namespace Go.Proofs.YtdbcedmofoakmaaDoor
open Go Go.Sx Go.Eng
theorem EngineLefts_v (b : Book) (A : Option Addr) (n cp : Nat) (A2 : Option Addr) (m c2 : Nat) (plan : List Walks) (k0 k1 : Int) (w : World) (hP : PartsAt w A n b.parts) (hn : n ≤ 140737488351232) (hL : PlanAt w A2 m plan) (hm : m ≤ 140737488351232) (hG : CellsAt w 0 0 stuffsL) :
    CallsV Tryd.prog 3 [.agg ⟨(bookL b A n cp)⟩, .slice A2 m c2, .agg ⟨[.int .i64 k0, .int .i64 k1]⟩] w (.bool true) := by
 refine enter (N := 76) (M := []) w Tryd.func3 rfl rfl rfl (fun Q0 a_0 hQ0 hN0 hs0 => ?_)
 refine cd_region fun K1 hK1 => ?_
 refine sq rfl (st_box hs0 (Ev.t 0 rfl) rfl rfl rfl fun b2 _ _ hs1 => ?_); clear hs0
 refine sq rfl (st_box hs1 (Ev.t 3 rfl) rfl rfl rfl fun b3 _ _ hs2 => ?_); clear hs1
 refine sq rfl (st_assign hs2 (.const _) rfl rfl fun _ _ hs3 => ?_); clear hs2
 refine hK1 _ _ ?_; clear hK1
 have hs4 := Sx.keepT [0, 1, 2, 4] [_, _, _, _] ⟨rfl, rfl, rfl, rfl, trivial⟩ hs3; clear hs3
 refine cd_region fun K4 hK4 => ?_
 refine sq rfl (st_loadA (o := 0) (off := 0) (vs := (bookL b A n cp)) hs4 (Ev.t 2 rfl) rfl rfl Tryd.isAgg27 Tryd.sizeOf27 (hs4.cells 1 rfl) rfl fun _ _ hs5 => ?_); clear hs4
 refine sq rfl (st_indexArr (o' := 0) hs5 (Ev.t 2 rfl) (.const _) rfl rfl Tryd.runUnderlying29 Tryd.sizeOf3 (by decide) rfl fun _ _ hs6 => ?_); clear hs5
 refine sq rfl (st_load1 (o := 0) (off := 0) (v := .int .i64 k0) hs6 (Ev.t 0 rfl) rfl rfl Tryd.isAgg3 (hs6.cells 0 rfl) rfl fun _ _ hs7 => ?_); clear hs6
 refine sq rfl (st_callv (vs := [.agg ⟨(bookL b A n cp)⟩, .int .i64 k0]) hs7 (.func _) ⟨(Ev.t 2 rfl), (Ev.t 0 rfl), trivial⟩ rfl rfl Tryd.call14 rfl (Current_v b A n cp k0 _ (hP.kp hs7.kp) hn) fun _ _ hs8 => ?_); clear hs7
 refine sq rfl (st_move hs8 (Ev.t 0 rfl) rfl rfl fun _ _ hs9 => ?_); clear hs8
 refine sq rfl (st_extract hs9 (Ev.t 0 rfl) rfl rfl rfl fun _ _ hs10 => ?_); clear hs9
 refine sq rfl (st_extract hs10 (Ev.t 1 rfl) rfl rfl rfl fun _ _ hs11 => ?_); clear hs10
 refine sq rfl (st_alloc hs11 rfl rfl Tryd.zeroValue23 rfl fun b5 _ _ hs12 => ?_); clear hs11
 refine sq rfl (st_store (l' := [.int .i64 ((b.currentR k0).1.lo), .int .i64 ((b.currentR k0).1.hi)]) (vs := [.int .i64 ((b.currentR k0).1.lo), .int .i64 ((b.currentR k0).1.hi)]) (i := 0) hs12 (Ev.t 0 rfl) (Ev.t 2 rfl) Tryd.sizeOf23 rfl rfl rfl rfl rfl rfl fun _ _ hs13 => ?_); clear hs12
 have hs14 := Sx.as (T' := [_, _, _, _, _, _, _, _, _, _, _, _]) (B' := [_, _, _]) rfl rfl hs13; clear hs13
 refine sq rfl (st_assign hs14 (Ev.t 1 rfl) rfl rfl fun _ _ hs15 => ?_); clear hs14
 refine hK4 _ _ ?_; clear hK4
 have hs16 := Sx.keepT [0, 1, 9, 10, 11, 12] [_, _, _, _, _, _] ⟨rfl, rfl, rfl, rfl, rfl, rfl, trivial⟩ hs15; clear hs15
 refine cd_region fun K6 hK6 => ?_
 refine sq rfl (st_loadA (o := 0) (off := 0) (vs := (bookL b A n cp)) hs16 (Ev.t 4 rfl) rfl rfl Tryd.isAgg27 Tryd.sizeOf27 (hs16.cells 2 rfl) rfl fun _ _ hs17 => ?_); clear hs16
 refine sq rfl (st_indexArr (o' := 0) hs17 (Ev.t 4 rfl) (.const _) rfl rfl Tryd.runUnderlying29 Tryd.sizeOf3 (by decide) rfl fun _ _ hs18 => ?_); clear hs17
 refine sq rfl (st_load1 (o := 0) (off := 0) (v := .int .i64 k0) hs18 (Ev.t 0 rfl) rfl rfl Tryd.isAgg3 (hs18.cells 1 rfl) rfl fun _ _ hs19 => ?_); clear hs18
 refine sq rfl (st_callv (vs := [.agg ⟨(bookL b A n cp)⟩, .int .i64 k0]) hs19 (.func _) ⟨(Ev.t 2 rfl), (Ev.t 0 rfl), trivial⟩ rfl rfl Tryd.call15 rfl (rCurrent_v b A n cp k0 _ (hP.kp hs19.kp) hn) fun _ _ hs20 => ?_); clear hs19
 refine sq rfl (st_move hs20 (Ev.t 0 rfl) rfl rfl fun _ _ hs21 => ?_); clear hs20
 refine sq rfl (st_extract hs21 (Ev.t 0 rfl) rfl rfl rfl fun _ _ hs22 => ?_); clear hs21
 refine sq rfl (st_extract hs22 (Ev.t 1 rfl) rfl rfl rfl fun _ _ hs23 => ?_); clear hs22
 refine sq rfl (st_alloc hs23 rfl rfl Tryd.zeroValue23 rfl fun b7 _ _ hs24 => ?_); clear hs23
 refine sq rfl (st_store (l' := [.int .i64 ((b.currentR k0).1.lo), .int .i64 ((b.currentR k0).1.hi)]) (vs := [.int .i64 ((b.currentR k0).1.lo), .int .i64 ((b.currentR k0).1.hi)]) (i := 0) hs24 (Ev.t 0 rfl) (Ev.t 2 rfl) Tryd.sizeOf23 rfl rfl rfl rfl rfl rfl fun _ _ hs25 => ?_); clear hs24
 have hs26 := Sx.as (T' := [_, _, _, _, _, _, _, _, _, _, _, _, _, _]) (B' := [_, _, _, _]) rfl rfl hs25; clear hs25
 refine sq rfl (st_assign hs26 (Ev.t 1 rfl) rfl rfl fun _ _ hs27 => ?_); clear hs26
 refine hK6 _ _ ?_; clear hK6
 have hs28 := Sx.keepT [0, 1, 9, 10, 11, 12, 13, 14] [_, _, _, _, _, _, _, _] ⟨rfl, rfl, rfl, rfl, rfl, rfl, rfl, rfl, trivial⟩ hs27; clear hs27
 refine cd_seq fun K8 hK8 => ?_
 refine cd_drawn mixed hs28 [⟨27, [], Is (.agg ⟨[.int .i64 ((b.currentR k0).1.lo), .int .i64 ((b.currentR k0).1.hi)]⟩)⟩,
      ⟨28, [], Is (.agg ⟨[.int .i64 ((b.currentR k0).1.lo), .int .i64 ((b.currentR k0).1.hi)]⟩)⟩,
      ⟨29, [0, 1], Is (.bool (!((((b.currentR k0).1.lo : Int) == (b.currentR k0).1.lo) && (((b.currentR k0).1.hi : Int) == (b.currentR k0).1.hi))))⟩,
      ⟨30, [2], Is (.bool (!((((b.currentR k0).1.lo : Int) == (b.currentR k0).1.lo) && (((b.currentR k0).1.hi : Int) == (b.currentR k0).1.hi))))⟩,
      ⟨31, [3], Is (Gv (!(!((((b.currentR k0).1.lo : Int) == (b.currentR k0).1.lo) && (((b.currentR k0).1.hi : Int) == (b.currentR k0).1.hi)))) (.int .i64 ((b.currentR k0).2)))⟩,
      ⟨32, [3], Is (Gv (!(!((((b.currentR k0).1.lo : Int) == (b.currentR k0).1.lo) && (((b.currentR k0).1.hi : Int) == (b.currentR k0).1.hi)))) (.int .i64 ((b.currentR k0).2)))⟩,
      ⟨33, [3, 4, 5], Is (Gv (!(!((((b.currentR k0).1.lo : Int) == (b.currentR k0).1.lo) && (((b.currentR k0).1.hi : Int) == (b.currentR k0).1.hi)))) (.bool (((b.currentR k0).2 : Int) != ((b.currentR k0).2))))⟩,
      ⟨34, [3, 6], Is (.bool ((!((((b.currentR k0).1.lo : Int) == (b.currentR k0).1.lo) && (((b.currentR k0).1.hi : Int) == (b.currentR k0).1.hi))) || (((b.currentR k0).2 : Int) != ((b.currentR k0).2))))⟩,
      ⟨35, [7], Is (.bool ((!((((b.currentR k0).1.lo : Int) == (b.currentR k0).1.lo) && (((b.currentR k0).1.hi : Int) == (b.currentR k0).1.hi))) || (((b.currentR k0).2 : Int) != ((b.currentR k0).2))))⟩,
      ⟨36, [8], Is (Gv (!((!((((b.currentR k0).1.lo : Int) == (b.currentR k0).1.lo) && (((b.currentR k0).1.hi : Int) == (b.currentR k0).1.hi))) || (((b.currentR k0).2 : Int) != ((b.currentR k0).2)))) (.agg ⟨(bookL b A n cp)⟩))⟩,
      ⟨37, [8, 9], Is (Gv (!((!((((b.currentR k0).1.lo : Int) == (b.currentR k0).1.lo) && (((b.currentR k0).1.hi : Int) == (b.currentR k0).1.hi))) || (((b.currentR k0).2 : Int) != ((b.currentR k0).2)))) (.int .i64 (if b.ok then 0 else 40)))⟩,
      ⟨38, [8], Is (Gv (!((!((((b.currentR k0).1.lo : Int) == (b.currentR k0).1.lo) && (((b.currentR k0).1.hi : Int) == (b.currentR k0).1.hi))) || (((b.currentR k0).2 : Int) != ((b.currentR k0).2)))) (.agg ⟨(bookL b A n cp)⟩))⟩,
      ⟨39, [8, 11], Is (Gv (!((!((((b.currentR k0).1.lo : Int) == (b.currentR k0).1.lo) && (((b.currentR k0).1.hi : Int) == (b.currentR k0).1.hi))) || (((b.currentR k0).2 : Int) != ((b.currentR k0).2)))) (.int .i64 (if b.ok then 0 else 40)))⟩,
      ⟨40, [8, 10, 12], Is (Gv (!((!((((b.currentR k0).1.lo : Int) == (b.currentR k0).1.lo) && (((b.currentR k0).1.hi : Int) == (b.currentR k0).1.hi))) || (((b.currentR k0).2 : Int) != ((b.currentR k0).2)))) (.bool ((if b.ok then 0 else 40 : Int) != (if b.ok then 0 else 40))))⟩,
      ⟨41, [8, 13], Is (.bool (((!((((b.currentR k0).1.lo : Int) == (b.currentR k0).1.lo) && (((b.currentR k0).1.hi : Int) == (b.currentR k0).1.hi))) || (((b.currentR k0).2 : Int) != ((b.currentR k0).2))) || ((if b.ok then 0 else 40 : Int) != (if b.ok then 0 else 40))))⟩] (by kernel_rfl) (by kernel_rfl) fun K9 hK9 => ⟨⟨?_, ?_, ?_, ?_, ?_, ?_, ?_, ?_, ?_, ?_, ?_, ?_, ?_, ?_, ?_, trivial⟩, ?_⟩
 · intro T_ B_ a_ w_ K_ hT hB
   intro hf hsD hk
   exact ob rfl rfl (st_loadA (o := 0) (off := 0) (vs := [.int .i64 ((b.currentR k0).1.lo), .int .i64 ((b.currentR k0).1.hi)]) hsD (Ev.tmp (hT _ (mem_nth (i := 3) rfl))) rfl hf Tryd.isAgg23 Tryd.sizeOf23 (hsD.cellsM (hB _ (mem_nth (i := 1) rfl))) rfl fun a_1 w_1 h1 => hk _ _ _ _ ⟨rfl, rfl⟩ h1)
 · intro T_ B_ a_ w_ K_ hT hB
   intro hf hsD hk
   exact ob rfl rfl (st_loadA (o := 0) (off := 0) (vs := [.int .i64 ((b.currentR k0).1.lo), .int .i64 ((b.currentR k0).1.hi)]) hsD (Ev.tmp (hT _ (mem_nth (i := 1) rfl))) rfl hf Tryd.isAgg23 Tryd.sizeOf23 (hsD.cellsM (hB _ (mem_nth (i := 0) rfl))) rfl fun a_1 w_1 h1 => hk _ _ _ _ ⟨rfl, rfl⟩ h1)
 · intro T_ B_ a_ w_ K_ hT hB
   rintro _ _ ⟨rfl, rfl⟩ h27 -
   rintro _ _ ⟨rfl, rfl⟩ h28 -
   intro hf hsD hk
   exact ob rfl rfl (st_bin hsD (Ev.tmp h27) (Ev.tmp h28) (run_neq_23 _ _ ((b.currentR k0).1.lo) ((b.currentR k0).1.hi) ((b.currentR k0).1.lo) ((b.currentR k0).1.hi)) rfl hf fun a_1 w_1 h1 => hk _ _ _ _ ⟨rfl, rfl⟩ h1)
 · intro T_ B_ a_ w_ K_ hT hB
   rintro _ _ ⟨rfl, rfl⟩ h29 -
   intro hf hsD hk
   exact ob rfl rfl (st_move hsD (Ev.tmp h29) rfl hf fun a_1 w_1 h1 => hk _ _ _ _ ⟨rfl, rfl⟩ h1)
 · intro T_ B_ a_ w_ K_ hT hB
   rintro _ _ ⟨rfl, rfl⟩ h30 -
   intro hf hsD hk
   exact ob_gv hsD (gg := !(!((((b.currentR k0).1.lo : Int) == (b.currentR k0).1.lo) && (((b.currentR k0).1.hi : Int) == (b.currentR k0).1.hi)))) (v := .int .i64 ((b.currentR k0).2)) rfl rfl rfl h30 (ison_f _) rfl rfl hf (fun hg K1 hK1 => st_move hsD (Ev.tmp (hT _ (mem_nth (i := 2) rfl))) rfl hf hK1) fun a_1 w_1 h1 => hk _ _ _ _ ⟨rfl, rfl⟩ h1
 · intro T_ B_ a_ w_ K_ hT hB
   rintro _ _ ⟨rfl, rfl⟩ h30 -
   intro hf hsD hk
   exact ob_gv hsD (gg := !(!((((b.currentR k0).1.lo : Int) == (b.currentR k0).1.lo) && (((b.currentR k0).1.hi : Int) == (b.currentR k0).1.hi)))) (v := .int .i64 ((b.currentR k0).2)) rfl rfl rfl h30 (ison_f _) rfl rfl hf (fun hg K1 hK1 => st_move hsD (Ev.tmp (hT _ (mem_nth (i := 0) rfl))) rfl hf hK1) fun a_1 w_1 h1 => hk _ _ _ _ ⟨rfl, rfl⟩ h1
 · intro T_ B_ a_ w_ K_ hT hB
   rintro _ _ ⟨rfl, rfl⟩ h30 -
   rintro _ _ ⟨rfl, rfl⟩ h31 -
   rintro _ _ ⟨rfl, rfl⟩ h32 -
   intro hf hsD hk
   exact ob_gv hsD (gg := !(!((((b.currentR k0).1.lo : Int) == (b.currentR k0).1.lo) && (((b.currentR k0).1.hi : Int) == (b.currentR k0).1.hi)))) (v := .bool (((b.currentR k0).2 : Int) != ((b.currentR k0).2))) rfl rfl rfl h30 (ison_f _) rfl rfl hf (fun hg K1 hK1 => st_cmp (c := ((b.currentR k0).2 : Int) != ((b.currentR k0).2)) hsD ((Ev.tmp h31).un hg) ((Ev.tmp h32).un hg) rfl hf rfl rfl hK1) fun a_1 w_1 h1 => hk _ _ _ _ ⟨rfl, rfl⟩ h1
 · intro T_ B_ a_ w_ K_ hT hB
   rintro _ _ ⟨rfl, rfl⟩ h30 -
   rintro _ _ ⟨rfl, rfl⟩ h33 -
   intro hf hsD hk
   exact ob rfl rfl (st_or hsD (gx := true) (gy := !(!((((b.currentR k0).1.lo : Int) == (b.currentR k0).1.lo) && (((b.currentR k0).1.hi : Int) == (b.currentR k0).1.hi)))) (Ev.tmp h30) rfl (Ev.tmp h33) (fun h => (by rw [h]; rfl)) rfl hf fun a_1 w_1 h1 => hk _ _ _ _ ⟨rfl, rfl⟩ h1)
 · intro T_ B_ a_ w_ K_ hT hB
   rintro _ _ ⟨rfl, rfl⟩ h34 -
   intro hf hsD hk
   exact ob rfl rfl (st_move hsD (Ev.tmp h34) rfl hf fun a_1 w_1 h1 => hk _ _ _ _ ⟨rfl, rfl⟩ h1)
 · intro T_ B_ a_ w_ K_ hT hB
   rintro _ _ ⟨rfl, rfl⟩ h35 -
   intro hf hsD hk
   exact ob_gv hsD (gg := !((!((((b.currentR k0).1.lo : Int) == (b.currentR k0).1.lo) && (((b.currentR k0).1.hi : Int) == (b.currentR k0).1.hi))) || (((b.currentR k0).2 : Int) != ((b.currentR k0).2)))) (v := .agg ⟨(bookL b A n cp)⟩) rfl rfl rfl h35 (ison_f _) rfl rfl hf (fun hg K1 hK1 => st_loadA (o := 0) (off := 0) (vs := (bookL b A n cp)) hsD (Ev.tmp (hT _ (mem_nth (i := 6) rfl))) rfl hf Tryd.isAgg27 Tryd.sizeOf27 (hsD.cellsM (hB _ (mem_nth (i := 3) rfl))) rfl hK1) fun a_1 w_1 h1 => hk _ _ _ _ ⟨rfl, rfl⟩ h1
 · intro T_ B_ a_ w_ K_ hT hB
   rintro _ _ ⟨rfl, rfl⟩ h35 -
   rintro _ _ ⟨rfl, rfl⟩ h36 -
   intro hf hsD hk
   exact ob_gv hsD (gg := !((!((((b.currentR k0).1.lo : Int) == (b.currentR k0).1.lo) && (((b.currentR k0).1.hi : Int) == (b.currentR k0).1.hi))) || (((b.currentR k0).2 : Int) != ((b.currentR k0).2)))) (v := .int .i64 (if b.ok then 0 else 40)) rfl rfl rfl h35 (ison_f _) rfl rfl hf (fun hg K1 hK1 => st_callv (vs := [.agg ⟨(bookL b A n cp)⟩]) hsD (.func _) ⟨((Ev.tmp h36).un hg), trivial⟩ rfl hf Tryd.call16 rfl (check_v b A n cp _ (hP.kp hsD.kp) hn) hK1) fun a_1 w_1 h1 => hk _ _ _ _ ⟨rfl, rfl⟩ h1
 · intro T_ B_ a_ w_ K_ hT hB
   rintro _ _ ⟨rfl, rfl⟩ h35 -
   intro hf hsD hk
   exact ob_gv hsD (gg := !((!((((b.currentR k0).1.lo : Int) == (b.currentR k0).1.lo) && (((b.currentR k0).1.hi : Int) == (b.currentR k0).1.hi))) || (((b.currentR k0).2 : Int) != ((b.currentR k0).2)))) (v := .agg ⟨(bookL b A n cp)⟩) rfl rfl rfl h35 (ison_f _) rfl rfl hf (fun hg K1 hK1 => st_loadA (o := 0) (off := 0) (vs := (bookL b A n cp)) hsD (Ev.tmp (hT _ (mem_nth (i := 6) rfl))) rfl hf Tryd.isAgg27 Tryd.sizeOf27 (hsD.cellsM (hB _ (mem_nth (i := 3) rfl))) rfl hK1) fun a_1 w_1 h1 => hk _ _ _ _ ⟨rfl, rfl⟩ h1
 · intro T_ B_ a_ w_ K_ hT hB
   rintro _ _ ⟨rfl, rfl⟩ h35 -
   rintro _ _ ⟨rfl, rfl⟩ h38 -
   intro hf hsD hk
   exact ob_gv hsD (gg := !((!((((b.currentR k0).1.lo : Int) == (b.currentR k0).1.lo) && (((b.currentR k0).1.hi : Int) == (b.currentR k0).1.hi))) || (((b.currentR k0).2 : Int) != ((b.currentR k0).2)))) (v := .int .i64 (if b.ok then 0 else 40)) rfl rfl rfl h35 (ison_f _) rfl rfl hf (fun hg K1 hK1 => st_callv (vs := [.agg ⟨(bookL b A n cp)⟩]) hsD (.func _) ⟨((Ev.tmp h38).un hg), trivial⟩ rfl hf Tryd.call17 rfl (rcheck_v b A n cp _ (hP.kp hsD.kp) hn) hK1) fun a_1 w_1 h1 => hk _ _ _ _ ⟨rfl, rfl⟩ h1
 · intro T_ B_ a_ w_ K_ hT hB
   rintro _ _ ⟨rfl, rfl⟩ h35 -
   rintro _ _ ⟨rfl, rfl⟩ h37 -
   rintro _ _ ⟨rfl, rfl⟩ h39 -
   intro hf hsD hk
   exact ob_gv hsD (gg := !((!((((b.currentR k0).1.lo : Int) == (b.currentR k0).1.lo) && (((b.currentR k0).1.hi : Int) == (b.currentR k0).1.hi))) || (((b.currentR k0).2 : Int) != ((b.currentR k0).2)))) (v := .bool ((if b.ok then 0 else 40 : Int) != (if b.ok then 0 else 40))) rfl rfl rfl h35 (ison_f _) rfl rfl hf (fun hg K1 hK1 => st_cmp (c := (if b.ok then 0 else 40 : Int) != (if b.ok then 0 else 40)) hsD ((Ev.tmp h37).un hg) ((Ev.tmp h39).un hg) rfl hf rfl rfl hK1) fun a_1 w_1 h1 => hk _ _ _ _ ⟨rfl, rfl⟩ h1
 · intro T_ B_ a_ w_ K_ hT hB
   rintro _ _ ⟨rfl, rfl⟩ h35 -
   rintro _ _ ⟨rfl, rfl⟩ h40 -
   intro hf hsD hk
   exact ob rfl rfl (st_or hsD (gx := true) (gy := !((!((((b.currentR k0).1.lo : Int) == (b.currentR k0).1.lo) && (((b.currentR k0).1.hi : Int) == (b.currentR k0).1.hi))) || (((b.currentR k0).2 : Int) != ((b.currentR k0).2)))) (Ev.tmp h35) rfl (Ev.tmp h40) (fun h => (by rw [h]; rfl)) rfl hf fun a_1 w_1 h1 => hk _ _ _ _ ⟨rfl, rfl⟩ h1)
 rintro _ _ ⟨rfl, rfl⟩
 rintro _ _ ⟨rfl, rfl⟩
 rintro _ _ ⟨rfl, rfl⟩
 rintro _ _ ⟨rfl, rfl⟩
 rintro _ _ ⟨rfl, rfl⟩
 rintro _ _ ⟨rfl, rfl⟩
 rintro _ _ ⟨rfl, rfl⟩
 rintro _ _ ⟨rfl, rfl⟩
 rintro _ _ ⟨rfl, rfl⟩
 rintro _ _ ⟨rfl, rfl⟩
 rintro _ _ ⟨rfl, rfl⟩
 rintro _ _ ⟨rfl, rfl⟩
 rintro _ _ ⟨rfl, rfl⟩
 rintro _ _ ⟨rfl, rfl⟩
 rintro _ _ ⟨rfl, rfl⟩
 intro a_29 w_29 hs29
 clear hs28
 have hs30 := Sx.as (T' := [_, _, _, _, _, _, _, _, _, _, _, _, _, _, _, _, _, _, _, _, _, _, _]) (B' := [_, _, _, _]) rfl rfl hs29; clear hs29
 refine hK9 _ _ ?_; clear hK9
 have hs31 := Sx.keepT [14, 16, 18, 19, 20, 21, 22] [_, _, _, _, _, _, _] ⟨rfl, rfl, rfl, rfl, rfl, rfl, rfl, trivial⟩ hs30; clear hs30
 have hc10 : (((!((((b.currentR k0).1.lo : Int) == (b.currentR k0).1.lo) && (((b.currentR k0).1.hi : Int) == (b.currentR k0).1.hi))) || (((b.currentR k0).2 : Int) != ((b.currentR k0).2))) || ((if b.ok then 0 else 40 : Int) != (if b.ok then 0 else 40))) = false := by simp
 refine cd_cond hs31 (Ev.t 0 rfl) (fun h => absurd (hc10.symm.trans h) (by decide)) (fun _ => ?_)
 refine cd_skip ?_
 refine th_norm (hK8 _ _ ?_)
 refine cd_region fun K11 hK11 => ?_
 refine sq rfl (st_loadA (o := 0) (off := 0) (vs := (bookL b A n cp)) hs31 (Ev.t 5 rfl) rfl rfl Tryd.isAgg27 Tryd.sizeOf27 (hs31.cells 3 rfl) rfl fun _ _ hs32 => ?_); clear hs31
 refine sq rfl (st_move hs32 (Ev.t 7 rfl) rfl rfl fun _ _ hs33 => ?_); clear hs32
 refine sq rfl (st_indexArr (o' := 1) hs33 (Ev.t 6 rfl) (.const _) rfl rfl Tryd.runUnderlying29 Tryd.sizeOf3 (by decide) rfl fun _ _ hs34 => ?_); clear hs33
 refine sq rfl (st_load1 (o := 0) (off := 1) (v := .int .i64 k1) hs34 (Ev.t 0 rfl) rfl rfl Tryd.isAgg3 (hs34.cells 2 rfl) rfl fun _ _ hs35 => ?_); clear hs34
 refine sq rfl (st_callv (vs := [.agg ⟨(bookL b A n cp)⟩, .slice A2 m c2, .int .i64 k1]) hs35 (.func _) ⟨(Ev.t 3 rfl), (Ev.t 2 rfl), (Ev.t 0 rfl), trivial⟩ rfl rfl Tryd.call18 rfl (Left_v b A n cp A2 m c2 plan k1 _ (hP.kp hs35.kp) hn (hL.kp hs35.kp) hm (hG.kp hs35.kp (by simp))) fun _ _ hs36 => ?_); clear hs35
 refine sq rfl (st_move hs36 (Ev.t 0 rfl) rfl rfl fun _ _ hs37 => ?_); clear hs36
 refine sq rfl (st_extract hs37 (Ev.t 0 rfl) rfl rfl rfl fun _ _ hs38 => ?_); clear hs37
 refine sq rfl (st_extract hs38 (Ev.t 1 rfl) rfl rfl rfl fun _ _ hs39 => ?_); clear hs38
 refine sq rfl (st_extract hs39 (Ev.t 2 rfl) rfl rfl rfl fun _ _ hs40 => ?_); clear hs39
 refine sq rfl (st_alloc hs40 rfl rfl Tryd.zeroValue23 rfl fun b12 _ _ hs41 => ?_); clear hs40
 refine sq rfl (st_store (l' := [.int .i64 ((b.leftR plan k1).1.lo), .int .i64 ((b.leftR plan k1).1.hi)]) (vs := [.int .i64 ((b.leftR plan k1).1.lo), .int .i64 ((b.leftR plan k1).1.hi)]) (i := 2) hs41 (Ev.t 12 rfl) (Ev.t 3 rfl) Tryd.sizeOf23 rfl rfl rfl rfl rfl rfl fun _ _ hs42 => ?_); clear hs41
 have hs43 := Sx.as (T' := [_, _, _, _, _, _, _, _, _, _, _, _, _, _, _, _, _]) (B' := [_, _, _, _, _]) rfl rfl hs42; clear hs42
 refine sq rfl (st_store (l' := [.int .i64 ((b.leftR plan k1).2.1.lo), .int .i64 ((b.leftR plan k1).2.1.hi)]) (vs := [.int .i64 ((b.leftR plan k1).2.1.lo), .int .i64 ((b.leftR plan k1).2.1.hi)]) (i := 0) hs43 (Ev.t 0 rfl) (Ev.t 2 rfl) Tryd.sizeOf23 rfl rfl rfl rfl rfl rfl fun _ _ hs44 => ?_); clear hs43
 have hs45 := Sx.as (T' := [_, _, _, _, _, _, _, _, _, _, _, _, _, _, _, _, _]) (B' := [_, _, _, _, _]) rfl rfl hs44; clear hs44
 refine sq rfl (st_assign hs45 (Ev.t 1 rfl) rfl rfl fun _ _ hs46 => ?_); clear hs45
 refine hK11 _ _ ?_; clear hK11
 have hs47 := Sx.keepT [0, 1, 12, 13, 14, 15, 16, 17] [_, _, _, _, _, _, _, _] ⟨rfl, rfl, rfl, rfl, rfl, rfl, rfl, rfl, trivial⟩ hs46; clear hs46
 refine cd_region fun K13 hK13 => ?_
 refine sq rfl (st_loadA (o := 0) (off := 0) (vs := (bookL b A n cp)) hs47 (Ev.t 6 rfl) rfl rfl Tryd.isAgg27 Tryd.sizeOf27 (hs47.cells 4 rfl) rfl fun _ _ hs48 => ?_); clear hs47
 refine sq rfl (st_move hs48 (Ev.t 8 rfl) rfl rfl fun _ _ hs49 => ?_); clear hs48
 refine sq rfl (st_indexArr (o' := 1) hs49 (Ev.t 7 rfl) (.const _) rfl rfl Tryd.runUnderlying29 Tryd.sizeOf3 (by decide) rfl fun _ _ hs50 => ?_); clear hs49
 refine sq rfl (st_load1 (o := 0) (off := 1) (v := .int .i64 k1) hs50 (Ev.t 0 rfl) rfl rfl Tryd.isAgg3 (hs50.cells 3 rfl) rfl fun _ _ hs51 => ?_); clear hs50
 refine sq rfl (st_callv (vs := [.agg ⟨(bookL b A n cp)⟩, .slice A2 m c2, .int .i64 k1]) hs51 (.func _) ⟨(Ev.t 3 rfl), (Ev.t 2 rfl), (Ev.t 0 rfl), trivial⟩ rfl rfl Tryd.call19 rfl (rLeft_v b A n cp A2 m c2 plan k1 _ (hP.kp hs51.kp) hn (hL.kp hs51.kp) hm) fun _ _ hs52 => ?_); clear hs51
 refine sq rfl (st_move hs52 (Ev.t 0 rfl) rfl rfl fun _ _ hs53 => ?_); clear hs52
 refine sq rfl (st_extract hs53 (Ev.t 0 rfl) rfl rfl rfl fun _ _ hs54 => ?_); clear hs53
 refine sq rfl (st_extract hs54 (Ev.t 1 rfl) rfl rfl rfl fun _ _ hs55 => ?_); clear hs54
 refine sq rfl (st_extract hs55 (Ev.t 2 rfl) rfl rfl rfl fun _ _ hs56 => ?_); clear hs55
 refine sq rfl (st_alloc hs56 rfl rfl Tryd.zeroValue23 rfl fun b14 _ _ hs57 => ?_); clear hs56
 refine sq rfl (st_store (l' := [.int .i64 ((b.leftR plan k1).1.lo), .int .i64 ((b.leftR plan k1).1.hi)]) (vs := [.int .i64 ((b.leftR plan k1).1.lo), .int .i64 ((b.leftR plan k1).1.hi)]) (i := 2) hs57 (Ev.t 12 rfl) (Ev.t 3 rfl) Tryd.sizeOf23 rfl rfl rfl rfl rfl rfl fun _ _ hs58 => ?_); clear hs57
 have hs59 := Sx.as (T' := [_, _, _, _, _, _, _, _, _, _, _, _, _, _, _, _, _, _]) (B' := [_, _, _, _, _, _]) rfl rfl hs58; clear hs58
 refine sq rfl (st_store (l' := [.int .i64 ((b.leftR plan k1).2.1.lo), .int .i64 ((b.leftR plan k1).2.1.hi)]) (vs := [.int .i64 ((b.leftR plan k1).2.1.lo), .int .i64 ((b.leftR plan k1).2.1.hi)]) (i := 0) hs59 (Ev.t 0 rfl) (Ev.t 2 rfl) Tryd.sizeOf23 rfl rfl rfl rfl rfl rfl fun _ _ hs60 => ?_); clear hs59
 have hs61 := Sx.as (T' := [_, _, _, _, _, _, _, _, _, _, _, _, _, _, _, _, _, _]) (B' := [_, _, _, _, _, _]) rfl rfl hs60; clear hs60
 refine sq rfl (st_assign hs61 (Ev.t 1 rfl) rfl rfl fun _ _ hs62 => ?_); clear hs61
 refine hK13 _ _ ?_; clear hK13
 have hs63 := Sx.keepT [0, 1, 11, 12, 13, 14, 15] [_, _, _, _, _, _, _] ⟨rfl, rfl, rfl, rfl, rfl, rfl, rfl, trivial⟩ hs62; clear hs62
 refine cd_region fun K15 hK15 => ?_
 refine sq rfl (st_loadA (o := 0) (off := 0) (vs := [.int .i64 ((b.leftR plan k1).1.lo), .int .i64 ((b.leftR plan k1).1.hi)]) hs63 (Ev.t 5 rfl) rfl rfl Tryd.isAgg23 Tryd.sizeOf23 (hs63.cells 3 rfl) rfl fun _ _ hs64 => ?_); clear hs63
 refine sq rfl (st_loadA (o := 0) (off := 0) (vs := [.int .i64 ((b.leftR plan k1).1.lo), .int .i64 ((b.leftR plan k1).1.hi)]) hs64 (Ev.t 5 rfl) rfl rfl Tryd.isAgg23 Tryd.sizeOf23 (hs64.cells 2 rfl) rfl fun _ _ hs65 => ?_); clear hs64
 refine sq rfl (st_bin hs65 (Ev.t 1 rfl) (Ev.t 0 rfl) (run_eql_23 _ _ ((b.leftR plan k1).1.lo) ((b.leftR plan k1).1.hi) ((b.leftR plan k1).1.lo) ((b.leftR plan k1).1.hi)) rfl rfl fun _ _ hs66 => ?_); clear hs65
 refine sq rfl (st_move hs66 (Ev.t 0 rfl) rfl rfl fun _ _ hs67 => ?_); clear hs66
 refine sq_gv hs67 (gg := ((((b.leftR plan k1).1.lo : Int) == (b.leftR plan k1).1.lo) && (((b.leftR plan k1).1.hi : Int) == (b.leftR plan k1).1.hi))) (v := .agg ⟨[.int .i64 ((b.leftR plan k1).2.1.lo), .int .i64 ((b.leftR plan k1).2.1.hi)]⟩) rfl rfl 0 rfl (ison_t _) rfl rfl rfl (fun hg16 K17 hK17 => st_loadA (o := 0) (off := 0) (vs := [.int .i64 ((b.leftR plan k1).2.1.lo), .int .i64 ((b.leftR plan k1).2.1.hi)]) hs67 (Ev.t 7 rfl) rfl rfl Tryd.isAgg23 Tryd.sizeOf23 (hs67.cells 1 rfl) rfl hK17) fun _ _ hs68 => ?_; clear hs67
 refine sq_gv hs68 (gg := ((((b.leftR plan k1).1.lo : Int) == (b.leftR plan k1).1.lo) && (((b.leftR plan k1).1.hi : Int) == (b.leftR plan k1).1.hi))) (v := .agg ⟨[.int .i64 ((b.leftR plan k1).2.1.lo), .int .i64 ((b.leftR plan k1).2.1.hi)]⟩) rfl rfl 1 rfl (ison_t _) rfl rfl rfl (fun hg18 K19 hK19 => st_loadA (o := 0) (off := 0) (vs := [.int .i64 ((b.leftR plan k1).2.1.lo), .int .i64 ((b.leftR plan k1).2.1.hi)]) hs68 (Ev.t 6 rfl) rfl rfl Tryd.isAgg23 Tryd.sizeOf23 (hs68.cells 0 rfl) rfl hK19) fun _ _ hs69 => ?_; clear hs68
 refine sq_gv hs69 (gg := ((((b.leftR plan k1).1.lo : Int) == (b.leftR plan k1).1.lo) && (((b.leftR plan k1).1.hi : Int) == (b.leftR plan k1).1.hi))) (v := .bool ((((b.leftR plan k1).2.1.lo : Int) == (b.leftR plan k1).2.1.lo) && (((b.leftR plan k1).2.1.hi : Int) == (b.leftR plan k1).2.1.hi))) rfl rfl 2 rfl (ison_t _) rfl rfl rfl (fun hg20 K21 hK21 => st_bin hs69 ((Ev.t 1 rfl).un hg20) ((Ev.t 0 rfl).un hg20) (run_eql_23 _ _ ((b.leftR plan k1).2.1.lo) ((b.leftR plan k1).2.1.hi) ((b.leftR plan k1).2.1.lo) ((b.leftR plan k1).2.1.hi)) rfl rfl hK21) fun _ _ hs70 => ?_; clear hs69
 refine sq rfl (st_and hs70 (gx := true) (gy := ((((b.leftR plan k1).1.lo : Int) == (b.leftR plan k1).1.lo) && (((b.leftR plan k1).1.hi : Int) == (b.leftR plan k1).1.hi))) (Ev.t 3 rfl) rfl (Ev.t 0 rfl) (fun h => h) rfl rfl fun _ _ hs71 => ?_); clear hs70
 refine sq rfl (st_move hs71 (Ev.t 0 rfl) rfl rfl fun _ _ hs72 => ?_); clear hs71
 refine sq_gv hs72 (gg := ((((b.leftR plan k1).1.lo : Int) == (b.leftR plan k1).1.lo) && (((b.leftR plan k1).1.hi : Int) == (b.leftR plan k1).1.hi)) && ((((b.leftR plan k1).2.1.lo : Int) == (b.leftR plan k1).2.1.lo) && (((b.leftR plan k1).2.1.hi : Int) == (b.leftR plan k1).2.1.hi))) (v := .int .i64 ((b.leftR plan k1).2.2)) rfl rfl 0 rfl (ison_t _) rfl rfl rfl (fun hg22 K23 hK23 => st_move hs72 (Ev.t 11 rfl) rfl rfl hK23) fun _ _ hs73 => ?_; clear hs72
 refine sq_gv hs73 (gg := ((((b.leftR plan k1).1.lo : Int) == (b.leftR plan k1).1.lo) && (((b.leftR plan k1).1.hi : Int) == (b.leftR plan k1).1.hi)) && ((((b.leftR plan k1).2.1.lo : Int) == (b.leftR plan k1).2.1.lo) && (((b.leftR plan k1).2.1.hi : Int) == (b.leftR plan k1).2.1.hi))) (v := .int .i64 ((b.leftR plan k1).2.2)) rfl rfl 1 rfl (ison_t _) rfl rfl rfl (fun hg24 K25 hK25 => st_move hs73 (Ev.t 10 rfl) rfl rfl hK25) fun _ _ hs74 => ?_; clear hs73
 refine sq_gv hs74 (gg := ((((b.leftR plan k1).1.lo : Int) == (b.leftR plan k1).1.lo) && (((b.leftR plan k1).1.hi : Int) == (b.leftR plan k1).1.hi)) && ((((b.leftR plan k1).2.1.lo : Int) == (b.leftR plan k1).2.1.lo) && (((b.leftR plan k1).2.1.hi : Int) == (b.leftR plan k1).2.1.hi))) (v := .bool (((b.leftR plan k1).2.2 : Int) == ((b.leftR plan k1).2.2))) rfl rfl 2 rfl (ison_t _) rfl rfl rfl (fun hg26 K27 hK27 => st_cmp (c := ((b.leftR plan k1).2.2 : Int) == ((b.leftR plan k1).2.2)) hs74 ((Ev.t 1 rfl).un hg26) ((Ev.t 0 rfl).un hg26) rfl rfl rfl rfl hK27) fun _ _ hs75 => ?_; clear hs74
 refine sq rfl (st_and hs75 (gx := true) (gy := ((((b.leftR plan k1).1.lo : Int) == (b.leftR plan k1).1.lo) && (((b.leftR plan k1).1.hi : Int) == (b.leftR plan k1).1.hi)) && ((((b.leftR plan k1).2.1.lo : Int) == (b.leftR plan k1).2.1.lo) && (((b.leftR plan k1).2.1.hi : Int) == (b.leftR plan k1).2.1.hi))) (Ev.t 3 rfl) rfl (Ev.t 0 rfl) (fun h => h) rfl rfl fun _ _ hs76 => ?_); clear hs75
 refine sq rfl (st_move hs76 (Ev.t 0 rfl) rfl rfl fun _ _ hs77 => ?_); clear hs76
 refine sq_gv hs77 (gg := (((((b.leftR plan k1).1.lo : Int) == (b.leftR plan k1).1.lo) && (((b.leftR plan k1).1.hi : Int) == (b.leftR plan k1).1.hi)) && ((((b.leftR plan k1).2.1.lo : Int) == (b.leftR plan k1).2.1.lo) && (((b.leftR plan k1).2.1.hi : Int) == (b.leftR plan k1).2.1.hi))) && (((b.leftR plan k1).2.2 : Int) == ((b.leftR plan k1).2.2))) (v := .bool true) rfl rfl 0 rfl (ison_t _) rfl rfl rfl (fun hg28 K29 hK29 => st_callv (vs := []) hs77 (.func _) trivial rfl rfl Tryd.call20 rfl (fired_v _ (hG.kp hs77.kp (by simp))) hK29) fun _ _ hs78 => ?_; clear hs77
 refine sq rfl (st_and hs78 (gx := true) (gy := (((((b.leftR plan k1).1.lo : Int) == (b.leftR plan k1).1.lo) && (((b.leftR plan k1).1.hi : Int) == (b.leftR plan k1).1.hi)) && ((((b.leftR plan k1).2.1.lo : Int) == (b.leftR plan k1).2.1.lo) && (((b.leftR plan k1).2.1.hi : Int) == (b.leftR plan k1).2.1.hi))) && (((b.leftR plan k1).2.2 : Int) == ((b.leftR plan k1).2.2))) (Ev.t 1 rfl) rfl (Ev.t 0 rfl) (fun h => h) rfl rfl fun _ _ hs79 => ?_); clear hs78
 have hs80 := Sx.keepT [0, 1, 2, 3, 4, 5, 6, 7, 8, 9, 10, 11, 12, 13, 14, 15, 16, 17, 18, 19, 20, 21] [_, _, _, _, _, _, _, _, _, _, _, _, _, _, _, _, _, _, _, _, _, _] ⟨rfl, rfl, rfl, rfl, rfl, rfl, rfl, rfl, rfl, rfl, rfl, rfl, rfl, rfl, rfl, rfl, rfl, rfl, rfl, rfl, rfl, rfl, trivial⟩ hs79; clear hs79
 refine sq rfl (st_assign hs80 (Ev.t 0 rfl) rfl rfl fun _ _ hs81 => ?_); clear hs80
 refine hK15 _ _ ?_; clear hK15
 have hs82 := Sx.keepT [0] [_] ⟨rfl, trivial⟩ hs81; clear hs81
 refine cd_retv (vs := [.bool (((((((b.leftR plan k1).1.lo : Int) == (b.leftR plan k1).1.lo) && (((b.leftR plan k1).1.hi : Int) == (b.leftR plan k1).1.hi)) && ((((b.leftR plan k1).2.1.lo : Int) == (b.leftR plan k1).2.1.lo) && (((b.leftR plan k1).2.1.hi : Int) == (b.leftR plan k1).2.1.hi))) && (((b.leftR plan k1).2.2 : Int) == ((b.leftR plan k1).2.2))) && true)]) hs82 hQ0 rfl ⟨.tmp 0 rfl, trivial⟩ ?_
 clear hs82 hQ0 hN0
 simp [pack]

theorem EngineLongs_v (b : Book) (A : Option Addr) (n cp : Nat) (k : Int) (w : World) (hP : PartsAt w A n b.parts) (hn : n ≤ 140737488351232) (hG : CellsAt w 0 0 stuffsL) (hcp : n ≤ cp) :
    CallsV Tryd.prog 5 [.agg ⟨(bookL b A n cp)⟩, .int .i64 k] w (.bool true) := by
 refine enter (N := 68) (M := []) w Tryd.func5 rfl rfl rfl (fun Q0 a_0 hQ0 hN0 hs0 => ?_)
 refine cd_region fun K1 hK1 => ?_
 refine sq rfl (st_box hs0 (Ev.t 0 rfl) rfl rfl rfl fun b2 _ _ hs1 => ?_); clear hs0
 refine sq rfl (st_assign hs1 (.const _) rfl rfl fun _ _ hs2 => ?_); clear hs1
 refine hK1 _ _ ?_; clear hK1
 have hs3 := Sx.keepT [0, 1, 3] [_, _, _] ⟨rfl, rfl, rfl, trivial⟩ hs2; clear hs2
 refine cd_region fun K3 hK3 => ?_
 refine sq rfl (st_loadA (o := 0) (off := 0) (vs := (bookL b A n cp)) hs3 (Ev.t 1 rfl) rfl rfl Tryd.isAgg27 Tryd.sizeOf27 (hs3.cells 0 rfl) rfl fun _ _ hs4 => ?_); clear hs3
 refine sq rfl (st_callv (vs := [.agg ⟨(bookL b A n cp)⟩]) hs4 (.func _) ⟨(Ev.t 0 rfl), trivial⟩ rfl rfl Tryd.call26 rfl (Parts_v b A n cp _ (hP.kp hs4.kp) hn (hG.kp hs4.kp (by simp)) hcp) fun _ _ hs5 => ?_); clear hs4
 refine sq rfl (st_move hs5 (Ev.t 0 rfl) rfl rfl fun _ _ hs6 => ?_); clear hs5
 refine sq rfl (st_extract hs6 (Ev.t 0 rfl) rfl rfl rfl fun _ _ hs7 => ?_); clear hs6
 refine sq rfl (st_extract hs7 (Ev.t 1 rfl) rfl rfl rfl fun _ _ hs8 => ?_); clear hs7
 refine sq rfl (st_assign hs8 (Ev.t 1 rfl) rfl rfl fun _ _ hs9 => ?_); clear hs8
 refine sq rfl (st_assign hs9 (Ev.t 1 rfl) rfl rfl fun _ _ hs10 => ?_); clear hs9
 refine hK3 _ _ ?_; clear hK3
 have hs11 := Sx.keepT [0, 1, 7, 8, 9] [_, _, _, _, _] ⟨rfl, rfl, rfl, rfl, rfl, trivial⟩ hs10; clear hs10
 refine cd_region fun K4 hK4 => ?_
 refine sq rfl (st_loadA (o := 0) (off := 0) (vs := (bookL b A n cp)) hs11 (Ev.t 3 rfl) rfl rfl Tryd.isAgg27 Tryd.sizeOf27 (hs11.cells 0 rfl) rfl fun _ _ hs12 => ?_); clear hs11
 refine sq rfl (st_callv (vs := [.agg ⟨(bookL b A n cp)⟩]) hs12 (.func _) ⟨(Ev.t 0 rfl), trivial⟩ rfl rfl Tryd.call27 rfl (rParts_v b A n cp _ (hP.kp hs12.kp) hn hcp) fun _ _ hs13 => ?_); clear hs12
 refine sq rfl (st_move hs13 (Ev.t 0 rfl) rfl rfl fun _ _ hs14 => ?_); clear hs13
 refine sq rfl (st_extract hs14 (Ev.t 0 rfl) rfl rfl rfl fun _ _ hs15 => ?_); clear hs14
 refine sq rfl (st_extract hs15 (Ev.t 1 rfl) rfl rfl rfl fun _ _ hs16 => ?_); clear hs15
 refine sq rfl (st_assign hs16 (Ev.t 1 rfl) rfl rfl fun _ _ hs17 => ?_); clear hs16
 refine sq rfl (st_assign hs17 (Ev.t 1 rfl) rfl rfl fun _ _ hs18 => ?_); clear hs17
 refine hK4 _ _ ?_; clear hK4
 have hs19 := Sx.keepT [0, 1, 7, 8, 9, 10, 11] [_, _, _, _, _, _, _] ⟨rfl, rfl, rfl, rfl, rfl, rfl, rfl, trivial⟩ hs18; clear hs18
 refine cd_seq fun K5 hK5 => ?_
 refine cd_region fun K6 hK6 => ?_
 refine sq rfl (st_move hs19 (Ev.t 3 rfl) rfl rfl fun _ _ hs20 => ?_); clear hs19
 refine sq rfl (st_move hs20 (Ev.t 2 rfl) rfl rfl fun _ _ hs21 => ?_); clear hs20
 refine sq rfl (st_cmp (c := ((b.partsR).1 : Int) != ((b.partsR).1)) hs21 (Ev.t 1 rfl) (Ev.t 0 rfl) rfl rfl rfl rfl fun _ _ hs22 => ?_); clear hs21
 refine sq rfl (st_move hs22 (Ev.t 0 rfl) rfl rfl fun _ _ hs23 => ?_); clear hs22
 refine sq_gv hs23 (gg := !(((b.partsR).1 : Int) != ((b.partsR).1))) (v := .int .i64 ((b.partsR).2)) rfl rfl 0 rfl (ison_f _) rfl rfl rfl (fun hg7 K8 hK8 => st_move hs23 (Ev.t 6 rfl) rfl rfl hK8) fun _ _ hs24 => ?_; clear hs23
 refine sq_gv hs24 (gg := !(((b.partsR).1 : Int) != ((b.partsR).1))) (v := .int .i64 ((b.partsR).2)) rfl rfl 1 rfl (ison_f _) rfl rfl rfl (fun hg9 K10 hK10 => st_move hs24 (Ev.t 5 rfl) rfl rfl hK10) fun _ _ hs25 => ?_; clear hs24
 refine sq_gv hs25 (gg := !(((b.partsR).1 : Int) != ((b.partsR).1))) (v := .bool (((b.partsR).2 : Int) != ((b.partsR).2))) rfl rfl 2 rfl (ison_f _) rfl rfl rfl (fun hg11 K12 hK12 => st_cmp (c := ((b.partsR).2 : Int) != ((b.partsR).2)) hs25 ((Ev.t 1 rfl).un hg11) ((Ev.t 0 rfl).un hg11) rfl rfl rfl rfl hK12) fun _ _ hs26 => ?_; clear hs25
 refine sq rfl (st_or hs26 (gx := true) (gy := !(((b.partsR).1 : Int) != ((b.partsR).1))) (Ev.t 3 rfl) rfl (Ev.t 0 rfl) (fun h => (by rw [h]; rfl)) rfl rfl fun _ _ hs27 => ?_); clear hs26
 refine hK6 _ _ ?_; clear hK6
 have hs28 := Sx.keepT [0, 12, 13, 14] [_, _, _, _] ⟨rfl, rfl, rfl, rfl, trivial⟩ hs27; clear hs27
 have hc13 : ((((b.partsR).1 : Int) != ((b.partsR).1)) || (((b.partsR).2 : Int) != ((b.partsR).2))) = false := by simp
 refine cd_cond hs28 (Ev.t 0 rfl) (fun h => absurd (hc13.symm.trans h) (by decide)) (fun _ => ?_)
 refine cd_skip ?_
 refine th_norm (hK5 _ _ ?_)
 refine cd_region fun K14 hK14 => ?_
 refine sq rfl (st_loadA (o := 0) (off := 0) (vs := (bookL b A n cp)) hs28 (Ev.t 2 rfl) rfl rfl Tryd.isAgg27 Tryd.sizeOf27 (hs28.cells 0 rfl) rfl fun _ _ hs29 => ?_); clear hs28
 refine sq rfl (st_move hs29 (Ev.t 4 rfl) rfl rfl fun _ _ hs30 => ?_); clear hs29
 refine sq rfl (st_callv (vs := [.agg ⟨(bookL b A n cp)⟩, .int .i64 k]) hs30 (.func _) ⟨(Ev.t 1 rfl), (Ev.t 0 rfl), trivial⟩ rfl rfl Tryd.call28 rfl (Longer_v b A n cp k _ (hP.kp hs30.kp) hn (hG.kp hs30.kp (by simp))) fun _ _ hs31 => ?_); clear hs30
 refine sq rfl (st_move hs31 (Ev.t 0 rfl) rfl rfl fun _ _ hs32 => ?_); clear hs31
 refine sq rfl (st_extract hs32 (Ev.t 0 rfl) rfl rfl rfl fun _ _ hs33 => ?_); clear hs32
 refine sq rfl (st_extract hs33 (Ev.t 1 rfl) rfl rfl rfl fun _ _ hs34 => ?_); clear hs33
 refine sq rfl (st_assign hs34 (Ev.t 1 rfl) rfl rfl fun _ _ hs35 => ?_); clear hs34
 refine sq rfl (st_assign hs35 (Ev.t 1 rfl) rfl rfl fun _ _ hs36 => ?_); clear hs35
 refine hK14 _ _ ?_; clear hK14
 have hs37 := Sx.keepT [0, 1, 9, 10, 11] [_, _, _, _, _] ⟨rfl, rfl, rfl, rfl, rfl, trivial⟩ hs36; clear hs36
 refine cd_region fun K15 hK15 => ?_
 refine sq rfl (st_loadA (o := 0) (off := 0) (vs := (bookL b A n cp)) hs37 (Ev.t 3 rfl) rfl rfl Tryd.isAgg27 Tryd.sizeOf27 (hs37.cells 0 rfl) rfl fun _ _ hs38 => ?_); clear hs37
 refine sq rfl (st_move hs38 (Ev.t 5 rfl) rfl rfl fun _ _ hs39 => ?_); clear hs38
 refine sq rfl (st_callv (vs := [.agg ⟨(bookL b A n cp)⟩, .int .i64 k]) hs39 (.func _) ⟨(Ev.t 1 rfl), (Ev.t 0 rfl), trivial⟩ rfl rfl Tryd.call29 rfl (rLonger_v b A n cp k _ (hP.kp hs39.kp) hn) fun _ _ hs40 => ?_); clear hs39
 refine sq rfl (st_move hs40 (Ev.t 0 rfl) rfl rfl fun _ _ hs41 => ?_); clear hs40
 refine sq rfl (st_extract hs41 (Ev.t 0 rfl) rfl rfl rfl fun _ _ hs42 => ?_); clear hs41
 refine sq rfl (st_extract hs42 (Ev.t 1 rfl) rfl rfl rfl fun _ _ hs43 => ?_); clear hs42
 refine sq rfl (st_assign hs43 (Ev.t 1 rfl) rfl rfl fun _ _ hs44 => ?_); clear hs43
 refine sq rfl (st_assign hs44 (Ev.t 1 rfl) rfl rfl fun _ _ hs45 => ?_); clear hs44
 refine hK15 _ _ ?_; clear hK15
 have hs46 := Sx.keepT [0, 1, 8, 9, 10, 11] [_, _, _, _, _, _] ⟨rfl, rfl, rfl, rfl, rfl, rfl, trivial⟩ hs45; clear hs45
 refine cd_seq fun K16 hK16 => ?_
 refine cd_region fun K17 hK17 => ?_
 refine sq rfl (st_move hs46 (Ev.t 3 rfl) rfl rfl fun _ _ hs47 => ?_); clear hs46
 refine sq rfl (st_move hs47 (Ev.t 2 rfl) rfl rfl fun _ _ hs48 => ?_); clear hs47
 refine sq rfl (st_cmp (c := ((b.longerR k).1 : Int) != ((b.longerR k).1)) hs48 (Ev.t 1 rfl) (Ev.t 0 rfl) rfl rfl rfl rfl fun _ _ hs49 => ?_); clear hs48
 refine sq rfl (st_move hs49 (Ev.t 0 rfl) rfl rfl fun _ _ hs50 => ?_); clear hs49
 refine sq_gv hs50 (gg := !(((b.longerR k).1 : Int) != ((b.longerR k).1))) (v := .int .i64 ((b.longerR k).2)) rfl rfl 0 rfl (ison_f _) rfl rfl rfl (fun hg18 K19 hK19 => st_move hs50 (Ev.t 6 rfl) rfl rfl hK19) fun _ _ hs51 => ?_; clear hs50
 refine sq_gv hs51 (gg := !(((b.longerR k).1 : Int) != ((b.longerR k).1))) (v := .int .i64 ((b.longerR k).2)) rfl rfl 1 rfl (ison_f _) rfl rfl rfl (fun hg20 K21 hK21 => st_move hs51 (Ev.t 5 rfl) rfl rfl hK21) fun _ _ hs52 => ?_; clear hs51
 refine sq_gv hs52 (gg := !(((b.longerR k).1 : Int) != ((b.longerR k).1))) (v := .bool (((b.longerR k).2 : Int) != ((b.longerR k).2))) rfl rfl 2 rfl (ison_f _) rfl rfl rfl (fun hg22 K23 hK23 => st_cmp (c := ((b.longerR k).2 : Int) != ((b.longerR k).2)) hs52 ((Ev.t 1 rfl).un hg22) ((Ev.t 0 rfl).un hg22) rfl rfl rfl rfl hK23) fun _ _ hs53 => ?_; clear hs52
 refine sq rfl (st_or hs53 (gx := true) (gy := !(((b.longerR k).1 : Int) != ((b.longerR k).1))) (Ev.t 3 rfl) rfl (Ev.t 0 rfl) (fun h => (by rw [h]; rfl)) rfl rfl fun _ _ hs54 => ?_); clear hs53
 refine hK17 _ _ ?_; clear hK17
 have hs55 := Sx.keepT [0, 12, 13] [_, _, _] ⟨rfl, rfl, rfl, trivial⟩ hs54; clear hs54
 have hc24 : ((((b.longerR k).1 : Int) != ((b.longerR k).1)) || (((b.longerR k).2 : Int) != ((b.longerR k).2))) = false := by simp
 refine cd_cond hs55 (Ev.t 0 rfl) (fun h => absurd (hc24.symm.trans h) (by decide)) (fun _ => ?_)
 refine cd_skip ?_
 refine th_norm (hK16 _ _ ?_)
 refine cd_region fun K25 hK25 => ?_
 refine sq rfl (st_loadA (o := 0) (off := 0) (vs := (bookL b A n cp)) hs55 (Ev.t 2 rfl) rfl rfl Tryd.isAgg27 Tryd.sizeOf27 (hs55.cells 0 rfl) rfl fun _ _ hs56 => ?_); clear hs55
 refine sq rfl (st_callv (vs := [.agg ⟨(bookL b A n cp)⟩]) hs56 (.func _) ⟨(Ev.t 0 rfl), trivial⟩ rfl rfl Tryd.call30 rfl (Coal_v b A n cp _ (hP.kp hs56.kp) hn (hG.kp hs56.kp (by simp))) fun _ _ hs57 => ?_); clear hs56
 refine sq rfl (st_move hs57 (Ev.t 0 rfl) rfl rfl fun _ _ hs58 => ?_); clear hs57
 refine sq rfl (st_extract hs58 (Ev.t 0 rfl) rfl rfl rfl fun _ _ hs59 => ?_); clear hs58
 refine sq rfl (st_extract hs59 (Ev.t 1 rfl) rfl rfl rfl fun _ _ hs60 => ?_); clear hs59
 refine sq rfl (st_assign hs60 (Ev.t 1 rfl) rfl rfl fun _ _ hs61 => ?_); clear hs60
 refine sq rfl (st_assign hs61 (Ev.t 1 rfl) rfl rfl fun _ _ hs62 => ?_); clear hs61
 refine hK25 _ _ ?_; clear hK25
 have hs63 := Sx.keepT [0, 1, 8, 9] [_, _, _, _] ⟨rfl, rfl, rfl, rfl, trivial⟩ hs62; clear hs62
 refine cd_region fun K26 hK26 => ?_
 refine sq rfl (st_loadA (o := 0) (off := 0) (vs := (bookL b A n cp)) hs63 (Ev.t 3 rfl) rfl rfl Tryd.isAgg27 Tryd.sizeOf27 (hs63.cells 0 rfl) rfl fun _ _ hs64 => ?_); clear hs63
 refine sq rfl (st_callv (vs := [.agg ⟨(bookL b A n cp)⟩]) hs64 (.func _) ⟨(Ev.t 0 rfl), trivial⟩ rfl rfl Tryd.call31 rfl (rCoal_v b A n cp _ (hP.kp hs64.kp) hn) fun _ _ hs65 => ?_); clear hs64
 refine sq rfl (st_move hs65 (Ev.t 0 rfl) rfl rfl fun _ _ hs66 => ?_); clear hs65
 refine sq rfl (st_extract hs66 (Ev.t 0 rfl) rfl rfl rfl fun _ _ hs67 => ?_); clear hs66
 refine sq rfl (st_extract hs67 (Ev.t 1 rfl) rfl rfl rfl fun _ _ hs68 => ?_); clear hs67
 refine sq rfl (st_assign hs68 (Ev.t 1 rfl) rfl rfl fun _ _ hs69 => ?_); clear hs68
 refine sq rfl (st_assign hs69 (Ev.t 1 rfl) rfl rfl fun _ _ hs70 => ?_); clear hs69
 refine hK26 _ _ ?_; clear hK26
 have hs71 := Sx.keepT [0, 1, 7, 8, 9] [_, _, _, _, _] ⟨rfl, rfl, rfl, rfl, rfl, trivial⟩ hs70; clear hs70
 refine cd_region fun K27 hK27 => ?_
 refine sq rfl (st_move hs71 (Ev.t 3 rfl) rfl rfl fun _ _ hs72 => ?_); clear hs71
 refine sq rfl (st_move hs72 (Ev.t 2 rfl) rfl rfl fun _ _ hs73 => ?_); clear hs72
 refine sq rfl (st_cmp (c := ((b.coalR).1 : Int) == ((b.coalR).1)) hs73 (Ev.t 1 rfl) (Ev.t 0 rfl) rfl rfl rfl rfl fun _ _ hs74 => ?_); clear hs73
 refine sq rfl (st_move hs74 (Ev.t 0 rfl) rfl rfl fun _ _ hs75 => ?_); clear hs74
 refine sq_gv hs75 (gg := ((b.coalR).1 : Int) == ((b.coalR).1)) (v := .int .i64 ((b.coalR).2)) rfl rfl 0 rfl (ison_t _) rfl rfl rfl (fun hg28 K29 hK29 => st_move hs75 (Ev.t 6 rfl) rfl rfl hK29) fun _ _ hs76 => ?_; clear hs75
 refine sq_gv hs76 (gg := ((b.coalR).1 : Int) == ((b.coalR).1)) (v := .int .i64 ((b.coalR).2)) rfl rfl 1 rfl (ison_t _) rfl rfl rfl (fun hg30 K31 hK31 => st_move hs76 (Ev.t 5 rfl) rfl rfl hK31) fun _ _ hs77 => ?_; clear hs76
 refine sq_gv hs77 (gg := ((b.coalR).1 : Int) == ((b.coalR).1)) (v := .bool (((b.coalR).2 : Int) == ((b.coalR).2))) rfl rfl 2 rfl (ison_t _) rfl rfl rfl (fun hg32 K33 hK33 => st_cmp (c := ((b.coalR).2 : Int) == ((b.coalR).2)) hs77 ((Ev.t 1 rfl).un hg32) ((Ev.t 0 rfl).un hg32) rfl rfl rfl rfl hK33) fun _ _ hs78 => ?_; clear hs77
 refine sq rfl (st_and hs78 (gx := true) (gy := ((b.coalR).1 : Int) == ((b.coalR).1)) (Ev.t 3 rfl) rfl (Ev.t 0 rfl) (fun h => h) rfl rfl fun _ _ hs79 => ?_); clear hs78
 refine sq rfl (st_move hs79 (Ev.t 0 rfl) rfl rfl fun _ _ hs80 => ?_); clear hs79
 refine sq_gv hs80 (gg := (((b.coalR).1 : Int) == ((b.coalR).1)) && (((b.coalR).2 : Int) == ((b.coalR).2))) (v := .bool true) rfl rfl 0 rfl (ison_t _) rfl rfl rfl (fun hg34 K35 hK35 => st_callv (vs := []) hs80 (.func _) trivial rfl rfl Tryd.call20 rfl (fired_v _ (hG.kp hs80.kp (by simp))) hK35) fun _ _ hs81 => ?_; clear hs80
 refine sq rfl (st_and hs81 (gx := true) (gy := (((b.coalR).1 : Int) == ((b.coalR).1)) && (((b.coalR).2 : Int) == ((b.coalR).2))) (Ev.t 1 rfl) rfl (Ev.t 0 rfl) (fun h => h) rfl rfl fun _ _ hs82 => ?_); clear hs81
 have hs83 := Sx.keepT [0, 1, 2, 3, 4, 5, 6, 7, 8, 9, 10, 11, 12, 13, 14] [_, _, _, _, _, _, _, _, _, _, _, _, _, _, _] ⟨rfl, rfl, rfl, rfl, rfl, rfl, rfl, rfl, rfl, rfl, rfl, rfl, rfl, rfl, rfl, trivial⟩ hs82; clear hs82
 refine sq rfl (st_assign hs83 (Ev.t 0 rfl) rfl rfl fun _ _ hs84 => ?_); clear hs83
 refine hK27 _ _ ?_; clear hK27
 have hs85 := Sx.keepT [0] [_] ⟨rfl, trivial⟩ hs84; clear hs84
 refine cd_retv (vs := [.bool (((((b.coalR).1 : Int) == ((b.coalR).1)) && (((b.coalR).2 : Int) == ((b.coalR).2))) && true)]) hs85 hQ0 rfl ⟨.tmp 0 rfl, trivial⟩ ?_
 clear hs85 hQ0 hN0
 simp [pack]
end Go.Proofs.YtdbcedmofoakmaaDoor
