/- The law TillTruths: its walk. -/
import Derived.Test.YtcnndpedeofbmaaDoorUl
import Derived.Test.YtcnndpedeofbmaaDoorRb
set_option maxRecDepth 100000
namespace Go.Proofs.YtcnndpedeofbmaaDoor
open Go Go.Sx Go.Till Go.Proofs.Tryd
theorem TillTruths_v (b : Bx) (A : Option Addr) (n cp : Nat) (A2 : Option Addr) (n2 c2 : Nat) (A4 : Option Addr) (n4 c4 : Nat) (xs : List Int) (w : World) (hP : RollsAt w A n b.rolls) (hn : n ≤ 140737488351232) (hF : SpsAt w A2 n2 b.free) (hn2 : n2 ≤ 140737488351232) (hX : IntsAt w A4 n4 xs) (hn4 : n4 ≤ 140737488351232) (hG : CellsAt w 0 0 partsL) :
    CallsV Tryd.prog 5 [.agg ⟨(bxL b A n cp A2 n2 c2)⟩, .slice A4 n4 c4] w (.bool true) := by
 refine enter (N := 77) (M := []) w func5 rfl rfl rfl (fun Q0 a_0 hQ0 hN0 hs0 => ?_)
 refine cd_region fun K1 hK1 => ?_
 refine sq rfl (st_box hs0 (Ev.t 0 rfl) rfl rfl rfl fun b2 _ _ hs1 => ?_); clear hs0
 refine sq rfl (st_assign hs1 (.const _) rfl rfl fun _ _ hs2 => ?_); clear hs1
 refine hK1 _ _ ?_; clear hK1
 have hs3 := hs2.keep [0, 1, 3] [_, _, _] rfl; clear hs2
 refine cd_region fun K3 hK3 => ?_
 refine sq rfl (st_loadA (o := 0) (off := 0) (vs := (bxL b A n cp A2 n2 c2)) hs3 (Ev.t 1 rfl) rfl rfl isAgg25 sizeOf25 (hs3.cells 0 rfl) rfl fun _ _ hs4 => ?_); clear hs3
 refine sq rfl (st_move hs4 (Ev.t 3 rfl) rfl rfl fun _ _ hs5 => ?_); clear hs4
 refine sq rfl (st_callv (vs := [.agg ⟨(bxL b A n cp A2 n2 c2)⟩, .slice A4 n4 c4]) hs5 (.func _) ⟨(Ev.t 1 rfl), (Ev.t 0 rfl), trivial⟩ rfl rfl call24 rfl (IsTruth_v b A n cp A2 n2 c2 A4 n4 c4 xs _ (hP.kp hs5.kp) hn (hF.kp hs5.kp) hn2 (hX.kp hs5.kp) hn4) fun _ _ hs6 => ?_); clear hs5
 refine sq rfl (st_move hs6 (Ev.t 0 rfl) rfl rfl fun _ _ hs7 => ?_); clear hs6
 refine sq rfl (st_extract hs7 (Ev.t 0 rfl) rfl rfl rfl fun _ _ hs8 => ?_); clear hs7
 refine sq rfl (st_extract hs8 (Ev.t 1 rfl) rfl rfl rfl fun _ _ hs9 => ?_); clear hs8
 refine sq rfl (st_assign hs9 (Ev.t 1 rfl) rfl rfl fun _ _ hs10 => ?_); clear hs9
 refine sq rfl (st_assign hs10 (Ev.t 1 rfl) rfl rfl fun _ _ hs11 => ?_); clear hs10
 refine hK3 _ _ ?_; clear hK3
 have hs12 := hs11.keep [0, 1, 8, 9, 10] [_, _, _, _, _] rfl; clear hs11
 refine cd_region fun K4 hK4 => ?_
 refine sq rfl (st_loadA (o := 0) (off := 0) (vs := (bxL b A n cp A2 n2 c2)) hs12 (Ev.t 3 rfl) rfl rfl isAgg25 sizeOf25 (hs12.cells 0 rfl) rfl fun _ _ hs13 => ?_); clear hs12
 refine sq rfl (st_move hs13 (Ev.t 5 rfl) rfl rfl fun _ _ hs14 => ?_); clear hs13
 refine sq rfl (st_callv (vs := [.agg ⟨(bxL b A n cp A2 n2 c2)⟩, .slice A4 n4 c4]) hs14 (.func _) ⟨(Ev.t 1 rfl), (Ev.t 0 rfl), trivial⟩ rfl rfl call30 rfl (rIsTruth_v b A n cp A2 n2 c2 A4 n4 c4 xs _ (hP.kp hs14.kp) hn (hF.kp hs14.kp) hn2 (hX.kp hs14.kp) hn4) fun _ _ hs15 => ?_); clear hs14
 refine sq rfl (st_move hs15 (Ev.t 0 rfl) rfl rfl fun _ _ hs16 => ?_); clear hs15
 refine sq rfl (st_extract hs16 (Ev.t 0 rfl) rfl rfl rfl fun _ _ hs17 => ?_); clear hs16
 refine sq rfl (st_extract hs17 (Ev.t 1 rfl) rfl rfl rfl fun _ _ hs18 => ?_); clear hs17
 refine sq rfl (st_assign hs18 (Ev.t 1 rfl) rfl rfl fun _ _ hs19 => ?_); clear hs18
 refine sq rfl (st_assign hs19 (Ev.t 1 rfl) rfl rfl fun _ _ hs20 => ?_); clear hs19
 refine hK4 _ _ ?_; clear hK4
 have hs21 := hs20.keep [0, 1, 8, 9, 10, 11] [_, _, _, _, _, _] rfl; clear hs20
 refine cd_seq fun K5 hK5 => ?_
 refine cd_drawn mixed hs21 [⟨23, [], Is (.bool ((b.truthR xs).1))⟩, ⟨24, [], Is (.bool ((b.truthR xs).1))⟩, ⟨25, [0, 1], Is (.bool (((b.truthR xs).1) != ((b.truthR xs).1)))⟩, ⟨26, [2], Is (.bool (((b.truthR xs).1) != ((b.truthR xs).1)))⟩, ⟨27, [3], Is (Gv (!(((b.truthR xs).1) != ((b.truthR xs).1))) (.int .i64 ((b.truthR xs).2)))⟩, ⟨28, [3], Is (Gv (!(((b.truthR xs).1) != ((b.truthR xs).1))) (.int .i64 ((b.truthR xs).2)))⟩, ⟨29, [3, 4, 5], Is (Gv (!(((b.truthR xs).1) != ((b.truthR xs).1))) (.bool (((b.truthR xs).2 : Int) != ((b.truthR xs).2))))⟩, ⟨30, [3, 6], Is (.bool ((((b.truthR xs).1) != ((b.truthR xs).1)) || (((b.truthR xs).2 : Int) != ((b.truthR xs).2))))⟩, ⟨31, [7], Is (.bool ((((b.truthR xs).1) != ((b.truthR xs).1)) || (((b.truthR xs).2 : Int) != ((b.truthR xs).2))))⟩, ⟨32, [8], Is (Gv (!((((b.truthR xs).1) != ((b.truthR xs).1)) || (((b.truthR xs).2 : Int) != ((b.truthR xs).2)))) (.agg ⟨(bxL b A n cp A2 n2 c2)⟩))⟩, ⟨33, [8, 9], Is (Gv (!((((b.truthR xs).1) != ((b.truthR xs).1)) || (((b.truthR xs).2 : Int) != ((b.truthR xs).2)))) (.int .i64 (if b.ok then 0 else 90)))⟩, ⟨34, [8], Is (Gv (!((((b.truthR xs).1) != ((b.truthR xs).1)) || (((b.truthR xs).2 : Int) != ((b.truthR xs).2)))) (.agg ⟨(bxL b A n cp A2 n2 c2)⟩))⟩, ⟨35, [8, 11], Is (Gv (!((((b.truthR xs).1) != ((b.truthR xs).1)) || (((b.truthR xs).2 : Int) != ((b.truthR xs).2)))) (.int .i64 (if b.ok then 0 else 90)))⟩, ⟨36, [8, 10, 12], Is (Gv (!((((b.truthR xs).1) != ((b.truthR xs).1)) || (((b.truthR xs).2 : Int) != ((b.truthR xs).2)))) (.bool ((if b.ok then 0 else 90 : Int) != (if b.ok then 0 else 90))))⟩, ⟨37, [8, 13], Is (.bool (((((b.truthR xs).1) != ((b.truthR xs).1)) || (((b.truthR xs).2 : Int) != ((b.truthR xs).2))) || ((if b.ok then 0 else 90 : Int) != (if b.ok then 0 else 90))))⟩] (by kernel_rfl) (by kernel_rfl) fun K6 hK6 => ⟨⟨?_, ?_, ?_, ?_, ?_, ?_, ?_, ?_, ?_, ?_, ?_, ?_, ?_, ?_, ?_, trivial⟩, ?_⟩
 · rintro T_ B_ a_ w_ K_ hT hB hf hsD hk
   exact ob rfl rfl (st_move hsD (evT hT 3 rfl) rfl hf fun _ _ => hk _ _ _ _ ⟨rfl, rfl⟩)
 · rintro T_ B_ a_ w_ K_ hT hB hf hsD hk
   exact ob rfl rfl (st_move hsD (evT hT 1 rfl) rfl hf fun _ _ => hk _ _ _ _ ⟨rfl, rfl⟩)
 · rintro T_ B_ a_ w_ K_ hT hB _ _ ⟨rfl, rfl⟩ h23 - _ _ ⟨rfl, rfl⟩ h24 - hf hsD hk
   exact ob rfl rfl (st_bin hsD (Ev.tmp h23) (Ev.tmp h24) (run_neb 4 underlying4 _ _ ((b.truthR xs).1) ((b.truthR xs).1)) rfl hf fun _ _ => hk _ _ _ _ ⟨rfl, rfl⟩)
 · rintro T_ B_ a_ w_ K_ hT hB _ _ ⟨rfl, rfl⟩ h25 - hf hsD hk
   exact ob rfl rfl (st_move hsD (Ev.tmp h25) rfl hf fun _ _ => hk _ _ _ _ ⟨rfl, rfl⟩)
 · rintro T_ B_ a_ w_ K_ hT hB _ _ ⟨rfl, rfl⟩ h26 - hf hsD hk
   exact ob_gv hsD (gg := !(((b.truthR xs).1) != ((b.truthR xs).1))) (v := .int .i64 ((b.truthR xs).2)) rfl rfl rfl h26 (ison_f _) rfl rfl hf (fun hg K1 hK1 => st_move hsD (evT hT 2 rfl) rfl hf hK1) fun _ _ => hk _ _ _ _ ⟨rfl, rfl⟩
 · rintro T_ B_ a_ w_ K_ hT hB _ _ ⟨rfl, rfl⟩ h26 - hf hsD hk
   exact ob_gv hsD (gg := !(((b.truthR xs).1) != ((b.truthR xs).1))) (v := .int .i64 ((b.truthR xs).2)) rfl rfl rfl h26 (ison_f _) rfl rfl hf (fun hg K1 hK1 => st_move hsD (evT hT 0 rfl) rfl hf hK1) fun _ _ => hk _ _ _ _ ⟨rfl, rfl⟩
 · rintro T_ B_ a_ w_ K_ hT hB _ _ ⟨rfl, rfl⟩ h26 - _ _ ⟨rfl, rfl⟩ h27 - _ _ ⟨rfl, rfl⟩ h28 - hf hsD hk
   exact ob_gv hsD (gg := !(((b.truthR xs).1) != ((b.truthR xs).1))) (v := .bool (((b.truthR xs).2 : Int) != ((b.truthR xs).2))) rfl rfl rfl h26 (ison_f _) rfl rfl hf (fun hg K1 hK1 => st_cmp (c := ((b.truthR xs).2 : Int) != ((b.truthR xs).2)) hsD ((Ev.tmp h27).un hg) ((Ev.tmp h28).un hg) rfl hf rfl rfl hK1) fun _ _ => hk _ _ _ _ ⟨rfl, rfl⟩
 · rintro T_ B_ a_ w_ K_ hT hB _ _ ⟨rfl, rfl⟩ h26 - _ _ ⟨rfl, rfl⟩ h29 - hf hsD hk
   exact ob rfl rfl (st_or hsD (gx := true) (gy := !(((b.truthR xs).1) != ((b.truthR xs).1))) (Ev.tmp h26) rfl (Ev.tmp h29) (fun h => (by first | exact absurd h (by decide) | (rw [h]; rfl))) rfl hf fun _ _ => hk _ _ _ _ ⟨rfl, rfl⟩)
 · rintro T_ B_ a_ w_ K_ hT hB _ _ ⟨rfl, rfl⟩ h30 - hf hsD hk
   exact ob rfl rfl (st_move hsD (Ev.tmp h30) rfl hf fun _ _ => hk _ _ _ _ ⟨rfl, rfl⟩)
 · rintro T_ B_ a_ w_ K_ hT hB _ _ ⟨rfl, rfl⟩ h31 - hf hsD hk
   exact ob_gv hsD (gg := !((((b.truthR xs).1) != ((b.truthR xs).1)) || (((b.truthR xs).2 : Int) != ((b.truthR xs).2)))) (v := .agg ⟨(bxL b A n cp A2 n2 c2)⟩) rfl rfl rfl h31 (ison_f _) rfl rfl hf (fun hg K1 hK1 => st_loadA (o := 0) (off := 0) (vs := (bxL b A n cp A2 n2 c2)) hsD (evT hT 5 rfl) rfl hf isAgg25 sizeOf25 (hsD.cellsM (inB hB 0 rfl)) rfl hK1) fun _ _ => hk _ _ _ _ ⟨rfl, rfl⟩
 · rintro T_ B_ a_ w_ K_ hT hB _ _ ⟨rfl, rfl⟩ h31 - _ _ ⟨rfl, rfl⟩ h32 - hf hsD hk
   exact ob_gv hsD (gg := !((((b.truthR xs).1) != ((b.truthR xs).1)) || (((b.truthR xs).2 : Int) != ((b.truthR xs).2)))) (v := .int .i64 (if b.ok then 0 else 90)) rfl rfl rfl h31 (ison_f _) rfl rfl hf (fun hg K1 hK1 => st_callv (vs := [.agg ⟨(bxL b A n cp A2 n2 c2)⟩]) hsD (.func _) ⟨((Ev.tmp h32).un hg), trivial⟩ rfl hf call29 rfl (check_v b A n cp A2 n2 c2 _ (hP.kp hsD.kp) hn (hF.kp hsD.kp) hn2) hK1) fun _ _ => hk _ _ _ _ ⟨rfl, rfl⟩
 · rintro T_ B_ a_ w_ K_ hT hB _ _ ⟨rfl, rfl⟩ h31 - hf hsD hk
   exact ob_gv hsD (gg := !((((b.truthR xs).1) != ((b.truthR xs).1)) || (((b.truthR xs).2 : Int) != ((b.truthR xs).2)))) (v := .agg ⟨(bxL b A n cp A2 n2 c2)⟩) rfl rfl rfl h31 (ison_f _) rfl rfl hf (fun hg K1 hK1 => st_loadA (o := 0) (off := 0) (vs := (bxL b A n cp A2 n2 c2)) hsD (evT hT 5 rfl) rfl hf isAgg25 sizeOf25 (hsD.cellsM (inB hB 0 rfl)) rfl hK1) fun _ _ => hk _ _ _ _ ⟨rfl, rfl⟩
 · rintro T_ B_ a_ w_ K_ hT hB _ _ ⟨rfl, rfl⟩ h31 - _ _ ⟨rfl, rfl⟩ h34 - hf hsD hk
   exact ob_gv hsD (gg := !((((b.truthR xs).1) != ((b.truthR xs).1)) || (((b.truthR xs).2 : Int) != ((b.truthR xs).2)))) (v := .int .i64 (if b.ok then 0 else 90)) rfl rfl rfl h31 (ison_f _) rfl rfl hf (fun hg K1 hK1 => st_callv (vs := [.agg ⟨(bxL b A n cp A2 n2 c2)⟩]) hsD (.func _) ⟨((Ev.tmp h34).un hg), trivial⟩ rfl hf call31 rfl (rcheck_v b A n cp A2 n2 c2 _ (hP.kp hsD.kp) hn (hF.kp hsD.kp) hn2) hK1) fun _ _ => hk _ _ _ _ ⟨rfl, rfl⟩
 · rintro T_ B_ a_ w_ K_ hT hB _ _ ⟨rfl, rfl⟩ h31 - _ _ ⟨rfl, rfl⟩ h33 - _ _ ⟨rfl, rfl⟩ h35 - hf hsD hk
   exact ob_gv hsD (gg := !((((b.truthR xs).1) != ((b.truthR xs).1)) || (((b.truthR xs).2 : Int) != ((b.truthR xs).2)))) (v := .bool ((if b.ok then 0 else 90 : Int) != (if b.ok then 0 else 90))) rfl rfl rfl h31 (ison_f _) rfl rfl hf (fun hg K1 hK1 => st_cmp (c := (if b.ok then 0 else 90 : Int) != (if b.ok then 0 else 90)) hsD ((Ev.tmp h33).un hg) ((Ev.tmp h35).un hg) rfl hf rfl rfl hK1) fun _ _ => hk _ _ _ _ ⟨rfl, rfl⟩
 · rintro T_ B_ a_ w_ K_ hT hB _ _ ⟨rfl, rfl⟩ h31 - _ _ ⟨rfl, rfl⟩ h36 - hf hsD hk
   exact ob rfl rfl (st_or hsD (gx := true) (gy := !((((b.truthR xs).1) != ((b.truthR xs).1)) || (((b.truthR xs).2 : Int) != ((b.truthR xs).2)))) (Ev.tmp h31) rfl (Ev.tmp h36) (fun h => (by first | exact absurd h (by decide) | (rw [h]; rfl))) rfl hf fun _ _ => hk _ _ _ _ ⟨rfl, rfl⟩)
 rintro _ _ ⟨rfl, rfl⟩ _ _ ⟨rfl, rfl⟩ _ _ ⟨rfl, rfl⟩ _ _ ⟨rfl, rfl⟩ _ _ ⟨rfl, rfl⟩ _ _ ⟨rfl, rfl⟩ _ _ ⟨rfl, rfl⟩ _ _ ⟨rfl, rfl⟩ _ _ ⟨rfl, rfl⟩ _ _ ⟨rfl, rfl⟩ _ _ ⟨rfl, rfl⟩ _ _ ⟨rfl, rfl⟩ _ _ ⟨rfl, rfl⟩ _ _ ⟨rfl, rfl⟩ _ _ ⟨rfl, rfl⟩ a_22 w_22 hs22; clear hs21
 have hs23 := Sx.as (T' := [_, _, _, _, _, _, _, _, _, _, _, _, _, _, _, _, _, _, _, _, _]) (B' := [_]) rfl rfl hs22; clear hs22
 refine hK6 _ _ ?_; clear hK6
 have hs24 := hs23.keep [14, 19, 20] [_, _, _] rfl; clear hs23
 have hc7 : (((((b.truthR xs).1) != ((b.truthR xs).1)) || (((b.truthR xs).2 : Int) != ((b.truthR xs).2))) || ((if b.ok then 0 else 90 : Int) != (if b.ok then 0 else 90))) = false := by simp
 refine cd_cond hs24 (Ev.t 0 rfl) (fun h => absurd (hc7.symm.trans h) (by decide)) (fun _ => ?_)
 refine cd_skip ?_
 refine th_norm (hK5 _ _ ?_)
 refine cd_region fun K8 hK8 => ?_
 refine sq rfl (st_loadA (o := 0) (off := 0) (vs := (bxL b A n cp A2 n2 c2)) hs24 (Ev.t 2 rfl) rfl rfl isAgg25 sizeOf25 (hs24.cells 0 rfl) rfl fun _ _ hs25 => ?_); clear hs24
 refine sq rfl (st_callv (vs := [.agg ⟨(bxL b A n cp A2 n2 c2)⟩]) hs25 (.func _) ⟨(Ev.t 0 rfl), trivial⟩ rfl rfl call15 rfl (Many_v b A n cp A2 n2 c2 _ (hP.kp hs25.kp) hn (hF.kp hs25.kp) hn2) fun _ _ hs26 => ?_); clear hs25
 refine sq rfl (st_move hs26 (Ev.t 0 rfl) rfl rfl fun _ _ hs27 => ?_); clear hs26
 refine sq rfl (st_extract hs27 (Ev.t 0 rfl) rfl rfl rfl fun _ _ hs28 => ?_); clear hs27
 refine sq rfl (st_extract hs28 (Ev.t 1 rfl) rfl rfl rfl fun _ _ hs29 => ?_); clear hs28
 refine sq rfl (st_assign hs29 (Ev.t 1 rfl) rfl rfl fun _ _ hs30 => ?_); clear hs29
 refine sq rfl (st_assign hs30 (Ev.t 1 rfl) rfl rfl fun _ _ hs31 => ?_); clear hs30
 refine hK8 _ _ ?_; clear hK8
 have hs32 := hs31.keep [0, 1, 8, 9] [_, _, _, _] rfl; clear hs31
 refine cd_region fun K9 hK9 => ?_
 refine sq rfl (st_loadA (o := 0) (off := 0) (vs := (bxL b A n cp A2 n2 c2)) hs32 (Ev.t 3 rfl) rfl rfl isAgg25 sizeOf25 (hs32.cells 0 rfl) rfl fun _ _ hs33 => ?_); clear hs32
 refine sq rfl (st_callv (vs := [.agg ⟨(bxL b A n cp A2 n2 c2)⟩]) hs33 (.func _) ⟨(Ev.t 0 rfl), trivial⟩ rfl rfl call32 rfl (rMany_v b A n cp A2 n2 c2 _ (hP.kp hs33.kp) hn (hF.kp hs33.kp) hn2) fun _ _ hs34 => ?_); clear hs33
 refine sq rfl (st_move hs34 (Ev.t 0 rfl) rfl rfl fun _ _ hs35 => ?_); clear hs34
 refine sq rfl (st_extract hs35 (Ev.t 0 rfl) rfl rfl rfl fun _ _ hs36 => ?_); clear hs35
 refine sq rfl (st_extract hs36 (Ev.t 1 rfl) rfl rfl rfl fun _ _ hs37 => ?_); clear hs36
 refine sq rfl (st_assign hs37 (Ev.t 1 rfl) rfl rfl fun _ _ hs38 => ?_); clear hs37
 refine sq rfl (st_assign hs38 (Ev.t 1 rfl) rfl rfl fun _ _ hs39 => ?_); clear hs38
 refine hK9 _ _ ?_; clear hK9
 have hs40 := hs39.keep [0, 1, 7, 8, 9, 10] [_, _, _, _, _, _] rfl; clear hs39
 refine cd_seq fun K10 hK10 => ?_
 refine cd_region fun K11 hK11 => ?_
 refine sq rfl (st_move hs40 (Ev.t 3 rfl) rfl rfl fun _ _ hs41 => ?_); clear hs40
 refine sq rfl (st_move hs41 (Ev.t 2 rfl) rfl rfl fun _ _ hs42 => ?_); clear hs41
 refine sq rfl (st_cmp (c := (b.manyR.1 : Int) != b.manyR.1) hs42 (Ev.t 1 rfl) (Ev.t 0 rfl) rfl rfl rfl rfl fun _ _ hs43 => ?_); clear hs42
 refine sq rfl (st_move hs43 (Ev.t 0 rfl) rfl rfl fun _ _ hs44 => ?_); clear hs43
 refine sq_gv hs44 (gg := !((b.manyR.1 : Int) != b.manyR.1)) (v := .int .i64 b.manyR.2) rfl rfl 0 rfl (ison_f _) rfl rfl rfl (fun hg12 K13 hK13 => st_move hs44 (Ev.t 6 rfl) rfl rfl hK13) fun _ _ hs45 => ?_; clear hs44
 refine sq_gv hs45 (gg := !((b.manyR.1 : Int) != b.manyR.1)) (v := .int .i64 b.manyR.2) rfl rfl 1 rfl (ison_f _) rfl rfl rfl (fun hg14 K15 hK15 => st_move hs45 (Ev.t 5 rfl) rfl rfl hK15) fun _ _ hs46 => ?_; clear hs45
 refine sq_gv hs46 (gg := !((b.manyR.1 : Int) != b.manyR.1)) (v := .bool ((b.manyR.2 : Int) != b.manyR.2)) rfl rfl 2 rfl (ison_f _) rfl rfl rfl (fun hg16 K17 hK17 => st_cmp (c := (b.manyR.2 : Int) != b.manyR.2) hs46 ((Ev.t 1 rfl).un hg16) ((Ev.t 0 rfl).un hg16) rfl rfl rfl rfl hK17) fun _ _ hs47 => ?_; clear hs46
 refine sq rfl (st_or hs47 (gx := true) (gy := !((b.manyR.1 : Int) != b.manyR.1)) (Ev.t 3 rfl) rfl (Ev.t 0 rfl) (fun h => (by first | exact absurd h (by decide) | (rw [h]; rfl))) rfl rfl fun _ _ hs48 => ?_); clear hs47
 refine hK11 _ _ ?_; clear hK11
 have hs49 := hs48.keep [0, 12, 13] [_, _, _] rfl; clear hs48
 have hc18 : (((b.manyR.1 : Int) != b.manyR.1) || ((b.manyR.2 : Int) != b.manyR.2)) = false := by simp
 refine cd_cond hs49 (Ev.t 0 rfl) (fun h => absurd (hc18.symm.trans h) (by decide)) (fun _ => ?_)
 refine cd_skip ?_
 refine th_norm (hK10 _ _ ?_)
 refine cd_region fun K19 hK19 => ?_
 refine sq rfl (st_loadA (o := 0) (off := 0) (vs := (bxL b A n cp A2 n2 c2)) hs49 (Ev.t 2 rfl) rfl rfl isAgg25 sizeOf25 (hs49.cells 0 rfl) rfl fun _ _ hs50 => ?_); clear hs49
 refine sq rfl (st_callv (vs := [.agg ⟨(bxL b A n cp A2 n2 c2)⟩]) hs50 (.func _) ⟨(Ev.t 0 rfl), trivial⟩ rfl rfl call28 rfl (Wrong_v b A n cp A2 n2 c2 _ (hP.kp hs50.kp) hn (hF.kp hs50.kp) hn2) fun _ _ hs51 => ?_); clear hs50
 refine sq rfl (st_move hs51 (Ev.t 0 rfl) rfl rfl fun _ _ hs52 => ?_); clear hs51
 refine sq rfl (st_extract hs52 (Ev.t 0 rfl) rfl rfl rfl fun _ _ hs53 => ?_); clear hs52
 refine sq rfl (st_extract hs53 (Ev.t 1 rfl) rfl rfl rfl fun _ _ hs54 => ?_); clear hs53
 refine sq rfl (st_assign hs54 (Ev.t 1 rfl) rfl rfl fun _ _ hs55 => ?_); clear hs54
 refine sq rfl (st_assign hs55 (Ev.t 1 rfl) rfl rfl fun _ _ hs56 => ?_); clear hs55
 refine hK19 _ _ ?_; clear hK19
 have hs57 := hs56.keep [0, 1, 8, 9] [_, _, _, _] rfl; clear hs56
 refine cd_region fun K20 hK20 => ?_
 refine sq rfl (st_loadA (o := 0) (off := 0) (vs := (bxL b A n cp A2 n2 c2)) hs57 (Ev.t 3 rfl) rfl rfl isAgg25 sizeOf25 (hs57.cells 0 rfl) rfl fun _ _ hs58 => ?_); clear hs57
 refine sq rfl (st_callv (vs := [.agg ⟨(bxL b A n cp A2 n2 c2)⟩]) hs58 (.func _) ⟨(Ev.t 0 rfl), trivial⟩ rfl rfl call33 rfl (rWrong_v b A n cp A2 n2 c2 _ (hP.kp hs58.kp) hn (hF.kp hs58.kp) hn2) fun _ _ hs59 => ?_); clear hs58
 refine sq rfl (st_move hs59 (Ev.t 0 rfl) rfl rfl fun _ _ hs60 => ?_); clear hs59
 refine sq rfl (st_extract hs60 (Ev.t 0 rfl) rfl rfl rfl fun _ _ hs61 => ?_); clear hs60
 refine sq rfl (st_extract hs61 (Ev.t 1 rfl) rfl rfl rfl fun _ _ hs62 => ?_); clear hs61
 refine sq rfl (st_assign hs62 (Ev.t 1 rfl) rfl rfl fun _ _ hs63 => ?_); clear hs62
 refine sq rfl (st_assign hs63 (Ev.t 1 rfl) rfl rfl fun _ _ hs64 => ?_); clear hs63
 refine hK20 _ _ ?_; clear hK20
 have hs65 := hs64.keep [0, 1, 7, 8, 9] [_, _, _, _, _] rfl; clear hs64
 refine cd_region fun K21 hK21 => ?_
 refine sq rfl (st_move hs65 (Ev.t 3 rfl) rfl rfl fun _ _ hs66 => ?_); clear hs65
 refine sq rfl (st_move hs66 (Ev.t 2 rfl) rfl rfl fun _ _ hs67 => ?_); clear hs66
 refine sq rfl (st_cmp (c := (b.wrongR.1 : Int) == b.wrongR.1) hs67 (Ev.t 1 rfl) (Ev.t 0 rfl) rfl rfl rfl rfl fun _ _ hs68 => ?_); clear hs67
 refine sq rfl (st_move hs68 (Ev.t 0 rfl) rfl rfl fun _ _ hs69 => ?_); clear hs68
 refine sq_gv hs69 (gg := (b.wrongR.1 : Int) == b.wrongR.1) (v := .int .i64 b.wrongR.2) rfl rfl 0 rfl (ison_t _) rfl rfl rfl (fun hg22 K23 hK23 => st_move hs69 (Ev.t 6 rfl) rfl rfl hK23) fun _ _ hs70 => ?_; clear hs69
 refine sq_gv hs70 (gg := (b.wrongR.1 : Int) == b.wrongR.1) (v := .int .i64 b.wrongR.2) rfl rfl 1 rfl (ison_t _) rfl rfl rfl (fun hg24 K25 hK25 => st_move hs70 (Ev.t 5 rfl) rfl rfl hK25) fun _ _ hs71 => ?_; clear hs70
 refine sq_gv hs71 (gg := (b.wrongR.1 : Int) == b.wrongR.1) (v := .bool ((b.wrongR.2 : Int) == b.wrongR.2)) rfl rfl 2 rfl (ison_t _) rfl rfl rfl (fun hg26 K27 hK27 => st_cmp (c := (b.wrongR.2 : Int) == b.wrongR.2) hs71 ((Ev.t 1 rfl).un hg26) ((Ev.t 0 rfl).un hg26) rfl rfl rfl rfl hK27) fun _ _ hs72 => ?_; clear hs71
 refine sq rfl (st_and hs72 (gx := true) (gy := (b.wrongR.1 : Int) == b.wrongR.1) (Ev.t 3 rfl) rfl (Ev.t 0 rfl) (fun h => h) rfl rfl fun _ _ hs73 => ?_); clear hs72
 refine sq rfl (st_move hs73 (Ev.t 0 rfl) rfl rfl fun _ _ hs74 => ?_); clear hs73
 refine sq_gv hs74 (gg := ((b.wrongR.1 : Int) == b.wrongR.1) && ((b.wrongR.2 : Int) == b.wrongR.2)) (v := .bool true) rfl rfl 0 rfl (ison_t _) rfl rfl rfl (fun hg28 K29 hK29 => st_callv (vs := []) hs74 (.func _) trivial rfl rfl call14 rfl (counted_v _ (hG.kp hs74.kp (by simp))) hK29) fun _ _ hs75 => ?_; clear hs74
 refine sq rfl (st_and hs75 (gx := true) (gy := ((b.wrongR.1 : Int) == b.wrongR.1) && ((b.wrongR.2 : Int) == b.wrongR.2)) (Ev.t 1 rfl) rfl (Ev.t 0 rfl) (fun h => h) rfl rfl fun _ _ hs76 => ?_); clear hs75
 have hs77 := hs76.keep [0, 1, 2, 3, 4, 5, 6, 7, 8, 9, 10, 11, 12, 13, 14] [_, _, _, _, _, _, _, _, _, _, _, _, _, _, _] rfl; clear hs76
 refine sq rfl (st_assign hs77 (Ev.t 0 rfl) rfl rfl fun _ _ hs78 => ?_); clear hs77
 refine hK21 _ _ ?_; clear hK21
 have hs79 := hs78.keep [0] [_] rfl; clear hs78
 refine cd_retv (vs := [.bool ((((b.wrongR.1 : Int) == b.wrongR.1) && ((b.wrongR.2 : Int) == b.wrongR.2)) && true)]) hs79 hQ0 rfl ⟨.tmp 0 rfl, trivial⟩ ?_
 clear hs79 hQ0 hN0
 simp [pack]
end Go.Proofs.YtcnndpedeofbmaaDoor
