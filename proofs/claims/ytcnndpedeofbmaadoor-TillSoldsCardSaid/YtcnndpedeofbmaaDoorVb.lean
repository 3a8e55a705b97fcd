/- The law TillSolds: its walk. -/
import Derived.Test.YtcnndpedeofbmaaDoorUl
import Derived.Test.YtcnndpedeofbmaaDoorRe
set_option maxRecDepth 100000
namespace Go.Proofs.YtcnndpedeofbmaaDoor
open Go Go.Sx Go.Till Go.Proofs.Tryd
theorem TillSolds_v (b : Bx) (A : Option Addr) (n cp : Nat) (A2 : Option Addr) (n2 c2 : Nat) (k0 k1 : Int) (w : World) (hP : RollsAt w A n b.rolls) (hn : n ≤ 140737488351232) (hF : SpsAt w A2 n2 b.free) (hn2 : n2 ≤ 140737488351232) (hG : CellsAt w 0 0 partsL) :
    CallsV Tryd.prog 6 [.agg ⟨(bxL b A n cp A2 n2 c2)⟩, .agg ⟨[.int .i64 k0, .int .i64 k1]⟩] w (.bool true) := by
 refine enter (N := 82) (M := []) w func6 rfl rfl rfl (fun Q0 a_0 hQ0 hN0 hs0 => ?_)
 refine cd_region fun K1 hK1 => ?_
 refine sq rfl (st_box hs0 (Ev.t 0 rfl) rfl rfl rfl fun b2 _ _ hs1 => ?_); clear hs0
 refine sq rfl (st_box hs1 (Ev.t 2 rfl) rfl rfl rfl fun b3 _ _ hs2 => ?_); clear hs1
 refine sq rfl (st_assign hs2 (.const _) rfl rfl fun _ _ hs3 => ?_); clear hs2
 refine hK1 _ _ ?_; clear hK1
 have hs4 := hs3.keep [0, 1, 2] [_, _, _] rfl; clear hs3
 refine cd_region fun K4 hK4 => ?_
 refine sq rfl (st_loadA (o := 0) (off := 0) (vs := (bxL b A n cp A2 n2 c2)) hs4 (Ev.t 2 rfl) rfl rfl isAgg25 sizeOf25 (hs4.cells 1 rfl) rfl fun _ _ hs5 => ?_); clear hs4
 refine sq rfl (st_indexArr (o' := 0) hs5 (Ev.t 2 rfl) (.const _) rfl rfl runUnderlying53 sizeOf3 (by decide) rfl fun _ _ hs6 => ?_); clear hs5
 refine sq rfl (st_load1 (o := 0) (off := 0) (v := .int .i64 k0) hs6 (Ev.t 0 rfl) rfl rfl isAgg3 (hs6.cells 0 rfl) rfl fun _ _ hs7 => ?_); clear hs6
 refine sq rfl (st_callv (vs := [.agg ⟨(bxL b A n cp A2 n2 c2)⟩, .int .i64 k0]) hs7 (.func _) ⟨(Ev.t 2 rfl), (Ev.t 0 rfl), trivial⟩ rfl rfl call18 rfl (Sold_v b A n cp A2 n2 c2 _ (hP.kp hs7.kp) hn (hF.kp hs7.kp) hn2 k0) fun _ _ hs8 => ?_); clear hs7
 refine sq rfl (st_move hs8 (Ev.t 0 rfl) rfl rfl fun _ _ hs9 => ?_); clear hs8
 refine sq rfl (st_extract hs9 (Ev.t 0 rfl) rfl rfl rfl fun _ _ hs10 => ?_); clear hs9
 refine sq rfl (st_extract hs10 (Ev.t 1 rfl) rfl rfl rfl fun _ _ hs11 => ?_); clear hs10
 refine sq rfl (st_alloc hs11 rfl rfl zeroValue35 rfl fun b5 _ _ hs12 => ?_); clear hs11
 refine sq rfl (st_store (l' := [.int .i64 ((b.soldR k0).1.lo), .int .i64 ((b.soldR k0).1.hi)]) (vs := [.int .i64 ((b.soldR k0).1.lo), .int .i64 ((b.soldR k0).1.hi)]) (i := 0) hs12 (Ev.t 0 rfl) (Ev.t 2 rfl) sizeOf35 rfl rfl rfl rfl rfl rfl fun _ _ hs13 => ?_); clear hs12
 have hs14 := hs13.asB [_, _, _] rfl; clear hs13
 refine sq rfl (st_assign hs14 (Ev.t 1 rfl) rfl rfl fun _ _ hs15 => ?_); clear hs14
 refine hK4 _ _ ?_; clear hK4
 have hs16 := hs15.keep [0, 1, 9, 10, 11] [_, _, _, _, _] rfl; clear hs15
 refine cd_region fun K6 hK6 => ?_
 refine sq rfl (st_loadA (o := 0) (off := 0) (vs := (bxL b A n cp A2 n2 c2)) hs16 (Ev.t 4 rfl) rfl rfl isAgg25 sizeOf25 (hs16.cells 2 rfl) rfl fun _ _ hs17 => ?_); clear hs16
 refine sq rfl (st_indexArr (o' := 0) hs17 (Ev.t 4 rfl) (.const _) rfl rfl runUnderlying53 sizeOf3 (by decide) rfl fun _ _ hs18 => ?_); clear hs17
 refine sq rfl (st_load1 (o := 0) (off := 0) (v := .int .i64 k0) hs18 (Ev.t 0 rfl) rfl rfl isAgg3 (hs18.cells 1 rfl) rfl fun _ _ hs19 => ?_); clear hs18
 refine sq rfl (st_callv (vs := [.agg ⟨(bxL b A n cp A2 n2 c2)⟩, .int .i64 k0]) hs19 (.func _) ⟨(Ev.t 2 rfl), (Ev.t 0 rfl), trivial⟩ rfl rfl call34 rfl (rSold_v b A n cp A2 n2 c2 _ (hP.kp hs19.kp) hn (hF.kp hs19.kp) hn2 k0) fun _ _ hs20 => ?_); clear hs19
 refine sq rfl (st_move hs20 (Ev.t 0 rfl) rfl rfl fun _ _ hs21 => ?_); clear hs20
 refine sq rfl (st_extract hs21 (Ev.t 0 rfl) rfl rfl rfl fun _ _ hs22 => ?_); clear hs21
 refine sq rfl (st_extract hs22 (Ev.t 1 rfl) rfl rfl rfl fun _ _ hs23 => ?_); clear hs22
 refine sq rfl (st_alloc hs23 rfl rfl zeroValue35 rfl fun b7 _ _ hs24 => ?_); clear hs23
 refine sq rfl (st_store (l' := [.int .i64 ((b.soldR k0).1.lo), .int .i64 ((b.soldR k0).1.hi)]) (vs := [.int .i64 ((b.soldR k0).1.lo), .int .i64 ((b.soldR k0).1.hi)]) (i := 0) hs24 (Ev.t 0 rfl) (Ev.t 2 rfl) sizeOf35 rfl rfl rfl rfl rfl rfl fun _ _ hs25 => ?_); clear hs24
 have hs26 := hs25.asB [_, _, _, _] rfl; clear hs25
 refine sq rfl (st_assign hs26 (Ev.t 1 rfl) rfl rfl fun _ _ hs27 => ?_); clear hs26
 refine hK6 _ _ ?_; clear hK6
 have hs28 := hs27.keep [0, 1, 9, 10, 11, 12, 13] [_, _, _, _, _, _, _] rfl; clear hs27
 refine cd_seq fun K8 hK8 => ?_
 refine cd_region fun K9 hK9 => ?_
 refine sq rfl (st_loadA (o := 0) (off := 0) (vs := [.int .i64 ((b.soldR k0).1.lo), .int .i64 ((b.soldR k0).1.hi)]) hs28 (Ev.t 3 rfl) rfl rfl isAgg35 sizeOf35 (hs28.cells 1 rfl) rfl fun _ _ hs29 => ?_); clear hs28
 refine sq rfl (st_loadA (o := 0) (off := 0) (vs := [.int .i64 ((b.soldR k0).1.lo), .int .i64 ((b.soldR k0).1.hi)]) hs29 (Ev.t 2 rfl) rfl rfl isAgg35 sizeOf35 (hs29.cells 0 rfl) rfl fun _ _ hs30 => ?_); clear hs29
 refine sq rfl (st_bin hs30 (Ev.t 1 rfl) (Ev.t 0 rfl) (run_neq_35 _ _ ((b.soldR k0).1.lo) ((b.soldR k0).1.hi) ((b.soldR k0).1.lo) ((b.soldR k0).1.hi)) rfl rfl fun _ _ hs31 => ?_); clear hs30
 refine sq rfl (st_move hs31 (Ev.t 0 rfl) rfl rfl fun _ _ hs32 => ?_); clear hs31
 refine sq_gv hs32 (gg := !(!((((b.soldR k0).1.lo : Int) == (b.soldR k0).1.lo) && (((b.soldR k0).1.hi : Int) == (b.soldR k0).1.hi)))) (v := .int .i64 ((b.soldR k0).2)) rfl rfl 0 rfl (ison_f _) rfl rfl rfl (fun hg10 K11 hK11 => st_move hs32 (Ev.t 6 rfl) rfl rfl hK11) fun _ _ hs33 => ?_; clear hs32
 refine sq_gv hs33 (gg := !(!((((b.soldR k0).1.lo : Int) == (b.soldR k0).1.lo) && (((b.soldR k0).1.hi : Int) == (b.soldR k0).1.hi)))) (v := .int .i64 ((b.soldR k0).2)) rfl rfl 1 rfl (ison_f _) rfl rfl rfl (fun hg12 K13 hK13 => st_move hs33 (Ev.t 5 rfl) rfl rfl hK13) fun _ _ hs34 => ?_; clear hs33
 refine sq_gv hs34 (gg := !(!((((b.soldR k0).1.lo : Int) == (b.soldR k0).1.lo) && (((b.soldR k0).1.hi : Int) == (b.soldR k0).1.hi)))) (v := .bool (((b.soldR k0).2 : Int) != ((b.soldR k0).2))) rfl rfl 2 rfl (ison_f _) rfl rfl rfl (fun hg14 K15 hK15 => st_cmp (c := ((b.soldR k0).2 : Int) != ((b.soldR k0).2)) hs34 ((Ev.t 1 rfl).un hg14) ((Ev.t 0 rfl).un hg14) rfl rfl rfl rfl hK15) fun _ _ hs35 => ?_; clear hs34
 refine sq rfl (st_or hs35 (gx := true) (gy := !(!((((b.soldR k0).1.lo : Int) == (b.soldR k0).1.lo) && (((b.soldR k0).1.hi : Int) == (b.soldR k0).1.hi)))) (Ev.t 3 rfl) rfl (Ev.t 0 rfl) (fun h => (by first | exact absurd h (by decide) | (rw [h]; rfl))) rfl rfl fun _ _ hs36 => ?_); clear hs35
 refine hK9 _ _ ?_; clear hK9
 have hs37 := hs36.keep [0, 12, 13, 14] [_, _, _, _] rfl; clear hs36
 have hc16 : ((!((((b.soldR k0).1.lo : Int) == (b.soldR k0).1.lo) && (((b.soldR k0).1.hi : Int) == (b.soldR k0).1.hi))) || (((b.soldR k0).2 : Int) != ((b.soldR k0).2))) = false := by simp
 refine cd_cond hs37 (Ev.t 0 rfl) (fun h => absurd (hc16.symm.trans h) (by decide)) (fun _ => ?_)
 refine cd_skip ?_
 refine th_norm (hK8 _ _ ?_)
 refine cd_region fun K17 hK17 => ?_
 refine sq rfl (st_loadA (o := 0) (off := 0) (vs := (bxL b A n cp A2 n2 c2)) hs37 (Ev.t 3 rfl) rfl rfl isAgg25 sizeOf25 (hs37.cells 3 rfl) rfl fun _ _ hs38 => ?_); clear hs37
 refine sq rfl (st_indexArr (o' := 0) hs38 (Ev.t 3 rfl) (.const _) rfl rfl runUnderlying53 sizeOf3 (by decide) rfl fun _ _ hs39 => ?_); clear hs38
 refine sq rfl (st_load1 (o := 0) (off := 0) (v := .int .i64 k0) hs39 (Ev.t 0 rfl) rfl rfl isAgg3 (hs39.cells 2 rfl) rfl fun _ _ hs40 => ?_); clear hs39
 refine sq rfl (st_indexArr (o' := 1) hs40 (Ev.t 5 rfl) (.const _) rfl rfl runUnderlying53 sizeOf3 (by decide) rfl fun _ _ hs41 => ?_); clear hs40
 refine sq rfl (st_load1 (o := 0) (off := 1) (v := .int .i64 k1) hs41 (Ev.t 0 rfl) rfl rfl isAgg3 (hs41.cells 2 rfl) rfl fun _ _ hs42 => ?_); clear hs41
 refine sq rfl (st_callv (vs := [.agg ⟨(bxL b A n cp A2 n2 c2)⟩, .int .i64 k0, .int .i64 k1]) hs42 (.func _) ⟨(Ev.t 4 rfl), (Ev.t 2 rfl), (Ev.t 0 rfl), trivial⟩ rfl rfl call21 rfl (Can_v b A n cp A2 n2 c2 _ (hP.kp hs42.kp) hn (hF.kp hs42.kp) hn2 k0 k1) fun _ _ hs43 => ?_); clear hs42
 refine sq rfl (st_move hs43 (Ev.t 0 rfl) rfl rfl fun _ _ hs44 => ?_); clear hs43
 refine sq rfl (st_extract hs44 (Ev.t 0 rfl) rfl rfl rfl fun _ _ hs45 => ?_); clear hs44
 refine sq rfl (st_extract hs45 (Ev.t 1 rfl) rfl rfl rfl fun _ _ hs46 => ?_); clear hs45
 refine sq rfl (st_assign hs46 (Ev.t 1 rfl) rfl rfl fun _ _ hs47 => ?_); clear hs46
 refine sq rfl (st_assign hs47 (Ev.t 1 rfl) rfl rfl fun _ _ hs48 => ?_); clear hs47
 refine hK17 _ _ ?_; clear hK17
 have hs49 := hs48.keep [0, 1, 12, 13, 14] [_, _, _, _, _] rfl; clear hs48
 refine cd_region fun K18 hK18 => ?_
 refine sq rfl (st_loadA (o := 0) (off := 0) (vs := (bxL b A n cp A2 n2 c2)) hs49 (Ev.t 4 rfl) rfl rfl isAgg25 sizeOf25 (hs49.cells 3 rfl) rfl fun _ _ hs50 => ?_); clear hs49
 refine sq rfl (st_indexArr (o' := 0) hs50 (Ev.t 4 rfl) (.const _) rfl rfl runUnderlying53 sizeOf3 (by decide) rfl fun _ _ hs51 => ?_); clear hs50
 refine sq rfl (st_load1 (o := 0) (off := 0) (v := .int .i64 k0) hs51 (Ev.t 0 rfl) rfl rfl isAgg3 (hs51.cells 2 rfl) rfl fun _ _ hs52 => ?_); clear hs51
 refine sq rfl (st_indexArr (o' := 1) hs52 (Ev.t 6 rfl) (.const _) rfl rfl runUnderlying53 sizeOf3 (by decide) rfl fun _ _ hs53 => ?_); clear hs52
 refine sq rfl (st_load1 (o := 0) (off := 1) (v := .int .i64 k1) hs53 (Ev.t 0 rfl) rfl rfl isAgg3 (hs53.cells 2 rfl) rfl fun _ _ hs54 => ?_); clear hs53
 refine sq rfl (st_callv (vs := [.agg ⟨(bxL b A n cp A2 n2 c2)⟩, .int .i64 k0, .int .i64 k1]) hs54 (.func _) ⟨(Ev.t 4 rfl), (Ev.t 2 rfl), (Ev.t 0 rfl), trivial⟩ rfl rfl call35 rfl (rCan_v b A n cp A2 n2 c2 _ (hP.kp hs54.kp) hn (hF.kp hs54.kp) hn2 k0 k1) fun _ _ hs55 => ?_); clear hs54
 refine sq rfl (st_move hs55 (Ev.t 0 rfl) rfl rfl fun _ _ hs56 => ?_); clear hs55
 refine sq rfl (st_extract hs56 (Ev.t 0 rfl) rfl rfl rfl fun _ _ hs57 => ?_); clear hs56
 refine sq rfl (st_extract hs57 (Ev.t 1 rfl) rfl rfl rfl fun _ _ hs58 => ?_); clear hs57
 refine sq rfl (st_assign hs58 (Ev.t 1 rfl) rfl rfl fun _ _ hs59 => ?_); clear hs58
 refine sq rfl (st_assign hs59 (Ev.t 1 rfl) rfl rfl fun _ _ hs60 => ?_); clear hs59
 refine hK18 _ _ ?_; clear hK18
 have hs61 := hs60.keep [0, 1, 11, 12, 13, 15] [_, _, _, _, _, _] rfl; clear hs60
 refine cd_seq fun K19 hK19 => ?_
 refine cd_region fun K20 hK20 => ?_
 refine sq rfl (st_move hs61 (Ev.t 3 rfl) rfl rfl fun _ _ hs62 => ?_); clear hs61
 refine sq rfl (st_move hs62 (Ev.t 2 rfl) rfl rfl fun _ _ hs63 => ?_); clear hs62
 refine sq rfl (st_bin hs63 (Ev.t 1 rfl) (Ev.t 0 rfl) (run_neb 4 underlying4 _ _ ((b.canR k0 k1).1) ((b.canR k0 k1).1)) rfl rfl fun _ _ hs64 => ?_); clear hs63
 refine sq rfl (st_move hs64 (Ev.t 0 rfl) rfl rfl fun _ _ hs65 => ?_); clear hs64
 refine sq_gv hs65 (gg := !(((b.canR k0 k1).1) != ((b.canR k0 k1).1))) (v := .int .i64 ((b.canR k0 k1).2)) rfl rfl 0 rfl (ison_f _) rfl rfl rfl (fun hg21 K22 hK22 => st_move hs65 (Ev.t 6 rfl) rfl rfl hK22) fun _ _ hs66 => ?_; clear hs65
 refine sq_gv hs66 (gg := !(((b.canR k0 k1).1) != ((b.canR k0 k1).1))) (v := .int .i64 ((b.canR k0 k1).2)) rfl rfl 1 rfl (ison_f _) rfl rfl rfl (fun hg23 K24 hK24 => st_move hs66 (Ev.t 5 rfl) rfl rfl hK24) fun _ _ hs67 => ?_; clear hs66
 refine sq_gv hs67 (gg := !(((b.canR k0 k1).1) != ((b.canR k0 k1).1))) (v := .bool (((b.canR k0 k1).2 : Int) != ((b.canR k0 k1).2))) rfl rfl 2 rfl (ison_f _) rfl rfl rfl (fun hg25 K26 hK26 => st_cmp (c := ((b.canR k0 k1).2 : Int) != ((b.canR k0 k1).2)) hs67 ((Ev.t 1 rfl).un hg25) ((Ev.t 0 rfl).un hg25) rfl rfl rfl rfl hK26) fun _ _ hs68 => ?_; clear hs67
 refine sq rfl (st_or hs68 (gx := true) (gy := !(((b.canR k0 k1).1) != ((b.canR k0 k1).1))) (Ev.t 3 rfl) rfl (Ev.t 0 rfl) (fun h => (by first | exact absurd h (by decide) | (rw [h]; rfl))) rfl rfl fun _ _ hs69 => ?_); clear hs68
 refine hK20 _ _ ?_; clear hK20
 have hs70 := hs69.keep [0, 12, 13] [_, _, _] rfl; clear hs69
 have hc27 : ((((b.canR k0 k1).1) != ((b.canR k0 k1).1)) || (((b.canR k0 k1).2 : Int) != ((b.canR k0 k1).2))) = false := by simp
 refine cd_cond hs70 (Ev.t 0 rfl) (fun h => absurd (hc27.symm.trans h) (by decide)) (fun _ => ?_)
 refine cd_skip ?_
 refine th_norm (hK19 _ _ ?_)
 refine cd_region fun K28 hK28 => ?_
 refine sq rfl (st_loadA (o := 0) (off := 0) (vs := (bxL b A n cp A2 n2 c2)) hs70 (Ev.t 2 rfl) rfl rfl isAgg25 sizeOf25 (hs70.cells 3 rfl) rfl fun _ _ hs71 => ?_); clear hs70
 refine sq rfl (st_callv (vs := [.agg ⟨(bxL b A n cp A2 n2 c2)⟩]) hs71 (.func _) ⟨(Ev.t 0 rfl), trivial⟩ rfl rfl call12 rfl (Ask_v b A n cp A2 n2 c2 _ (hP.kp hs71.kp) hn (hF.kp hs71.kp) hn2) fun _ _ hs72 => ?_); clear hs71
 refine sq rfl (st_move hs72 (Ev.t 0 rfl) rfl rfl fun _ _ hs73 => ?_); clear hs72
 refine sq rfl (st_extract hs73 (Ev.t 0 rfl) rfl rfl rfl fun _ _ hs74 => ?_); clear hs73
 refine sq rfl (st_extract hs74 (Ev.t 1 rfl) rfl rfl rfl fun _ _ hs75 => ?_); clear hs74
 refine sq rfl (st_assign hs75 (Ev.t 1 rfl) rfl rfl fun _ _ hs76 => ?_); clear hs75
 refine sq rfl (st_assign hs76 (Ev.t 1 rfl) rfl rfl fun _ _ hs77 => ?_); clear hs76
 refine hK28 _ _ ?_; clear hK28
 have hs78 := hs77.keep [0, 1, 8, 9] [_, _, _, _] rfl; clear hs77
 refine cd_region fun K29 hK29 => ?_
 refine sq rfl (st_loadA (o := 0) (off := 0) (vs := (bxL b A n cp A2 n2 c2)) hs78 (Ev.t 3 rfl) rfl rfl isAgg25 sizeOf25 (hs78.cells 3 rfl) rfl fun _ _ hs79 => ?_); clear hs78
 refine sq rfl (st_callv (vs := [.agg ⟨(bxL b A n cp A2 n2 c2)⟩]) hs79 (.func _) ⟨(Ev.t 0 rfl), trivial⟩ rfl rfl call36 rfl (rAsk_v b A n cp A2 n2 c2 _ (hP.kp hs79.kp) hn (hF.kp hs79.kp) hn2) fun _ _ hs80 => ?_); clear hs79
 refine sq rfl (st_move hs80 (Ev.t 0 rfl) rfl rfl fun _ _ hs81 => ?_); clear hs80
 refine sq rfl (st_extract hs81 (Ev.t 0 rfl) rfl rfl rfl fun _ _ hs82 => ?_); clear hs81
 refine sq rfl (st_extract hs82 (Ev.t 1 rfl) rfl rfl rfl fun _ _ hs83 => ?_); clear hs82
 refine sq rfl (st_assign hs83 (Ev.t 1 rfl) rfl rfl fun _ _ hs84 => ?_); clear hs83
 refine sq rfl (st_assign hs84 (Ev.t 1 rfl) rfl rfl fun _ _ hs85 => ?_); clear hs84
 refine hK29 _ _ ?_; clear hK29
 have hs86 := hs85.keep [0, 1, 7, 8, 9] [_, _, _, _, _] rfl; clear hs85
 refine cd_region fun K30 hK30 => ?_
 refine sq rfl (st_move hs86 (Ev.t 3 rfl) rfl rfl fun _ _ hs87 => ?_); clear hs86
 refine sq rfl (st_move hs87 (Ev.t 2 rfl) rfl rfl fun _ _ hs88 => ?_); clear hs87
 refine sq rfl (st_cmp (c := (b.askR.1 : Int) == b.askR.1) hs88 (Ev.t 1 rfl) (Ev.t 0 rfl) rfl rfl rfl rfl fun _ _ hs89 => ?_); clear hs88
 refine sq rfl (st_move hs89 (Ev.t 0 rfl) rfl rfl fun _ _ hs90 => ?_); clear hs89
 refine sq_gv hs90 (gg := (b.askR.1 : Int) == b.askR.1) (v := .int .i64 b.askR.2) rfl rfl 0 rfl (ison_t _) rfl rfl rfl (fun hg31 K32 hK32 => st_move hs90 (Ev.t 6 rfl) rfl rfl hK32) fun _ _ hs91 => ?_; clear hs90
 refine sq_gv hs91 (gg := (b.askR.1 : Int) == b.askR.1) (v := .int .i64 b.askR.2) rfl rfl 1 rfl (ison_t _) rfl rfl rfl (fun hg33 K34 hK34 => st_move hs91 (Ev.t 5 rfl) rfl rfl hK34) fun _ _ hs92 => ?_; clear hs91
 refine sq_gv hs92 (gg := (b.askR.1 : Int) == b.askR.1) (v := .bool ((b.askR.2 : Int) == b.askR.2)) rfl rfl 2 rfl (ison_t _) rfl rfl rfl (fun hg35 K36 hK36 => st_cmp (c := (b.askR.2 : Int) == b.askR.2) hs92 ((Ev.t 1 rfl).un hg35) ((Ev.t 0 rfl).un hg35) rfl rfl rfl rfl hK36) fun _ _ hs93 => ?_; clear hs92
 refine sq rfl (st_and hs93 (gx := true) (gy := (b.askR.1 : Int) == b.askR.1) (Ev.t 3 rfl) rfl (Ev.t 0 rfl) (fun h => h) rfl rfl fun _ _ hs94 => ?_); clear hs93
 refine sq rfl (st_move hs94 (Ev.t 0 rfl) rfl rfl fun _ _ hs95 => ?_); clear hs94
 refine sq_gv hs95 (gg := ((b.askR.1 : Int) == b.askR.1) && ((b.askR.2 : Int) == b.askR.2)) (v := .bool true) rfl rfl 0 rfl (ison_t _) rfl rfl rfl (fun hg37 K38 hK38 => st_callv (vs := []) hs95 (.func _) trivial rfl rfl call14 rfl (counted_v _ (hG.kp hs95.kp (by simp))) hK38) fun _ _ hs96 => ?_; clear hs95
 refine sq rfl (st_and hs96 (gx := true) (gy := ((b.askR.1 : Int) == b.askR.1) && ((b.askR.2 : Int) == b.askR.2)) (Ev.t 1 rfl) rfl (Ev.t 0 rfl) (fun h => h) rfl rfl fun _ _ hs97 => ?_); clear hs96
 have hs98 := hs97.keep [0, 1, 2, 3, 4, 5, 6, 7, 8, 9, 10, 11, 12, 13, 14] [_, _, _, _, _, _, _, _, _, _, _, _, _, _, _] rfl; clear hs97
 refine sq rfl (st_assign hs98 (Ev.t 0 rfl) rfl rfl fun _ _ hs99 => ?_); clear hs98
 refine hK30 _ _ ?_; clear hK30
 have hs100 := hs99.keep [0] [_] rfl; clear hs99
 refine cd_retv (vs := [.bool ((((b.askR.1 : Int) == b.askR.1) && ((b.askR.2 : Int) == b.askR.2)) && true)]) hs100 hQ0 rfl ⟨.tmp 0 rfl, trivial⟩ ?_
 clear hs100 hQ0 hN0
 simp [pack]
end Go.Proofs.YtcnndpedeofbmaaDoor
