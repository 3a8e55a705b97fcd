/- The law TillParts: its walk. -/
import Derived.Test.YtcnndpedeofbmaaDoorUl
import Derived.Test.YtcnndpedeofbmaaDoorRc
set_option maxRecDepth 100000
namespace Go.Proofs.YtcnndpedeofbmaaDoor
open Go Go.Sx Go.Till Go.Proofs.Tryd
theorem TillParts_v (b : Bx) (A : Option Addr) (n cp : Nat) (A2 : Option Addr) (n2 c2 : Nat) (w : World) (hP : RollsAt w A n b.rolls) (hn : n ≤ 140737488351232) (hF : SpsAt w A2 n2 b.free) (hn2 : n2 ≤ 140737488351232) (hG : CellsAt w 0 0 partsL) :
    CallsV Tryd.prog 7 [.agg ⟨(bxL b A n cp A2 n2 c2)⟩] w (.bool true) := by
 refine enter (N := 64) (M := []) w func7 rfl rfl rfl (fun Q0 a_0 hQ0 hN0 hs0 => ?_)
 refine cd_region fun K1 hK1 => ?_
 refine sq rfl (st_box hs0 (Ev.t 0 rfl) rfl rfl rfl fun b2 _ _ hs1 => ?_); clear hs0
 refine sq rfl (st_assign hs1 (.const _) rfl rfl fun _ _ hs2 => ?_); clear hs1
 refine hK1 _ _ ?_; clear hK1
 have hs3 := hs2.keep [0, 1] [_, _] rfl; clear hs2
 refine cd_region fun K3 hK3 => ?_
 refine sq rfl (st_loadA (o := 0) (off := 0) (vs := (bxL b A n cp A2 n2 c2)) hs3 (Ev.t 1 rfl) rfl rfl isAgg25 sizeOf25 (hs3.cells 0 rfl) rfl fun _ _ hs4 => ?_); clear hs3
 refine sq rfl (st_callv (vs := [.agg ⟨(bxL b A n cp A2 n2 c2)⟩]) hs4 (.func _) ⟨(Ev.t 0 rfl), trivial⟩ rfl rfl call25 rfl (Takings_v b A n cp A2 n2 c2 _ (hP.kp hs4.kp) hn (hF.kp hs4.kp) hn2 (hG.kp hs4.kp (by simp))) fun _ _ hs5 => ?_); clear hs4
 refine sq rfl (st_move hs5 (Ev.t 0 rfl) rfl rfl fun _ _ hs6 => ?_); clear hs5
 refine sq rfl (st_extract hs6 (Ev.t 0 rfl) rfl rfl rfl fun _ _ hs7 => ?_); clear hs6
 refine sq rfl (st_extract hs7 (Ev.t 1 rfl) rfl rfl rfl fun _ _ hs8 => ?_); clear hs7
 refine sq rfl (st_alloc hs8 rfl rfl zeroValue35 rfl fun b4 _ _ hs9 => ?_); clear hs8
 refine sq rfl (st_store (l' := [.int .i64 ((b.betweenR wholeI).1.lo), .int .i64 ((b.betweenR wholeI).1.hi)]) (vs := [.int .i64 ((b.betweenR wholeI).1.lo), .int .i64 ((b.betweenR wholeI).1.hi)]) (i := 0) hs9 (Ev.t 0 rfl) (Ev.t 2 rfl) sizeOf35 rfl rfl rfl rfl rfl rfl fun _ _ hs10 => ?_); clear hs9
 have hs11 := hs10.asB [_, _] rfl; clear hs10
 refine sq rfl (st_assign hs11 (Ev.t 1 rfl) rfl rfl fun _ _ hs12 => ?_); clear hs11
 refine hK3 _ _ ?_; clear hK3
 have hs13 := hs12.keep [0, 1, 7, 8] [_, _, _, _] rfl; clear hs12
 refine cd_region fun K5 hK5 => ?_
 refine sq rfl (st_loadA (o := 0) (off := 0) (vs := (bxL b A n cp A2 n2 c2)) hs13 (Ev.t 3 rfl) rfl rfl isAgg25 sizeOf25 (hs13.cells 1 rfl) rfl fun _ _ hs14 => ?_); clear hs13
 refine sq rfl (st_callv (vs := [.agg ⟨(bxL b A n cp A2 n2 c2)⟩]) hs14 (.func _) ⟨(Ev.t 0 rfl), trivial⟩ rfl rfl call37 rfl (rTakings_v b A n cp A2 n2 c2 _ (hP.kp hs14.kp) hn (hF.kp hs14.kp) hn2) fun _ _ hs15 => ?_); clear hs14
 refine sq rfl (st_move hs15 (Ev.t 0 rfl) rfl rfl fun _ _ hs16 => ?_); clear hs15
 refine sq rfl (st_extract hs16 (Ev.t 0 rfl) rfl rfl rfl fun _ _ hs17 => ?_); clear hs16
 refine sq rfl (st_extract hs17 (Ev.t 1 rfl) rfl rfl rfl fun _ _ hs18 => ?_); clear hs17
 refine sq rfl (st_alloc hs18 rfl rfl zeroValue35 rfl fun b6 _ _ hs19 => ?_); clear hs18
 refine sq rfl (st_store (l' := [.int .i64 ((b.betweenR wholeI).1.lo), .int .i64 ((b.betweenR wholeI).1.hi)]) (vs := [.int .i64 ((b.betweenR wholeI).1.lo), .int .i64 ((b.betweenR wholeI).1.hi)]) (i := 0) hs19 (Ev.t 0 rfl) (Ev.t 2 rfl) sizeOf35 rfl rfl rfl rfl rfl rfl fun _ _ hs20 => ?_); clear hs19
 have hs21 := hs20.asB [_, _, _] rfl; clear hs20
 refine sq rfl (st_assign hs21 (Ev.t 1 rfl) rfl rfl fun _ _ hs22 => ?_); clear hs21
 refine hK5 _ _ ?_; clear hK5
 have hs23 := hs22.keep [0, 1, 7, 8, 9, 10] [_, _, _, _, _, _] rfl; clear hs22
 refine cd_seq fun K7 hK7 => ?_
 refine cd_region fun K8 hK8 => ?_
 refine sq rfl (st_loadA (o := 0) (off := 0) (vs := [.int .i64 ((b.betweenR wholeI).1.lo), .int .i64 ((b.betweenR wholeI).1.hi)]) hs23 (Ev.t 3 rfl) rfl rfl isAgg35 sizeOf35 (hs23.cells 1 rfl) rfl fun _ _ hs24 => ?_); clear hs23
 refine sq rfl (st_loadA (o := 0) (off := 0) (vs := [.int .i64 ((b.betweenR wholeI).1.lo), .int .i64 ((b.betweenR wholeI).1.hi)]) hs24 (Ev.t 2 rfl) rfl rfl isAgg35 sizeOf35 (hs24.cells 0 rfl) rfl fun _ _ hs25 => ?_); clear hs24
 refine sq rfl (st_bin hs25 (Ev.t 1 rfl) (Ev.t 0 rfl) (run_neq_35 _ _ ((b.betweenR wholeI).1.lo) ((b.betweenR wholeI).1.hi) ((b.betweenR wholeI).1.lo) ((b.betweenR wholeI).1.hi)) rfl rfl fun _ _ hs26 => ?_); clear hs25
 refine sq rfl (st_move hs26 (Ev.t 0 rfl) rfl rfl fun _ _ hs27 => ?_); clear hs26
 refine sq_gv hs27 (gg := !(!((((b.betweenR wholeI).1.lo : Int) == (b.betweenR wholeI).1.lo) && (((b.betweenR wholeI).1.hi : Int) == (b.betweenR wholeI).1.hi)))) (v := .int .i64 ((b.betweenR wholeI).2)) rfl rfl 0 rfl (ison_f _) rfl rfl rfl (fun hg9 K10 hK10 => st_move hs27 (Ev.t 6 rfl) rfl rfl hK10) fun _ _ hs28 => ?_; clear hs27
 refine sq_gv hs28 (gg := !(!((((b.betweenR wholeI).1.lo : Int) == (b.betweenR wholeI).1.lo) && (((b.betweenR wholeI).1.hi : Int) == (b.betweenR wholeI).1.hi)))) (v := .int .i64 ((b.betweenR wholeI).2)) rfl rfl 1 rfl (ison_f _) rfl rfl rfl (fun hg11 K12 hK12 => st_move hs28 (Ev.t 5 rfl) rfl rfl hK12) fun _ _ hs29 => ?_; clear hs28
 refine sq_gv hs29 (gg := !(!((((b.betweenR wholeI).1.lo : Int) == (b.betweenR wholeI).1.lo) && (((b.betweenR wholeI).1.hi : Int) == (b.betweenR wholeI).1.hi)))) (v := .bool (((b.betweenR wholeI).2 : Int) != ((b.betweenR wholeI).2))) rfl rfl 2 rfl (ison_f _) rfl rfl rfl (fun hg13 K14 hK14 => st_cmp (c := ((b.betweenR wholeI).2 : Int) != ((b.betweenR wholeI).2)) hs29 ((Ev.t 1 rfl).un hg13) ((Ev.t 0 rfl).un hg13) rfl rfl rfl rfl hK14) fun _ _ hs30 => ?_; clear hs29
 refine sq rfl (st_or hs30 (gx := true) (gy := !(!((((b.betweenR wholeI).1.lo : Int) == (b.betweenR wholeI).1.lo) && (((b.betweenR wholeI).1.hi : Int) == (b.betweenR wholeI).1.hi)))) (Ev.t 3 rfl) rfl (Ev.t 0 rfl) (fun h => (by first | exact absurd h (by decide) | (rw [h]; rfl))) rfl rfl fun _ _ hs31 => ?_); clear hs30
 refine hK8 _ _ ?_; clear hK8
 have hs32 := hs31.keep [0, 9, 11, 12, 13] [_, _, _, _, _] rfl; clear hs31
 have hc15 : ((!((((b.betweenR wholeI).1.lo : Int) == (b.betweenR wholeI).1.lo) && (((b.betweenR wholeI).1.hi : Int) == (b.betweenR wholeI).1.hi))) || (((b.betweenR wholeI).2 : Int) != ((b.betweenR wholeI).2))) = false := by simp
 refine cd_cond hs32 (Ev.t 0 rfl) (fun h => absurd (hc15.symm.trans h) (by decide)) (fun _ => ?_)
 refine cd_skip ?_
 refine th_norm (hK7 _ _ ?_)
 refine cd_region fun K16 hK16 => ?_
 refine sq rfl (st_loadA (o := 0) (off := 0) (vs := (bxL b A n cp A2 n2 c2)) hs32 (Ev.t 4 rfl) rfl rfl isAgg25 sizeOf25 (hs32.cells 2 rfl) rfl fun _ _ hs33 => ?_); clear hs32
 refine sq rfl (st_callv (vs := [.agg ⟨(bxL b A n cp A2 n2 c2)⟩]) hs33 (.func _) ⟨(Ev.t 0 rfl), trivial⟩ rfl rfl call26 rfl (Hire_v b A n cp A2 n2 c2 _ (hP.kp hs33.kp) hn (hF.kp hs33.kp) hn2 (hG.kp hs33.kp (by simp))) fun _ _ hs34 => ?_); clear hs33
 refine sq rfl (st_move hs34 (Ev.t 0 rfl) rfl rfl fun _ _ hs35 => ?_); clear hs34
 refine sq rfl (st_extract hs35 (Ev.t 0 rfl) rfl rfl rfl fun _ _ hs36 => ?_); clear hs35
 refine sq rfl (st_extract hs36 (Ev.t 1 rfl) rfl rfl rfl fun _ _ hs37 => ?_); clear hs36
 refine sq rfl (st_store (l' := [.int .i64 ((b.betweenR hireI).1.lo), .int .i64 ((b.betweenR hireI).1.hi)]) (vs := [.int .i64 ((b.betweenR hireI).1.lo), .int .i64 ((b.betweenR hireI).1.hi)]) (i := 1) hs37 (Ev.t 7 rfl) (Ev.t 1 rfl) sizeOf35 rfl rfl rfl rfl rfl rfl fun _ _ hs38 => ?_); clear hs37
 have hs39 := hs38.asB [_, _, _] rfl; clear hs38
 refine sq rfl (st_assign hs39 (Ev.t 0 rfl) rfl rfl fun _ _ hs40 => ?_); clear hs39
 refine hK16 _ _ ?_; clear hK16
 have hs41 := hs40.keep [0, 7, 8, 9, 10] [_, _, _, _, _] rfl; clear hs40
 refine cd_region fun K17 hK17 => ?_
 refine sq rfl (st_loadA (o := 0) (off := 0) (vs := (bxL b A n cp A2 n2 c2)) hs41 (Ev.t 4 rfl) rfl rfl isAgg25 sizeOf25 (hs41.cells 2 rfl) rfl fun _ _ hs42 => ?_); clear hs41
 refine sq rfl (st_callv (vs := [.agg ⟨(bxL b A n cp A2 n2 c2)⟩]) hs42 (.func _) ⟨(Ev.t 0 rfl), trivial⟩ rfl rfl call38 rfl (rHire_v b A n cp A2 n2 c2 _ (hP.kp hs42.kp) hn (hF.kp hs42.kp) hn2) fun _ _ hs43 => ?_); clear hs42
 refine sq rfl (st_move hs43 (Ev.t 0 rfl) rfl rfl fun _ _ hs44 => ?_); clear hs43
 refine sq rfl (st_extract hs44 (Ev.t 0 rfl) rfl rfl rfl fun _ _ hs45 => ?_); clear hs44
 refine sq rfl (st_extract hs45 (Ev.t 1 rfl) rfl rfl rfl fun _ _ hs46 => ?_); clear hs45
 refine sq rfl (st_store (l' := [.int .i64 ((b.betweenR hireI).1.lo), .int .i64 ((b.betweenR hireI).1.hi)]) (vs := [.int .i64 ((b.betweenR hireI).1.lo), .int .i64 ((b.betweenR hireI).1.hi)]) (i := 0) hs46 (Ev.t 6 rfl) (Ev.t 1 rfl) sizeOf35 rfl rfl rfl rfl rfl rfl fun _ _ hs47 => ?_); clear hs46
 have hs48 := hs47.asB [_, _, _] rfl; clear hs47
 refine sq rfl (st_assign hs48 (Ev.t 0 rfl) rfl rfl fun _ _ hs49 => ?_); clear hs48
 refine hK17 _ _ ?_; clear hK17
 have hs50 := hs49.keep [0, 6, 7, 8, 9, 10] [_, _, _, _, _, _] rfl; clear hs49
 refine cd_seq fun K18 hK18 => ?_
 refine cd_region fun K19 hK19 => ?_
 refine sq rfl (st_loadA (o := 0) (off := 0) (vs := [.int .i64 ((b.betweenR hireI).1.lo), .int .i64 ((b.betweenR hireI).1.hi)]) hs50 (Ev.t 3 rfl) rfl rfl isAgg35 sizeOf35 (hs50.cells 1 rfl) rfl fun _ _ hs51 => ?_); clear hs50
 refine sq rfl (st_loadA (o := 0) (off := 0) (vs := [.int .i64 ((b.betweenR hireI).1.lo), .int .i64 ((b.betweenR hireI).1.hi)]) hs51 (Ev.t 3 rfl) rfl rfl isAgg35 sizeOf35 (hs51.cells 0 rfl) rfl fun _ _ hs52 => ?_); clear hs51
 refine sq rfl (st_bin hs52 (Ev.t 1 rfl) (Ev.t 0 rfl) (run_neq_35 _ _ ((b.betweenR hireI).1.lo) ((b.betweenR hireI).1.hi) ((b.betweenR hireI).1.lo) ((b.betweenR hireI).1.hi)) rfl rfl fun _ _ hs53 => ?_); clear hs52
 refine sq rfl (st_move hs53 (Ev.t 0 rfl) rfl rfl fun _ _ hs54 => ?_); clear hs53
 refine sq_gv hs54 (gg := !(!((((b.betweenR hireI).1.lo : Int) == (b.betweenR hireI).1.lo) && (((b.betweenR hireI).1.hi : Int) == (b.betweenR hireI).1.hi)))) (v := .int .i64 ((b.betweenR hireI).2)) rfl rfl 0 rfl (ison_f _) rfl rfl rfl (fun hg20 K21 hK21 => st_move hs54 (Ev.t 5 rfl) rfl rfl hK21) fun _ _ hs55 => ?_; clear hs54
 refine sq_gv hs55 (gg := !(!((((b.betweenR hireI).1.lo : Int) == (b.betweenR hireI).1.lo) && (((b.betweenR hireI).1.hi : Int) == (b.betweenR hireI).1.hi)))) (v := .int .i64 ((b.betweenR hireI).2)) rfl rfl 1 rfl (ison_f _) rfl rfl rfl (fun hg22 K23 hK23 => st_move hs55 (Ev.t 5 rfl) rfl rfl hK23) fun _ _ hs56 => ?_; clear hs55
 refine sq_gv hs56 (gg := !(!((((b.betweenR hireI).1.lo : Int) == (b.betweenR hireI).1.lo) && (((b.betweenR hireI).1.hi : Int) == (b.betweenR hireI).1.hi)))) (v := .bool (((b.betweenR hireI).2 : Int) != ((b.betweenR hireI).2))) rfl rfl 2 rfl (ison_f _) rfl rfl rfl (fun hg24 K25 hK25 => st_cmp (c := ((b.betweenR hireI).2 : Int) != ((b.betweenR hireI).2)) hs56 ((Ev.t 1 rfl).un hg24) ((Ev.t 0 rfl).un hg24) rfl rfl rfl rfl hK25) fun _ _ hs57 => ?_; clear hs56
 refine sq rfl (st_or hs57 (gx := true) (gy := !(!((((b.betweenR hireI).1.lo : Int) == (b.betweenR hireI).1.lo) && (((b.betweenR hireI).1.hi : Int) == (b.betweenR hireI).1.hi)))) (Ev.t 3 rfl) rfl (Ev.t 0 rfl) (fun h => (by first | exact absurd h (by decide) | (rw [h]; rfl))) rfl rfl fun _ _ hs58 => ?_); clear hs57
 refine hK19 _ _ ?_; clear hK19
 have hs59 := hs58.keep [0, 10, 11, 12, 13] [_, _, _, _, _] rfl; clear hs58
 have hc26 : ((!((((b.betweenR hireI).1.lo : Int) == (b.betweenR hireI).1.lo) && (((b.betweenR hireI).1.hi : Int) == (b.betweenR hireI).1.hi))) || (((b.betweenR hireI).2 : Int) != ((b.betweenR hireI).2))) = false := by simp
 refine cd_cond hs59 (Ev.t 0 rfl) (fun h => absurd (hc26.symm.trans h) (by decide)) (fun _ => ?_)
 refine cd_skip ?_
 refine th_norm (hK18 _ _ ?_)
 refine cd_region fun K27 hK27 => ?_
 refine sq rfl (st_loadA (o := 0) (off := 0) (vs := (bxL b A n cp A2 n2 c2)) hs59 (Ev.t 4 rfl) rfl rfl isAgg25 sizeOf25 (hs59.cells 2 rfl) rfl fun _ _ hs60 => ?_); clear hs59
 refine sq rfl (st_callv (vs := [.agg ⟨(bxL b A n cp A2 n2 c2)⟩]) hs60 (.func _) ⟨(Ev.t 0 rfl), trivial⟩ rfl rfl call27 rfl (Left_v b A n cp A2 n2 c2 _ (hP.kp hs60.kp) hn (hF.kp hs60.kp) hn2 (hG.kp hs60.kp (by simp))) fun _ _ hs61 => ?_); clear hs60
 refine sq rfl (st_move hs61 (Ev.t 0 rfl) rfl rfl fun _ _ hs62 => ?_); clear hs61
 refine sq rfl (st_extract hs62 (Ev.t 0 rfl) rfl rfl rfl fun _ _ hs63 => ?_); clear hs62
 refine sq rfl (st_extract hs63 (Ev.t 1 rfl) rfl rfl rfl fun _ _ hs64 => ?_); clear hs63
 refine sq rfl (st_store (l' := [.int .i64 ((b.betweenR leftI).1.lo), .int .i64 ((b.betweenR leftI).1.hi)]) (vs := [.int .i64 ((b.betweenR leftI).1.lo), .int .i64 ((b.betweenR leftI).1.hi)]) (i := 1) hs64 (Ev.t 7 rfl) (Ev.t 1 rfl) sizeOf35 rfl rfl rfl rfl rfl rfl fun _ _ hs65 => ?_); clear hs64
 have hs66 := hs65.asB [_, _, _] rfl; clear hs65
 refine sq rfl (st_assign hs66 (Ev.t 0 rfl) rfl rfl fun _ _ hs67 => ?_); clear hs66
 refine hK27 _ _ ?_; clear hK27
 have hs68 := hs67.keep [0, 7, 8, 9, 10] [_, _, _, _, _] rfl; clear hs67
 refine cd_region fun K28 hK28 => ?_
 refine sq rfl (st_loadA (o := 0) (off := 0) (vs := (bxL b A n cp A2 n2 c2)) hs68 (Ev.t 4 rfl) rfl rfl isAgg25 sizeOf25 (hs68.cells 2 rfl) rfl fun _ _ hs69 => ?_); clear hs68
 refine sq rfl (st_callv (vs := [.agg ⟨(bxL b A n cp A2 n2 c2)⟩]) hs69 (.func _) ⟨(Ev.t 0 rfl), trivial⟩ rfl rfl call39 rfl (rLeft_v b A n cp A2 n2 c2 _ (hP.kp hs69.kp) hn (hF.kp hs69.kp) hn2) fun _ _ hs70 => ?_); clear hs69
 refine sq rfl (st_move hs70 (Ev.t 0 rfl) rfl rfl fun _ _ hs71 => ?_); clear hs70
 refine sq rfl (st_extract hs71 (Ev.t 0 rfl) rfl rfl rfl fun _ _ hs72 => ?_); clear hs71
 refine sq rfl (st_extract hs72 (Ev.t 1 rfl) rfl rfl rfl fun _ _ hs73 => ?_); clear hs72
 refine sq rfl (st_store (l' := [.int .i64 ((b.betweenR leftI).1.lo), .int .i64 ((b.betweenR leftI).1.hi)]) (vs := [.int .i64 ((b.betweenR leftI).1.lo), .int .i64 ((b.betweenR leftI).1.hi)]) (i := 0) hs73 (Ev.t 6 rfl) (Ev.t 1 rfl) sizeOf35 rfl rfl rfl rfl rfl rfl fun _ _ hs74 => ?_); clear hs73
 have hs75 := hs74.asB [_, _, _] rfl; clear hs74
 refine sq rfl (st_assign hs75 (Ev.t 0 rfl) rfl rfl fun _ _ hs76 => ?_); clear hs75
 refine hK28 _ _ ?_; clear hK28
 have hs77 := hs76.keep [0, 6, 7, 8, 9] [_, _, _, _, _] rfl; clear hs76
 refine cd_region fun K29 hK29 => ?_
 refine sq rfl (st_loadA (o := 0) (off := 0) (vs := [.int .i64 ((b.betweenR leftI).1.lo), .int .i64 ((b.betweenR leftI).1.hi)]) hs77 (Ev.t 3 rfl) rfl rfl isAgg35 sizeOf35 (hs77.cells 1 rfl) rfl fun _ _ hs78 => ?_); clear hs77
 refine sq rfl (st_loadA (o := 0) (off := 0) (vs := [.int .i64 ((b.betweenR leftI).1.lo), .int .i64 ((b.betweenR leftI).1.hi)]) hs78 (Ev.t 3 rfl) rfl rfl isAgg35 sizeOf35 (hs78.cells 0 rfl) rfl fun _ _ hs79 => ?_); clear hs78
 refine sq rfl (st_bin hs79 (Ev.t 1 rfl) (Ev.t 0 rfl) (run_eql_35 _ _ ((b.betweenR leftI).1.lo) ((b.betweenR leftI).1.hi) ((b.betweenR leftI).1.lo) ((b.betweenR leftI).1.hi)) rfl rfl fun _ _ hs80 => ?_); clear hs79
 refine sq rfl (st_move hs80 (Ev.t 0 rfl) rfl rfl fun _ _ hs81 => ?_); clear hs80
 refine sq_gv hs81 (gg := ((((b.betweenR leftI).1.lo : Int) == (b.betweenR leftI).1.lo) && (((b.betweenR leftI).1.hi : Int) == (b.betweenR leftI).1.hi))) (v := .int .i64 ((b.betweenR leftI).2)) rfl rfl 0 rfl (ison_t _) rfl rfl rfl (fun hg30 K31 hK31 => st_move hs81 (Ev.t 5 rfl) rfl rfl hK31) fun _ _ hs82 => ?_; clear hs81
 refine sq_gv hs82 (gg := ((((b.betweenR leftI).1.lo : Int) == (b.betweenR leftI).1.lo) && (((b.betweenR leftI).1.hi : Int) == (b.betweenR leftI).1.hi))) (v := .int .i64 ((b.betweenR leftI).2)) rfl rfl 1 rfl (ison_t _) rfl rfl rfl (fun hg32 K33 hK33 => st_move hs82 (Ev.t 5 rfl) rfl rfl hK33) fun _ _ hs83 => ?_; clear hs82
 refine sq_gv hs83 (gg := ((((b.betweenR leftI).1.lo : Int) == (b.betweenR leftI).1.lo) && (((b.betweenR leftI).1.hi : Int) == (b.betweenR leftI).1.hi))) (v := .bool (((b.betweenR leftI).2 : Int) == ((b.betweenR leftI).2))) rfl rfl 2 rfl (ison_t _) rfl rfl rfl (fun hg34 K35 hK35 => st_cmp (c := ((b.betweenR leftI).2 : Int) == ((b.betweenR leftI).2)) hs83 ((Ev.t 1 rfl).un hg34) ((Ev.t 0 rfl).un hg34) rfl rfl rfl rfl hK35) fun _ _ hs84 => ?_; clear hs83
 refine sq rfl (st_and hs84 (gx := true) (gy := ((((b.betweenR leftI).1.lo : Int) == (b.betweenR leftI).1.lo) && (((b.betweenR leftI).1.hi : Int) == (b.betweenR leftI).1.hi))) (Ev.t 3 rfl) rfl (Ev.t 0 rfl) (fun h => h) rfl rfl fun _ _ hs85 => ?_); clear hs84
 refine sq rfl (st_move hs85 (Ev.t 0 rfl) rfl rfl fun _ _ hs86 => ?_); clear hs85
 refine sq_gv hs86 (gg := ((((b.betweenR leftI).1.lo : Int) == (b.betweenR leftI).1.lo) && (((b.betweenR leftI).1.hi : Int) == (b.betweenR leftI).1.hi)) && (((b.betweenR leftI).2 : Int) == ((b.betweenR leftI).2))) (v := .bool true) rfl rfl 0 rfl (ison_t _) rfl rfl rfl (fun hg36 K37 hK37 => st_callv (vs := []) hs86 (.func _) trivial rfl rfl call14 rfl (counted_v _ (hG.kp hs86.kp (by simp))) hK37) fun _ _ hs87 => ?_; clear hs86
 refine sq rfl (st_and hs87 (gx := true) (gy := ((((b.betweenR leftI).1.lo : Int) == (b.betweenR leftI).1.lo) && (((b.betweenR leftI).1.hi : Int) == (b.betweenR leftI).1.hi)) && (((b.betweenR leftI).2 : Int) == ((b.betweenR leftI).2))) (Ev.t 1 rfl) rfl (Ev.t 0 rfl) (fun h => h) rfl rfl fun _ _ hs88 => ?_); clear hs87
 have hs89 := hs88.keep [0, 1, 2, 3, 4, 5, 6, 7, 8, 9, 10, 11, 12, 13, 14] [_, _, _, _, _, _, _, _, _, _, _, _, _, _, _] rfl; clear hs88
 refine sq rfl (st_assign hs89 (Ev.t 0 rfl) rfl rfl fun _ _ hs90 => ?_); clear hs89
 refine hK29 _ _ ?_; clear hK29
 have hs91 := hs90.keep [0] [_] rfl; clear hs90
 refine cd_retv (vs := [.bool ((((((b.betweenR leftI).1.lo : Int) == (b.betweenR leftI).1.lo) && (((b.betweenR leftI).1.hi : Int) == (b.betweenR leftI).1.hi)) && (((b.betweenR leftI).2 : Int) == ((b.betweenR leftI).2))) && true)]) hs91 hQ0 rfl ⟨.tmp 0 rfl, trivial⟩ ?_
 clear hs91 hQ0 hN0
 simp [pack]
end Go.Proofs.YtcnndpedeofbmaaDoor
