/- The engine's functions that only reckon: each hands back what its Lean text says. -/
import Derived.Test.YtdbcedmofoakmaaDoorEt
import Derived.Test.YtdbcedmofoakmaaDoorEm
set_option maxRecDepth 100000
namespace Go.Proofs.YtdbcedmofoakmaaDoor
open Go Go.Sx Go.Eng Go.Proofs.Tryd
theorem within_v (n lo hi : Int) (w : World) :
    CallsV Tryd.prog 48 [.int .i64 n, .int .i64 lo, .int .i64 hi] w (.bool (within n lo hi)) := by
 refine enter (N := 15) (M := []) w func48 rfl rfl rfl (fun Q0 a_0 hQ0 hN0 hs0 => ?_)
 refine cd_region fun K1 hK1 => ?_
 refine sq rfl (st_assign hs0 (.const _) rfl rfl fun _ _ hs1 => ?_); clear hs0
 refine hK1 _ _ ?_; clear hK1
 refine cd_region fun K2 hK2 => ?_
 refine sq rfl (st_move hs1 (Ev.t 2 rfl) rfl rfl fun _ _ hs2 => ?_); clear hs1
 refine sq rfl (st_move hs2 (Ev.t 2 rfl) rfl rfl fun _ _ hs3 => ?_); clear hs2
 refine sq rfl (st_cmp (c := decide ((lo : Int) ≤ n)) hs3 (Ev.t 1 rfl) (Ev.t 0 rfl) rfl rfl rfl rfl fun _ _ hs4 => ?_); clear hs3
 refine sq rfl (st_move hs4 (Ev.t 0 rfl) rfl rfl fun _ _ hs5 => ?_); clear hs4
 refine sq_gv hs5 (gg := decide ((lo : Int) ≤ n)) (v := .int .i64 n) rfl rfl 0 rfl (ison_t _) rfl rfl rfl (fun hg3 K4 hK4 => st_move hs5 (Ev.t 5 rfl) rfl rfl hK4) fun _ _ hs6 => ?_; clear hs5
 refine sq_gv hs6 (gg := decide ((lo : Int) ≤ n)) (v := .int .i64 hi) rfl rfl 1 rfl (ison_t _) rfl rfl rfl (fun hg5 K6 hK6 => st_move hs6 (Ev.t 8 rfl) rfl rfl hK6) fun _ _ hs7 => ?_; clear hs6
 refine sq_gv hs7 (gg := decide ((lo : Int) ≤ n)) (v := .bool (decide ((n : Int) ≤ hi))) rfl rfl 2 rfl (ison_t _) rfl rfl rfl (fun hg7 K8 hK8 => st_cmp (c := decide ((n : Int) ≤ hi)) hs7 ((Ev.t 1 rfl).un hg7) ((Ev.t 0 rfl).un hg7) rfl rfl rfl rfl hK8) fun _ _ hs8 => ?_; clear hs7
 refine sq rfl (st_and hs8 (gx := true) (gy := decide ((lo : Int) ≤ n)) (Ev.t 3 rfl) rfl (Ev.t 0 rfl) (fun h => h) rfl rfl fun _ _ hs9 => ?_); clear hs8
 have hs10 := hs9.keep [0, 1, 2, 3, 4, 5, 6, 7, 9, 10, 11] [_, _, _, _, _, _, _, _, _, _, _] rfl; clear hs9
 refine sq rfl (st_assign hs10 (Ev.t 0 rfl) rfl rfl fun _ _ hs11 => ?_); clear hs10
 refine hK2 _ _ ?_; clear hK2
 have hs12 := hs11.keep [0] [_] rfl; clear hs11
 refine cd_retv (vs := [.bool ((decide ((lo : Int) ≤ n)) && (decide ((n : Int) ≤ hi)))]) hs12 hQ0 rfl ⟨.tmp 0 rfl, trivial⟩ ?_
 clear hs12 hQ0 hN0
 rfl

theorem amid_v (n lo hi : Int) (w : World) :
    CallsV Tryd.prog 37 [.int .i64 n, .int .i64 lo, .int .i64 hi] w (.bool (within n lo hi)) := by
 refine enter (N := 15) (M := []) w func37 rfl rfl rfl (fun Q0 a_0 hQ0 hN0 hs0 => ?_)
 refine cd_region fun K1 hK1 => ?_
 refine sq rfl (st_assign hs0 (.const _) rfl rfl fun _ _ hs1 => ?_); clear hs0
 refine hK1 _ _ ?_; clear hK1
 refine cd_region fun K2 hK2 => ?_
 refine sq rfl (st_move hs1 (Ev.t 1 rfl) rfl rfl fun _ _ hs2 => ?_); clear hs1
 refine sq rfl (st_move hs2 (Ev.t 3 rfl) rfl rfl fun _ _ hs3 => ?_); clear hs2
 refine sq rfl (st_cmp (c := decide ((n : Int) ≥ lo)) hs3 (Ev.t 1 rfl) (Ev.t 0 rfl) rfl rfl rfl rfl fun _ _ hs4 => ?_); clear hs3
 refine sq rfl (st_move hs4 (Ev.t 0 rfl) rfl rfl fun _ _ hs5 => ?_); clear hs4
 refine sq_gv hs5 (gg := decide ((n : Int) ≥ lo)) (v := .int .i64 n) rfl rfl 0 rfl (ison_t _) rfl rfl rfl (fun hg3 K4 hK4 => st_move hs5 (Ev.t 5 rfl) rfl rfl hK4) fun _ _ hs6 => ?_; clear hs5
 refine sq_gv hs6 (gg := decide ((n : Int) ≥ lo)) (v := .int .i64 hi) rfl rfl 1 rfl (ison_t _) rfl rfl rfl (fun hg5 K6 hK6 => st_move hs6 (Ev.t 8 rfl) rfl rfl hK6) fun _ _ hs7 => ?_; clear hs6
 refine sq_gv hs7 (gg := decide ((n : Int) ≥ lo)) (v := .bool (decide ((n : Int) ≤ hi))) rfl rfl 2 rfl (ison_t _) rfl rfl rfl (fun hg7 K8 hK8 => st_cmp (c := decide ((n : Int) ≤ hi)) hs7 ((Ev.t 1 rfl).un hg7) ((Ev.t 0 rfl).un hg7) rfl rfl rfl rfl hK8) fun _ _ hs8 => ?_; clear hs7
 refine sq rfl (st_and hs8 (gx := true) (gy := decide ((n : Int) ≥ lo)) (Ev.t 3 rfl) rfl (Ev.t 0 rfl) (fun h => h) rfl rfl fun _ _ hs9 => ?_); clear hs8
 have hs10 := hs9.keep [0, 1, 2, 3, 4, 5, 6, 7, 9, 10, 11] [_, _, _, _, _, _, _, _, _, _, _] rfl; clear hs9
 refine sq rfl (st_assign hs10 (Ev.t 0 rfl) rfl rfl fun _ _ hs11 => ?_); clear hs10
 refine hK2 _ _ ?_; clear hK2
 have hs12 := hs11.keep [0] [_] rfl; clear hs11
 refine cd_retv (vs := [.bool ((decide ((n : Int) ≥ lo)) && (decide ((n : Int) ≤ hi)))]) hs12 hQ0 rfl ⟨.tmp 0 rfl, trivial⟩ ?_
 clear hs12 hQ0 hN0
 rfl

theorem isSpan_v (a z lo hi : Int) (w : World) :
    CallsV Tryd.prog 50 [.agg ⟨[.int .i64 a, .int .i64 z]⟩, .int .i64 lo, .int .i64 hi] w (.bool (okSpan a z lo hi)) := by
 refine enter (N := 24) (M := []) w func50 rfl rfl rfl (fun Q0 a_0 hQ0 hN0 hs0 => ?_)
 refine cd_region fun K1 hK1 => ?_
 refine sq rfl (st_box hs0 (Ev.t 0 rfl) rfl rfl rfl fun b2 _ _ hs1 => ?_); clear hs0
 refine sq rfl (st_assign hs1 (.const _) rfl rfl fun _ _ hs2 => ?_); clear hs1
 refine hK1 _ _ ?_; clear hK1
 have hs3 := hs2.keep [0, 1, 3, 4] [_, _, _, _] rfl; clear hs2
 refine cd_region fun K3 hK3 => ?_
 refine sq rfl (st_move hs3 (Ev.t 2 rfl) rfl rfl fun _ _ hs4 => ?_); clear hs3
 refine sq rfl (st_field (o' := 0) hs4 (Ev.t 2 rfl) rfl rfl runUnderlying23 rfl sizeOf3 rfl rfl fun _ _ hs5 => ?_); clear hs4
 refine sq rfl (st_load1 (o := 0) (off := 0) (v := .int .i64 a) hs5 (Ev.t 0 rfl) rfl rfl isAgg3 (hs5.cells 0 rfl) rfl fun _ _ hs6 => ?_); clear hs5
 refine sq rfl (st_cmp (c := decide ((lo : Int) ≤ a)) hs6 (Ev.t 2 rfl) (Ev.t 0 rfl) rfl rfl rfl rfl fun _ _ hs7 => ?_); clear hs6
 refine sq rfl (st_move hs7 (Ev.t 0 rfl) rfl rfl fun _ _ hs8 => ?_); clear hs7
 refine sq_gv hs8 (gg := decide ((lo : Int) ≤ a)) (v := .pointer (some ⟨b2, 0, none⟩)) rfl rfl 0 rfl (ison_t _) rfl rfl rfl (fun hg4 K5 hK5 => st_field (o' := 0) hs8 (Ev.t 6 rfl) rfl rfl runUnderlying23 rfl sizeOf3 rfl rfl hK5) fun _ _ hs9 => ?_; clear hs8
 refine sq_gv hs9 (gg := decide ((lo : Int) ≤ a)) (v := .int .i64 a) rfl rfl 1 rfl (ison_t _) rfl rfl rfl (fun hg6 K7 hK7 => st_load1 (o := 0) (off := 0) (v := .int .i64 a) hs9 ((Ev.t 0 rfl).un hg6) rfl rfl isAgg3 (hs9.cells 0 rfl) rfl hK7) fun _ _ hs10 => ?_; clear hs9
 refine sq_gv hs10 (gg := decide ((lo : Int) ≤ a)) (v := .pointer (some ⟨b2, 1, none⟩)) rfl rfl 2 rfl (ison_t _) rfl rfl rfl (fun hg8 K9 hK9 => st_field (o' := 1) hs10 (Ev.t 8 rfl) rfl rfl runUnderlying23 rfl sizeOf3 rfl rfl hK9) fun _ _ hs11 => ?_; clear hs10
 refine sq_gv hs11 (gg := decide ((lo : Int) ≤ a)) (v := .int .i64 z) rfl rfl 3 rfl (ison_t _) rfl rfl rfl (fun hg10 K11 hK11 => st_load1 (o := 0) (off := 1) (v := .int .i64 z) hs11 ((Ev.t 0 rfl).un hg10) rfl rfl isAgg3 (hs11.cells 0 rfl) rfl hK11) fun _ _ hs12 => ?_; clear hs11
 refine sq_gv hs12 (gg := decide ((lo : Int) ≤ a)) (v := .bool (decide ((a : Int) ≤ z))) rfl rfl 4 rfl (ison_t _) rfl rfl rfl (fun hg12 K13 hK13 => st_cmp (c := decide ((a : Int) ≤ z)) hs12 ((Ev.t 2 rfl).un hg12) ((Ev.t 0 rfl).un hg12) rfl rfl rfl rfl hK13) fun _ _ hs13 => ?_; clear hs12
 refine sq rfl (st_and hs13 (gx := true) (gy := decide ((lo : Int) ≤ a)) (Ev.t 5 rfl) rfl (Ev.t 0 rfl) (fun h => h) rfl rfl fun _ _ hs14 => ?_); clear hs13
 refine sq rfl (st_move hs14 (Ev.t 0 rfl) rfl rfl fun _ _ hs15 => ?_); clear hs14
 refine sq_gv hs15 (gg := (decide ((lo : Int) ≤ a)) && (decide ((a : Int) ≤ z))) (v := .pointer (some ⟨b2, 1, none⟩)) rfl rfl 0 rfl (ison_t _) rfl rfl rfl (fun hg14 K15 hK15 => st_field (o' := 1) hs15 (Ev.t 13 rfl) rfl rfl runUnderlying23 rfl sizeOf3 rfl rfl hK15) fun _ _ hs16 => ?_; clear hs15
 refine sq_gv hs16 (gg := (decide ((lo : Int) ≤ a)) && (decide ((a : Int) ≤ z))) (v := .int .i64 z) rfl rfl 1 rfl (ison_t _) rfl rfl rfl (fun hg16 K17 hK17 => st_load1 (o := 0) (off := 1) (v := .int .i64 z) hs16 ((Ev.t 0 rfl).un hg16) rfl rfl isAgg3 (hs16.cells 0 rfl) rfl hK17) fun _ _ hs17 => ?_; clear hs16
 refine sq_gv hs17 (gg := (decide ((lo : Int) ≤ a)) && (decide ((a : Int) ≤ z))) (v := .int .i64 hi) rfl rfl 2 rfl (ison_t _) rfl rfl rfl (fun hg18 K19 hK19 => st_move hs17 (Ev.t 17 rfl) rfl rfl hK19) fun _ _ hs18 => ?_; clear hs17
 refine sq_gv hs18 (gg := (decide ((lo : Int) ≤ a)) && (decide ((a : Int) ≤ z))) (v := .bool (decide ((z : Int) ≤ hi))) rfl rfl 3 rfl (ison_t _) rfl rfl rfl (fun hg20 K21 hK21 => st_cmp (c := decide ((z : Int) ≤ hi)) hs18 ((Ev.t 1 rfl).un hg20) ((Ev.t 0 rfl).un hg20) rfl rfl rfl rfl hK21) fun _ _ hs19 => ?_; clear hs18
 refine sq rfl (st_and hs19 (gx := true) (gy := (decide ((lo : Int) ≤ a)) && (decide ((a : Int) ≤ z))) (Ev.t 4 rfl) rfl (Ev.t 0 rfl) (fun h => h) rfl rfl fun _ _ hs20 => ?_); clear hs19
 have hs21 := hs20.keep [0, 1, 2, 3, 4, 5, 6, 7, 8, 9, 10, 11, 12, 13, 14, 15, 16, 18, 19, 20] [_, _, _, _, _, _, _, _, _, _, _, _, _, _, _, _, _, _, _, _] rfl; clear hs20
 refine sq rfl (st_assign hs21 (Ev.t 0 rfl) rfl rfl fun _ _ hs22 => ?_); clear hs21
 refine hK3 _ _ ?_; clear hK3
 have hs23 := hs22.keep [0] [_] rfl; clear hs22
 refine cd_retv (vs := [.bool (((decide ((lo : Int) ≤ a)) && (decide ((a : Int) ≤ z))) && (decide ((z : Int) ≤ hi)))]) hs23 hQ0 rfl ⟨.tmp 0 rfl, trivial⟩ ?_
 clear hs23 hQ0 hN0
 rfl

theorem legal_v (a z lo hi : Int) (w : World) :
    CallsV Tryd.prog 51 [.agg ⟨[.int .i64 a, .int .i64 z]⟩, .int .i64 lo, .int .i64 hi] w (.bool (okSpan a z lo hi)) := by
 refine enter (N := 24) (M := []) w func51 rfl rfl rfl (fun Q0 a_0 hQ0 hN0 hs0 => ?_)
 refine cd_region fun K1 hK1 => ?_
 refine sq rfl (st_box hs0 (Ev.t 0 rfl) rfl rfl rfl fun b2 _ _ hs1 => ?_); clear hs0
 refine sq rfl (st_assign hs1 (.const _) rfl rfl fun _ _ hs2 => ?_); clear hs1
 refine hK1 _ _ ?_; clear hK1
 have hs3 := hs2.keep [0, 1, 3, 4] [_, _, _, _] rfl; clear hs2
 refine cd_region fun K3 hK3 => ?_
 refine sq rfl (st_move hs3 (Ev.t 2 rfl) rfl rfl fun _ _ hs4 => ?_); clear hs3
 refine sq rfl (st_field (o' := 0) hs4 (Ev.t 2 rfl) rfl rfl runUnderlying23 rfl sizeOf3 rfl rfl fun _ _ hs5 => ?_); clear hs4
 refine sq rfl (st_load1 (o := 0) (off := 0) (v := .int .i64 a) hs5 (Ev.t 0 rfl) rfl rfl isAgg3 (hs5.cells 0 rfl) rfl fun _ _ hs6 => ?_); clear hs5
 refine sq rfl (st_cmp (c := decide ((lo : Int) ≤ a)) hs6 (Ev.t 2 rfl) (Ev.t 0 rfl) rfl rfl rfl rfl fun _ _ hs7 => ?_); clear hs6
 refine sq rfl (st_move hs7 (Ev.t 0 rfl) rfl rfl fun _ _ hs8 => ?_); clear hs7
 refine sq_gv hs8 (gg := decide ((lo : Int) ≤ a)) (v := .pointer (some ⟨b2, 0, none⟩)) rfl rfl 0 rfl (ison_t _) rfl rfl rfl (fun hg4 K5 hK5 => st_field (o' := 0) hs8 (Ev.t 6 rfl) rfl rfl runUnderlying23 rfl sizeOf3 rfl rfl hK5) fun _ _ hs9 => ?_; clear hs8
 refine sq_gv hs9 (gg := decide ((lo : Int) ≤ a)) (v := .int .i64 a) rfl rfl 1 rfl (ison_t _) rfl rfl rfl (fun hg6 K7 hK7 => st_load1 (o := 0) (off := 0) (v := .int .i64 a) hs9 ((Ev.t 0 rfl).un hg6) rfl rfl isAgg3 (hs9.cells 0 rfl) rfl hK7) fun _ _ hs10 => ?_; clear hs9
 refine sq_gv hs10 (gg := decide ((lo : Int) ≤ a)) (v := .pointer (some ⟨b2, 1, none⟩)) rfl rfl 2 rfl (ison_t _) rfl rfl rfl (fun hg8 K9 hK9 => st_field (o' := 1) hs10 (Ev.t 8 rfl) rfl rfl runUnderlying23 rfl sizeOf3 rfl rfl hK9) fun _ _ hs11 => ?_; clear hs10
 refine sq_gv hs11 (gg := decide ((lo : Int) ≤ a)) (v := .int .i64 z) rfl rfl 3 rfl (ison_t _) rfl rfl rfl (fun hg10 K11 hK11 => st_load1 (o := 0) (off := 1) (v := .int .i64 z) hs11 ((Ev.t 0 rfl).un hg10) rfl rfl isAgg3 (hs11.cells 0 rfl) rfl hK11) fun _ _ hs12 => ?_; clear hs11
 refine sq_gv hs12 (gg := decide ((lo : Int) ≤ a)) (v := .bool (decide ((a : Int) ≤ z))) rfl rfl 4 rfl (ison_t _) rfl rfl rfl (fun hg12 K13 hK13 => st_cmp (c := decide ((a : Int) ≤ z)) hs12 ((Ev.t 2 rfl).un hg12) ((Ev.t 0 rfl).un hg12) rfl rfl rfl rfl hK13) fun _ _ hs13 => ?_; clear hs12
 refine sq rfl (st_and hs13 (gx := true) (gy := decide ((lo : Int) ≤ a)) (Ev.t 5 rfl) rfl (Ev.t 0 rfl) (fun h => h) rfl rfl fun _ _ hs14 => ?_); clear hs13
 refine sq rfl (st_move hs14 (Ev.t 0 rfl) rfl rfl fun _ _ hs15 => ?_); clear hs14
 refine sq_gv hs15 (gg := (decide ((lo : Int) ≤ a)) && (decide ((a : Int) ≤ z))) (v := .pointer (some ⟨b2, 1, none⟩)) rfl rfl 0 rfl (ison_t _) rfl rfl rfl (fun hg14 K15 hK15 => st_field (o' := 1) hs15 (Ev.t 13 rfl) rfl rfl runUnderlying23 rfl sizeOf3 rfl rfl hK15) fun _ _ hs16 => ?_; clear hs15
 refine sq_gv hs16 (gg := (decide ((lo : Int) ≤ a)) && (decide ((a : Int) ≤ z))) (v := .int .i64 z) rfl rfl 1 rfl (ison_t _) rfl rfl rfl (fun hg16 K17 hK17 => st_load1 (o := 0) (off := 1) (v := .int .i64 z) hs16 ((Ev.t 0 rfl).un hg16) rfl rfl isAgg3 (hs16.cells 0 rfl) rfl hK17) fun _ _ hs17 => ?_; clear hs16
 refine sq_gv hs17 (gg := (decide ((lo : Int) ≤ a)) && (decide ((a : Int) ≤ z))) (v := .int .i64 hi) rfl rfl 2 rfl (ison_t _) rfl rfl rfl (fun hg18 K19 hK19 => st_move hs17 (Ev.t 17 rfl) rfl rfl hK19) fun _ _ hs18 => ?_; clear hs17
 refine sq_gv hs18 (gg := (decide ((lo : Int) ≤ a)) && (decide ((a : Int) ≤ z))) (v := .bool (decide ((z : Int) ≤ hi))) rfl rfl 3 rfl (ison_t _) rfl rfl rfl (fun hg20 K21 hK21 => st_cmp (c := decide ((z : Int) ≤ hi)) hs18 ((Ev.t 1 rfl).un hg20) ((Ev.t 0 rfl).un hg20) rfl rfl rfl rfl hK21) fun _ _ hs19 => ?_; clear hs18
 refine sq rfl (st_and hs19 (gx := true) (gy := (decide ((lo : Int) ≤ a)) && (decide ((a : Int) ≤ z))) (Ev.t 4 rfl) rfl (Ev.t 0 rfl) (fun h => h) rfl rfl fun _ _ hs20 => ?_); clear hs19
 have hs21 := hs20.keep [0, 1, 2, 3, 4, 5, 6, 7, 8, 9, 10, 11, 12, 13, 14, 15, 16, 18, 19, 20] [_, _, _, _, _, _, _, _, _, _, _, _, _, _, _, _, _, _, _, _] rfl; clear hs20
 refine sq rfl (st_assign hs21 (Ev.t 0 rfl) rfl rfl fun _ _ hs22 => ?_); clear hs21
 refine hK3 _ _ ?_; clear hK3
 have hs23 := hs22.keep [0] [_] rfl; clear hs22
 refine cd_retv (vs := [.bool (((decide ((lo : Int) ≤ a)) && (decide ((a : Int) ≤ z))) && (decide ((z : Int) ≤ hi)))]) hs23 hQ0 rfl ⟨.tmp 0 rfl, trivial⟩ ?_
 clear hs23 hQ0 hN0
 rfl

theorem S_v (lo hi : Int) (w : World) :
    CallsV Tryd.prog 40 [.int .i64 lo, .int .i64 hi] w (.agg ⟨[.int .i64 lo, .int .i64 hi]⟩) := by
 refine enter (N := 8) (M := []) w func40 rfl rfl rfl (fun Q0 a_0 hQ0 hN0 hs0 => ?_)
 refine cd_region fun K1 hK1 => ?_
 refine sq rfl (st_alloc hs0 rfl rfl zeroValue23 rfl fun b2 _ _ hs1 => ?_); clear hs0
 refine hK1 _ _ ?_; clear hK1
 refine cd_region fun K3 hK3 => ?_
 refine sq rfl (st_move hs1 (Ev.t 1 rfl) rfl rfl fun _ _ hs2 => ?_); clear hs1
 refine sq rfl (st_move hs2 (Ev.t 3 rfl) rfl rfl fun _ _ hs3 => ?_); clear hs2
 refine sq rfl (st_build hs3 (qs := [(0, .int .i64 lo), (1, .int .i64 hi)]) (v := .agg ⟨[.int .i64 lo, .int .i64 hi]⟩) ⟨(Ev.t 1 rfl), (Ev.t 0 rfl), trivial⟩ rfl rfl rfl (fun _ => by kernel_rfl) fun _ _ hs4 => ?_); clear hs3
 refine sq rfl (st_store (l' := [.int .i64 lo, .int .i64 hi]) (vs := [.int .i64 lo, .int .i64 hi]) (i := 0) hs4 (Ev.t 3 rfl) (Ev.t 0 rfl) sizeOf23 rfl rfl rfl rfl rfl rfl fun _ _ hs5 => ?_); clear hs4
 have hs6 := hs5.asB [_] rfl; clear hs5
 refine hK3 _ _ ?_; clear hK3
 have hs7 := hs6.keep [3] [_] rfl; clear hs6
 refine cd_retv (vs := [.agg ⟨[.int .i64 lo, .int .i64 hi]⟩]) hs7 hQ0 rfl ⟨resA (o := 0) (off := 0) (vs := [.int .i64 lo, .int .i64 hi]) 0 rfl isAgg23 sizeOf23 (hs7.cells 0 rfl) rfl, trivial⟩ ?_
 clear hs7 hQ0 hN0
 rfl

theorem nothing_v  (w : World) :
    CallsV Tryd.prog 85 [] w (.agg ⟨[.int .i64 0, .int .i64 0]⟩) := by
 refine enter (N := 3) (M := []) w func85 rfl rfl rfl (fun Q0 a_0 hQ0 hN0 hs0 => ?_)
 refine cd_region fun K1 hK1 => ?_
 refine sq rfl (st_alloc hs0 rfl rfl zeroValue103 rfl fun b2 _ _ hs1 => ?_); clear hs0
 refine hK1 _ _ ?_; clear hK1
 refine cd_region fun K3 hK3 => ?_
 refine sq rfl (st_alloc hs1 rfl rfl zeroValue103 rfl fun b4 _ _ hs2 => ?_); clear hs1
 refine hK3 _ _ ?_; clear hK3
 refine cd_region fun K5 hK5 => ?_
 refine sq rfl (st_loadA (o := 0) (off := 0) (vs := [.int .i64 0, .int .i64 0]) hs2 (Ev.t 0 rfl) rfl rfl isAgg103 sizeOf103 (hs2.cells 0 rfl) rfl fun _ _ hs3 => ?_); clear hs2
 refine sq rfl (st_store (l' := [.int .i64 0, .int .i64 0]) (vs := [.int .i64 0, .int .i64 0]) (i := 1) hs3 (Ev.t 2 rfl) (Ev.t 0 rfl) sizeOf103 rfl rfl rfl rfl rfl rfl fun _ _ hs4 => ?_); clear hs3
 have hs5 := hs4.asB [_, _] rfl; clear hs4
 refine hK5 _ _ ?_; clear hK5
 have hs6 := hs5.keep [2] [_] rfl; clear hs5
 refine cd_retv (vs := [.agg ⟨[.int .i64 0, .int .i64 0]⟩]) hs6 hQ0 rfl ⟨resA (o := 0) (off := 0) (vs := [.int .i64 0, .int .i64 0]) 0 rfl isAgg103 sizeOf103 (hs6.cells 1 rfl) rfl, trivial⟩ ?_
 clear hs6 hQ0 hN0
 rfl

theorem low1_v (a z : Int) (w : World) :
    CallsV Tryd.prog 81 [.agg ⟨[.int .i64 a, .int .i64 z]⟩] w (.tuple ⟨[.int .i64 a, .int .i64 z]⟩) := by
 refine enter (N := 8) (M := []) w func81 rfl rfl rfl (fun Q0 a_0 hQ0 hN0 hs0 => ?_)
 refine cd_region fun K1 hK1 => ?_
 refine sq rfl (st_box hs0 (Ev.t 0 rfl) rfl rfl rfl fun b2 _ _ hs1 => ?_); clear hs0
 refine sq rfl (st_assign hs1 (.const _) rfl rfl fun _ _ hs2 => ?_); clear hs1
 refine sq rfl (st_assign hs2 (.const _) rfl rfl fun _ _ hs3 => ?_); clear hs2
 refine hK1 _ _ ?_; clear hK1
 have hs4 := hs3.keep [0, 1, 2] [_, _, _] rfl; clear hs3
 have hs5 := hs4.keep [0, 2] [_, _] rfl; clear hs4
 refine cd_drawn mixed hs5 [⟨4, [], Is (.pointer (some ⟨b2, 0, none⟩))⟩, ⟨5, [0], Is (.int .i64 a)⟩, ⟨6, [], Is (.pointer (some ⟨b2, 1, none⟩))⟩, ⟨7, [2], Is (.int .i64 z)⟩, ⟨2, [1], Is (.int .i64 a)⟩] (by kernel_rfl) (by kernel_rfl) fun K3 hK3 => ⟨⟨?_, ?_, ?_, ?_, ?_, trivial⟩, ?_⟩
 · rintro T_ B_ a_ w_ K_ hT hB hf hsD hk
   exact ob rfl rfl (st_field (o' := 0) hsD (evT hT 1 rfl) rfl hf runUnderlying23 rfl sizeOf3 rfl rfl fun _ _ => hk _ _ _ _ ⟨rfl, rfl⟩)
 · rintro T_ B_ a_ w_ K_ hT hB _ _ ⟨rfl, rfl⟩ h4 - hf hsD hk
   exact ob rfl rfl (st_load1 (o := 0) (off := 0) (v := .int .i64 a) hsD (Ev.tmp h4) rfl hf isAgg3 (hsD.cellsM (inB hB 0 rfl)) rfl fun _ _ => hk _ _ _ _ ⟨rfl, rfl⟩)
 · rintro T_ B_ a_ w_ K_ hT hB hf hsD hk
   exact ob rfl rfl (st_field (o' := 1) hsD (evT hT 1 rfl) rfl hf runUnderlying23 rfl sizeOf3 rfl rfl fun _ _ => hk _ _ _ _ ⟨rfl, rfl⟩)
 · rintro T_ B_ a_ w_ K_ hT hB _ _ ⟨rfl, rfl⟩ h6 - hf hsD hk
   exact ob rfl rfl (st_load1 (o := 0) (off := 1) (v := .int .i64 z) hsD (Ev.tmp h6) rfl hf isAgg3 (hsD.cellsM (inB hB 0 rfl)) rfl fun _ _ => hk _ _ _ _ ⟨rfl, rfl⟩)
 · rintro T_ B_ a_ w_ K_ hT hB _ _ ⟨rfl, rfl⟩ h5 - hf hsD hk
   exact ob rfl rfl (st_assign hsD (Ev.tmp h5) rfl hf fun _ _ => hk _ _ _ _ ⟨rfl, rfl⟩)
 rintro _ _ ⟨rfl, rfl⟩ _ _ ⟨rfl, rfl⟩ _ _ ⟨rfl, rfl⟩ _ _ ⟨rfl, rfl⟩ _ _ ⟨rfl, rfl⟩ a_6 w_6 hs6; clear hs5
 have hs7 := Sx.as (T' := [_, _, _, _, _, _, _]) (B' := [_]) rfl rfl hs6; clear hs6
 have hs8 := hs7.keep [0, 1, 2, 3, 4, 6] [_, _, _, _, _, _] rfl; clear hs7
 refine sq rfl (st_assign hs8 (Ev.t 3 rfl) rfl rfl fun _ _ hs9 => ?_); clear hs8
 refine hK3 _ _ ?_; clear hK3
 have hs10 := hs9.keep [0, 5] [_, _] rfl; clear hs9
 refine cd_retv (vs := [.int .i64 a, .int .i64 z]) hs10 hQ0 rfl ⟨.tmp 1 rfl, .tmp 0 rfl, trivial⟩ ?_
 clear hs10 hQ0 hN0
 rfl

theorem high1_v (a z : Int) (w : World) :
    CallsV Tryd.prog 82 [.agg ⟨[.int .i64 a, .int .i64 z]⟩] w (.tuple ⟨[.int .i64 z, .int .i64 a]⟩) := by
 refine enter (N := 8) (M := []) w func82 rfl rfl rfl (fun Q0 a_0 hQ0 hN0 hs0 => ?_)
 refine cd_region fun K1 hK1 => ?_
 refine sq rfl (st_box hs0 (Ev.t 0 rfl) rfl rfl rfl fun b2 _ _ hs1 => ?_); clear hs0
 refine sq rfl (st_assign hs1 (.const _) rfl rfl fun _ _ hs2 => ?_); clear hs1
 refine sq rfl (st_assign hs2 (.const _) rfl rfl fun _ _ hs3 => ?_); clear hs2
 refine hK1 _ _ ?_; clear hK1
 have hs4 := hs3.keep [0, 1, 2] [_, _, _] rfl; clear hs3
 have hs5 := hs4.keep [0, 2] [_, _] rfl; clear hs4
 refine cd_drawn mixed hs5 [⟨4, [], Is (.pointer (some ⟨b2, 1, none⟩))⟩, ⟨5, [0], Is (.int .i64 z)⟩, ⟨6, [], Is (.pointer (some ⟨b2, 0, none⟩))⟩, ⟨7, [2], Is (.int .i64 a)⟩, ⟨2, [1], Is (.int .i64 z)⟩] (by kernel_rfl) (by kernel_rfl) fun K3 hK3 => ⟨⟨?_, ?_, ?_, ?_, ?_, trivial⟩, ?_⟩
 · rintro T_ B_ a_ w_ K_ hT hB hf hsD hk
   exact ob rfl rfl (st_field (o' := 1) hsD (evT hT 1 rfl) rfl hf runUnderlying23 rfl sizeOf3 rfl rfl fun _ _ => hk _ _ _ _ ⟨rfl, rfl⟩)
 · rintro T_ B_ a_ w_ K_ hT hB _ _ ⟨rfl, rfl⟩ h4 - hf hsD hk
   exact ob rfl rfl (st_load1 (o := 0) (off := 1) (v := .int .i64 z) hsD (Ev.tmp h4) rfl hf isAgg3 (hsD.cellsM (inB hB 0 rfl)) rfl fun _ _ => hk _ _ _ _ ⟨rfl, rfl⟩)
 · rintro T_ B_ a_ w_ K_ hT hB hf hsD hk
   exact ob rfl rfl (st_field (o' := 0) hsD (evT hT 1 rfl) rfl hf runUnderlying23 rfl sizeOf3 rfl rfl fun _ _ => hk _ _ _ _ ⟨rfl, rfl⟩)
 · rintro T_ B_ a_ w_ K_ hT hB _ _ ⟨rfl, rfl⟩ h6 - hf hsD hk
   exact ob rfl rfl (st_load1 (o := 0) (off := 0) (v := .int .i64 a) hsD (Ev.tmp h6) rfl hf isAgg3 (hsD.cellsM (inB hB 0 rfl)) rfl fun _ _ => hk _ _ _ _ ⟨rfl, rfl⟩)
 · rintro T_ B_ a_ w_ K_ hT hB _ _ ⟨rfl, rfl⟩ h5 - hf hsD hk
   exact ob rfl rfl (st_assign hsD (Ev.tmp h5) rfl hf fun _ _ => hk _ _ _ _ ⟨rfl, rfl⟩)
 rintro _ _ ⟨rfl, rfl⟩ _ _ ⟨rfl, rfl⟩ _ _ ⟨rfl, rfl⟩ _ _ ⟨rfl, rfl⟩ _ _ ⟨rfl, rfl⟩ a_6 w_6 hs6; clear hs5
 have hs7 := Sx.as (T' := [_, _, _, _, _, _, _]) (B' := [_]) rfl rfl hs6; clear hs6
 have hs8 := hs7.keep [0, 1, 2, 3, 4, 6] [_, _, _, _, _, _] rfl; clear hs7
 refine sq rfl (st_assign hs8 (Ev.t 3 rfl) rfl rfl fun _ _ hs9 => ?_); clear hs8
 refine hK3 _ _ ?_; clear hK3
 have hs10 := hs9.keep [0, 5] [_, _] rfl; clear hs9
 refine cd_retv (vs := [.int .i64 z, .int .i64 a]) hs10 hQ0 rfl ⟨.tmp 1 rfl, .tmp 0 rfl, trivial⟩ ?_
 clear hs10 hQ0 hN0
 rfl

theorem low_v  (w : World) :
    CallsV Tryd.prog 72 [] w (.agg ⟨[.func (.func 81) ⟨[]⟩ ⟨[]⟩]⟩) := by
 refine enter (N := 2) (M := []) w func72 rfl rfl rfl (fun Q0 a_0 hQ0 hN0 hs0 => ?_)
 refine cd_region fun K1 hK1 => ?_
 refine sq rfl (st_alloc hs0 rfl rfl zeroValue107 rfl fun b2 _ _ hs1 => ?_); clear hs0
 refine hK1 _ _ ?_; clear hK1
 refine cd_region fun K3 hK3 => ?_
 refine sq rfl (st_build hs1 (qs := [(0, .func (.func 81) ⟨[]⟩ ⟨[]⟩)]) (v := .agg ⟨[.func (.func 81) ⟨[]⟩ ⟨[]⟩]⟩) ⟨(.func _), trivial⟩ rfl rfl rfl (fun _ => by kernel_rfl) fun _ _ hs2 => ?_); clear hs1
 refine sq rfl (st_store (l' := [.func (.func 81) ⟨[]⟩ ⟨[]⟩]) (vs := [.func (.func 81) ⟨[]⟩ ⟨[]⟩]) (i := 0) hs2 (Ev.t 1 rfl) (Ev.t 0 rfl) sizeOf107 rfl rfl rfl rfl rfl rfl fun _ _ hs3 => ?_); clear hs2
 have hs4 := hs3.asB [_] rfl; clear hs3
 refine hK3 _ _ ?_; clear hK3
 have hs5 := hs4.keep [1] [_] rfl; clear hs4
 refine cd_retv (vs := [.agg ⟨[.func (.func 81) ⟨[]⟩ ⟨[]⟩]⟩]) hs5 hQ0 rfl ⟨resA (o := 0) (off := 0) (vs := [.func (.func 81) ⟨[]⟩ ⟨[]⟩]) 0 rfl isAgg107 sizeOf107 (hs5.cells 0 rfl) rfl, trivial⟩ ?_
 clear hs5 hQ0 hN0
 rfl

theorem high_v  (w : World) :
    CallsV Tryd.prog 73 [] w (.agg ⟨[.func (.func 82) ⟨[]⟩ ⟨[]⟩]⟩) := by
 refine enter (N := 2) (M := []) w func73 rfl rfl rfl (fun Q0 a_0 hQ0 hN0 hs0 => ?_)
 refine cd_region fun K1 hK1 => ?_
 refine sq rfl (st_alloc hs0 rfl rfl zeroValue107 rfl fun b2 _ _ hs1 => ?_); clear hs0
 refine hK1 _ _ ?_; clear hK1
 refine cd_region fun K3 hK3 => ?_
 refine sq rfl (st_build hs1 (qs := [(0, .func (.func 82) ⟨[]⟩ ⟨[]⟩)]) (v := .agg ⟨[.func (.func 82) ⟨[]⟩ ⟨[]⟩]⟩) ⟨(.func _), trivial⟩ rfl rfl rfl (fun _ => by kernel_rfl) fun _ _ hs2 => ?_); clear hs1
 refine sq rfl (st_store (l' := [.func (.func 82) ⟨[]⟩ ⟨[]⟩]) (vs := [.func (.func 82) ⟨[]⟩ ⟨[]⟩]) (i := 0) hs2 (Ev.t 1 rfl) (Ev.t 0 rfl) sizeOf107 rfl rfl rfl rfl rfl rfl fun _ _ hs3 => ?_); clear hs2
 have hs4 := hs3.asB [_] rfl; clear hs3
 refine hK3 _ _ ?_; clear hK3
 have hs5 := hs4.keep [1] [_] rfl; clear hs4
 refine cd_retv (vs := [.agg ⟨[.func (.func 82) ⟨[]⟩ ⟨[]⟩]⟩]) hs5 hQ0 rfl ⟨resA (o := 0) (off := 0) (vs := [.func (.func 82) ⟨[]⟩ ⟨[]⟩]) 0 rfl isAgg107 sizeOf107 (hs5.cells 0 rfl) rfl, trivial⟩ ?_
 clear hs5 hQ0 hN0
 rfl

theorem stands_v (c v : Int) (w : World) :
    CallsV Tryd.prog 75 [.agg ⟨[.int .i64 c, .int .i64 v]⟩] w (.bool (decide (c < 0) || decide (v < 0))) := by
 refine enter (N := 16) (M := []) w func75 rfl rfl rfl (fun Q0 a_0 hQ0 hN0 hs0 => ?_)
 refine cd_region fun K1 hK1 => ?_
 refine sq rfl (st_box hs0 (Ev.t 0 rfl) rfl rfl rfl fun b2 _ _ hs1 => ?_); clear hs0
 refine sq rfl (st_assign hs1 (.const _) rfl rfl fun _ _ hs2 => ?_); clear hs1
 refine hK1 _ _ ?_; clear hK1
 have hs3 := hs2.keep [0, 1] [_, _] rfl; clear hs2
 refine cd_drawn mixed hs3 [⟨3, [], Is (.agg ⟨[.int .i64 c, .int .i64 v]⟩)⟩, ⟨4, [], Is (.agg ⟨[.int .i64 0, .int .i64 0]⟩)⟩, ⟨5, [0, 1], Is (.bool (!(((c : Int) == 0) && ((v : Int) == 0))))⟩, ⟨6, [2], Is (.bool (!(((c : Int) == 0) && ((v : Int) == 0))))⟩, ⟨7, [3], Is (Gv (!(((c : Int) == 0) && ((v : Int) == 0))) (.pointer (some ⟨b2, 0, none⟩)))⟩, ⟨8, [3, 4], Is (Gv (!(((c : Int) == 0) && ((v : Int) == 0))) (.int .i64 c))⟩, ⟨9, [3, 5], Is (Gv (!(((c : Int) == 0) && ((v : Int) == 0))) (.bool (decide ((c : Int) < 0))))⟩, ⟨10, [3, 6], Is (Gv (!(((c : Int) == 0) && ((v : Int) == 0))) (.bool (decide ((c : Int) < 0))))⟩, ⟨11, [7], Is (Gv ((!(((c : Int) == 0) && ((v : Int) == 0))) && (!(decide ((c : Int) < 0)))) (.pointer (some ⟨b2, 1, none⟩)))⟩, ⟨12, [7, 8], Is (Gv ((!(((c : Int) == 0) && ((v : Int) == 0))) && (!(decide ((c : Int) < 0)))) (.int .i64 v))⟩, ⟨13, [7, 9], Is (Gv ((!(((c : Int) == 0) && ((v : Int) == 0))) && (!(decide ((c : Int) < 0)))) (.bool (decide ((v : Int) < 0))))⟩, ⟨14, [3, 7, 10], Is (Gv (!(((c : Int) == 0) && ((v : Int) == 0))) (.bool ((decide ((c : Int) < 0)) || (decide ((v : Int) < 0)))))⟩, ⟨15, [3, 11], Is (.bool ((!(((c : Int) == 0) && ((v : Int) == 0))) && ((decide ((c : Int) < 0)) || (decide ((v : Int) < 0)))))⟩] (by kernel_rfl) (by kernel_rfl) fun K3 hK3 => ⟨⟨?_, ?_, ?_, ?_, ?_, ?_, ?_, ?_, ?_, ?_, ?_, ?_, ?_, trivial⟩, ?_⟩
 · rintro T_ B_ a_ w_ K_ hT hB hf hsD hk
   exact ob rfl rfl (st_loadA (o := 0) (off := 0) (vs := [.int .i64 c, .int .i64 v]) hsD (evT hT 1 rfl) rfl hf isAgg103 sizeOf103 (hsD.cellsM (inB hB 0 rfl)) rfl fun _ _ => hk _ _ _ _ ⟨rfl, rfl⟩)
 · rintro T_ B_ a_ w_ K_ hT hB hf hsD hk
   exact ob rfl rfl (st_callv (vs := []) hsD (.func _) trivial rfl hf call85 rfl (nothing_v  _) fun _ _ => hk _ _ _ _ ⟨rfl, rfl⟩)
 · rintro T_ B_ a_ w_ K_ hT hB _ _ ⟨rfl, rfl⟩ h3 - _ _ ⟨rfl, rfl⟩ h4 - hf hsD hk
   exact ob rfl rfl (st_bin hsD (Ev.tmp h3) (Ev.tmp h4) (run_neq_103 _ _ c v 0 0) rfl hf fun _ _ => hk _ _ _ _ ⟨rfl, rfl⟩)
 · rintro T_ B_ a_ w_ K_ hT hB _ _ ⟨rfl, rfl⟩ h5 - hf hsD hk
   exact ob rfl rfl (st_move hsD (Ev.tmp h5) rfl hf fun _ _ => hk _ _ _ _ ⟨rfl, rfl⟩)
 · rintro T_ B_ a_ w_ K_ hT hB _ _ ⟨rfl, rfl⟩ h6 - hf hsD hk
   exact ob_gv hsD (gg := !(((c : Int) == 0) && ((v : Int) == 0))) (v := .pointer (some ⟨b2, 0, none⟩)) rfl rfl rfl h6 (ison_t _) rfl rfl hf (fun hg K1 hK1 => st_indexArr (o' := 0) hsD (evT hT 1 rfl) (.const _) rfl hf runUnderlying103 sizeOf3 (by decide) rfl hK1) fun _ _ => hk _ _ _ _ ⟨rfl, rfl⟩
 · rintro T_ B_ a_ w_ K_ hT hB _ _ ⟨rfl, rfl⟩ h6 - _ _ ⟨rfl, rfl⟩ h7 - hf hsD hk
   exact ob_gv hsD (gg := !(((c : Int) == 0) && ((v : Int) == 0))) (v := .int .i64 c) rfl rfl rfl h6 (ison_t _) rfl rfl hf (fun hg K1 hK1 => st_load1 (o := 0) (off := 0) (v := .int .i64 c) hsD ((Ev.tmp h7).un hg) rfl hf isAgg3 (hsD.cellsM (inB hB 0 rfl)) rfl hK1) fun _ _ => hk _ _ _ _ ⟨rfl, rfl⟩
 · rintro T_ B_ a_ w_ K_ hT hB _ _ ⟨rfl, rfl⟩ h6 - _ _ ⟨rfl, rfl⟩ h8 - hf hsD hk
   exact ob_gv hsD (gg := !(((c : Int) == 0) && ((v : Int) == 0))) (v := .bool (decide ((c : Int) < 0))) rfl rfl rfl h6 (ison_t _) rfl rfl hf (fun hg K1 hK1 => st_cmp (c := decide ((c : Int) < 0)) hsD ((Ev.tmp h8).un hg) (.const _) rfl hf rfl rfl hK1) fun _ _ => hk _ _ _ _ ⟨rfl, rfl⟩
 · rintro T_ B_ a_ w_ K_ hT hB _ _ ⟨rfl, rfl⟩ h6 - _ _ ⟨rfl, rfl⟩ h9 - hf hsD hk
   exact ob_gv hsD (gg := !(((c : Int) == 0) && ((v : Int) == 0))) (v := .bool (decide ((c : Int) < 0))) rfl rfl rfl h6 (ison_t _) rfl rfl hf (fun hg K1 hK1 => st_move hsD ((Ev.tmp h9).un hg) rfl hf hK1) fun _ _ => hk _ _ _ _ ⟨rfl, rfl⟩
 · rintro T_ B_ a_ w_ K_ hT hB _ _ ⟨rfl, rfl⟩ h10 - hf hsD hk
   exact ob_gv hsD (gg := (!(((c : Int) == 0) && ((v : Int) == 0))) && (!(decide ((c : Int) < 0)))) (v := .pointer (some ⟨b2, 1, none⟩)) rfl rfl rfl h10 (ison_gf _ _) rfl rfl hf (fun hg K1 hK1 => st_indexArr (o' := 1) hsD (evT hT 1 rfl) (.const _) rfl hf runUnderlying103 sizeOf3 (by decide) rfl hK1) fun _ _ => hk _ _ _ _ ⟨rfl, rfl⟩
 · rintro T_ B_ a_ w_ K_ hT hB _ _ ⟨rfl, rfl⟩ h10 - _ _ ⟨rfl, rfl⟩ h11 - hf hsD hk
   exact ob_gv hsD (gg := (!(((c : Int) == 0) && ((v : Int) == 0))) && (!(decide ((c : Int) < 0)))) (v := .int .i64 v) rfl rfl rfl h10 (ison_gf _ _) rfl rfl hf (fun hg K1 hK1 => st_load1 (o := 0) (off := 1) (v := .int .i64 v) hsD ((Ev.tmp h11).un hg) rfl hf isAgg3 (hsD.cellsM (inB hB 0 rfl)) rfl hK1) fun _ _ => hk _ _ _ _ ⟨rfl, rfl⟩
 · rintro T_ B_ a_ w_ K_ hT hB _ _ ⟨rfl, rfl⟩ h10 - _ _ ⟨rfl, rfl⟩ h12 - hf hsD hk
   exact ob_gv hsD (gg := (!(((c : Int) == 0) && ((v : Int) == 0))) && (!(decide ((c : Int) < 0)))) (v := .bool (decide ((v : Int) < 0))) rfl rfl rfl h10 (ison_gf _ _) rfl rfl hf (fun hg K1 hK1 => st_cmp (c := decide ((v : Int) < 0)) hsD ((Ev.tmp h12).un hg) (.const _) rfl hf rfl rfl hK1) fun _ _ => hk _ _ _ _ ⟨rfl, rfl⟩
 · rintro T_ B_ a_ w_ K_ hT hB _ _ ⟨rfl, rfl⟩ h6 - _ _ ⟨rfl, rfl⟩ h10 - _ _ ⟨rfl, rfl⟩ h13 - hf hsD hk
   exact ob_gv hsD (gg := !(((c : Int) == 0) && ((v : Int) == 0))) (v := .bool ((decide ((c : Int) < 0)) || (decide ((v : Int) < 0)))) rfl rfl rfl h6 (ison_t _) rfl rfl hf (fun hg K1 hK1 => st_or hsD (gx := !(((c : Int) == 0) && ((v : Int) == 0))) (gy := (!(((c : Int) == 0) && ((v : Int) == 0))) && (!(decide ((c : Int) < 0)))) (Ev.tmp h10) hg (Ev.tmp h13) (fun h => and_i hg (by first | exact absurd h (by decide) | (rw [h]; rfl))) rfl hf hK1) fun _ _ => hk _ _ _ _ ⟨rfl, rfl⟩
 · rintro T_ B_ a_ w_ K_ hT hB _ _ ⟨rfl, rfl⟩ h6 - _ _ ⟨rfl, rfl⟩ h14 - hf hsD hk
   exact ob rfl rfl (st_and hsD (gx := true) (gy := !(((c : Int) == 0) && ((v : Int) == 0))) (Ev.tmp h6) rfl (Ev.tmp h14) (fun h => h) rfl hf fun _ _ => hk _ _ _ _ ⟨rfl, rfl⟩)
 rintro _ _ ⟨rfl, rfl⟩ _ _ ⟨rfl, rfl⟩ _ _ ⟨rfl, rfl⟩ _ _ ⟨rfl, rfl⟩ _ _ ⟨rfl, rfl⟩ _ _ ⟨rfl, rfl⟩ _ _ ⟨rfl, rfl⟩ _ _ ⟨rfl, rfl⟩ _ _ ⟨rfl, rfl⟩ _ _ ⟨rfl, rfl⟩ _ _ ⟨rfl, rfl⟩ _ _ ⟨rfl, rfl⟩ _ _ ⟨rfl, rfl⟩ a_4 w_4 hs4; clear hs3
 have hs5 := Sx.as (T' := [_, _, _, _, _, _, _, _, _, _, _, _, _, _, _]) (B' := [_]) rfl rfl hs4; clear hs4
 have hs6 := hs5.keep [0, 1, 2, 3, 4, 5, 6, 7, 8, 9, 10, 11, 12, 14] [_, _, _, _, _, _, _, _, _, _, _, _, _, _] rfl; clear hs5
 refine sq rfl (st_assign hs6 (Ev.t 12 rfl) rfl rfl fun _ _ hs7 => ?_); clear hs6
 refine hK3 _ _ ?_; clear hK3
 have hs8 := hs7.keep [0] [_] rfl; clear hs7
 refine cd_retv (vs := [.bool ((!(((c : Int) == 0) && ((v : Int) == 0))) && ((decide ((c : Int) < 0)) || (decide ((v : Int) < 0))))]) hs8 hQ0 rfl ⟨.tmp 0 rfl, trivial⟩ ?_
 clear hs8 hQ0 hN0
 show Value.bool _ = Value.bool _
 congr 1
 by_cases h1 : c < 0 <;> by_cases h2 : v < 0 <;> simp [h1, h2]
 all_goals omega

theorem current_v (b : Book) (A : Option Addr) (n cp : Nat) (k : Int) (w : World) :
    CallsV Tryd.prog 49 [.agg ⟨(bookL b A n cp)⟩, .int .i64 k] w (.agg ⟨[.int .i64 ((if k < b.mark then b.weak else b.full).lo), .int .i64 ((if k < b.mark then b.weak else b.full).hi)]⟩) := by
 refine enter (N := 16) (M := []) w func49 rfl rfl rfl (fun Q0 a_0 hQ0 hN0 hs0 => ?_)
 refine cd_region fun K1 hK1 => ?_
 refine sq rfl (st_box hs0 (Ev.t 0 rfl) rfl rfl rfl fun b2 _ _ hs1 => ?_); clear hs0
 refine sq rfl (st_alloc hs1 rfl rfl zeroValue23 rfl fun b3 _ _ hs2 => ?_); clear hs1
 refine hK1 _ _ ?_; clear hK1
 have hs3 := hs2.keep [0, 1, 3] [_, _, _] rfl; clear hs2
 refine cd_seq fun K4 hK4 => ?_
 refine cd_region fun K5 hK5 => ?_
 refine sq rfl (st_move hs3 (Ev.t 2 rfl) rfl rfl fun _ _ hs4 => ?_); clear hs3
 refine sq rfl (st_field (o' := 0) hs4 (Ev.t 2 rfl) rfl rfl runUnderlying75 rfl sizeOf27 rfl rfl fun _ _ hs5 => ?_); clear hs4
 refine sq rfl (st_field (o' := 20) hs5 (Ev.t 0 rfl) rfl rfl runUnderlying27 rfl sizeOf3 rfl rfl fun _ _ hs6 => ?_); clear hs5
 refine sq rfl (st_load1 (o := 0) (off := 20) (v := .int .i64 b.mark) hs6 (Ev.t 0 rfl) rfl rfl isAgg3 (hs6.cells 1 rfl) rfl fun _ _ hs7 => ?_); clear hs6
 refine sq rfl (st_cmp (c := decide ((k : Int) < b.mark)) hs7 (Ev.t 3 rfl) (Ev.t 0 rfl) rfl rfl rfl rfl fun _ _ hs8 => ?_); clear hs7
 refine hK5 _ _ ?_; clear hK5
 have hs9 := hs8.keep [0, 5, 6] [_, _, _] rfl; clear hs8
 refine cd_cond hs9 (Ev.t 0 rfl) (fun hc6 => ?_) (fun hc6 => ?_)
 · refine cd_region fun K7 hK7 => ?_
   refine sq rfl (st_field (o' := 0) hs9 (Ev.t 2 rfl) rfl rfl runUnderlying75 rfl sizeOf27 rfl rfl fun _ _ hs10 => ?_); clear hs9
   refine sq rfl (st_field (o' := 18) hs10 (Ev.t 0 rfl) rfl rfl runUnderlying27 rfl sizeOf23 rfl rfl fun _ _ hs11 => ?_); clear hs10
   refine sq rfl (st_loadA (o := 0) (off := 18) (vs := [.int .i64 b.weak.lo, .int .i64 b.weak.hi]) hs11 (Ev.t 0 rfl) rfl rfl isAgg23 sizeOf23 (hs11.cells 1 rfl) rfl fun _ _ hs12 => ?_); clear hs11
   refine sq rfl (st_store (l' := [.int .i64 b.weak.lo, .int .i64 b.weak.hi]) (vs := [.int .i64 b.weak.lo, .int .i64 b.weak.hi]) (i := 0) hs12 (Ev.t 4 rfl) (Ev.t 0 rfl) sizeOf23 rfl rfl rfl rfl rfl rfl fun _ _ hs13 => ?_); clear hs12
   have hs14 := hs13.asB [_, _] rfl; clear hs13
   refine hK7 _ _ ?_; clear hK7
   have hs15 := hs14.keep [4] [_] rfl; clear hs14
   refine cd_retv (vs := [.agg ⟨[.int .i64 b.weak.lo, .int .i64 b.weak.hi]⟩]) hs15 (fun a_ w_ h => th_ret (hQ0 a_ w_ h)) rfl ⟨resA (o := 0) (off := 0) (vs := [.int .i64 b.weak.lo, .int .i64 b.weak.hi]) 0 rfl isAgg23 sizeOf23 (hs15.cells 0 rfl) rfl, trivial⟩ ?_
   clear hs15 hQ0 hN0 hK4
   simp_all [pack]
   try (rw [if_neg (by omega)]; exact ⟨rfl, rfl⟩)
 · refine cd_skip ?_
   refine th_norm (hK4 _ _ ?_)
   refine cd_region fun K8 hK8 => ?_
   refine sq rfl (st_field (o' := 0) hs9 (Ev.t 2 rfl) rfl rfl runUnderlying75 rfl sizeOf27 rfl rfl fun _ _ hs10 => ?_); clear hs9
   refine sq rfl (st_field (o' := 16) hs10 (Ev.t 0 rfl) rfl rfl runUnderlying27 rfl sizeOf23 rfl rfl fun _ _ hs11 => ?_); clear hs10
   refine sq rfl (st_loadA (o := 0) (off := 16) (vs := [.int .i64 b.full.lo, .int .i64 b.full.hi]) hs11 (Ev.t 0 rfl) rfl rfl isAgg23 sizeOf23 (hs11.cells 1 rfl) rfl fun _ _ hs12 => ?_); clear hs11
   refine sq rfl (st_store (l' := [.int .i64 b.full.lo, .int .i64 b.full.hi]) (vs := [.int .i64 b.full.lo, .int .i64 b.full.hi]) (i := 0) hs12 (Ev.t 4 rfl) (Ev.t 0 rfl) sizeOf23 rfl rfl rfl rfl rfl rfl fun _ _ hs13 => ?_); clear hs12
   have hs14 := hs13.asB [_, _] rfl; clear hs13
   refine hK8 _ _ ?_; clear hK8
   have hs15 := hs14.keep [4] [_] rfl; clear hs14
   refine cd_retv (vs := [.agg ⟨[.int .i64 b.full.lo, .int .i64 b.full.hi]⟩]) hs15 hQ0 rfl ⟨resA (o := 0) (off := 0) (vs := [.int .i64 b.full.lo, .int .i64 b.full.hi]) 0 rfl isAgg23 sizeOf23 (hs15.cells 0 rfl) rfl, trivial⟩ ?_
   clear hs15 hQ0 hN0
   simp_all [pack]
   try (rw [if_neg (by omega)]; exact ⟨rfl, rfl⟩)

theorem at0_v (b : Book) (A : Option Addr) (n cp : Nat) (w : World) :
    CallsV Tryd.prog 71 [.agg ⟨(bookL b A n cp)⟩, .agg ⟨[.func (.func 81) ⟨[]⟩ ⟨[]⟩]⟩] w (.agg ⟨[.int .i64 b.coal.lo, .int .i64 b.water.lo]⟩) := by
 refine enter (N := 30) (M := []) w func71 rfl rfl rfl (fun Q0 a_0 hQ0 hN0 hs0 => ?_)
 refine cd_region fun K1 hK1 => ?_
 refine sq rfl (st_box hs0 (Ev.t 0 rfl) rfl rfl rfl fun b2 _ _ hs1 => ?_); clear hs0
 refine sq rfl (st_box hs1 (Ev.t 2 rfl) rfl rfl rfl fun b3 _ _ hs2 => ?_); clear hs1
 refine sq rfl (st_alloc hs2 rfl rfl zeroValue103 rfl fun b4 _ _ hs3 => ?_); clear hs2
 refine hK1 _ _ ?_; clear hK1
 have hs4 := hs3.keep [0, 1, 2] [_, _, _] rfl; clear hs3
 refine cd_region fun K5 hK5 => ?_
 refine sq rfl (st_field (o' := 0) hs4 (Ev.t 1 rfl) rfl rfl runUnderlying107 rfl sizeOf105 rfl rfl fun _ _ hs5 => ?_); clear hs4
 refine sq rfl (st_load1 (o := 0) (off := 0) (v := .func (.func 81) ⟨[]⟩ ⟨[]⟩) hs5 (Ev.t 0 rfl) rfl rfl isAgg105 (hs5.cells 1 rfl) rfl fun _ _ hs6 => ?_); clear hs5
 refine sq rfl (st_field (o' := 0) hs6 (Ev.t 4 rfl) rfl rfl runUnderlying75 rfl sizeOf27 rfl rfl fun _ _ hs7 => ?_); clear hs6
 refine sq rfl (st_field (o' := 0) hs7 (Ev.t 0 rfl) rfl rfl runUnderlying27 rfl sizeOf23 rfl rfl fun _ _ hs8 => ?_); clear hs7
 refine sq rfl (st_loadA (o := 0) (off := 0) (vs := [.int .i64 b.coal.lo, .int .i64 b.coal.hi]) hs8 (Ev.t 0 rfl) rfl rfl isAgg23 sizeOf23 (hs8.cells 2 rfl) rfl fun _ _ hs9 => ?_); clear hs8
 refine sq rfl (st_callv (vs := [.agg ⟨[.int .i64 b.coal.lo, .int .i64 b.coal.hi]⟩]) hs9 (Ev.t 3 rfl) ⟨(Ev.t 0 rfl), trivial⟩ rfl rfl call81 rfl (low1_v b.coal.lo b.coal.hi _) fun _ _ hs10 => ?_); clear hs9
 refine sq rfl (st_move hs10 (Ev.t 0 rfl) rfl rfl fun _ _ hs11 => ?_); clear hs10
 refine sq rfl (st_extract hs11 (Ev.t 0 rfl) rfl rfl rfl fun _ _ hs12 => ?_); clear hs11
 refine sq rfl (st_extract hs12 (Ev.t 1 rfl) rfl rfl rfl fun _ _ hs13 => ?_); clear hs12
 refine sq rfl (st_assign hs13 (Ev.t 1 rfl) rfl rfl fun _ _ hs14 => ?_); clear hs13
 refine sq rfl (st_assign hs14 (Ev.t 1 rfl) rfl rfl fun _ _ hs15 => ?_); clear hs14
 refine hK5 _ _ ?_; clear hK5
 have hs16 := hs15.keep [1, 11, 12, 13] [_, _, _, _] rfl; clear hs15
 refine cd_region fun K6 hK6 => ?_
 refine sq rfl (st_field (o' := 0) hs16 (Ev.t 2 rfl) rfl rfl runUnderlying107 rfl sizeOf105 rfl rfl fun _ _ hs17 => ?_); clear hs16
 refine sq rfl (st_load1 (o := 0) (off := 0) (v := .func (.func 81) ⟨[]⟩ ⟨[]⟩) hs17 (Ev.t 0 rfl) rfl rfl isAgg105 (hs17.cells 1 rfl) rfl fun _ _ hs18 => ?_); clear hs17
 refine sq rfl (st_field (o' := 0) hs18 (Ev.t 5 rfl) rfl rfl runUnderlying75 rfl sizeOf27 rfl rfl fun _ _ hs19 => ?_); clear hs18
 refine sq rfl (st_field (o' := 2) hs19 (Ev.t 0 rfl) rfl rfl runUnderlying27 rfl sizeOf23 rfl rfl fun _ _ hs20 => ?_); clear hs19
 refine sq rfl (st_loadA (o := 0) (off := 2) (vs := [.int .i64 b.water.lo, .int .i64 b.water.hi]) hs20 (Ev.t 0 rfl) rfl rfl isAgg23 sizeOf23 (hs20.cells 2 rfl) rfl fun _ _ hs21 => ?_); clear hs20
 refine sq rfl (st_callv (vs := [.agg ⟨[.int .i64 b.water.lo, .int .i64 b.water.hi]⟩]) hs21 (Ev.t 3 rfl) ⟨(Ev.t 0 rfl), trivial⟩ rfl rfl call81 rfl (low1_v b.water.lo b.water.hi _) fun _ _ hs22 => ?_); clear hs21
 refine sq rfl (st_move hs22 (Ev.t 0 rfl) rfl rfl fun _ _ hs23 => ?_); clear hs22
 refine sq rfl (st_extract hs23 (Ev.t 0 rfl) rfl rfl rfl fun _ _ hs24 => ?_); clear hs23
 refine sq rfl (st_extract hs24 (Ev.t 1 rfl) rfl rfl rfl fun _ _ hs25 => ?_); clear hs24
 refine sq rfl (st_assign hs25 (Ev.t 1 rfl) rfl rfl fun _ _ hs26 => ?_); clear hs25
 refine sq rfl (st_assign hs26 (Ev.t 1 rfl) rfl rfl fun _ _ hs27 => ?_); clear hs26
 refine hK6 _ _ ?_; clear hK6
 have hs28 := hs27.keep [1, 11, 12] [_, _, _] rfl; clear hs27
 refine cd_region fun K7 hK7 => ?_
 refine sq rfl (st_move hs28 (Ev.t 1 rfl) rfl rfl fun _ _ hs29 => ?_); clear hs28
 refine sq rfl (st_move hs29 (Ev.t 1 rfl) rfl rfl fun _ _ hs30 => ?_); clear hs29
 refine sq rfl (st_build hs30 (qs := [(0, .int .i64 b.coal.lo), (1, .int .i64 b.water.lo)]) (v := .agg ⟨[.int .i64 b.coal.lo, .int .i64 b.water.lo]⟩) ⟨(Ev.t 1 rfl), (Ev.t 0 rfl), trivial⟩ rfl rfl rfl (fun _ => by kernel_rfl) fun _ _ hs31 => ?_); clear hs30
 refine sq rfl (st_store (l' := [.int .i64 b.coal.lo, .int .i64 b.water.lo]) (vs := [.int .i64 b.coal.lo, .int .i64 b.water.lo]) (i := 0) hs31 (Ev.t 5 rfl) (Ev.t 0 rfl) sizeOf103 rfl rfl rfl rfl rfl rfl fun _ _ hs32 => ?_); clear hs31
 have hs33 := hs32.asB [_, _, _] rfl; clear hs32
 refine hK7 _ _ ?_; clear hK7
 have hs34 := hs33.keep [5] [_] rfl; clear hs33
 refine cd_retv (vs := [.agg ⟨[.int .i64 b.coal.lo, .int .i64 b.water.lo]⟩]) hs34 hQ0 rfl ⟨resA (o := 0) (off := 0) (vs := [.int .i64 b.coal.lo, .int .i64 b.water.lo]) 0 rfl isAgg103 sizeOf103 (hs34.cells 0 rfl) rfl, trivial⟩ ?_
 clear hs34 hQ0 hN0
 rfl

theorem at1_v (b : Book) (A : Option Addr) (n cp : Nat) (w : World) :
    CallsV Tryd.prog 71 [.agg ⟨(bookL b A n cp)⟩, .agg ⟨[.func (.func 82) ⟨[]⟩ ⟨[]⟩]⟩] w (.agg ⟨[.int .i64 b.coal.hi, .int .i64 b.water.hi]⟩) := by
 refine enter (N := 30) (M := []) w func71 rfl rfl rfl (fun Q0 a_0 hQ0 hN0 hs0 => ?_)
 refine cd_region fun K1 hK1 => ?_
 refine sq rfl (st_box hs0 (Ev.t 0 rfl) rfl rfl rfl fun b2 _ _ hs1 => ?_); clear hs0
 refine sq rfl (st_box hs1 (Ev.t 2 rfl) rfl rfl rfl fun b3 _ _ hs2 => ?_); clear hs1
 refine sq rfl (st_alloc hs2 rfl rfl zeroValue103 rfl fun b4 _ _ hs3 => ?_); clear hs2
 refine hK1 _ _ ?_; clear hK1
 have hs4 := hs3.keep [0, 1, 2] [_, _, _] rfl; clear hs3
 refine cd_region fun K5 hK5 => ?_
 refine sq rfl (st_field (o' := 0) hs4 (Ev.t 1 rfl) rfl rfl runUnderlying107 rfl sizeOf105 rfl rfl fun _ _ hs5 => ?_); clear hs4
 refine sq rfl (st_load1 (o := 0) (off := 0) (v := .func (.func 82) ⟨[]⟩ ⟨[]⟩) hs5 (Ev.t 0 rfl) rfl rfl isAgg105 (hs5.cells 1 rfl) rfl fun _ _ hs6 => ?_); clear hs5
 refine sq rfl (st_field (o' := 0) hs6 (Ev.t 4 rfl) rfl rfl runUnderlying75 rfl sizeOf27 rfl rfl fun _ _ hs7 => ?_); clear hs6
 refine sq rfl (st_field (o' := 0) hs7 (Ev.t 0 rfl) rfl rfl runUnderlying27 rfl sizeOf23 rfl rfl fun _ _ hs8 => ?_); clear hs7
 refine sq rfl (st_loadA (o := 0) (off := 0) (vs := [.int .i64 b.coal.lo, .int .i64 b.coal.hi]) hs8 (Ev.t 0 rfl) rfl rfl isAgg23 sizeOf23 (hs8.cells 2 rfl) rfl fun _ _ hs9 => ?_); clear hs8
 refine sq rfl (st_callv (vs := [.agg ⟨[.int .i64 b.coal.lo, .int .i64 b.coal.hi]⟩]) hs9 (Ev.t 3 rfl) ⟨(Ev.t 0 rfl), trivial⟩ rfl rfl call82 rfl (high1_v b.coal.lo b.coal.hi _) fun _ _ hs10 => ?_); clear hs9
 refine sq rfl (st_move hs10 (Ev.t 0 rfl) rfl rfl fun _ _ hs11 => ?_); clear hs10
 refine sq rfl (st_extract hs11 (Ev.t 0 rfl) rfl rfl rfl fun _ _ hs12 => ?_); clear hs11
 refine sq rfl (st_extract hs12 (Ev.t 1 rfl) rfl rfl rfl fun _ _ hs13 => ?_); clear hs12
 refine sq rfl (st_assign hs13 (Ev.t 1 rfl) rfl rfl fun _ _ hs14 => ?_); clear hs13
 refine sq rfl (st_assign hs14 (Ev.t 1 rfl) rfl rfl fun _ _ hs15 => ?_); clear hs14
 refine hK5 _ _ ?_; clear hK5
 have hs16 := hs15.keep [1, 11, 12, 13] [_, _, _, _] rfl; clear hs15
 refine cd_region fun K6 hK6 => ?_
 refine sq rfl (st_field (o' := 0) hs16 (Ev.t 2 rfl) rfl rfl runUnderlying107 rfl sizeOf105 rfl rfl fun _ _ hs17 => ?_); clear hs16
 refine sq rfl (st_load1 (o := 0) (off := 0) (v := .func (.func 82) ⟨[]⟩ ⟨[]⟩) hs17 (Ev.t 0 rfl) rfl rfl isAgg105 (hs17.cells 1 rfl) rfl fun _ _ hs18 => ?_); clear hs17
 refine sq rfl (st_field (o' := 0) hs18 (Ev.t 5 rfl) rfl rfl runUnderlying75 rfl sizeOf27 rfl rfl fun _ _ hs19 => ?_); clear hs18
 refine sq rfl (st_field (o' := 2) hs19 (Ev.t 0 rfl) rfl rfl runUnderlying27 rfl sizeOf23 rfl rfl fun _ _ hs20 => ?_); clear hs19
 refine sq rfl (st_loadA (o := 0) (off := 2) (vs := [.int .i64 b.water.lo, .int .i64 b.water.hi]) hs20 (Ev.t 0 rfl) rfl rfl isAgg23 sizeOf23 (hs20.cells 2 rfl) rfl fun _ _ hs21 => ?_); clear hs20
 refine sq rfl (st_callv (vs := [.agg ⟨[.int .i64 b.water.lo, .int .i64 b.water.hi]⟩]) hs21 (Ev.t 3 rfl) ⟨(Ev.t 0 rfl), trivial⟩ rfl rfl call82 rfl (high1_v b.water.lo b.water.hi _) fun _ _ hs22 => ?_); clear hs21
 refine sq rfl (st_move hs22 (Ev.t 0 rfl) rfl rfl fun _ _ hs23 => ?_); clear hs22
 refine sq rfl (st_extract hs23 (Ev.t 0 rfl) rfl rfl rfl fun _ _ hs24 => ?_); clear hs23
 refine sq rfl (st_extract hs24 (Ev.t 1 rfl) rfl rfl rfl fun _ _ hs25 => ?_); clear hs24
 refine sq rfl (st_assign hs25 (Ev.t 1 rfl) rfl rfl fun _ _ hs26 => ?_); clear hs25
 refine sq rfl (st_assign hs26 (Ev.t 1 rfl) rfl rfl fun _ _ hs27 => ?_); clear hs26
 refine hK6 _ _ ?_; clear hK6
 have hs28 := hs27.keep [1, 11, 12] [_, _, _] rfl; clear hs27
 refine cd_region fun K7 hK7 => ?_
 refine sq rfl (st_move hs28 (Ev.t 1 rfl) rfl rfl fun _ _ hs29 => ?_); clear hs28
 refine sq rfl (st_move hs29 (Ev.t 1 rfl) rfl rfl fun _ _ hs30 => ?_); clear hs29
 refine sq rfl (st_build hs30 (qs := [(0, .int .i64 b.coal.hi), (1, .int .i64 b.water.hi)]) (v := .agg ⟨[.int .i64 b.coal.hi, .int .i64 b.water.hi]⟩) ⟨(Ev.t 1 rfl), (Ev.t 0 rfl), trivial⟩ rfl rfl rfl (fun _ => by kernel_rfl) fun _ _ hs31 => ?_); clear hs30
 refine sq rfl (st_store (l' := [.int .i64 b.coal.hi, .int .i64 b.water.hi]) (vs := [.int .i64 b.coal.hi, .int .i64 b.water.hi]) (i := 0) hs31 (Ev.t 5 rfl) (Ev.t 0 rfl) sizeOf103 rfl rfl rfl rfl rfl rfl fun _ _ hs32 => ?_); clear hs31
 have hs33 := hs32.asB [_, _, _] rfl; clear hs32
 refine hK7 _ _ ?_; clear hK7
 have hs34 := hs33.keep [5] [_] rfl; clear hs33
 refine cd_retv (vs := [.agg ⟨[.int .i64 b.coal.hi, .int .i64 b.water.hi]⟩]) hs34 hQ0 rfl ⟨resA (o := 0) (off := 0) (vs := [.int .i64 b.coal.hi, .int .i64 b.water.hi]) 0 rfl isAgg103 sizeOf103 (hs34.cells 0 rfl) rfl, trivial⟩ ?_
 clear hs34 hQ0 hN0
 rfl

theorem coal_v (b : Book) (A : Option Addr) (n cp : Nat) (w : World) :
    CallsV Tryd.prog 103 [.agg ⟨(bookL b A n cp)⟩] w (.agg ⟨[.int .i64 b.bunker, .int .i64 b.scoop, .int .i64 b.burn0.lo, .int .i64 b.burn0.hi, .int .i64 b.burn1.lo, .int .i64 b.burn1.hi]⟩) := by
 refine enter (N := 13) (M := []) w func103 rfl rfl rfl (fun Q0 a_0 hQ0 hN0 hs0 => ?_)
 refine cd_region fun K1 hK1 => ?_
 refine sq rfl (st_box hs0 (Ev.t 0 rfl) rfl rfl rfl fun b2 _ _ hs1 => ?_); clear hs0
 refine sq rfl (st_alloc hs1 rfl rfl zeroValue123 rfl fun b3 _ _ hs2 => ?_); clear hs1
 refine hK1 _ _ ?_; clear hK1
 have hs3 := hs2.keep [0, 1] [_, _] rfl; clear hs2
 refine cd_region fun K4 hK4 => ?_
 refine sq rfl (st_field (o' := 0) hs3 (Ev.t 1 rfl) rfl rfl runUnderlying75 rfl sizeOf27 rfl rfl fun _ _ hs4 => ?_); clear hs3
 refine sq rfl (st_field (o' := 4) hs4 (Ev.t 0 rfl) rfl rfl runUnderlying27 rfl sizeOf3 rfl rfl fun _ _ hs5 => ?_); clear hs4
 refine sq rfl (st_load1 (o := 0) (off := 4) (v := .int .i64 b.bunker) hs5 (Ev.t 0 rfl) rfl rfl isAgg3 (hs5.cells 1 rfl) rfl fun _ _ hs6 => ?_); clear hs5
 refine sq rfl (st_field (o' := 0) hs6 (Ev.t 4 rfl) rfl rfl runUnderlying75 rfl sizeOf27 rfl rfl fun _ _ hs7 => ?_); clear hs6
 refine sq rfl (st_field (o' := 6) hs7 (Ev.t 0 rfl) rfl rfl runUnderlying27 rfl sizeOf3 rfl rfl fun _ _ hs8 => ?_); clear hs7
 refine sq rfl (st_load1 (o := 0) (off := 6) (v := .int .i64 b.scoop) hs8 (Ev.t 0 rfl) rfl rfl isAgg3 (hs8.cells 1 rfl) rfl fun _ _ hs9 => ?_); clear hs8
 refine sq rfl (st_field (o' := 0) hs9 (Ev.t 7 rfl) rfl rfl runUnderlying75 rfl sizeOf27 rfl rfl fun _ _ hs10 => ?_); clear hs9
 refine sq rfl (st_field (o' := 8) hs10 (Ev.t 0 rfl) rfl rfl runUnderlying27 rfl sizeOf24 rfl rfl fun _ _ hs11 => ?_); clear hs10
 refine sq rfl (st_loadA (o := 0) (off := 8) (vs := [.int .i64 b.burn0.lo, .int .i64 b.burn0.hi, .int .i64 b.burn1.lo, .int .i64 b.burn1.hi]) hs11 (Ev.t 0 rfl) rfl rfl isAgg24 sizeOf24 (hs11.cells 1 rfl) rfl fun _ _ hs12 => ?_); clear hs11
 refine sq rfl (st_build hs12 (qs := [(0, .int .i64 b.bunker), (1, .int .i64 b.scoop), (2, .agg ⟨[.int .i64 b.burn0.lo, .int .i64 b.burn0.hi, .int .i64 b.burn1.lo, .int .i64 b.burn1.hi]⟩)]) (v := .agg ⟨[.int .i64 b.bunker, .int .i64 b.scoop, .int .i64 b.burn0.lo, .int .i64 b.burn0.hi, .int .i64 b.burn1.lo, .int .i64 b.burn1.hi]⟩) ⟨(Ev.t 6 rfl), (Ev.t 3 rfl), (Ev.t 0 rfl), trivial⟩ rfl rfl rfl (fun _ => by kernel_rfl) fun _ _ hs13 => ?_); clear hs12
 refine sq rfl (st_store (l' := [.int .i64 b.bunker, .int .i64 b.scoop, .int .i64 b.burn0.lo, .int .i64 b.burn0.hi, .int .i64 b.burn1.lo, .int .i64 b.burn1.hi]) (vs := [.int .i64 b.bunker, .int .i64 b.scoop, .int .i64 b.burn0.lo, .int .i64 b.burn0.hi, .int .i64 b.burn1.lo, .int .i64 b.burn1.hi]) (i := 0) hs13 (Ev.t 10 rfl) (Ev.t 0 rfl) sizeOf123 rfl rfl rfl rfl rfl rfl fun _ _ hs14 => ?_); clear hs13
 have hs15 := hs14.asB [_, _] rfl; clear hs14
 refine hK4 _ _ ?_; clear hK4
 have hs16 := hs15.keep [10] [_] rfl; clear hs15
 refine cd_retv (vs := [.agg ⟨[.int .i64 b.bunker, .int .i64 b.scoop, .int .i64 b.burn0.lo, .int .i64 b.burn0.hi, .int .i64 b.burn1.lo, .int .i64 b.burn1.hi]⟩]) hs16 hQ0 rfl ⟨resA (o := 0) (off := 0) (vs := [.int .i64 b.bunker, .int .i64 b.scoop, .int .i64 b.burn0.lo, .int .i64 b.burn0.hi, .int .i64 b.burn1.lo, .int .i64 b.burn1.hi]) 0 rfl isAgg123 sizeOf123 (hs16.cells 0 rfl) rfl, trivial⟩ ?_
 clear hs16 hQ0 hN0
 rfl

theorem water_v (b : Book) (A : Option Addr) (n cp : Nat) (w : World) :
    CallsV Tryd.prog 104 [.agg ⟨(bookL b A n cp)⟩] w (.agg ⟨[.int .i64 b.tank, .int .i64 b.pail, .int .i64 b.drink0.lo, .int .i64 b.drink0.hi, .int .i64 b.drink1.lo, .int .i64 b.drink1.hi]⟩) := by
 refine enter (N := 13) (M := []) w func104 rfl rfl rfl (fun Q0 a_0 hQ0 hN0 hs0 => ?_)
 refine cd_region fun K1 hK1 => ?_
 refine sq rfl (st_box hs0 (Ev.t 0 rfl) rfl rfl rfl fun b2 _ _ hs1 => ?_); clear hs0
 refine sq rfl (st_alloc hs1 rfl rfl zeroValue123 rfl fun b3 _ _ hs2 => ?_); clear hs1
 refine hK1 _ _ ?_; clear hK1
 have hs3 := hs2.keep [0, 1] [_, _] rfl; clear hs2
 refine cd_region fun K4 hK4 => ?_
 refine sq rfl (st_field (o' := 0) hs3 (Ev.t 1 rfl) rfl rfl runUnderlying75 rfl sizeOf27 rfl rfl fun _ _ hs4 => ?_); clear hs3
 refine sq rfl (st_field (o' := 5) hs4 (Ev.t 0 rfl) rfl rfl runUnderlying27 rfl sizeOf3 rfl rfl fun _ _ hs5 => ?_); clear hs4
 refine sq rfl (st_load1 (o := 0) (off := 5) (v := .int .i64 b.tank) hs5 (Ev.t 0 rfl) rfl rfl isAgg3 (hs5.cells 1 rfl) rfl fun _ _ hs6 => ?_); clear hs5
 refine sq rfl (st_field (o' := 0) hs6 (Ev.t 4 rfl) rfl rfl runUnderlying75 rfl sizeOf27 rfl rfl fun _ _ hs7 => ?_); clear hs6
 refine sq rfl (st_field (o' := 7) hs7 (Ev.t 0 rfl) rfl rfl runUnderlying27 rfl sizeOf3 rfl rfl fun _ _ hs8 => ?_); clear hs7
 refine sq rfl (st_load1 (o := 0) (off := 7) (v := .int .i64 b.pail) hs8 (Ev.t 0 rfl) rfl rfl isAgg3 (hs8.cells 1 rfl) rfl fun _ _ hs9 => ?_); clear hs8
 refine sq rfl (st_field (o' := 0) hs9 (Ev.t 7 rfl) rfl rfl runUnderlying75 rfl sizeOf27 rfl rfl fun _ _ hs10 => ?_); clear hs9
 refine sq rfl (st_field (o' := 12) hs10 (Ev.t 0 rfl) rfl rfl runUnderlying27 rfl sizeOf24 rfl rfl fun _ _ hs11 => ?_); clear hs10
 refine sq rfl (st_loadA (o := 0) (off := 12) (vs := [.int .i64 b.drink0.lo, .int .i64 b.drink0.hi, .int .i64 b.drink1.lo, .int .i64 b.drink1.hi]) hs11 (Ev.t 0 rfl) rfl rfl isAgg24 sizeOf24 (hs11.cells 1 rfl) rfl fun _ _ hs12 => ?_); clear hs11
 refine sq rfl (st_build hs12 (qs := [(0, .int .i64 b.tank), (1, .int .i64 b.pail), (2, .agg ⟨[.int .i64 b.drink0.lo, .int .i64 b.drink0.hi, .int .i64 b.drink1.lo, .int .i64 b.drink1.hi]⟩)]) (v := .agg ⟨[.int .i64 b.tank, .int .i64 b.pail, .int .i64 b.drink0.lo, .int .i64 b.drink0.hi, .int .i64 b.drink1.lo, .int .i64 b.drink1.hi]⟩) ⟨(Ev.t 6 rfl), (Ev.t 3 rfl), (Ev.t 0 rfl), trivial⟩ rfl rfl rfl (fun _ => by kernel_rfl) fun _ _ hs13 => ?_); clear hs12
 refine sq rfl (st_store (l' := [.int .i64 b.tank, .int .i64 b.pail, .int .i64 b.drink0.lo, .int .i64 b.drink0.hi, .int .i64 b.drink1.lo, .int .i64 b.drink1.hi]) (vs := [.int .i64 b.tank, .int .i64 b.pail, .int .i64 b.drink0.lo, .int .i64 b.drink0.hi, .int .i64 b.drink1.lo, .int .i64 b.drink1.hi]) (i := 0) hs13 (Ev.t 10 rfl) (Ev.t 0 rfl) sizeOf123 rfl rfl rfl rfl rfl rfl fun _ _ hs14 => ?_); clear hs13
 have hs15 := hs14.asB [_, _] rfl; clear hs14
 refine hK4 _ _ ?_; clear hK4
 have hs16 := hs15.keep [10] [_] rfl; clear hs15
 refine cd_retv (vs := [.agg ⟨[.int .i64 b.tank, .int .i64 b.pail, .int .i64 b.drink0.lo, .int .i64 b.drink0.hi, .int .i64 b.drink1.lo, .int .i64 b.drink1.hi]⟩]) hs16 hQ0 rfl ⟨resA (o := 0) (off := 0) (vs := [.int .i64 b.tank, .int .i64 b.pail, .int .i64 b.drink0.lo, .int .i64 b.drink0.hi, .int .i64 b.drink1.lo, .int .i64 b.drink1.hi]) 0 rfl isAgg123 sizeOf123 (hs16.cells 0 rfl) rfl, trivial⟩ ?_
 clear hs16 hQ0 hN0
 rfl

theorem check_v (b : Book) (A : Option Addr) (n cp : Nat) (w : World) (hP : PartsAt w A n b.parts) (hn : n ≤ 140737488351232) :
    CallsV Tryd.prog 16 [.agg ⟨(bookL b A n cp)⟩] w (.int .i64 (if b.ok then 0 else 40)) := by
 refine enter (N := 131) (M := []) w func16 rfl rfl rfl (fun Q0 a_0 hQ0 hN0 hs0 => ?_)
 refine cd_region fun K1 hK1 => ?_
 refine sq rfl (st_box hs0 (Ev.t 0 rfl) rfl rfl rfl fun b2 _ _ hs1 => ?_); clear hs0
 refine sq rfl (st_assign hs1 (.const _) rfl rfl fun _ _ hs2 => ?_); clear hs1
 refine hK1 _ _ ?_; clear hK1
 have hs3 := hs2.keep [0, 1] [_, _] rfl; clear hs2
 refine cd_region fun K3 hK3 => ?_
 refine sq rfl (st_field (o' := 4) hs3 (Ev.t 1 rfl) rfl rfl runUnderlying27 rfl sizeOf3 rfl rfl fun _ _ hs4 => ?_); clear hs3
 refine sq rfl (st_load1 (o := 0) (off := 4) (v := .int .i64 b.bunker) hs4 (Ev.t 0 rfl) rfl rfl isAgg3 (hs4.cells 0 rfl) rfl fun _ _ hs5 => ?_); clear hs4
 refine sq rfl (st_callv (vs := [.int .i64 b.bunker, .int .i64 1, .int .i64 99]) hs5 (.func _) ⟨(Ev.t 0 rfl), (.const _), (.const _), trivial⟩ rfl rfl call48 rfl (within_v b.bunker 1 99 _) fun _ _ hs6 => ?_); clear hs5
 refine sq rfl (st_move hs6 (Ev.t 0 rfl) rfl rfl fun _ _ hs7 => ?_); clear hs6
 refine sq_gv hs7 (gg := within b.bunker 1 99) (v := .pointer (some ⟨b2, 5, none⟩)) rfl rfl 0 rfl (ison_t _) rfl rfl rfl (fun hg4 K5 hK5 => st_field (o' := 5) hs7 (Ev.t 5 rfl) rfl rfl runUnderlying27 rfl sizeOf3 rfl rfl hK5) fun _ _ hs8 => ?_; clear hs7
 refine sq_gv hs8 (gg := within b.bunker 1 99) (v := .int .i64 b.tank) rfl rfl 1 rfl (ison_t _) rfl rfl rfl (fun hg6 K7 hK7 => st_load1 (o := 0) (off := 5) (v := .int .i64 b.tank) hs8 ((Ev.t 0 rfl).un hg6) rfl rfl isAgg3 (hs8.cells 0 rfl) rfl hK7) fun _ _ hs9 => ?_; clear hs8
 refine sq_gv hs9 (gg := within b.bunker 1 99) (v := .bool (within b.tank 1 99)) rfl rfl 2 rfl (ison_t _) rfl rfl rfl (fun hg8 K9 hK9 => st_callv (vs := [.int .i64 b.tank, .int .i64 1, .int .i64 99]) hs9 (.func _) ⟨((Ev.t 0 rfl).un hg8), (.const _), (.const _), trivial⟩ rfl rfl call48 rfl (within_v b.tank 1 99 _) hK9) fun _ _ hs10 => ?_; clear hs9
 refine sq rfl (st_and hs10 (gx := true) (gy := within b.bunker 1 99) (Ev.t 3 rfl) rfl (Ev.t 0 rfl) (fun h => h) rfl rfl fun _ _ hs11 => ?_); clear hs10
 refine sq rfl (st_move hs11 (Ev.t 0 rfl) rfl rfl fun _ _ hs12 => ?_); clear hs11
 refine sq_gv hs12 (gg := (within b.bunker 1 99) && (within b.tank 1 99)) (v := .pointer (some ⟨b2, 0, none⟩)) rfl rfl 0 rfl (ison_t _) rfl rfl rfl (fun hg10 K11 hK11 => st_field (o' := 0) hs12 (Ev.t 10 rfl) rfl rfl runUnderlying27 rfl sizeOf23 rfl rfl hK11) fun _ _ hs13 => ?_; clear hs12
 refine sq_gv hs13 (gg := (within b.bunker 1 99) && (within b.tank 1 99)) (v := .agg ⟨[.int .i64 b.coal.lo, .int .i64 b.coal.hi]⟩) rfl rfl 1 rfl (ison_t _) rfl rfl rfl (fun hg12 K13 hK13 => st_loadA (o := 0) (off := 0) (vs := [.int .i64 b.coal.lo, .int .i64 b.coal.hi]) hs13 ((Ev.t 0 rfl).un hg12) rfl rfl isAgg23 sizeOf23 (hs13.cells 0 rfl) rfl hK13) fun _ _ hs14 => ?_; clear hs13
 refine sq_gv hs14 (gg := (within b.bunker 1 99) && (within b.tank 1 99)) (v := .pointer (some ⟨b2, 4, none⟩)) rfl rfl 2 rfl (ison_t _) rfl rfl rfl (fun hg14 K15 hK15 => st_field (o' := 4) hs14 (Ev.t 12 rfl) rfl rfl runUnderlying27 rfl sizeOf3 rfl rfl hK15) fun _ _ hs15 => ?_; clear hs14
 refine sq_gv hs15 (gg := (within b.bunker 1 99) && (within b.tank 1 99)) (v := .int .i64 b.bunker) rfl rfl 3 rfl (ison_t _) rfl rfl rfl (fun hg16 K17 hK17 => st_load1 (o := 0) (off := 4) (v := .int .i64 b.bunker) hs15 ((Ev.t 0 rfl).un hg16) rfl rfl isAgg3 (hs15.cells 0 rfl) rfl hK17) fun _ _ hs16 => ?_; clear hs15
 refine sq_gv hs16 (gg := (within b.bunker 1 99) && (within b.tank 1 99)) (v := .bool (okSpan b.coal.lo b.coal.hi 0 b.bunker)) rfl rfl 4 rfl (ison_t _) rfl rfl rfl (fun hg18 K19 hK19 => st_callv (vs := [.agg ⟨[.int .i64 b.coal.lo, .int .i64 b.coal.hi]⟩, .int .i64 0, .int .i64 b.bunker]) hs16 (.func _) ⟨((Ev.t 2 rfl).un hg18), (.const _), ((Ev.t 0 rfl).un hg18), trivial⟩ rfl rfl call50 rfl (isSpan_v b.coal.lo b.coal.hi 0 b.bunker _) hK19) fun _ _ hs17 => ?_; clear hs16
 refine sq rfl (st_and hs17 (gx := true) (gy := (within b.bunker 1 99) && (within b.tank 1 99)) (Ev.t 5 rfl) rfl (Ev.t 0 rfl) (fun h => h) rfl rfl fun _ _ hs18 => ?_); clear hs17
 refine sq rfl (st_move hs18 (Ev.t 0 rfl) rfl rfl fun _ _ hs19 => ?_); clear hs18
 refine sq_gv hs19 (gg := ((within b.bunker 1 99) && (within b.tank 1 99)) && (okSpan b.coal.lo b.coal.hi 0 b.bunker)) (v := .pointer (some ⟨b2, 2, none⟩)) rfl rfl 0 rfl (ison_t _) rfl rfl rfl (fun hg20 K21 hK21 => st_field (o' := 2) hs19 (Ev.t 17 rfl) rfl rfl runUnderlying27 rfl sizeOf23 rfl rfl hK21) fun _ _ hs20 => ?_; clear hs19
 refine sq_gv hs20 (gg := ((within b.bunker 1 99) && (within b.tank 1 99)) && (okSpan b.coal.lo b.coal.hi 0 b.bunker)) (v := .agg ⟨[.int .i64 b.water.lo, .int .i64 b.water.hi]⟩) rfl rfl 1 rfl (ison_t _) rfl rfl rfl (fun hg22 K23 hK23 => st_loadA (o := 0) (off := 2) (vs := [.int .i64 b.water.lo, .int .i64 b.water.hi]) hs20 ((Ev.t 0 rfl).un hg22) rfl rfl isAgg23 sizeOf23 (hs20.cells 0 rfl) rfl hK23) fun _ _ hs21 => ?_; clear hs20
 refine sq_gv hs21 (gg := ((within b.bunker 1 99) && (within b.tank 1 99)) && (okSpan b.coal.lo b.coal.hi 0 b.bunker)) (v := .pointer (some ⟨b2, 5, none⟩)) rfl rfl 2 rfl (ison_t _) rfl rfl rfl (fun hg24 K25 hK25 => st_field (o' := 5) hs21 (Ev.t 19 rfl) rfl rfl runUnderlying27 rfl sizeOf3 rfl rfl hK25) fun _ _ hs22 => ?_; clear hs21
 refine sq_gv hs22 (gg := ((within b.bunker 1 99) && (within b.tank 1 99)) && (okSpan b.coal.lo b.coal.hi 0 b.bunker)) (v := .int .i64 b.tank) rfl rfl 3 rfl (ison_t _) rfl rfl rfl (fun hg26 K27 hK27 => st_load1 (o := 0) (off := 5) (v := .int .i64 b.tank) hs22 ((Ev.t 0 rfl).un hg26) rfl rfl isAgg3 (hs22.cells 0 rfl) rfl hK27) fun _ _ hs23 => ?_; clear hs22
 refine sq_gv hs23 (gg := ((within b.bunker 1 99) && (within b.tank 1 99)) && (okSpan b.coal.lo b.coal.hi 0 b.bunker)) (v := .bool (okSpan b.water.lo b.water.hi 0 b.tank)) rfl rfl 4 rfl (ison_t _) rfl rfl rfl (fun hg28 K29 hK29 => st_callv (vs := [.agg ⟨[.int .i64 b.water.lo, .int .i64 b.water.hi]⟩, .int .i64 0, .int .i64 b.tank]) hs23 (.func _) ⟨((Ev.t 2 rfl).un hg28), (.const _), ((Ev.t 0 rfl).un hg28), trivial⟩ rfl rfl call50 rfl (isSpan_v b.water.lo b.water.hi 0 b.tank _) hK29) fun _ _ hs24 => ?_; clear hs23
 refine sq rfl (st_and hs24 (gx := true) (gy := ((within b.bunker 1 99) && (within b.tank 1 99)) && (okSpan b.coal.lo b.coal.hi 0 b.bunker)) (Ev.t 5 rfl) rfl (Ev.t 0 rfl) (fun h => h) rfl rfl fun _ _ hs25 => ?_); clear hs24
 refine sq rfl (st_move hs25 (Ev.t 0 rfl) rfl rfl fun _ _ hs26 => ?_); clear hs25
 refine sq_gv hs26 (gg := (((within b.bunker 1 99) && (within b.tank 1 99)) && (okSpan b.coal.lo b.coal.hi 0 b.bunker)) && (okSpan b.water.lo b.water.hi 0 b.tank)) (v := .pointer (some ⟨b2, 6, none⟩)) rfl rfl 0 rfl (ison_t _) rfl rfl rfl (fun hg30 K31 hK31 => st_field (o' := 6) hs26 (Ev.t 24 rfl) rfl rfl runUnderlying27 rfl sizeOf3 rfl rfl hK31) fun _ _ hs27 => ?_; clear hs26
 refine sq_gv hs27 (gg := (((within b.bunker 1 99) && (within b.tank 1 99)) && (okSpan b.coal.lo b.coal.hi 0 b.bunker)) && (okSpan b.water.lo b.water.hi 0 b.tank)) (v := .int .i64 b.scoop) rfl rfl 1 rfl (ison_t _) rfl rfl rfl (fun hg32 K33 hK33 => st_load1 (o := 0) (off := 6) (v := .int .i64 b.scoop) hs27 ((Ev.t 0 rfl).un hg32) rfl rfl isAgg3 (hs27.cells 0 rfl) rfl hK33) fun _ _ hs28 => ?_; clear hs27
 refine sq_gv hs28 (gg := (((within b.bunker 1 99) && (within b.tank 1 99)) && (okSpan b.coal.lo b.coal.hi 0 b.bunker)) && (okSpan b.water.lo b.water.hi 0 b.tank)) (v := .bool (within b.scoop 1 20)) rfl rfl 2 rfl (ison_t _) rfl rfl rfl (fun hg34 K35 hK35 => st_callv (vs := [.int .i64 b.scoop, .int .i64 1, .int .i64 20]) hs28 (.func _) ⟨((Ev.t 0 rfl).un hg34), (.const _), (.const _), trivial⟩ rfl rfl call48 rfl (within_v b.scoop 1 20 _) hK35) fun _ _ hs29 => ?_; clear hs28
 refine sq rfl (st_and hs29 (gx := true) (gy := (((within b.bunker 1 99) && (within b.tank 1 99)) && (okSpan b.coal.lo b.coal.hi 0 b.bunker)) && (okSpan b.water.lo b.water.hi 0 b.tank)) (Ev.t 3 rfl) rfl (Ev.t 0 rfl) (fun h => h) rfl rfl fun _ _ hs30 => ?_); clear hs29
 refine sq rfl (st_move hs30 (Ev.t 0 rfl) rfl rfl fun _ _ hs31 => ?_); clear hs30
 refine sq_gv hs31 (gg := ((((within b.bunker 1 99) && (within b.tank 1 99)) && (okSpan b.coal.lo b.coal.hi 0 b.bunker)) && (okSpan b.water.lo b.water.hi 0 b.tank)) && (within b.scoop 1 20)) (v := .pointer (some ⟨b2, 7, none⟩)) rfl rfl 0 rfl (ison_t _) rfl rfl rfl (fun hg36 K37 hK37 => st_field (o' := 7) hs31 (Ev.t 29 rfl) rfl rfl runUnderlying27 rfl sizeOf3 rfl rfl hK37) fun _ _ hs32 => ?_; clear hs31
 refine sq_gv hs32 (gg := ((((within b.bunker 1 99) && (within b.tank 1 99)) && (okSpan b.coal.lo b.coal.hi 0 b.bunker)) && (okSpan b.water.lo b.water.hi 0 b.tank)) && (within b.scoop 1 20)) (v := .int .i64 b.pail) rfl rfl 1 rfl (ison_t _) rfl rfl rfl (fun hg38 K39 hK39 => st_load1 (o := 0) (off := 7) (v := .int .i64 b.pail) hs32 ((Ev.t 0 rfl).un hg38) rfl rfl isAgg3 (hs32.cells 0 rfl) rfl hK39) fun _ _ hs33 => ?_; clear hs32
 refine sq_gv hs33 (gg := ((((within b.bunker 1 99) && (within b.tank 1 99)) && (okSpan b.coal.lo b.coal.hi 0 b.bunker)) && (okSpan b.water.lo b.water.hi 0 b.tank)) && (within b.scoop 1 20)) (v := .bool (within b.pail 1 20)) rfl rfl 2 rfl (ison_t _) rfl rfl rfl (fun hg40 K41 hK41 => st_callv (vs := [.int .i64 b.pail, .int .i64 1, .int .i64 20]) hs33 (.func _) ⟨((Ev.t 0 rfl).un hg40), (.const _), (.const _), trivial⟩ rfl rfl call48 rfl (within_v b.pail 1 20 _) hK41) fun _ _ hs34 => ?_; clear hs33
 refine sq rfl (st_and hs34 (gx := true) (gy := ((((within b.bunker 1 99) && (within b.tank 1 99)) && (okSpan b.coal.lo b.coal.hi 0 b.bunker)) && (okSpan b.water.lo b.water.hi 0 b.tank)) && (within b.scoop 1 20)) (Ev.t 3 rfl) rfl (Ev.t 0 rfl) (fun h => h) rfl rfl fun _ _ hs35 => ?_); clear hs34
 refine sq rfl (st_assign hs35 (Ev.t 0 rfl) rfl rfl fun _ _ hs36 => ?_); clear hs35
 refine hK3 _ _ ?_; clear hK3
 have hs37 := hs36.keep [0, 33, 34] [_, _, _] rfl; clear hs36
 refine cd_seq fun K42 hK42 => ?_
 refine cd_region fun K43 hK43 => ?_
 refine sq rfl (st_buildSlice hs37 (qs := [(0, .int .i64 0), (1, .int .i64 1)]) (e := 3) (l := [.int .i64 0, .int .i64 1]) ⟨(.const _), (.const _), trivial⟩ rfl rfl rfl (fun _ => by kernel_rfl) fun b44 _ _ hs38 => ?_); clear hs37
 refine sq rfl (st_len hs38 (Ev.t 0 rfl) rfl rfl runUnderlying47 fun _ _ hs39 => ?_); clear hs38
 refine sq rfl (st_move hs39 (.const _) rfl rfl fun _ _ hs40 => ?_); clear hs39
 refine hK43 _ _ ?_; clear hK43
 refine cd_block ?_
 refine cd_rounds 3 ?_
 refine cd_round fun K45 hK45 => ?_
 refine cd_region fun K46 hK46 => ?_
 refine sq rfl (st_cmp (c := decide ((0 : Int) < 2)) hs40 (Ev.t 0 rfl) (Ev.t 1 rfl) rfl rfl rfl rfl fun _ _ hs41 => ?_); clear hs40
 refine hK46 _ _ ?_; clear hK46
 refine cd_seq fun K47 hK47 => ?_
 have hc48 : (decide ((0 : Int) < 2)) = true := by decide
 refine cd_cond hs41 (Ev.t 0 rfl) (fun _ => ?_) (fun h => absurd (hc48.symm.trans h) (by decide))
 refine cd_skip ?_
 refine th_norm (hK47 _ _ ?_)
 refine cd_seq fun K49 hK49 => ?_
 refine cd_block ?_
 refine cd_region fun K50 hK50 => ?_
 refine sq rfl (st_indexSl (o' := 0) hs41 (Ev.t 3 rfl) (Ev.t 1 rfl) rfl rfl runUnderlying47 sizeOf3 (by decide) rfl fun _ _ hs42 => ?_); clear hs41
 refine sq rfl (st_load1 (o := 0) (off := 0) (v := .int .i64 0) hs42 (Ev.t 0 rfl) rfl rfl isAgg3 (hs42.cells 0 rfl) rfl fun _ _ hs43 => ?_); clear hs42
 refine sq rfl (st_assign hs43 (Ev.t 0 rfl) rfl rfl fun _ _ hs44 => ?_); clear hs43
 refine hK50 _ _ ?_; clear hK50
 have hs45 := hs44.keep [0, 4, 5, 6, 7, 8, 9] [_, _, _, _, _, _, _] rfl; clear hs44
 refine cd_region1 ?_
 refine sq rfl (st_move hs45 (Ev.t 4 rfl) rfl rfl fun _ _ hs46 => ?_); clear hs45
 refine sq rfl (st_move hs46 (Ev.t 0 rfl) rfl rfl fun _ _ hs47 => ?_); clear hs46
 refine sq_gv hs47 (gg := (((((within b.bunker 1 99) && (within b.tank 1 99)) && (okSpan b.coal.lo b.coal.hi 0 b.bunker)) && (okSpan b.water.lo b.water.hi 0 b.tank)) && (within b.scoop 1 20)) && (within b.pail 1 20)) (v := .int .i64 0) rfl rfl 0 rfl (ison_t _) rfl rfl rfl (fun hg51 K52 hK52 => st_move hs47 (Ev.t 2 rfl) rfl rfl hK52) fun _ _ hs48 => ?_; clear hs47
 refine sq_gv hs48 (gg := (((((within b.bunker 1 99) && (within b.tank 1 99)) && (okSpan b.coal.lo b.coal.hi 0 b.bunker)) && (okSpan b.water.lo b.water.hi 0 b.tank)) && (within b.scoop 1 20)) && (within b.pail 1 20)) (v := .pointer (some ⟨b2, 8, none⟩)) rfl rfl 1 rfl (ison_t _) rfl rfl rfl (fun hg53 K54 hK54 => st_field (o' := 8) hs48 (Ev.t 9 rfl) rfl rfl runUnderlying27 rfl sizeOf24 rfl rfl hK54) fun _ _ hs49 => ?_; clear hs48
 refine sq_gv hs49 (gg := (((((within b.bunker 1 99) && (within b.tank 1 99)) && (okSpan b.coal.lo b.coal.hi 0 b.bunker)) && (okSpan b.water.lo b.water.hi 0 b.tank)) && (within b.scoop 1 20)) && (within b.pail 1 20)) (v := .pointer (some ⟨b2, 8, none⟩)) rfl rfl 2 rfl (ison_t _) rfl rfl rfl (fun hg55 K56 hK56 => st_indexArr (o' := 8) hs49 ((Ev.t 0 rfl).un hg55) ((Ev.t 1 rfl).un hg55) rfl rfl runUnderlying24 sizeOf23 (by decide) rfl hK56) fun _ _ hs50 => ?_; clear hs49
 refine sq_gv hs50 (gg := (((((within b.bunker 1 99) && (within b.tank 1 99)) && (okSpan b.coal.lo b.coal.hi 0 b.bunker)) && (okSpan b.water.lo b.water.hi 0 b.tank)) && (within b.scoop 1 20)) && (within b.pail 1 20)) (v := .agg ⟨[.int .i64 b.burn0.lo, .int .i64 b.burn0.hi]⟩) rfl rfl 3 rfl (ison_t _) rfl rfl rfl (fun hg57 K58 hK58 => st_loadA (o := 0) (off := 8) (vs := [.int .i64 b.burn0.lo, .int .i64 b.burn0.hi]) hs50 ((Ev.t 0 rfl).un hg57) rfl rfl isAgg23 sizeOf23 (hs50.cells 1 rfl) rfl hK58) fun _ _ hs51 => ?_; clear hs50
 refine sq_gv hs51 (gg := (((((within b.bunker 1 99) && (within b.tank 1 99)) && (okSpan b.coal.lo b.coal.hi 0 b.bunker)) && (okSpan b.water.lo b.water.hi 0 b.tank)) && (within b.scoop 1 20)) && (within b.pail 1 20)) (v := .bool (okSpan b.burn0.lo b.burn0.hi 0 3)) rfl rfl 4 rfl (ison_t _) rfl rfl rfl (fun hg59 K60 hK60 => st_callv (vs := [.agg ⟨[.int .i64 b.burn0.lo, .int .i64 b.burn0.hi]⟩, .int .i64 0, .int .i64 3]) hs51 (.func _) ⟨((Ev.t 0 rfl).un hg59), (.const _), (.const _), trivial⟩ rfl rfl call50 rfl (isSpan_v b.burn0.lo b.burn0.hi 0 3 _) hK60) fun _ _ hs52 => ?_; clear hs51
 refine sq rfl (st_and hs52 (gx := true) (gy := (((((within b.bunker 1 99) && (within b.tank 1 99)) && (okSpan b.coal.lo b.coal.hi 0 b.bunker)) && (okSpan b.water.lo b.water.hi 0 b.tank)) && (within b.scoop 1 20)) && (within b.pail 1 20)) (Ev.t 5 rfl) rfl (Ev.t 0 rfl) (fun h => h) rfl rfl fun _ _ hs53 => ?_); clear hs52
 refine sq rfl (st_move hs53 (Ev.t 0 rfl) rfl rfl fun _ _ hs54 => ?_); clear hs53
 refine sq_gv hs54 (gg := ((((((within b.bunker 1 99) && (within b.tank 1 99)) && (okSpan b.coal.lo b.coal.hi 0 b.bunker)) && (okSpan b.water.lo b.water.hi 0 b.tank)) && (within b.scoop 1 20)) && (within b.pail 1 20)) && (okSpan b.burn0.lo b.burn0.hi 0 3)) (v := .int .i64 0) rfl rfl 0 rfl (ison_t _) rfl rfl rfl (fun hg61 K62 hK62 => st_move hs54 (Ev.t 9 rfl) rfl rfl hK62) fun _ _ hs55 => ?_; clear hs54
 refine sq_gv hs55 (gg := ((((((within b.bunker 1 99) && (within b.tank 1 99)) && (okSpan b.coal.lo b.coal.hi 0 b.bunker)) && (okSpan b.water.lo b.water.hi 0 b.tank)) && (within b.scoop 1 20)) && (within b.pail 1 20)) && (okSpan b.burn0.lo b.burn0.hi 0 3)) (v := .pointer (some ⟨b2, 12, none⟩)) rfl rfl 1 rfl (ison_t _) rfl rfl rfl (fun hg63 K64 hK64 => st_field (o' := 12) hs55 (Ev.t 16 rfl) rfl rfl runUnderlying27 rfl sizeOf24 rfl rfl hK64) fun _ _ hs56 => ?_; clear hs55
 refine sq_gv hs56 (gg := ((((((within b.bunker 1 99) && (within b.tank 1 99)) && (okSpan b.coal.lo b.coal.hi 0 b.bunker)) && (okSpan b.water.lo b.water.hi 0 b.tank)) && (within b.scoop 1 20)) && (within b.pail 1 20)) && (okSpan b.burn0.lo b.burn0.hi 0 3)) (v := .pointer (some ⟨b2, 12, none⟩)) rfl rfl 2 rfl (ison_t _) rfl rfl rfl (fun hg65 K66 hK66 => st_indexArr (o' := 12) hs56 ((Ev.t 0 rfl).un hg65) ((Ev.t 1 rfl).un hg65) rfl rfl runUnderlying24 sizeOf23 (by decide) rfl hK66) fun _ _ hs57 => ?_; clear hs56
 refine sq_gv hs57 (gg := ((((((within b.bunker 1 99) && (within b.tank 1 99)) && (okSpan b.coal.lo b.coal.hi 0 b.bunker)) && (okSpan b.water.lo b.water.hi 0 b.tank)) && (within b.scoop 1 20)) && (within b.pail 1 20)) && (okSpan b.burn0.lo b.burn0.hi 0 3)) (v := .agg ⟨[.int .i64 b.drink0.lo, .int .i64 b.drink0.hi]⟩) rfl rfl 3 rfl (ison_t _) rfl rfl rfl (fun hg67 K68 hK68 => st_loadA (o := 0) (off := 12) (vs := [.int .i64 b.drink0.lo, .int .i64 b.drink0.hi]) hs57 ((Ev.t 0 rfl).un hg67) rfl rfl isAgg23 sizeOf23 (hs57.cells 1 rfl) rfl hK68) fun _ _ hs58 => ?_; clear hs57
 refine sq_gv hs58 (gg := ((((((within b.bunker 1 99) && (within b.tank 1 99)) && (okSpan b.coal.lo b.coal.hi 0 b.bunker)) && (okSpan b.water.lo b.water.hi 0 b.tank)) && (within b.scoop 1 20)) && (within b.pail 1 20)) && (okSpan b.burn0.lo b.burn0.hi 0 3)) (v := .bool (okSpan b.drink0.lo b.drink0.hi 0 3)) rfl rfl 4 rfl (ison_t _) rfl rfl rfl (fun hg69 K70 hK70 => st_callv (vs := [.agg ⟨[.int .i64 b.drink0.lo, .int .i64 b.drink0.hi]⟩, .int .i64 0, .int .i64 3]) hs58 (.func _) ⟨((Ev.t 0 rfl).un hg69), (.const _), (.const _), trivial⟩ rfl rfl call50 rfl (isSpan_v b.drink0.lo b.drink0.hi 0 3 _) hK70) fun _ _ hs59 => ?_; clear hs58
 refine sq rfl (st_and hs59 (gx := true) (gy := ((((((within b.bunker 1 99) && (within b.tank 1 99)) && (okSpan b.coal.lo b.coal.hi 0 b.bunker)) && (okSpan b.water.lo b.water.hi 0 b.tank)) && (within b.scoop 1 20)) && (within b.pail 1 20)) && (okSpan b.burn0.lo b.burn0.hi 0 3)) (Ev.t 5 rfl) rfl (Ev.t 0 rfl) (fun h => h) rfl rfl fun _ _ hs60 => ?_); clear hs59
 have hs61 := hs60.keep [0, 1, 2, 3, 4, 5, 6, 7, 8, 9, 10, 11, 12, 13, 14, 15, 16, 17, 18, 20, 21] [_, _, _, _, _, _, _, _, _, _, _, _, _, _, _, _, _, _, _, _, _] rfl; clear hs60
 refine sq rfl (st_assign hs61 (Ev.t 0 rfl) rfl rfl fun _ _ hs62 => ?_); clear hs61
 refine wpListIn_nil ?_
 have hs63 := hs62.keep [0, 17, 18, 19, 20, 21] [_, _, _, _, _, _] rfl; clear hs62
 refine in_norm ?_
 refine th_norm (hK49 _ _ ?_)
 refine cd_region1 ?_
 refine sq rfl (st_add (z := 1) hs63 (Ev.t 1 rfl) (.const _) rfl rfl rfl (by omega) fun _ _ hs64 => ?_); clear hs63
 have hs65 := hs64.keep [0, 1, 3, 4, 5, 6] [_, _, _, _, _, _] rfl; clear hs64
 refine sq rfl (st_move hs65 (Ev.t 0 rfl) rfl rfl fun _ _ hs66 => ?_); clear hs65
 refine wpListIn_nil ?_
 have hs67 := hs66.keep [0, 2, 3, 4, 5, 6] [_, _, _, _, _, _] rfl; clear hs66
 refine th_norm (hK45 _ _ ?_); clear hK45
 refine cd_round fun K71 hK71 => ?_
 refine cd_region fun K72 hK72 => ?_
 refine sq rfl (st_cmp (c := decide ((1 : Int) < 2)) hs67 (Ev.t 0 rfl) (Ev.t 2 rfl) rfl rfl rfl rfl fun _ _ hs68 => ?_); clear hs67
 refine hK72 _ _ ?_; clear hK72
 refine cd_seq fun K73 hK73 => ?_
 have hc74 : (decide ((1 : Int) < 2)) = true := by decide
 refine cd_cond hs68 (Ev.t 0 rfl) (fun _ => ?_) (fun h => absurd (hc74.symm.trans h) (by decide))
 refine cd_skip ?_
 refine th_norm (hK73 _ _ ?_)
 refine cd_seq fun K75 hK75 => ?_
 refine cd_block ?_
 refine cd_region fun K76 hK76 => ?_
 refine sq rfl (st_indexSl (o' := 1) hs68 (Ev.t 4 rfl) (Ev.t 1 rfl) rfl rfl runUnderlying47 sizeOf3 (by decide) rfl fun _ _ hs69 => ?_); clear hs68
 refine sq rfl (st_load1 (o := 0) (off := 1) (v := .int .i64 1) hs69 (Ev.t 0 rfl) rfl rfl isAgg3 (hs69.cells 0 rfl) rfl fun _ _ hs70 => ?_); clear hs69
 refine sq rfl (st_assign hs70 (Ev.t 0 rfl) rfl rfl fun _ _ hs71 => ?_); clear hs70
 refine hK76 _ _ ?_; clear hK76
 have hs72 := hs71.keep [0, 4, 5, 6, 7, 8, 9] [_, _, _, _, _, _, _] rfl; clear hs71
 refine cd_region1 ?_
 refine sq rfl (st_move hs72 (Ev.t 2 rfl) rfl rfl fun _ _ hs73 => ?_); clear hs72
 refine sq rfl (st_move hs73 (Ev.t 0 rfl) rfl rfl fun _ _ hs74 => ?_); clear hs73
 refine sq_gv hs74 (gg := (((((((within b.bunker 1 99) && (within b.tank 1 99)) && (okSpan b.coal.lo b.coal.hi 0 b.bunker)) && (okSpan b.water.lo b.water.hi 0 b.tank)) && (within b.scoop 1 20)) && (within b.pail 1 20)) && (okSpan b.burn0.lo b.burn0.hi 0 3)) && (okSpan b.drink0.lo b.drink0.hi 0 3)) (v := .int .i64 1) rfl rfl 0 rfl (ison_t _) rfl rfl rfl (fun hg77 K78 hK78 => st_move hs74 (Ev.t 2 rfl) rfl rfl hK78) fun _ _ hs75 => ?_; clear hs74
 refine sq_gv hs75 (gg := (((((((within b.bunker 1 99) && (within b.tank 1 99)) && (okSpan b.coal.lo b.coal.hi 0 b.bunker)) && (okSpan b.water.lo b.water.hi 0 b.tank)) && (within b.scoop 1 20)) && (within b.pail 1 20)) && (okSpan b.burn0.lo b.burn0.hi 0 3)) && (okSpan b.drink0.lo b.drink0.hi 0 3)) (v := .pointer (some ⟨b2, 8, none⟩)) rfl rfl 1 rfl (ison_t _) rfl rfl rfl (fun hg79 K80 hK80 => st_field (o' := 8) hs75 (Ev.t 9 rfl) rfl rfl runUnderlying27 rfl sizeOf24 rfl rfl hK80) fun _ _ hs76 => ?_; clear hs75
 refine sq_gv hs76 (gg := (((((((within b.bunker 1 99) && (within b.tank 1 99)) && (okSpan b.coal.lo b.coal.hi 0 b.bunker)) && (okSpan b.water.lo b.water.hi 0 b.tank)) && (within b.scoop 1 20)) && (within b.pail 1 20)) && (okSpan b.burn0.lo b.burn0.hi 0 3)) && (okSpan b.drink0.lo b.drink0.hi 0 3)) (v := .pointer (some ⟨b2, 10, none⟩)) rfl rfl 2 rfl (ison_t _) rfl rfl rfl (fun hg81 K82 hK82 => st_indexArr (o' := 10) hs76 ((Ev.t 0 rfl).un hg81) ((Ev.t 1 rfl).un hg81) rfl rfl runUnderlying24 sizeOf23 (by decide) rfl hK82) fun _ _ hs77 => ?_; clear hs76
 refine sq_gv hs77 (gg := (((((((within b.bunker 1 99) && (within b.tank 1 99)) && (okSpan b.coal.lo b.coal.hi 0 b.bunker)) && (okSpan b.water.lo b.water.hi 0 b.tank)) && (within b.scoop 1 20)) && (within b.pail 1 20)) && (okSpan b.burn0.lo b.burn0.hi 0 3)) && (okSpan b.drink0.lo b.drink0.hi 0 3)) (v := .agg ⟨[.int .i64 b.burn1.lo, .int .i64 b.burn1.hi]⟩) rfl rfl 3 rfl (ison_t _) rfl rfl rfl (fun hg83 K84 hK84 => st_loadA (o := 0) (off := 10) (vs := [.int .i64 b.burn1.lo, .int .i64 b.burn1.hi]) hs77 ((Ev.t 0 rfl).un hg83) rfl rfl isAgg23 sizeOf23 (hs77.cells 1 rfl) rfl hK84) fun _ _ hs78 => ?_; clear hs77
 refine sq_gv hs78 (gg := (((((((within b.bunker 1 99) && (within b.tank 1 99)) && (okSpan b.coal.lo b.coal.hi 0 b.bunker)) && (okSpan b.water.lo b.water.hi 0 b.tank)) && (within b.scoop 1 20)) && (within b.pail 1 20)) && (okSpan b.burn0.lo b.burn0.hi 0 3)) && (okSpan b.drink0.lo b.drink0.hi 0 3)) (v := .bool (okSpan b.burn1.lo b.burn1.hi 0 3)) rfl rfl 4 rfl (ison_t _) rfl rfl rfl (fun hg85 K86 hK86 => st_callv (vs := [.agg ⟨[.int .i64 b.burn1.lo, .int .i64 b.burn1.hi]⟩, .int .i64 0, .int .i64 3]) hs78 (.func _) ⟨((Ev.t 0 rfl).un hg85), (.const _), (.const _), trivial⟩ rfl rfl call50 rfl (isSpan_v b.burn1.lo b.burn1.hi 0 3 _) hK86) fun _ _ hs79 => ?_; clear hs78
 refine sq rfl (st_and hs79 (gx := true) (gy := (((((((within b.bunker 1 99) && (within b.tank 1 99)) && (okSpan b.coal.lo b.coal.hi 0 b.bunker)) && (okSpan b.water.lo b.water.hi 0 b.tank)) && (within b.scoop 1 20)) && (within b.pail 1 20)) && (okSpan b.burn0.lo b.burn0.hi 0 3)) && (okSpan b.drink0.lo b.drink0.hi 0 3)) (Ev.t 5 rfl) rfl (Ev.t 0 rfl) (fun h => h) rfl rfl fun _ _ hs80 => ?_); clear hs79
 refine sq rfl (st_move hs80 (Ev.t 0 rfl) rfl rfl fun _ _ hs81 => ?_); clear hs80
 refine sq_gv hs81 (gg := ((((((((within b.bunker 1 99) && (within b.tank 1 99)) && (okSpan b.coal.lo b.coal.hi 0 b.bunker)) && (okSpan b.water.lo b.water.hi 0 b.tank)) && (within b.scoop 1 20)) && (within b.pail 1 20)) && (okSpan b.burn0.lo b.burn0.hi 0 3)) && (okSpan b.drink0.lo b.drink0.hi 0 3)) && (okSpan b.burn1.lo b.burn1.hi 0 3)) (v := .int .i64 1) rfl rfl 0 rfl (ison_t _) rfl rfl rfl (fun hg87 K88 hK88 => st_move hs81 (Ev.t 9 rfl) rfl rfl hK88) fun _ _ hs82 => ?_; clear hs81
 refine sq_gv hs82 (gg := ((((((((within b.bunker 1 99) && (within b.tank 1 99)) && (okSpan b.coal.lo b.coal.hi 0 b.bunker)) && (okSpan b.water.lo b.water.hi 0 b.tank)) && (within b.scoop 1 20)) && (within b.pail 1 20)) && (okSpan b.burn0.lo b.burn0.hi 0 3)) && (okSpan b.drink0.lo b.drink0.hi 0 3)) && (okSpan b.burn1.lo b.burn1.hi 0 3)) (v := .pointer (some ⟨b2, 12, none⟩)) rfl rfl 1 rfl (ison_t _) rfl rfl rfl (fun hg89 K90 hK90 => st_field (o' := 12) hs82 (Ev.t 16 rfl) rfl rfl runUnderlying27 rfl sizeOf24 rfl rfl hK90) fun _ _ hs83 => ?_; clear hs82
 refine sq_gv hs83 (gg := ((((((((within b.bunker 1 99) && (within b.tank 1 99)) && (okSpan b.coal.lo b.coal.hi 0 b.bunker)) && (okSpan b.water.lo b.water.hi 0 b.tank)) && (within b.scoop 1 20)) && (within b.pail 1 20)) && (okSpan b.burn0.lo b.burn0.hi 0 3)) && (okSpan b.drink0.lo b.drink0.hi 0 3)) && (okSpan b.burn1.lo b.burn1.hi 0 3)) (v := .pointer (some ⟨b2, 14, none⟩)) rfl rfl 2 rfl (ison_t _) rfl rfl rfl (fun hg91 K92 hK92 => st_indexArr (o' := 14) hs83 ((Ev.t 0 rfl).un hg91) ((Ev.t 1 rfl).un hg91) rfl rfl runUnderlying24 sizeOf23 (by decide) rfl hK92) fun _ _ hs84 => ?_; clear hs83
 refine sq_gv hs84 (gg := ((((((((within b.bunker 1 99) && (within b.tank 1 99)) && (okSpan b.coal.lo b.coal.hi 0 b.bunker)) && (okSpan b.water.lo b.water.hi 0 b.tank)) && (within b.scoop 1 20)) && (within b.pail 1 20)) && (okSpan b.burn0.lo b.burn0.hi 0 3)) && (okSpan b.drink0.lo b.drink0.hi 0 3)) && (okSpan b.burn1.lo b.burn1.hi 0 3)) (v := .agg ⟨[.int .i64 b.drink1.lo, .int .i64 b.drink1.hi]⟩) rfl rfl 3 rfl (ison_t _) rfl rfl rfl (fun hg93 K94 hK94 => st_loadA (o := 0) (off := 14) (vs := [.int .i64 b.drink1.lo, .int .i64 b.drink1.hi]) hs84 ((Ev.t 0 rfl).un hg93) rfl rfl isAgg23 sizeOf23 (hs84.cells 1 rfl) rfl hK94) fun _ _ hs85 => ?_; clear hs84
 refine sq_gv hs85 (gg := ((((((((within b.bunker 1 99) && (within b.tank 1 99)) && (okSpan b.coal.lo b.coal.hi 0 b.bunker)) && (okSpan b.water.lo b.water.hi 0 b.tank)) && (within b.scoop 1 20)) && (within b.pail 1 20)) && (okSpan b.burn0.lo b.burn0.hi 0 3)) && (okSpan b.drink0.lo b.drink0.hi 0 3)) && (okSpan b.burn1.lo b.burn1.hi 0 3)) (v := .bool (okSpan b.drink1.lo b.drink1.hi 0 3)) rfl rfl 4 rfl (ison_t _) rfl rfl rfl (fun hg95 K96 hK96 => st_callv (vs := [.agg ⟨[.int .i64 b.drink1.lo, .int .i64 b.drink1.hi]⟩, .int .i64 0, .int .i64 3]) hs85 (.func _) ⟨((Ev.t 0 rfl).un hg95), (.const _), (.const _), trivial⟩ rfl rfl call50 rfl (isSpan_v b.drink1.lo b.drink1.hi 0 3 _) hK96) fun _ _ hs86 => ?_; clear hs85
 refine sq rfl (st_and hs86 (gx := true) (gy := ((((((((within b.bunker 1 99) && (within b.tank 1 99)) && (okSpan b.coal.lo b.coal.hi 0 b.bunker)) && (okSpan b.water.lo b.water.hi 0 b.tank)) && (within b.scoop 1 20)) && (within b.pail 1 20)) && (okSpan b.burn0.lo b.burn0.hi 0 3)) && (okSpan b.drink0.lo b.drink0.hi 0 3)) && (okSpan b.burn1.lo b.burn1.hi 0 3)) (Ev.t 5 rfl) rfl (Ev.t 0 rfl) (fun h => h) rfl rfl fun _ _ hs87 => ?_); clear hs86
 have hs88 := hs87.keep [0, 1, 2, 3, 4, 5, 6, 7, 8, 9, 10, 11, 12, 13, 14, 15, 16, 18, 19, 20, 21] [_, _, _, _, _, _, _, _, _, _, _, _, _, _, _, _, _, _, _, _, _] rfl; clear hs87
 refine sq rfl (st_assign hs88 (Ev.t 0 rfl) rfl rfl fun _ _ hs89 => ?_); clear hs88
 refine wpListIn_nil ?_
 have hs90 := hs89.keep [0, 17, 18, 19, 20, 21] [_, _, _, _, _, _] rfl; clear hs89
 refine in_norm ?_
 refine th_norm (hK75 _ _ ?_)
 refine cd_region1 ?_
 refine sq rfl (st_add (z := 2) hs90 (Ev.t 1 rfl) (.const _) rfl rfl rfl (by omega) fun _ _ hs91 => ?_); clear hs90
 have hs92 := hs91.keep [0, 1, 3, 4, 5, 6] [_, _, _, _, _, _] rfl; clear hs91
 refine sq rfl (st_move hs92 (Ev.t 0 rfl) rfl rfl fun _ _ hs93 => ?_); clear hs92
 refine wpListIn_nil ?_
 have hs94 := hs93.keep [0, 2, 3, 4, 5, 6] [_, _, _, _, _, _] rfl; clear hs93
 refine th_norm (hK71 _ _ ?_); clear hK71
 refine cd_round fun K97 hK97 => ?_
 refine cd_region fun K98 hK98 => ?_
 refine sq rfl (st_cmp (c := decide ((2 : Int) < 2)) hs94 (Ev.t 0 rfl) (Ev.t 2 rfl) rfl rfl rfl rfl fun _ _ hs95 => ?_); clear hs94
 refine hK98 _ _ ?_; clear hK98
 refine cd_seq fun K99 hK99 => ?_
 have hc100 : (decide ((2 : Int) < 2)) = false := by decide
 refine cd_cond hs95 (Ev.t 0 rfl) (fun h => absurd (hc100.symm.trans h) (by decide)) (fun _ => ?_)
 refine cd_exit ?_
 refine th_exit ?_
 refine th_exit ?_
 refine in_hit ?_
 refine th_norm (hK42 _ _ ?_)
 refine cd_region fun K101 hK101 => ?_
 refine sq rfl (st_move hs95 (Ev.t 2 rfl) rfl rfl fun _ _ hs96 => ?_); clear hs95
 refine sq rfl (st_move hs96 (Ev.t 0 rfl) rfl rfl fun _ _ hs97 => ?_); clear hs96
 refine sq_gv hs97 (gg := (((((((((within b.bunker 1 99) && (within b.tank 1 99)) && (okSpan b.coal.lo b.coal.hi 0 b.bunker)) && (okSpan b.water.lo b.water.hi 0 b.tank)) && (within b.scoop 1 20)) && (within b.pail 1 20)) && (okSpan b.burn0.lo b.burn0.hi 0 3)) && (okSpan b.drink0.lo b.drink0.hi 0 3)) && (okSpan b.burn1.lo b.burn1.hi 0 3)) && (okSpan b.drink1.lo b.drink1.hi 0 3)) (v := .pointer (some ⟨b2, 16, none⟩)) rfl rfl 0 rfl (ison_t _) rfl rfl rfl (fun hg102 K103 hK103 => st_field (o' := 16) hs97 (Ev.t 8 rfl) rfl rfl runUnderlying27 rfl sizeOf23 rfl rfl hK103) fun _ _ hs98 => ?_; clear hs97
 refine sq_gv hs98 (gg := (((((((((within b.bunker 1 99) && (within b.tank 1 99)) && (okSpan b.coal.lo b.coal.hi 0 b.bunker)) && (okSpan b.water.lo b.water.hi 0 b.tank)) && (within b.scoop 1 20)) && (within b.pail 1 20)) && (okSpan b.burn0.lo b.burn0.hi 0 3)) && (okSpan b.drink0.lo b.drink0.hi 0 3)) && (okSpan b.burn1.lo b.burn1.hi 0 3)) && (okSpan b.drink1.lo b.drink1.hi 0 3)) (v := .agg ⟨[.int .i64 b.full.lo, .int .i64 b.full.hi]⟩) rfl rfl 1 rfl (ison_t _) rfl rfl rfl (fun hg104 K105 hK105 => st_loadA (o := 0) (off := 16) (vs := [.int .i64 b.full.lo, .int .i64 b.full.hi]) hs98 ((Ev.t 0 rfl).un hg104) rfl rfl isAgg23 sizeOf23 (hs98.cells 1 rfl) rfl hK105) fun _ _ hs99 => ?_; clear hs98
 refine sq_gv hs99 (gg := (((((((((within b.bunker 1 99) && (within b.tank 1 99)) && (okSpan b.coal.lo b.coal.hi 0 b.bunker)) && (okSpan b.water.lo b.water.hi 0 b.tank)) && (within b.scoop 1 20)) && (within b.pail 1 20)) && (okSpan b.burn0.lo b.burn0.hi 0 3)) && (okSpan b.drink0.lo b.drink0.hi 0 3)) && (okSpan b.burn1.lo b.burn1.hi 0 3)) && (okSpan b.drink1.lo b.drink1.hi 0 3)) (v := .bool (okSpan b.full.lo b.full.hi 0 60)) rfl rfl 2 rfl (ison_t _) rfl rfl rfl (fun hg106 K107 hK107 => st_callv (vs := [.agg ⟨[.int .i64 b.full.lo, .int .i64 b.full.hi]⟩, .int .i64 0, .int .i64 60]) hs99 (.func _) ⟨((Ev.t 0 rfl).un hg106), (.const _), (.const _), trivial⟩ rfl rfl call50 rfl (isSpan_v b.full.lo b.full.hi 0 60 _) hK107) fun _ _ hs100 => ?_; clear hs99
 refine sq rfl (st_and hs100 (gx := true) (gy := (((((((((within b.bunker 1 99) && (within b.tank 1 99)) && (okSpan b.coal.lo b.coal.hi 0 b.bunker)) && (okSpan b.water.lo b.water.hi 0 b.tank)) && (within b.scoop 1 20)) && (within b.pail 1 20)) && (okSpan b.burn0.lo b.burn0.hi 0 3)) && (okSpan b.drink0.lo b.drink0.hi 0 3)) && (okSpan b.burn1.lo b.burn1.hi 0 3)) && (okSpan b.drink1.lo b.drink1.hi 0 3)) (Ev.t 3 rfl) rfl (Ev.t 0 rfl) (fun h => h) rfl rfl fun _ _ hs101 => ?_); clear hs100
 refine sq rfl (st_move hs101 (Ev.t 0 rfl) rfl rfl fun _ _ hs102 => ?_); clear hs101
 refine sq_gv hs102 (gg := ((((((((((within b.bunker 1 99) && (within b.tank 1 99)) && (okSpan b.coal.lo b.coal.hi 0 b.bunker)) && (okSpan b.water.lo b.water.hi 0 b.tank)) && (within b.scoop 1 20)) && (within b.pail 1 20)) && (okSpan b.burn0.lo b.burn0.hi 0 3)) && (okSpan b.drink0.lo b.drink0.hi 0 3)) && (okSpan b.burn1.lo b.burn1.hi 0 3)) && (okSpan b.drink1.lo b.drink1.hi 0 3)) && (okSpan b.full.lo b.full.hi 0 60)) (v := .pointer (some ⟨b2, 18, none⟩)) rfl rfl 0 rfl (ison_t _) rfl rfl rfl (fun hg108 K109 hK109 => st_field (o' := 18) hs102 (Ev.t 13 rfl) rfl rfl runUnderlying27 rfl sizeOf23 rfl rfl hK109) fun _ _ hs103 => ?_; clear hs102
 refine sq_gv hs103 (gg := ((((((((((within b.bunker 1 99) && (within b.tank 1 99)) && (okSpan b.coal.lo b.coal.hi 0 b.bunker)) && (okSpan b.water.lo b.water.hi 0 b.tank)) && (within b.scoop 1 20)) && (within b.pail 1 20)) && (okSpan b.burn0.lo b.burn0.hi 0 3)) && (okSpan b.drink0.lo b.drink0.hi 0 3)) && (okSpan b.burn1.lo b.burn1.hi 0 3)) && (okSpan b.drink1.lo b.drink1.hi 0 3)) && (okSpan b.full.lo b.full.hi 0 60)) (v := .agg ⟨[.int .i64 b.weak.lo, .int .i64 b.weak.hi]⟩) rfl rfl 1 rfl (ison_t _) rfl rfl rfl (fun hg110 K111 hK111 => st_loadA (o := 0) (off := 18) (vs := [.int .i64 b.weak.lo, .int .i64 b.weak.hi]) hs103 ((Ev.t 0 rfl).un hg110) rfl rfl isAgg23 sizeOf23 (hs103.cells 1 rfl) rfl hK111) fun _ _ hs104 => ?_; clear hs103
 refine sq_gv hs104 (gg := ((((((((((within b.bunker 1 99) && (within b.tank 1 99)) && (okSpan b.coal.lo b.coal.hi 0 b.bunker)) && (okSpan b.water.lo b.water.hi 0 b.tank)) && (within b.scoop 1 20)) && (within b.pail 1 20)) && (okSpan b.burn0.lo b.burn0.hi 0 3)) && (okSpan b.drink0.lo b.drink0.hi 0 3)) && (okSpan b.burn1.lo b.burn1.hi 0 3)) && (okSpan b.drink1.lo b.drink1.hi 0 3)) && (okSpan b.full.lo b.full.hi 0 60)) (v := .bool (okSpan b.weak.lo b.weak.hi 0 60)) rfl rfl 2 rfl (ison_t _) rfl rfl rfl (fun hg112 K113 hK113 => st_callv (vs := [.agg ⟨[.int .i64 b.weak.lo, .int .i64 b.weak.hi]⟩, .int .i64 0, .int .i64 60]) hs104 (.func _) ⟨((Ev.t 0 rfl).un hg112), (.const _), (.const _), trivial⟩ rfl rfl call50 rfl (isSpan_v b.weak.lo b.weak.hi 0 60 _) hK113) fun _ _ hs105 => ?_; clear hs104
 refine sq rfl (st_and hs105 (gx := true) (gy := ((((((((((within b.bunker 1 99) && (within b.tank 1 99)) && (okSpan b.coal.lo b.coal.hi 0 b.bunker)) && (okSpan b.water.lo b.water.hi 0 b.tank)) && (within b.scoop 1 20)) && (within b.pail 1 20)) && (okSpan b.burn0.lo b.burn0.hi 0 3)) && (okSpan b.drink0.lo b.drink0.hi 0 3)) && (okSpan b.burn1.lo b.burn1.hi 0 3)) && (okSpan b.drink1.lo b.drink1.hi 0 3)) && (okSpan b.full.lo b.full.hi 0 60)) (Ev.t 3 rfl) rfl (Ev.t 0 rfl) (fun h => h) rfl rfl fun _ _ hs106 => ?_); clear hs105
 refine sq rfl (st_move hs106 (Ev.t 0 rfl) rfl rfl fun _ _ hs107 => ?_); clear hs106
 refine sq_gv hs107 (gg := (((((((((((within b.bunker 1 99) && (within b.tank 1 99)) && (okSpan b.coal.lo b.coal.hi 0 b.bunker)) && (okSpan b.water.lo b.water.hi 0 b.tank)) && (within b.scoop 1 20)) && (within b.pail 1 20)) && (okSpan b.burn0.lo b.burn0.hi 0 3)) && (okSpan b.drink0.lo b.drink0.hi 0 3)) && (okSpan b.burn1.lo b.burn1.hi 0 3)) && (okSpan b.drink1.lo b.drink1.hi 0 3)) && (okSpan b.full.lo b.full.hi 0 60)) && (okSpan b.weak.lo b.weak.hi 0 60)) (v := .pointer (some ⟨b2, 18, none⟩)) rfl rfl 0 rfl (ison_t _) rfl rfl rfl (fun hg114 K115 hK115 => st_field (o' := 18) hs107 (Ev.t 18 rfl) rfl rfl runUnderlying27 rfl sizeOf23 rfl rfl hK115) fun _ _ hs108 => ?_; clear hs107
 refine sq_gv hs108 (gg := (((((((((((within b.bunker 1 99) && (within b.tank 1 99)) && (okSpan b.coal.lo b.coal.hi 0 b.bunker)) && (okSpan b.water.lo b.water.hi 0 b.tank)) && (within b.scoop 1 20)) && (within b.pail 1 20)) && (okSpan b.burn0.lo b.burn0.hi 0 3)) && (okSpan b.drink0.lo b.drink0.hi 0 3)) && (okSpan b.burn1.lo b.burn1.hi 0 3)) && (okSpan b.drink1.lo b.drink1.hi 0 3)) && (okSpan b.full.lo b.full.hi 0 60)) && (okSpan b.weak.lo b.weak.hi 0 60)) (v := .pointer (some ⟨b2, 18, none⟩)) rfl rfl 1 rfl (ison_t _) rfl rfl rfl (fun hg116 K117 hK117 => st_field (o' := 18) hs108 ((Ev.t 0 rfl).un hg116) rfl rfl runUnderlying23 rfl sizeOf3 rfl rfl hK117) fun _ _ hs109 => ?_; clear hs108
 refine sq_gv hs109 (gg := (((((((((((within b.bunker 1 99) && (within b.tank 1 99)) && (okSpan b.coal.lo b.coal.hi 0 b.bunker)) && (okSpan b.water.lo b.water.hi 0 b.tank)) && (within b.scoop 1 20)) && (within b.pail 1 20)) && (okSpan b.burn0.lo b.burn0.hi 0 3)) && (okSpan b.drink0.lo b.drink0.hi 0 3)) && (okSpan b.burn1.lo b.burn1.hi 0 3)) && (okSpan b.drink1.lo b.drink1.hi 0 3)) && (okSpan b.full.lo b.full.hi 0 60)) && (okSpan b.weak.lo b.weak.hi 0 60)) (v := .int .i64 b.weak.lo) rfl rfl 2 rfl (ison_t _) rfl rfl rfl (fun hg118 K119 hK119 => st_load1 (o := 0) (off := 18) (v := .int .i64 b.weak.lo) hs109 ((Ev.t 0 rfl).un hg118) rfl rfl isAgg3 (hs109.cells 1 rfl) rfl hK119) fun _ _ hs110 => ?_; clear hs109
 refine sq_gv hs110 (gg := (((((((((((within b.bunker 1 99) && (within b.tank 1 99)) && (okSpan b.coal.lo b.coal.hi 0 b.bunker)) && (okSpan b.water.lo b.water.hi 0 b.tank)) && (within b.scoop 1 20)) && (within b.pail 1 20)) && (okSpan b.burn0.lo b.burn0.hi 0 3)) && (okSpan b.drink0.lo b.drink0.hi 0 3)) && (okSpan b.burn1.lo b.burn1.hi 0 3)) && (okSpan b.drink1.lo b.drink1.hi 0 3)) && (okSpan b.full.lo b.full.hi 0 60)) && (okSpan b.weak.lo b.weak.hi 0 60)) (v := .pointer (some ⟨b2, 16, none⟩)) rfl rfl 3 rfl (ison_t _) rfl rfl rfl (fun hg120 K121 hK121 => st_field (o' := 16) hs110 (Ev.t 21 rfl) rfl rfl runUnderlying27 rfl sizeOf23 rfl rfl hK121) fun _ _ hs111 => ?_; clear hs110
 refine sq_gv hs111 (gg := (((((((((((within b.bunker 1 99) && (within b.tank 1 99)) && (okSpan b.coal.lo b.coal.hi 0 b.bunker)) && (okSpan b.water.lo b.water.hi 0 b.tank)) && (within b.scoop 1 20)) && (within b.pail 1 20)) && (okSpan b.burn0.lo b.burn0.hi 0 3)) && (okSpan b.drink0.lo b.drink0.hi 0 3)) && (okSpan b.burn1.lo b.burn1.hi 0 3)) && (okSpan b.drink1.lo b.drink1.hi 0 3)) && (okSpan b.full.lo b.full.hi 0 60)) && (okSpan b.weak.lo b.weak.hi 0 60)) (v := .pointer (some ⟨b2, 16, none⟩)) rfl rfl 4 rfl (ison_t _) rfl rfl rfl (fun hg122 K123 hK123 => st_field (o' := 16) hs111 ((Ev.t 0 rfl).un hg122) rfl rfl runUnderlying23 rfl sizeOf3 rfl rfl hK123) fun _ _ hs112 => ?_; clear hs111
 refine sq_gv hs112 (gg := (((((((((((within b.bunker 1 99) && (within b.tank 1 99)) && (okSpan b.coal.lo b.coal.hi 0 b.bunker)) && (okSpan b.water.lo b.water.hi 0 b.tank)) && (within b.scoop 1 20)) && (within b.pail 1 20)) && (okSpan b.burn0.lo b.burn0.hi 0 3)) && (okSpan b.drink0.lo b.drink0.hi 0 3)) && (okSpan b.burn1.lo b.burn1.hi 0 3)) && (okSpan b.drink1.lo b.drink1.hi 0 3)) && (okSpan b.full.lo b.full.hi 0 60)) && (okSpan b.weak.lo b.weak.hi 0 60)) (v := .int .i64 b.full.lo) rfl rfl 5 rfl (ison_t _) rfl rfl rfl (fun hg124 K125 hK125 => st_load1 (o := 0) (off := 16) (v := .int .i64 b.full.lo) hs112 ((Ev.t 0 rfl).un hg124) rfl rfl isAgg3 (hs112.cells 1 rfl) rfl hK125) fun _ _ hs113 => ?_; clear hs112
 refine sq_gv hs113 (gg := (((((((((((within b.bunker 1 99) && (within b.tank 1 99)) && (okSpan b.coal.lo b.coal.hi 0 b.bunker)) && (okSpan b.water.lo b.water.hi 0 b.tank)) && (within b.scoop 1 20)) && (within b.pail 1 20)) && (okSpan b.burn0.lo b.burn0.hi 0 3)) && (okSpan b.drink0.lo b.drink0.hi 0 3)) && (okSpan b.burn1.lo b.burn1.hi 0 3)) && (okSpan b.drink1.lo b.drink1.hi 0 3)) && (okSpan b.full.lo b.full.hi 0 60)) && (okSpan b.weak.lo b.weak.hi 0 60)) (v := .bool (decide ((b.weak.lo : Int) ≤ b.full.lo))) rfl rfl 6 rfl (ison_t _) rfl rfl rfl (fun hg126 K127 hK127 => st_cmp (c := decide ((b.weak.lo : Int) ≤ b.full.lo)) hs113 ((Ev.t 3 rfl).un hg126) ((Ev.t 0 rfl).un hg126) rfl rfl rfl rfl hK127) fun _ _ hs114 => ?_; clear hs113
 refine sq rfl (st_and hs114 (gx := true) (gy := (((((((((((within b.bunker 1 99) && (within b.tank 1 99)) && (okSpan b.coal.lo b.coal.hi 0 b.bunker)) && (okSpan b.water.lo b.water.hi 0 b.tank)) && (within b.scoop 1 20)) && (within b.pail 1 20)) && (okSpan b.burn0.lo b.burn0.hi 0 3)) && (okSpan b.drink0.lo b.drink0.hi 0 3)) && (okSpan b.burn1.lo b.burn1.hi 0 3)) && (okSpan b.drink1.lo b.drink1.hi 0 3)) && (okSpan b.full.lo b.full.hi 0 60)) && (okSpan b.weak.lo b.weak.hi 0 60)) (Ev.t 7 rfl) rfl (Ev.t 0 rfl) (fun h => h) rfl rfl fun _ _ hs115 => ?_); clear hs114
 refine sq rfl (st_move hs115 (Ev.t 0 rfl) rfl rfl fun _ _ hs116 => ?_); clear hs115
 refine sq_gv hs116 (gg := ((((((((((((within b.bunker 1 99) && (within b.tank 1 99)) && (okSpan b.coal.lo b.coal.hi 0 b.bunker)) && (okSpan b.water.lo b.water.hi 0 b.tank)) && (within b.scoop 1 20)) && (within b.pail 1 20)) && (okSpan b.burn0.lo b.burn0.hi 0 3)) && (okSpan b.drink0.lo b.drink0.hi 0 3)) && (okSpan b.burn1.lo b.burn1.hi 0 3)) && (okSpan b.drink1.lo b.drink1.hi 0 3)) && (okSpan b.full.lo b.full.hi 0 60)) && (okSpan b.weak.lo b.weak.hi 0 60)) && (decide ((b.weak.lo : Int) ≤ b.full.lo))) (v := .pointer (some ⟨b2, 18, none⟩)) rfl rfl 0 rfl (ison_t _) rfl rfl rfl (fun hg128 K129 hK129 => st_field (o' := 18) hs116 (Ev.t 27 rfl) rfl rfl runUnderlying27 rfl sizeOf23 rfl rfl hK129) fun _ _ hs117 => ?_; clear hs116
 refine sq_gv hs117 (gg := ((((((((((((within b.bunker 1 99) && (within b.tank 1 99)) && (okSpan b.coal.lo b.coal.hi 0 b.bunker)) && (okSpan b.water.lo b.water.hi 0 b.tank)) && (within b.scoop 1 20)) && (within b.pail 1 20)) && (okSpan b.burn0.lo b.burn0.hi 0 3)) && (okSpan b.drink0.lo b.drink0.hi 0 3)) && (okSpan b.burn1.lo b.burn1.hi 0 3)) && (okSpan b.drink1.lo b.drink1.hi 0 3)) && (okSpan b.full.lo b.full.hi 0 60)) && (okSpan b.weak.lo b.weak.hi 0 60)) && (decide ((b.weak.lo : Int) ≤ b.full.lo))) (v := .pointer (some ⟨b2, 19, none⟩)) rfl rfl 1 rfl (ison_t _) rfl rfl rfl (fun hg130 K131 hK131 => st_field (o' := 19) hs117 ((Ev.t 0 rfl).un hg130) rfl rfl runUnderlying23 rfl sizeOf3 rfl rfl hK131) fun _ _ hs118 => ?_; clear hs117
 refine sq_gv hs118 (gg := ((((((((((((within b.bunker 1 99) && (within b.tank 1 99)) && (okSpan b.coal.lo b.coal.hi 0 b.bunker)) && (okSpan b.water.lo b.water.hi 0 b.tank)) && (within b.scoop 1 20)) && (within b.pail 1 20)) && (okSpan b.burn0.lo b.burn0.hi 0 3)) && (okSpan b.drink0.lo b.drink0.hi 0 3)) && (okSpan b.burn1.lo b.burn1.hi 0 3)) && (okSpan b.drink1.lo b.drink1.hi 0 3)) && (okSpan b.full.lo b.full.hi 0 60)) && (okSpan b.weak.lo b.weak.hi 0 60)) && (decide ((b.weak.lo : Int) ≤ b.full.lo))) (v := .int .i64 b.weak.hi) rfl rfl 2 rfl (ison_t _) rfl rfl rfl (fun hg132 K133 hK133 => st_load1 (o := 0) (off := 19) (v := .int .i64 b.weak.hi) hs118 ((Ev.t 0 rfl).un hg132) rfl rfl isAgg3 (hs118.cells 1 rfl) rfl hK133) fun _ _ hs119 => ?_; clear hs118
 refine sq_gv hs119 (gg := ((((((((((((within b.bunker 1 99) && (within b.tank 1 99)) && (okSpan b.coal.lo b.coal.hi 0 b.bunker)) && (okSpan b.water.lo b.water.hi 0 b.tank)) && (within b.scoop 1 20)) && (within b.pail 1 20)) && (okSpan b.burn0.lo b.burn0.hi 0 3)) && (okSpan b.drink0.lo b.drink0.hi 0 3)) && (okSpan b.burn1.lo b.burn1.hi 0 3)) && (okSpan b.drink1.lo b.drink1.hi 0 3)) && (okSpan b.full.lo b.full.hi 0 60)) && (okSpan b.weak.lo b.weak.hi 0 60)) && (decide ((b.weak.lo : Int) ≤ b.full.lo))) (v := .pointer (some ⟨b2, 16, none⟩)) rfl rfl 3 rfl (ison_t _) rfl rfl rfl (fun hg134 K135 hK135 => st_field (o' := 16) hs119 (Ev.t 30 rfl) rfl rfl runUnderlying27 rfl sizeOf23 rfl rfl hK135) fun _ _ hs120 => ?_; clear hs119
 refine sq_gv hs120 (gg := ((((((((((((within b.bunker 1 99) && (within b.tank 1 99)) && (okSpan b.coal.lo b.coal.hi 0 b.bunker)) && (okSpan b.water.lo b.water.hi 0 b.tank)) && (within b.scoop 1 20)) && (within b.pail 1 20)) && (okSpan b.burn0.lo b.burn0.hi 0 3)) && (okSpan b.drink0.lo b.drink0.hi 0 3)) && (okSpan b.burn1.lo b.burn1.hi 0 3)) && (okSpan b.drink1.lo b.drink1.hi 0 3)) && (okSpan b.full.lo b.full.hi 0 60)) && (okSpan b.weak.lo b.weak.hi 0 60)) && (decide ((b.weak.lo : Int) ≤ b.full.lo))) (v := .pointer (some ⟨b2, 17, none⟩)) rfl rfl 4 rfl (ison_t _) rfl rfl rfl (fun hg136 K137 hK137 => st_field (o' := 17) hs120 ((Ev.t 0 rfl).un hg136) rfl rfl runUnderlying23 rfl sizeOf3 rfl rfl hK137) fun _ _ hs121 => ?_; clear hs120
 refine sq_gv hs121 (gg := ((((((((((((within b.bunker 1 99) && (within b.tank 1 99)) && (okSpan b.coal.lo b.coal.hi 0 b.bunker)) && (okSpan b.water.lo b.water.hi 0 b.tank)) && (within b.scoop 1 20)) && (within b.pail 1 20)) && (okSpan b.burn0.lo b.burn0.hi 0 3)) && (okSpan b.drink0.lo b.drink0.hi 0 3)) && (okSpan b.burn1.lo b.burn1.hi 0 3)) && (okSpan b.drink1.lo b.drink1.hi 0 3)) && (okSpan b.full.lo b.full.hi 0 60)) && (okSpan b.weak.lo b.weak.hi 0 60)) && (decide ((b.weak.lo : Int) ≤ b.full.lo))) (v := .int .i64 b.full.hi) rfl rfl 5 rfl (ison_t _) rfl rfl rfl (fun hg138 K139 hK139 => st_load1 (o := 0) (off := 17) (v := .int .i64 b.full.hi) hs121 ((Ev.t 0 rfl).un hg138) rfl rfl isAgg3 (hs121.cells 1 rfl) rfl hK139) fun _ _ hs122 => ?_; clear hs121
 refine sq_gv hs122 (gg := ((((((((((((within b.bunker 1 99) && (within b.tank 1 99)) && (okSpan b.coal.lo b.coal.hi 0 b.bunker)) && (okSpan b.water.lo b.water.hi 0 b.tank)) && (within b.scoop 1 20)) && (within b.pail 1 20)) && (okSpan b.burn0.lo b.burn0.hi 0 3)) && (okSpan b.drink0.lo b.drink0.hi 0 3)) && (okSpan b.burn1.lo b.burn1.hi 0 3)) && (okSpan b.drink1.lo b.drink1.hi 0 3)) && (okSpan b.full.lo b.full.hi 0 60)) && (okSpan b.weak.lo b.weak.hi 0 60)) && (decide ((b.weak.lo : Int) ≤ b.full.lo))) (v := .bool (decide ((b.weak.hi : Int) ≤ b.full.hi))) rfl rfl 6 rfl (ison_t _) rfl rfl rfl (fun hg140 K141 hK141 => st_cmp (c := decide ((b.weak.hi : Int) ≤ b.full.hi)) hs122 ((Ev.t 3 rfl).un hg140) ((Ev.t 0 rfl).un hg140) rfl rfl rfl rfl hK141) fun _ _ hs123 => ?_; clear hs122
 refine sq rfl (st_and hs123 (gx := true) (gy := ((((((((((((within b.bunker 1 99) && (within b.tank 1 99)) && (okSpan b.coal.lo b.coal.hi 0 b.bunker)) && (okSpan b.water.lo b.water.hi 0 b.tank)) && (within b.scoop 1 20)) && (within b.pail 1 20)) && (okSpan b.burn0.lo b.burn0.hi 0 3)) && (okSpan b.drink0.lo b.drink0.hi 0 3)) && (okSpan b.burn1.lo b.burn1.hi 0 3)) && (okSpan b.drink1.lo b.drink1.hi 0 3)) && (okSpan b.full.lo b.full.hi 0 60)) && (okSpan b.weak.lo b.weak.hi 0 60)) && (decide ((b.weak.lo : Int) ≤ b.full.lo))) (Ev.t 7 rfl) rfl (Ev.t 0 rfl) (fun h => h) rfl rfl fun _ _ hs124 => ?_); clear hs123
 have hs125 := hs124.keep [0, 1, 2, 3, 4, 5, 6, 7, 8, 9, 10, 11, 12, 13, 14, 15, 16, 17, 18, 19, 20, 21, 22, 23, 24, 25, 26, 27, 28, 29, 30, 32, 33, 34, 35] [_, _, _, _, _, _, _, _, _, _, _, _, _, _, _, _, _, _, _, _, _, _, _, _, _, _, _, _, _, _, _, _, _, _, _] rfl; clear hs124
 refine sq rfl (st_assign hs125 (Ev.t 0 rfl) rfl rfl fun _ _ hs126 => ?_); clear hs125
 refine hK101 _ _ ?_; clear hK101
 have hs127 := hs126.keep [0, 34, 35] [_, _, _] rfl; clear hs126
 refine cd_region fun K142 hK142 => ?_
 refine sq rfl (st_move hs127 (Ev.t 0 rfl) rfl rfl fun _ _ hs128 => ?_); clear hs127
 refine sq rfl (st_move hs128 (Ev.t 0 rfl) rfl rfl fun _ _ hs129 => ?_); clear hs128
 refine sq_gv hs129 (gg := (((((((((((((within b.bunker 1 99) && (within b.tank 1 99)) && (okSpan b.coal.lo b.coal.hi 0 b.bunker)) && (okSpan b.water.lo b.water.hi 0 b.tank)) && (within b.scoop 1 20)) && (within b.pail 1 20)) && (okSpan b.burn0.lo b.burn0.hi 0 3)) && (okSpan b.drink0.lo b.drink0.hi 0 3)) && (okSpan b.burn1.lo b.burn1.hi 0 3)) && (okSpan b.drink1.lo b.drink1.hi 0 3)) && (okSpan b.full.lo b.full.hi 0 60)) && (okSpan b.weak.lo b.weak.hi 0 60)) && (decide ((b.weak.lo : Int) ≤ b.full.lo))) && (decide ((b.weak.hi : Int) ≤ b.full.hi))) (v := .pointer (some ⟨b2, 20, none⟩)) rfl rfl 0 rfl (ison_t _) rfl rfl rfl (fun hg143 K144 hK144 => st_field (o' := 20) hs129 (Ev.t 4 rfl) rfl rfl runUnderlying27 rfl sizeOf3 rfl rfl hK144) fun _ _ hs130 => ?_; clear hs129
 refine sq_gv hs130 (gg := (((((((((((((within b.bunker 1 99) && (within b.tank 1 99)) && (okSpan b.coal.lo b.coal.hi 0 b.bunker)) && (okSpan b.water.lo b.water.hi 0 b.tank)) && (within b.scoop 1 20)) && (within b.pail 1 20)) && (okSpan b.burn0.lo b.burn0.hi 0 3)) && (okSpan b.drink0.lo b.drink0.hi 0 3)) && (okSpan b.burn1.lo b.burn1.hi 0 3)) && (okSpan b.drink1.lo b.drink1.hi 0 3)) && (okSpan b.full.lo b.full.hi 0 60)) && (okSpan b.weak.lo b.weak.hi 0 60)) && (decide ((b.weak.lo : Int) ≤ b.full.lo))) && (decide ((b.weak.hi : Int) ≤ b.full.hi))) (v := .int .i64 b.mark) rfl rfl 1 rfl (ison_t _) rfl rfl rfl (fun hg145 K146 hK146 => st_load1 (o := 0) (off := 20) (v := .int .i64 b.mark) hs130 ((Ev.t 0 rfl).un hg145) rfl rfl isAgg3 (hs130.cells 1 rfl) rfl hK146) fun _ _ hs131 => ?_; clear hs130
 refine sq_gv hs131 (gg := (((((((((((((within b.bunker 1 99) && (within b.tank 1 99)) && (okSpan b.coal.lo b.coal.hi 0 b.bunker)) && (okSpan b.water.lo b.water.hi 0 b.tank)) && (within b.scoop 1 20)) && (within b.pail 1 20)) && (okSpan b.burn0.lo b.burn0.hi 0 3)) && (okSpan b.drink0.lo b.drink0.hi 0 3)) && (okSpan b.burn1.lo b.burn1.hi 0 3)) && (okSpan b.drink1.lo b.drink1.hi 0 3)) && (okSpan b.full.lo b.full.hi 0 60)) && (okSpan b.weak.lo b.weak.hi 0 60)) && (decide ((b.weak.lo : Int) ≤ b.full.lo))) && (decide ((b.weak.hi : Int) ≤ b.full.hi))) (v := .pointer (some ⟨b2, 5, none⟩)) rfl rfl 2 rfl (ison_t _) rfl rfl rfl (fun hg147 K148 hK148 => st_field (o' := 5) hs131 (Ev.t 6 rfl) rfl rfl runUnderlying27 rfl sizeOf3 rfl rfl hK148) fun _ _ hs132 => ?_; clear hs131
 refine sq_gv hs132 (gg := (((((((((((((within b.bunker 1 99) && (within b.tank 1 99)) && (okSpan b.coal.lo b.coal.hi 0 b.bunker)) && (okSpan b.water.lo b.water.hi 0 b.tank)) && (within b.scoop 1 20)) && (within b.pail 1 20)) && (okSpan b.burn0.lo b.burn0.hi 0 3)) && (okSpan b.drink0.lo b.drink0.hi 0 3)) && (okSpan b.burn1.lo b.burn1.hi 0 3)) && (okSpan b.drink1.lo b.drink1.hi 0 3)) && (okSpan b.full.lo b.full.hi 0 60)) && (okSpan b.weak.lo b.weak.hi 0 60)) && (decide ((b.weak.lo : Int) ≤ b.full.lo))) && (decide ((b.weak.hi : Int) ≤ b.full.hi))) (v := .int .i64 b.tank) rfl rfl 3 rfl (ison_t _) rfl rfl rfl (fun hg149 K150 hK150 => st_load1 (o := 0) (off := 5) (v := .int .i64 b.tank) hs132 ((Ev.t 0 rfl).un hg149) rfl rfl isAgg3 (hs132.cells 1 rfl) rfl hK150) fun _ _ hs133 => ?_; clear hs132
 refine sq_gv hs133 (gg := (((((((((((((within b.bunker 1 99) && (within b.tank 1 99)) && (okSpan b.coal.lo b.coal.hi 0 b.bunker)) && (okSpan b.water.lo b.water.hi 0 b.tank)) && (within b.scoop 1 20)) && (within b.pail 1 20)) && (okSpan b.burn0.lo b.burn0.hi 0 3)) && (okSpan b.drink0.lo b.drink0.hi 0 3)) && (okSpan b.burn1.lo b.burn1.hi 0 3)) && (okSpan b.drink1.lo b.drink1.hi 0 3)) && (okSpan b.full.lo b.full.hi 0 60)) && (okSpan b.weak.lo b.weak.hi 0 60)) && (decide ((b.weak.lo : Int) ≤ b.full.lo))) && (decide ((b.weak.hi : Int) ≤ b.full.hi))) (v := .bool (within b.mark 0 b.tank)) rfl rfl 4 rfl (ison_t _) rfl rfl rfl (fun hg151 K152 hK152 => st_callv (vs := [.int .i64 b.mark, .int .i64 0, .int .i64 b.tank]) hs133 (.func _) ⟨((Ev.t 2 rfl).un hg151), (.const _), ((Ev.t 0 rfl).un hg151), trivial⟩ rfl rfl call48 rfl (within_v b.mark 0 b.tank _) hK152) fun _ _ hs134 => ?_; clear hs133
 refine sq rfl (st_and hs134 (gx := true) (gy := (((((((((((((within b.bunker 1 99) && (within b.tank 1 99)) && (okSpan b.coal.lo b.coal.hi 0 b.bunker)) && (okSpan b.water.lo b.water.hi 0 b.tank)) && (within b.scoop 1 20)) && (within b.pail 1 20)) && (okSpan b.burn0.lo b.burn0.hi 0 3)) && (okSpan b.drink0.lo b.drink0.hi 0 3)) && (okSpan b.burn1.lo b.burn1.hi 0 3)) && (okSpan b.drink1.lo b.drink1.hi 0 3)) && (okSpan b.full.lo b.full.hi 0 60)) && (okSpan b.weak.lo b.weak.hi 0 60)) && (decide ((b.weak.lo : Int) ≤ b.full.lo))) && (decide ((b.weak.hi : Int) ≤ b.full.hi))) (Ev.t 5 rfl) rfl (Ev.t 0 rfl) (fun h => h) rfl rfl fun _ _ hs135 => ?_); clear hs134
 refine sq rfl (st_move hs135 (Ev.t 0 rfl) rfl rfl fun _ _ hs136 => ?_); clear hs135
 refine sq_gv hs136 (gg := ((((((((((((((within b.bunker 1 99) && (within b.tank 1 99)) && (okSpan b.coal.lo b.coal.hi 0 b.bunker)) && (okSpan b.water.lo b.water.hi 0 b.tank)) && (within b.scoop 1 20)) && (within b.pail 1 20)) && (okSpan b.burn0.lo b.burn0.hi 0 3)) && (okSpan b.drink0.lo b.drink0.hi 0 3)) && (okSpan b.burn1.lo b.burn1.hi 0 3)) && (okSpan b.drink1.lo b.drink1.hi 0 3)) && (okSpan b.full.lo b.full.hi 0 60)) && (okSpan b.weak.lo b.weak.hi 0 60)) && (decide ((b.weak.lo : Int) ≤ b.full.lo))) && (decide ((b.weak.hi : Int) ≤ b.full.hi))) && (within b.mark 0 b.tank)) (v := .pointer (some ⟨b2, 21, none⟩)) rfl rfl 0 rfl (ison_t _) rfl rfl rfl (fun hg153 K154 hK154 => st_field (o' := 21) hs136 (Ev.t 11 rfl) rfl rfl runUnderlying27 rfl sizeOf3 rfl rfl hK154) fun _ _ hs137 => ?_; clear hs136
 refine sq_gv hs137 (gg := ((((((((((((((within b.bunker 1 99) && (within b.tank 1 99)) && (okSpan b.coal.lo b.coal.hi 0 b.bunker)) && (okSpan b.water.lo b.water.hi 0 b.tank)) && (within b.scoop 1 20)) && (within b.pail 1 20)) && (okSpan b.burn0.lo b.burn0.hi 0 3)) && (okSpan b.drink0.lo b.drink0.hi 0 3)) && (okSpan b.burn1.lo b.burn1.hi 0 3)) && (okSpan b.drink1.lo b.drink1.hi 0 3)) && (okSpan b.full.lo b.full.hi 0 60)) && (okSpan b.weak.lo b.weak.hi 0 60)) && (decide ((b.weak.lo : Int) ≤ b.full.lo))) && (decide ((b.weak.hi : Int) ≤ b.full.hi))) && (within b.mark 0 b.tank)) (v := .int .i64 b.lamp) rfl rfl 1 rfl (ison_t _) rfl rfl rfl (fun hg155 K156 hK156 => st_load1 (o := 0) (off := 21) (v := .int .i64 b.lamp) hs137 ((Ev.t 0 rfl).un hg155) rfl rfl isAgg3 (hs137.cells 1 rfl) rfl hK156) fun _ _ hs138 => ?_; clear hs137
 refine sq_gv hs138 (gg := ((((((((((((((within b.bunker 1 99) && (within b.tank 1 99)) && (okSpan b.coal.lo b.coal.hi 0 b.bunker)) && (okSpan b.water.lo b.water.hi 0 b.tank)) && (within b.scoop 1 20)) && (within b.pail 1 20)) && (okSpan b.burn0.lo b.burn0.hi 0 3)) && (okSpan b.drink0.lo b.drink0.hi 0 3)) && (okSpan b.burn1.lo b.burn1.hi 0 3)) && (okSpan b.drink1.lo b.drink1.hi 0 3)) && (okSpan b.full.lo b.full.hi 0 60)) && (okSpan b.weak.lo b.weak.hi 0 60)) && (decide ((b.weak.lo : Int) ≤ b.full.lo))) && (decide ((b.weak.hi : Int) ≤ b.full.hi))) && (within b.mark 0 b.tank)) (v := .bool (within b.lamp 0 60)) rfl rfl 2 rfl (ison_t _) rfl rfl rfl (fun hg157 K158 hK158 => st_callv (vs := [.int .i64 b.lamp, .int .i64 0, .int .i64 60]) hs138 (.func _) ⟨((Ev.t 0 rfl).un hg157), (.const _), (.const _), trivial⟩ rfl rfl call48 rfl (within_v b.lamp 0 60 _) hK158) fun _ _ hs139 => ?_; clear hs138
 refine sq rfl (st_and hs139 (gx := true) (gy := ((((((((((((((within b.bunker 1 99) && (within b.tank 1 99)) && (okSpan b.coal.lo b.coal.hi 0 b.bunker)) && (okSpan b.water.lo b.water.hi 0 b.tank)) && (within b.scoop 1 20)) && (within b.pail 1 20)) && (okSpan b.burn0.lo b.burn0.hi 0 3)) && (okSpan b.drink0.lo b.drink0.hi 0 3)) && (okSpan b.burn1.lo b.burn1.hi 0 3)) && (okSpan b.drink1.lo b.drink1.hi 0 3)) && (okSpan b.full.lo b.full.hi 0 60)) && (okSpan b.weak.lo b.weak.hi 0 60)) && (decide ((b.weak.lo : Int) ≤ b.full.lo))) && (decide ((b.weak.hi : Int) ≤ b.full.hi))) && (within b.mark 0 b.tank)) (Ev.t 3 rfl) rfl (Ev.t 0 rfl) (fun h => h) rfl rfl fun _ _ hs140 => ?_); clear hs139
 refine sq rfl (st_move hs140 (Ev.t 0 rfl) rfl rfl fun _ _ hs141 => ?_); clear hs140
 refine sq_gv hs141 (gg := (((((((((((((((within b.bunker 1 99) && (within b.tank 1 99)) && (okSpan b.coal.lo b.coal.hi 0 b.bunker)) && (okSpan b.water.lo b.water.hi 0 b.tank)) && (within b.scoop 1 20)) && (within b.pail 1 20)) && (okSpan b.burn0.lo b.burn0.hi 0 3)) && (okSpan b.drink0.lo b.drink0.hi 0 3)) && (okSpan b.burn1.lo b.burn1.hi 0 3)) && (okSpan b.drink1.lo b.drink1.hi 0 3)) && (okSpan b.full.lo b.full.hi 0 60)) && (okSpan b.weak.lo b.weak.hi 0 60)) && (decide ((b.weak.lo : Int) ≤ b.full.lo))) && (decide ((b.weak.hi : Int) ≤ b.full.hi))) && (within b.mark 0 b.tank)) && (within b.lamp 0 60)) (v := .pointer (some ⟨b2, 22, none⟩)) rfl rfl 0 rfl (ison_t _) rfl rfl rfl (fun hg159 K160 hK160 => st_field (o' := 22) hs141 (Ev.t 16 rfl) rfl rfl runUnderlying27 rfl sizeOf25 rfl rfl hK160) fun _ _ hs142 => ?_; clear hs141
 refine sq_gv hs142 (gg := (((((((((((((((within b.bunker 1 99) && (within b.tank 1 99)) && (okSpan b.coal.lo b.coal.hi 0 b.bunker)) && (okSpan b.water.lo b.water.hi 0 b.tank)) && (within b.scoop 1 20)) && (within b.pail 1 20)) && (okSpan b.burn0.lo b.burn0.hi 0 3)) && (okSpan b.drink0.lo b.drink0.hi 0 3)) && (okSpan b.burn1.lo b.burn1.hi 0 3)) && (okSpan b.drink1.lo b.drink1.hi 0 3)) && (okSpan b.full.lo b.full.hi 0 60)) && (okSpan b.weak.lo b.weak.hi 0 60)) && (decide ((b.weak.lo : Int) ≤ b.full.lo))) && (decide ((b.weak.hi : Int) ≤ b.full.hi))) && (within b.mark 0 b.tank)) && (within b.lamp 0 60)) (v := .slice A n cp) rfl rfl 1 rfl (ison_t _) rfl rfl rfl (fun hg161 K162 hK162 => st_load1 (o := 0) (off := 22) (v := .slice A n cp) hs142 ((Ev.t 0 rfl).un hg161) rfl rfl isAgg25 (hs142.cells 1 rfl) rfl hK162) fun _ _ hs143 => ?_; clear hs142
 refine sq_gv hs143 (gg := (((((((((((((((within b.bunker 1 99) && (within b.tank 1 99)) && (okSpan b.coal.lo b.coal.hi 0 b.bunker)) && (okSpan b.water.lo b.water.hi 0 b.tank)) && (within b.scoop 1 20)) && (within b.pail 1 20)) && (okSpan b.burn0.lo b.burn0.hi 0 3)) && (okSpan b.drink0.lo b.drink0.hi 0 3)) && (okSpan b.burn1.lo b.burn1.hi 0 3)) && (okSpan b.drink1.lo b.drink1.hi 0 3)) && (okSpan b.full.lo b.full.hi 0 60)) && (okSpan b.weak.lo b.weak.hi 0 60)) && (decide ((b.weak.lo : Int) ≤ b.full.lo))) && (decide ((b.weak.hi : Int) ≤ b.full.hi))) && (within b.mark 0 b.tank)) && (within b.lamp 0 60)) (v := .int .i64 (n : Int)) rfl rfl 2 rfl (ison_t _) rfl rfl rfl (fun hg163 K164 hK164 => st_len hs143 ((Ev.t 0 rfl).un hg163) rfl rfl runUnderlying25 hK164) fun _ _ hs144 => ?_; clear hs143
 refine sq_gv hs144 (gg := (((((((((((((((within b.bunker 1 99) && (within b.tank 1 99)) && (okSpan b.coal.lo b.coal.hi 0 b.bunker)) && (okSpan b.water.lo b.water.hi 0 b.tank)) && (within b.scoop 1 20)) && (within b.pail 1 20)) && (okSpan b.burn0.lo b.burn0.hi 0 3)) && (okSpan b.drink0.lo b.drink0.hi 0 3)) && (okSpan b.burn1.lo b.burn1.hi 0 3)) && (okSpan b.drink1.lo b.drink1.hi 0 3)) && (okSpan b.full.lo b.full.hi 0 60)) && (okSpan b.weak.lo b.weak.hi 0 60)) && (decide ((b.weak.lo : Int) ≤ b.full.lo))) && (decide ((b.weak.hi : Int) ≤ b.full.hi))) && (within b.mark 0 b.tank)) && (within b.lamp 0 60)) (v := .bool (within (n : Int) 1 5)) rfl rfl 3 rfl (ison_t _) rfl rfl rfl (fun hg165 K166 hK166 => st_callv (vs := [.int .i64 (n : Int), .int .i64 1, .int .i64 5]) hs144 (.func _) ⟨((Ev.t 0 rfl).un hg165), (.const _), (.const _), trivial⟩ rfl rfl call48 rfl (within_v (n : Int) 1 5 _) hK166) fun _ _ hs145 => ?_; clear hs144
 refine sq rfl (st_and hs145 (gx := true) (gy := (((((((((((((((within b.bunker 1 99) && (within b.tank 1 99)) && (okSpan b.coal.lo b.coal.hi 0 b.bunker)) && (okSpan b.water.lo b.water.hi 0 b.tank)) && (within b.scoop 1 20)) && (within b.pail 1 20)) && (okSpan b.burn0.lo b.burn0.hi 0 3)) && (okSpan b.drink0.lo b.drink0.hi 0 3)) && (okSpan b.burn1.lo b.burn1.hi 0 3)) && (okSpan b.drink1.lo b.drink1.hi 0 3)) && (okSpan b.full.lo b.full.hi 0 60)) && (okSpan b.weak.lo b.weak.hi 0 60)) && (decide ((b.weak.lo : Int) ≤ b.full.lo))) && (decide ((b.weak.hi : Int) ≤ b.full.hi))) && (within b.mark 0 b.tank)) && (within b.lamp 0 60)) (Ev.t 4 rfl) rfl (Ev.t 0 rfl) (fun h => h) rfl rfl fun _ _ hs146 => ?_); clear hs145
 have hs147 := hs146.keep [0, 1, 2, 3, 4, 5, 6, 7, 8, 9, 10, 11, 12, 13, 14, 15, 16, 17, 18, 20, 21] [_, _, _, _, _, _, _, _, _, _, _, _, _, _, _, _, _, _, _, _, _] rfl; clear hs146
 refine sq rfl (st_assign hs147 (Ev.t 0 rfl) rfl rfl fun _ _ hs148 => ?_); clear hs147
 refine hK142 _ _ ?_; clear hK142
 have hs149 := hs148.keep [0, 20, 21] [_, _, _] rfl; clear hs148
 refine cd_seq fun K167 hK167 => ?_
 have hs150 := Sx.keepE [0, 1, 2] [(3, .bool (b.ok0 (n : Int))), (2, _), (1, _)] ⟨⟨_, rfl, rfl⟩, ⟨_, rfl, rfl⟩, ⟨_, rfl, rfl⟩, trivial⟩ hs149; clear hs149
 refine cd_region fun K168 hK168 => ?_
 refine sq rfl (st_field (o' := 22) hs150 (Ev.t 2 rfl) rfl rfl runUnderlying27 rfl sizeOf25 rfl rfl fun _ _ hs151 => ?_); clear hs150
 refine sq rfl (st_load1 (o := 0) (off := 22) (v := .slice A n cp) hs151 (Ev.t 0 rfl) rfl rfl isAgg25 (hs151.cells 1 rfl) rfl fun _ _ hs152 => ?_); clear hs151
 refine sq rfl (st_len hs152 (Ev.t 0 rfl) rfl rfl runUnderlying25 fun _ _ hs153 => ?_); clear hs152
 refine sq rfl (st_move hs153 (.const _) rfl rfl fun _ _ hs154 => ?_); clear hs153
 refine hK168 _ _ ?_; clear hK168
 have hs155 := hs154.keep [0, 1, 2, 4, 5] [_, _, _, _, _] rfl; clear hs154
 refine cd_block ?_
 have hs156 : Sx 131 [] [(113, .int .i64 (0 : Int)), (112, .int .i64 (n : Int)), (111, .slice A n cp), (3, .bool (b.ok0 (n : Int) && (b.parts.take 0).all Part.ok)), (2, .int .i64 0)] [(b44, some (.cells ⟨[.int .i64 0, .int .i64 1]⟩ 3 (0, 0))), (b2, some (.cells ⟨(bookL b A n cp)⟩ 27 (0, 0)))] [] w _ _ := Sx.keepE [0, 1, 2, 3, 4] _ ⟨⟨_, rfl, rfl⟩, ⟨_, rfl, rfl⟩, ⟨_, rfl, rfl⟩, ⟨_, rfl, by simp⟩, ⟨_, rfl, rfl⟩, trivial⟩ hs155; clear hs155
 refine cd_loop (X := Nat) (fun i a_ w_ => (i ≤ n) ∧ Sx 131 [] [(113, .int .i64 (i : Int)), (112, .int .i64 (n : Int)), (111, .slice A n cp), (3, .bool (b.ok0 (n : Int) && (b.parts.take i).all Part.ok)), (2, .int .i64 0)] [(b44, some (.cells ⟨[.int .i64 0, .int .i64 1]⟩ 3 (0, 0))), (b2, some (.cells ⟨(bookL b A n cp)⟩ 27 (0, 0)))] [] w a_ w_) (fun i => n - i) (0) ⟨?_, hs156⟩ ?_
 · first | omega | simp
 intro i a_157 w_157 ⟨hi, hs157⟩; clear hs156
 refine cd_region fun K169 hK169 => ?_
 refine sq rfl (st_cmp (c := decide (((i : Int) : Int) < (n : Int))) hs157 (Ev.t 0 rfl) (Ev.t 1 rfl) rfl rfl rfl rfl fun _ _ hs158 => ?_); clear hs157
 refine hK169 _ _ ?_; clear hK169
 refine cd_seq fun K170 hK170 => ?_
 refine cd_cond hs158 (Ev.t 0 rfl) (fun hc171 => ?_) (fun hc171 => ?_)
 · simp only [decide_eq_true_eq] at hc171
   refine cd_skip ?_
   refine th_norm (hK170 _ _ ?_)
   refine cd_seq fun K172 hK172 => ?_
   refine cd_block ?_
   refine cd_region fun K173 hK173 => ?_
   obtain ⟨x174, hx174⟩ : ∃ x, b.parts[i]? = some x := ⟨_, List.getElem?_eq_getElem (by have := hP.len; omega)⟩
   obtain ⟨b175, o175, hA175, -, hc175⟩ := hP.el i x174 hx174
   refine sq rfl (st_indexM (o' := o175 + i * 4) hs158 (Ev.t 3 rfl) (Ev.t 1 rfl) rfl rfl hA175 runUnderlying25 sizeOf66 ⟨by omega, by have := hP.len; have := (List.getElem?_eq_some_iff.1 hx174).1; omega⟩ rfl fun _ _ hs159 => ?_); clear hs158
   refine sq rfl (st_loadA (o := o175 + i * 4) (off := 0) (vs := (partL x174)) hs159 (Ev.t 0 rfl) rfl rfl isAgg66 sizeOf66 (hs159.old hc175 (by simp)) rfl fun _ _ hs160 => ?_); clear hs159
   refine sq rfl (st_alloc hs160 rfl rfl zeroValue66 rfl fun b176 _ _ hs161 => ?_); clear hs160
   refine sq rfl (st_store (l' := (partL x174)) (vs := (partL x174)) (i := 0) hs161 (Ev.t 0 rfl) (Ev.t 1 rfl) sizeOf66 rfl rfl rfl rfl rfl rfl fun _ _ hs162 => ?_); clear hs161
   have hs163 := hs162.asB [_, _, _] rfl; clear hs162
   refine hK173 _ _ ?_; clear hK173
   have hs164 := hs163.keep [0, 4, 5, 6, 7, 8] [_, _, _, _, _, _] rfl; clear hs163
   refine cd_region1 ?_
   refine sq rfl (st_move hs164 (Ev.t 4 rfl) rfl rfl fun _ _ hs165 => ?_); clear hs164
   refine sq rfl (st_move hs165 (Ev.t 0 rfl) rfl rfl fun _ _ hs166 => ?_); clear hs165
   refine sq_gv hs166 (gg := b.ok0 (n : Int) && (b.parts.take i).all Part.ok) (v := .pointer (some ⟨b176, 0, none⟩)) rfl rfl 0 rfl (ison_t _) rfl rfl rfl (fun hg177 K178 hK178 => st_field (o' := 0) hs166 (Ev.t 2 rfl) rfl rfl runUnderlying66 rfl sizeOf23 rfl rfl hK178) fun _ _ hs167 => ?_; clear hs166
   refine sq_gv hs167 (gg := b.ok0 (n : Int) && (b.parts.take i).all Part.ok) (v := .agg ⟨[.int .i64 x174.mi.lo, .int .i64 x174.mi.hi]⟩) rfl rfl 1 rfl (ison_t _) rfl rfl rfl (fun hg179 K180 hK180 => st_loadA (o := 0) (off := 0) (vs := [.int .i64 x174.mi.lo, .int .i64 x174.mi.hi]) hs167 ((Ev.t 0 rfl).un hg179) rfl rfl isAgg23 sizeOf23 (hs167.cells 0 rfl) rfl hK180) fun _ _ hs168 => ?_; clear hs167
   refine sq_gv hs168 (gg := b.ok0 (n : Int) && (b.parts.take i).all Part.ok) (v := .bool (okSpan x174.mi.lo x174.mi.hi 1 60)) rfl rfl 2 rfl (ison_t _) rfl rfl rfl (fun hg181 K182 hK182 => st_callv (vs := [.agg ⟨[.int .i64 x174.mi.lo, .int .i64 x174.mi.hi]⟩, .int .i64 1, .int .i64 60]) hs168 (.func _) ⟨((Ev.t 0 rfl).un hg181), (.const _), (.const _), trivial⟩ rfl rfl call50 rfl (isSpan_v x174.mi.lo x174.mi.hi 1 60 _) hK182) fun _ _ hs169 => ?_; clear hs168
   refine sq rfl (st_and hs169 (gx := true) (gy := b.ok0 (n : Int) && (b.parts.take i).all Part.ok) (Ev.t 3 rfl) rfl (Ev.t 0 rfl) (fun h => h) rfl rfl fun _ _ hs170 => ?_); clear hs169
   refine sq rfl (st_move hs170 (Ev.t 0 rfl) rfl rfl fun _ _ hs171 => ?_); clear hs170
   refine sq_gv hs171 (gg := (b.ok0 (n : Int) && (b.parts.take i).all Part.ok) && (okSpan x174.mi.lo x174.mi.hi 1 60)) (v := .pointer (some ⟨b176, 3, none⟩)) rfl rfl 0 rfl (ison_t _) rfl rfl rfl (fun hg183 K184 hK184 => st_field (o' := 3) hs171 (Ev.t 7 rfl) rfl rfl runUnderlying66 rfl sizeOf3 rfl rfl hK184) fun _ _ hs172 => ?_; clear hs171
   refine sq_gv hs172 (gg := (b.ok0 (n : Int) && (b.parts.take i).all Part.ok) && (okSpan x174.mi.lo x174.mi.hi 1 60)) (v := .int .i64 x174.walks) rfl rfl 1 rfl (ison_t _) rfl rfl rfl (fun hg185 K186 hK186 => st_load1 (o := 0) (off := 3) (v := .int .i64 x174.walks) hs172 ((Ev.t 0 rfl).un hg185) rfl rfl isAgg3 (hs172.cells 0 rfl) rfl hK186) fun _ _ hs173 => ?_; clear hs172
   refine sq_gv hs173 (gg := (b.ok0 (n : Int) && (b.parts.take i).all Part.ok) && (okSpan x174.mi.lo x174.mi.hi 1 60)) (v := .bool (within x174.walks 0 5)) rfl rfl 2 rfl (ison_t _) rfl rfl rfl (fun hg187 K188 hK188 => st_callv (vs := [.int .i64 x174.walks, .int .i64 0, .int .i64 5]) hs173 (.func _) ⟨((Ev.t 0 rfl).un hg187), (.const _), (.const _), trivial⟩ rfl rfl call48 rfl (within_v x174.walks 0 5 _) hK188) fun _ _ hs174 => ?_; clear hs173
   refine sq rfl (st_and hs174 (gx := true) (gy := (b.ok0 (n : Int) && (b.parts.take i).all Part.ok) && (okSpan x174.mi.lo x174.mi.hi 1 60)) (Ev.t 3 rfl) rfl (Ev.t 0 rfl) (fun h => h) rfl rfl fun _ _ hs175 => ?_); clear hs174
   have hs176 := hs175.keep [0, 1, 2, 3, 4, 5, 6, 7, 8, 9, 10, 11, 12, 13, 14, 16] [_, _, _, _, _, _, _, _, _, _, _, _, _, _, _, _] rfl; clear hs175
   refine sq rfl (st_assign hs176 (Ev.t 0 rfl) rfl rfl fun _ _ hs177 => ?_); clear hs176
   refine wpListIn_nil ?_
   have hs178 := hs177.keep [0, 13, 14, 15, 16] [_, _, _, _, _] rfl; clear hs177
   refine in_norm ?_
   refine th_norm (hK172 _ _ ?_)
   refine cd_region1 ?_
   refine sq rfl (st_add (z := (i : Int) + 1) hs178 (Ev.t 1 rfl) (.const _) rfl rfl rfl (by omega) fun _ _ hs179 => ?_); clear hs178
   have hs180 := hs179.keep [0, 1, 3, 4, 5] [_, _, _, _, _] rfl; clear hs179
   refine sq rfl (st_move hs180 (Ev.t 0 rfl) rfl rfl fun _ _ hs181 => ?_); clear hs180
   refine wpListIn_nil ?_
   have hs182 := hs181.keep [0, 2, 3, 4, 5] [_, _, _, _, _] rfl; clear hs181
   refine ⟨i + 1, ⟨?_, ?_⟩, by omega⟩
   · first | omega | (simp; done) | (simp; omega)
   have hs183 : Sx 131 [] [(113, .int .i64 ((i : Int) + 1)), (3, .bool (((b.ok0 (n : Int) && (b.parts.take i).all Part.ok) && (okSpan x174.mi.lo x174.mi.hi 1 60)) && (within x174.walks 0 5))), (112, .int .i64 (n : Int)), (111, .slice A n cp), (2, .int .i64 0)] [(b44, some (.cells ⟨[.int .i64 0, .int .i64 1]⟩ 3 (0, 0))), (b2, some (.cells ⟨(bookL b A n cp)⟩ 27 (0, 0)))] [] w _ _ := Sx.blks hs182 ((List.Sublist.cons _ (List.Sublist.cons_cons _ (List.Sublist.cons_cons _ List.Sublist.slnil))))
   exact Sx.keepE [0, 2, 3, 1, 4] _ ⟨⟨_, rfl, rfl⟩, ⟨_, rfl, rfl⟩, ⟨_, rfl, rfl⟩, ⟨_, rfl, by rw [all_snoc hx174]; simp [Part.ok, Bool.and_assoc]⟩, ⟨_, rfl, rfl⟩, trivial⟩ hs183
 · have hall : (b.parts.take i).all Part.ok = b.parts.all Part.ok := by rw [List.take_of_length_le (by have := hP.len; simp at hc171; omega)]
   have hs159 := Sx.keepE [0, 1, 2, 3, 4, 5] [(114, _), (113, _), (112, _), (111, _), (3, .bool (b.ok0 (n : Int) && b.parts.all Part.ok)), (2, _)] ⟨⟨_, rfl, rfl⟩, ⟨_, rfl, rfl⟩, ⟨_, rfl, rfl⟩, ⟨_, rfl, rfl⟩, ⟨_, rfl, by rw [hall]⟩, ⟨_, rfl, rfl⟩, trivial⟩ hs158; clear hs158
   refine cd_exit ?_
   refine th_exit ?_
   refine th_exit ?_
   refine in_hit ?_
   refine th_norm (hK167 _ _ ?_)
   refine cd_seq fun K189 hK189 => ?_
   refine cd_region fun K190 hK190 => ?_
   refine sq rfl (st_move hs159 (Ev.t 4 rfl) rfl rfl fun _ _ hs160 => ?_); clear hs159
   refine sq rfl (st_not hs160 (Ev.t 0 rfl) rfl rfl fun _ _ hs161 => ?_); clear hs160
   refine hK190 _ _ ?_; clear hK190
   have hs162 := hs161.keep [0, 7] [_, _] rfl; clear hs161
   refine cd_cond hs162 (Ev.t 0 rfl) (fun hc191 => ?_) (fun hc191 => ?_)
   · refine cd_region fun K192 hK192 => ?_
     have hs163 := hs162.keep [0] [_] rfl; clear hs162
     refine sq rfl (st_assign hs163 (.const _) rfl rfl fun _ _ hs164 => ?_); clear hs163
     refine hK192 _ _ ?_; clear hK192
     have hs165 := hs164.keep [0] [_] rfl; clear hs164
     refine cd_retv (vs := [.int .i64 40]) hs165 (fun a_ w_ h => th_ret (hQ0 a_ w_ h)) rfl ⟨.tmp 0 rfl, trivial⟩ ?_
     clear hs165 hQ0 hN0 hK189
     have hl := hP.len
     subst hl
     unfold Book.ok
     generalize b.ok0 _ = x at *
     generalize b.parts.all Part.ok = y at *
     cases x <;> cases y <;> simp_all [pack]
   · refine cd_skip ?_
     refine th_norm (hK189 _ _ ?_)
     refine cd_region fun K193 hK193 => ?_
     have hs163 := hs162.keep [0] [_] rfl; clear hs162
     refine sq rfl (st_assign hs163 (.const _) rfl rfl fun _ _ hs164 => ?_); clear hs163
     refine hK193 _ _ ?_; clear hK193
     have hs165 := hs164.keep [0] [_] rfl; clear hs164
     refine cd_retv (vs := [.int .i64 0]) hs165 hQ0 rfl ⟨.tmp 0 rfl, trivial⟩ ?_
     clear hs165 hQ0 hN0
     have hl := hP.len
     subst hl
     unfold Book.ok
     generalize b.ok0 _ = x at *
     generalize b.parts.all Part.ok = y at *
     cases x <;> cases y <;> simp_all [pack]
end Go.Proofs.YtdbcedmofoakmaaDoor
