/- The till's functions that only reckon: each hands back what its Lean text says. -/
import Derived.Test.YtcnndpedeofbmaaDoorTa
import Derived.Test.YtcnndpedeofbmaaDoorSy
import Derived.Test.YtcnndpedeofbmaaDoorSo
import Derived.Test.YtcnndpedeofbmaaDoorSf
set_option maxRecDepth 100000
namespace Go.Proofs.YtcnndpedeofbmaaDoor
open Go Go.Sx Go.Till Go.Proofs.Tryd
/-- The cells of a box in the calculation. -/
def boxL (b : Bx) (A : Option Addr) (n c : Nat) (A2 : Option Addr) (n2 c2 : Nat) (A3 : Option Addr) (n3 c3 m : Nat) : List Value :=
  [.slice A n c, .slice A2 n2 c2, .int .i64 b.count, .int .i64 b.err, .int .i64 b.duty, .int .i64 b.share, .int .i64 b.guar, .slice A3 n3 c3, .map (some m)]

theorem inside_v (n lo hi : Int) (w : World) :
    CallsV Tryd.prog 57 [.int .i64 n, .int .i64 lo, .int .i64 hi] w (.bool (within n lo hi)) := by
 refine enter (N := 15) (M := []) w func57 rfl rfl rfl (fun Q0 a_0 hQ0 hN0 hs0 => ?_)
 refine cd_region fun K1 hK1 => ?_
 refine sq rfl (st_assign hs0 (.const _) rfl rfl fun _ _ hs1 => ?_); clear hs0
 refine hK1 _ _ ?_; clear hK1
 refine cd_region fun K2 hK2 => ?_
 refine sq rfl (st_move hs1 (Ev.t 2 rfl) rfl rfl fun _ _ hs2 => ?_); clear hs1
 refine sq rfl (st_move hs2 (Ev.t 2 rfl) rfl rfl fun _ _ hs3 => ?_); clear hs2
 refine sq rfl (st_cmp (c := decide ((lo : Int) ≤ n)) hs3 (Ev.t 1 rfl) (Ev.t 0 rfl) rfl rfl rfl rfl fun _ _ hs4 => ?_); clear hs3
 refine sq rfl (st_move hs4 (Ev.t 0 rfl) rfl rfl fun _ _ hs5 => ?_); clear hs4
 refine sq_gv hs5 (gg := decide ((lo : Int) ≤ n)) (v := .int .i64 n) rfl rfl 0 rfl (ison_t _) rfl rfl rfl (fun hg3 K4 hK4 => st_move hs5 (Ev.t 5 rfl) rfl rfl hK4) fun _ _ hs6 => ?_; clear hs5
 refine sq_gv hs6 (gg := decide ((lo : Int) ≤ n)) (v := .int .i64 hi) rfl rfl 1 rfl (ison_t _) rfl rfl rfl (fun hg5 K6 hK6 => st_move hs6 (Ev.t 8 rfl) rfl rfl hK6) fun _ _ hs7 => ?_; clear hs6
 refine sq_gv hs7 (gg := decide ((lo : Int) ≤ n)) (v := .bool (decide ((n : Int) ≤ hi))) rfl rfl 2 rfl (ison_t _) rfl rfl rfl (fun hg7 K8 hK8 => st_cmp (c := decide ((n : Int) ≤ hi)) hs7 ((Ev.t 1 rfl).un hg7) ((Ev.t 0 rfl).un hg7) rfl rfl rfl rfl hK8) fun _ _ hs8 => ?_; clear hs7
 refine sq rfl (st_and hs8 (gx := true) (gy := decide ((lo : Int) ≤ n)) (Ev.t 3 rfl) rfl (Ev.t 0 rfl) (fun h => h) rfl rfl fun _ _ hs9 => ?_); clear hs8
 have hs10 := hs9.keep [0, 1, 2, 3, 4, 5, 6, 7, 9, 10, 11] [_, _, _, _, _, _, _, _, _, _, _] rfl; clear hs9
 refine sq rfl (st_assign hs10 (Ev.t 0 rfl) rfl rfl fun _ _ hs11 => ?_); clear hs10
 refine hK2 _ _ ?_; clear hK2
 have hs12 := hs11.keep [0] [_] rfl; clear hs11
 refine cd_retv (vs := [.bool ((decide ((lo : Int) ≤ n)) && (decide ((n : Int) ≤ hi)))]) hs12 hQ0 rfl ⟨.tmp 0 rfl, trivial⟩ ?_
 clear hs12 hQ0 hN0
 rfl

theorem amid_v (n lo hi : Int) (w : World) :
    CallsV Tryd.prog 16 [.int .i64 n, .int .i64 lo, .int .i64 hi] w (.bool (within n lo hi)) := by
 refine enter (N := 15) (M := []) w func16 rfl rfl rfl (fun Q0 a_0 hQ0 hN0 hs0 => ?_)
 refine cd_region fun K1 hK1 => ?_
 refine sq rfl (st_assign hs0 (.const _) rfl rfl fun _ _ hs1 => ?_); clear hs0
 refine hK1 _ _ ?_; clear hK1
 refine cd_region fun K2 hK2 => ?_
 refine sq rfl (st_move hs1 (Ev.t 1 rfl) rfl rfl fun _ _ hs2 => ?_); clear hs1
 refine sq rfl (st_move hs2 (Ev.t 3 rfl) rfl rfl fun _ _ hs3 => ?_); clear hs2
 refine sq rfl (st_cmp (c := decide ((n : Int) ≥ lo)) hs3 (Ev.t 1 rfl) (Ev.t 0 rfl) rfl rfl rfl rfl fun _ _ hs4 => ?_); clear hs3
 refine sq rfl (st_move hs4 (Ev.t 0 rfl) rfl rfl fun _ _ hs5 => ?_); clear hs4
 refine sq_gv hs5 (gg := decide ((n : Int) ≥ lo)) (v := .int .i64 n) rfl rfl 0 rfl (ison_t _) rfl rfl rfl (fun hg3 K4 hK4 => st_move hs5 (Ev.t 5 rfl) rfl rfl hK4) fun _ _ hs6 => ?_; clear hs5
 refine sq_gv hs6 (gg := decide ((n : Int) ≥ lo)) (v := .int .i64 hi) rfl rfl 1 rfl (ison_t _) rfl rfl rfl (fun hg5 K6 hK6 => st_move hs6 (Ev.t 8 rfl) rfl rfl hK6) fun _ _ hs7 => ?_; clear hs6
 refine sq_gv hs7 (gg := decide ((n : Int) ≥ lo)) (v := .bool (decide ((n : Int) ≤ hi))) rfl rfl 2 rfl (ison_t _) rfl rfl rfl (fun hg7 K8 hK8 => st_cmp (c := decide ((n : Int) ≤ hi)) hs7 ((Ev.t 1 rfl).un hg7) ((Ev.t 0 rfl).un hg7) rfl rfl rfl rfl hK8) fun _ _ hs8 => ?_; clear hs7
 refine sq rfl (st_and hs8 (gx := true) (gy := decide ((n : Int) ≥ lo)) (Ev.t 3 rfl) rfl (Ev.t 0 rfl) (fun h => h) rfl rfl fun _ _ hs9 => ?_); clear hs8
 have hs10 := hs9.keep [0, 1, 2, 3, 4, 5, 6, 7, 9, 10, 11] [_, _, _, _, _, _, _, _, _, _, _] rfl; clear hs9
 refine sq rfl (st_assign hs10 (Ev.t 0 rfl) rfl rfl fun _ _ hs11 => ?_); clear hs10
 refine hK2 _ _ ?_; clear hK2
 have hs12 := hs11.keep [0] [_] rfl; clear hs11
 refine cd_retv (vs := [.bool ((decide ((n : Int) ≥ lo)) && (decide ((n : Int) ≤ hi)))]) hs12 hQ0 rfl ⟨.tmp 0 rfl, trivial⟩ ?_
 clear hs12 hQ0 hN0
 rfl

theorem spanned_v (a z lo hi : Int) (w : World) :
    0 ≤ lo ∧ hi ≤ 1000000 → CallsV Tryd.prog 58 [.agg ⟨[.int .i64 a, .int .i64 z]⟩, .int .i64 lo, .int .i64 hi] w (.bool (spanned a z lo hi)) := by
 intro hb
 refine enter (N := 32) (M := []) w func58 rfl rfl rfl (fun Q0 a_0 hQ0 hN0 hs0 => ?_)
 refine cd_region fun K1 hK1 => ?_
 refine sq rfl (st_box hs0 (Ev.t 0 rfl) rfl rfl rfl fun b2 _ _ hs1 => ?_); clear hs0
 refine sq rfl (st_assign hs1 (.const _) rfl rfl fun _ _ hs2 => ?_); clear hs1
 refine hK1 _ _ ?_; clear hK1
 have hs3 := hs2.keep [0, 1, 3, 4] [_, _, _, _] rfl; clear hs2
 refine cd_region fun K3 hK3 => ?_
 refine sq rfl (st_move hs3 (Ev.t 2 rfl) rfl rfl fun _ _ hs4 => ?_); clear hs3
 refine sq rfl (st_field (o' := 0) hs4 (Ev.t 2 rfl) rfl rfl runUnderlying35 rfl sizeOf3 rfl rfl fun _ _ hs5 => ?_); clear hs4
 refine sq rfl (st_load1 (o := 0) (off := 0) (v := .int .i64 a) hs5 (Ev.t 0 rfl) rfl rfl isAgg3 (hs5.cells 0 rfl) rfl fun _ _ hs6 => ?_); clear hs5
 refine sq rfl (st_cmp (c := decide ((lo : Int) ≤ a)) hs6 (Ev.t 2 rfl) (Ev.t 0 rfl) rfl rfl rfl rfl fun _ _ hs7 => ?_); clear hs6
 refine sq rfl (st_move hs7 (Ev.t 0 rfl) rfl rfl fun _ _ hs8 => ?_); clear hs7
 refine sq_gv hs8 (gg := decide ((lo : Int) ≤ a)) (v := .pointer (some ⟨b2, 0, none⟩)) rfl rfl 0 rfl (ison_t _) rfl rfl rfl (fun hg4 K5 hK5 => st_field (o' := 0) hs8 (Ev.t 6 rfl) rfl rfl runUnderlying35 rfl sizeOf3 rfl rfl hK5) fun _ _ hs9 => ?_; clear hs8
 refine sq_gv hs9 (gg := decide ((lo : Int) ≤ a)) (v := .int .i64 a) rfl rfl 1 rfl (ison_t _) rfl rfl rfl (fun hg6 K7 hK7 => st_load1 (o := 0) (off := 0) (v := .int .i64 a) hs9 ((Ev.t 0 rfl).un hg6) rfl rfl isAgg3 (hs9.cells 0 rfl) rfl hK7) fun _ _ hs10 => ?_; clear hs9
 refine sq_gv hs10 (gg := decide ((lo : Int) ≤ a)) (v := .pointer (some ⟨b2, 1, none⟩)) rfl rfl 2 rfl (ison_t _) rfl rfl rfl (fun hg8 K9 hK9 => st_field (o' := 1) hs10 (Ev.t 8 rfl) rfl rfl runUnderlying35 rfl sizeOf3 rfl rfl hK9) fun _ _ hs11 => ?_; clear hs10
 refine sq_gv hs11 (gg := decide ((lo : Int) ≤ a)) (v := .int .i64 z) rfl rfl 3 rfl (ison_t _) rfl rfl rfl (fun hg10 K11 hK11 => st_load1 (o := 0) (off := 1) (v := .int .i64 z) hs11 ((Ev.t 0 rfl).un hg10) rfl rfl isAgg3 (hs11.cells 0 rfl) rfl hK11) fun _ _ hs12 => ?_; clear hs11
 refine sq_gv hs12 (gg := decide ((lo : Int) ≤ a)) (v := .bool (decide ((a : Int) ≤ z))) rfl rfl 4 rfl (ison_t _) rfl rfl rfl (fun hg12 K13 hK13 => st_cmp (c := decide ((a : Int) ≤ z)) hs12 ((Ev.t 2 rfl).un hg12) ((Ev.t 0 rfl).un hg12) rfl rfl rfl rfl hK13) fun _ _ hs13 => ?_; clear hs12
 refine sq rfl (st_and hs13 (gx := true) (gy := decide ((lo : Int) ≤ a)) (Ev.t 5 rfl) rfl (Ev.t 0 rfl) (fun h => h) rfl rfl fun _ _ hs14 => ?_); clear hs13
 refine sq rfl (st_move hs14 (Ev.t 0 rfl) rfl rfl fun _ _ hs15 => ?_); clear hs14
 refine sq_gv hs15 (gg := (decide ((lo : Int) ≤ a)) && (decide ((a : Int) ≤ z))) (v := .pointer (some ⟨b2, 1, none⟩)) rfl rfl 0 rfl (ison_t _) rfl rfl rfl (fun hg14 K15 hK15 => st_field (o' := 1) hs15 (Ev.t 13 rfl) rfl rfl runUnderlying35 rfl sizeOf3 rfl rfl hK15) fun _ _ hs16 => ?_; clear hs15
 refine sq_gv hs16 (gg := (decide ((lo : Int) ≤ a)) && (decide ((a : Int) ≤ z))) (v := .int .i64 z) rfl rfl 1 rfl (ison_t _) rfl rfl rfl (fun hg16 K17 hK17 => st_load1 (o := 0) (off := 1) (v := .int .i64 z) hs16 ((Ev.t 0 rfl).un hg16) rfl rfl isAgg3 (hs16.cells 0 rfl) rfl hK17) fun _ _ hs17 => ?_; clear hs16
 refine sq_gv hs17 (gg := (decide ((lo : Int) ≤ a)) && (decide ((a : Int) ≤ z))) (v := .int .i64 hi) rfl rfl 2 rfl (ison_t _) rfl rfl rfl (fun hg18 K19 hK19 => st_move hs17 (Ev.t 17 rfl) rfl rfl hK19) fun _ _ hs18 => ?_; clear hs17
 refine sq_gv hs18 (gg := (decide ((lo : Int) ≤ a)) && (decide ((a : Int) ≤ z))) (v := .bool (decide ((z : Int) ≤ hi))) rfl rfl 3 rfl (ison_t _) rfl rfl rfl (fun hg20 K21 hK21 => st_cmp (c := decide ((z : Int) ≤ hi)) hs18 ((Ev.t 1 rfl).un hg20) ((Ev.t 0 rfl).un hg20) rfl rfl rfl rfl hK21) fun _ _ hs19 => ?_; clear hs18
 refine sq rfl (st_and hs19 (gx := true) (gy := (decide ((lo : Int) ≤ a)) && (decide ((a : Int) ≤ z))) (Ev.t 4 rfl) rfl (Ev.t 0 rfl) (fun h => h) rfl rfl fun _ _ hs20 => ?_); clear hs19
 refine sq rfl (st_move hs20 (Ev.t 0 rfl) rfl rfl fun _ _ hs21 => ?_); clear hs20
 refine sq_gv hs21 (gg := ((decide ((lo : Int) ≤ a)) && (decide ((a : Int) ≤ z))) && (decide ((z : Int) ≤ hi))) (v := .pointer (some ⟨b2, 1, none⟩)) rfl rfl 0 rfl (ison_t _) rfl rfl rfl (fun hg22 K23 hK23 => st_field (o' := 1) hs21 (Ev.t 19 rfl) rfl rfl runUnderlying35 rfl sizeOf3 rfl rfl hK23) fun _ _ hs22 => ?_; clear hs21
 refine sq_gv hs22 (gg := ((decide ((lo : Int) ≤ a)) && (decide ((a : Int) ≤ z))) && (decide ((z : Int) ≤ hi))) (v := .int .i64 z) rfl rfl 1 rfl (ison_t _) rfl rfl rfl (fun hg24 K25 hK25 => st_load1 (o := 0) (off := 1) (v := .int .i64 z) hs22 ((Ev.t 0 rfl).un hg24) rfl rfl isAgg3 (hs22.cells 0 rfl) rfl hK25) fun _ _ hs23 => ?_; clear hs22
 refine sq_gv hs23 (gg := ((decide ((lo : Int) ≤ a)) && (decide ((a : Int) ≤ z))) && (decide ((z : Int) ≤ hi))) (v := .pointer (some ⟨b2, 0, none⟩)) rfl rfl 2 rfl (ison_t _) rfl rfl rfl (fun hg26 K27 hK27 => st_field (o' := 0) hs23 (Ev.t 21 rfl) rfl rfl runUnderlying35 rfl sizeOf3 rfl rfl hK27) fun _ _ hs24 => ?_; clear hs23
 refine sq_gv hs24 (gg := ((decide ((lo : Int) ≤ a)) && (decide ((a : Int) ≤ z))) && (decide ((z : Int) ≤ hi))) (v := .int .i64 a) rfl rfl 3 rfl (ison_t _) rfl rfl rfl (fun hg28 K29 hK29 => st_load1 (o := 0) (off := 0) (v := .int .i64 a) hs24 ((Ev.t 0 rfl).un hg28) rfl rfl isAgg3 (hs24.cells 0 rfl) rfl hK29) fun _ _ hs25 => ?_; clear hs24
 refine sq_gv hs25 (gg := ((decide ((lo : Int) ≤ a)) && (decide ((a : Int) ≤ z))) && (decide ((z : Int) ≤ hi))) (v := .int .i64 (z - a)) rfl rfl 4 rfl (ison_t _) rfl rfl rfl (fun hg30 K31 hK31 => st_sub (z := z - a) hs25 ((Ev.t 2 rfl).un hg30) ((Ev.t 0 rfl).un hg30) rfl rfl rfl (by have h := ‹((decide (lo ≤ a) && decide (a ≤ z)) && decide (z ≤ hi)) = true›; simp only [Bool.and_eq_true, decide_eq_true_eq] at h; omega) hK31) fun _ _ hs26 => ?_; clear hs25
 refine sq_gv hs26 (gg := ((decide ((lo : Int) ≤ a)) && (decide ((a : Int) ≤ z))) && (decide ((z : Int) ≤ hi))) (v := .bool (decide ((z - a : Int) ≤ 15))) rfl rfl 5 rfl (ison_t _) rfl rfl rfl (fun hg32 K33 hK33 => st_cmp (c := decide ((z - a : Int) ≤ 15)) hs26 ((Ev.t 0 rfl).un hg32) (.const _) rfl rfl rfl rfl hK33) fun _ _ hs27 => ?_; clear hs26
 refine sq rfl (st_and hs27 (gx := true) (gy := ((decide ((lo : Int) ≤ a)) && (decide ((a : Int) ≤ z))) && (decide ((z : Int) ≤ hi))) (Ev.t 6 rfl) rfl (Ev.t 0 rfl) (fun h => h) rfl rfl fun _ _ hs28 => ?_); clear hs27
 have hs29 := hs28.keep [0, 1, 2, 3, 4, 5, 6, 7, 8, 9, 10, 11, 12, 13, 14, 15, 16, 17, 18, 19, 20, 21, 22, 23, 24, 26, 27, 28] [_, _, _, _, _, _, _, _, _, _, _, _, _, _, _, _, _, _, _, _, _, _, _, _, _, _, _, _] rfl; clear hs28
 refine sq rfl (st_assign hs29 (Ev.t 0 rfl) rfl rfl fun _ _ hs30 => ?_); clear hs29
 refine hK3 _ _ ?_; clear hK3
 have hs31 := hs30.keep [0] [_] rfl; clear hs30
 refine cd_retv (vs := [.bool ((((decide ((lo : Int) ≤ a)) && (decide ((a : Int) ≤ z))) && (decide ((z : Int) ≤ hi))) && (decide ((z - a : Int) ≤ 15)))]) hs31 hQ0 rfl ⟨.tmp 0 rfl, trivial⟩ ?_
 clear hs31 hQ0 hN0
 rfl

theorem legal_v (a z lo hi : Int) (w : World) :
    CallsV Tryd.prog 19 [.agg ⟨[.int .i64 a, .int .i64 z]⟩, .int .i64 lo, .int .i64 hi] w (.bool (legal a z lo hi)) := by
 refine enter (N := 24) (M := []) w func19 rfl rfl rfl (fun Q0 a_0 hQ0 hN0 hs0 => ?_)
 refine cd_region fun K1 hK1 => ?_
 refine sq rfl (st_box hs0 (Ev.t 0 rfl) rfl rfl rfl fun b2 _ _ hs1 => ?_); clear hs0
 refine sq rfl (st_assign hs1 (.const _) rfl rfl fun _ _ hs2 => ?_); clear hs1
 refine hK1 _ _ ?_; clear hK1
 have hs3 := hs2.keep [0, 1, 3, 4] [_, _, _, _] rfl; clear hs2
 refine cd_region fun K3 hK3 => ?_
 refine sq rfl (st_move hs3 (Ev.t 2 rfl) rfl rfl fun _ _ hs4 => ?_); clear hs3
 refine sq rfl (st_field (o' := 0) hs4 (Ev.t 2 rfl) rfl rfl runUnderlying35 rfl sizeOf3 rfl rfl fun _ _ hs5 => ?_); clear hs4
 refine sq rfl (st_load1 (o := 0) (off := 0) (v := .int .i64 a) hs5 (Ev.t 0 rfl) rfl rfl isAgg3 (hs5.cells 0 rfl) rfl fun _ _ hs6 => ?_); clear hs5
 refine sq rfl (st_cmp (c := decide ((lo : Int) ≤ a)) hs6 (Ev.t 2 rfl) (Ev.t 0 rfl) rfl rfl rfl rfl fun _ _ hs7 => ?_); clear hs6
 refine sq rfl (st_move hs7 (Ev.t 0 rfl) rfl rfl fun _ _ hs8 => ?_); clear hs7
 refine sq_gv hs8 (gg := decide ((lo : Int) ≤ a)) (v := .pointer (some ⟨b2, 0, none⟩)) rfl rfl 0 rfl (ison_t _) rfl rfl rfl (fun hg4 K5 hK5 => st_field (o' := 0) hs8 (Ev.t 6 rfl) rfl rfl runUnderlying35 rfl sizeOf3 rfl rfl hK5) fun _ _ hs9 => ?_; clear hs8
 refine sq_gv hs9 (gg := decide ((lo : Int) ≤ a)) (v := .int .i64 a) rfl rfl 1 rfl (ison_t _) rfl rfl rfl (fun hg6 K7 hK7 => st_load1 (o := 0) (off := 0) (v := .int .i64 a) hs9 ((Ev.t 0 rfl).un hg6) rfl rfl isAgg3 (hs9.cells 0 rfl) rfl hK7) fun _ _ hs10 => ?_; clear hs9
 refine sq_gv hs10 (gg := decide ((lo : Int) ≤ a)) (v := .pointer (some ⟨b2, 1, none⟩)) rfl rfl 2 rfl (ison_t _) rfl rfl rfl (fun hg8 K9 hK9 => st_field (o' := 1) hs10 (Ev.t 8 rfl) rfl rfl runUnderlying35 rfl sizeOf3 rfl rfl hK9) fun _ _ hs11 => ?_; clear hs10
 refine sq_gv hs11 (gg := decide ((lo : Int) ≤ a)) (v := .int .i64 z) rfl rfl 3 rfl (ison_t _) rfl rfl rfl (fun hg10 K11 hK11 => st_load1 (o := 0) (off := 1) (v := .int .i64 z) hs11 ((Ev.t 0 rfl).un hg10) rfl rfl isAgg3 (hs11.cells 0 rfl) rfl hK11) fun _ _ hs12 => ?_; clear hs11
 refine sq_gv hs12 (gg := decide ((lo : Int) ≤ a)) (v := .bool (decide ((a : Int) ≤ z))) rfl rfl 4 rfl (ison_t _) rfl rfl rfl (fun hg12 K13 hK13 => st_cmp (c := decide ((a : Int) ≤ z)) hs12 ((Ev.t 2 rfl).un hg12) ((Ev.t 0 rfl).un hg12) rfl rfl rfl rfl hK13) fun _ _ hs13 => ?_; clear hs12
 refine sq rfl (st_and hs13 (gx := true) (gy := decide ((lo : Int) ≤ a)) (Ev.t 5 rfl) rfl (Ev.t 0 rfl) (fun h => h) rfl rfl fun _ _ hs14 => ?_); clear hs13
 refine sq rfl (st_move hs14 (Ev.t 0 rfl) rfl rfl fun _ _ hs15 => ?_); clear hs14
 refine sq_gv hs15 (gg := (decide ((lo : Int) ≤ a)) && (decide ((a : Int) ≤ z))) (v := .pointer (some ⟨b2, 1, none⟩)) rfl rfl 0 rfl (ison_t _) rfl rfl rfl (fun hg14 K15 hK15 => st_field (o' := 1) hs15 (Ev.t 13 rfl) rfl rfl runUnderlying35 rfl sizeOf3 rfl rfl hK15) fun _ _ hs16 => ?_; clear hs15
 refine sq_gv hs16 (gg := (decide ((lo : Int) ≤ a)) && (decide ((a : Int) ≤ z))) (v := .int .i64 z) rfl rfl 1 rfl (ison_t _) rfl rfl rfl (fun hg16 K17 hK17 => st_load1 (o := 0) (off := 1) (v := .int .i64 z) hs16 ((Ev.t 0 rfl).un hg16) rfl rfl isAgg3 (hs16.cells 0 rfl) rfl hK17) fun _ _ hs17 => ?_; clear hs16
 refine sq_gv hs17 (gg := (decide ((lo : Int) ≤ a)) && (decide ((a : Int) ≤ z))) (v := .int .i64 hi) rfl rfl 2 rfl (ison_t _) rfl rfl rfl (fun hg18 K19 hK19 => st_move hs17 (Ev.t 17 rfl) rfl rfl hK19) fun _ _ hs18 => ?_; clear hs17
 refine sq_gv hs18 (gg := (decide ((lo : Int) ≤ a)) && (decide ((a : Int) ≤ z))) (v := .bool (decide ((z : Int) ≤ hi))) rfl rfl 3 rfl (ison_t _) rfl rfl rfl (fun hg20 K21 hK21 => st_cmp (c := decide ((z : Int) ≤ hi)) hs18 ((Ev.t 1 rfl).un hg20) ((Ev.t 0 rfl).un hg20) rfl rfl rfl rfl hK21) fun _ _ hs19 => ?_; clear hs18
 refine sq rfl (st_and hs19 (gx := true) (gy := (decide ((lo : Int) ≤ a)) && (decide ((a : Int) ≤ z))) (Ev.t 4 rfl) rfl (Ev.t 0 rfl) (fun h => h) rfl rfl fun _ _ hs20 => ?_); clear hs19
 have hs21 := hs20.keep [0, 1, 2, 3, 4, 5, 6, 7, 8, 9, 10, 11, 12, 13, 14, 15, 16, 18, 19, 20] [_, _, _, _, _, _, _, _, _, _, _, _, _, _, _, _, _, _, _, _] rfl; clear hs20
 refine sq rfl (st_assign hs21 (Ev.t 0 rfl) rfl rfl fun _ _ hs22 => ?_); clear hs21
 refine hK3 _ _ ?_; clear hK3
 have hs23 := hs22.keep [0] [_] rfl; clear hs22
 refine cd_retv (vs := [.bool (((decide ((lo : Int) ≤ a)) && (decide ((a : Int) ≤ z))) && (decide ((z : Int) ≤ hi)))]) hs23 hQ0 rfl ⟨.tmp 0 rfl, trivial⟩ ?_
 clear hs23 hQ0 hN0
 rfl

theorem short_v (a z lo hi : Int) (w : World) :
    0 ≤ lo ∧ hi ≤ 1000000 → CallsV Tryd.prog 62 [.agg ⟨[.int .i64 a, .int .i64 z]⟩, .int .i64 lo, .int .i64 hi] w (.bool (spanned a z lo hi)) := by
 intro hb
 refine enter (N := 19) (M := []) w func62 rfl rfl rfl (fun Q0 a_0 hQ0 hN0 hs0 => ?_)
 refine cd_region fun K1 hK1 => ?_
 refine sq rfl (st_box hs0 (Ev.t 0 rfl) rfl rfl rfl fun b2 _ _ hs1 => ?_); clear hs0
 refine sq rfl (st_assign hs1 (.const _) rfl rfl fun _ _ hs2 => ?_); clear hs1
 refine hK1 _ _ ?_; clear hK1
 have hs3 := hs2.keep [0, 1, 3, 4] [_, _, _, _] rfl; clear hs2
 refine cd_region fun K3 hK3 => ?_
 refine sq rfl (st_loadA (o := 0) (off := 0) (vs := [.int .i64 a, .int .i64 z]) hs3 (Ev.t 1 rfl) rfl rfl isAgg35 sizeOf35 (hs3.cells 0 rfl) rfl fun _ _ hs4 => ?_); clear hs3
 refine sq rfl (st_move hs4 (Ev.t 3 rfl) rfl rfl fun _ _ hs5 => ?_); clear hs4
 refine sq rfl (st_move hs5 (Ev.t 5 rfl) rfl rfl fun _ _ hs6 => ?_); clear hs5
 refine sq rfl (st_callv (vs := [.agg ⟨[.int .i64 a, .int .i64 z]⟩, .int .i64 lo, .int .i64 hi]) hs6 (.func _) ⟨(Ev.t 2 rfl), (Ev.t 1 rfl), (Ev.t 0 rfl), trivial⟩ rfl rfl call19 rfl (legal_v a z lo hi _) fun _ _ hs7 => ?_); clear hs6
 refine sq rfl (st_move hs7 (Ev.t 0 rfl) rfl rfl fun _ _ hs8 => ?_); clear hs7
 refine sq_gv hs8 (gg := legal a z lo hi) (v := .pointer (some ⟨b2, 1, none⟩)) rfl rfl 0 rfl (ison_t _) rfl rfl rfl (fun hg4 K5 hK5 => st_field (o' := 1) hs8 (Ev.t 6 rfl) rfl rfl runUnderlying35 rfl sizeOf3 rfl rfl hK5) fun _ _ hs9 => ?_; clear hs8
 refine sq_gv hs9 (gg := legal a z lo hi) (v := .int .i64 z) rfl rfl 1 rfl (ison_t _) rfl rfl rfl (fun hg6 K7 hK7 => st_load1 (o := 0) (off := 1) (v := .int .i64 z) hs9 ((Ev.t 0 rfl).un hg6) rfl rfl isAgg3 (hs9.cells 0 rfl) rfl hK7) fun _ _ hs10 => ?_; clear hs9
 refine sq_gv hs10 (gg := legal a z lo hi) (v := .pointer (some ⟨b2, 0, none⟩)) rfl rfl 2 rfl (ison_t _) rfl rfl rfl (fun hg8 K9 hK9 => st_field (o' := 0) hs10 (Ev.t 8 rfl) rfl rfl runUnderlying35 rfl sizeOf3 rfl rfl hK9) fun _ _ hs11 => ?_; clear hs10
 refine sq_gv hs11 (gg := legal a z lo hi) (v := .int .i64 a) rfl rfl 3 rfl (ison_t _) rfl rfl rfl (fun hg10 K11 hK11 => st_load1 (o := 0) (off := 0) (v := .int .i64 a) hs11 ((Ev.t 0 rfl).un hg10) rfl rfl isAgg3 (hs11.cells 0 rfl) rfl hK11) fun _ _ hs12 => ?_; clear hs11
 refine sq_gv hs12 (gg := legal a z lo hi) (v := .int .i64 (z - a)) rfl rfl 4 rfl (ison_t _) rfl rfl rfl (fun hg12 K13 hK13 => st_sub (z := z - a) hs12 ((Ev.t 2 rfl).un hg12) ((Ev.t 0 rfl).un hg12) rfl rfl rfl (by have h := legal_iff.1 ‹legal a z lo hi = true›; omega) hK13) fun _ _ hs13 => ?_; clear hs12
 refine sq_gv hs13 (gg := legal a z lo hi) (v := .bool (decide ((z - a : Int) ≤ 15))) rfl rfl 5 rfl (ison_t _) rfl rfl rfl (fun hg14 K15 hK15 => st_cmp (c := decide ((z - a : Int) ≤ 15)) hs13 ((Ev.t 0 rfl).un hg14) (.const _) rfl rfl rfl rfl hK15) fun _ _ hs14 => ?_; clear hs13
 refine sq rfl (st_and hs14 (gx := true) (gy := legal a z lo hi) (Ev.t 6 rfl) rfl (Ev.t 0 rfl) (fun h => h) rfl rfl fun _ _ hs15 => ?_); clear hs14
 have hs16 := hs15.keep [0, 1, 2, 3, 4, 5, 6, 7, 8, 9, 10, 11, 13, 14, 15] [_, _, _, _, _, _, _, _, _, _, _, _, _, _, _] rfl; clear hs15
 refine sq rfl (st_assign hs16 (Ev.t 0 rfl) rfl rfl fun _ _ hs17 => ?_); clear hs16
 refine hK3 _ _ ?_; clear hK3
 have hs18 := hs17.keep [0] [_] rfl; clear hs17
 refine cd_retv (vs := [.bool ((legal a z lo hi) && (decide ((z - a : Int) ≤ 15)))]) hs18 hQ0 rfl ⟨.tmp 0 rfl, trivial⟩ ?_
 clear hs18 hQ0 hN0
 rfl

theorem S_v (lo hi : Int) (w : World) :
    CallsV Tryd.prog 23 [.int .i64 lo, .int .i64 hi] w (.agg ⟨[.int .i64 lo, .int .i64 hi]⟩) := by
 refine enter (N := 8) (M := []) w func23 rfl rfl rfl (fun Q0 a_0 hQ0 hN0 hs0 => ?_)
 refine cd_region fun K1 hK1 => ?_
 refine sq rfl (st_alloc hs0 rfl rfl zeroValue35 rfl fun b2 _ _ hs1 => ?_); clear hs0
 refine hK1 _ _ ?_; clear hK1
 refine cd_region fun K3 hK3 => ?_
 refine sq rfl (st_move hs1 (Ev.t 1 rfl) rfl rfl fun _ _ hs2 => ?_); clear hs1
 refine sq rfl (st_move hs2 (Ev.t 3 rfl) rfl rfl fun _ _ hs3 => ?_); clear hs2
 refine sq rfl (st_build hs3 (qs := [(0, .int .i64 lo), (1, .int .i64 hi)]) (v := .agg ⟨[.int .i64 lo, .int .i64 hi]⟩) ⟨(Ev.t 1 rfl), (Ev.t 0 rfl), trivial⟩ rfl rfl rfl (fun _ => by kernel_rfl) fun _ _ hs4 => ?_); clear hs3
 refine sq rfl (st_store (l' := [.int .i64 lo, .int .i64 hi]) (vs := [.int .i64 lo, .int .i64 hi]) (i := 0) hs4 (Ev.t 3 rfl) (Ev.t 0 rfl) sizeOf35 rfl rfl rfl rfl rfl rfl fun _ _ hs5 => ?_); clear hs4
 have hs6 := hs5.asB [_] rfl; clear hs5
 refine hK3 _ _ ?_; clear hK3
 have hs7 := hs6.keep [3] [_] rfl; clear hs6
 refine cd_retv (vs := [.agg ⟨[.int .i64 lo, .int .i64 hi]⟩]) hs7 hQ0 rfl ⟨resA (o := 0) (off := 0) (vs := [.int .i64 lo, .int .i64 hi]) 0 rfl isAgg35 sizeOf35 (hs7.cells 0 rfl) rfl, trivial⟩ ?_
 clear hs7 hQ0 hN0
 rfl

theorem first_v  (w : World) :
    CallsV Tryd.prog 47 [] w (.agg ⟨[.int .i64 0, .int .i64 0]⟩) := by
 refine enter (N := 3) (M := []) w func47 rfl rfl rfl (fun Q0 a_0 hQ0 hN0 hs0 => ?_)
 refine cd_region fun K1 hK1 => ?_
 refine sq rfl (st_alloc hs0 rfl rfl zeroValue71 rfl fun b2 _ _ hs1 => ?_); clear hs0
 refine hK1 _ _ ?_; clear hK1
 refine cd_region fun K3 hK3 => ?_
 refine sq rfl (st_alloc hs1 rfl rfl zeroValue71 rfl fun b4 _ _ hs2 => ?_); clear hs1
 refine hK3 _ _ ?_; clear hK3
 refine cd_region fun K5 hK5 => ?_
 refine sq rfl (st_loadA (o := 0) (off := 0) (vs := [.int .i64 0, .int .i64 0]) hs2 (Ev.t 0 rfl) rfl rfl isAgg71 sizeOf71 (hs2.cells 0 rfl) rfl fun _ _ hs3 => ?_); clear hs2
 refine sq rfl (st_store (l' := [.int .i64 0, .int .i64 0]) (vs := [.int .i64 0, .int .i64 0]) (i := 1) hs3 (Ev.t 2 rfl) (Ev.t 0 rfl) sizeOf71 rfl rfl rfl rfl rfl rfl fun _ _ hs4 => ?_); clear hs3
 have hs5 := hs4.asB [_, _] rfl; clear hs4
 refine hK5 _ _ ?_; clear hK5
 have hs6 := hs5.keep [2] [_] rfl; clear hs5
 refine cd_retv (vs := [.agg ⟨[.int .i64 0, .int .i64 0]⟩]) hs6 hQ0 rfl ⟨resA (o := 0) (off := 0) (vs := [.int .i64 0, .int .i64 0]) 0 rfl isAgg71 sizeOf71 (hs6.cells 1 rfl) rfl, trivial⟩ ?_
 clear hs6 hQ0 hN0
 rfl

theorem holds_v (a z n : Int) (w : World) :
    CallsV Tryd.prog 41 [.agg ⟨[.int .i64 a, .int .i64 z]⟩, .int .i64 n] w (.bool (within n a z)) := by
 refine enter (N := 11) (M := []) w func41 rfl rfl rfl (fun Q0 a_0 hQ0 hN0 hs0 => ?_)
 refine cd_region fun K1 hK1 => ?_
 refine sq rfl (st_box hs0 (Ev.t 0 rfl) rfl rfl rfl fun b2 _ _ hs1 => ?_); clear hs0
 refine sq rfl (st_assign hs1 (.const _) rfl rfl fun _ _ hs2 => ?_); clear hs1
 refine hK1 _ _ ?_; clear hK1
 have hs3 := hs2.keep [0, 1, 3] [_, _, _] rfl; clear hs2
 refine cd_region fun K3 hK3 => ?_
 refine sq rfl (st_move hs3 (Ev.t 2 rfl) rfl rfl fun _ _ hs4 => ?_); clear hs3
 refine sq rfl (st_field (o' := 0) hs4 (Ev.t 2 rfl) rfl rfl runUnderlying35 rfl sizeOf3 rfl rfl fun _ _ hs5 => ?_); clear hs4
 refine sq rfl (st_load1 (o := 0) (off := 0) (v := .int .i64 a) hs5 (Ev.t 0 rfl) rfl rfl isAgg3 (hs5.cells 0 rfl) rfl fun _ _ hs6 => ?_); clear hs5
 refine sq rfl (st_field (o' := 1) hs6 (Ev.t 4 rfl) rfl rfl runUnderlying35 rfl sizeOf3 rfl rfl fun _ _ hs7 => ?_); clear hs6
 refine sq rfl (st_load1 (o := 0) (off := 1) (v := .int .i64 z) hs7 (Ev.t 0 rfl) rfl rfl isAgg3 (hs7.cells 0 rfl) rfl fun _ _ hs8 => ?_); clear hs7
 refine sq rfl (st_callv (vs := [.int .i64 n, .int .i64 a, .int .i64 z]) hs8 (.func _) ⟨(Ev.t 4 rfl), (Ev.t 2 rfl), (Ev.t 0 rfl), trivial⟩ rfl rfl call16 rfl (amid_v n a z _) fun _ _ hs9 => ?_); clear hs8
 have hs10 := hs9.keep [0, 1, 2, 3, 4, 5, 7, 8] [_, _, _, _, _, _, _, _] rfl; clear hs9
 refine sq rfl (st_assign hs10 (Ev.t 0 rfl) rfl rfl fun _ _ hs11 => ?_); clear hs10
 refine hK3 _ _ ?_; clear hK3
 have hs12 := hs11.keep [0] [_] rfl; clear hs11
 refine cd_retv (vs := [.bool (within n a z)]) hs12 hQ0 rfl ⟨.tmp 0 rfl, trivial⟩ ?_
 clear hs12 hQ0 hN0
 rfl

theorem covers_v (a z x y : Int) (w : World) :
    CallsV Tryd.prog 44 [.agg ⟨[.int .i64 a, .int .i64 z]⟩, .agg ⟨[.int .i64 x, .int .i64 y]⟩] w (.bool (decide (a ≤ x) && decide (y ≤ z))) := by
 refine enter (N := 17) (M := []) w func44 rfl rfl rfl (fun Q0 a_0 hQ0 hN0 hs0 => ?_)
 refine cd_region fun K1 hK1 => ?_
 refine sq rfl (st_box hs0 (Ev.t 0 rfl) rfl rfl rfl fun b2 _ _ hs1 => ?_); clear hs0
 refine sq rfl (st_box hs1 (Ev.t 2 rfl) rfl rfl rfl fun b3 _ _ hs2 => ?_); clear hs1
 refine sq rfl (st_assign hs2 (.const _) rfl rfl fun _ _ hs3 => ?_); clear hs2
 refine hK1 _ _ ?_; clear hK1
 have hs4 := hs3.keep [0, 1, 2] [_, _, _] rfl; clear hs3
 refine cd_region fun K4 hK4 => ?_
 refine sq rfl (st_field (o' := 0) hs4 (Ev.t 2 rfl) rfl rfl runUnderlying35 rfl sizeOf3 rfl rfl fun _ _ hs5 => ?_); clear hs4
 refine sq rfl (st_load1 (o := 0) (off := 0) (v := .int .i64 a) hs5 (Ev.t 0 rfl) rfl rfl isAgg3 (hs5.cells 1 rfl) rfl fun _ _ hs6 => ?_); clear hs5
 refine sq rfl (st_field (o' := 0) hs6 (Ev.t 3 rfl) rfl rfl runUnderlying35 rfl sizeOf3 rfl rfl fun _ _ hs7 => ?_); clear hs6
 refine sq rfl (st_load1 (o := 0) (off := 0) (v := .int .i64 x) hs7 (Ev.t 0 rfl) rfl rfl isAgg3 (hs7.cells 0 rfl) rfl fun _ _ hs8 => ?_); clear hs7
 refine sq rfl (st_cmp (c := decide ((a : Int) ≤ x)) hs8 (Ev.t 2 rfl) (Ev.t 0 rfl) rfl rfl rfl rfl fun _ _ hs9 => ?_); clear hs8
 refine sq rfl (st_move hs9 (Ev.t 0 rfl) rfl rfl fun _ _ hs10 => ?_); clear hs9
 refine sq_gv hs10 (gg := decide ((a : Int) ≤ x)) (v := .pointer (some ⟨b3, 1, none⟩)) rfl rfl 0 rfl (ison_t _) rfl rfl rfl (fun hg5 K6 hK6 => st_field (o' := 1) hs10 (Ev.t 7 rfl) rfl rfl runUnderlying35 rfl sizeOf3 rfl rfl hK6) fun _ _ hs11 => ?_; clear hs10
 refine sq_gv hs11 (gg := decide ((a : Int) ≤ x)) (v := .int .i64 y) rfl rfl 1 rfl (ison_t _) rfl rfl rfl (fun hg7 K8 hK8 => st_load1 (o := 0) (off := 1) (v := .int .i64 y) hs11 ((Ev.t 0 rfl).un hg7) rfl rfl isAgg3 (hs11.cells 0 rfl) rfl hK8) fun _ _ hs12 => ?_; clear hs11
 refine sq_gv hs12 (gg := decide ((a : Int) ≤ x)) (v := .pointer (some ⟨b2, 1, none⟩)) rfl rfl 2 rfl (ison_t _) rfl rfl rfl (fun hg9 K10 hK10 => st_field (o' := 1) hs12 (Ev.t 10 rfl) rfl rfl runUnderlying35 rfl sizeOf3 rfl rfl hK10) fun _ _ hs13 => ?_; clear hs12
 refine sq_gv hs13 (gg := decide ((a : Int) ≤ x)) (v := .int .i64 z) rfl rfl 3 rfl (ison_t _) rfl rfl rfl (fun hg11 K12 hK12 => st_load1 (o := 0) (off := 1) (v := .int .i64 z) hs13 ((Ev.t 0 rfl).un hg11) rfl rfl isAgg3 (hs13.cells 1 rfl) rfl hK12) fun _ _ hs14 => ?_; clear hs13
 refine sq_gv hs14 (gg := decide ((a : Int) ≤ x)) (v := .bool (decide ((y : Int) ≤ z))) rfl rfl 4 rfl (ison_t _) rfl rfl rfl (fun hg13 K14 hK14 => st_cmp (c := decide ((y : Int) ≤ z)) hs14 ((Ev.t 2 rfl).un hg13) ((Ev.t 0 rfl).un hg13) rfl rfl rfl rfl hK14) fun _ _ hs15 => ?_; clear hs14
 refine sq rfl (st_and hs15 (gx := true) (gy := decide ((a : Int) ≤ x)) (Ev.t 5 rfl) rfl (Ev.t 0 rfl) (fun h => h) rfl rfl fun _ _ hs16 => ?_); clear hs15
 have hs17 := hs16.keep [0, 1, 2, 3, 4, 5, 6, 7, 8, 9, 10, 11, 13, 14] [_, _, _, _, _, _, _, _, _, _, _, _, _, _] rfl; clear hs16
 refine sq rfl (st_assign hs17 (Ev.t 0 rfl) rfl rfl fun _ _ hs18 => ?_); clear hs17
 refine hK4 _ _ ?_; clear hK4
 have hs19 := hs18.keep [0] [_] rfl; clear hs18
 refine cd_retv (vs := [.bool ((decide ((a : Int) ≤ x)) && (decide ((y : Int) ≤ z)))]) hs19 hQ0 rfl ⟨.tmp 0 rfl, trivial⟩ ?_
 clear hs19 hQ0 hN0
 rfl

theorem empty_v (a z : Int) (w : World) :
    CallsV Tryd.prog 72 [.agg ⟨[.int .i64 a, .int .i64 z]⟩] w (.bool (decide (z < a))) := by
 refine enter (N := 8) (M := []) w func72 rfl rfl rfl (fun Q0 a_0 hQ0 hN0 hs0 => ?_)
 refine cd_region fun K1 hK1 => ?_
 refine sq rfl (st_box hs0 (Ev.t 0 rfl) rfl rfl rfl fun b2 _ _ hs1 => ?_); clear hs0
 refine sq rfl (st_assign hs1 (.const _) rfl rfl fun _ _ hs2 => ?_); clear hs1
 refine hK1 _ _ ?_; clear hK1
 have hs3 := hs2.keep [0, 1] [_, _] rfl; clear hs2
 refine cd_region fun K3 hK3 => ?_
 refine sq rfl (st_field (o' := 0) hs3 (Ev.t 1 rfl) rfl rfl runUnderlying35 rfl sizeOf3 rfl rfl fun _ _ hs4 => ?_); clear hs3
 refine sq rfl (st_load1 (o := 0) (off := 0) (v := .int .i64 a) hs4 (Ev.t 0 rfl) rfl rfl isAgg3 (hs4.cells 0 rfl) rfl fun _ _ hs5 => ?_); clear hs4
 refine sq rfl (st_field (o' := 1) hs5 (Ev.t 3 rfl) rfl rfl runUnderlying35 rfl sizeOf3 rfl rfl fun _ _ hs6 => ?_); clear hs5
 refine sq rfl (st_load1 (o := 0) (off := 1) (v := .int .i64 z) hs6 (Ev.t 0 rfl) rfl rfl isAgg3 (hs6.cells 0 rfl) rfl fun _ _ hs7 => ?_); clear hs6
 refine sq rfl (st_cmp (c := decide ((a : Int) > z)) hs7 (Ev.t 2 rfl) (Ev.t 0 rfl) rfl rfl rfl rfl fun _ _ hs8 => ?_); clear hs7
 have hs9 := hs8.keep [0, 1, 2, 3, 4, 6] [_, _, _, _, _, _] rfl; clear hs8
 refine sq rfl (st_assign hs9 (Ev.t 0 rfl) rfl rfl fun _ _ hs10 => ?_); clear hs9
 refine hK3 _ _ ?_; clear hK3
 have hs11 := hs10.keep [0] [_] rfl; clear hs10
 refine cd_retv (vs := [.bool (decide ((a : Int) > z))]) hs11 hQ0 rfl ⟨.tmp 0 rfl, trivial⟩ ?_
 clear hs11 hQ0 hN0
 show Value.bool _ = Value.bool _
 rfl

theorem great_v (f y : Int) (bb : Nat) (w : World) (hC : CellsAt w bb 0 [.int .i64 y]) :
    CallsV Tryd.prog 49 [.int .i64 f, .slice (some ⟨bb, 0, none⟩) 1 1] w (.int .i64 (max f y)) := by
 refine enter (N := 18) (M := []) w func49 rfl rfl rfl (fun Q0 a_0 hQ0 hN0 hs0 => ?_)
 refine cd_region fun K1 hK1 => ?_
 refine sq rfl (st_assign hs0 (.const _) rfl rfl fun _ _ hs1 => ?_); clear hs0
 refine hK1 _ _ ?_; clear hK1
 refine cd_seq fun K2 hK2 => ?_
 refine cd_region fun K3 hK3 => ?_
 refine sq rfl (st_move hs1 (Ev.t 2 rfl) rfl rfl fun _ _ hs2 => ?_); clear hs1
 refine sq rfl (st_len hs2 (Ev.t 0 rfl) rfl rfl runUnderlying33 fun _ _ hs3 => ?_); clear hs2
 refine sq rfl (st_move hs3 (.const _) rfl rfl fun _ _ hs4 => ?_); clear hs3
 refine hK3 _ _ ?_; clear hK3
 have hs5 := hs4.keep [0, 1, 2, 3, 4] [_, _, _, _, _] rfl; clear hs4
 refine cd_block ?_
 refine cd_rounds 2 ?_
 refine cd_round fun K4 hK4 => ?_
 refine cd_region fun K5 hK5 => ?_
 refine sq rfl (st_cmp (c := decide ((0 : Int) < 1)) hs5 (Ev.t 0 rfl) (Ev.t 1 rfl) rfl rfl rfl rfl fun _ _ hs6 => ?_); clear hs5
 refine hK5 _ _ ?_; clear hK5
 refine cd_seq fun K6 hK6 => ?_
 have hc7 : (decide ((0 : Int) < 1)) = true := by decide
 refine cd_cond hs6 (Ev.t 0 rfl) (fun _ => ?_) (fun h => absurd (hc7.symm.trans h) (by decide))
 refine cd_skip ?_
 refine th_norm (hK6 _ _ ?_)
 refine cd_seq fun K8 hK8 => ?_
 refine cd_block ?_
 refine cd_region fun K9 hK9 => ?_
 refine sq rfl (st_indexSl (o' := 0) hs6 (Ev.t 3 rfl) (Ev.t 1 rfl) rfl rfl runUnderlying33 sizeOf3 (by decide) rfl fun _ _ hs7 => ?_); clear hs6
 refine sq rfl (st_load1 (o := 0) (off := 0) (v := .int .i64 y) hs7 (Ev.t 0 rfl) rfl rfl isAgg3 (hs7.old hC (by simp)) rfl fun _ _ hs8 => ?_); clear hs7
 refine sq rfl (st_assign hs8 (Ev.t 0 rfl) rfl rfl fun _ _ hs9 => ?_); clear hs8
 refine hK9 _ _ ?_; clear hK9
 have hs10 := hs9.keep [0, 4, 5, 6, 7, 8] [_, _, _, _, _, _] rfl; clear hs9
 refine cd_region1 ?_
 refine sq rfl (st_move hs10 (Ev.t 5 rfl) rfl rfl fun _ _ hs11 => ?_); clear hs10
 refine sq rfl (st_move hs11 (Ev.t 1 rfl) rfl rfl fun _ _ hs12 => ?_); clear hs11
 refine sq rfl (st_max hs12 (Ev.t 1 rfl) (Ev.t 0 rfl) rfl rfl fun _ _ hs13 => ?_); clear hs12
 have hs14 := hs13.keep [0, 1, 2, 3, 4, 5, 6, 7] [_, _, _, _, _, _, _, _] rfl; clear hs13
 refine sq rfl (st_assign hs14 (Ev.t 0 rfl) rfl rfl fun _ _ hs15 => ?_); clear hs14
 refine wpListIn_nil ?_
 have hs16 := hs15.keep [0, 5, 6, 7, 8] [_, _, _, _, _] rfl; clear hs15
 refine in_norm ?_
 refine th_norm (hK8 _ _ ?_)
 refine cd_region1 ?_
 refine sq rfl (st_add (z := 1) hs16 (Ev.t 1 rfl) (.const _) rfl rfl rfl (by omega) fun _ _ hs17 => ?_); clear hs16
 have hs18 := hs17.keep [0, 1, 3, 4, 5] [_, _, _, _, _] rfl; clear hs17
 refine sq rfl (st_move hs18 (Ev.t 0 rfl) rfl rfl fun _ _ hs19 => ?_); clear hs18
 refine wpListIn_nil ?_
 have hs20 := hs19.keep [0, 2, 3, 4, 5] [_, _, _, _, _] rfl; clear hs19
 refine th_norm (hK4 _ _ ?_); clear hK4
 refine cd_round fun K10 hK10 => ?_
 refine cd_region fun K11 hK11 => ?_
 refine sq rfl (st_cmp (c := decide ((1 : Int) < 1)) hs20 (Ev.t 0 rfl) (Ev.t 2 rfl) rfl rfl rfl rfl fun _ _ hs21 => ?_); clear hs20
 refine hK11 _ _ ?_; clear hK11
 refine cd_seq fun K12 hK12 => ?_
 have hc13 : (decide ((1 : Int) < 1)) = false := by decide
 refine cd_cond hs21 (Ev.t 0 rfl) (fun h => absurd (hc13.symm.trans h) (by decide)) (fun _ => ?_)
 refine cd_exit ?_
 refine th_exit ?_
 refine th_exit ?_
 refine in_hit ?_
 refine th_norm (hK2 _ _ ?_)
 refine cd_region fun K14 hK14 => ?_
 refine sq rfl (st_move hs21 (Ev.t 2 rfl) rfl rfl fun _ _ hs22 => ?_); clear hs21
 have hs23 := hs22.keep [0, 1, 2, 3, 4, 5] [_, _, _, _, _, _] rfl; clear hs22
 refine sq rfl (st_assign hs23 (Ev.t 0 rfl) rfl rfl fun _ _ hs24 => ?_); clear hs23
 refine hK14 _ _ ?_; clear hK14
 have hs25 := hs24.keep [0] [_] rfl; clear hs24
 refine cd_retv (vs := [.int .i64 (max f y)]) hs25 hQ0 rfl ⟨.tmp 0 rfl, trivial⟩ ?_
 clear hs25 hQ0 hN0
 rfl

theorem right_v (b : Bx) (A : Option Addr) (n cp : Nat) (A2 : Option Addr) (n2 c2 : Nat) (A3 : Option Addr) (n3 c3 m : Nat) (t : Int) (w : World) (hw : (0 ≤ b.count ∧ b.count ≤ 60000) ∧ 0 ≤ b.err ∧ b.err ≤ 200) :
    CallsV Tryd.prog 54 [.agg ⟨(boxL b A n cp A2 n2 c2 A3 n3 c3 m)⟩, .int .i64 t] w (.bool (right b t)) := by
 refine enter (N := 21) (M := []) w func54 rfl rfl rfl (fun Q0 a_0 hQ0 hN0 hs0 => ?_)
 refine cd_region fun K1 hK1 => ?_
 refine sq rfl (st_box hs0 (Ev.t 0 rfl) rfl rfl rfl fun b2 _ _ hs1 => ?_); clear hs0
 refine sq rfl (st_assign hs1 (.const _) rfl rfl fun _ _ hs2 => ?_); clear hs1
 refine hK1 _ _ ?_; clear hK1
 have hs3 := hs2.keep [0, 1, 3] [_, _, _] rfl; clear hs2
 refine cd_region fun K3 hK3 => ?_
 refine sq rfl (st_move hs3 (Ev.t 2 rfl) rfl rfl fun _ _ hs4 => ?_); clear hs3
 refine sq rfl (st_field (o' := 0) hs4 (Ev.t 2 rfl) rfl rfl runUnderlying66 rfl sizeOf25 rfl rfl fun _ _ hs5 => ?_); clear hs4
 refine sq rfl (st_field (o' := 2) hs5 (Ev.t 0 rfl) rfl rfl runUnderlying25 rfl sizeOf3 rfl rfl fun _ _ hs6 => ?_); clear hs5
 refine sq rfl (st_load1 (o := 0) (off := 2) (v := .int .i64 b.count) hs6 (Ev.t 0 rfl) rfl rfl isAgg3 (hs6.cells 0 rfl) rfl fun _ _ hs7 => ?_); clear hs6
 refine sq rfl (st_field (o' := 0) hs7 (Ev.t 5 rfl) rfl rfl runUnderlying66 rfl sizeOf25 rfl rfl fun _ _ hs8 => ?_); clear hs7
 refine sq rfl (st_field (o' := 3) hs8 (Ev.t 0 rfl) rfl rfl runUnderlying25 rfl sizeOf3 rfl rfl fun _ _ hs9 => ?_); clear hs8
 refine sq rfl (st_load1 (o := 0) (off := 3) (v := .int .i64 b.err) hs9 (Ev.t 0 rfl) rfl rfl isAgg3 (hs9.cells 0 rfl) rfl fun _ _ hs10 => ?_); clear hs9
 refine sq rfl (st_sub (z := b.count - b.err) hs10 (Ev.t 3 rfl) (Ev.t 0 rfl) rfl rfl rfl (by omega) fun _ _ hs11 => ?_); clear hs10
 refine sq rfl (st_field (o' := 0) hs11 (Ev.t 9 rfl) rfl rfl runUnderlying66 rfl sizeOf25 rfl rfl fun _ _ hs12 => ?_); clear hs11
 refine sq rfl (st_field (o' := 2) hs12 (Ev.t 0 rfl) rfl rfl runUnderlying25 rfl sizeOf3 rfl rfl fun _ _ hs13 => ?_); clear hs12
 refine sq rfl (st_load1 (o := 0) (off := 2) (v := .int .i64 b.count) hs13 (Ev.t 0 rfl) rfl rfl isAgg3 (hs13.cells 0 rfl) rfl fun _ _ hs14 => ?_); clear hs13
 refine sq rfl (st_field (o' := 0) hs14 (Ev.t 12 rfl) rfl rfl runUnderlying66 rfl sizeOf25 rfl rfl fun _ _ hs15 => ?_); clear hs14
 refine sq rfl (st_field (o' := 3) hs15 (Ev.t 0 rfl) rfl rfl runUnderlying25 rfl sizeOf3 rfl rfl fun _ _ hs16 => ?_); clear hs15
 refine sq rfl (st_load1 (o := 0) (off := 3) (v := .int .i64 b.err) hs16 (Ev.t 0 rfl) rfl rfl isAgg3 (hs16.cells 0 rfl) rfl fun _ _ hs17 => ?_); clear hs16
 refine sq rfl (st_add (z := b.count + b.err) hs17 (Ev.t 3 rfl) (Ev.t 0 rfl) rfl rfl rfl (by omega) fun _ _ hs18 => ?_); clear hs17
 refine sq rfl (st_callv (vs := [.int .i64 t, .int .i64 (b.count - b.err), .int .i64 (b.count + b.err)]) hs18 (.func _) ⟨(Ev.t 14 rfl), (Ev.t 7 rfl), (Ev.t 0 rfl), trivial⟩ rfl rfl call57 rfl (inside_v t (b.count - b.err) (b.count + b.err) _) fun _ _ hs19 => ?_); clear hs18
 have hs20 := hs19.keep [0, 1, 2, 3, 4, 5, 6, 7, 8, 9, 10, 11, 12, 13, 14, 15, 17, 18] [_, _, _, _, _, _, _, _, _, _, _, _, _, _, _, _, _, _] rfl; clear hs19
 refine sq rfl (st_assign hs20 (Ev.t 0 rfl) rfl rfl fun _ _ hs21 => ?_); clear hs20
 refine hK3 _ _ ?_; clear hK3
 have hs22 := hs21.keep [0] [_] rfl; clear hs21
 refine cd_retv (vs := [.bool (within t (b.count - b.err) (b.count + b.err))]) hs22 hQ0 rfl ⟨.tmp 0 rfl, trivial⟩ ?_
 clear hs22 hQ0 hN0
 rfl

theorem whole_v (b : Bx) (A : Option Addr) (n cp : Nat) (A2 : Option Addr) (n2 c2 : Nat) (A3 : Option Addr) (n3 c3 m : Nat) (t : Int) (w : World)  :
    CallsV Tryd.prog 95 [.agg ⟨(boxL b A n cp A2 n2 c2 A3 n3 c3 m)⟩, .int .i64 t] w (.int .i64 t) := by
 refine enter (N := 6) (M := []) w func95 rfl rfl rfl (fun Q0 a_0 hQ0 hN0 hs0 => ?_)
 refine cd_region fun K1 hK1 => ?_
 refine sq rfl (st_box hs0 (Ev.t 0 rfl) rfl rfl rfl fun b2 _ _ hs1 => ?_); clear hs0
 refine sq rfl (st_assign hs1 (.const _) rfl rfl fun _ _ hs2 => ?_); clear hs1
 refine hK1 _ _ ?_; clear hK1
 have hs3 := hs2.keep [0, 3] [_, _] rfl; clear hs2
 refine cd_region fun K3 hK3 => ?_
 refine sq rfl (st_move hs3 (Ev.t 1 rfl) rfl rfl fun _ _ hs4 => ?_); clear hs3
 have hs5 := hs4.keep [0, 2] [_, _] rfl; clear hs4
 refine sq rfl (st_assign hs5 (Ev.t 0 rfl) rfl rfl fun _ _ hs6 => ?_); clear hs5
 refine hK3 _ _ ?_; clear hK3
 have hs7 := hs6.keep [0] [_] rfl; clear hs6
 refine cd_retv (vs := [.int .i64 t]) hs7 hQ0 rfl ⟨.tmp 0 rfl, trivial⟩ ?_
 clear hs7 hQ0 hN0
 rfl

theorem duty_v (b : Bx) (A : Option Addr) (n cp : Nat) (A2 : Option Addr) (n2 c2 : Nat) (A3 : Option Addr) (n3 c3 m : Nat) (t : Int) (w : World) (ht : 0 ≤ t ∧ t ≤ 60000) (hd : 0 ≤ b.duty ∧ b.duty ≤ 100) :
    CallsV Tryd.prog 93 [.agg ⟨(boxL b A n cp A2 n2 c2 A3 n3 c3 m)⟩, .int .i64 t] w (.int .i64 (dutyI b t)) := by
 have hm : 0 ≤ t * b.duty ∧ t * b.duty ≤ 6000000 := ⟨Int.mul_nonneg ht.1 hd.1, Int.le_trans (Int.mul_le_mul ht.2 hd.2 hd.1 (by omega)) (by omega)⟩
 refine enter (N := 11) (M := []) w func93 rfl rfl rfl (fun Q0 a_0 hQ0 hN0 hs0 => ?_)
 refine cd_region fun K1 hK1 => ?_
 refine sq rfl (st_box hs0 (Ev.t 0 rfl) rfl rfl rfl fun b2 _ _ hs1 => ?_); clear hs0
 refine sq rfl (st_assign hs1 (.const _) rfl rfl fun _ _ hs2 => ?_); clear hs1
 refine hK1 _ _ ?_; clear hK1
 have hs3 := hs2.keep [0, 1, 3] [_, _, _] rfl; clear hs2
 refine cd_region fun K3 hK3 => ?_
 refine sq rfl (st_move hs3 (Ev.t 2 rfl) rfl rfl fun _ _ hs4 => ?_); clear hs3
 refine sq rfl (st_field (o' := 0) hs4 (Ev.t 2 rfl) rfl rfl runUnderlying66 rfl sizeOf25 rfl rfl fun _ _ hs5 => ?_); clear hs4
 refine sq rfl (st_field (o' := 4) hs5 (Ev.t 0 rfl) rfl rfl runUnderlying25 rfl sizeOf3 rfl rfl fun _ _ hs6 => ?_); clear hs5
 refine sq rfl (st_load1 (o := 0) (off := 4) (v := .int .i64 b.duty) hs6 (Ev.t 0 rfl) rfl rfl isAgg3 (hs6.cells 0 rfl) rfl fun _ _ hs7 => ?_); clear hs6
 refine sq rfl (st_mul (z := t * b.duty) hs7 (Ev.t 3 rfl) (Ev.t 0 rfl) rfl rfl rfl (by omega) fun _ _ hs8 => ?_); clear hs7
 refine sq rfl (st_quo hs8 (Ev.t 0 rfl) (.const _) rfl rfl (by omega) fun _ _ hs9 => ?_); clear hs8
 have hs10 := hs9.keep [0, 1, 2, 3, 4, 5, 7, 8] [_, _, _, _, _, _, _, _] rfl; clear hs9
 refine sq rfl (st_assign hs10 (Ev.t 0 rfl) rfl rfl fun _ _ hs11 => ?_); clear hs10
 refine hK3 _ _ ?_; clear hK3
 have hs12 := hs11.keep [0] [_] rfl; clear hs11
 refine cd_retv (vs := [.int .i64 ((t * b.duty) / 100)]) hs12 hQ0 rfl ⟨.tmp 0 rfl, trivial⟩ ?_
 clear hs12 hQ0 hN0
 rfl

theorem rduty_v (b : Bx) (A : Option Addr) (n cp : Nat) (A2 : Option Addr) (n2 c2 : Nat) (t : Int) (w : World) (ht : 0 ≤ t ∧ t ≤ 60000) (hd : 0 ≤ b.duty ∧ b.duty ≤ 100) :
    CallsV Tryd.prog 77 [.agg ⟨(bxL b A n cp A2 n2 c2)⟩, .int .i64 t] w (.int .i64 (dutyI b t)) := by
 have hm : 0 ≤ t * b.duty ∧ t * b.duty ≤ 6000000 := ⟨Int.mul_nonneg ht.1 hd.1, Int.le_trans (Int.mul_le_mul ht.2 hd.2 hd.1 (by omega)) (by omega)⟩
 refine enter (N := 10) (M := []) w func77 rfl rfl rfl (fun Q0 a_0 hQ0 hN0 hs0 => ?_)
 refine cd_region fun K1 hK1 => ?_
 refine sq rfl (st_box hs0 (Ev.t 0 rfl) rfl rfl rfl fun b2 _ _ hs1 => ?_); clear hs0
 refine sq rfl (st_assign hs1 (.const _) rfl rfl fun _ _ hs2 => ?_); clear hs1
 refine hK1 _ _ ?_; clear hK1
 have hs3 := hs2.keep [0, 1, 3] [_, _, _] rfl; clear hs2
 refine cd_region fun K3 hK3 => ?_
 refine sq rfl (st_move hs3 (Ev.t 2 rfl) rfl rfl fun _ _ hs4 => ?_); clear hs3
 refine sq rfl (st_field (o' := 4) hs4 (Ev.t 2 rfl) rfl rfl runUnderlying25 rfl sizeOf3 rfl rfl fun _ _ hs5 => ?_); clear hs4
 refine sq rfl (st_load1 (o := 0) (off := 4) (v := .int .i64 b.duty) hs5 (Ev.t 0 rfl) rfl rfl isAgg3 (hs5.cells 0 rfl) rfl fun _ _ hs6 => ?_); clear hs5
 refine sq rfl (st_mul (z := t * b.duty) hs6 (Ev.t 2 rfl) (Ev.t 0 rfl) rfl rfl rfl (by omega) fun _ _ hs7 => ?_); clear hs6
 refine sq rfl (st_quo hs7 (Ev.t 0 rfl) (.const _) rfl rfl (by omega) fun _ _ hs8 => ?_); clear hs7
 have hs9 := hs8.keep [0, 1, 2, 3, 4, 6, 7] [_, _, _, _, _, _, _] rfl; clear hs8
 refine sq rfl (st_assign hs9 (Ev.t 0 rfl) rfl rfl fun _ _ hs10 => ?_); clear hs9
 refine hK3 _ _ ?_; clear hK3
 have hs11 := hs10.keep [0] [_] rfl; clear hs10
 refine cd_retv (vs := [.int .i64 ((t * b.duty) / 100)]) hs11 hQ0 rfl ⟨.tmp 0 rfl, trivial⟩ ?_
 clear hs11 hQ0 hN0
 rfl
end Go.Proofs.YtcnndpedeofbmaaDoor
