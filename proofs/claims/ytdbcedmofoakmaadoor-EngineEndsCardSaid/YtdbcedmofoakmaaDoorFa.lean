/- The law: the chapter's evening and plans; its examples hold. -/
import Derived.Test.YtdbcedmofoakmaaDoorEl
import Derived.Test.YtdbcedmofoakmaaDoorEk
import Derived.Test.YtdbcedmofoakmaaDoorEv
import Derived.Test.YtdbcedmofoakmaaDoorSf
set_option maxRecDepth 100000
namespace Go.Proofs.YtdbcedmofoakmaaDoor
open Go Go.Sx Go.Eng Go.Proofs.Tryd
theorem part_v (lo hi : Int) (l : Bool) (k : Int) (w : World)  :
    CallsV Tryd.prog 69 [.int .i64 lo, .int .i64 hi, .bool l, .int .i64 k] w (.agg ⟨[.int .i64 lo, .int .i64 hi, .bool l, .int .i64 k]⟩) := by
 refine enter (N := 15) (M := []) w func69 rfl rfl rfl (fun Q0 a_0 hQ0 hN0 hs0 => ?_)
 refine cd_region fun K1 hK1 => ?_
 refine sq rfl (st_alloc hs0 rfl rfl zeroValue66 rfl fun b2 _ _ hs1 => ?_); clear hs0
 refine hK1 _ _ ?_; clear hK1
 refine cd_region fun K3 hK3 => ?_
 refine sq rfl (st_move hs1 (Ev.t 1 rfl) rfl rfl fun _ _ hs2 => ?_); clear hs1
 refine sq rfl (st_move hs2 (Ev.t 3 rfl) rfl rfl fun _ _ hs3 => ?_); clear hs2
 refine sq rfl (st_callv (vs := [.int .i64 lo, .int .i64 hi]) hs3 (.func _) ⟨(Ev.t 1 rfl), (Ev.t 0 rfl), trivial⟩ rfl rfl call40 rfl (S_v lo hi _) fun _ _ hs4 => ?_); clear hs3
 refine sq rfl (st_move hs4 (Ev.t 6 rfl) rfl rfl fun _ _ hs5 => ?_); clear hs4
 refine sq rfl (st_move hs5 (Ev.t 8 rfl) rfl rfl fun _ _ hs6 => ?_); clear hs5
 refine sq rfl (st_build hs6 (qs := [(0, .agg ⟨[.int .i64 lo, .int .i64 hi]⟩), (1, .bool l), (2, .int .i64 k)]) (v := .agg ⟨[.int .i64 lo, .int .i64 hi, .bool l, .int .i64 k]⟩) ⟨(Ev.t 2 rfl), (Ev.t 1 rfl), (Ev.t 0 rfl), trivial⟩ rfl rfl rfl (fun _ => by kernel_rfl) fun _ _ hs7 => ?_); clear hs6
 refine sq rfl (st_store (l' := [.int .i64 lo, .int .i64 hi, .bool l, .int .i64 k]) (vs := [.int .i64 lo, .int .i64 hi, .bool l, .int .i64 k]) (i := 0) hs7 (Ev.t 6 rfl) (Ev.t 0 rfl) sizeOf66 rfl rfl rfl rfl rfl rfl fun _ _ hs8 => ?_); clear hs7
 have hs9 := hs8.asB [_] rfl; clear hs8
 refine hK3 _ _ ?_; clear hK3
 have hs10 := hs9.keep [6] [_] rfl; clear hs9
 refine cd_retv (vs := [.agg ⟨[.int .i64 lo, .int .i64 hi, .bool l, .int .i64 k]⟩]) hs10 hQ0 rfl ⟨resA (o := 0) (off := 0) (vs := [.int .i64 lo, .int .i64 hi, .bool l, .int .i64 k]) 0 rfl isAgg66 sizeOf66 (hs10.cells 0 rfl) rfl, trivial⟩ ?_
 clear hs10 hQ0 hN0
 rfl

theorem evening_b  (w : World)  :
    CallsB Tryd.prog 45 [] w (fun v_ bs_ => ∃ b7, v_ = .agg ⟨(bookL eve (some ⟨b7, 0, none⟩) 4 4)⟩ ∧ bs_ = [(b7, some (.cells ⟨eveC⟩ 66 (0, 0)))]) := by
 refine enter (N := 17) (M := []) w func45 rfl rfl rfl (fun Q0 a_0 hQ0 hN0 hs0 => ?_)
 refine cd_region fun K1 hK1 => ?_
 refine sq rfl (st_alloc hs0 rfl rfl zeroValue27 rfl fun b2 _ _ hs1 => ?_); clear hs0
 refine hK1 _ _ ?_; clear hK1
 refine cd_region fun K3 hK3 => ?_
 refine sq rfl (st_callv (vs := [.int .i64 20, .int .i64 24]) hs1 (.func _) ⟨(.const _), (.const _), trivial⟩ rfl rfl call40 rfl (S_v 20 24 _) fun _ _ hs2 => ?_); clear hs1
 refine sq rfl (st_callv (vs := [.int .i64 30, .int .i64 30]) hs2 (.func _) ⟨(.const _), (.const _), trivial⟩ rfl rfl call40 rfl (S_v 30 30 _) fun _ _ hs3 => ?_); clear hs2
 refine sq rfl (st_callv (vs := [.int .i64 0, .int .i64 1]) hs3 (.func _) ⟨(.const _), (.const _), trivial⟩ rfl rfl call40 rfl (S_v 0 1 _) fun _ _ hs4 => ?_); clear hs3
 refine sq rfl (st_callv (vs := [.int .i64 1, .int .i64 2]) hs4 (.func _) ⟨(.const _), (.const _), trivial⟩ rfl rfl call40 rfl (S_v 1 2 _) fun _ _ hs5 => ?_); clear hs4
 refine sq rfl (st_build hs5 (qs := [(0, .agg ⟨[.int .i64 0, .int .i64 1]⟩), (1, .agg ⟨[.int .i64 1, .int .i64 2]⟩)]) (v := .agg ⟨[.int .i64 0, .int .i64 1, .int .i64 1, .int .i64 2]⟩) ⟨(Ev.t 1 rfl), (Ev.t 0 rfl), trivial⟩ rfl rfl rfl (fun _ => by kernel_rfl) fun _ _ hs6 => ?_); clear hs5
 refine sq rfl (st_callv (vs := [.int .i64 0, .int .i64 1]) hs6 (.func _) ⟨(.const _), (.const _), trivial⟩ rfl rfl call40 rfl (S_v 0 1 _) fun _ _ hs7 => ?_); clear hs6
 refine sq rfl (st_callv (vs := [.int .i64 1, .int .i64 1]) hs7 (.func _) ⟨(.const _), (.const _), trivial⟩ rfl rfl call40 rfl (S_v 1 1 _) fun _ _ hs8 => ?_); clear hs7
 refine sq rfl (st_build hs8 (qs := [(0, .agg ⟨[.int .i64 0, .int .i64 1]⟩), (1, .agg ⟨[.int .i64 1, .int .i64 1]⟩)]) (v := .agg ⟨[.int .i64 0, .int .i64 1, .int .i64 1, .int .i64 1]⟩) ⟨(Ev.t 1 rfl), (Ev.t 0 rfl), trivial⟩ rfl rfl rfl (fun _ => by kernel_rfl) fun _ _ hs9 => ?_); clear hs8
 refine sq rfl (st_callv (vs := [.int .i64 20, .int .i64 24]) hs9 (.func _) ⟨(.const _), (.const _), trivial⟩ rfl rfl call40 rfl (S_v 20 24 _) fun _ _ hs10 => ?_); clear hs9
 refine sq rfl (st_callv (vs := [.int .i64 12, .int .i64 16]) hs10 (.func _) ⟨(.const _), (.const _), trivial⟩ rfl rfl call40 rfl (S_v 12 16 _) fun _ _ hs11 => ?_); clear hs10
 refine sq rfl (st_callv (vs := [.int .i64 5, .int .i64 6, .bool false, .int .i64 0]) hs11 (.func _) ⟨(.const _), (.const _), (.const _), (.const _), trivial⟩ rfl rfl call69 rfl (part_v 5 6 false 0 _) fun _ _ hs12 => ?_); clear hs11
 refine sq rfl (st_callv (vs := [.int .i64 10, .int .i64 12, .bool true, .int .i64 2]) hs12 (.func _) ⟨(.const _), (.const _), (.const _), (.const _), trivial⟩ rfl rfl call69 rfl (part_v 10 12 true 2 _) fun _ _ hs13 => ?_); clear hs12
 refine sq rfl (st_callv (vs := [.int .i64 3, .int .i64 4, .bool false, .int .i64 1]) hs13 (.func _) ⟨(.const _), (.const _), (.const _), (.const _), trivial⟩ rfl rfl call69 rfl (part_v 3 4 false 1 _) fun _ _ hs14 => ?_); clear hs13
 refine sq rfl (st_callv (vs := [.int .i64 8, .int .i64 8, .bool true, .int .i64 5]) hs14 (.func _) ⟨(.const _), (.const _), (.const _), (.const _), trivial⟩ rfl rfl call69 rfl (part_v 8 8 true 5 _) fun _ _ hs15 => ?_); clear hs14
 refine sq rfl (st_buildSlice hs15 (qs := [(0, .agg ⟨[.int .i64 5, .int .i64 6, .bool false, .int .i64 0]⟩), (1, .agg ⟨[.int .i64 10, .int .i64 12, .bool true, .int .i64 2]⟩), (2, .agg ⟨[.int .i64 3, .int .i64 4, .bool false, .int .i64 1]⟩), (3, .agg ⟨[.int .i64 8, .int .i64 8, .bool true, .int .i64 5]⟩)]) (e := 66) (l := [.int .i64 5, .int .i64 6, .bool false, .int .i64 0, .int .i64 10, .int .i64 12, .bool true, .int .i64 2, .int .i64 3, .int .i64 4, .bool false, .int .i64 1, .int .i64 8, .int .i64 8, .bool true, .int .i64 5]) ⟨(Ev.t 3 rfl), (Ev.t 2 rfl), (Ev.t 1 rfl), (Ev.t 0 rfl), trivial⟩ rfl rfl rfl (fun _ => by kernel_rfl) fun b4 _ _ hs16 => ?_); clear hs15
 refine sq rfl (st_build hs16 (qs := [(0, .agg ⟨[.int .i64 20, .int .i64 24]⟩), (1, .agg ⟨[.int .i64 30, .int .i64 30]⟩), (2, .int .i64 40), (3, .int .i64 40), (4, .int .i64 6), (5, .int .i64 10), (6, .agg ⟨[.int .i64 0, .int .i64 1, .int .i64 1, .int .i64 2]⟩), (7, .agg ⟨[.int .i64 0, .int .i64 1, .int .i64 1, .int .i64 1]⟩), (8, .agg ⟨[.int .i64 20, .int .i64 24]⟩), (9, .agg ⟨[.int .i64 12, .int .i64 16]⟩), (10, .int .i64 10), (11, .int .i64 18), (12, .slice (some ⟨b4, 0, none⟩) 4 4)]) (v := .agg ⟨[.int .i64 20, .int .i64 24, .int .i64 30, .int .i64 30, .int .i64 40, .int .i64 40, .int .i64 6, .int .i64 10, .int .i64 0, .int .i64 1, .int .i64 1, .int .i64 2, .int .i64 0, .int .i64 1, .int .i64 1, .int .i64 1, .int .i64 20, .int .i64 24, .int .i64 12, .int .i64 16, .int .i64 10, .int .i64 18, .slice (some ⟨b4, 0, none⟩) 4 4]⟩) ⟨(Ev.t 14 rfl), (Ev.t 13 rfl), (.const _), (.const _), (.const _), (.const _), (Ev.t 10 rfl), (Ev.t 7 rfl), (Ev.t 6 rfl), (Ev.t 5 rfl), (.const _), (.const _), (Ev.t 0 rfl), trivial⟩ rfl rfl rfl (fun _ => by kernel_rfl) fun _ _ hs17 => ?_); clear hs16
 refine sq rfl (st_store (l' := [.int .i64 20, .int .i64 24, .int .i64 30, .int .i64 30, .int .i64 40, .int .i64 40, .int .i64 6, .int .i64 10, .int .i64 0, .int .i64 1, .int .i64 1, .int .i64 2, .int .i64 0, .int .i64 1, .int .i64 1, .int .i64 1, .int .i64 20, .int .i64 24, .int .i64 12, .int .i64 16, .int .i64 10, .int .i64 18, .slice (some ⟨b4, 0, none⟩) 4 4]) (vs := [.int .i64 20, .int .i64 24, .int .i64 30, .int .i64 30, .int .i64 40, .int .i64 40, .int .i64 6, .int .i64 10, .int .i64 0, .int .i64 1, .int .i64 1, .int .i64 2, .int .i64 0, .int .i64 1, .int .i64 1, .int .i64 1, .int .i64 20, .int .i64 24, .int .i64 12, .int .i64 16, .int .i64 10, .int .i64 18, .slice (some ⟨b4, 0, none⟩) 4 4]) (i := 1) hs17 (Ev.t 16 rfl) (Ev.t 0 rfl) sizeOf27 rfl rfl rfl rfl rfl rfl fun _ _ hs18 => ?_); clear hs17
 have hs19 := hs18.asB [_, _] rfl; clear hs18
 refine hK3 _ _ ?_; clear hK3
 have hs20 := hs19.keep [16] [_] rfl; clear hs19
 exact cd_ret (vs := [.agg ⟨[.int .i64 20, .int .i64 24, .int .i64 30, .int .i64 30, .int .i64 40, .int .i64 40, .int .i64 6, .int .i64 10, .int .i64 0, .int .i64 1, .int .i64 1, .int .i64 2, .int .i64 0, .int .i64 1, .int .i64 1, .int .i64 1, .int .i64 20, .int .i64 24, .int .i64 12, .int .i64 16, .int .i64 10, .int .i64 18, .slice (some ⟨b4, 0, none⟩) 4 4]⟩]) (bs := [(b4, some (.cells ⟨eveC⟩ 66 (0, 0)))]) hs20 hQ0 rfl ⟨resA (o := 0) (off := 0) (vs := [.int .i64 20, .int .i64 24, .int .i64 30, .int .i64 30, .int .i64 40, .int .i64 40, .int .i64 6, .int .i64 10, .int .i64 0, .int .i64 1, .int .i64 1, .int .i64 2, .int .i64 0, .int .i64 1, .int .i64 1, .int .i64 1, .int .i64 20, .int .i64 24, .int .i64 12, .int .i64 16, .int .i64 10, .int .i64 18, .slice (some ⟨b4, 0, none⟩) 4 4]) 0 rfl isAgg27 sizeOf27 (hs20.cells 1 rfl) rfl, trivial⟩ (.cons_cons _ (List.nil_sublist _)) ⟨b4, rfl, rfl⟩

theorem walked_b  (w : World)  :
    CallsB Tryd.prog 46 [] w (fun v_ bs_ => ∃ b7, v_ = .slice (some ⟨b7, 0, none⟩) 4 4 ∧ bs_ = [(b7, some (.cells ⟨plan2C⟩ 64 (0, 0)))]) := by
 refine enter (N := 6) (M := []) w func46 rfl rfl rfl (fun Q0 a_0 hQ0 hN0 hs0 => ?_)
 refine cd_region fun K1 hK1 => ?_
 refine sq rfl (st_assign hs0 (.const _) rfl rfl fun _ _ hs1 => ?_); clear hs0
 refine hK1 _ _ ?_; clear hK1
 refine cd_region fun K2 hK2 => ?_
 refine sq rfl (st_build hs1 (qs := []) (v := .agg ⟨[.int .i64 0, .int .i64 0]⟩) trivial rfl rfl rfl (fun _ => by kernel_rfl) fun _ _ hs2 => ?_); clear hs1
 refine sq rfl (st_build hs2 (qs := [(0, .int .i64 2)]) (v := .agg ⟨[.int .i64 2, .int .i64 0]⟩) ⟨(.const _), trivial⟩ rfl rfl rfl (fun _ => by kernel_rfl) fun _ _ hs3 => ?_); clear hs2
 refine sq rfl (st_build hs3 (qs := [(0, .int .i64 1)]) (v := .agg ⟨[.int .i64 1, .int .i64 0]⟩) ⟨(.const _), trivial⟩ rfl rfl rfl (fun _ => by kernel_rfl) fun _ _ hs4 => ?_); clear hs3
 refine sq rfl (st_build hs4 (qs := [(0, .int .i64 2), (1, .int .i64 1)]) (v := .agg ⟨[.int .i64 2, .int .i64 1]⟩) ⟨(.const _), (.const _), trivial⟩ rfl rfl rfl (fun _ => by kernel_rfl) fun _ _ hs5 => ?_); clear hs4
 refine sq rfl (st_buildSlice hs5 (qs := [(0, .agg ⟨[.int .i64 0, .int .i64 0]⟩), (1, .agg ⟨[.int .i64 2, .int .i64 0]⟩), (2, .agg ⟨[.int .i64 1, .int .i64 0]⟩), (3, .agg ⟨[.int .i64 2, .int .i64 1]⟩)]) (e := 64) (l := [.int .i64 0, .int .i64 0, .int .i64 2, .int .i64 0, .int .i64 1, .int .i64 0, .int .i64 2, .int .i64 1]) ⟨(Ev.t 3 rfl), (Ev.t 2 rfl), (Ev.t 1 rfl), (Ev.t 0 rfl), trivial⟩ rfl rfl rfl (fun _ => by kernel_rfl) fun b3 _ _ hs6 => ?_); clear hs5
 have hs7 := hs6.keep [0, 1, 2, 3, 4] [_, _, _, _, _] rfl; clear hs6
 refine sq rfl (st_assign hs7 (Ev.t 0 rfl) rfl rfl fun _ _ hs8 => ?_); clear hs7
 refine hK2 _ _ ?_; clear hK2
 have hs9 := hs8.keep [0] [_] rfl; clear hs8
 exact cd_ret (vs := [.slice (some ⟨b3, 0, none⟩) 4 4]) (bs := [(b3, some (.cells ⟨plan2C⟩ 64 (0, 0)))]) hs9 hQ0 rfl ⟨.tmp 0 rfl, trivial⟩ (.cons_cons _ (List.nil_sublist _)) ⟨b3, rfl, rfl⟩

theorem less_b  (w : World)  :
    CallsB Tryd.prog 47 [] w (fun v_ bs_ => ∃ b7, v_ = .slice (some ⟨b7, 0, none⟩) 4 4 ∧ bs_ = [(b7, some (.cells ⟨plan1C⟩ 64 (0, 0)))]) := by
 refine enter (N := 6) (M := []) w func47 rfl rfl rfl (fun Q0 a_0 hQ0 hN0 hs0 => ?_)
 refine cd_region fun K1 hK1 => ?_
 refine sq rfl (st_assign hs0 (.const _) rfl rfl fun _ _ hs1 => ?_); clear hs0
 refine hK1 _ _ ?_; clear hK1
 refine cd_region fun K2 hK2 => ?_
 refine sq rfl (st_build hs1 (qs := []) (v := .agg ⟨[.int .i64 0, .int .i64 0]⟩) trivial rfl rfl rfl (fun _ => by kernel_rfl) fun _ _ hs2 => ?_); clear hs1
 refine sq rfl (st_build hs2 (qs := [(0, .int .i64 1)]) (v := .agg ⟨[.int .i64 1, .int .i64 0]⟩) ⟨(.const _), trivial⟩ rfl rfl rfl (fun _ => by kernel_rfl) fun _ _ hs3 => ?_); clear hs2
 refine sq rfl (st_build hs3 (qs := [(0, .int .i64 1)]) (v := .agg ⟨[.int .i64 1, .int .i64 0]⟩) ⟨(.const _), trivial⟩ rfl rfl rfl (fun _ => by kernel_rfl) fun _ _ hs4 => ?_); clear hs3
 refine sq rfl (st_build hs4 (qs := [(0, .int .i64 2), (1, .int .i64 1)]) (v := .agg ⟨[.int .i64 2, .int .i64 1]⟩) ⟨(.const _), (.const _), trivial⟩ rfl rfl rfl (fun _ => by kernel_rfl) fun _ _ hs5 => ?_); clear hs4
 refine sq rfl (st_buildSlice hs5 (qs := [(0, .agg ⟨[.int .i64 0, .int .i64 0]⟩), (1, .agg ⟨[.int .i64 1, .int .i64 0]⟩), (2, .agg ⟨[.int .i64 1, .int .i64 0]⟩), (3, .agg ⟨[.int .i64 2, .int .i64 1]⟩)]) (e := 64) (l := [.int .i64 0, .int .i64 0, .int .i64 1, .int .i64 0, .int .i64 1, .int .i64 0, .int .i64 2, .int .i64 1]) ⟨(Ev.t 3 rfl), (Ev.t 2 rfl), (Ev.t 1 rfl), (Ev.t 0 rfl), trivial⟩ rfl rfl rfl (fun _ => by kernel_rfl) fun b3 _ _ hs6 => ?_); clear hs5
 have hs7 := hs6.keep [0, 1, 2, 3, 4] [_, _, _, _, _] rfl; clear hs6
 refine sq rfl (st_assign hs7 (Ev.t 0 rfl) rfl rfl fun _ _ hs8 => ?_); clear hs7
 refine hK2 _ _ ?_; clear hK2
 have hs9 := hs8.keep [0] [_] rfl; clear hs8
 exact cd_ret (vs := [.slice (some ⟨b3, 0, none⟩) 4 4]) (bs := [(b3, some (.cells ⟨plan1C⟩ 64 (0, 0)))]) hs9 hQ0 rfl ⟨.tmp 0 rfl, trivial⟩ (.cons_cons _ (List.nil_sublist _)) ⟨b3, rfl, rfl⟩

theorem eveCurrent_v (bb : Nat) (w : World) (hc : CellsAt w bb 0 eveC) :
    CallsV Tryd.prog 14 [.agg ⟨bookL eve (some ⟨bb, 0, none⟩) 4 4⟩, .int .i64 9] w (.tuple ⟨[.agg ⟨[.int .i64 12, .int .i64 16]⟩, .int .i64 0]⟩) := by
  have h := Current_v eve _ 4 4 9 w (eve_at hc) (by decide)
  rw [eve_current] at h; exact h

theorem eveLeft_v (bb : Nat) (w : World) (hc : CellsAt w bb 0 eveC) (pb : Nat) (hp : CellsAt w pb 0 plan2C) (hG : CellsAt w 0 0 stuffsL) :
    CallsV Tryd.prog 18 [.agg ⟨bookL eve (some ⟨bb, 0, none⟩) 4 4⟩, .slice (some ⟨pb, 0, none⟩) 4 4, .int .i64 3] w (.tuple ⟨[.agg ⟨[.int .i64 0, .int .i64 32]⟩, .agg ⟨[.int .i64 10, .int .i64 22]⟩, .int .i64 0]⟩) := by
  have h := Left_v eve _ 4 4 _ 4 4 plan2 3 w (eve_at hc) (by decide) (plan2_at hp) (by decide) hG
  rw [eve_left] at h; exact h

theorem eveFails_v (bb : Nat) (w : World) (hc : CellsAt w bb 0 eveC) (pb : Nat) (hp : CellsAt w pb 0 plan1C) (hG : CellsAt w 0 0 stuffsL) :
    CallsV Tryd.prog 21 [.agg ⟨bookL eve (some ⟨bb, 0, none⟩) 4 4⟩, .slice (some ⟨pb, 0, none⟩) 4 4] w (.tuple ⟨[.int .i64 1, .int .i64 0]⟩) := by
  have h := Fails_v eve _ 4 4 _ 4 4 plan1 w (eve_at hc) (by decide) (plan1_at hp) (by decide) hG
  rw [eve_fails] at h; exact h

theorem eveParts_v (bb : Nat) (w : World) (hc : CellsAt w bb 0 eveC) (hG : CellsAt w 0 0 stuffsL) :
    CallsV Tryd.prog 26 [.agg ⟨bookL eve (some ⟨bb, 0, none⟩) 4 4⟩] w (.tuple ⟨[.int .i64 4, .int .i64 0]⟩) := by
  have h := Parts_v eve _ 4 4 w (eve_at hc) (by decide) hG (by decide)
  rw [eve_parts] at h; exact h

theorem eveLonger_v (bb : Nat) (w : World) (hc : CellsAt w bb 0 eveC) (hG : CellsAt w 0 0 stuffsL) :
    CallsV Tryd.prog 28 [.agg ⟨bookL eve (some ⟨bb, 0, none⟩) 4 4⟩, .int .i64 2] w (.tuple ⟨[.int .i64 4, .int .i64 0]⟩) := by
  have h := Longer_v eve _ 4 4 2 w (eve_at hc) (by decide) hG
  rw [eve_longer] at h; exact h

theorem eveCoal_v (bb : Nat) (w : World) (hc : CellsAt w bb 0 eveC) (hG : CellsAt w 0 0 stuffsL) :
    CallsV Tryd.prog 30 [.agg ⟨bookL eve (some ⟨bb, 0, none⟩) 4 4⟩] w (.tuple ⟨[.int .i64 18, .int .i64 0]⟩) := by
  have h := Coal_v eve _ 4 4 w (eve_at hc) (by decide) hG
  rw [eve_coal] at h; exact h

theorem evePlan_b (bb : Nat) (w : World) (hc : CellsAt w bb 0 eveC) (hG : CellsAt w 0 0 stuffsL) :
    CallsB Tryd.prog 23 [.agg ⟨bookL eve (some ⟨bb, 0, none⟩) 4 4⟩] w (fun v bs => ∃ A c b8 o8, v = .tuple ⟨[.slice A 4 c, .int .i64 0]⟩ ∧ Sx.Own walksL 2 64 A c plan2 b8 o8 ∧ bs = [(b8, o8)]) := by
  have h := Plan_b eve _ 4 4 w (eve_at hc) (by decide) hG
  rw [eve_plan] at h; exact h
theorem eveSame_v (A : Option Addr) (c : Nat) (pb : Nat) (w : World) (hp : CellsAt w pb 0 plan2C) (hL : PlanAt w A 4 plan2) :
    CallsV Tryd.prog 25 [.slice A 4 c, .slice (some ⟨pb, 0, none⟩) 4 4] w (.bool true) := by
  have h := samePlans_v A 4 c plan2 (some ⟨pb, 0, none⟩) 4 4 plan2 w hL (by decide) (plan2_at hp) (by decide)
  rw [eve_same] at h; exact h

theorem fired_v  (w : World) (hG : CellsAt w 0 0 stuffsL) :
    CallsV Tryd.prog 20 [] w (.bool true) := by
 refine enter (N := 112) (M := []) w func20 rfl rfl rfl (fun Q0 a_0 hQ0 hN0 hs0 => ?_)
 refine cd_region fun K1 hK1 => ?_
 refine sq rfl (st_assign hs0 (.const _) rfl rfl fun _ _ hs1 => ?_); clear hs0
 refine hK1 _ _ ?_; clear hK1
 refine cd_region fun K2 hK2 => ?_
 refine sq rfl (st_call (vs := []) hs1 (.func _) trivial rfl rfl call45 rfl (evening_b _) fun v4 bs5 a_2 w_2 hp2 hs2 => ?_); clear hs1
 obtain ⟨b3, rfl, rfl⟩ := hp2
 have hs3 := Sx.as (T' := [_, _]) (B' := [_]) rfl rfl hs2; clear hs2
 refine sq rfl (st_callv (vs := [.agg ⟨(bookL eve (some ⟨b3, 0, none⟩) 4 4)⟩, .int .i64 9]) hs3 (.func _) ⟨(Ev.t 0 rfl), (.const _), trivial⟩ rfl rfl call14 rfl (eveCurrent_v b3 _ (hs3.cells 0 rfl)) fun _ _ hs4 => ?_); clear hs3
 refine sq rfl (st_move hs4 (Ev.t 0 rfl) rfl rfl fun _ _ hs5 => ?_); clear hs4
 refine sq rfl (st_extract hs5 (Ev.t 0 rfl) rfl rfl rfl fun _ _ hs6 => ?_); clear hs5
 refine sq rfl (st_extract hs6 (Ev.t 1 rfl) rfl rfl rfl fun _ _ hs7 => ?_); clear hs6
 refine sq rfl (st_alloc hs7 rfl rfl zeroValue23 rfl fun b6 _ _ hs8 => ?_); clear hs7
 refine sq rfl (st_store (l' := [.int .i64 12, .int .i64 16]) (vs := [.int .i64 12, .int .i64 16]) (i := 0) hs8 (Ev.t 0 rfl) (Ev.t 2 rfl) sizeOf23 rfl rfl rfl rfl rfl rfl fun _ _ hs9 => ?_); clear hs8
 have hs10 := hs9.asB [_, _] rfl; clear hs9
 refine sq rfl (st_assign hs10 (Ev.t 1 rfl) rfl rfl fun _ _ hs11 => ?_); clear hs10
 refine hK2 _ _ ?_; clear hK2
 have hs12 := hs11.keep [0, 1, 7] [_, _, _] rfl; clear hs11
 refine cd_region fun K7 hK7 => ?_
 refine sq rfl (st_call (vs := []) hs12 (.func _) trivial rfl rfl call45 rfl (evening_b _) fun v9 bs10 a_13 w_13 hp13 hs13 => ?_); clear hs12
 obtain ⟨b8, rfl, rfl⟩ := hp13
 have hs14 := Sx.as (T' := [_, _, _, _]) (B' := [_, _, _]) rfl rfl hs13; clear hs13
 refine sq rfl (st_call (vs := []) hs14 (.func _) trivial rfl rfl call46 rfl (walked_b _) fun v12 bs13 a_15 w_15 hp15 hs15 => ?_); clear hs14
 obtain ⟨b11, rfl, rfl⟩ := hp15
 have hs16 := Sx.as (T' := [_, _, _, _, _]) (B' := [_, _, _, _]) rfl rfl hs15; clear hs15
 refine sq rfl (st_callv (vs := [.agg ⟨(bookL eve (some ⟨b8, 0, none⟩) 4 4)⟩, .slice (some ⟨b11, 0, none⟩) 4 4, .int .i64 3]) hs16 (.func _) ⟨(Ev.t 1 rfl), (Ev.t 0 rfl), (.const _), trivial⟩ rfl rfl call18 rfl (eveLeft_v b8 _ (hs16.cells 1 rfl) b11 (hs16.cells 0 rfl) (hG.kp hs16.kp (by simp))) fun _ _ hs17 => ?_); clear hs16
 refine sq rfl (st_move hs17 (Ev.t 0 rfl) rfl rfl fun _ _ hs18 => ?_); clear hs17
 refine sq rfl (st_extract hs18 (Ev.t 0 rfl) rfl rfl rfl fun _ _ hs19 => ?_); clear hs18
 refine sq rfl (st_extract hs19 (Ev.t 1 rfl) rfl rfl rfl fun _ _ hs20 => ?_); clear hs19
 refine sq rfl (st_extract hs20 (Ev.t 2 rfl) rfl rfl rfl fun _ _ hs21 => ?_); clear hs20
 refine sq rfl (st_alloc hs21 rfl rfl zeroValue23 rfl fun b14 _ _ hs22 => ?_); clear hs21
 refine sq rfl (st_alloc hs22 rfl rfl zeroValue23 rfl fun b15 _ _ hs23 => ?_); clear hs22
 refine sq rfl (st_store (l' := [.int .i64 0, .int .i64 32]) (vs := [.int .i64 0, .int .i64 32]) (i := 1) hs23 (Ev.t 1 rfl) (Ev.t 4 rfl) sizeOf23 rfl rfl rfl rfl rfl rfl fun _ _ hs24 => ?_); clear hs23
 have hs25 := hs24.asB [_, _, _, _, _, _] rfl; clear hs24
 refine sq rfl (st_store (l' := [.int .i64 10, .int .i64 22]) (vs := [.int .i64 10, .int .i64 22]) (i := 0) hs25 (Ev.t 0 rfl) (Ev.t 3 rfl) sizeOf23 rfl rfl rfl rfl rfl rfl fun _ _ hs26 => ?_); clear hs25
 have hs27 := hs26.asB [_, _, _, _, _, _] rfl; clear hs26
 refine sq rfl (st_assign hs27 (Ev.t 2 rfl) rfl rfl fun _ _ hs28 => ?_); clear hs27
 refine hK7 _ _ ?_; clear hK7
 have hs29 := hs28.keep [0, 1, 2, 10, 11, 12] [_, _, _, _, _, _] rfl; clear hs28
 refine cd_region fun K16 hK16 => ?_
 refine sq rfl (st_call (vs := []) hs29 (.func _) trivial rfl rfl call45 rfl (evening_b _) fun v18 bs19 a_30 w_30 hp30 hs30 => ?_); clear hs29
 obtain ⟨b17, rfl, rfl⟩ := hp30
 have hs31 := Sx.as (T' := [_, _, _, _, _, _, _]) (B' := [_, _, _, _, _, _, _]) rfl rfl hs30; clear hs30
 refine sq rfl (st_call (vs := []) hs31 (.func _) trivial rfl rfl call47 rfl (less_b _) fun v21 bs22 a_32 w_32 hp32 hs32 => ?_); clear hs31
 obtain ⟨b20, rfl, rfl⟩ := hp32
 have hs33 := Sx.as (T' := [_, _, _, _, _, _, _, _]) (B' := [_, _, _, _, _, _, _, _]) rfl rfl hs32; clear hs32
 refine sq rfl (st_callv (vs := [.agg ⟨(bookL eve (some ⟨b17, 0, none⟩) 4 4)⟩, .slice (some ⟨b20, 0, none⟩) 4 4]) hs33 (.func _) ⟨(Ev.t 1 rfl), (Ev.t 0 rfl), trivial⟩ rfl rfl call21 rfl (eveFails_v b17 _ (hs33.cells 1 rfl) b20 (hs33.cells 0 rfl) (hG.kp hs33.kp (by simp))) fun _ _ hs34 => ?_); clear hs33
 refine sq rfl (st_move hs34 (Ev.t 0 rfl) rfl rfl fun _ _ hs35 => ?_); clear hs34
 refine sq rfl (st_extract hs35 (Ev.t 0 rfl) rfl rfl rfl fun _ _ hs36 => ?_); clear hs35
 refine sq rfl (st_extract hs36 (Ev.t 1 rfl) rfl rfl rfl fun _ _ hs37 => ?_); clear hs36
 refine sq rfl (st_assign hs37 (Ev.t 1 rfl) rfl rfl fun _ _ hs38 => ?_); clear hs37
 refine sq rfl (st_assign hs38 (Ev.t 1 rfl) rfl rfl fun _ _ hs39 => ?_); clear hs38
 refine hK16 _ _ ?_; clear hK16
 have hs40 := hs39.keep [0, 1, 8, 9, 10, 11, 12, 13] [_, _, _, _, _, _, _, _] rfl; clear hs39
 refine cd_region fun K23 hK23 => ?_
 refine sq rfl (st_call (vs := []) hs40 (.func _) trivial rfl rfl call45 rfl (evening_b _) fun v25 bs26 a_41 w_41 hp41 hs41 => ?_); clear hs40
 obtain ⟨b24, rfl, rfl⟩ := hp41
 have hs42 := Sx.as (T' := [_, _, _, _, _, _, _, _, _]) (B' := [_, _, _, _, _, _, _, _, _]) rfl rfl hs41; clear hs41
 refine sq rfl (st_call (vs := [.agg ⟨(bookL eve (some ⟨b24, 0, none⟩) 4 4)⟩]) hs42 (.func _) ⟨(Ev.t 0 rfl), trivial⟩ rfl rfl call23 rfl (evePlan_b b24 _ (hs42.cells 0 rfl) (hG.kp hs42.kp (by simp))) fun v28 bs29 a_43 w_43 hp43 hs43 => ?_); clear hs42
 obtain ⟨A27, c27, b27, o27, rfl, hO27, rfl⟩ := hp43
 have hs44 := Sx.as (T' := [_, _, _, _, _, _, _, _, _, _]) (B' := [_, _, _, _, _, _, _, _, _, _]) rfl rfl hs43; clear hs43
 refine sq rfl (st_move hs44 (Ev.t 0 rfl) rfl rfl fun _ _ hs45 => ?_); clear hs44
 refine sq rfl (st_extract hs45 (Ev.t 0 rfl) rfl rfl rfl fun _ _ hs46 => ?_); clear hs45
 refine sq rfl (st_extract hs46 (Ev.t 1 rfl) rfl rfl rfl fun _ _ hs47 => ?_); clear hs46
 refine sq rfl (st_assign hs47 (Ev.t 1 rfl) rfl rfl fun _ _ hs48 => ?_); clear hs47
 refine sq rfl (st_assign hs48 (Ev.t 1 rfl) rfl rfl fun _ _ hs49 => ?_); clear hs48
 refine hK23 _ _ ?_; clear hK23
 have hs50 := hs49.keep [0, 1, 7, 8, 9, 10, 11, 12, 13, 14] [_, _, _, _, _, _, _, _, _, _] rfl; clear hs49
 refine cd_seq fun K30 hK30 => ?_
 refine cd_drawn mixed hs50 [⟨36, [], Is (.int .i64 0)⟩, ⟨37, [0], Is (.bool false)⟩, ⟨38, [1], Is (.bool false)⟩, ⟨39, [2], Is (.int .i64 0)⟩, ⟨40, [2, 3], Is (.bool false)⟩, ⟨41, [2, 4], Is (.bool false)⟩, ⟨42, [5], Is (.bool false)⟩, ⟨43, [6], Is (.int .i64 0)⟩, ⟨44, [6, 7], Is (.bool false)⟩, ⟨45, [6, 8], Is (.bool false)⟩, ⟨46, [9], Is (.bool false)⟩, ⟨47, [10], Is (.int .i64 0)⟩, ⟨48, [10, 11], Is (.bool false)⟩, ⟨49, [10, 12], Is (.bool false)⟩, ⟨50, [13], Is (.bool false)⟩, ⟨51, [14], Is (.agg ⟨[.int .i64 12, .int .i64 16]⟩)⟩, ⟨52, [14], Is (.agg ⟨[.int .i64 12, .int .i64 16]⟩)⟩, ⟨53, [14, 15, 16], Is (.bool false)⟩, ⟨54, [14, 17], Is (.bool false)⟩, ⟨55, [18], Is (.bool false)⟩, ⟨56, [19], Is (.agg ⟨[.int .i64 0, .int .i64 32]⟩)⟩, ⟨57, [19], Is (.agg ⟨[.int .i64 0, .int .i64 32]⟩)⟩, ⟨58, [19, 20, 21], Is (.bool false)⟩, ⟨59, [19, 22], Is (.bool false)⟩, ⟨60, [23], Is (.bool false)⟩, ⟨61, [24], Is (.agg ⟨[.int .i64 10, .int .i64 22]⟩)⟩, ⟨62, [24], Is (.agg ⟨[.int .i64 10, .int .i64 22]⟩)⟩, ⟨63, [24, 25, 26], Is (.bool false)⟩, ⟨64, [24, 27], Is (.bool false)⟩, ⟨65, [28], Is (.bool false)⟩, ⟨66, [29], Is (.int .i64 1)⟩, ⟨67, [29, 30], Is (.bool false)⟩, ⟨68, [29, 31], Is (.bool false)⟩, ⟨69, [32], Is (.bool false)⟩, ⟨70, [33], Is (.slice A27 4 c27)⟩, ⟨71, [33], fun v_ bs_ => ∃ b32, v_ = .slice (some ⟨b32, 0, none⟩) 4 4 ∧ bs_ = [(b32, some (.cells ⟨plan2C⟩ 64 (0, 0)))]⟩, ⟨72, [33, 34, 35], Is (.bool true)⟩, ⟨73, [33, 36], Is (.bool false)⟩, ⟨74, [33, 37], Is (.bool false)⟩] (by kernel_rfl) (by kernel_rfl) fun K31 hK31 => ⟨⟨?_, ?_, ?_, ?_, ?_, ?_, ?_, ?_, ?_, ?_, ?_, ?_, ?_, ?_, ?_, ?_, ?_, ?_, ?_, ?_, ?_, ?_, ?_, ?_, ?_, ?_, ?_, ?_, ?_, ?_, ?_, ?_, ?_, ?_, ?_, ?_, ?_, ?_, ?_, trivial⟩, ?_⟩
 · rintro T_ B_ a_ w_ K_ hT hB hf hsD hk
   exact ob rfl rfl (st_move hsD (evT hT 7 rfl) rfl hf fun _ _ => hk _ _ _ _ ⟨rfl, rfl⟩)
 · rintro T_ B_ a_ w_ K_ hT hB _ _ ⟨rfl, rfl⟩ h36 - hf hsD hk
   exact ob rfl rfl (st_cmp (c := false) hsD (Ev.tmp h36) (.const _) rfl hf rfl rfl fun _ _ => hk _ _ _ _ ⟨rfl, rfl⟩)
 · rintro T_ B_ a_ w_ K_ hT hB _ _ ⟨rfl, rfl⟩ h37 - hf hsD hk
   exact ob rfl rfl (st_move hsD (Ev.tmp h37) rfl hf fun _ _ => hk _ _ _ _ ⟨rfl, rfl⟩)
 · rintro T_ B_ a_ w_ K_ hT hB _ _ ⟨rfl, rfl⟩ h38 - hf hsD hk
   exact ob_gv hsD (gg := true) (v := .int .i64 0) rfl rfl rfl h38 rfl rfl rfl hf (fun _ K1 hK1 => st_move hsD (evT hT 4 rfl) rfl hf hK1) fun _ _ => hk _ _ _ _ ⟨rfl, rfl⟩
 · rintro T_ B_ a_ w_ K_ hT hB _ _ ⟨rfl, rfl⟩ h38 - _ _ ⟨rfl, rfl⟩ h39 - hf hsD hk
   exact ob_gv hsD (gg := true) (v := .bool false) rfl rfl rfl h38 rfl rfl rfl hf (fun _ K1 hK1 => st_cmp (c := false) hsD (Ev.tmp h39) (.const _) rfl hf rfl rfl hK1) fun _ _ => hk _ _ _ _ ⟨rfl, rfl⟩
 · rintro T_ B_ a_ w_ K_ hT hB _ _ ⟨rfl, rfl⟩ h38 - _ _ ⟨rfl, rfl⟩ h40 - hf hsD hk
   exact ob rfl rfl (st_pick hsD (Ev.tmp h38) rfl hf (fun h => by cases h) (fun h => (Ev.tmp h40)) fun _ _ => hk _ _ _ _ ⟨rfl, rfl⟩)
 · rintro T_ B_ a_ w_ K_ hT hB _ _ ⟨rfl, rfl⟩ h41 - hf hsD hk
   exact ob rfl rfl (st_move hsD (Ev.tmp h41) rfl hf fun _ _ => hk _ _ _ _ ⟨rfl, rfl⟩)
 · rintro T_ B_ a_ w_ K_ hT hB _ _ ⟨rfl, rfl⟩ h42 - hf hsD hk
   exact ob_gv hsD (gg := true) (v := .int .i64 0) rfl rfl rfl h42 rfl rfl rfl hf (fun _ K1 hK1 => st_move hsD (evT hT 2 rfl) rfl hf hK1) fun _ _ => hk _ _ _ _ ⟨rfl, rfl⟩
 · rintro T_ B_ a_ w_ K_ hT hB _ _ ⟨rfl, rfl⟩ h42 - _ _ ⟨rfl, rfl⟩ h43 - hf hsD hk
   exact ob_gv hsD (gg := true) (v := .bool false) rfl rfl rfl h42 rfl rfl rfl hf (fun _ K1 hK1 => st_cmp (c := false) hsD (Ev.tmp h43) (.const _) rfl hf rfl rfl hK1) fun _ _ => hk _ _ _ _ ⟨rfl, rfl⟩
 · rintro T_ B_ a_ w_ K_ hT hB _ _ ⟨rfl, rfl⟩ h42 - _ _ ⟨rfl, rfl⟩ h44 - hf hsD hk
   exact ob rfl rfl (st_pick hsD (Ev.tmp h42) rfl hf (fun h => by cases h) (fun h => (Ev.tmp h44)) fun _ _ => hk _ _ _ _ ⟨rfl, rfl⟩)
 · rintro T_ B_ a_ w_ K_ hT hB _ _ ⟨rfl, rfl⟩ h45 - hf hsD hk
   exact ob rfl rfl (st_move hsD (Ev.tmp h45) rfl hf fun _ _ => hk _ _ _ _ ⟨rfl, rfl⟩)
 · rintro T_ B_ a_ w_ K_ hT hB _ _ ⟨rfl, rfl⟩ h46 - hf hsD hk
   exact ob_gv hsD (gg := true) (v := .int .i64 0) rfl rfl rfl h46 rfl rfl rfl hf (fun _ K1 hK1 => st_move hsD (evT hT 0 rfl) rfl hf hK1) fun _ _ => hk _ _ _ _ ⟨rfl, rfl⟩
 · rintro T_ B_ a_ w_ K_ hT hB _ _ ⟨rfl, rfl⟩ h46 - _ _ ⟨rfl, rfl⟩ h47 - hf hsD hk
   exact ob_gv hsD (gg := true) (v := .bool false) rfl rfl rfl h46 rfl rfl rfl hf (fun _ K1 hK1 => st_cmp (c := false) hsD (Ev.tmp h47) (.const _) rfl hf rfl rfl hK1) fun _ _ => hk _ _ _ _ ⟨rfl, rfl⟩
 · rintro T_ B_ a_ w_ K_ hT hB _ _ ⟨rfl, rfl⟩ h46 - _ _ ⟨rfl, rfl⟩ h48 - hf hsD hk
   exact ob rfl rfl (st_pick hsD (Ev.tmp h46) rfl hf (fun h => by cases h) (fun h => (Ev.tmp h48)) fun _ _ => hk _ _ _ _ ⟨rfl, rfl⟩)
 · rintro T_ B_ a_ w_ K_ hT hB _ _ ⟨rfl, rfl⟩ h49 - hf hsD hk
   exact ob rfl rfl (st_move hsD (Ev.tmp h49) rfl hf fun _ _ => hk _ _ _ _ ⟨rfl, rfl⟩)
 · rintro T_ B_ a_ w_ K_ hT hB _ _ ⟨rfl, rfl⟩ h50 - hf hsD hk
   exact ob_gv hsD (gg := true) (v := .agg ⟨[.int .i64 12, .int .i64 16]⟩) rfl rfl rfl h50 rfl rfl rfl hf (fun _ K1 hK1 => st_loadA (o := 0) (off := 0) (vs := [.int .i64 12, .int .i64 16]) hsD (evT hT 8 rfl) rfl hf isAgg23 sizeOf23 (hsD.cellsM (inB hB 8 rfl)) rfl hK1) fun _ _ => hk _ _ _ _ ⟨rfl, rfl⟩
 · rintro T_ B_ a_ w_ K_ hT hB _ _ ⟨rfl, rfl⟩ h50 - hf hsD hk
   exact ob_gv hsD (gg := true) (v := .agg ⟨[.int .i64 12, .int .i64 16]⟩) rfl rfl rfl h50 rfl rfl rfl hf (fun _ K1 hK1 => st_callv (vs := [.int .i64 12, .int .i64 16]) hsD (.func _) ⟨(.const _), (.const _), trivial⟩ rfl hf call40 rfl (S_v 12 16 _) hK1) fun _ _ => hk _ _ _ _ ⟨rfl, rfl⟩
 · rintro T_ B_ a_ w_ K_ hT hB _ _ ⟨rfl, rfl⟩ h50 - _ _ ⟨rfl, rfl⟩ h51 - _ _ ⟨rfl, rfl⟩ h52 - hf hsD hk
   exact ob_gv hsD (gg := true) (v := .bool false) rfl rfl rfl h50 rfl rfl rfl hf (fun _ K1 hK1 => st_bin (z := .bool false) hsD (Ev.tmp h51) (Ev.tmp h52) (run_neq_23 _ _ 12 16 12 16) rfl hf hK1) fun _ _ => hk _ _ _ _ ⟨rfl, rfl⟩
 · rintro T_ B_ a_ w_ K_ hT hB _ _ ⟨rfl, rfl⟩ h50 - _ _ ⟨rfl, rfl⟩ h53 - hf hsD hk
   exact ob rfl rfl (st_pick hsD (Ev.tmp h50) rfl hf (fun h => by cases h) (fun h => (Ev.tmp h53)) fun _ _ => hk _ _ _ _ ⟨rfl, rfl⟩)
 · rintro T_ B_ a_ w_ K_ hT hB _ _ ⟨rfl, rfl⟩ h54 - hf hsD hk
   exact ob rfl rfl (st_move hsD (Ev.tmp h54) rfl hf fun _ _ => hk _ _ _ _ ⟨rfl, rfl⟩)
 · rintro T_ B_ a_ w_ K_ hT hB _ _ ⟨rfl, rfl⟩ h55 - hf hsD hk
   exact ob_gv hsD (gg := true) (v := .agg ⟨[.int .i64 0, .int .i64 32]⟩) rfl rfl rfl h55 rfl rfl rfl hf (fun _ K1 hK1 => st_loadA (o := 0) (off := 0) (vs := [.int .i64 0, .int .i64 32]) hsD (evT hT 6 rfl) rfl hf isAgg23 sizeOf23 (hsD.cellsM (inB hB 5 rfl)) rfl hK1) fun _ _ => hk _ _ _ _ ⟨rfl, rfl⟩
 · rintro T_ B_ a_ w_ K_ hT hB _ _ ⟨rfl, rfl⟩ h55 - hf hsD hk
   exact ob_gv hsD (gg := true) (v := .agg ⟨[.int .i64 0, .int .i64 32]⟩) rfl rfl rfl h55 rfl rfl rfl hf (fun _ K1 hK1 => st_callv (vs := [.int .i64 0, .int .i64 32]) hsD (.func _) ⟨(.const _), (.const _), trivial⟩ rfl hf call40 rfl (S_v 0 32 _) hK1) fun _ _ => hk _ _ _ _ ⟨rfl, rfl⟩
 · rintro T_ B_ a_ w_ K_ hT hB _ _ ⟨rfl, rfl⟩ h55 - _ _ ⟨rfl, rfl⟩ h56 - _ _ ⟨rfl, rfl⟩ h57 - hf hsD hk
   exact ob_gv hsD (gg := true) (v := .bool false) rfl rfl rfl h55 rfl rfl rfl hf (fun _ K1 hK1 => st_bin (z := .bool false) hsD (Ev.tmp h56) (Ev.tmp h57) (run_neq_23 _ _ 0 32 0 32) rfl hf hK1) fun _ _ => hk _ _ _ _ ⟨rfl, rfl⟩
 · rintro T_ B_ a_ w_ K_ hT hB _ _ ⟨rfl, rfl⟩ h55 - _ _ ⟨rfl, rfl⟩ h58 - hf hsD hk
   exact ob rfl rfl (st_pick hsD (Ev.tmp h55) rfl hf (fun h => by cases h) (fun h => (Ev.tmp h58)) fun _ _ => hk _ _ _ _ ⟨rfl, rfl⟩)
 · rintro T_ B_ a_ w_ K_ hT hB _ _ ⟨rfl, rfl⟩ h59 - hf hsD hk
   exact ob rfl rfl (st_move hsD (Ev.tmp h59) rfl hf fun _ _ => hk _ _ _ _ ⟨rfl, rfl⟩)
 · rintro T_ B_ a_ w_ K_ hT hB _ _ ⟨rfl, rfl⟩ h60 - hf hsD hk
   exact ob_gv hsD (gg := true) (v := .agg ⟨[.int .i64 10, .int .i64 22]⟩) rfl rfl rfl h60 rfl rfl rfl hf (fun _ K1 hK1 => st_loadA (o := 0) (off := 0) (vs := [.int .i64 10, .int .i64 22]) hsD (evT hT 5 rfl) rfl hf isAgg23 sizeOf23 (hsD.cellsM (inB hB 4 rfl)) rfl hK1) fun _ _ => hk _ _ _ _ ⟨rfl, rfl⟩
 · rintro T_ B_ a_ w_ K_ hT hB _ _ ⟨rfl, rfl⟩ h60 - hf hsD hk
   exact ob_gv hsD (gg := true) (v := .agg ⟨[.int .i64 10, .int .i64 22]⟩) rfl rfl rfl h60 rfl rfl rfl hf (fun _ K1 hK1 => st_callv (vs := [.int .i64 10, .int .i64 22]) hsD (.func _) ⟨(.const _), (.const _), trivial⟩ rfl hf call40 rfl (S_v 10 22 _) hK1) fun _ _ => hk _ _ _ _ ⟨rfl, rfl⟩
 · rintro T_ B_ a_ w_ K_ hT hB _ _ ⟨rfl, rfl⟩ h60 - _ _ ⟨rfl, rfl⟩ h61 - _ _ ⟨rfl, rfl⟩ h62 - hf hsD hk
   exact ob_gv hsD (gg := true) (v := .bool false) rfl rfl rfl h60 rfl rfl rfl hf (fun _ K1 hK1 => st_bin (z := .bool false) hsD (Ev.tmp h61) (Ev.tmp h62) (run_neq_23 _ _ 10 22 10 22) rfl hf hK1) fun _ _ => hk _ _ _ _ ⟨rfl, rfl⟩
 · rintro T_ B_ a_ w_ K_ hT hB _ _ ⟨rfl, rfl⟩ h60 - _ _ ⟨rfl, rfl⟩ h63 - hf hsD hk
   exact ob rfl rfl (st_pick hsD (Ev.tmp h60) rfl hf (fun h => by cases h) (fun h => (Ev.tmp h63)) fun _ _ => hk _ _ _ _ ⟨rfl, rfl⟩)
 · rintro T_ B_ a_ w_ K_ hT hB _ _ ⟨rfl, rfl⟩ h64 - hf hsD hk
   exact ob rfl rfl (st_move hsD (Ev.tmp h64) rfl hf fun _ _ => hk _ _ _ _ ⟨rfl, rfl⟩)
 · rintro T_ B_ a_ w_ K_ hT hB _ _ ⟨rfl, rfl⟩ h65 - hf hsD hk
   exact ob_gv hsD (gg := true) (v := .int .i64 1) rfl rfl rfl h65 rfl rfl rfl hf (fun _ K1 hK1 => st_move hsD (evT hT 3 rfl) rfl hf hK1) fun _ _ => hk _ _ _ _ ⟨rfl, rfl⟩
 · rintro T_ B_ a_ w_ K_ hT hB _ _ ⟨rfl, rfl⟩ h65 - _ _ ⟨rfl, rfl⟩ h66 - hf hsD hk
   exact ob_gv hsD (gg := true) (v := .bool false) rfl rfl rfl h65 rfl rfl rfl hf (fun _ K1 hK1 => st_cmp (c := false) hsD (Ev.tmp h66) (.const _) rfl hf rfl rfl hK1) fun _ _ => hk _ _ _ _ ⟨rfl, rfl⟩
 · rintro T_ B_ a_ w_ K_ hT hB _ _ ⟨rfl, rfl⟩ h65 - _ _ ⟨rfl, rfl⟩ h67 - hf hsD hk
   exact ob rfl rfl (st_pick hsD (Ev.tmp h65) rfl hf (fun h => by cases h) (fun h => (Ev.tmp h67)) fun _ _ => hk _ _ _ _ ⟨rfl, rfl⟩)
 · rintro T_ B_ a_ w_ K_ hT hB _ _ ⟨rfl, rfl⟩ h68 - hf hsD hk
   exact ob rfl rfl (st_move hsD (Ev.tmp h68) rfl hf fun _ _ => hk _ _ _ _ ⟨rfl, rfl⟩)
 · rintro T_ B_ a_ w_ K_ hT hB _ _ ⟨rfl, rfl⟩ h69 - hf hsD hk
   exact ob_gv hsD (gg := true) (v := .slice A27 4 c27) rfl rfl rfl h69 rfl rfl rfl hf (fun _ K1 hK1 => st_move hsD (evT hT 1 rfl) rfl hf hK1) fun _ _ => hk _ _ _ _ ⟨rfl, rfl⟩
 · rintro T_ B_ a_ w_ K_ hT hB _ _ ⟨rfl, rfl⟩ h69 - hf hsD hk
   exact ob_on hsD rfl rfl rfl h69 rfl (st_call (vs := []) hsD (.func _) trivial rfl hf call46 rfl (walked_b _) fun _ _ _ _ => hk _ _ _ _)
 · rintro T_ B_ a_ w_ K_ hT hB _ _ ⟨rfl, rfl⟩ h69 - _ _ ⟨rfl, rfl⟩ h70 - _ _ ⟨b32, rfl, rfl⟩ h71 hB71 hf hsD hk
   exact ob_gv hsD (gg := true) (v := .bool true) rfl rfl rfl h69 rfl rfl rfl hf (fun _ K1 hK1 => st_callv (vs := [.slice A27 4 c27, .slice (some ⟨b32, 0, none⟩) 4 4]) hsD (.func _) ⟨(Ev.tmp h70), (Ev.tmp h71), trivial⟩ rfl hf call25 rfl (eveSame_v A27 c27 b32 _ (hsD.cellsM (hB71 _ List.mem_cons_self)) (hO27.atMem hsD (fun _ => hB _ (mem_nth (i := 0) rfl)))) hK1) fun _ _ => hk _ _ _ _ ⟨rfl, rfl⟩
 · rintro T_ B_ a_ w_ K_ hT hB _ _ ⟨rfl, rfl⟩ h69 - _ _ ⟨rfl, rfl⟩ h72 - hf hsD hk
   exact ob_gv hsD (gg := true) (v := .bool false) rfl rfl rfl h69 rfl rfl rfl hf (fun _ K1 hK1 => st_not hsD (Ev.tmp h72) rfl hf hK1) fun _ _ => hk _ _ _ _ ⟨rfl, rfl⟩
 · rintro T_ B_ a_ w_ K_ hT hB _ _ ⟨rfl, rfl⟩ h69 - _ _ ⟨rfl, rfl⟩ h73 - hf hsD hk
   exact ob rfl rfl (st_pick hsD (Ev.tmp h69) rfl hf (fun h => by cases h) (fun h => (Ev.tmp h73)) fun _ _ => hk _ _ _ _ ⟨rfl, rfl⟩)
 rintro _ _ ⟨rfl, rfl⟩ _ _ ⟨rfl, rfl⟩ _ _ ⟨rfl, rfl⟩ _ _ ⟨rfl, rfl⟩ _ _ ⟨rfl, rfl⟩ _ _ ⟨rfl, rfl⟩ _ _ ⟨rfl, rfl⟩ _ _ ⟨rfl, rfl⟩ _ _ ⟨rfl, rfl⟩ _ _ ⟨rfl, rfl⟩ _ _ ⟨rfl, rfl⟩ _ _ ⟨rfl, rfl⟩ _ _ ⟨rfl, rfl⟩ _ _ ⟨rfl, rfl⟩ _ _ ⟨rfl, rfl⟩ _ _ ⟨rfl, rfl⟩ _ _ ⟨rfl, rfl⟩ _ _ ⟨rfl, rfl⟩ _ _ ⟨rfl, rfl⟩ _ _ ⟨rfl, rfl⟩ _ _ ⟨rfl, rfl⟩ _ _ ⟨rfl, rfl⟩ _ _ ⟨rfl, rfl⟩ _ _ ⟨rfl, rfl⟩ _ _ ⟨rfl, rfl⟩ _ _ ⟨rfl, rfl⟩ _ _ ⟨rfl, rfl⟩ _ _ ⟨rfl, rfl⟩ _ _ ⟨rfl, rfl⟩ _ _ ⟨rfl, rfl⟩ _ _ ⟨rfl, rfl⟩ _ _ ⟨rfl, rfl⟩ _ _ ⟨rfl, rfl⟩ _ _ ⟨rfl, rfl⟩ _ _ ⟨rfl, rfl⟩ _ _ ⟨b32, rfl, rfl⟩ _ _ ⟨rfl, rfl⟩ _ _ ⟨rfl, rfl⟩ _ _ ⟨rfl, rfl⟩ a_51 w_51 hs51; clear hs50
 have hs52 := Sx.as (T' := [_, _, _, _, _, _, _, _, _, _, _, _, _, _, _, _, _, _, _, _, _, _, _, _, _, _, _, _, _, _, _, _, _, _, _, _, _, _, _, _, _, _, _, _, _, _, _, _, _]) (B' := [_, _, _, _, _, _, _, _, _, _, _]) rfl rfl hs51; clear hs51
 refine hK31 _ _ ?_; clear hK31
 have hs53 := hs52.keep [38, 48] [_, _] rfl; clear hs52
 have hc33 : false = false := rfl
 refine cd_cond hs53 (Ev.t 0 rfl) (fun h => absurd (hc33.symm.trans h) (by decide)) (fun _ => ?_)
 refine cd_skip ?_
 refine th_norm (hK30 _ _ ?_)
 refine cd_region fun K34 hK34 => ?_
 refine sq rfl (st_call (vs := []) hs53 (.func _) trivial rfl rfl call45 rfl (evening_b _) fun v36 bs37 a_54 w_54 hp54 hs54 => ?_); clear hs53
 obtain ⟨b35, rfl, rfl⟩ := hp54
 have hs55 := Sx.as (T' := [_, _, _]) (B' := [_, _, _, _, _, _, _, _, _, _, _, _]) rfl rfl hs54; clear hs54
 refine sq rfl (st_callv (vs := [.agg ⟨(bookL eve (some ⟨b35, 0, none⟩) 4 4)⟩]) hs55 (.func _) ⟨(Ev.t 0 rfl), trivial⟩ rfl rfl call26 rfl (eveParts_v b35 _ (hs55.cells 0 rfl) (hG.kp hs55.kp (by simp))) fun _ _ hs56 => ?_); clear hs55
 refine sq rfl (st_move hs56 (Ev.t 0 rfl) rfl rfl fun _ _ hs57 => ?_); clear hs56
 refine sq rfl (st_extract hs57 (Ev.t 0 rfl) rfl rfl rfl fun _ _ hs58 => ?_); clear hs57
 refine sq rfl (st_extract hs58 (Ev.t 1 rfl) rfl rfl rfl fun _ _ hs59 => ?_); clear hs58
 refine sq rfl (st_assign hs59 (Ev.t 1 rfl) rfl rfl fun _ _ hs60 => ?_); clear hs59
 refine sq rfl (st_assign hs60 (Ev.t 1 rfl) rfl rfl fun _ _ hs61 => ?_); clear hs60
 refine hK34 _ _ ?_; clear hK34
 have hs62 := hs61.keep [0, 1, 8] [_, _, _] rfl; clear hs61
 refine cd_region fun K38 hK38 => ?_
 refine sq rfl (st_call (vs := []) hs62 (.func _) trivial rfl rfl call45 rfl (evening_b _) fun v40 bs41 a_63 w_63 hp63 hs63 => ?_); clear hs62
 obtain ⟨b39, rfl, rfl⟩ := hp63
 have hs64 := Sx.as (T' := [_, _, _, _]) (B' := [_, _, _, _, _, _, _, _, _, _, _, _, _]) rfl rfl hs63; clear hs63
 refine sq rfl (st_callv (vs := [.agg ⟨(bookL eve (some ⟨b39, 0, none⟩) 4 4)⟩, .int .i64 2]) hs64 (.func _) ⟨(Ev.t 0 rfl), (.const _), trivial⟩ rfl rfl call28 rfl (eveLonger_v b39 _ (hs64.cells 0 rfl) (hG.kp hs64.kp (by simp))) fun _ _ hs65 => ?_); clear hs64
 refine sq rfl (st_move hs65 (Ev.t 0 rfl) rfl rfl fun _ _ hs66 => ?_); clear hs65
 refine sq rfl (st_extract hs66 (Ev.t 0 rfl) rfl rfl rfl fun _ _ hs67 => ?_); clear hs66
 refine sq rfl (st_extract hs67 (Ev.t 1 rfl) rfl rfl rfl fun _ _ hs68 => ?_); clear hs67
 refine sq rfl (st_assign hs68 (Ev.t 1 rfl) rfl rfl fun _ _ hs69 => ?_); clear hs68
 refine sq rfl (st_assign hs69 (Ev.t 1 rfl) rfl rfl fun _ _ hs70 => ?_); clear hs69
 refine hK38 _ _ ?_; clear hK38
 have hs71 := hs70.keep [0, 1, 7, 8, 9] [_, _, _, _, _] rfl; clear hs70
 refine cd_region fun K42 hK42 => ?_
 refine sq rfl (st_call (vs := []) hs71 (.func _) trivial rfl rfl call45 rfl (evening_b _) fun v44 bs45 a_72 w_72 hp72 hs72 => ?_); clear hs71
 obtain ⟨b43, rfl, rfl⟩ := hp72
 have hs73 := Sx.as (T' := [_, _, _, _, _, _]) (B' := [_, _, _, _, _, _, _, _, _, _, _, _, _, _]) rfl rfl hs72; clear hs72
 refine sq rfl (st_callv (vs := [.agg ⟨(bookL eve (some ⟨b43, 0, none⟩) 4 4)⟩]) hs73 (.func _) ⟨(Ev.t 0 rfl), trivial⟩ rfl rfl call30 rfl (eveCoal_v b43 _ (hs73.cells 0 rfl) (hG.kp hs73.kp (by simp))) fun _ _ hs74 => ?_); clear hs73
 refine sq rfl (st_move hs74 (Ev.t 0 rfl) rfl rfl fun _ _ hs75 => ?_); clear hs74
 refine sq rfl (st_extract hs75 (Ev.t 0 rfl) rfl rfl rfl fun _ _ hs76 => ?_); clear hs75
 refine sq rfl (st_extract hs76 (Ev.t 1 rfl) rfl rfl rfl fun _ _ hs77 => ?_); clear hs76
 refine sq rfl (st_assign hs77 (Ev.t 1 rfl) rfl rfl fun _ _ hs78 => ?_); clear hs77
 refine sq rfl (st_assign hs78 (Ev.t 1 rfl) rfl rfl fun _ _ hs79 => ?_); clear hs78
 refine hK42 _ _ ?_; clear hK42
 have hs80 := hs79.keep [0, 1, 7, 8, 9, 10, 11] [_, _, _, _, _, _, _] rfl; clear hs79
 refine cd_region fun K46 hK46 => ?_
 refine sq rfl (st_move hs80 (Ev.t 4 rfl) rfl rfl fun _ _ hs81 => ?_); clear hs80
 refine sq rfl (st_cmp (c := true) hs81 (Ev.t 0 rfl) (.const _) rfl rfl rfl rfl fun _ _ hs82 => ?_); clear hs81
 refine sq rfl (st_move hs82 (Ev.t 0 rfl) rfl rfl fun _ _ hs83 => ?_); clear hs82
 refine sq_on hs83 rfl rfl 0 rfl rfl (st_move hs83 (Ev.t 5 rfl) rfl rfl fun _ _ hs84 => ?_); clear hs83
 refine sq_on hs84 rfl rfl 1 rfl rfl (st_cmp (c := true) hs84 (Ev.t 0 rfl) (.const _) rfl rfl rfl rfl fun _ _ hs85 => ?_); clear hs84
 refine sq rfl (st_pick hs85 (Ev.t 2 rfl) rfl rfl (fun h => (Ev.t 0 rfl)) (fun h => by cases h) fun _ _ hs86 => ?_); clear hs85
 refine sq rfl (st_move hs86 (Ev.t 0 rfl) rfl rfl fun _ _ hs87 => ?_); clear hs86
 refine sq_on hs87 rfl rfl 0 rfl rfl (st_move hs87 (Ev.t 7 rfl) rfl rfl fun _ _ hs88 => ?_); clear hs87
 refine sq_on hs88 rfl rfl 1 rfl rfl (st_cmp (c := true) hs88 (Ev.t 0 rfl) (.const _) rfl rfl rfl rfl fun _ _ hs89 => ?_); clear hs88
 refine sq rfl (st_pick hs89 (Ev.t 2 rfl) rfl rfl (fun h => (Ev.t 0 rfl)) (fun h => by cases h) fun _ _ hs90 => ?_); clear hs89
 refine sq rfl (st_move hs90 (Ev.t 0 rfl) rfl rfl fun _ _ hs91 => ?_); clear hs90
 refine sq_on hs91 rfl rfl 0 rfl rfl (st_move hs91 (Ev.t 16 rfl) rfl rfl fun _ _ hs92 => ?_); clear hs91
 refine sq_on hs92 rfl rfl 1 rfl rfl (st_cmp (c := true) hs92 (Ev.t 0 rfl) (.const _) rfl rfl rfl rfl fun _ _ hs93 => ?_); clear hs92
 refine sq rfl (st_pick hs93 (Ev.t 2 rfl) rfl rfl (fun h => (Ev.t 0 rfl)) (fun h => by cases h) fun _ _ hs94 => ?_); clear hs93
 refine sq rfl (st_move hs94 (Ev.t 0 rfl) rfl rfl fun _ _ hs95 => ?_); clear hs94
 refine sq_on hs95 rfl rfl 0 rfl rfl (st_move hs95 (Ev.t 18 rfl) rfl rfl fun _ _ hs96 => ?_); clear hs95
 refine sq_on hs96 rfl rfl 1 rfl rfl (st_cmp (c := true) hs96 (Ev.t 0 rfl) (.const _) rfl rfl rfl rfl fun _ _ hs97 => ?_); clear hs96
 refine sq rfl (st_pick hs97 (Ev.t 2 rfl) rfl rfl (fun h => (Ev.t 0 rfl)) (fun h => by cases h) fun _ _ hs98 => ?_); clear hs97
 refine sq rfl (st_move hs98 (Ev.t 0 rfl) rfl rfl fun _ _ hs99 => ?_); clear hs98
 refine sq_on hs99 rfl rfl 0 rfl rfl (st_move hs99 (Ev.t 20 rfl) rfl rfl fun _ _ hs100 => ?_); clear hs99
 refine sq_on hs100 rfl rfl 1 rfl rfl (st_cmp (c := true) hs100 (Ev.t 0 rfl) (.const _) rfl rfl rfl rfl fun _ _ hs101 => ?_); clear hs100
 refine sq rfl (st_pick hs101 (Ev.t 2 rfl) rfl rfl (fun h => (Ev.t 0 rfl)) (fun h => by cases h) fun _ _ hs102 => ?_); clear hs101
 have hs103 := hs102.keep [0, 1, 2, 3, 4, 5, 6, 7, 8, 9, 10, 11, 12, 13, 14, 15, 16, 17, 18, 19, 20, 21, 22, 23, 24, 25, 26, 27] [_, _, _, _, _, _, _, _, _, _, _, _, _, _, _, _, _, _, _, _, _, _, _, _, _, _, _, _] rfl; clear hs102
 refine sq rfl (st_assign hs103 (Ev.t 0 rfl) rfl rfl fun _ _ hs104 => ?_); clear hs103
 refine hK46 _ _ ?_; clear hK46
 have hs105 := hs104.keep [0] [_] rfl; clear hs104
 refine cd_retv (vs := [.bool true]) hs105 hQ0 rfl ⟨.tmp 0 rfl, trivial⟩ ?_
 clear hs105 hQ0 hN0
 rfl
end Go.Proofs.YtdbcedmofoakmaaDoor
