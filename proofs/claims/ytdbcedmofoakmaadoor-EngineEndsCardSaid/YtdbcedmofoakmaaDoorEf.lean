/- The engine: Current, Fails. -/
import Derived.Test.YtdbcedmofoakmaaDoorEd
import Derived.Test.YtdbcedmofoakmaaDoorSo
set_option maxRecDepth 100000
namespace Go.Proofs.YtdbcedmofoakmaaDoor
open Go Go.Sx Go.Eng Go.Proofs.Tryd
theorem Current_v (b : Book) (A : Option Addr) (n cp : Nat) (k : Int) (w : World) (hP : PartsAt w A n b.parts) (hn : n ≤ 140737488351232) :
    CallsV Tryd.prog 14 [.agg ⟨(bookL b A n cp)⟩, .int .i64 k] w (.tuple ⟨[.agg ⟨[.int .i64 ((b.currentR k).1.lo), .int .i64 ((b.currentR k).1.hi)]⟩, .int .i64 ((b.currentR k).2)]⟩) := by
 refine enter (N := 23) (M := []) w func14 rfl rfl rfl (fun Q0 a_0 hQ0 hN0 hs0 => ?_)
 refine cd_region fun K1 hK1 => ?_
 refine sq rfl (st_box hs0 (Ev.t 0 rfl) rfl rfl rfl fun b2 _ _ hs1 => ?_); clear hs0
 refine sq rfl (st_alloc hs1 rfl rfl zeroValue23 rfl fun b3 _ _ hs2 => ?_); clear hs1
 refine sq rfl (st_assign hs2 (.const _) rfl rfl fun _ _ hs3 => ?_); clear hs2
 refine hK1 _ _ ?_; clear hK1
 have hs4 := hs3.keep [0, 1, 2, 4] [_, _, _, _] rfl; clear hs3
 refine cd_seq fun K4 hK4 => ?_
 refine cd_region fun K5 hK5 => ?_
 refine sq rfl (st_loadA (o := 0) (off := 0) (vs := (bookL b A n cp)) hs4 (Ev.t 2 rfl) rfl rfl isAgg27 sizeOf27 (hs4.cells 1 rfl) rfl fun _ _ hs5 => ?_); clear hs4
 refine sq rfl (st_callv (vs := [.agg ⟨(bookL b A n cp)⟩]) hs5 (.func _) ⟨(Ev.t 0 rfl), trivial⟩ rfl rfl call16 rfl (check_v b A n cp _ (hP.kp hs5.kp) hn) fun _ _ hs6 => ?_); clear hs5
 refine sq rfl (st_assign hs6 (Ev.t 0 rfl) rfl rfl fun _ _ hs7 => ?_); clear hs6
 refine hK5 _ _ ?_; clear hK5
 have hs8 := hs7.keep [0, 3, 4, 5, 6] [_, _, _, _, _] rfl; clear hs7
 refine cd_region fun K6 hK6 => ?_
 refine sq rfl (st_move hs8 (Ev.t 0 rfl) rfl rfl fun _ _ hs9 => ?_); clear hs8
 refine sq rfl (st_cmp (c := (if b.ok then 0 else 40 : Int) != 0) hs9 (Ev.t 0 rfl) (.const _) rfl rfl rfl rfl fun _ _ hs10 => ?_); clear hs9
 refine hK6 _ _ ?_; clear hK6
 have hs11 := hs10.keep [0, 2, 3, 4, 5, 6] [_, _, _, _, _, _] rfl; clear hs10
 refine cd_cond hs11 (Ev.t 0 rfl) (fun hc7 => ?_) (fun hc7 => ?_)
 · have hok : b.ok = false := by cases h : b.ok <;> simp [h] at hc7 ⊢
   refine cd_region fun K8 hK8 => ?_
   refine sq rfl (st_build hs11 (qs := []) (v := .agg ⟨[.int .i64 0, .int .i64 0]⟩) trivial rfl rfl rfl (fun _ => by kernel_rfl) fun _ _ hs12 => ?_); clear hs11
   refine sq rfl (st_move hs12 (Ev.t 2 rfl) rfl rfl fun _ _ hs13 => ?_); clear hs12
   refine sq rfl (st_store (l' := [.int .i64 0, .int .i64 0]) (vs := [.int .i64 0, .int .i64 0]) (i := 0) hs13 (Ev.t 5 rfl) (Ev.t 1 rfl) sizeOf23 rfl rfl rfl rfl rfl rfl fun _ _ hs14 => ?_); clear hs13
   have hs15 := hs14.asB [_, _] rfl; clear hs14
   have hs16 := hs15.keep [0, 1, 2, 3, 5, 6, 7] [_, _, _, _, _, _, _] rfl; clear hs15
   refine sq rfl (st_assign hs16 (Ev.t 0 rfl) rfl rfl fun _ _ hs17 => ?_); clear hs16
   refine hK8 _ _ ?_; clear hK8
   have hs18 := hs17.keep [0, 5] [_, _] rfl; clear hs17
   refine cd_retv (vs := [.agg ⟨[.int .i64 0, .int .i64 0]⟩, .int .i64 (if b.ok then 0 else 40)]) hs18 (fun a_ w_ h => th_ret (hQ0 a_ w_ h)) rfl ⟨resA (o := 0) (off := 0) (vs := [.int .i64 0, .int .i64 0]) 1 rfl isAgg23 sizeOf23 (hs18.cells 0 rfl) rfl, .tmp 0 rfl, trivial⟩ ?_
   clear hs18 hQ0 hN0 hK4
   cases hw2 : within k 0 b.tank <;> by_cases hm2 : k < b.mark <;> simp_all [pack, Book.currentR]
   all_goals (first | omega | (repeat rw [if_neg (by omega)]; first | done | rfl | exact ⟨rfl, rfl⟩))
 · have hok : b.ok = true := by cases h : b.ok <;> simp [h] at hc7 ⊢
   refine cd_skip ?_
   refine th_norm (hK4 _ _ ?_)
   refine cd_seq fun K9 hK9 => ?_
   refine cd_region fun K10 hK10 => ?_
   refine sq rfl (st_move hs11 (Ev.t 5 rfl) rfl rfl fun _ _ hs12 => ?_); clear hs11
   refine sq rfl (st_field (o' := 5) hs12 (Ev.t 5 rfl) rfl rfl runUnderlying27 rfl sizeOf3 rfl rfl fun _ _ hs13 => ?_); clear hs12
   refine sq rfl (st_load1 (o := 0) (off := 5) (v := .int .i64 b.tank) hs13 (Ev.t 0 rfl) rfl rfl isAgg3 (hs13.cells 1 rfl) rfl fun _ _ hs14 => ?_); clear hs13
   refine sq rfl (st_callv (vs := [.int .i64 k, .int .i64 0, .int .i64 b.tank]) hs14 (.func _) ⟨(Ev.t 2 rfl), (.const _), (Ev.t 0 rfl), trivial⟩ rfl rfl call48 rfl (within_v k 0 b.tank _) fun _ _ hs15 => ?_); clear hs14
   refine sq rfl (st_not hs15 (Ev.t 0 rfl) rfl rfl fun _ _ hs16 => ?_); clear hs15
   refine hK10 _ _ ?_; clear hK10
   have hs17 := hs16.keep [0, 7, 8, 9, 10] [_, _, _, _, _] rfl; clear hs16
   refine cd_cond hs17 (Ev.t 0 rfl) (fun hc11 => ?_) (fun hc11 => ?_)
   · refine cd_region fun K12 hK12 => ?_
     refine sq rfl (st_build hs17 (qs := []) (v := .agg ⟨[.int .i64 0, .int .i64 0]⟩) trivial rfl rfl rfl (fun _ => by kernel_rfl) fun _ _ hs18 => ?_); clear hs17
     refine sq rfl (st_store (l' := [.int .i64 0, .int .i64 0]) (vs := [.int .i64 0, .int .i64 0]) (i := 0) hs18 (Ev.t 3 rfl) (Ev.t 0 rfl) sizeOf23 rfl rfl rfl rfl rfl rfl fun _ _ hs19 => ?_); clear hs18
     have hs20 := hs19.asB [_, _] rfl; clear hs19
     have hs21 := hs20.keep [0, 1, 3, 4, 5] [_, _, _, _, _] rfl; clear hs20
     refine sq rfl (st_assign hs21 (.const _) rfl rfl fun _ _ hs22 => ?_); clear hs21
     refine hK12 _ _ ?_; clear hK12
     have hs23 := hs22.keep [0, 3] [_, _] rfl; clear hs22
     refine cd_retv (vs := [.agg ⟨[.int .i64 0, .int .i64 0]⟩, .int .i64 41]) hs23 (fun a_ w_ h => th_ret (hQ0 a_ w_ h)) rfl ⟨resA (o := 0) (off := 0) (vs := [.int .i64 0, .int .i64 0]) 1 rfl isAgg23 sizeOf23 (hs23.cells 0 rfl) rfl, .tmp 0 rfl, trivial⟩ ?_
     clear hs23 hQ0 hN0 hK9
     cases hw2 : within k 0 b.tank <;> by_cases hm2 : k < b.mark <;> simp_all [pack, Book.currentR]
     all_goals (first | omega | (repeat rw [if_neg (by omega)]; first | done | rfl | exact ⟨rfl, rfl⟩))
   · refine cd_skip ?_
     refine th_norm (hK9 _ _ ?_)
     refine cd_region fun K13 hK13 => ?_
     refine sq rfl (st_loadA (o := 0) (off := 0) (vs := (bookL b A n cp)) hs17 (Ev.t 3 rfl) rfl rfl isAgg27 sizeOf27 (hs17.cells 1 rfl) rfl fun _ _ hs18 => ?_); clear hs17
     refine sq rfl (st_build hs18 (qs := [(0, .agg ⟨(bookL b A n cp)⟩)]) (v := .agg ⟨(bookL b A n cp)⟩) ⟨(Ev.t 0 rfl), trivial⟩ rfl rfl rfl (fun _ => by kernel_rfl) fun _ _ hs19 => ?_); clear hs18
     refine sq rfl (st_move hs19 (Ev.t 6 rfl) rfl rfl fun _ _ hs20 => ?_); clear hs19
     refine sq rfl (st_callv (vs := [.agg ⟨(bookL b A n cp)⟩, .int .i64 k]) hs20 (.func _) ⟨(Ev.t 1 rfl), (Ev.t 0 rfl), trivial⟩ rfl rfl call49 rfl (current_v b A n cp k _) fun _ _ hs21 => ?_); clear hs20
     refine sq rfl (st_store (l' := [.int .i64 ((if k < b.mark then b.weak else b.full).lo), .int .i64 ((if k < b.mark then b.weak else b.full).hi)]) (vs := [.int .i64 ((if k < b.mark then b.weak else b.full).lo), .int .i64 ((if k < b.mark then b.weak else b.full).hi)]) (i := 0) hs21 (Ev.t 6 rfl) (Ev.t 0 rfl) sizeOf23 rfl rfl rfl rfl rfl rfl fun _ _ hs22 => ?_); clear hs21
     have hs23 := hs22.asB [_, _] rfl; clear hs22
     have hs24 := hs23.keep [0, 1, 2, 3, 4, 6, 7, 8] [_, _, _, _, _, _, _, _] rfl; clear hs23
     refine sq rfl (st_assign hs24 (.const _) rfl rfl fun _ _ hs25 => ?_); clear hs24
     refine hK13 _ _ ?_; clear hK13
     have hs26 := hs25.keep [0, 6] [_, _] rfl; clear hs25
     refine cd_retv (vs := [.agg ⟨[.int .i64 ((if k < b.mark then b.weak else b.full).lo), .int .i64 ((if k < b.mark then b.weak else b.full).hi)]⟩, .int .i64 0]) hs26 hQ0 rfl ⟨resA (o := 0) (off := 0) (vs := [.int .i64 ((if k < b.mark then b.weak else b.full).lo), .int .i64 ((if k < b.mark then b.weak else b.full).hi)]) 1 rfl isAgg23 sizeOf23 (hs26.cells 0 rfl) rfl, .tmp 0 rfl, trivial⟩ ?_
     clear hs26 hQ0 hN0
     cases hw2 : within k 0 b.tank <;> by_cases hm2 : k < b.mark <;> simp_all [pack, Book.currentR]
     all_goals (first | omega | (repeat rw [if_neg (by omega)]; first | done | rfl | exact ⟨rfl, rfl⟩))

theorem Fails_v (b : Book) (A : Option Addr) (n cp : Nat) (A2 : Option Addr) (m c2 : Nat) (plan : List Walks) (w : World) (hP : PartsAt w A n b.parts) (hn : n ≤ 140737488351232) (hL : PlanAt w A2 m plan) (hm : m ≤ 140737488351232) (hG : CellsAt w 0 0 stuffsL) :
    CallsV Tryd.prog 21 [.agg ⟨(bookL b A n cp)⟩, .slice A2 m c2] w (.tuple ⟨[.int .i64 ((b.failsR plan).1), .int .i64 ((b.failsR plan).2)]⟩) := by
 refine enter (N := 29) (M := []) w func21 rfl rfl rfl (fun Q0 a_0 hQ0 hN0 hs0 => ?_)
 refine cd_region fun K1 hK1 => ?_
 refine sq rfl (st_box hs0 (Ev.t 0 rfl) rfl rfl rfl fun b2 _ _ hs1 => ?_); clear hs0
 refine sq rfl (st_assign hs1 (.const _) rfl rfl fun _ _ hs2 => ?_); clear hs1
 refine sq rfl (st_assign hs2 (.const _) rfl rfl fun _ _ hs3 => ?_); clear hs2
 refine hK1 _ _ ?_; clear hK1
 have hs4 := hs3.keep [0, 1, 2, 4] [_, _, _, _] rfl; clear hs3
 refine cd_seq fun K3 hK3 => ?_
 refine cd_region fun K4 hK4 => ?_
 refine sq rfl (st_loadA (o := 0) (off := 0) (vs := (bookL b A n cp)) hs4 (Ev.t 2 rfl) rfl rfl isAgg27 sizeOf27 (hs4.cells 0 rfl) rfl fun _ _ hs5 => ?_); clear hs4
 refine sq rfl (st_callv (vs := [.agg ⟨(bookL b A n cp)⟩]) hs5 (.func _) ⟨(Ev.t 0 rfl), trivial⟩ rfl rfl call16 rfl (check_v b A n cp _ (hP.kp hs5.kp) hn) fun _ _ hs6 => ?_); clear hs5
 refine sq rfl (st_assign hs6 (Ev.t 0 rfl) rfl rfl fun _ _ hs7 => ?_); clear hs6
 refine hK4 _ _ ?_; clear hK4
 have hs8 := hs7.keep [0, 3, 4, 5, 6] [_, _, _, _, _] rfl; clear hs7
 refine cd_region fun K5 hK5 => ?_
 refine sq rfl (st_move hs8 (Ev.t 0 rfl) rfl rfl fun _ _ hs9 => ?_); clear hs8
 refine sq rfl (st_cmp (c := (if b.ok then 0 else 40 : Int) != 0) hs9 (Ev.t 0 rfl) (.const _) rfl rfl rfl rfl fun _ _ hs10 => ?_); clear hs9
 refine hK5 _ _ ?_; clear hK5
 have hs11 := hs10.keep [0, 2, 3, 4, 5, 6] [_, _, _, _, _, _] rfl; clear hs10
 refine cd_cond hs11 (Ev.t 0 rfl) (fun hc6 => ?_) (fun hc6 => ?_)
 · have hok : b.ok = false := by cases h : b.ok <;> simp [h] at hc6 ⊢
   refine cd_region fun K7 hK7 => ?_
   refine sq rfl (st_move hs11 (Ev.t 1 rfl) rfl rfl fun _ _ hs12 => ?_); clear hs11
   have hs13 := hs12.keep [0, 1, 2, 3, 5, 6] [_, _, _, _, _, _] rfl; clear hs12
   refine sq rfl (st_assign hs13 (.const _) rfl rfl fun _ _ hs14 => ?_); clear hs13
   have hs15 := hs14.keep [0, 1, 2, 3, 5, 6] [_, _, _, _, _, _] rfl; clear hs14
   refine sq rfl (st_assign hs15 (Ev.t 1 rfl) rfl rfl fun _ _ hs16 => ?_); clear hs15
   refine hK7 _ _ ?_; clear hK7
   have hs17 := hs16.keep [0, 1] [_, _] rfl; clear hs16
   refine cd_retv (vs := [.int .i64 0, .int .i64 (if b.ok then 0 else 40)]) hs17 (fun a_ w_ h => th_ret (hQ0 a_ w_ h)) rfl ⟨.tmp 1 rfl, .tmp 0 rfl, trivial⟩ ?_
   clear hs17 hQ0 hN0 hK3
   simp_all [pack, Book.failsR]
   all_goals (first | omega | (repeat rw [if_neg (by omega)]; first | done | rfl | exact ⟨rfl, rfl⟩))
 · have hok : b.ok = true := by cases h : b.ok <;> simp [h] at hc6 ⊢
   have hb := ok_bd hok
   refine cd_skip ?_
   refine th_norm (hK3 _ _ ?_)
   refine cd_region fun K8 hK8 => ?_
   refine sq rfl (st_loadA (o := 0) (off := 0) (vs := (bookL b A n cp)) hs11 (Ev.t 4 rfl) rfl rfl isAgg27 sizeOf27 (hs11.cells 0 rfl) rfl fun _ _ hs12 => ?_); clear hs11
   refine sq rfl (st_build hs12 (qs := [(0, .agg ⟨(bookL b A n cp)⟩)]) (v := .agg ⟨(bookL b A n cp)⟩) ⟨(Ev.t 0 rfl), trivial⟩ rfl rfl rfl (fun _ => by kernel_rfl) fun _ _ hs13 => ?_); clear hs12
   refine sq rfl (st_alloc hs13 rfl rfl zeroValue75 rfl fun b9 _ _ hs14 => ?_); clear hs13
   refine sq rfl (st_store (l' := (bookL b A n cp)) (vs := (bookL b A n cp)) (i := 0) hs14 (Ev.t 0 rfl) (Ev.t 1 rfl) sizeOf75 rfl rfl rfl rfl rfl rfl fun _ _ hs15 => ?_); clear hs14
   have hs16 := hs15.asB [_, _] rfl; clear hs15
   refine hK8 _ _ ?_; clear hK8
   have hs17 := hs16.keep [0, 5, 6, 8] [_, _, _, _] rfl; clear hs16
   refine cd_seq fun K10 hK10 => ?_
   refine cd_region fun K11 hK11 => ?_
   refine sq rfl (st_loadA (o := 0) (off := 0) (vs := (bookL b A n cp)) hs17 (Ev.t 0 rfl) rfl rfl isAgg75 sizeOf75 (hs17.cells 0 rfl) rfl fun _ _ hs18 => ?_); clear hs17
   refine sq rfl (st_move hs18 (Ev.t 4 rfl) rfl rfl fun _ _ hs19 => ?_); clear hs18
   refine sq rfl (st_callv (vs := [.agg ⟨(bookL b A n cp)⟩, .slice A2 m c2]) hs19 (.func _) ⟨(Ev.t 1 rfl), (Ev.t 0 rfl), trivial⟩ rfl rfl call52 rfl (isPlan_v b A n cp A2 m c2 plan _ (hP.kp hs19.kp) hn (hL.kp hs19.kp) hm hb) fun _ _ hs20 => ?_); clear hs19
   refine sq rfl (st_not hs20 (Ev.t 0 rfl) rfl rfl fun _ _ hs21 => ?_); clear hs20
   refine hK11 _ _ ?_; clear hK11
   have hs22 := hs21.keep [0, 4, 5, 6, 7] [_, _, _, _, _] rfl; clear hs21
   refine cd_cond hs22 (Ev.t 0 rfl) (fun hc12 => ?_) (fun hc12 => ?_)
   · refine cd_region fun K13 hK13 => ?_
     have hs23 := hs22.keep [0, 1, 2, 4] [_, _, _, _] rfl; clear hs22
     refine sq rfl (st_assign hs23 (.const _) rfl rfl fun _ _ hs24 => ?_); clear hs23
     have hs25 := hs24.keep [0, 1, 2, 4] [_, _, _, _] rfl; clear hs24
     refine sq rfl (st_assign hs25 (.const _) rfl rfl fun _ _ hs26 => ?_); clear hs25
     refine hK13 _ _ ?_; clear hK13
     have hs27 := hs26.keep [0, 1] [_, _] rfl; clear hs26
     refine cd_retv (vs := [.int .i64 0, .int .i64 41]) hs27 (fun a_ w_ h => th_ret (hQ0 a_ w_ h)) rfl ⟨.tmp 1 rfl, .tmp 0 rfl, trivial⟩ ?_
     clear hs27 hQ0 hN0 hK10
     simp_all [pack, Book.failsR]
     all_goals (first | omega | (repeat rw [if_neg (by omega)]; first | done | rfl | exact ⟨rfl, rfl⟩))
   · have hpl : b.isPlan plan = true := by simpa using hc12
     refine cd_skip ?_
     refine th_norm (hK10 _ _ ?_)
     refine cd_region fun K14 hK14 => ?_
     refine sq rfl (st_loadA (o := 0) (off := 0) (vs := (bookL b A n cp)) hs22 (Ev.t 1 rfl) rfl rfl isAgg75 sizeOf75 (hs22.cells 0 rfl) rfl fun _ _ hs23 => ?_); clear hs22
     refine sq rfl (st_makeFunc (us := [.agg ⟨(bookL b A n cp)⟩]) (vs := []) hs23 ⟨(Ev.t 0 rfl), trivial⟩ trivial rfl rfl fun _ _ hs24 => ?_); clear hs23
     refine sq rfl (st_assign hs24 (Ev.t 0 rfl) rfl rfl fun _ _ hs25 => ?_); clear hs24
     refine hK14 _ _ ?_; clear hK14
     have hs26 := hs25.keep [0, 5, 6, 7] [_, _, _, _] rfl; clear hs25
     refine cd_region fun K15 hK15 => ?_
     refine sq rfl (st_move hs26 (Ev.t 0 rfl) rfl rfl fun _ _ hs27 => ?_); clear hs26
     refine sq rfl (st_move hs27 (Ev.t 4 rfl) rfl rfl fun _ _ hs28 => ?_); clear hs27
     refine sq rfl (st_callv (vs := [.slice A2 m c2]) hs28 (Ev.t 1 rfl) ⟨(Ev.t 0 rfl), trivial⟩ rfl rfl call59 rfl (fails_v b A n cp A2 m c2 plan _ (hP.kp hs28.kp) hn (hL.kp hs28.kp) hm (hG.kp hs28.kp (by simp)) hb hpl) fun _ _ hs29 => ?_); clear hs28
     refine sq rfl (st_assign hs29 (Ev.t 0 rfl) rfl rfl fun _ _ hs30 => ?_); clear hs29
     refine hK15 _ _ ?_; clear hK15
     have hs31 := hs30.keep [0, 5, 6] [_, _, _] rfl; clear hs30
     refine cd_seq fun K16 hK16 => ?_
     refine cd_region fun K17 hK17 => ?_
     refine sq rfl (st_move hs31 (Ev.t 0 rfl) rfl rfl fun _ _ hs32 => ?_); clear hs31
     refine sq rfl (st_cmp (c := decide ((b.failsI plan : Int) < 0)) hs32 (Ev.t 0 rfl) (.const _) rfl rfl rfl rfl fun _ _ hs33 => ?_); clear hs32
     refine hK17 _ _ ?_; clear hK17
     have hs34 := hs33.keep [0, 2, 3, 4] [_, _, _, _] rfl; clear hs33
     refine cd_cond hs34 (Ev.t 0 rfl) (fun hc18 => ?_) (fun hc18 => ?_)
     · refine cd_region fun K19 hK19 => ?_
       have hs35 := hs34.keep [0, 1, 2] [_, _, _] rfl; clear hs34
       refine sq rfl (st_assign hs35 (.const _) rfl rfl fun _ _ hs36 => ?_); clear hs35
       have hs37 := hs36.keep [0, 1, 2] [_, _, _] rfl; clear hs36
       refine sq rfl (st_assign hs37 (.const _) rfl rfl fun _ _ hs38 => ?_); clear hs37
       refine hK19 _ _ ?_; clear hK19
       have hs39 := hs38.keep [0, 1] [_, _] rfl; clear hs38
       refine cd_retv (vs := [.int .i64 0, .int .i64 4]) hs39 (fun a_ w_ h => th_ret (hQ0 a_ w_ h)) rfl ⟨.tmp 1 rfl, .tmp 0 rfl, trivial⟩ ?_
       clear hs39 hQ0 hN0 hK16
       simp_all [pack, Book.failsR]
       all_goals (first | omega | (repeat rw [if_neg (by omega)]; first | done | rfl | exact ⟨rfl, rfl⟩))
     · refine cd_skip ?_
       refine th_norm (hK16 _ _ ?_)
       refine cd_region fun K20 hK20 => ?_
       refine sq rfl (st_move hs34 (Ev.t 1 rfl) rfl rfl fun _ _ hs35 => ?_); clear hs34
       have hs36 := hs35.keep [0, 1, 2, 3] [_, _, _, _] rfl; clear hs35
       refine sq rfl (st_assign hs36 (Ev.t 0 rfl) rfl rfl fun _ _ hs37 => ?_); clear hs36
       have hs38 := hs37.keep [0, 1, 2, 3] [_, _, _, _] rfl; clear hs37
       refine sq rfl (st_assign hs38 (.const _) rfl rfl fun _ _ hs39 => ?_); clear hs38
       refine hK20 _ _ ?_; clear hK20
       have hs40 := hs39.keep [0, 1] [_, _] rfl; clear hs39
       refine cd_retv (vs := [.int .i64 (b.failsI plan), .int .i64 0]) hs40 hQ0 rfl ⟨.tmp 1 rfl, .tmp 0 rfl, trivial⟩ ?_
       clear hs40 hQ0 hN0
       simp_all [pack, Book.failsR]
       all_goals (first | omega | (repeat rw [if_neg (by omega)]; first | done | rfl | exact ⟨rfl, rfl⟩))
end Go.Proofs.YtdbcedmofoakmaaDoor
