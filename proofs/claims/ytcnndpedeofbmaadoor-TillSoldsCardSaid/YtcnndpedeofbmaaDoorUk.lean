/- The till: Takings, Hire, Left; Wrong. -/
import Derived.Test.YtcnndpedeofbmaaDoorUj
set_option maxRecDepth 100000
namespace Go.Proofs.YtcnndpedeofbmaaDoor
open Go Go.Sx Go.Till Go.Proofs.Tryd
/-- What can be asked for stands in the program's memory. -/
def partsL : List Value := [.func (.func 95) ⟨[]⟩ ⟨[]⟩, .func (.func 96) ⟨[]⟩ ⟨[]⟩, .func (.func 97) ⟨[]⟩ ⟨[]⟩]

theorem Takings_v (b : Bx) (A : Option Addr) (n cp : Nat) (A2 : Option Addr) (n2 c2 : Nat) (w : World) (hP : RollsAt w A n b.rolls) (hn : n ≤ 140737488351232) (hF : SpsAt w A2 n2 b.free) (hn2 : n2 ≤ 140737488351232) (hG : CellsAt w 0 0 partsL) :
    CallsV Tryd.prog 25 [.agg ⟨(bxL b A n cp A2 n2 c2)⟩] w (.tuple ⟨[.agg ⟨[.int .i64 ((b.betweenR wholeI).1.lo), .int .i64 ((b.betweenR wholeI).1.hi)]⟩, .int .i64 ((b.betweenR wholeI).2)]⟩) := by
 refine enter (N := 11) (M := []) w func25 rfl rfl rfl (fun Q0 a_0 hQ0 hN0 hs0 => ?_)
 refine cd_region fun K1 hK1 => ?_
 refine sq rfl (st_box hs0 (Ev.t 0 rfl) rfl rfl rfl fun b2 _ _ hs1 => ?_); clear hs0
 refine sq rfl (st_alloc hs1 rfl rfl zeroValue35 rfl fun b3 _ _ hs2 => ?_); clear hs1
 refine sq rfl (st_assign hs2 (.const _) rfl rfl fun _ _ hs3 => ?_); clear hs2
 refine hK1 _ _ ?_; clear hK1
 have hs4 := hs3.keep [0, 1, 2] [_, _, _] rfl; clear hs3
 refine cd_region fun K4 hK4 => ?_
 refine sq rfl (st_loadA (o := 0) (off := 0) (vs := (bxL b A n cp A2 n2 c2)) hs4 (Ev.t 2 rfl) rfl rfl isAgg25 sizeOf25 (hs4.cells 1 rfl) rfl fun _ _ hs5 => ?_); clear hs4
 refine sq rfl (st_indexArr (o' := 0) hs5 (.global _) (.const _) rfl rfl runUnderlying81 sizeOf80 (by decide) rfl fun _ _ hs6 => ?_); clear hs5
 refine sq rfl (st_load1 (o := 0) (off := 0) (v := .func (.func 95) ⟨[]⟩ ⟨[]⟩) hs6 (Ev.t 0 rfl) rfl rfl isAgg80 (hs6.old hG (by simp)) rfl fun _ _ hs7 => ?_); clear hs6
 refine sq rfl (st_build hs7 (qs := [(0, .func (.func 95) ⟨[]⟩ ⟨[]⟩)]) (v := .agg ⟨[.func (.func 95) ⟨[]⟩ ⟨[]⟩]⟩) ⟨(Ev.t 0 rfl), trivial⟩ rfl rfl rfl (fun _ => by kernel_rfl) fun _ _ hs8 => ?_); clear hs7
 refine sq rfl (st_callv (vs := [.agg ⟨(bxL b A n cp A2 n2 c2)⟩, .agg ⟨[.func (.func 95) ⟨[]⟩ ⟨[]⟩]⟩]) hs8 (.func _) ⟨(Ev.t 3 rfl), (Ev.t 0 rfl), trivial⟩ rfl rfl call55 rfl (between95_v b A n cp A2 n2 c2 _ (hP.kp hs8.kp) hn (hF.kp hs8.kp) hn2) fun _ _ hs9 => ?_); clear hs8
 refine sq rfl (st_extract hs9 (Ev.t 0 rfl) rfl rfl rfl fun _ _ hs10 => ?_); clear hs9
 refine sq rfl (st_extract hs10 (Ev.t 1 rfl) rfl rfl rfl fun _ _ hs11 => ?_); clear hs10
 refine sq rfl (st_store (l' := [.int .i64 ((b.betweenR wholeI).1.lo), .int .i64 ((b.betweenR wholeI).1.hi)]) (vs := [.int .i64 ((b.betweenR wholeI).1.lo), .int .i64 ((b.betweenR wholeI).1.hi)]) (i := 0) hs11 (Ev.t 8 rfl) (Ev.t 1 rfl) sizeOf35 rfl rfl rfl rfl rfl rfl fun _ _ hs12 => ?_); clear hs11
 have hs13 := hs12.asB [_, _] rfl; clear hs12
 have hs14 := hs13.keep [0, 1, 2, 3, 4, 5, 6, 8, 9] [_, _, _, _, _, _, _, _, _] rfl; clear hs13
 refine sq rfl (st_assign hs14 (Ev.t 0 rfl) rfl rfl fun _ _ hs15 => ?_); clear hs14
 refine hK4 _ _ ?_; clear hK4
 have hs16 := hs15.keep [0, 8] [_, _] rfl; clear hs15
 refine cd_retv (vs := [.agg ⟨[.int .i64 ((b.betweenR wholeI).1.lo), .int .i64 ((b.betweenR wholeI).1.hi)]⟩, .int .i64 ((b.betweenR wholeI).2)]) hs16 hQ0 rfl ⟨resA (o := 0) (off := 0) (vs := [.int .i64 ((b.betweenR wholeI).1.lo), .int .i64 ((b.betweenR wholeI).1.hi)]) 1 rfl isAgg35 sizeOf35 (hs16.cells 0 rfl) rfl, .tmp 0 rfl, trivial⟩ ?_
 clear hs16 hQ0 hN0
 rfl

theorem Hire_v (b : Bx) (A : Option Addr) (n cp : Nat) (A2 : Option Addr) (n2 c2 : Nat) (w : World) (hP : RollsAt w A n b.rolls) (hn : n ≤ 140737488351232) (hF : SpsAt w A2 n2 b.free) (hn2 : n2 ≤ 140737488351232) (hG : CellsAt w 0 0 partsL) :
    CallsV Tryd.prog 26 [.agg ⟨(bxL b A n cp A2 n2 c2)⟩] w (.tuple ⟨[.agg ⟨[.int .i64 ((b.betweenR hireI).1.lo), .int .i64 ((b.betweenR hireI).1.hi)]⟩, .int .i64 ((b.betweenR hireI).2)]⟩) := by
 refine enter (N := 11) (M := []) w func26 rfl rfl rfl (fun Q0 a_0 hQ0 hN0 hs0 => ?_)
 refine cd_region fun K1 hK1 => ?_
 refine sq rfl (st_box hs0 (Ev.t 0 rfl) rfl rfl rfl fun b2 _ _ hs1 => ?_); clear hs0
 refine sq rfl (st_alloc hs1 rfl rfl zeroValue35 rfl fun b3 _ _ hs2 => ?_); clear hs1
 refine sq rfl (st_assign hs2 (.const _) rfl rfl fun _ _ hs3 => ?_); clear hs2
 refine hK1 _ _ ?_; clear hK1
 have hs4 := hs3.keep [0, 1, 2] [_, _, _] rfl; clear hs3
 refine cd_region fun K4 hK4 => ?_
 refine sq rfl (st_loadA (o := 0) (off := 0) (vs := (bxL b A n cp A2 n2 c2)) hs4 (Ev.t 2 rfl) rfl rfl isAgg25 sizeOf25 (hs4.cells 1 rfl) rfl fun _ _ hs5 => ?_); clear hs4
 refine sq rfl (st_indexArr (o' := 1) hs5 (.global _) (.const _) rfl rfl runUnderlying81 sizeOf80 (by decide) rfl fun _ _ hs6 => ?_); clear hs5
 refine sq rfl (st_load1 (o := 0) (off := 1) (v := .func (.func 96) ⟨[]⟩ ⟨[]⟩) hs6 (Ev.t 0 rfl) rfl rfl isAgg80 (hs6.old hG (by simp)) rfl fun _ _ hs7 => ?_); clear hs6
 refine sq rfl (st_build hs7 (qs := [(0, .func (.func 96) ⟨[]⟩ ⟨[]⟩)]) (v := .agg ⟨[.func (.func 96) ⟨[]⟩ ⟨[]⟩]⟩) ⟨(Ev.t 0 rfl), trivial⟩ rfl rfl rfl (fun _ => by kernel_rfl) fun _ _ hs8 => ?_); clear hs7
 refine sq rfl (st_callv (vs := [.agg ⟨(bxL b A n cp A2 n2 c2)⟩, .agg ⟨[.func (.func 96) ⟨[]⟩ ⟨[]⟩]⟩]) hs8 (.func _) ⟨(Ev.t 3 rfl), (Ev.t 0 rfl), trivial⟩ rfl rfl call55 rfl (between96_v b A n cp A2 n2 c2 _ (hP.kp hs8.kp) hn (hF.kp hs8.kp) hn2) fun _ _ hs9 => ?_); clear hs8
 refine sq rfl (st_extract hs9 (Ev.t 0 rfl) rfl rfl rfl fun _ _ hs10 => ?_); clear hs9
 refine sq rfl (st_extract hs10 (Ev.t 1 rfl) rfl rfl rfl fun _ _ hs11 => ?_); clear hs10
 refine sq rfl (st_store (l' := [.int .i64 ((b.betweenR hireI).1.lo), .int .i64 ((b.betweenR hireI).1.hi)]) (vs := [.int .i64 ((b.betweenR hireI).1.lo), .int .i64 ((b.betweenR hireI).1.hi)]) (i := 0) hs11 (Ev.t 8 rfl) (Ev.t 1 rfl) sizeOf35 rfl rfl rfl rfl rfl rfl fun _ _ hs12 => ?_); clear hs11
 have hs13 := hs12.asB [_, _] rfl; clear hs12
 have hs14 := hs13.keep [0, 1, 2, 3, 4, 5, 6, 8, 9] [_, _, _, _, _, _, _, _, _] rfl; clear hs13
 refine sq rfl (st_assign hs14 (Ev.t 0 rfl) rfl rfl fun _ _ hs15 => ?_); clear hs14
 refine hK4 _ _ ?_; clear hK4
 have hs16 := hs15.keep [0, 8] [_, _] rfl; clear hs15
 refine cd_retv (vs := [.agg ⟨[.int .i64 ((b.betweenR hireI).1.lo), .int .i64 ((b.betweenR hireI).1.hi)]⟩, .int .i64 ((b.betweenR hireI).2)]) hs16 hQ0 rfl ⟨resA (o := 0) (off := 0) (vs := [.int .i64 ((b.betweenR hireI).1.lo), .int .i64 ((b.betweenR hireI).1.hi)]) 1 rfl isAgg35 sizeOf35 (hs16.cells 0 rfl) rfl, .tmp 0 rfl, trivial⟩ ?_
 clear hs16 hQ0 hN0
 rfl

theorem Left_v (b : Bx) (A : Option Addr) (n cp : Nat) (A2 : Option Addr) (n2 c2 : Nat) (w : World) (hP : RollsAt w A n b.rolls) (hn : n ≤ 140737488351232) (hF : SpsAt w A2 n2 b.free) (hn2 : n2 ≤ 140737488351232) (hG : CellsAt w 0 0 partsL) :
    CallsV Tryd.prog 27 [.agg ⟨(bxL b A n cp A2 n2 c2)⟩] w (.tuple ⟨[.agg ⟨[.int .i64 ((b.betweenR leftI).1.lo), .int .i64 ((b.betweenR leftI).1.hi)]⟩, .int .i64 ((b.betweenR leftI).2)]⟩) := by
 refine enter (N := 11) (M := []) w func27 rfl rfl rfl (fun Q0 a_0 hQ0 hN0 hs0 => ?_)
 refine cd_region fun K1 hK1 => ?_
 refine sq rfl (st_box hs0 (Ev.t 0 rfl) rfl rfl rfl fun b2 _ _ hs1 => ?_); clear hs0
 refine sq rfl (st_alloc hs1 rfl rfl zeroValue35 rfl fun b3 _ _ hs2 => ?_); clear hs1
 refine sq rfl (st_assign hs2 (.const _) rfl rfl fun _ _ hs3 => ?_); clear hs2
 refine hK1 _ _ ?_; clear hK1
 have hs4 := hs3.keep [0, 1, 2] [_, _, _] rfl; clear hs3
 refine cd_region fun K4 hK4 => ?_
 refine sq rfl (st_loadA (o := 0) (off := 0) (vs := (bxL b A n cp A2 n2 c2)) hs4 (Ev.t 2 rfl) rfl rfl isAgg25 sizeOf25 (hs4.cells 1 rfl) rfl fun _ _ hs5 => ?_); clear hs4
 refine sq rfl (st_indexArr (o' := 2) hs5 (.global _) (.const _) rfl rfl runUnderlying81 sizeOf80 (by decide) rfl fun _ _ hs6 => ?_); clear hs5
 refine sq rfl (st_load1 (o := 0) (off := 2) (v := .func (.func 97) ⟨[]⟩ ⟨[]⟩) hs6 (Ev.t 0 rfl) rfl rfl isAgg80 (hs6.old hG (by simp)) rfl fun _ _ hs7 => ?_); clear hs6
 refine sq rfl (st_build hs7 (qs := [(0, .func (.func 97) ⟨[]⟩ ⟨[]⟩)]) (v := .agg ⟨[.func (.func 97) ⟨[]⟩ ⟨[]⟩]⟩) ⟨(Ev.t 0 rfl), trivial⟩ rfl rfl rfl (fun _ => by kernel_rfl) fun _ _ hs8 => ?_); clear hs7
 refine sq rfl (st_callv (vs := [.agg ⟨(bxL b A n cp A2 n2 c2)⟩, .agg ⟨[.func (.func 97) ⟨[]⟩ ⟨[]⟩]⟩]) hs8 (.func _) ⟨(Ev.t 3 rfl), (Ev.t 0 rfl), trivial⟩ rfl rfl call55 rfl (between97_v b A n cp A2 n2 c2 _ (hP.kp hs8.kp) hn (hF.kp hs8.kp) hn2) fun _ _ hs9 => ?_); clear hs8
 refine sq rfl (st_extract hs9 (Ev.t 0 rfl) rfl rfl rfl fun _ _ hs10 => ?_); clear hs9
 refine sq rfl (st_extract hs10 (Ev.t 1 rfl) rfl rfl rfl fun _ _ hs11 => ?_); clear hs10
 refine sq rfl (st_store (l' := [.int .i64 ((b.betweenR leftI).1.lo), .int .i64 ((b.betweenR leftI).1.hi)]) (vs := [.int .i64 ((b.betweenR leftI).1.lo), .int .i64 ((b.betweenR leftI).1.hi)]) (i := 0) hs11 (Ev.t 8 rfl) (Ev.t 1 rfl) sizeOf35 rfl rfl rfl rfl rfl rfl fun _ _ hs12 => ?_); clear hs11
 have hs13 := hs12.asB [_, _] rfl; clear hs12
 have hs14 := hs13.keep [0, 1, 2, 3, 4, 5, 6, 8, 9] [_, _, _, _, _, _, _, _, _] rfl; clear hs13
 refine sq rfl (st_assign hs14 (Ev.t 0 rfl) rfl rfl fun _ _ hs15 => ?_); clear hs14
 refine hK4 _ _ ?_; clear hK4
 have hs16 := hs15.keep [0, 8] [_, _] rfl; clear hs15
 refine cd_retv (vs := [.agg ⟨[.int .i64 ((b.betweenR leftI).1.lo), .int .i64 ((b.betweenR leftI).1.hi)]⟩, .int .i64 ((b.betweenR leftI).2)]) hs16 hQ0 rfl ⟨resA (o := 0) (off := 0) (vs := [.int .i64 ((b.betweenR leftI).1.lo), .int .i64 ((b.betweenR leftI).1.hi)]) 1 rfl isAgg35 sizeOf35 (hs16.cells 0 rfl) rfl, .tmp 0 rfl, trivial⟩ ?_
 clear hs16 hQ0 hN0
 rfl

theorem Wrong_v (b : Bx) (A : Option Addr) (n cp : Nat) (A2 : Option Addr) (n2 c2 : Nat) (w : World) (hP : RollsAt w A n b.rolls) (hn : n ≤ 140737488351232) (hF : SpsAt w A2 n2 b.free) (hn2 : n2 ≤ 140737488351232) :
    CallsV Tryd.prog 28 [.agg ⟨(bxL b A n cp A2 n2 c2)⟩] w (.tuple ⟨[.int .i64 b.wrongR.1, .int .i64 b.wrongR.2]⟩) := by
 refine enter (N := 40) (M := []) w func28 rfl rfl rfl (fun Q0 a_0 hQ0 hN0 hs0 => ?_)
 refine cd_region fun K1 hK1 => ?_
 refine sq rfl (st_box hs0 (Ev.t 0 rfl) rfl rfl rfl fun b2 _ _ hs1 => ?_); clear hs0
 refine sq rfl (st_assign hs1 (.const _) rfl rfl fun _ _ hs2 => ?_); clear hs1
 refine sq rfl (st_assign hs2 (.const _) rfl rfl fun _ _ hs3 => ?_); clear hs2
 refine hK1 _ _ ?_; clear hK1
 have hs4 := hs3.keep [0, 1, 2] [_, _, _] rfl; clear hs3
 refine cd_seq fun K3 hK3 => ?_
 refine cd_region fun K4 hK4 => ?_
 refine sq rfl (st_loadA (o := 0) (off := 0) (vs := (bxL b A n cp A2 n2 c2)) hs4 (Ev.t 2 rfl) rfl rfl isAgg25 sizeOf25 (hs4.cells 0 rfl) rfl fun _ _ hs5 => ?_); clear hs4
 refine sq rfl (st_callv (vs := [.agg ⟨(bxL b A n cp A2 n2 c2)⟩]) hs5 (.func _) ⟨(Ev.t 0 rfl), trivial⟩ rfl rfl call29 rfl (check_v b A n cp A2 n2 c2 _ (hP.kp hs5.kp) hn (hF.kp hs5.kp) hn2) fun _ _ hs6 => ?_); clear hs5
 refine sq rfl (st_assign hs6 (Ev.t 0 rfl) rfl rfl fun _ _ hs7 => ?_); clear hs6
 refine hK4 _ _ ?_; clear hK4
 have hs8 := hs7.keep [0, 3, 4, 5] [_, _, _, _] rfl; clear hs7
 refine cd_region fun K5 hK5 => ?_
 refine sq rfl (st_move hs8 (Ev.t 0 rfl) rfl rfl fun _ _ hs9 => ?_); clear hs8
 refine sq rfl (st_cmp (c := (if b.ok then 0 else 90 : Int) != 0) hs9 (Ev.t 0 rfl) (.const _) rfl rfl rfl rfl fun _ _ hs10 => ?_); clear hs9
 refine hK5 _ _ ?_; clear hK5
 have hs11 := hs10.keep [0, 2, 3, 4, 5] [_, _, _, _, _] rfl; clear hs10
 refine cd_cond hs11 (Ev.t 0 rfl) (fun hc6 => ?_) (fun hc6 => ?_)
 · have hok : b.ok = false := by cases h : b.ok <;> simp [h] at hc6 ⊢
   refine cd_region fun K7 hK7 => ?_
   refine sq rfl (st_move hs11 (Ev.t 1 rfl) rfl rfl fun _ _ hs12 => ?_); clear hs11
   have hs13 := hs12.keep [0, 1, 2, 3, 5] [_, _, _, _, _] rfl; clear hs12
   refine sq rfl (st_assign hs13 (.const _) rfl rfl fun _ _ hs14 => ?_); clear hs13
   have hs15 := hs14.keep [0, 1, 2, 3, 5] [_, _, _, _, _] rfl; clear hs14
   refine sq rfl (st_assign hs15 (Ev.t 1 rfl) rfl rfl fun _ _ hs16 => ?_); clear hs15
   refine hK7 _ _ ?_; clear hK7
   have hs17 := hs16.keep [0, 1] [_, _] rfl; clear hs16
   refine cd_retv (vs := [.int .i64 0, .int .i64 (if b.ok then 0 else 90)]) hs17 (fun a_ w_ h => th_ret (hQ0 a_ w_ h)) rfl ⟨.tmp 1 rfl, .tmp 0 rfl, trivial⟩ ?_
   clear hs17 hQ0 hN0 hK3
   first | (simp [pack, Bx.wrongR, hok]; done) | (simp only [pack, Bx.wrongR, hok, if_true, hgr]; done) | (simp only [pack, Bx.wrongR, hok, if_true, hgr, if_false, hwi]; done)
 · have hok : b.ok = true := by cases h : b.ok <;> simp [h] at hc6 ⊢
   have hO := ok_iff.1 hok
   have hl1 := hP.len; have hct := hO.count
   refine cd_skip ?_
   refine th_norm (hK3 _ _ ?_)
   refine cd_region fun K8 hK8 => ?_
   refine sq rfl (st_assign hs11 (.const _) rfl rfl fun _ _ hs12 => ?_); clear hs11
   refine hK8 _ _ ?_; clear hK8
   have hs13 := hs12.keep [0, 3, 4, 5] [_, _, _, _] rfl; clear hs12
   refine cd_seq fun K9 hK9 => ?_
   refine cd_region fun K10 hK10 => ?_
   refine sq rfl (st_loadA (o := 0) (off := 0) (vs := (bxL b A n cp A2 n2 c2)) hs13 (Ev.t 3 rfl) rfl rfl isAgg25 sizeOf25 (hs13.cells 0 rfl) rfl fun _ _ hs14 => ?_); clear hs13
   refine sq rfl (st_call (vs := [.agg ⟨(bxL b A n cp A2 n2 c2)⟩]) hs14 (.func _) ⟨(Ev.t 0 rfl), trivial⟩ rfl rfl call51 rfl (opened_b b A n cp A2 n2 c2 _ (hP.kp hs14.kp) hn (hF.kp hs14.kp) hn2 hO) fun v12 bs13 a_15 w_15 hp15 hs15 => ?_); clear hs14
   obtain ⟨A11, c11, b11, o11, m11, rfl, hO11, rfl⟩ := hp15
   have hs16 := Sx.as (T' := [_, _, _, _, _, _]) (B' := [_, _, _]) rfl rfl hs15; clear hs15
   refine sq rfl (st_call (vs := [.agg ⟨(boxL b A n cp A2 n2 c2 A11 n c11 m11)⟩]) hs16 (.func _) ⟨(Ev.t 0 rfl), trivial⟩ rfl rfl call56 rfl (all_b b A n cp A2 n2 c2 A11 n c11 m11 b.sold _ (hP.kp hs16.kp) hn (by have h := hO11.at hs16 0 rfl; rw [soldlen hO, ← hP.len] at h; exact h) hO.wf) fun v14 bs15 a_17 w_17 hp17 hs17 => ?_); clear hs16
   obtain ⟨bw8, ow8, rfl, hOw8, rfl⟩ := hp17
   have hs18 := Sx.as (T' := [_, _, _, _, _, _, _]) (B' := [_, _, _, _]) rfl rfl hs17; clear hs17
   refine sq rfl (st_move hs18 (.const _) rfl rfl fun _ _ hs19 => ?_); clear hs18
   refine hK10 _ _ ?_; clear hK10
   have hs20 := hs19.keep [0, 1, 4, 5, 6, 7] [_, _, _, _, _, _] rfl; clear hs19
   refine cd_block ?_
   have hs21 : Sx 40 [] [(16, .int .i64 (0 : Int)), (15, .pointer (some ⟨bw8, 0, none⟩)), (5, .int .i64 (b.wrongTo 0)), (3, .int .i64 0), (2, .int .i64 0), (1, .pointer (some ⟨b2, 0, none⟩))] [(bw8, ow8), (b11, o11), (m11, some (.map #[] 0)), (b2, some (.cells ⟨(bxL b A n cp A2 n2 c2)⟩ 25 (0, 0)))] [] w _ _ := Sx.keepE [0, 1, 2, 3, 4, 5] _ ⟨⟨_, rfl, rfl⟩, ⟨_, rfl, rfl⟩, ⟨_, rfl, rfl⟩, ⟨_, rfl, rfl⟩, ⟨_, rfl, rfl⟩, ⟨_, rfl, rfl⟩, trivial⟩ hs20; clear hs20
   refine cd_loop (X := Nat) (fun g a_ w_ => (g ≤ 60001) ∧ Sx 40 [] [(16, .int .i64 (g : Int)), (15, .pointer (some ⟨bw8, 0, none⟩)), (5, .int .i64 (b.wrongTo g)), (3, .int .i64 0), (2, .int .i64 0), (1, .pointer (some ⟨b2, 0, none⟩))] [(bw8, ow8), (b11, o11), (m11, some (.map #[] 0)), (b2, some (.cells ⟨(bxL b A n cp A2 n2 c2)⟩ 25 (0, 0)))] [] w a_ w_) (fun g => 60001 - g) (0) ⟨?_, hs21⟩ ?_
   · exact Nat.zero_le _
   intro g a_22 w_22 ⟨hj, hs22⟩; clear hs21
   refine cd_region fun K16 hK16 => ?_
   refine sq rfl (st_cmp (c := decide (((g : Int) : Int) < 60001)) hs22 (Ev.t 0 rfl) (.const _) rfl rfl rfl rfl fun _ _ hs23 => ?_); clear hs22
   refine hK16 _ _ ?_; clear hK16
   refine cd_seq fun K17 hK17 => ?_
   refine cd_cond hs23 (Ev.t 0 rfl) (fun hc18 => ?_) (fun hc18 => ?_)
   · have hjn : g < 60001 := by simp at hc18; omega
     have hwb := wrong_bd (b := b) g (fun a _ => by omega)
     refine cd_skip ?_
     refine th_norm (hK17 _ _ ?_)
     refine cd_seq fun K19 hK19 => ?_
     refine cd_block ?_
     refine cd_drawn mixed hs23 [⟨18, [], Is (.int .i64 (g : Int))⟩, ⟨19, [], Is (.pointer (some ⟨bw8, 0, none⟩))⟩, ⟨20, [1], Is (.pointer (some ⟨bw8, g * 1, none⟩))⟩, ⟨21, [2], Is (.int .i64 ((wf (sums [0] (its b.rolls b.sold))) g))⟩, ⟨6, [0], Is (.int .i64 (g : Int))⟩] (by kernel_rfl) (by kernel_rfl) fun K20 hK20 => ⟨⟨?_, ?_, ?_, ?_, ?_, trivial⟩, ?_⟩
     · rintro T_ B_ a_ w_ K_ hT hB hf hsD hk
       exact ob rfl rfl (st_move hsD (evT hT 1 rfl) rfl hf fun _ _ => hk _ _ _ _ ⟨rfl, rfl⟩)
     · rintro T_ B_ a_ w_ K_ hT hB hf hsD hk
       exact ob rfl rfl (st_nilCheck hsD (evT hT 2 rfl) rfl hf fun _ _ => hk _ _ _ _ ⟨rfl, rfl⟩)
     · rintro T_ B_ a_ w_ K_ hT hB _ _ ⟨rfl, rfl⟩ h19 - hf hsD hk
       exact ob rfl rfl (st_indexArr (o' := g * 1) hsD (Ev.tmp h19) (evT hT 1 rfl) rfl hf runUnderlying100 sizeOf3 ⟨by omega, by omega⟩ (by simp) fun _ _ => hk _ _ _ _ ⟨rfl, rfl⟩)
     · rintro T_ B_ a_ w_ K_ hT hB _ _ ⟨rfl, rfl⟩ h20 - hf hsD hk
       exact ob rfl rfl (st_load1 (o := (g * 1)) (off := 0) (v := .int .i64 ((wf (sums [0] (its b.rolls b.sold))) g)) hsD (Ev.tmp h20) rfl hf isAgg3 (own_cellM hsD hOw8 (hB _ (mem_nth (i := 0) rfl)) (arr_at (by omega))) rfl fun _ _ => hk _ _ _ _ ⟨rfl, rfl⟩)
     · rintro T_ B_ a_ w_ K_ hT hB _ _ ⟨rfl, rfl⟩ h18 - hf hsD hk
       exact ob rfl rfl (st_assign hsD (Ev.tmp h18) rfl hf fun _ _ => hk _ _ _ _ ⟨rfl, rfl⟩)
     rintro _ _ ⟨rfl, rfl⟩ _ _ ⟨rfl, rfl⟩ _ _ ⟨rfl, rfl⟩ _ _ ⟨rfl, rfl⟩ _ _ ⟨rfl, rfl⟩ a_24 w_24 hs24; clear hs23
     have hs25 := Sx.as (T' := [_, _, _, _, _, _, _, _, _, _, _, _]) (B' := [_, _, _, _]) rfl rfl hs24; clear hs24
     refine sq rfl (st_assign hs25 (Ev.t 3 rfl) rfl rfl fun _ _ hs26 => ?_); clear hs25
     refine hK20 _ _ ?_; clear hK20
     have hs27 := hs26.keep [0, 5, 7, 8, 9, 10, 11, 12] [_, _, _, _, _, _, _, _] rfl; clear hs26
     refine cd_region fun K21 hK21 => ?_
     refine sq rfl (st_move hs27 (Ev.t 0 rfl) rfl rfl fun _ _ hs28 => ?_); clear hs27
     refine sq rfl (st_cmp (c := decide (((wf (sums [0] (its b.rolls b.sold))) g : Int) > 0)) hs28 (Ev.t 0 rfl) (.const _) rfl rfl rfl rfl fun _ _ hs29 => ?_); clear hs28
     refine hK21 _ _ ?_; clear hK21
     have hs30 := hs29.keep [0, 3, 4, 5, 6, 7, 8, 9] [_, _, _, _, _, _, _, _] rfl; clear hs29
     refine cd_cond hs30 (Ev.t 0 rfl) (fun hc22 => ?_) (fun hc22 => ?_)
     · have hwq : 0 < wf b.all g := of_decide_eq_true hc22
       have hstep : b.wrongTo (g + 1) = min (b.wrongTo g) (max ((g : Int) - b.count) (b.count - (g : Int))) := by rw [Bx.wrongTo, if_pos hwq]
       refine cd_region1 ?_
       refine sq rfl (st_move hs30 (Ev.t 4 rfl) rfl rfl fun _ _ hs31 => ?_); clear hs30
       refine sq rfl (st_move hs31 (Ev.t 2 rfl) rfl rfl fun _ _ hs32 => ?_); clear hs31
       refine sq rfl (st_field (o' := 2) hs32 (Ev.t 9 rfl) rfl rfl runUnderlying25 rfl sizeOf3 rfl rfl fun _ _ hs33 => ?_); clear hs32
       refine sq rfl (st_load1 (o := 0) (off := 2) (v := .int .i64 b.count) hs33 (Ev.t 0 rfl) rfl rfl isAgg3 (hs33.cells 3 rfl) rfl fun _ _ hs34 => ?_); clear hs33
       refine sq rfl (st_sub (z := (g : Int) - b.count) hs34 (Ev.t 2 rfl) (Ev.t 0 rfl) rfl rfl rfl (by omega) fun _ _ hs35 => ?_); clear hs34
       refine sq rfl (st_field (o' := 2) hs35 (Ev.t 12 rfl) rfl rfl runUnderlying25 rfl sizeOf3 rfl rfl fun _ _ hs36 => ?_); clear hs35
       refine sq rfl (st_load1 (o := 0) (off := 2) (v := .int .i64 b.count) hs36 (Ev.t 0 rfl) rfl rfl isAgg3 (hs36.cells 3 rfl) rfl fun _ _ hs37 => ?_); clear hs36
       refine sq rfl (st_move hs37 (Ev.t 8 rfl) rfl rfl fun _ _ hs38 => ?_); clear hs37
       refine sq rfl (st_sub (z := b.count - (g : Int)) hs38 (Ev.t 1 rfl) (Ev.t 0 rfl) rfl rfl rfl (by omega) fun _ _ hs39 => ?_); clear hs38
       refine sq rfl (st_buildSlice hs39 (qs := [(0, .int .i64 (b.count - (g : Int)))]) (e := 3) (l := [.int .i64 (b.count - (g : Int))]) ⟨(Ev.t 0 rfl), trivial⟩ rfl rfl rfl (fun _ => by kernel_rfl) fun b23 _ _ hs40 => ?_); clear hs39
       refine sq rfl (st_callv (vs := [.int .i64 ((g : Int) - b.count), .slice (some ⟨b23, 0, none⟩) 1 1]) hs40 (.func _) ⟨(Ev.t 5 rfl), (Ev.t 0 rfl), trivial⟩ rfl rfl call49 rfl (great_v ((g : Int) - b.count) (b.count - (g : Int)) b23 _ (hs40.cells 0 rfl)) fun _ _ hs41 => ?_); clear hs40
       refine sq rfl (st_min hs41 (Ev.t 10 rfl) (Ev.t 0 rfl) rfl rfl fun _ _ hs42 => ?_); clear hs41
       have hs43 := hs42.keep [0, 1, 2, 3, 4, 5, 6, 7, 8, 9, 10, 11, 12, 13, 14, 15, 17, 18, 19] [_, _, _, _, _, _, _, _, _, _, _, _, _, _, _, _, _, _, _] rfl; clear hs42
       refine sq rfl (st_assign hs43 (Ev.t 0 rfl) rfl rfl fun _ _ hs44 => ?_); clear hs43
       refine wpListIn_nil ?_
       have hs45 := hs44.keep [0, 15, 16, 17, 18, 19] [_, _, _, _, _, _] rfl; clear hs44
       refine in_norm ?_
       refine th_norm (hK19 _ _ ?_)
       refine cd_region1 ?_
       refine sq rfl (st_add (z := (g : Int) + 1) hs45 (Ev.t 1 rfl) (.const _) rfl rfl rfl (by omega) fun _ _ hs46 => ?_); clear hs45
       have hs47 := hs46.keep [0, 1, 3, 4, 5, 6] [_, _, _, _, _, _] rfl; clear hs46
       refine sq rfl (st_move hs47 (Ev.t 0 rfl) rfl rfl fun _ _ hs48 => ?_); clear hs47
       refine wpListIn_nil ?_
       have hs49 := hs48.keep [0, 2, 3, 4, 5, 6] [_, _, _, _, _, _] rfl; clear hs48
       refine ⟨g + 1, ⟨?_, ?_⟩, by (show 60001 - (g + 1) < 60001 - g; omega)⟩
       · exact hjn
       have hs50 : Sx 40 [] [(16, .int .i64 ((g : Int) + 1)), (5, .int .i64 (min (b.wrongTo g) (max ((g : Int) - b.count) (b.count - (g : Int))))), (15, .pointer (some ⟨bw8, 0, none⟩)), (3, .int .i64 0), (2, .int .i64 0), (1, .pointer (some ⟨b2, 0, none⟩))] [(bw8, ow8), (b11, o11), (m11, some (.map #[] 0)), (b2, some (.cells ⟨(bxL b A n cp A2 n2 c2)⟩ 25 (0, 0)))] [] w _ _ := Sx.blks hs49 ((List.Sublist.cons _ (List.Sublist.cons_cons _ (List.Sublist.cons_cons _ (List.Sublist.cons_cons _ (List.Sublist.cons_cons _ List.Sublist.slnil))))))
       exact Sx.keepE [0, 2, 1, 3, 4, 5] _ ⟨⟨_, rfl, rfl⟩, ⟨_, rfl, rfl⟩, ⟨_, rfl, by rw [hstep]⟩, ⟨_, rfl, rfl⟩, ⟨_, rfl, rfl⟩, ⟨_, rfl, rfl⟩, trivial⟩ hs50
     · have hwq : ¬ 0 < wf b.all g := of_decide_eq_false hc22
       have hstep : b.wrongTo (g + 1) = b.wrongTo g := by rw [Bx.wrongTo, if_neg hwq]
       refine cd_skip ?_
       refine in_norm ?_
       refine th_norm (hK19 _ _ ?_)
       refine cd_region1 ?_
       refine sq rfl (st_add (z := (g : Int) + 1) hs30 (Ev.t 2 rfl) (.const _) rfl rfl rfl (by omega) fun _ _ hs31 => ?_); clear hs30
       have hs32 := hs31.keep [0, 1, 2, 4, 5, 6, 7, 8] [_, _, _, _, _, _, _, _] rfl; clear hs31
       refine sq rfl (st_move hs32 (Ev.t 0 rfl) rfl rfl fun _ _ hs33 => ?_); clear hs32
       refine wpListIn_nil ?_
       have hs34 := hs33.keep [0, 4, 5, 6, 7, 8] [_, _, _, _, _, _] rfl; clear hs33
       refine ⟨g + 1, ⟨?_, ?_⟩, by (show 60001 - (g + 1) < 60001 - g; omega)⟩
       · exact hjn
       exact Sx.keepE [0, 1, 2, 3, 4, 5] _ ⟨⟨_, rfl, rfl⟩, ⟨_, rfl, rfl⟩, ⟨_, rfl, by rw [hstep]⟩, ⟨_, rfl, rfl⟩, ⟨_, rfl, rfl⟩, ⟨_, rfl, rfl⟩, trivial⟩ hs34
   · have hge : g = 60001 := by simp at hc18; omega
     have hwi : b.wrongTo g = b.wrongI := by rw [hge]; rfl
     refine cd_exit ?_
     refine th_exit ?_
     refine th_exit ?_
     refine in_hit ?_
     refine th_norm (hK9 _ _ ?_)
     refine cd_seq fun K24 hK24 => ?_
     refine cd_region fun K25 hK25 => ?_
     refine sq rfl (st_move hs23 (Ev.t 3 rfl) rfl rfl fun _ _ hs24 => ?_); clear hs23
     refine sq rfl (st_cmp (c := decide ((b.wrongTo g : Int) > 200)) hs24 (Ev.t 0 rfl) (.const _) rfl rfl rfl rfl fun _ _ hs25 => ?_); clear hs24
     refine hK25 _ _ ?_; clear hK25
     have hs26 := hs25.keep [0, 5, 6, 7] [_, _, _, _] rfl; clear hs25
     refine cd_cond hs26 (Ev.t 0 rfl) (fun hc26 => ?_) (fun hc26 => ?_)
     · have hgr := of_decide_eq_true hc26
       rw [hwi] at hgr
       refine cd_region fun K27 hK27 => ?_
       have hs27 := hs26.keep [0, 1, 2] [_, _, _] rfl; clear hs26
       refine sq rfl (st_assign hs27 (.const _) rfl rfl fun _ _ hs28 => ?_); clear hs27
       have hs29 := hs28.keep [0, 1, 2] [_, _, _] rfl; clear hs28
       refine sq rfl (st_assign hs29 (.const _) rfl rfl fun _ _ hs30 => ?_); clear hs29
       refine hK27 _ _ ?_; clear hK27
       have hs31 := hs30.keep [0, 1] [_, _] rfl; clear hs30
       refine cd_retv (vs := [.int .i64 0, .int .i64 4]) hs31 (fun a_ w_ h => th_ret (hQ0 a_ w_ h)) rfl ⟨.tmp 1 rfl, .tmp 0 rfl, trivial⟩ ?_
       clear hs31 hQ0 hN0 hK24
       first | (simp [pack, Bx.wrongR, hok]; done) | (simp only [pack, Bx.wrongR, hok, if_true, hgr]; done) | (simp only [pack, Bx.wrongR, hok, if_true, hgr, if_false, hwi]; done)
     · have hgr := of_decide_eq_false hc26
       rw [hwi] at hgr
       refine cd_skip ?_
       refine th_norm (hK24 _ _ ?_)
       refine cd_region fun K28 hK28 => ?_
       refine sq rfl (st_move hs26 (Ev.t 1 rfl) rfl rfl fun _ _ hs27 => ?_); clear hs26
       have hs28 := hs27.keep [0, 1, 2, 3] [_, _, _, _] rfl; clear hs27
       refine sq rfl (st_assign hs28 (Ev.t 0 rfl) rfl rfl fun _ _ hs29 => ?_); clear hs28
       have hs30 := hs29.keep [0, 1, 2, 3] [_, _, _, _] rfl; clear hs29
       refine sq rfl (st_assign hs30 (.const _) rfl rfl fun _ _ hs31 => ?_); clear hs30
       refine hK28 _ _ ?_; clear hK28
       have hs32 := hs31.keep [0, 1] [_, _] rfl; clear hs31
       refine cd_retv (vs := [.int .i64 (b.wrongTo g), .int .i64 0]) hs32 hQ0 rfl ⟨.tmp 1 rfl, .tmp 0 rfl, trivial⟩ ?_
       clear hs32 hQ0 hN0
       first | (simp [pack, Bx.wrongR, hok]; done) | (simp only [pack, Bx.wrongR, hok, if_true, hgr]; done) | (simp only [pack, Bx.wrongR, hok, if_true, hgr, if_false, hwi]; done)
end Go.Proofs.YtcnndpedeofbmaaDoor
