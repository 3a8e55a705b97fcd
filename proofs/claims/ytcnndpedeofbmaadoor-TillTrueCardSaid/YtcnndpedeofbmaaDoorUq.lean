/- The law TillTrue: its walk. -/
import Derived.Test.YtcnndpedeofbmaaDoorUp
set_option maxRecDepth 100000
namespace Go.Proofs.YtcnndpedeofbmaaDoor
open Go Go.Sx Go.Till Go.Proofs.Tryd
theorem tak_part {b : Bx} (hO : Ok b) {xs : List Int} (hl : xs.length = b.rolls.length) (h : canB b b.sold xs = true) {g : Nat} (hg : g ≤ xs.length) : 0 ≤ tak b.rolls (xs.take g) ∧ tak b.rolls (xs.take g) ≤ 60000 := by
  refine tak_range hO (by rw [List.length_take]; omega) (canB_iff.2 (fun i x s hx hs => canB_iff.1 h i x s ?_ hs))
  rw [List.getElem?_take] at hx
  split at hx
  · exact hx
  · cases hx

theorem TillTrue_v (b : Bx) (A : Option Addr) (n cp : Nat) (A2 : Option Addr) (n2 c2 : Nat) (A4 : Option Addr) (n4 c4 : Nat) (xs : List Int) (w : World) (hP : RollsAt w A n b.rolls) (hn : n ≤ 140737488351232) (hF : SpsAt w A2 n2 b.free) (hn2 : n2 ≤ 140737488351232) (hX : IntsAt w A4 n4 xs) (hn4 : n4 ≤ 140737488351232) (hG : CellsAt w 0 0 partsL) :
    CallsV Tryd.prog 8 [.agg ⟨(bxL b A n cp A2 n2 c2)⟩, .slice A4 n4 c4] w (.bool true) := by
 refine enter (N := 228) (M := []) w func8 rfl rfl rfl (fun Q0 a_0 hQ0 hN0 hs0 => ?_)
 rcases hok : b.ok with _ | _
 · skip
   refine cd_region fun K1 hK1 => ?_
   refine sq rfl (st_box hs0 (Ev.t 0 rfl) rfl rfl rfl fun b2 _ _ hs1 => ?_); clear hs0
   refine sq rfl (st_assign hs1 (.const _) rfl rfl fun _ _ hs2 => ?_); clear hs1
   refine hK1 _ _ ?_; clear hK1
   have hs3 := hs2.keep [0, 1, 3] [_, _, _] rfl; clear hs2
   refine cd_seq fun K3 hK3 => ?_
   refine cd_region fun K4 hK4 => ?_
   refine sq rfl (st_loadA (o := 0) (off := 0) (vs := (bxL b A n cp A2 n2 c2)) hs3 (Ev.t 1 rfl) rfl rfl isAgg25 sizeOf25 (hs3.cells 0 rfl) rfl fun _ _ hs4 => ?_); clear hs3
   refine sq rfl (st_callv (vs := [.agg ⟨(bxL b A n cp A2 n2 c2)⟩]) hs4 (.func _) ⟨(Ev.t 0 rfl), trivial⟩ rfl rfl call13 rfl (callsV_eq (v' := .bool false) (sound_v b A n cp A2 n2 c2 _ (hP.kp hs4.kp) hn (hF.kp hs4.kp) hn2) (by rw [hok])) fun _ _ hs5 => ?_); clear hs4
   refine sq rfl (st_not hs5 (Ev.t 0 rfl) rfl rfl fun _ _ hs6 => ?_); clear hs5
   refine hK4 _ _ ?_; clear hK4
   have hs7 := hs6.keep [0, 3, 4, 5] [_, _, _, _] rfl; clear hs6
   have hc5 : true = true := rfl
   refine cd_cond hs7 (Ev.t 0 rfl) (fun _ => ?_) (fun h => absurd (hc5.symm.trans h) (by decide))
   refine cd_region fun K6 hK6 => ?_
   refine sq rfl (st_callv (vs := []) hs7 (.func _) trivial rfl rfl call14 rfl (counted_v _ (hG.kp hs7.kp (by simp))) fun _ _ hs8 => ?_); clear hs7
   have hs9 := hs8.keep [0, 1, 3, 4] [_, _, _, _] rfl; clear hs8
   refine sq rfl (st_assign hs9 (Ev.t 0 rfl) rfl rfl fun _ _ hs10 => ?_); clear hs9
   refine hK6 _ _ ?_; clear hK6
   have hs11 := hs10.keep [0] [_] rfl; clear hs10
   refine cd_retv (vs := [.bool true]) hs11 (fun a_ w_ h => th_ret (hQ0 a_ w_ h)) rfl ⟨.tmp 0 rfl, trivial⟩ ?_
   clear hs11 hQ0 hN0 hK3
   rfl
 · skip
   have hO := ok_iff.1 hok
   refine cd_region fun K7 hK7 => ?_
   refine sq rfl (st_box hs0 (Ev.t 0 rfl) rfl rfl rfl fun b8 _ _ hs1 => ?_); clear hs0
   refine sq rfl (st_assign hs1 (.const _) rfl rfl fun _ _ hs2 => ?_); clear hs1
   refine hK7 _ _ ?_; clear hK7
   have hs3 := hs2.keep [0, 1, 3] [_, _, _] rfl; clear hs2
   refine cd_seq fun K9 hK9 => ?_
   refine cd_region fun K10 hK10 => ?_
   refine sq rfl (st_loadA (o := 0) (off := 0) (vs := (bxL b A n cp A2 n2 c2)) hs3 (Ev.t 1 rfl) rfl rfl isAgg25 sizeOf25 (hs3.cells 0 rfl) rfl fun _ _ hs4 => ?_); clear hs3
   refine sq rfl (st_callv (vs := [.agg ⟨(bxL b A n cp A2 n2 c2)⟩]) hs4 (.func _) ⟨(Ev.t 0 rfl), trivial⟩ rfl rfl call13 rfl (callsV_eq (v' := .bool true) (sound_v b A n cp A2 n2 c2 _ (hP.kp hs4.kp) hn (hF.kp hs4.kp) hn2) (by rw [hok])) fun _ _ hs5 => ?_); clear hs4
   refine sq rfl (st_not hs5 (Ev.t 0 rfl) rfl rfl fun _ _ hs6 => ?_); clear hs5
   refine hK10 _ _ ?_; clear hK10
   have hs7 := hs6.keep [0, 3, 4, 5] [_, _, _, _] rfl; clear hs6
   have hc11 : false = false := rfl
   refine cd_cond hs7 (Ev.t 0 rfl) (fun h => absurd (hc11.symm.trans h) (by decide)) (fun _ => ?_)
   refine cd_skip ?_
   refine th_norm (hK9 _ _ ?_)
   refine cd_region fun K12 hK12 => ?_
   refine sq rfl (st_loadA (o := 0) (off := 0) (vs := (bxL b A n cp A2 n2 c2)) hs7 (Ev.t 2 rfl) rfl rfl isAgg25 sizeOf25 (hs7.cells 0 rfl) rfl fun _ _ hs8 => ?_); clear hs7
   refine sq rfl (st_move hs8 (Ev.t 4 rfl) rfl rfl fun _ _ hs9 => ?_); clear hs8
   refine sq rfl (st_call (vs := [.agg ⟨(bxL b A n cp A2 n2 c2)⟩, .slice A4 n4 c4]) hs9 (.func _) ⟨(Ev.t 1 rfl), (Ev.t 0 rfl), trivial⟩ rfl rfl call40 rfl (closed_b b A n cp A2 n2 c2 A4 n4 c4 xs _ (hP.kp hs9.kp) hn (hF.kp hs9.kp) hn2 (hX.kp hs9.kp) (by omega) hO) fun v13 bs14 a_10 w_10 hp10 hs10 => ?_); clear hs9
   obtain ⟨A7, c7, b7, o7, l7, d7, k7, rfl, rfl, hO7, hk7⟩ := hp10
   have hs11 := Sx.as (T' := [_, _, _, _, _, _, _]) (B' := [_, _]) rfl rfl hs10; clear hs10
   refine sq rfl (st_move hs11 (Ev.t 0 rfl) rfl rfl fun _ _ hs12 => ?_); clear hs11
   refine sq rfl (st_extract hs12 (Ev.t 0 rfl) rfl rfl rfl fun _ _ hs13 => ?_); clear hs12
   refine sq rfl (st_extract hs13 (Ev.t 1 rfl) rfl rfl rfl fun _ _ hs14 => ?_); clear hs13
   refine sq rfl (st_extract hs14 (Ev.t 2 rfl) rfl rfl rfl fun _ _ hs15 => ?_); clear hs14
   refine sq rfl (st_alloc hs15 rfl rfl zeroValue25 rfl fun b15 _ _ hs16 => ?_); clear hs15
   refine sq rfl (st_store (l' := (bxL (b.setCount d7) A n cp A2 n2 c2)) (vs := (bxL (b.setCount d7) A n cp A2 n2 c2)) (i := 0) hs16 (Ev.t 0 rfl) (Ev.t 3 rfl) sizeOf25 rfl rfl rfl rfl rfl rfl fun _ _ hs17 => ?_); clear hs16
   have hs18 := hs17.asB [_, _, _] rfl; clear hs17
   refine sq rfl (st_assign hs18 (Ev.t 2 rfl) rfl rfl fun _ _ hs19 => ?_); clear hs18
   refine sq rfl (st_assign hs19 (Ev.t 2 rfl) rfl rfl fun _ _ hs20 => ?_); clear hs19
   refine hK12 _ _ ?_; clear hK12
   have hs21 := hs20.keep [0, 1, 2, 11] [_, _, _, _] rfl; clear hs20
   refine cd_seq fun K16 hK16 => ?_
   refine cd_region fun K17 hK17 => ?_
   refine sq rfl (st_move hs21 (Ev.t 0 rfl) rfl rfl fun _ _ hs22 => ?_); clear hs21
   refine sq rfl (st_not hs22 (Ev.t 0 rfl) rfl rfl fun _ _ hs23 => ?_); clear hs22
   refine hK17 _ _ ?_; clear hK17
   have hs24 := hs23.keep [0, 3, 4, 5] [_, _, _, _] rfl; clear hs23
   refine cd_cond hs24 (Ev.t 0 rfl) (fun hc18 => ?_) (fun hc18 => ?_)
   · refine cd_region fun K19 hK19 => ?_
     refine sq rfl (st_callv (vs := []) hs24 (.func _) trivial rfl rfl call14 rfl (counted_v _ (hG.kp hs24.kp (by simp))) fun _ _ hs25 => ?_); clear hs24
     have hs26 := hs25.keep [0, 1, 2, 3] [_, _, _, _] rfl; clear hs25
     refine sq rfl (st_assign hs26 (Ev.t 0 rfl) rfl rfl fun _ _ hs27 => ?_); clear hs26
     refine hK19 _ _ ?_; clear hK19
     have hs28 := hs27.keep [0] [_] rfl; clear hs27
     refine cd_retv (vs := [.bool true]) hs28 (fun a_ w_ h => th_ret (hQ0 a_ w_ h)) rfl ⟨.tmp 0 rfl, trivial⟩ ?_
     clear hs28 hQ0 hN0 hK16
     rfl
   · have hk9 : k7 = true := by simpa using hc18
     obtain ⟨hl7, hc7, hd7, hr7⟩ := hk7 hk9
     have hX1 := setCount_ok hO hd7
     have hT : tak b.rolls l7 ∈ (b.setCount d7).all := (mem_all hO).2 ⟨l7, hl7, hc7, rfl⟩
     obtain ⟨m, t1, t2, u1, u2, v1, v2, ww, hM, hm1, hmone, hTk, ht12, hU, hu12, hug, hV, hv12, hW, hww⟩ := true_law hX1 hT hr7
     have hTr := truth_law hX1 hl7 hc7 hr7
     have hmn : (b.setCount d7).many ≠ 0 := many_pos.2 ⟨_, hT, hr7⟩
     have ht := tak_range hO (xs := l7) (by omega) hc7
     have hd : 0 ≤ (b.setCount d7).duty ∧ (b.setCount d7).duty ≤ 100 := hO.duty
     have hsh : 0 ≤ (b.setCount d7).share ∧ (b.setCount d7).share ≤ 100 := hO.share
     have hg : 0 ≤ (b.setCount d7).guar ∧ (b.setCount d7).guar ≤ 60000 := hO.guar
     have hdb := duty_bd (b := b.setCount d7) ht hd; have hhb := hire_bd (b := b.setCount d7) ht hd hsh hg; have hlb := left_bd (b := b.setCount d7) ht hd hsh hg
     have hle : leftI (b.setCount d7) (tak b.rolls l7) = (tak b.rolls l7) - dutyI (b.setCount d7) (tak b.rolls l7) - hireI (b.setCount d7) (tak b.rolls l7) := rfl
     have hfar : ww ≤ max ((tak b.rolls l7) - (b.setCount d7).count) ((b.setCount d7).count - (tak b.rolls l7)) := hww.2
     have hcn : (b.setCount d7).count = d7 := rfl
     have hn14 := hO.n
     refine cd_skip ?_
     refine th_norm (hK16 _ _ ?_)
     refine cd_region fun K20 hK20 => ?_
     refine sq rfl (st_loadA (o := 0) (off := 0) (vs := (bxL (b.setCount d7) A n cp A2 n2 c2)) hs24 (Ev.t 2 rfl) rfl rfl isAgg25 sizeOf25 (hs24.cells 0 rfl) rfl fun _ _ hs25 => ?_); clear hs24
     refine sq rfl (st_move hs25 (Ev.t 2 rfl) rfl rfl fun _ _ hs26 => ?_); clear hs25
     refine sq rfl (st_callv (vs := [.agg ⟨(bxL (b.setCount d7) A n cp A2 n2 c2)⟩, .slice A7 l7.length c7]) hs26 (.func _) ⟨(Ev.t 1 rfl), (Ev.t 0 rfl), trivial⟩ rfl rfl call24 rfl (callsV_eq (v' := .tuple ⟨[.bool true, .int .i64 0]⟩) (IsTruth_v (b.setCount d7) A n cp A2 n2 c2 A7 l7.length c7 l7 _ (hP.kp hs26.kp) hn (hF.kp hs26.kp) hn2 (hO7.at hs26 1 rfl) (by omega)) (by rw [hTr])) fun _ _ hs27 => ?_); clear hs26
     refine sq rfl (st_move hs27 (Ev.t 0 rfl) rfl rfl fun _ _ hs28 => ?_); clear hs27
     refine sq rfl (st_extract hs28 (Ev.t 0 rfl) rfl rfl rfl fun _ _ hs29 => ?_); clear hs28
     refine sq rfl (st_extract hs29 (Ev.t 1 rfl) rfl rfl rfl fun _ _ hs30 => ?_); clear hs29
     refine sq rfl (st_assign hs30 (Ev.t 1 rfl) rfl rfl fun _ _ hs31 => ?_); clear hs30
     refine sq rfl (st_assign hs31 (Ev.t 1 rfl) rfl rfl fun _ _ hs32 => ?_); clear hs31
     refine hK20 _ _ ?_; clear hK20
     have hs33 := hs32.keep [0, 1, 9, 10, 11] [_, _, _, _, _] rfl; clear hs32
     refine cd_region fun K21 hK21 => ?_
     refine sq rfl (st_loadA (o := 0) (off := 0) (vs := (bxL (b.setCount d7) A n cp A2 n2 c2)) hs33 (Ev.t 3 rfl) rfl rfl isAgg25 sizeOf25 (hs33.cells 0 rfl) rfl fun _ _ hs34 => ?_); clear hs33
     refine sq rfl (st_callv (vs := [.agg ⟨(bxL (b.setCount d7) A n cp A2 n2 c2)⟩]) hs34 (.func _) ⟨(Ev.t 0 rfl), trivial⟩ rfl rfl call15 rfl (callsV_eq (v' := .tuple ⟨[.int .i64 m, .int .i64 0]⟩) (Many_v (b.setCount d7) A n cp A2 n2 c2 _ (hP.kp hs34.kp) hn (hF.kp hs34.kp) hn2) (by rw [hM])) fun _ _ hs35 => ?_); clear hs34
     refine sq rfl (st_move hs35 (Ev.t 0 rfl) rfl rfl fun _ _ hs36 => ?_); clear hs35
     refine sq rfl (st_extract hs36 (Ev.t 0 rfl) rfl rfl rfl fun _ _ hs37 => ?_); clear hs36
     refine sq rfl (st_extract hs37 (Ev.t 1 rfl) rfl rfl rfl fun _ _ hs38 => ?_); clear hs37
     refine sq rfl (st_assign hs38 (Ev.t 1 rfl) rfl rfl fun _ _ hs39 => ?_); clear hs38
     refine sq rfl (st_assign hs39 (Ev.t 1 rfl) rfl rfl fun _ _ hs40 => ?_); clear hs39
     refine hK21 _ _ ?_; clear hK21
     have hs41 := hs40.keep [0, 1, 7, 8, 9, 10, 11] [_, _, _, _, _, _, _] rfl; clear hs40
     refine cd_region fun K22 hK22 => ?_
     refine sq rfl (st_loadA (o := 0) (off := 0) (vs := (bxL (b.setCount d7) A n cp A2 n2 c2)) hs41 (Ev.t 5 rfl) rfl rfl isAgg25 sizeOf25 (hs41.cells 0 rfl) rfl fun _ _ hs42 => ?_); clear hs41
     refine sq rfl (st_callv (vs := [.agg ⟨(bxL (b.setCount d7) A n cp A2 n2 c2)⟩]) hs42 (.func _) ⟨(Ev.t 0 rfl), trivial⟩ rfl rfl call25 rfl (callsV_eq (v' := .tuple ⟨[.agg ⟨[.int .i64 t1, .int .i64 t2]⟩, .int .i64 0]⟩) (Takings_v (b.setCount d7) A n cp A2 n2 c2 _ (hP.kp hs42.kp) hn (hF.kp hs42.kp) hn2 (hG.kp hs42.kp (by simp))) (by rw [show (b.setCount d7).betweenR wholeI = (⟨t1, t2⟩, 0) from hTk])) fun _ _ hs43 => ?_); clear hs42
     refine sq rfl (st_move hs43 (Ev.t 0 rfl) rfl rfl fun _ _ hs44 => ?_); clear hs43
     refine sq rfl (st_extract hs44 (Ev.t 0 rfl) rfl rfl rfl fun _ _ hs45 => ?_); clear hs44
     refine sq rfl (st_extract hs45 (Ev.t 1 rfl) rfl rfl rfl fun _ _ hs46 => ?_); clear hs45
     refine sq rfl (st_alloc hs46 rfl rfl zeroValue35 rfl fun b23 _ _ hs47 => ?_); clear hs46
     refine sq rfl (st_store (l' := [.int .i64 t1, .int .i64 t2]) (vs := [.int .i64 t1, .int .i64 t2]) (i := 0) hs47 (Ev.t 0 rfl) (Ev.t 2 rfl) sizeOf35 rfl rfl rfl rfl rfl rfl fun _ _ hs48 => ?_); clear hs47
     have hs49 := hs48.asB [_, _, _, _] rfl; clear hs48
     refine sq rfl (st_assign hs49 (Ev.t 1 rfl) rfl rfl fun _ _ hs50 => ?_); clear hs49
     refine hK22 _ _ ?_; clear hK22
     have hs51 := hs50.keep [0, 1, 7, 8, 9, 10, 11, 12, 13] [_, _, _, _, _, _, _, _, _] rfl; clear hs50
     refine cd_region fun K24 hK24 => ?_
     refine sq rfl (st_loadA (o := 0) (off := 0) (vs := (bxL (b.setCount d7) A n cp A2 n2 c2)) hs51 (Ev.t 7 rfl) rfl rfl isAgg25 sizeOf25 (hs51.cells 1 rfl) rfl fun _ _ hs52 => ?_); clear hs51
     refine sq rfl (st_callv (vs := [.agg ⟨(bxL (b.setCount d7) A n cp A2 n2 c2)⟩]) hs52 (.func _) ⟨(Ev.t 0 rfl), trivial⟩ rfl rfl call26 rfl (callsV_eq (v' := .tuple ⟨[.agg ⟨[.int .i64 u1, .int .i64 u2]⟩, .int .i64 0]⟩) (Hire_v (b.setCount d7) A n cp A2 n2 c2 _ (hP.kp hs52.kp) hn (hF.kp hs52.kp) hn2 (hG.kp hs52.kp (by simp))) (by rw [hU])) fun _ _ hs53 => ?_); clear hs52
     refine sq rfl (st_move hs53 (Ev.t 0 rfl) rfl rfl fun _ _ hs54 => ?_); clear hs53
     refine sq rfl (st_extract hs54 (Ev.t 0 rfl) rfl rfl rfl fun _ _ hs55 => ?_); clear hs54
     refine sq rfl (st_extract hs55 (Ev.t 1 rfl) rfl rfl rfl fun _ _ hs56 => ?_); clear hs55
     refine sq rfl (st_alloc hs56 rfl rfl zeroValue35 rfl fun b25 _ _ hs57 => ?_); clear hs56
     refine sq rfl (st_store (l' := [.int .i64 u1, .int .i64 u2]) (vs := [.int .i64 u1, .int .i64 u2]) (i := 0) hs57 (Ev.t 0 rfl) (Ev.t 2 rfl) sizeOf35 rfl rfl rfl rfl rfl rfl fun _ _ hs58 => ?_); clear hs57
     have hs59 := hs58.asB [_, _, _, _, _] rfl; clear hs58
     refine sq rfl (st_assign hs59 (Ev.t 1 rfl) rfl rfl fun _ _ hs60 => ?_); clear hs59
     refine hK24 _ _ ?_; clear hK24
     have hs61 := hs60.keep [0, 1, 7, 8, 9, 10, 11, 12, 13, 14, 15] [_, _, _, _, _, _, _, _, _, _, _] rfl; clear hs60
     refine cd_region fun K26 hK26 => ?_
     refine sq rfl (st_loadA (o := 0) (off := 0) (vs := (bxL (b.setCount d7) A n cp A2 n2 c2)) hs61 (Ev.t 9 rfl) rfl rfl isAgg25 sizeOf25 (hs61.cells 2 rfl) rfl fun _ _ hs62 => ?_); clear hs61
     refine sq rfl (st_callv (vs := [.agg ⟨(bxL (b.setCount d7) A n cp A2 n2 c2)⟩]) hs62 (.func _) ⟨(Ev.t 0 rfl), trivial⟩ rfl rfl call27 rfl (callsV_eq (v' := .tuple ⟨[.agg ⟨[.int .i64 v1, .int .i64 v2]⟩, .int .i64 0]⟩) (Left_v (b.setCount d7) A n cp A2 n2 c2 _ (hP.kp hs62.kp) hn (hF.kp hs62.kp) hn2 (hG.kp hs62.kp (by simp))) (by rw [hV])) fun _ _ hs63 => ?_); clear hs62
     refine sq rfl (st_move hs63 (Ev.t 0 rfl) rfl rfl fun _ _ hs64 => ?_); clear hs63
     refine sq rfl (st_extract hs64 (Ev.t 0 rfl) rfl rfl rfl fun _ _ hs65 => ?_); clear hs64
     refine sq rfl (st_extract hs65 (Ev.t 1 rfl) rfl rfl rfl fun _ _ hs66 => ?_); clear hs65
     refine sq rfl (st_alloc hs66 rfl rfl zeroValue35 rfl fun b27 _ _ hs67 => ?_); clear hs66
     refine sq rfl (st_store (l' := [.int .i64 v1, .int .i64 v2]) (vs := [.int .i64 v1, .int .i64 v2]) (i := 0) hs67 (Ev.t 0 rfl) (Ev.t 2 rfl) sizeOf35 rfl rfl rfl rfl rfl rfl fun _ _ hs68 => ?_); clear hs67
     have hs69 := hs68.asB [_, _, _, _, _, _] rfl; clear hs68
     refine sq rfl (st_assign hs69 (Ev.t 1 rfl) rfl rfl fun _ _ hs70 => ?_); clear hs69
     refine hK26 _ _ ?_; clear hK26
     have hs71 := hs70.keep [0, 1, 7, 8, 9, 10, 11, 12, 13, 14, 15, 16, 17] [_, _, _, _, _, _, _, _, _, _, _, _, _] rfl; clear hs70
     refine cd_region fun K28 hK28 => ?_
     refine sq rfl (st_loadA (o := 0) (off := 0) (vs := (bxL (b.setCount d7) A n cp A2 n2 c2)) hs71 (Ev.t 11 rfl) rfl rfl isAgg25 sizeOf25 (hs71.cells 3 rfl) rfl fun _ _ hs72 => ?_); clear hs71
     refine sq rfl (st_callv (vs := [.agg ⟨(bxL (b.setCount d7) A n cp A2 n2 c2)⟩]) hs72 (.func _) ⟨(Ev.t 0 rfl), trivial⟩ rfl rfl call28 rfl (callsV_eq (v' := .tuple ⟨[.int .i64 ww, .int .i64 0]⟩) (Wrong_v (b.setCount d7) A n cp A2 n2 c2 _ (hP.kp hs72.kp) hn (hF.kp hs72.kp) hn2) (by rw [hW])) fun _ _ hs73 => ?_); clear hs72
     refine sq rfl (st_move hs73 (Ev.t 0 rfl) rfl rfl fun _ _ hs74 => ?_); clear hs73
     refine sq rfl (st_extract hs74 (Ev.t 0 rfl) rfl rfl rfl fun _ _ hs75 => ?_); clear hs74
     refine sq rfl (st_extract hs75 (Ev.t 1 rfl) rfl rfl rfl fun _ _ hs76 => ?_); clear hs75
     refine sq rfl (st_assign hs76 (Ev.t 1 rfl) rfl rfl fun _ _ hs77 => ?_); clear hs76
     refine sq rfl (st_assign hs77 (Ev.t 1 rfl) rfl rfl fun _ _ hs78 => ?_); clear hs77
     refine hK28 _ _ ?_; clear hK28
     have hs79 := hs78.keep [0, 1, 7, 8, 9, 10, 11, 12, 13, 14, 15, 16, 17, 18, 19] [_, _, _, _, _, _, _, _, _, _, _, _, _, _, _] rfl; clear hs78
     refine cd_seq fun K29 hK29 => ?_
     refine cd_region fun K30 hK30 => ?_
     refine sq rfl (st_move hs79 (Ev.t 10 rfl) rfl rfl fun _ _ hs80 => ?_); clear hs79
     refine sq rfl (st_cmp (c := false) hs80 (Ev.t 0 rfl) (.const _) rfl rfl rfl rfl fun _ _ hs81 => ?_); clear hs80
     refine sq rfl (st_move hs81 (Ev.t 0 rfl) rfl rfl fun _ _ hs82 => ?_); clear hs81
     refine sq_on hs82 rfl rfl 0 rfl rfl (st_move hs82 (Ev.t 11 rfl) rfl rfl fun _ _ hs83 => ?_); clear hs82
     refine sq_on hs83 rfl rfl 1 rfl rfl (st_cmp (c := false) hs83 (Ev.t 0 rfl) (.const _) rfl rfl rfl rfl fun _ _ hs84 => ?_); clear hs83
     refine sq rfl (st_pick hs84 (Ev.t 2 rfl) rfl rfl (fun h => by cases h) (fun h => (Ev.t 0 rfl)) fun _ _ hs85 => ?_); clear hs84
     refine sq rfl (st_move hs85 (Ev.t 0 rfl) rfl rfl fun _ _ hs86 => ?_); clear hs85
     refine sq_on hs86 rfl rfl 0 rfl rfl (st_move hs86 (Ev.t 13 rfl) rfl rfl fun _ _ hs87 => ?_); clear hs86
     refine sq_on hs87 rfl rfl 1 rfl rfl (st_cmp (c := false) hs87 (Ev.t 0 rfl) (.const _) rfl rfl rfl rfl fun _ _ hs88 => ?_); clear hs87
     refine sq rfl (st_pick hs88 (Ev.t 2 rfl) rfl rfl (fun h => by cases h) (fun h => (Ev.t 0 rfl)) fun _ _ hs89 => ?_); clear hs88
     refine sq rfl (st_move hs89 (Ev.t 0 rfl) rfl rfl fun _ _ hs90 => ?_); clear hs89
     refine sq_on hs90 rfl rfl 0 rfl rfl (st_move hs90 (Ev.t 15 rfl) rfl rfl fun _ _ hs91 => ?_); clear hs90
     refine sq_on hs91 rfl rfl 1 rfl rfl (st_cmp (c := false) hs91 (Ev.t 0 rfl) (.const _) rfl rfl rfl rfl fun _ _ hs92 => ?_); clear hs91
     refine sq rfl (st_pick hs92 (Ev.t 2 rfl) rfl rfl (fun h => by cases h) (fun h => (Ev.t 0 rfl)) fun _ _ hs93 => ?_); clear hs92
     refine sq rfl (st_move hs93 (Ev.t 0 rfl) rfl rfl fun _ _ hs94 => ?_); clear hs93
     refine sq_on hs94 rfl rfl 0 rfl rfl (st_move hs94 (Ev.t 17 rfl) rfl rfl fun _ _ hs95 => ?_); clear hs94
     refine sq_on hs95 rfl rfl 1 rfl rfl (st_cmp (c := false) hs95 (Ev.t 0 rfl) (.const _) rfl rfl rfl rfl fun _ _ hs96 => ?_); clear hs95
     refine sq rfl (st_pick hs96 (Ev.t 2 rfl) rfl rfl (fun h => by cases h) (fun h => (Ev.t 0 rfl)) fun _ _ hs97 => ?_); clear hs96
     refine sq rfl (st_move hs97 (Ev.t 0 rfl) rfl rfl fun _ _ hs98 => ?_); clear hs97
     refine sq_on hs98 rfl rfl 0 rfl rfl (st_move hs98 (Ev.t 19 rfl) rfl rfl fun _ _ hs99 => ?_); clear hs98
     refine sq_on hs99 rfl rfl 1 rfl rfl (st_cmp (c := false) hs99 (Ev.t 0 rfl) (.const _) rfl rfl rfl rfl fun _ _ hs100 => ?_); clear hs99
     refine sq rfl (st_pick hs100 (Ev.t 2 rfl) rfl rfl (fun h => by cases h) (fun h => (Ev.t 0 rfl)) fun _ _ hs101 => ?_); clear hs100
     refine sq rfl (st_move hs101 (Ev.t 0 rfl) rfl rfl fun _ _ hs102 => ?_); clear hs101
     refine sq_on hs102 rfl rfl 0 rfl rfl (st_move hs102 (Ev.t 34 rfl) rfl rfl fun _ _ hs103 => ?_); clear hs102
     refine sq_on hs103 rfl rfl 1 rfl rfl (st_not hs103 (Ev.t 0 rfl) rfl rfl fun _ _ hs104 => ?_); clear hs103
     refine sq rfl (st_pick hs104 (Ev.t 2 rfl) rfl rfl (fun h => by cases h) (fun h => (Ev.t 0 rfl)) fun _ _ hs105 => ?_); clear hs104
     refine sq rfl (st_move hs105 (Ev.t 0 rfl) rfl rfl fun _ _ hs106 => ?_); clear hs105
     refine sq_on hs106 rfl rfl 0 rfl rfl (st_move hs106 (Ev.t 36 rfl) rfl rfl fun _ _ hs107 => ?_); clear hs106
     refine sq_on hs107 rfl rfl 1 rfl rfl (st_callv (vs := [.int .i64 m, .int .i64 1, .int .i64 1000000]) hs107 (.func _) ⟨(Ev.t 0 rfl), (.const _), (.const _), trivial⟩ rfl rfl call16 rfl (callsV_eq (v' := .bool true) (amid_v m 1 1000000 _) (by rw [Value.bool.injEq, Till.within_iff]; omega)) fun _ _ hs108 => ?_); clear hs107
     refine sq_on hs108 rfl rfl 2 rfl rfl (st_not hs108 (Ev.t 0 rfl) rfl rfl fun _ _ hs109 => ?_); clear hs108
     refine sq rfl (st_pick hs109 (Ev.t 3 rfl) rfl rfl (fun h => by cases h) (fun h => (Ev.t 0 rfl)) fun _ _ hs110 => ?_); clear hs109
     refine hK30 _ _ ?_; clear hK30
     have hs111 := hs110.keep [0, 32, 34, 36, 38, 40, 43, 44, 45] [_, _, _, _, _, _, _, _, _] rfl; clear hs110
     by_cases hone : m = 1
     · skip
       have hc31 : false = false := rfl
       refine cd_cond hs111 (Ev.t 0 rfl) (fun h => absurd (hc31.symm.trans h) (by decide)) (fun _ => ?_)
       refine cd_skip ?_
       refine th_norm (hK29 _ _ ?_)
       refine cd_region fun K32 hK32 => ?_
       refine sq rfl (st_assign hs111 (.const _) rfl rfl fun _ _ hs112 => ?_); clear hs111
       refine hK32 _ _ ?_; clear hK32
       have hs113 := hs112.keep [0, 2, 3, 4, 5, 6, 7, 8, 9] [_, _, _, _, _, _, _, _, _] rfl; clear hs112
       refine cd_seq fun K33 hK33 => ?_
       refine cd_region fun K34 hK34 => ?_
       refine sq rfl (st_assign hs113 (.const _) rfl rfl fun _ _ hs114 => ?_); clear hs113
       refine hK34 _ _ ?_; clear hK34
       refine cd_block ?_
       have hs115 : Sx 228 [] [(21, .int .i64 (0 : Int)), (20, .int .i64 (tak b.rolls (l7.take 0))), (18, .int .i64 ww), (16, .pointer (some ⟨b27, 0, none⟩)), (14, .pointer (some ⟨b25, 0, none⟩)), (12, .pointer (some ⟨b23, 0, none⟩)), (10, .int .i64 m), (6, .slice A7 l7.length c7), (5, .pointer (some ⟨b15, 0, none⟩)), (4, .bool false)] [(b27, some (.cells ⟨[.int .i64 v1, .int .i64 v2]⟩ 35 (0, 0))), (b25, some (.cells ⟨[.int .i64 u1, .int .i64 u2]⟩ 35 (0, 0))), (b23, some (.cells ⟨[.int .i64 t1, .int .i64 t2]⟩ 35 (0, 0))), (b15, some (.cells ⟨(bxL (b.setCount d7) A n cp A2 n2 c2)⟩ 25 (0, 0))), (b7, o7), (b8, some (.cells ⟨(bxL b A n cp A2 n2 c2)⟩ 25 (0, 0)))] [] w _ _ := Sx.keepE [0, 1, 2, 3, 4, 5, 6, 7, 8, 9] _ ⟨⟨_, rfl, rfl⟩, ⟨_, rfl, by cases b.rolls <;> rfl⟩, ⟨_, rfl, rfl⟩, ⟨_, rfl, rfl⟩, ⟨_, rfl, rfl⟩, ⟨_, rfl, rfl⟩, ⟨_, rfl, rfl⟩, ⟨_, rfl, rfl⟩, ⟨_, rfl, rfl⟩, ⟨_, rfl, rfl⟩, trivial⟩ hs114; clear hs114
       refine cd_loop (X := Nat) (fun g a_ w_ => (g ≤ l7.length) ∧ Sx 228 [] [(21, .int .i64 (g : Int)), (20, .int .i64 (tak b.rolls (l7.take g))), (18, .int .i64 ww), (16, .pointer (some ⟨b27, 0, none⟩)), (14, .pointer (some ⟨b25, 0, none⟩)), (12, .pointer (some ⟨b23, 0, none⟩)), (10, .int .i64 m), (6, .slice A7 l7.length c7), (5, .pointer (some ⟨b15, 0, none⟩)), (4, .bool false)] [(b27, some (.cells ⟨[.int .i64 v1, .int .i64 v2]⟩ 35 (0, 0))), (b25, some (.cells ⟨[.int .i64 u1, .int .i64 u2]⟩ 35 (0, 0))), (b23, some (.cells ⟨[.int .i64 t1, .int .i64 t2]⟩ 35 (0, 0))), (b15, some (.cells ⟨(bxL (b.setCount d7) A n cp A2 n2 c2)⟩ 25 (0, 0))), (b7, o7), (b8, some (.cells ⟨(bxL b A n cp A2 n2 c2)⟩ 25 (0, 0)))] [] w a_ w_) (fun g => l7.length - g) (0) ⟨?_, hs115⟩ ?_
       · exact Nat.zero_le _
       intro g a_116 w_116 ⟨hk, hs116⟩; clear hs115
       refine cd_seq fun K35 hK35 => ?_
       refine cd_region fun K36 hK36 => ?_
       refine sq rfl (st_move hs116 (Ev.t 0 rfl) rfl rfl fun _ _ hs117 => ?_); clear hs116
       refine sq rfl (st_move hs117 (Ev.t 8 rfl) rfl rfl fun _ _ hs118 => ?_); clear hs117
       refine sq rfl (st_len hs118 (Ev.t 0 rfl) rfl rfl runUnderlying33 fun _ _ hs119 => ?_); clear hs118
       refine sq rfl (st_cmp (c := decide (((g : Int) : Int) < (l7.length : Int))) hs119 (Ev.t 2 rfl) (Ev.t 0 rfl) rfl rfl rfl rfl fun _ _ hs120 => ?_); clear hs119
       refine hK36 _ _ ?_; clear hK36
       have hs121 := hs120.keep [0, 4, 5, 6, 7, 8, 9, 10, 11, 12, 13] [_, _, _, _, _, _, _, _, _, _, _] rfl; clear hs120
       refine cd_cond hs121 (Ev.t 0 rfl) (fun hc37 => ?_) (fun hc37 => ?_)
       · have hin : g < l7.length := by simpa using hc37
         have hir : g < b.rolls.length := by omega
         have hil9 : g < n := by have := hP.len; omega
         obtain ⟨x38, hx38⟩ : ∃ x, b.rolls[g]? = some x := ⟨_, List.getElem?_eq_getElem (by have := hP.len; omega)⟩
         obtain ⟨b39, o39, hA39, -, hc39⟩ := hP.el g x38 hx38
         obtain ⟨x40, hx40⟩ : ∃ x, l7[g]? = some x := ⟨_, List.getElem?_eq_getElem (hin)⟩
         obtain ⟨hA41, l41, ho41, hr41⟩ := hO7.open hx40
         obtain ⟨s9, hs9⟩ : ∃ s, (b.setCount d7).sold[g]? = some s := ⟨_, List.getElem?_eq_getElem (by rw [soldlen (ok_iff.1 hX1)]; exact hir)⟩
         obtain ⟨lo, hi, hS, hlo1, hlh, hhi2, hw1, hw2, hall⟩ := sold_law hX1 hmn (k := g) hx38 hs9
         have hwx : withN (b.setCount d7) (b.setCount d7).sold g x40 ≠ 0 := (withN_pos (ok_iff.1 hX1) hs9).2 ⟨l7, hl7, hc7, hx40, hr7⟩
         have hC := can_law hX1 hmn (k := g) hir hwx
         have hlx := hall _ hwx
         have htk := tak_snoc hx38 hx40
         have htp := tak_part hO hl7 hc7 (g := g) (by omega); have htq := tak_part hO hl7 hc7 (g := g + 1) (by omega)
         have hle1 := sold_one (hmone hone) hx38 hs9 hw1 hw2
         refine cd_skip ?_
         refine th_norm (hK35 _ _ ?_)
         refine cd_seq fun K42 hK42 => ?_
         refine cd_block ?_
         refine cd_region fun K43 hK43 => ?_
         refine sq rfl (st_loadA (o := 0) (off := 0) (vs := (bxL (b.setCount d7) A n cp A2 n2 c2)) hs121 (Ev.t 9 rfl) rfl rfl isAgg25 sizeOf25 (hs121.cells 3 rfl) rfl fun _ _ hs122 => ?_); clear hs121
         refine sq rfl (st_move hs122 (Ev.t 2 rfl) rfl rfl fun _ _ hs123 => ?_); clear hs122
         refine sq rfl (st_callv (vs := [.agg ⟨(bxL (b.setCount d7) A n cp A2 n2 c2)⟩, .int .i64 (g : Int)]) hs123 (.func _) ⟨(Ev.t 1 rfl), (Ev.t 0 rfl), trivial⟩ rfl rfl call18 rfl (callsV_eq (v' := .tuple ⟨[.agg ⟨[.int .i64 lo, .int .i64 hi]⟩, .int .i64 0]⟩) (Sold_v (b.setCount d7) A n cp A2 n2 c2 _ (hP.kp hs123.kp) hn (hF.kp hs123.kp) hn2 (g : Int)) (by rw [hS])) fun _ _ hs124 => ?_); clear hs123
         refine sq rfl (st_move hs124 (Ev.t 0 rfl) rfl rfl fun _ _ hs125 => ?_); clear hs124
         refine sq rfl (st_extract hs125 (Ev.t 0 rfl) rfl rfl rfl fun _ _ hs126 => ?_); clear hs125
         refine sq rfl (st_extract hs126 (Ev.t 1 rfl) rfl rfl rfl fun _ _ hs127 => ?_); clear hs126
         refine sq rfl (st_alloc hs127 rfl rfl zeroValue35 rfl fun b44 _ _ hs128 => ?_); clear hs127
         refine sq rfl (st_store (l' := [.int .i64 lo, .int .i64 hi]) (vs := [.int .i64 lo, .int .i64 hi]) (i := 0) hs128 (Ev.t 0 rfl) (Ev.t 2 rfl) sizeOf35 rfl rfl rfl rfl rfl rfl fun _ _ hs129 => ?_); clear hs128
         have hs130 := hs129.asB [_, _, _, _, _, _, _] rfl; clear hs129
         refine sq rfl (st_assign hs130 (Ev.t 1 rfl) rfl rfl fun _ _ hs131 => ?_); clear hs130
         refine hK43 _ _ ?_; clear hK43
         have hs132 := hs131.keep [0, 1, 9, 10, 11, 12, 13, 14, 15, 16, 17, 18] [_, _, _, _, _, _, _, _, _, _, _, _] rfl; clear hs131
         refine cd_drawn mixed hs132 [⟨119, [], Is (.agg ⟨(bxL (b.setCount d7) A n cp A2 n2 c2)⟩)⟩, ⟨120, [], Is (.int .i64 (g : Int))⟩, ⟨121, [], Is (.slice A7 l7.length c7)⟩, ⟨122, [], Is (.int .i64 (g : Int))⟩, ⟨123, [2, 3], Is (.pointer (some ⟨b7, g * 1, none⟩))⟩, ⟨124, [4], Is (.int .i64 x40)⟩, ⟨125, [0, 1, 5], Is (.tuple ⟨[.bool true, .int .i64 0]⟩)⟩, ⟨118, [6], Is (.tuple ⟨[.bool true, .int .i64 0]⟩)⟩, ⟨126, [7], Is (.bool true)⟩, ⟨127, [7], Is (.int .i64 0)⟩, ⟨24, [8], Is (.bool true)⟩] (by kernel_rfl) (by kernel_rfl) fun K45 hK45 => ⟨⟨?_, ?_, ?_, ?_, ?_, ?_, ?_, ?_, ?_, ?_, ?_, trivial⟩, ?_⟩
         · rintro T_ B_ a_ w_ K_ hT hB hf hsD hk
           exact ob rfl rfl (st_loadA (o := 0) (off := 0) (vs := (bxL (b.setCount d7) A n cp A2 n2 c2)) hsD (evT hT 10 rfl) rfl hf isAgg25 sizeOf25 (hsD.cellsM (inB hB 4 rfl)) rfl fun _ _ => hk _ _ _ _ ⟨rfl, rfl⟩)
         · rintro T_ B_ a_ w_ K_ hT hB hf hsD hk
           exact ob rfl rfl (st_move hsD (evT hT 2 rfl) rfl hf fun _ _ => hk _ _ _ _ ⟨rfl, rfl⟩)
         · rintro T_ B_ a_ w_ K_ hT hB hf hsD hk
           exact ob rfl rfl (st_move hsD (evT hT 9 rfl) rfl hf fun _ _ => hk _ _ _ _ ⟨rfl, rfl⟩)
         · rintro T_ B_ a_ w_ K_ hT hB hf hsD hk
           exact ob rfl rfl (st_move hsD (evT hT 2 rfl) rfl hf fun _ _ => hk _ _ _ _ ⟨rfl, rfl⟩)
         · rintro T_ B_ a_ w_ K_ hT hB _ _ ⟨rfl, rfl⟩ h121 - _ _ ⟨rfl, rfl⟩ h122 - hf hsD hk
           exact ob rfl rfl (st_indexM (o' := g * 1) hsD (Ev.tmp h121) (Ev.tmp h122) rfl hf hA41 runUnderlying33 sizeOf3 ⟨by omega, by have := (List.getElem?_eq_some_iff.1 hx40).1; omega⟩ (by simp) fun _ _ => hk _ _ _ _ ⟨rfl, rfl⟩)
         · rintro T_ B_ a_ w_ K_ hT hB _ _ ⟨rfl, rfl⟩ h123 - hf hsD hk
           exact ob rfl rfl (st_load1 (o := (g * 1)) (off := 0) (v := .int .i64 x40) hsD (Ev.tmp h123) rfl hf isAgg3 (hr41.at (hsD.cellsM (by rw [← ho41]; exact hB _ (mem_nth (i := 5) rfl))) hx40) rfl fun _ _ => hk _ _ _ _ ⟨rfl, rfl⟩)
         · rintro T_ B_ a_ w_ K_ hT hB _ _ ⟨rfl, rfl⟩ h119 - _ _ ⟨rfl, rfl⟩ h120 - _ _ ⟨rfl, rfl⟩ h124 - hf hsD hk
           exact ob rfl rfl (st_callv (vs := [.agg ⟨(bxL (b.setCount d7) A n cp A2 n2 c2)⟩, .int .i64 (g : Int), .int .i64 x40]) hsD (.func _) ⟨(Ev.tmp h119), (Ev.tmp h120), (Ev.tmp h124), trivial⟩ rfl hf call21 rfl (callsV_eq (v' := .tuple ⟨[.bool true, .int .i64 0]⟩) (Can_v (b.setCount d7) A n cp A2 n2 c2 _ (hP.kp hsD.kp) hn (hF.kp hsD.kp) hn2 (g : Int) x40) (by rw [hC])) fun _ _ => hk _ _ _ _ ⟨rfl, rfl⟩)
         · rintro T_ B_ a_ w_ K_ hT hB _ _ ⟨rfl, rfl⟩ h125 - hf hsD hk
           exact ob rfl rfl (st_move hsD (Ev.tmp h125) rfl hf fun _ _ => hk _ _ _ _ ⟨rfl, rfl⟩)
         · rintro T_ B_ a_ w_ K_ hT hB _ _ ⟨rfl, rfl⟩ h118 - hf hsD hk
           exact ob rfl rfl (st_extract hsD (Ev.tmp h118) rfl hf rfl fun _ _ => hk _ _ _ _ ⟨rfl, rfl⟩)
         · rintro T_ B_ a_ w_ K_ hT hB _ _ ⟨rfl, rfl⟩ h118 - hf hsD hk
           exact ob rfl rfl (st_extract hsD (Ev.tmp h118) rfl hf rfl fun _ _ => hk _ _ _ _ ⟨rfl, rfl⟩)
         · rintro T_ B_ a_ w_ K_ hT hB _ _ ⟨rfl, rfl⟩ h126 - hf hsD hk
           exact ob rfl rfl (st_assign hsD (Ev.tmp h126) rfl hf fun _ _ => hk _ _ _ _ ⟨rfl, rfl⟩)
         rintro _ _ ⟨rfl, rfl⟩ _ _ ⟨rfl, rfl⟩ _ _ ⟨rfl, rfl⟩ _ _ ⟨rfl, rfl⟩ _ _ ⟨rfl, rfl⟩ _ _ ⟨rfl, rfl⟩ _ _ ⟨rfl, rfl⟩ _ _ ⟨rfl, rfl⟩ _ _ ⟨rfl, rfl⟩ _ _ ⟨rfl, rfl⟩ _ _ ⟨rfl, rfl⟩ a_133 w_133 hs133; clear hs132
         have hs134 := Sx.as (T' := [_, _, _, _, _, _, _, _, _, _, _, _, _, _, _, _, _, _, _, _, _, _, _]) (B' := [_, _, _, _, _, _, _]) rfl rfl hs133; clear hs133
         refine sq rfl (st_assign hs134 (Ev.t 9 rfl) rfl rfl fun _ _ hs135 => ?_); clear hs134
         refine hK45 _ _ ?_; clear hK45
         have hs136 := hs135.keep [0, 11, 12, 13, 14, 15, 16, 17, 18, 19, 20, 21, 22, 23] [_, _, _, _, _, _, _, _, _, _, _, _, _, _] rfl; clear hs135
         refine cd_seq fun K46 hK46 => ?_
         refine cd_drawn mixed hs136 [⟨128, [], Is (.int .i64 0)⟩, ⟨129, [0], Is (.bool false)⟩, ⟨130, [1], Is (.bool false)⟩, ⟨131, [2], Is (.int .i64 0)⟩, ⟨132, [2, 3], Is (.bool false)⟩, ⟨133, [2, 4], Is (.bool false)⟩, ⟨134, [5], Is (.bool false)⟩, ⟨135, [6], Is (.agg ⟨[.int .i64 lo, .int .i64 hi]⟩)⟩, ⟨136, [6], Is (.slice A7 l7.length c7)⟩, ⟨137, [6], Is (.int .i64 (g : Int))⟩, ⟨138, [6, 8, 9], Is (.pointer (some ⟨b7, g * 1, none⟩))⟩, ⟨139, [6, 10], Is (.int .i64 x40)⟩, ⟨140, [6, 7, 11], Is (.bool true)⟩, ⟨141, [6, 12], Is (.bool false)⟩, ⟨142, [6, 13], Is (.bool false)⟩, ⟨143, [14], Is (.bool false)⟩, ⟨144, [15], Is (.bool true)⟩, ⟨145, [15, 16], Is (.bool false)⟩, ⟨146, [15, 17], Is (.bool false)⟩, ⟨147, [18], Is (.bool false)⟩, ⟨148, [19], Is (.int .i64 m)⟩, ⟨149, [19, 20], Is (.bool true)⟩, ⟨150, [19, 21], Is (.bool true)⟩, ⟨151, [22], Is (.pointer (some ⟨b44, 0, none⟩))⟩, ⟨152, [22, 23], Is (.int .i64 lo)⟩, ⟨153, [22], Is (.pointer (some ⟨b44, 1, none⟩))⟩, ⟨154, [22, 25], Is (.int .i64 hi)⟩, ⟨155, [22, 24, 26], Is (.bool false)⟩, ⟨156, [19, 22, 27], Is (.bool false)⟩, ⟨157, [19, 28], Is (.bool false)⟩] (by kernel_rfl) (by kernel_rfl) fun K47 hK47 => ⟨⟨?_, ?_, ?_, ?_, ?_, ?_, ?_, ?_, ?_, ?_, ?_, ?_, ?_, ?_, ?_, ?_, ?_, ?_, ?_, ?_, ?_, ?_, ?_, ?_, ?_, ?_, ?_, ?_, ?_, ?_, trivial⟩, ?_⟩
         · rintro T_ B_ a_ w_ K_ hT hB hf hsD hk
           exact ob rfl rfl (st_move hsD (evT hT 2 rfl) rfl hf fun _ _ => hk _ _ _ _ ⟨rfl, rfl⟩)
         · rintro T_ B_ a_ w_ K_ hT hB _ _ ⟨rfl, rfl⟩ h128 - hf hsD hk
           exact ob rfl rfl (st_cmp (c := false) hsD (Ev.tmp h128) (.const _) rfl hf rfl rfl fun _ _ => hk _ _ _ _ ⟨rfl, rfl⟩)
         · rintro T_ B_ a_ w_ K_ hT hB _ _ ⟨rfl, rfl⟩ h129 - hf hsD hk
           exact ob rfl rfl (st_move hsD (Ev.tmp h129) rfl hf fun _ _ => hk _ _ _ _ ⟨rfl, rfl⟩)
         · rintro T_ B_ a_ w_ K_ hT hB _ _ ⟨rfl, rfl⟩ h130 - hf hsD hk
           exact ob_gv hsD (gg := true) (v := .int .i64 0) rfl rfl rfl h130 rfl rfl rfl hf (fun _ K1 hK1 => st_move hsD (evT hT 0 rfl) rfl hf hK1) fun _ _ => hk _ _ _ _ ⟨rfl, rfl⟩
         · rintro T_ B_ a_ w_ K_ hT hB _ _ ⟨rfl, rfl⟩ h130 - _ _ ⟨rfl, rfl⟩ h131 - hf hsD hk
           exact ob_gv hsD (gg := true) (v := .bool false) rfl rfl rfl h130 rfl rfl rfl hf (fun _ K1 hK1 => st_cmp (c := false) hsD (Ev.tmp h131) (.const _) rfl hf rfl rfl hK1) fun _ _ => hk _ _ _ _ ⟨rfl, rfl⟩
         · rintro T_ B_ a_ w_ K_ hT hB _ _ ⟨rfl, rfl⟩ h130 - _ _ ⟨rfl, rfl⟩ h132 - hf hsD hk
           exact ob rfl rfl (st_pick hsD (Ev.tmp h130) rfl hf (fun h => by cases h) (fun h => (Ev.tmp h132)) fun _ _ => hk _ _ _ _ ⟨rfl, rfl⟩)
         · rintro T_ B_ a_ w_ K_ hT hB _ _ ⟨rfl, rfl⟩ h133 - hf hsD hk
           exact ob rfl rfl (st_move hsD (Ev.tmp h133) rfl hf fun _ _ => hk _ _ _ _ ⟨rfl, rfl⟩)
         · rintro T_ B_ a_ w_ K_ hT hB _ _ ⟨rfl, rfl⟩ h134 - hf hsD hk
           exact ob_gv hsD (gg := true) (v := .agg ⟨[.int .i64 lo, .int .i64 hi]⟩) rfl rfl rfl h134 rfl rfl rfl hf (fun _ K1 hK1 => st_loadA (o := 0) (off := 0) (vs := [.int .i64 lo, .int .i64 hi]) hsD (evT hT 3 rfl) rfl hf isAgg35 sizeOf35 (hsD.cellsM (inB hB 0 rfl)) rfl hK1) fun _ _ => hk _ _ _ _ ⟨rfl, rfl⟩
         · rintro T_ B_ a_ w_ K_ hT hB _ _ ⟨rfl, rfl⟩ h134 - hf hsD hk
           exact ob_gv hsD (gg := true) (v := .slice A7 l7.length c7) rfl rfl rfl h134 rfl rfl rfl hf (fun _ K1 hK1 => st_move hsD (evT hT 11 rfl) rfl hf hK1) fun _ _ => hk _ _ _ _ ⟨rfl, rfl⟩
         · rintro T_ B_ a_ w_ K_ hT hB _ _ ⟨rfl, rfl⟩ h134 - hf hsD hk
           exact ob_gv hsD (gg := true) (v := .int .i64 (g : Int)) rfl rfl rfl h134 rfl rfl rfl hf (fun _ K1 hK1 => st_move hsD (evT hT 4 rfl) rfl hf hK1) fun _ _ => hk _ _ _ _ ⟨rfl, rfl⟩
         · rintro T_ B_ a_ w_ K_ hT hB _ _ ⟨rfl, rfl⟩ h134 - _ _ ⟨rfl, rfl⟩ h136 - _ _ ⟨rfl, rfl⟩ h137 - hf hsD hk
           exact ob_gv hsD (gg := true) (v := .pointer (some ⟨b7, g * 1, none⟩)) rfl rfl rfl h134 rfl rfl rfl hf (fun _ K1 hK1 => st_indexM (o' := g * 1) hsD (Ev.tmp h136) (Ev.tmp h137) rfl hf hA41 runUnderlying33 sizeOf3 ⟨by omega, by have := (List.getElem?_eq_some_iff.1 hx40).1; omega⟩ (by simp) hK1) fun _ _ => hk _ _ _ _ ⟨rfl, rfl⟩
         · rintro T_ B_ a_ w_ K_ hT hB _ _ ⟨rfl, rfl⟩ h134 - _ _ ⟨rfl, rfl⟩ h138 - hf hsD hk
           exact ob_gv hsD (gg := true) (v := .int .i64 x40) rfl rfl rfl h134 rfl rfl rfl hf (fun _ K1 hK1 => st_load1 (o := (g * 1)) (off := 0) (v := .int .i64 x40) hsD (Ev.tmp h138) rfl hf isAgg3 (hr41.at (hsD.cellsM (by rw [← ho41]; exact hB _ (mem_nth (i := 5) rfl))) hx40) rfl hK1) fun _ _ => hk _ _ _ _ ⟨rfl, rfl⟩
         · rintro T_ B_ a_ w_ K_ hT hB _ _ ⟨rfl, rfl⟩ h134 - _ _ ⟨rfl, rfl⟩ h135 - _ _ ⟨rfl, rfl⟩ h139 - hf hsD hk
           exact ob_gv hsD (gg := true) (v := .bool true) rfl rfl rfl h134 rfl rfl rfl hf (fun _ K1 hK1 => st_callv (vs := [.agg ⟨[.int .i64 lo, .int .i64 hi]⟩, .int .i64 x40]) hsD (.func _) ⟨(Ev.tmp h135), (Ev.tmp h139), trivial⟩ rfl hf call41 rfl (callsV_eq (v' := .bool true) (holds_v lo hi x40 _) (by rw [Value.bool.injEq, Till.within_iff]; omega)) hK1) fun _ _ => hk _ _ _ _ ⟨rfl, rfl⟩
         · rintro T_ B_ a_ w_ K_ hT hB _ _ ⟨rfl, rfl⟩ h134 - _ _ ⟨rfl, rfl⟩ h140 - hf hsD hk
           exact ob_gv hsD (gg := true) (v := .bool false) rfl rfl rfl h134 rfl rfl rfl hf (fun _ K1 hK1 => st_not hsD (Ev.tmp h140) rfl hf hK1) fun _ _ => hk _ _ _ _ ⟨rfl, rfl⟩
         · rintro T_ B_ a_ w_ K_ hT hB _ _ ⟨rfl, rfl⟩ h134 - _ _ ⟨rfl, rfl⟩ h141 - hf hsD hk
           exact ob rfl rfl (st_pick hsD (Ev.tmp h134) rfl hf (fun h => by cases h) (fun h => (Ev.tmp h141)) fun _ _ => hk _ _ _ _ ⟨rfl, rfl⟩)
         · rintro T_ B_ a_ w_ K_ hT hB _ _ ⟨rfl, rfl⟩ h142 - hf hsD hk
           exact ob rfl rfl (st_move hsD (Ev.tmp h142) rfl hf fun _ _ => hk _ _ _ _ ⟨rfl, rfl⟩)
         · rintro T_ B_ a_ w_ K_ hT hB _ _ ⟨rfl, rfl⟩ h143 - hf hsD hk
           exact ob_gv hsD (gg := true) (v := .bool true) rfl rfl rfl h143 rfl rfl rfl hf (fun _ K1 hK1 => st_move hsD (evT hT 1 rfl) rfl hf hK1) fun _ _ => hk _ _ _ _ ⟨rfl, rfl⟩
         · rintro T_ B_ a_ w_ K_ hT hB _ _ ⟨rfl, rfl⟩ h143 - _ _ ⟨rfl, rfl⟩ h144 - hf hsD hk
           exact ob_gv hsD (gg := true) (v := .bool false) rfl rfl rfl h143 rfl rfl rfl hf (fun _ K1 hK1 => st_not hsD (Ev.tmp h144) rfl hf hK1) fun _ _ => hk _ _ _ _ ⟨rfl, rfl⟩
         · rintro T_ B_ a_ w_ K_ hT hB _ _ ⟨rfl, rfl⟩ h143 - _ _ ⟨rfl, rfl⟩ h145 - hf hsD hk
           exact ob rfl rfl (st_pick hsD (Ev.tmp h143) rfl hf (fun h => by cases h) (fun h => (Ev.tmp h145)) fun _ _ => hk _ _ _ _ ⟨rfl, rfl⟩)
         · rintro T_ B_ a_ w_ K_ hT hB _ _ ⟨rfl, rfl⟩ h146 - hf hsD hk
           exact ob rfl rfl (st_move hsD (Ev.tmp h146) rfl hf fun _ _ => hk _ _ _ _ ⟨rfl, rfl⟩)
         · rintro T_ B_ a_ w_ K_ hT hB _ _ ⟨rfl, rfl⟩ h147 - hf hsD hk
           exact ob_gv hsD (gg := true) (v := .int .i64 m) rfl rfl rfl h147 rfl rfl rfl hf (fun _ K1 hK1 => st_move hsD (evT hT 10 rfl) rfl hf hK1) fun _ _ => hk _ _ _ _ ⟨rfl, rfl⟩
         · rintro T_ B_ a_ w_ K_ hT hB _ _ ⟨rfl, rfl⟩ h147 - _ _ ⟨rfl, rfl⟩ h148 - hf hsD hk
           exact ob_gv hsD (gg := true) (v := .bool true) rfl rfl rfl h147 rfl rfl rfl hf (fun _ K1 hK1 => st_cmp (c := true) hsD (Ev.tmp h148) (.const _) rfl hf rfl (show ((m : Int) == 1) = true from by simp only [beq_iff_eq]; omega) hK1) fun _ _ => hk _ _ _ _ ⟨rfl, rfl⟩
         · rintro T_ B_ a_ w_ K_ hT hB _ _ ⟨rfl, rfl⟩ h147 - _ _ ⟨rfl, rfl⟩ h149 - hf hsD hk
           exact ob_gv hsD (gg := true) (v := .bool true) rfl rfl rfl h147 rfl rfl rfl hf (fun _ K1 hK1 => st_move hsD (Ev.tmp h149) rfl hf hK1) fun _ _ => hk _ _ _ _ ⟨rfl, rfl⟩
         · rintro T_ B_ a_ w_ K_ hT hB _ _ ⟨rfl, rfl⟩ h150 - hf hsD hk
           exact ob_gv hsD (gg := true) (v := .pointer (some ⟨b44, 0, none⟩)) rfl rfl rfl h150 rfl rfl rfl hf (fun _ K1 hK1 => st_field (o' := 0) hsD (evT hT 3 rfl) rfl hf runUnderlying35 rfl sizeOf3 rfl rfl hK1) fun _ _ => hk _ _ _ _ ⟨rfl, rfl⟩
         · rintro T_ B_ a_ w_ K_ hT hB _ _ ⟨rfl, rfl⟩ h150 - _ _ ⟨rfl, rfl⟩ h151 - hf hsD hk
           exact ob_gv hsD (gg := true) (v := .int .i64 lo) rfl rfl rfl h150 rfl rfl rfl hf (fun _ K1 hK1 => st_load1 (o := 0) (off := 0) (v := .int .i64 lo) hsD (Ev.tmp h151) rfl hf isAgg3 (hsD.cellsM (inB hB 0 rfl)) rfl hK1) fun _ _ => hk _ _ _ _ ⟨rfl, rfl⟩
         · rintro T_ B_ a_ w_ K_ hT hB _ _ ⟨rfl, rfl⟩ h150 - hf hsD hk
           exact ob_gv hsD (gg := true) (v := .pointer (some ⟨b44, 1, none⟩)) rfl rfl rfl h150 rfl rfl rfl hf (fun _ K1 hK1 => st_field (o' := 1) hsD (evT hT 3 rfl) rfl hf runUnderlying35 rfl sizeOf3 rfl rfl hK1) fun _ _ => hk _ _ _ _ ⟨rfl, rfl⟩
         · rintro T_ B_ a_ w_ K_ hT hB _ _ ⟨rfl, rfl⟩ h150 - _ _ ⟨rfl, rfl⟩ h153 - hf hsD hk
           exact ob_gv hsD (gg := true) (v := .int .i64 hi) rfl rfl rfl h150 rfl rfl rfl hf (fun _ K1 hK1 => st_load1 (o := 0) (off := 1) (v := .int .i64 hi) hsD (Ev.tmp h153) rfl hf isAgg3 (hsD.cellsM (inB hB 0 rfl)) rfl hK1) fun _ _ => hk _ _ _ _ ⟨rfl, rfl⟩
         · rintro T_ B_ a_ w_ K_ hT hB _ _ ⟨rfl, rfl⟩ h150 - _ _ ⟨rfl, rfl⟩ h152 - _ _ ⟨rfl, rfl⟩ h154 - hf hsD hk
           exact ob_gv hsD (gg := true) (v := .bool false) rfl rfl rfl h150 rfl rfl rfl hf (fun _ K1 hK1 => st_cmp (c := false) hsD (Ev.tmp h152) (Ev.tmp h154) rfl hf rfl (show ((lo : Int) != hi) = false from by simp only [bne_eq_false_iff_eq]; omega) hK1) fun _ _ => hk _ _ _ _ ⟨rfl, rfl⟩
         · rintro T_ B_ a_ w_ K_ hT hB _ _ ⟨rfl, rfl⟩ h147 - _ _ ⟨rfl, rfl⟩ h150 - _ _ ⟨rfl, rfl⟩ h155 - hf hsD hk
           exact ob_gv hsD (gg := true) (v := .bool false) rfl rfl rfl h147 rfl rfl rfl hf (fun _ K1 hK1 => st_pick hsD (Ev.tmp h150) rfl hf (fun h => (Ev.tmp h155)) (fun h => by cases h) hK1) fun _ _ => hk _ _ _ _ ⟨rfl, rfl⟩
         · rintro T_ B_ a_ w_ K_ hT hB _ _ ⟨rfl, rfl⟩ h147 - _ _ ⟨rfl, rfl⟩ h156 - hf hsD hk
           exact ob rfl rfl (st_pick hsD (Ev.tmp h147) rfl hf (fun h => by cases h) (fun h => (Ev.tmp h156)) fun _ _ => hk _ _ _ _ ⟨rfl, rfl⟩)
         rintro _ _ ⟨rfl, rfl⟩ _ _ ⟨rfl, rfl⟩ _ _ ⟨rfl, rfl⟩ _ _ ⟨rfl, rfl⟩ _ _ ⟨rfl, rfl⟩ _ _ ⟨rfl, rfl⟩ _ _ ⟨rfl, rfl⟩ _ _ ⟨rfl, rfl⟩ _ _ ⟨rfl, rfl⟩ _ _ ⟨rfl, rfl⟩ _ _ ⟨rfl, rfl⟩ _ _ ⟨rfl, rfl⟩ _ _ ⟨rfl, rfl⟩ _ _ ⟨rfl, rfl⟩ _ _ ⟨rfl, rfl⟩ _ _ ⟨rfl, rfl⟩ _ _ ⟨rfl, rfl⟩ _ _ ⟨rfl, rfl⟩ _ _ ⟨rfl, rfl⟩ _ _ ⟨rfl, rfl⟩ _ _ ⟨rfl, rfl⟩ _ _ ⟨rfl, rfl⟩ _ _ ⟨rfl, rfl⟩ _ _ ⟨rfl, rfl⟩ _ _ ⟨rfl, rfl⟩ _ _ ⟨rfl, rfl⟩ _ _ ⟨rfl, rfl⟩ _ _ ⟨rfl, rfl⟩ _ _ ⟨rfl, rfl⟩ _ _ ⟨rfl, rfl⟩ a_137 w_137 hs137; clear hs136
         have hs138 := Sx.as (T' := [_, _, _, _, _, _, _, _, _, _, _, _, _, _, _, _, _, _, _, _, _, _, _, _, _, _, _, _, _, _, _, _, _, _, _, _, _, _, _, _, _, _, _, _]) (B' := [_, _, _, _, _, _, _]) rfl rfl hs137; clear hs137
         refine hK47 _ _ ?_; clear hK47
         have hs139 := hs138.keep [29, 34, 35, 36, 37, 38, 39, 40, 41, 42, 43] [_, _, _, _, _, _, _, _, _, _, _] rfl; clear hs138
         have hc48 : false = false := rfl
         refine cd_cond hs139 (Ev.t 0 rfl) (fun h => absurd (hc48.symm.trans h) (by decide)) (fun _ => ?_)
         refine cd_skip ?_
         refine th_norm (hK46 _ _ ?_)
         refine cd_drawn1 mixed hs139 [⟨158, [], Is (.int .i64 (tak b.rolls (l7.take g)))⟩, ⟨159, [], Is (.slice A7 l7.length c7)⟩, ⟨160, [], Is (.int .i64 (g : Int))⟩, ⟨161, [1, 2], Is (.pointer (some ⟨b7, g * 1, none⟩))⟩, ⟨162, [3], Is (.int .i64 x40)⟩, ⟨163, [], Is (.pointer (some ⟨b15, 0, none⟩))⟩, ⟨164, [5], Is (.slice A n cp)⟩, ⟨165, [], Is (.int .i64 (g : Int))⟩, ⟨166, [6, 7], Is (.pointer (some ⟨b39, o39 + g * 5, none⟩))⟩, ⟨167, [8], Is (.pointer (some ⟨b39, o39 + g * 5, none⟩))⟩, ⟨168, [9], Is (.int .i64 x38.price)⟩, ⟨169, [4, 10], Is (.int .i64 (x40 * x38.price))⟩, ⟨170, [0, 11], Is (.int .i64 ((tak b.rolls (l7.take g)) + (x40 * x38.price)))⟩] (by kernel_rfl) (by kernel_rfl) ⟨⟨?_, ?_, ?_, ?_, ?_, ?_, ?_, ?_, ?_, ?_, ?_, ?_, ?_, trivial⟩, ?_⟩
         · rintro T_ B_ a_ w_ K_ hT hB hf hsD hk
           exact ob rfl rfl (st_move hsD (evT hT 2 rfl) rfl hf fun _ _ => hk _ _ _ _ ⟨rfl, rfl⟩)
         · rintro T_ B_ a_ w_ K_ hT hB hf hsD hk
           exact ob rfl rfl (st_move hsD (evT hT 8 rfl) rfl hf fun _ _ => hk _ _ _ _ ⟨rfl, rfl⟩)
         · rintro T_ B_ a_ w_ K_ hT hB hf hsD hk
           exact ob rfl rfl (st_move hsD (evT hT 1 rfl) rfl hf fun _ _ => hk _ _ _ _ ⟨rfl, rfl⟩)
         · rintro T_ B_ a_ w_ K_ hT hB _ _ ⟨rfl, rfl⟩ h159 - _ _ ⟨rfl, rfl⟩ h160 - hf hsD hk
           exact ob rfl rfl (st_indexM (o' := g * 1) hsD (Ev.tmp h159) (Ev.tmp h160) rfl hf hA41 runUnderlying33 sizeOf3 ⟨by omega, by have := (List.getElem?_eq_some_iff.1 hx40).1; omega⟩ (by simp) fun _ _ => hk _ _ _ _ ⟨rfl, rfl⟩)
         · rintro T_ B_ a_ w_ K_ hT hB _ _ ⟨rfl, rfl⟩ h161 - hf hsD hk
           exact ob rfl rfl (st_load1 (o := (g * 1)) (off := 0) (v := .int .i64 x40) hsD (Ev.tmp h161) rfl hf isAgg3 (hr41.at (hsD.cellsM (by rw [← ho41]; exact hB _ (mem_nth (i := 5) rfl))) hx40) rfl fun _ _ => hk _ _ _ _ ⟨rfl, rfl⟩)
         · rintro T_ B_ a_ w_ K_ hT hB hf hsD hk
           exact ob rfl rfl (st_field (o' := 0) hsD (evT hT 9 rfl) rfl hf runUnderlying25 rfl sizeOf22 rfl rfl fun _ _ => hk _ _ _ _ ⟨rfl, rfl⟩)
         · rintro T_ B_ a_ w_ K_ hT hB _ _ ⟨rfl, rfl⟩ h163 - hf hsD hk
           exact ob rfl rfl (st_load1 (o := 0) (off := 0) (v := .slice A n cp) hsD (Ev.tmp h163) rfl hf isAgg22 (hsD.cellsM (inB hB 4 rfl)) rfl fun _ _ => hk _ _ _ _ ⟨rfl, rfl⟩)
         · rintro T_ B_ a_ w_ K_ hT hB hf hsD hk
           exact ob rfl rfl (st_move hsD (evT hT 1 rfl) rfl hf fun _ _ => hk _ _ _ _ ⟨rfl, rfl⟩)
         · rintro T_ B_ a_ w_ K_ hT hB _ _ ⟨rfl, rfl⟩ h164 - _ _ ⟨rfl, rfl⟩ h165 - hf hsD hk
           exact ob rfl rfl (st_indexM (o' := o39 + g * 5) hsD (Ev.tmp h164) (Ev.tmp h165) rfl hf hA39 runUnderlying22 sizeOf46 ⟨by omega, by have := hP.len; have := (List.getElem?_eq_some_iff.1 hx38).1; omega⟩ rfl fun _ _ => hk _ _ _ _ ⟨rfl, rfl⟩)
         · rintro T_ B_ a_ w_ K_ hT hB _ _ ⟨rfl, rfl⟩ h166 - hf hsD hk
           exact ob rfl rfl (st_field (o' := o39 + g * 5) hsD (Ev.tmp h166) rfl hf runUnderlying46 rfl sizeOf3 rfl rfl fun _ _ => hk _ _ _ _ ⟨rfl, rfl⟩)
         · rintro T_ B_ a_ w_ K_ hT hB _ _ ⟨rfl, rfl⟩ h167 - hf hsD hk
           exact ob rfl rfl (st_load1 (o := o39 + g * 5) (off := 0) (v := .int .i64 x38.price) hsD (Ev.tmp h167) rfl hf isAgg3 (hsD.old hc39 (by simp)) rfl fun _ _ => hk _ _ _ _ ⟨rfl, rfl⟩)
         · rintro T_ B_ a_ w_ K_ hT hB _ _ ⟨rfl, rfl⟩ h162 - _ _ ⟨rfl, rfl⟩ h168 - hf hsD hk
           exact ob rfl rfl (st_mul (z := x40 * x38.price) hsD (Ev.tmp h162) (Ev.tmp h168) rfl hf rfl (by omega) fun _ _ => hk _ _ _ _ ⟨rfl, rfl⟩)
         · rintro T_ B_ a_ w_ K_ hT hB _ _ ⟨rfl, rfl⟩ h158 - _ _ ⟨rfl, rfl⟩ h169 - hf hsD hk
           exact ob rfl rfl (st_add (z := (tak b.rolls (l7.take g)) + (x40 * x38.price)) hsD (Ev.tmp h158) (Ev.tmp h169) rfl hf rfl (by omega) fun _ _ => hk _ _ _ _ ⟨rfl, rfl⟩)
         rintro _ _ ⟨rfl, rfl⟩ _ _ ⟨rfl, rfl⟩ _ _ ⟨rfl, rfl⟩ _ _ ⟨rfl, rfl⟩ _ _ ⟨rfl, rfl⟩ _ _ ⟨rfl, rfl⟩ _ _ ⟨rfl, rfl⟩ _ _ ⟨rfl, rfl⟩ _ _ ⟨rfl, rfl⟩ _ _ ⟨rfl, rfl⟩ _ _ ⟨rfl, rfl⟩ _ _ ⟨rfl, rfl⟩ _ _ ⟨rfl, rfl⟩ a_140 w_140 hs140; clear hs139
         have hs141 := Sx.as (T' := [_, _, _, _, _, _, _, _, _, _, _, _, _, _, _, _, _, _, _, _, _, _, _, _]) (B' := [_, _, _, _, _, _, _]) rfl rfl hs140; clear hs140
         have hs142 := hs141.keep [0, 1, 2, 3, 4, 5, 6, 7, 8, 9, 10, 11, 12, 13, 14, 16, 17, 18, 19, 20, 21, 22, 23] [_, _, _, _, _, _, _, _, _, _, _, _, _, _, _, _, _, _, _, _, _, _, _] rfl; clear hs141
         refine sq rfl (st_assign hs142 (Ev.t 12 rfl) rfl rfl fun _ _ hs143 => ?_); clear hs142
         refine wpListIn_nil ?_
         have hs144 := hs143.keep [0, 15, 16, 17, 18, 19, 20, 21, 22, 23] [_, _, _, _, _, _, _, _, _, _] rfl; clear hs143
         refine in_norm ?_
         refine th_norm (hK42 _ _ ?_)
         refine cd_region1 ?_
         refine sq rfl (st_move hs144 (Ev.t 1 rfl) rfl rfl fun _ _ hs145 => ?_); clear hs144
         refine sq rfl (st_add (z := (g : Int) + 1) hs145 (Ev.t 0 rfl) (.const _) rfl rfl rfl (by omega) fun _ _ hs146 => ?_); clear hs145
         have hs147 := hs146.keep [0, 1, 2, 4, 5, 6, 7, 8, 9, 10, 11] [_, _, _, _, _, _, _, _, _, _, _] rfl; clear hs146
         refine sq rfl (st_assign hs147 (Ev.t 0 rfl) rfl rfl fun _ _ hs148 => ?_); clear hs147
         refine wpListIn_nil ?_
         have hs149 := hs148.keep [0, 3, 4, 5, 6, 7, 8, 9, 10, 11] [_, _, _, _, _, _, _, _, _, _] rfl; clear hs148
         refine ⟨g + 1, ⟨?_, ?_⟩, by (show l7.length - (g + 1) < l7.length - g; omega)⟩
         · exact hin
         have hs150 : Sx 228 [] [(21, .int .i64 ((g : Int) + 1)), (20, .int .i64 ((tak b.rolls (l7.take g)) + (x40 * x38.price))), (18, .int .i64 ww), (16, .pointer (some ⟨b27, 0, none⟩)), (14, .pointer (some ⟨b25, 0, none⟩)), (12, .pointer (some ⟨b23, 0, none⟩)), (10, .int .i64 m), (6, .slice A7 l7.length c7), (5, .pointer (some ⟨b15, 0, none⟩)), (4, .bool false)] [(b27, some (.cells ⟨[.int .i64 v1, .int .i64 v2]⟩ 35 (0, 0))), (b25, some (.cells ⟨[.int .i64 u1, .int .i64 u2]⟩ 35 (0, 0))), (b23, some (.cells ⟨[.int .i64 t1, .int .i64 t2]⟩ 35 (0, 0))), (b15, some (.cells ⟨(bxL (b.setCount d7) A n cp A2 n2 c2)⟩ 25 (0, 0))), (b7, o7), (b8, some (.cells ⟨(bxL b A n cp A2 n2 c2)⟩ 25 (0, 0)))] [] w _ _ := Sx.blks hs149 ((List.Sublist.cons _ (List.Sublist.cons_cons _ (List.Sublist.cons_cons _ (List.Sublist.cons_cons _ (List.Sublist.cons_cons _ (List.Sublist.cons_cons _ (List.Sublist.cons_cons _ List.Sublist.slnil))))))))
         exact Sx.keepE [0, 1, 2, 3, 4, 5, 6, 7, 8, 9] _ ⟨⟨_, rfl, rfl⟩, ⟨_, rfl, by rw [htk]⟩, ⟨_, rfl, rfl⟩, ⟨_, rfl, rfl⟩, ⟨_, rfl, rfl⟩, ⟨_, rfl, rfl⟩, ⟨_, rfl, rfl⟩, ⟨_, rfl, rfl⟩, ⟨_, rfl, rfl⟩, ⟨_, rfl, rfl⟩, trivial⟩ hs150
       · have hge : g = l7.length := by simp at hc37; omega
         have hs122 := Sx.keepE [0, 1, 2, 3, 4, 5, 6, 7, 8, 9, 10] [(109, _), (21, _), (20, .int .i64 (tak b.rolls l7)), (18, _), (16, _), (14, _), (12, _), (10, _), (6, _), (5, _), (4, _)] ⟨⟨_, rfl, rfl⟩, ⟨_, rfl, rfl⟩, ⟨_, rfl, (by rw [hge, List.take_length])⟩, ⟨_, rfl, rfl⟩, ⟨_, rfl, rfl⟩, ⟨_, rfl, rfl⟩, ⟨_, rfl, rfl⟩, ⟨_, rfl, rfl⟩, ⟨_, rfl, rfl⟩, ⟨_, rfl, rfl⟩, ⟨_, rfl, rfl⟩, trivial⟩ hs121; clear hs121
         refine cd_exit ?_
         refine th_exit ?_
         refine th_exit ?_
         refine in_hit ?_
         refine th_norm (hK33 _ _ ?_)
         refine cd_region fun K49 hK49 => ?_
         refine sq rfl (st_loadA (o := 0) (off := 0) (vs := (bxL (b.setCount d7) A n cp A2 n2 c2)) hs122 (Ev.t 9 rfl) rfl rfl isAgg25 sizeOf25 (hs122.cells 3 rfl) rfl fun _ _ hs123 => ?_); clear hs122
         refine sq rfl (st_move hs123 (Ev.t 3 rfl) rfl rfl fun _ _ hs124 => ?_); clear hs123
         refine sq rfl (st_callv (vs := [.agg ⟨(bxL (b.setCount d7) A n cp A2 n2 c2)⟩, .int .i64 (tak b.rolls l7)]) hs124 (.func _) ⟨(Ev.t 1 rfl), (Ev.t 0 rfl), trivial⟩ rfl rfl call42 rfl (part_v (b.setCount d7) A n cp A2 n2 c2 (tak b.rolls l7) _ ht hd hsh hg) fun _ _ hs125 => ?_); clear hs124
         refine sq rfl (st_move hs125 (Ev.t 0 rfl) rfl rfl fun _ _ hs126 => ?_); clear hs125
         refine sq rfl (st_extract hs126 (Ev.t 0 rfl) rfl rfl rfl fun _ _ hs127 => ?_); clear hs126
         refine sq rfl (st_extract hs127 (Ev.t 1 rfl) rfl rfl rfl fun _ _ hs128 => ?_); clear hs127
         refine sq rfl (st_extract hs128 (Ev.t 2 rfl) rfl rfl rfl fun _ _ hs129 => ?_); clear hs128
         refine sq rfl (st_assign hs129 (Ev.t 2 rfl) rfl rfl fun _ _ hs130 => ?_); clear hs129
         refine sq rfl (st_assign hs130 (Ev.t 2 rfl) rfl rfl fun _ _ hs131 => ?_); clear hs130
         refine sq rfl (st_assign hs131 (Ev.t 2 rfl) rfl rfl fun _ _ hs132 => ?_); clear hs131
         refine hK49 _ _ ?_; clear hK49
         have hs133 := hs132.keep [0, 1, 2, 12, 13, 14, 15, 16, 19, 20] [_, _, _, _, _, _, _, _, _, _] rfl; clear hs132
         refine cd_region fun K50 hK50 => ?_
         refine sq rfl (st_move hs133 (Ev.t 3 rfl) rfl rfl fun _ _ hs134 => ?_); clear hs133
         refine sq rfl (st_field (o' := 2) hs134 (Ev.t 9 rfl) rfl rfl runUnderlying25 rfl sizeOf3 rfl rfl fun _ _ hs135 => ?_); clear hs134
         refine sq rfl (st_load1 (o := 0) (off := 2) (v := .int .i64 ((b.setCount d7).count)) hs135 (Ev.t 0 rfl) rfl rfl isAgg3 (hs135.cells 3 rfl) rfl fun _ _ hs136 => ?_); clear hs135
         refine sq rfl (st_sub (z := (tak b.rolls l7) - ((b.setCount d7).count)) hs136 (Ev.t 2 rfl) (Ev.t 0 rfl) rfl rfl rfl (by omega) fun _ _ hs137 => ?_); clear hs136
         refine sq rfl (st_field (o' := 2) hs137 (Ev.t 12 rfl) rfl rfl runUnderlying25 rfl sizeOf3 rfl rfl fun _ _ hs138 => ?_); clear hs137
         refine sq rfl (st_load1 (o := 0) (off := 2) (v := .int .i64 ((b.setCount d7).count)) hs138 (Ev.t 0 rfl) rfl rfl isAgg3 (hs138.cells 3 rfl) rfl fun _ _ hs139 => ?_); clear hs138
         refine sq rfl (st_move hs139 (Ev.t 9 rfl) rfl rfl fun _ _ hs140 => ?_); clear hs139
         refine sq rfl (st_sub (z := ((b.setCount d7).count) - (tak b.rolls l7)) hs140 (Ev.t 1 rfl) (Ev.t 0 rfl) rfl rfl rfl (by omega) fun _ _ hs141 => ?_); clear hs140
         refine sq rfl (st_max hs141 (Ev.t 4 rfl) (Ev.t 0 rfl) rfl rfl fun _ _ hs142 => ?_); clear hs141
         refine sq rfl (st_assign hs142 (Ev.t 0 rfl) rfl rfl fun _ _ hs143 => ?_); clear hs142
         refine hK50 _ _ ?_; clear hK50
         have hs144 := hs143.keep [0, 10, 11, 12, 13, 14, 15, 16, 17, 18, 19] [_, _, _, _, _, _, _, _, _, _, _] rfl; clear hs143
         refine cd_region fun K51 hK51 => ?_
         refine sq rfl (st_loadA (o := 0) (off := 0) (vs := [.int .i64 t1, .int .i64 t2]) hs144 (Ev.t 8 rfl) rfl rfl isAgg35 sizeOf35 (hs144.cells 2 rfl) rfl fun _ _ hs145 => ?_); clear hs144
         refine sq rfl (st_move hs145 (Ev.t 5 rfl) rfl rfl fun _ _ hs146 => ?_); clear hs145
         refine sq rfl (st_callv (vs := [.agg ⟨[.int .i64 t1, .int .i64 t2]⟩, .int .i64 (tak b.rolls l7)]) hs146 (.func _) ⟨(Ev.t 1 rfl), (Ev.t 0 rfl), trivial⟩ rfl rfl call41 rfl (callsV_eq (v' := .bool true) (holds_v t1 t2 (tak b.rolls l7) _) (by rw [Value.bool.injEq, Till.within_iff]; omega)) fun _ _ hs147 => ?_); clear hs146
         refine sq rfl (st_move hs147 (Ev.t 0 rfl) rfl rfl fun _ _ hs148 => ?_); clear hs147
         refine sq_on hs148 rfl rfl 0 rfl rfl (st_loadA (o := 0) (off := 0) (vs := [.int .i64 u1, .int .i64 u2]) hs148 (Ev.t 11 rfl) rfl rfl isAgg35 sizeOf35 (hs148.cells 1 rfl) rfl fun _ _ hs149 => ?_); clear hs148
         refine sq_on hs149 rfl rfl 1 rfl rfl (st_move hs149 (Ev.t 7 rfl) rfl rfl fun _ _ hs150 => ?_); clear hs149
         refine sq_on hs150 rfl rfl 2 rfl rfl (st_callv (vs := [.agg ⟨[.int .i64 u1, .int .i64 u2]⟩, .int .i64 (hireI (b.setCount d7) (tak b.rolls l7))]) hs150 (.func _) ⟨(Ev.t 1 rfl), (Ev.t 0 rfl), trivial⟩ rfl rfl call41 rfl (callsV_eq (v' := .bool true) (holds_v u1 u2 (hireI (b.setCount d7) (tak b.rolls l7)) _) (by rw [Value.bool.injEq, Till.within_iff]; omega)) fun _ _ hs151 => ?_); clear hs150
         refine sq rfl (st_pick hs151 (Ev.t 3 rfl) rfl rfl (fun h => (Ev.t 0 rfl)) (fun h => by cases h) fun _ _ hs152 => ?_); clear hs151
         refine sq rfl (st_move hs152 (Ev.t 0 rfl) rfl rfl fun _ _ hs153 => ?_); clear hs152
         refine sq_on hs153 rfl rfl 0 rfl rfl (st_loadA (o := 0) (off := 0) (vs := [.int .i64 v1, .int .i64 v2]) hs153 (Ev.t 15 rfl) rfl rfl isAgg35 sizeOf35 (hs153.cells 0 rfl) rfl fun _ _ hs154 => ?_); clear hs153
         refine sq_on hs154 rfl rfl 1 rfl rfl (st_move hs154 (Ev.t 11 rfl) rfl rfl fun _ _ hs155 => ?_); clear hs154
         refine sq_on hs155 rfl rfl 2 rfl rfl (st_callv (vs := [.agg ⟨[.int .i64 v1, .int .i64 v2]⟩, .int .i64 (leftI (b.setCount d7) (tak b.rolls l7))]) hs155 (.func _) ⟨(Ev.t 1 rfl), (Ev.t 0 rfl), trivial⟩ rfl rfl call41 rfl (callsV_eq (v' := .bool true) (holds_v v1 v2 (leftI (b.setCount d7) (tak b.rolls l7)) _) (by rw [Value.bool.injEq, Till.within_iff]; omega)) fun _ _ hs156 => ?_); clear hs155
         refine sq rfl (st_pick hs156 (Ev.t 3 rfl) rfl rfl (fun h => (Ev.t 0 rfl)) (fun h => by cases h) fun _ _ hs157 => ?_); clear hs156
         refine sq rfl (st_move hs157 (Ev.t 0 rfl) rfl rfl fun _ _ hs158 => ?_); clear hs157
         refine sq_on hs158 rfl rfl 0 rfl rfl (st_move hs158 (Ev.t 17 rfl) rfl rfl fun _ _ hs159 => ?_); clear hs158
         refine sq_on hs159 rfl rfl 1 rfl rfl (st_move hs159 (Ev.t 17 rfl) rfl rfl fun _ _ hs160 => ?_); clear hs159
         refine sq_on hs160 rfl rfl 2 rfl rfl (st_add (z := (dutyI (b.setCount d7) (tak b.rolls l7)) + (hireI (b.setCount d7) (tak b.rolls l7))) hs160 (Ev.t 1 rfl) (Ev.t 0 rfl) rfl rfl rfl (by omega) fun _ _ hs161 => ?_); clear hs160
         refine sq_on hs161 rfl rfl 3 rfl rfl (st_move hs161 (Ev.t 18 rfl) rfl rfl fun _ _ hs162 => ?_); clear hs161
         refine sq_on hs162 rfl rfl 4 rfl rfl (st_add (z := ((dutyI (b.setCount d7) (tak b.rolls l7)) + (hireI (b.setCount d7) (tak b.rolls l7))) + (leftI (b.setCount d7) (tak b.rolls l7))) hs162 (Ev.t 1 rfl) (Ev.t 0 rfl) rfl rfl rfl (by omega) fun _ _ hs163 => ?_); clear hs162
         refine sq_on hs163 rfl rfl 5 rfl rfl (st_move hs163 (Ev.t 23 rfl) rfl rfl fun _ _ hs164 => ?_); clear hs163
         refine sq_on hs164 rfl rfl 6 rfl rfl (st_cmp (c := true) hs164 (Ev.t 1 rfl) (Ev.t 0 rfl) rfl rfl rfl (show ((((dutyI (b.setCount d7) (tak b.rolls l7)) + (hireI (b.setCount d7) (tak b.rolls l7))) + (leftI (b.setCount d7) (tak b.rolls l7)) : Int) == (tak b.rolls l7)) = true from by simp only [beq_iff_eq]; omega) fun _ _ hs165 => ?_); clear hs164
         refine sq rfl (st_pick hs165 (Ev.t 7 rfl) rfl rfl (fun h => (Ev.t 0 rfl)) (fun h => by cases h) fun _ _ hs166 => ?_); clear hs165
         refine sq rfl (st_move hs166 (Ev.t 0 rfl) rfl rfl fun _ _ hs167 => ?_); clear hs166
         refine sq_on hs167 rfl rfl 0 rfl rfl (st_field (o' := 0) hs167 (Ev.t 30 rfl) rfl rfl runUnderlying35 rfl sizeOf3 rfl rfl fun _ _ hs168 => ?_); clear hs167
         refine sq_on hs168 rfl rfl 1 rfl rfl (st_load1 (o := 0) (off := 0) (v := .int .i64 u1) hs168 (Ev.t 0 rfl) rfl rfl isAgg3 (hs168.cells 1 rfl) rfl fun _ _ hs169 => ?_); clear hs168
         refine sq_on hs169 rfl rfl 2 rfl rfl (st_field (o' := 6) hs169 (Ev.t 34 rfl) rfl rfl runUnderlying25 rfl sizeOf3 rfl rfl fun _ _ hs170 => ?_); clear hs169
         refine sq_on hs170 rfl rfl 3 rfl rfl (st_load1 (o := 0) (off := 6) (v := .int .i64 ((b.setCount d7).guar)) hs170 (Ev.t 0 rfl) rfl rfl isAgg3 (hs170.cells 3 rfl) rfl fun _ _ hs171 => ?_); clear hs170
         refine sq_on hs171 rfl rfl 4 rfl rfl (st_cmp (c := true) hs171 (Ev.t 2 rfl) (Ev.t 0 rfl) rfl rfl rfl (show decide ((u1 : Int) ≥ ((b.setCount d7).guar)) = true from decide_eq_true (by omega)) fun _ _ hs172 => ?_); clear hs171
         refine sq rfl (st_pick hs172 (Ev.t 5 rfl) rfl rfl (fun h => (Ev.t 0 rfl)) (fun h => by cases h) fun _ _ hs173 => ?_); clear hs172
         refine sq rfl (st_move hs173 (Ev.t 0 rfl) rfl rfl fun _ _ hs174 => ?_); clear hs173
         refine sq_on hs174 rfl rfl 0 rfl rfl (st_move hs174 (Ev.t 35 rfl) rfl rfl fun _ _ hs175 => ?_); clear hs174
         refine sq_on hs175 rfl rfl 1 rfl rfl (st_cmp (c := true) hs175 (Ev.t 0 rfl) (.const _) rfl rfl rfl (show decide ((ww : Int) ≥ 0) = true from decide_eq_true (by omega)) fun _ _ hs176 => ?_); clear hs175
         refine sq rfl (st_pick hs176 (Ev.t 2 rfl) rfl rfl (fun h => (Ev.t 0 rfl)) (fun h => by cases h) fun _ _ hs177 => ?_); clear hs176
         refine sq rfl (st_move hs177 (Ev.t 0 rfl) rfl rfl fun _ _ hs178 => ?_); clear hs177
         refine sq_on hs178 rfl rfl 0 rfl rfl (st_move hs178 (Ev.t 39 rfl) rfl rfl fun _ _ hs179 => ?_); clear hs178
         refine sq_on hs179 rfl rfl 1 rfl rfl (st_move hs179 (Ev.t 35 rfl) rfl rfl fun _ _ hs180 => ?_); clear hs179
         refine sq_on hs180 rfl rfl 2 rfl rfl (st_cmp (c := true) hs180 (Ev.t 1 rfl) (Ev.t 0 rfl) rfl rfl rfl (show decide ((ww : Int) ≤ (max ((tak b.rolls l7) - ((b.setCount d7).count)) (((b.setCount d7).count) - (tak b.rolls l7)))) = true from decide_eq_true (by omega)) fun _ _ hs181 => ?_); clear hs180
         refine sq rfl (st_pick hs181 (Ev.t 3 rfl) rfl rfl (fun h => (Ev.t 0 rfl)) (fun h => by cases h) fun _ _ hs182 => ?_); clear hs181
         refine sq rfl (st_move hs182 (Ev.t 0 rfl) rfl rfl fun _ _ hs183 => ?_); clear hs182
         refine sq_on hs183 rfl rfl 0 rfl rfl (st_callv (vs := []) hs183 (.func _) trivial rfl rfl call14 rfl (counted_v _ (hG.kp hs183.kp (by simp))) fun _ _ hs184 => ?_); clear hs183
         refine sq rfl (st_pick hs184 (Ev.t 1 rfl) rfl rfl (fun h => (Ev.t 0 rfl)) (fun h => by cases h) fun _ _ hs185 => ?_); clear hs184
         have hs186 := hs185.keep [0, 1, 2, 3, 4, 5, 6, 7, 8, 9, 10, 11, 12, 13, 14, 15, 16, 17, 18, 19, 20, 21, 22, 23, 24, 25, 26, 27, 28, 29, 30, 31, 32, 33, 34, 35, 36, 37, 38, 39, 40, 41, 42, 43, 44, 45, 46, 47, 48, 49, 50] [_, _, _, _, _, _, _, _, _, _, _, _, _, _, _, _, _, _, _, _, _, _, _, _, _, _, _, _, _, _, _, _, _, _, _, _, _, _, _, _, _, _, _, _, _, _, _, _, _, _, _] rfl; clear hs185
         refine sq rfl (st_assign hs186 (Ev.t 0 rfl) rfl rfl fun _ _ hs187 => ?_); clear hs186
         refine hK51 _ _ ?_; clear hK51
         have hs188 := hs187.keep [0] [_] rfl; clear hs187
         refine cd_retv (vs := [.bool true]) hs188 hQ0 rfl ⟨.tmp 0 rfl, trivial⟩ ?_
         clear hs188 hQ0 hN0
         rfl
     · skip
       have hc52 : false = false := rfl
       refine cd_cond hs111 (Ev.t 0 rfl) (fun h => absurd (hc52.symm.trans h) (by decide)) (fun _ => ?_)
       refine cd_skip ?_
       refine th_norm (hK29 _ _ ?_)
       refine cd_region fun K53 hK53 => ?_
       refine sq rfl (st_assign hs111 (.const _) rfl rfl fun _ _ hs112 => ?_); clear hs111
       refine hK53 _ _ ?_; clear hK53
       have hs113 := hs112.keep [0, 2, 3, 4, 5, 6, 7, 8, 9] [_, _, _, _, _, _, _, _, _] rfl; clear hs112
       refine cd_seq fun K54 hK54 => ?_
       refine cd_region fun K55 hK55 => ?_
       refine sq rfl (st_assign hs113 (.const _) rfl rfl fun _ _ hs114 => ?_); clear hs113
       refine hK55 _ _ ?_; clear hK55
       refine cd_block ?_
       have hs115 : Sx 228 [] [(21, .int .i64 (0 : Int)), (20, .int .i64 (tak b.rolls (l7.take 0))), (18, .int .i64 ww), (16, .pointer (some ⟨b27, 0, none⟩)), (14, .pointer (some ⟨b25, 0, none⟩)), (12, .pointer (some ⟨b23, 0, none⟩)), (10, .int .i64 m), (6, .slice A7 l7.length c7), (5, .pointer (some ⟨b15, 0, none⟩)), (4, .bool false)] [(b27, some (.cells ⟨[.int .i64 v1, .int .i64 v2]⟩ 35 (0, 0))), (b25, some (.cells ⟨[.int .i64 u1, .int .i64 u2]⟩ 35 (0, 0))), (b23, some (.cells ⟨[.int .i64 t1, .int .i64 t2]⟩ 35 (0, 0))), (b15, some (.cells ⟨(bxL (b.setCount d7) A n cp A2 n2 c2)⟩ 25 (0, 0))), (b7, o7), (b8, some (.cells ⟨(bxL b A n cp A2 n2 c2)⟩ 25 (0, 0)))] [] w _ _ := Sx.keepE [0, 1, 2, 3, 4, 5, 6, 7, 8, 9] _ ⟨⟨_, rfl, rfl⟩, ⟨_, rfl, by cases b.rolls <;> rfl⟩, ⟨_, rfl, rfl⟩, ⟨_, rfl, rfl⟩, ⟨_, rfl, rfl⟩, ⟨_, rfl, rfl⟩, ⟨_, rfl, rfl⟩, ⟨_, rfl, rfl⟩, ⟨_, rfl, rfl⟩, ⟨_, rfl, rfl⟩, trivial⟩ hs114; clear hs114
       refine cd_loop (X := Nat) (fun g a_ w_ => (g ≤ l7.length) ∧ Sx 228 [] [(21, .int .i64 (g : Int)), (20, .int .i64 (tak b.rolls (l7.take g))), (18, .int .i64 ww), (16, .pointer (some ⟨b27, 0, none⟩)), (14, .pointer (some ⟨b25, 0, none⟩)), (12, .pointer (some ⟨b23, 0, none⟩)), (10, .int .i64 m), (6, .slice A7 l7.length c7), (5, .pointer (some ⟨b15, 0, none⟩)), (4, .bool false)] [(b27, some (.cells ⟨[.int .i64 v1, .int .i64 v2]⟩ 35 (0, 0))), (b25, some (.cells ⟨[.int .i64 u1, .int .i64 u2]⟩ 35 (0, 0))), (b23, some (.cells ⟨[.int .i64 t1, .int .i64 t2]⟩ 35 (0, 0))), (b15, some (.cells ⟨(bxL (b.setCount d7) A n cp A2 n2 c2)⟩ 25 (0, 0))), (b7, o7), (b8, some (.cells ⟨(bxL b A n cp A2 n2 c2)⟩ 25 (0, 0)))] [] w a_ w_) (fun g => l7.length - g) (0) ⟨?_, hs115⟩ ?_
       · exact Nat.zero_le _
       intro g a_116 w_116 ⟨hk, hs116⟩; clear hs115
       refine cd_seq fun K56 hK56 => ?_
       refine cd_region fun K57 hK57 => ?_
       refine sq rfl (st_move hs116 (Ev.t 0 rfl) rfl rfl fun _ _ hs117 => ?_); clear hs116
       refine sq rfl (st_move hs117 (Ev.t 8 rfl) rfl rfl fun _ _ hs118 => ?_); clear hs117
       refine sq rfl (st_len hs118 (Ev.t 0 rfl) rfl rfl runUnderlying33 fun _ _ hs119 => ?_); clear hs118
       refine sq rfl (st_cmp (c := decide (((g : Int) : Int) < (l7.length : Int))) hs119 (Ev.t 2 rfl) (Ev.t 0 rfl) rfl rfl rfl rfl fun _ _ hs120 => ?_); clear hs119
       refine hK57 _ _ ?_; clear hK57
       have hs121 := hs120.keep [0, 4, 5, 6, 7, 8, 9, 10, 11, 12, 13] [_, _, _, _, _, _, _, _, _, _, _] rfl; clear hs120
       refine cd_cond hs121 (Ev.t 0 rfl) (fun hc58 => ?_) (fun hc58 => ?_)
       · have hin : g < l7.length := by simpa using hc58
         have hir : g < b.rolls.length := by omega
         have hil9 : g < n := by have := hP.len; omega
         obtain ⟨x59, hx59⟩ : ∃ x, b.rolls[g]? = some x := ⟨_, List.getElem?_eq_getElem (by have := hP.len; omega)⟩
         obtain ⟨b60, o60, hA60, -, hc60⟩ := hP.el g x59 hx59
         obtain ⟨x61, hx61⟩ : ∃ x, l7[g]? = some x := ⟨_, List.getElem?_eq_getElem (hin)⟩
         obtain ⟨hA62, l62, ho62, hr62⟩ := hO7.open hx61
         obtain ⟨s9, hs9⟩ : ∃ s, (b.setCount d7).sold[g]? = some s := ⟨_, List.getElem?_eq_getElem (by rw [soldlen (ok_iff.1 hX1)]; exact hir)⟩
         obtain ⟨lo, hi, hS, hlo1, hlh, hhi2, hw1, hw2, hall⟩ := sold_law hX1 hmn (k := g) hx59 hs9
         have hwx : withN (b.setCount d7) (b.setCount d7).sold g x61 ≠ 0 := (withN_pos (ok_iff.1 hX1) hs9).2 ⟨l7, hl7, hc7, hx61, hr7⟩
         have hC := can_law hX1 hmn (k := g) hir hwx
         have hlx := hall _ hwx
         have htk := tak_snoc hx59 hx61
         have htp := tak_part hO hl7 hc7 (g := g) (by omega); have htq := tak_part hO hl7 hc7 (g := g + 1) (by omega)
         refine cd_skip ?_
         refine th_norm (hK56 _ _ ?_)
         refine cd_seq fun K63 hK63 => ?_
         refine cd_block ?_
         refine cd_region fun K64 hK64 => ?_
         refine sq rfl (st_loadA (o := 0) (off := 0) (vs := (bxL (b.setCount d7) A n cp A2 n2 c2)) hs121 (Ev.t 9 rfl) rfl rfl isAgg25 sizeOf25 (hs121.cells 3 rfl) rfl fun _ _ hs122 => ?_); clear hs121
         refine sq rfl (st_move hs122 (Ev.t 2 rfl) rfl rfl fun _ _ hs123 => ?_); clear hs122
         refine sq rfl (st_callv (vs := [.agg ⟨(bxL (b.setCount d7) A n cp A2 n2 c2)⟩, .int .i64 (g : Int)]) hs123 (.func _) ⟨(Ev.t 1 rfl), (Ev.t 0 rfl), trivial⟩ rfl rfl call18 rfl (callsV_eq (v' := .tuple ⟨[.agg ⟨[.int .i64 lo, .int .i64 hi]⟩, .int .i64 0]⟩) (Sold_v (b.setCount d7) A n cp A2 n2 c2 _ (hP.kp hs123.kp) hn (hF.kp hs123.kp) hn2 (g : Int)) (by rw [hS])) fun _ _ hs124 => ?_); clear hs123
         refine sq rfl (st_move hs124 (Ev.t 0 rfl) rfl rfl fun _ _ hs125 => ?_); clear hs124
         refine sq rfl (st_extract hs125 (Ev.t 0 rfl) rfl rfl rfl fun _ _ hs126 => ?_); clear hs125
         refine sq rfl (st_extract hs126 (Ev.t 1 rfl) rfl rfl rfl fun _ _ hs127 => ?_); clear hs126
         refine sq rfl (st_alloc hs127 rfl rfl zeroValue35 rfl fun b65 _ _ hs128 => ?_); clear hs127
         refine sq rfl (st_store (l' := [.int .i64 lo, .int .i64 hi]) (vs := [.int .i64 lo, .int .i64 hi]) (i := 0) hs128 (Ev.t 0 rfl) (Ev.t 2 rfl) sizeOf35 rfl rfl rfl rfl rfl rfl fun _ _ hs129 => ?_); clear hs128
         have hs130 := hs129.asB [_, _, _, _, _, _, _] rfl; clear hs129
         refine sq rfl (st_assign hs130 (Ev.t 1 rfl) rfl rfl fun _ _ hs131 => ?_); clear hs130
         refine hK64 _ _ ?_; clear hK64
         have hs132 := hs131.keep [0, 1, 9, 10, 11, 12, 13, 14, 15, 16, 17, 18] [_, _, _, _, _, _, _, _, _, _, _, _] rfl; clear hs131
         refine cd_drawn mixed hs132 [⟨119, [], Is (.agg ⟨(bxL (b.setCount d7) A n cp A2 n2 c2)⟩)⟩, ⟨120, [], Is (.int .i64 (g : Int))⟩, ⟨121, [], Is (.slice A7 l7.length c7)⟩, ⟨122, [], Is (.int .i64 (g : Int))⟩, ⟨123, [2, 3], Is (.pointer (some ⟨b7, g * 1, none⟩))⟩, ⟨124, [4], Is (.int .i64 x61)⟩, ⟨125, [0, 1, 5], Is (.tuple ⟨[.bool true, .int .i64 0]⟩)⟩, ⟨118, [6], Is (.tuple ⟨[.bool true, .int .i64 0]⟩)⟩, ⟨126, [7], Is (.bool true)⟩, ⟨127, [7], Is (.int .i64 0)⟩, ⟨24, [8], Is (.bool true)⟩] (by kernel_rfl) (by kernel_rfl) fun K66 hK66 => ⟨⟨?_, ?_, ?_, ?_, ?_, ?_, ?_, ?_, ?_, ?_, ?_, trivial⟩, ?_⟩
         · rintro T_ B_ a_ w_ K_ hT hB hf hsD hk
           exact ob rfl rfl (st_loadA (o := 0) (off := 0) (vs := (bxL (b.setCount d7) A n cp A2 n2 c2)) hsD (evT hT 10 rfl) rfl hf isAgg25 sizeOf25 (hsD.cellsM (inB hB 4 rfl)) rfl fun _ _ => hk _ _ _ _ ⟨rfl, rfl⟩)
         · rintro T_ B_ a_ w_ K_ hT hB hf hsD hk
           exact ob rfl rfl (st_move hsD (evT hT 2 rfl) rfl hf fun _ _ => hk _ _ _ _ ⟨rfl, rfl⟩)
         · rintro T_ B_ a_ w_ K_ hT hB hf hsD hk
           exact ob rfl rfl (st_move hsD (evT hT 9 rfl) rfl hf fun _ _ => hk _ _ _ _ ⟨rfl, rfl⟩)
         · rintro T_ B_ a_ w_ K_ hT hB hf hsD hk
           exact ob rfl rfl (st_move hsD (evT hT 2 rfl) rfl hf fun _ _ => hk _ _ _ _ ⟨rfl, rfl⟩)
         · rintro T_ B_ a_ w_ K_ hT hB _ _ ⟨rfl, rfl⟩ h121 - _ _ ⟨rfl, rfl⟩ h122 - hf hsD hk
           exact ob rfl rfl (st_indexM (o' := g * 1) hsD (Ev.tmp h121) (Ev.tmp h122) rfl hf hA62 runUnderlying33 sizeOf3 ⟨by omega, by have := (List.getElem?_eq_some_iff.1 hx61).1; omega⟩ (by simp) fun _ _ => hk _ _ _ _ ⟨rfl, rfl⟩)
         · rintro T_ B_ a_ w_ K_ hT hB _ _ ⟨rfl, rfl⟩ h123 - hf hsD hk
           exact ob rfl rfl (st_load1 (o := (g * 1)) (off := 0) (v := .int .i64 x61) hsD (Ev.tmp h123) rfl hf isAgg3 (hr62.at (hsD.cellsM (by rw [← ho62]; exact hB _ (mem_nth (i := 5) rfl))) hx61) rfl fun _ _ => hk _ _ _ _ ⟨rfl, rfl⟩)
         · rintro T_ B_ a_ w_ K_ hT hB _ _ ⟨rfl, rfl⟩ h119 - _ _ ⟨rfl, rfl⟩ h120 - _ _ ⟨rfl, rfl⟩ h124 - hf hsD hk
           exact ob rfl rfl (st_callv (vs := [.agg ⟨(bxL (b.setCount d7) A n cp A2 n2 c2)⟩, .int .i64 (g : Int), .int .i64 x61]) hsD (.func _) ⟨(Ev.tmp h119), (Ev.tmp h120), (Ev.tmp h124), trivial⟩ rfl hf call21 rfl (callsV_eq (v' := .tuple ⟨[.bool true, .int .i64 0]⟩) (Can_v (b.setCount d7) A n cp A2 n2 c2 _ (hP.kp hsD.kp) hn (hF.kp hsD.kp) hn2 (g : Int) x61) (by rw [hC])) fun _ _ => hk _ _ _ _ ⟨rfl, rfl⟩)
         · rintro T_ B_ a_ w_ K_ hT hB _ _ ⟨rfl, rfl⟩ h125 - hf hsD hk
           exact ob rfl rfl (st_move hsD (Ev.tmp h125) rfl hf fun _ _ => hk _ _ _ _ ⟨rfl, rfl⟩)
         · rintro T_ B_ a_ w_ K_ hT hB _ _ ⟨rfl, rfl⟩ h118 - hf hsD hk
           exact ob rfl rfl (st_extract hsD (Ev.tmp h118) rfl hf rfl fun _ _ => hk _ _ _ _ ⟨rfl, rfl⟩)
         · rintro T_ B_ a_ w_ K_ hT hB _ _ ⟨rfl, rfl⟩ h118 - hf hsD hk
           exact ob rfl rfl (st_extract hsD (Ev.tmp h118) rfl hf rfl fun _ _ => hk _ _ _ _ ⟨rfl, rfl⟩)
         · rintro T_ B_ a_ w_ K_ hT hB _ _ ⟨rfl, rfl⟩ h126 - hf hsD hk
           exact ob rfl rfl (st_assign hsD (Ev.tmp h126) rfl hf fun _ _ => hk _ _ _ _ ⟨rfl, rfl⟩)
         rintro _ _ ⟨rfl, rfl⟩ _ _ ⟨rfl, rfl⟩ _ _ ⟨rfl, rfl⟩ _ _ ⟨rfl, rfl⟩ _ _ ⟨rfl, rfl⟩ _ _ ⟨rfl, rfl⟩ _ _ ⟨rfl, rfl⟩ _ _ ⟨rfl, rfl⟩ _ _ ⟨rfl, rfl⟩ _ _ ⟨rfl, rfl⟩ _ _ ⟨rfl, rfl⟩ a_133 w_133 hs133; clear hs132
         have hs134 := Sx.as (T' := [_, _, _, _, _, _, _, _, _, _, _, _, _, _, _, _, _, _, _, _, _, _, _]) (B' := [_, _, _, _, _, _, _]) rfl rfl hs133; clear hs133
         refine sq rfl (st_assign hs134 (Ev.t 9 rfl) rfl rfl fun _ _ hs135 => ?_); clear hs134
         refine hK66 _ _ ?_; clear hK66
         have hs136 := hs135.keep [0, 11, 12, 13, 14, 15, 16, 17, 18, 19, 20, 21, 22, 23] [_, _, _, _, _, _, _, _, _, _, _, _, _, _] rfl; clear hs135
         refine cd_seq fun K67 hK67 => ?_
         refine cd_drawn mixed hs136 [⟨128, [], Is (.int .i64 0)⟩, ⟨129, [0], Is (.bool false)⟩, ⟨130, [1], Is (.bool false)⟩, ⟨131, [2], Is (.int .i64 0)⟩, ⟨132, [2, 3], Is (.bool false)⟩, ⟨133, [2, 4], Is (.bool false)⟩, ⟨134, [5], Is (.bool false)⟩, ⟨135, [6], Is (.agg ⟨[.int .i64 lo, .int .i64 hi]⟩)⟩, ⟨136, [6], Is (.slice A7 l7.length c7)⟩, ⟨137, [6], Is (.int .i64 (g : Int))⟩, ⟨138, [6, 8, 9], Is (.pointer (some ⟨b7, g * 1, none⟩))⟩, ⟨139, [6, 10], Is (.int .i64 x61)⟩, ⟨140, [6, 7, 11], Is (.bool true)⟩, ⟨141, [6, 12], Is (.bool false)⟩, ⟨142, [6, 13], Is (.bool false)⟩, ⟨143, [14], Is (.bool false)⟩, ⟨144, [15], Is (.bool true)⟩, ⟨145, [15, 16], Is (.bool false)⟩, ⟨146, [15, 17], Is (.bool false)⟩, ⟨147, [18], Is (.bool false)⟩, ⟨148, [19], Is (.int .i64 m)⟩, ⟨149, [19, 20], Is (.bool false)⟩, ⟨150, [19, 21], Is (.bool false)⟩, ⟨151, [22], Is (undef)⟩, ⟨152, [22, 23], Is (undef)⟩, ⟨153, [22], Is (undef)⟩, ⟨154, [22, 25], Is (undef)⟩, ⟨155, [22, 24, 26], Is (undef)⟩, ⟨156, [19, 22, 27], Is (.bool false)⟩, ⟨157, [19, 28], Is (.bool false)⟩] (by kernel_rfl) (by kernel_rfl) fun K68 hK68 => ⟨⟨?_, ?_, ?_, ?_, ?_, ?_, ?_, ?_, ?_, ?_, ?_, ?_, ?_, ?_, ?_, ?_, ?_, ?_, ?_, ?_, ?_, ?_, ?_, ?_, ?_, ?_, ?_, ?_, ?_, ?_, trivial⟩, ?_⟩
         · rintro T_ B_ a_ w_ K_ hT hB hf hsD hk
           exact ob rfl rfl (st_move hsD (evT hT 2 rfl) rfl hf fun _ _ => hk _ _ _ _ ⟨rfl, rfl⟩)
         · rintro T_ B_ a_ w_ K_ hT hB _ _ ⟨rfl, rfl⟩ h128 - hf hsD hk
           exact ob rfl rfl (st_cmp (c := false) hsD (Ev.tmp h128) (.const _) rfl hf rfl rfl fun _ _ => hk _ _ _ _ ⟨rfl, rfl⟩)
         · rintro T_ B_ a_ w_ K_ hT hB _ _ ⟨rfl, rfl⟩ h129 - hf hsD hk
           exact ob rfl rfl (st_move hsD (Ev.tmp h129) rfl hf fun _ _ => hk _ _ _ _ ⟨rfl, rfl⟩)
         · rintro T_ B_ a_ w_ K_ hT hB _ _ ⟨rfl, rfl⟩ h130 - hf hsD hk
           exact ob_gv hsD (gg := true) (v := .int .i64 0) rfl rfl rfl h130 rfl rfl rfl hf (fun _ K1 hK1 => st_move hsD (evT hT 0 rfl) rfl hf hK1) fun _ _ => hk _ _ _ _ ⟨rfl, rfl⟩
         · rintro T_ B_ a_ w_ K_ hT hB _ _ ⟨rfl, rfl⟩ h130 - _ _ ⟨rfl, rfl⟩ h131 - hf hsD hk
           exact ob_gv hsD (gg := true) (v := .bool false) rfl rfl rfl h130 rfl rfl rfl hf (fun _ K1 hK1 => st_cmp (c := false) hsD (Ev.tmp h131) (.const _) rfl hf rfl rfl hK1) fun _ _ => hk _ _ _ _ ⟨rfl, rfl⟩
         · rintro T_ B_ a_ w_ K_ hT hB _ _ ⟨rfl, rfl⟩ h130 - _ _ ⟨rfl, rfl⟩ h132 - hf hsD hk
           exact ob rfl rfl (st_pick hsD (Ev.tmp h130) rfl hf (fun h => by cases h) (fun h => (Ev.tmp h132)) fun _ _ => hk _ _ _ _ ⟨rfl, rfl⟩)
         · rintro T_ B_ a_ w_ K_ hT hB _ _ ⟨rfl, rfl⟩ h133 - hf hsD hk
           exact ob rfl rfl (st_move hsD (Ev.tmp h133) rfl hf fun _ _ => hk _ _ _ _ ⟨rfl, rfl⟩)
         · rintro T_ B_ a_ w_ K_ hT hB _ _ ⟨rfl, rfl⟩ h134 - hf hsD hk
           exact ob_gv hsD (gg := true) (v := .agg ⟨[.int .i64 lo, .int .i64 hi]⟩) rfl rfl rfl h134 rfl rfl rfl hf (fun _ K1 hK1 => st_loadA (o := 0) (off := 0) (vs := [.int .i64 lo, .int .i64 hi]) hsD (evT hT 3 rfl) rfl hf isAgg35 sizeOf35 (hsD.cellsM (inB hB 0 rfl)) rfl hK1) fun _ _ => hk _ _ _ _ ⟨rfl, rfl⟩
         · rintro T_ B_ a_ w_ K_ hT hB _ _ ⟨rfl, rfl⟩ h134 - hf hsD hk
           exact ob_gv hsD (gg := true) (v := .slice A7 l7.length c7) rfl rfl rfl h134 rfl rfl rfl hf (fun _ K1 hK1 => st_move hsD (evT hT 11 rfl) rfl hf hK1) fun _ _ => hk _ _ _ _ ⟨rfl, rfl⟩
         · rintro T_ B_ a_ w_ K_ hT hB _ _ ⟨rfl, rfl⟩ h134 - hf hsD hk
           exact ob_gv hsD (gg := true) (v := .int .i64 (g : Int)) rfl rfl rfl h134 rfl rfl rfl hf (fun _ K1 hK1 => st_move hsD (evT hT 4 rfl) rfl hf hK1) fun _ _ => hk _ _ _ _ ⟨rfl, rfl⟩
         · rintro T_ B_ a_ w_ K_ hT hB _ _ ⟨rfl, rfl⟩ h134 - _ _ ⟨rfl, rfl⟩ h136 - _ _ ⟨rfl, rfl⟩ h137 - hf hsD hk
           exact ob_gv hsD (gg := true) (v := .pointer (some ⟨b7, g * 1, none⟩)) rfl rfl rfl h134 rfl rfl rfl hf (fun _ K1 hK1 => st_indexM (o' := g * 1) hsD (Ev.tmp h136) (Ev.tmp h137) rfl hf hA62 runUnderlying33 sizeOf3 ⟨by omega, by have := (List.getElem?_eq_some_iff.1 hx61).1; omega⟩ (by simp) hK1) fun _ _ => hk _ _ _ _ ⟨rfl, rfl⟩
         · rintro T_ B_ a_ w_ K_ hT hB _ _ ⟨rfl, rfl⟩ h134 - _ _ ⟨rfl, rfl⟩ h138 - hf hsD hk
           exact ob_gv hsD (gg := true) (v := .int .i64 x61) rfl rfl rfl h134 rfl rfl rfl hf (fun _ K1 hK1 => st_load1 (o := (g * 1)) (off := 0) (v := .int .i64 x61) hsD (Ev.tmp h138) rfl hf isAgg3 (hr62.at (hsD.cellsM (by rw [← ho62]; exact hB _ (mem_nth (i := 5) rfl))) hx61) rfl hK1) fun _ _ => hk _ _ _ _ ⟨rfl, rfl⟩
         · rintro T_ B_ a_ w_ K_ hT hB _ _ ⟨rfl, rfl⟩ h134 - _ _ ⟨rfl, rfl⟩ h135 - _ _ ⟨rfl, rfl⟩ h139 - hf hsD hk
           exact ob_gv hsD (gg := true) (v := .bool true) rfl rfl rfl h134 rfl rfl rfl hf (fun _ K1 hK1 => st_callv (vs := [.agg ⟨[.int .i64 lo, .int .i64 hi]⟩, .int .i64 x61]) hsD (.func _) ⟨(Ev.tmp h135), (Ev.tmp h139), trivial⟩ rfl hf call41 rfl (callsV_eq (v' := .bool true) (holds_v lo hi x61 _) (by rw [Value.bool.injEq, Till.within_iff]; omega)) hK1) fun _ _ => hk _ _ _ _ ⟨rfl, rfl⟩
         · rintro T_ B_ a_ w_ K_ hT hB _ _ ⟨rfl, rfl⟩ h134 - _ _ ⟨rfl, rfl⟩ h140 - hf hsD hk
           exact ob_gv hsD (gg := true) (v := .bool false) rfl rfl rfl h134 rfl rfl rfl hf (fun _ K1 hK1 => st_not hsD (Ev.tmp h140) rfl hf hK1) fun _ _ => hk _ _ _ _ ⟨rfl, rfl⟩
         · rintro T_ B_ a_ w_ K_ hT hB _ _ ⟨rfl, rfl⟩ h134 - _ _ ⟨rfl, rfl⟩ h141 - hf hsD hk
           exact ob rfl rfl (st_pick hsD (Ev.tmp h134) rfl hf (fun h => by cases h) (fun h => (Ev.tmp h141)) fun _ _ => hk _ _ _ _ ⟨rfl, rfl⟩)
         · rintro T_ B_ a_ w_ K_ hT hB _ _ ⟨rfl, rfl⟩ h142 - hf hsD hk
           exact ob rfl rfl (st_move hsD (Ev.tmp h142) rfl hf fun _ _ => hk _ _ _ _ ⟨rfl, rfl⟩)
         · rintro T_ B_ a_ w_ K_ hT hB _ _ ⟨rfl, rfl⟩ h143 - hf hsD hk
           exact ob_gv hsD (gg := true) (v := .bool true) rfl rfl rfl h143 rfl rfl rfl hf (fun _ K1 hK1 => st_move hsD (evT hT 1 rfl) rfl hf hK1) fun _ _ => hk _ _ _ _ ⟨rfl, rfl⟩
         · rintro T_ B_ a_ w_ K_ hT hB _ _ ⟨rfl, rfl⟩ h143 - _ _ ⟨rfl, rfl⟩ h144 - hf hsD hk
           exact ob_gv hsD (gg := true) (v := .bool false) rfl rfl rfl h143 rfl rfl rfl hf (fun _ K1 hK1 => st_not hsD (Ev.tmp h144) rfl hf hK1) fun _ _ => hk _ _ _ _ ⟨rfl, rfl⟩
         · rintro T_ B_ a_ w_ K_ hT hB _ _ ⟨rfl, rfl⟩ h143 - _ _ ⟨rfl, rfl⟩ h145 - hf hsD hk
           exact ob rfl rfl (st_pick hsD (Ev.tmp h143) rfl hf (fun h => by cases h) (fun h => (Ev.tmp h145)) fun _ _ => hk _ _ _ _ ⟨rfl, rfl⟩)
         · rintro T_ B_ a_ w_ K_ hT hB _ _ ⟨rfl, rfl⟩ h146 - hf hsD hk
           exact ob rfl rfl (st_move hsD (Ev.tmp h146) rfl hf fun _ _ => hk _ _ _ _ ⟨rfl, rfl⟩)
         · rintro T_ B_ a_ w_ K_ hT hB _ _ ⟨rfl, rfl⟩ h147 - hf hsD hk
           exact ob_gv hsD (gg := true) (v := .int .i64 m) rfl rfl rfl h147 rfl rfl rfl hf (fun _ K1 hK1 => st_move hsD (evT hT 10 rfl) rfl hf hK1) fun _ _ => hk _ _ _ _ ⟨rfl, rfl⟩
         · rintro T_ B_ a_ w_ K_ hT hB _ _ ⟨rfl, rfl⟩ h147 - _ _ ⟨rfl, rfl⟩ h148 - hf hsD hk
           exact ob_gv hsD (gg := true) (v := .bool false) rfl rfl rfl h147 rfl rfl rfl hf (fun _ K1 hK1 => st_cmp (c := false) hsD (Ev.tmp h148) (.const _) rfl hf rfl (show ((m : Int) == 1) = false from by simp only [beq_eq_false_iff_ne]; omega) hK1) fun _ _ => hk _ _ _ _ ⟨rfl, rfl⟩
         · rintro T_ B_ a_ w_ K_ hT hB _ _ ⟨rfl, rfl⟩ h147 - _ _ ⟨rfl, rfl⟩ h149 - hf hsD hk
           exact ob_gv hsD (gg := true) (v := .bool false) rfl rfl rfl h147 rfl rfl rfl hf (fun _ K1 hK1 => st_move hsD (Ev.tmp h149) rfl hf hK1) fun _ _ => hk _ _ _ _ ⟨rfl, rfl⟩
         · rintro T_ B_ a_ w_ K_ hT hB _ _ ⟨rfl, rfl⟩ h150 - hf hsD hk
           exact ob_gv hsD (gg := false) (v := undef) rfl rfl rfl h150 rfl rfl rfl hf (fun h => absurd h (by decide)) fun _ _ => hk _ _ _ _ ⟨rfl, rfl⟩
         · rintro T_ B_ a_ w_ K_ hT hB _ _ ⟨rfl, rfl⟩ h150 - _ _ ⟨rfl, rfl⟩ h151 - hf hsD hk
           exact ob_gv hsD (gg := false) (v := undef) rfl rfl rfl h150 rfl rfl rfl hf (fun h => absurd h (by decide)) fun _ _ => hk _ _ _ _ ⟨rfl, rfl⟩
         · rintro T_ B_ a_ w_ K_ hT hB _ _ ⟨rfl, rfl⟩ h150 - hf hsD hk
           exact ob_gv hsD (gg := false) (v := undef) rfl rfl rfl h150 rfl rfl rfl hf (fun h => absurd h (by decide)) fun _ _ => hk _ _ _ _ ⟨rfl, rfl⟩
         · rintro T_ B_ a_ w_ K_ hT hB _ _ ⟨rfl, rfl⟩ h150 - _ _ ⟨rfl, rfl⟩ h153 - hf hsD hk
           exact ob_gv hsD (gg := false) (v := undef) rfl rfl rfl h150 rfl rfl rfl hf (fun h => absurd h (by decide)) fun _ _ => hk _ _ _ _ ⟨rfl, rfl⟩
         · rintro T_ B_ a_ w_ K_ hT hB _ _ ⟨rfl, rfl⟩ h150 - _ _ ⟨rfl, rfl⟩ h152 - _ _ ⟨rfl, rfl⟩ h154 - hf hsD hk
           exact ob_gv hsD (gg := false) (v := undef) rfl rfl rfl h150 rfl rfl rfl hf (fun h => absurd h (by decide)) fun _ _ => hk _ _ _ _ ⟨rfl, rfl⟩
         · rintro T_ B_ a_ w_ K_ hT hB _ _ ⟨rfl, rfl⟩ h147 - _ _ ⟨rfl, rfl⟩ h150 - _ _ ⟨rfl, rfl⟩ h155 - hf hsD hk
           exact ob_gv hsD (gg := true) (v := .bool false) rfl rfl rfl h147 rfl rfl rfl hf (fun _ K1 hK1 => st_pick hsD (Ev.tmp h150) rfl hf (fun h => by cases h) (fun h => (.const _)) hK1) fun _ _ => hk _ _ _ _ ⟨rfl, rfl⟩
         · rintro T_ B_ a_ w_ K_ hT hB _ _ ⟨rfl, rfl⟩ h147 - _ _ ⟨rfl, rfl⟩ h156 - hf hsD hk
           exact ob rfl rfl (st_pick hsD (Ev.tmp h147) rfl hf (fun h => by cases h) (fun h => (Ev.tmp h156)) fun _ _ => hk _ _ _ _ ⟨rfl, rfl⟩)
         rintro _ _ ⟨rfl, rfl⟩ _ _ ⟨rfl, rfl⟩ _ _ ⟨rfl, rfl⟩ _ _ ⟨rfl, rfl⟩ _ _ ⟨rfl, rfl⟩ _ _ ⟨rfl, rfl⟩ _ _ ⟨rfl, rfl⟩ _ _ ⟨rfl, rfl⟩ _ _ ⟨rfl, rfl⟩ _ _ ⟨rfl, rfl⟩ _ _ ⟨rfl, rfl⟩ _ _ ⟨rfl, rfl⟩ _ _ ⟨rfl, rfl⟩ _ _ ⟨rfl, rfl⟩ _ _ ⟨rfl, rfl⟩ _ _ ⟨rfl, rfl⟩ _ _ ⟨rfl, rfl⟩ _ _ ⟨rfl, rfl⟩ _ _ ⟨rfl, rfl⟩ _ _ ⟨rfl, rfl⟩ _ _ ⟨rfl, rfl⟩ _ _ ⟨rfl, rfl⟩ _ _ ⟨rfl, rfl⟩ _ _ ⟨rfl, rfl⟩ _ _ ⟨rfl, rfl⟩ _ _ ⟨rfl, rfl⟩ _ _ ⟨rfl, rfl⟩ _ _ ⟨rfl, rfl⟩ _ _ ⟨rfl, rfl⟩ _ _ ⟨rfl, rfl⟩ a_137 w_137 hs137; clear hs136
         have hs138 := Sx.as (T' := [_, _, _, _, _, _, _, _, _, _, _, _, _, _, _, _, _, _, _, _, _, _, _, _, _, _, _, _, _, _, _, _, _, _, _, _, _, _, _, _, _, _, _, _]) (B' := [_, _, _, _, _, _, _]) rfl rfl hs137; clear hs137
         refine hK68 _ _ ?_; clear hK68
         have hs139 := hs138.keep [29, 34, 35, 36, 37, 38, 39, 40, 41, 42, 43] [_, _, _, _, _, _, _, _, _, _, _] rfl; clear hs138
         have hc69 : false = false := rfl
         refine cd_cond hs139 (Ev.t 0 rfl) (fun h => absurd (hc69.symm.trans h) (by decide)) (fun _ => ?_)
         refine cd_skip ?_
         refine th_norm (hK67 _ _ ?_)
         refine cd_drawn1 mixed hs139 [⟨158, [], Is (.int .i64 (tak b.rolls (l7.take g)))⟩, ⟨159, [], Is (.slice A7 l7.length c7)⟩, ⟨160, [], Is (.int .i64 (g : Int))⟩, ⟨161, [1, 2], Is (.pointer (some ⟨b7, g * 1, none⟩))⟩, ⟨162, [3], Is (.int .i64 x61)⟩, ⟨163, [], Is (.pointer (some ⟨b15, 0, none⟩))⟩, ⟨164, [5], Is (.slice A n cp)⟩, ⟨165, [], Is (.int .i64 (g : Int))⟩, ⟨166, [6, 7], Is (.pointer (some ⟨b60, o60 + g * 5, none⟩))⟩, ⟨167, [8], Is (.pointer (some ⟨b60, o60 + g * 5, none⟩))⟩, ⟨168, [9], Is (.int .i64 x59.price)⟩, ⟨169, [4, 10], Is (.int .i64 (x61 * x59.price))⟩, ⟨170, [0, 11], Is (.int .i64 ((tak b.rolls (l7.take g)) + (x61 * x59.price)))⟩] (by kernel_rfl) (by kernel_rfl) ⟨⟨?_, ?_, ?_, ?_, ?_, ?_, ?_, ?_, ?_, ?_, ?_, ?_, ?_, trivial⟩, ?_⟩
         · rintro T_ B_ a_ w_ K_ hT hB hf hsD hk
           exact ob rfl rfl (st_move hsD (evT hT 2 rfl) rfl hf fun _ _ => hk _ _ _ _ ⟨rfl, rfl⟩)
         · rintro T_ B_ a_ w_ K_ hT hB hf hsD hk
           exact ob rfl rfl (st_move hsD (evT hT 8 rfl) rfl hf fun _ _ => hk _ _ _ _ ⟨rfl, rfl⟩)
         · rintro T_ B_ a_ w_ K_ hT hB hf hsD hk
           exact ob rfl rfl (st_move hsD (evT hT 1 rfl) rfl hf fun _ _ => hk _ _ _ _ ⟨rfl, rfl⟩)
         · rintro T_ B_ a_ w_ K_ hT hB _ _ ⟨rfl, rfl⟩ h159 - _ _ ⟨rfl, rfl⟩ h160 - hf hsD hk
           exact ob rfl rfl (st_indexM (o' := g * 1) hsD (Ev.tmp h159) (Ev.tmp h160) rfl hf hA62 runUnderlying33 sizeOf3 ⟨by omega, by have := (List.getElem?_eq_some_iff.1 hx61).1; omega⟩ (by simp) fun _ _ => hk _ _ _ _ ⟨rfl, rfl⟩)
         · rintro T_ B_ a_ w_ K_ hT hB _ _ ⟨rfl, rfl⟩ h161 - hf hsD hk
           exact ob rfl rfl (st_load1 (o := (g * 1)) (off := 0) (v := .int .i64 x61) hsD (Ev.tmp h161) rfl hf isAgg3 (hr62.at (hsD.cellsM (by rw [← ho62]; exact hB _ (mem_nth (i := 5) rfl))) hx61) rfl fun _ _ => hk _ _ _ _ ⟨rfl, rfl⟩)
         · rintro T_ B_ a_ w_ K_ hT hB hf hsD hk
           exact ob rfl rfl (st_field (o' := 0) hsD (evT hT 9 rfl) rfl hf runUnderlying25 rfl sizeOf22 rfl rfl fun _ _ => hk _ _ _ _ ⟨rfl, rfl⟩)
         · rintro T_ B_ a_ w_ K_ hT hB _ _ ⟨rfl, rfl⟩ h163 - hf hsD hk
           exact ob rfl rfl (st_load1 (o := 0) (off := 0) (v := .slice A n cp) hsD (Ev.tmp h163) rfl hf isAgg22 (hsD.cellsM (inB hB 4 rfl)) rfl fun _ _ => hk _ _ _ _ ⟨rfl, rfl⟩)
         · rintro T_ B_ a_ w_ K_ hT hB hf hsD hk
           exact ob rfl rfl (st_move hsD (evT hT 1 rfl) rfl hf fun _ _ => hk _ _ _ _ ⟨rfl, rfl⟩)
         · rintro T_ B_ a_ w_ K_ hT hB _ _ ⟨rfl, rfl⟩ h164 - _ _ ⟨rfl, rfl⟩ h165 - hf hsD hk
           exact ob rfl rfl (st_indexM (o' := o60 + g * 5) hsD (Ev.tmp h164) (Ev.tmp h165) rfl hf hA60 runUnderlying22 sizeOf46 ⟨by omega, by have := hP.len; have := (List.getElem?_eq_some_iff.1 hx59).1; omega⟩ rfl fun _ _ => hk _ _ _ _ ⟨rfl, rfl⟩)
         · rintro T_ B_ a_ w_ K_ hT hB _ _ ⟨rfl, rfl⟩ h166 - hf hsD hk
           exact ob rfl rfl (st_field (o' := o60 + g * 5) hsD (Ev.tmp h166) rfl hf runUnderlying46 rfl sizeOf3 rfl rfl fun _ _ => hk _ _ _ _ ⟨rfl, rfl⟩)
         · rintro T_ B_ a_ w_ K_ hT hB _ _ ⟨rfl, rfl⟩ h167 - hf hsD hk
           exact ob rfl rfl (st_load1 (o := o60 + g * 5) (off := 0) (v := .int .i64 x59.price) hsD (Ev.tmp h167) rfl hf isAgg3 (hsD.old hc60 (by simp)) rfl fun _ _ => hk _ _ _ _ ⟨rfl, rfl⟩)
         · rintro T_ B_ a_ w_ K_ hT hB _ _ ⟨rfl, rfl⟩ h162 - _ _ ⟨rfl, rfl⟩ h168 - hf hsD hk
           exact ob rfl rfl (st_mul (z := x61 * x59.price) hsD (Ev.tmp h162) (Ev.tmp h168) rfl hf rfl (by omega) fun _ _ => hk _ _ _ _ ⟨rfl, rfl⟩)
         · rintro T_ B_ a_ w_ K_ hT hB _ _ ⟨rfl, rfl⟩ h158 - _ _ ⟨rfl, rfl⟩ h169 - hf hsD hk
           exact ob rfl rfl (st_add (z := (tak b.rolls (l7.take g)) + (x61 * x59.price)) hsD (Ev.tmp h158) (Ev.tmp h169) rfl hf rfl (by omega) fun _ _ => hk _ _ _ _ ⟨rfl, rfl⟩)
         rintro _ _ ⟨rfl, rfl⟩ _ _ ⟨rfl, rfl⟩ _ _ ⟨rfl, rfl⟩ _ _ ⟨rfl, rfl⟩ _ _ ⟨rfl, rfl⟩ _ _ ⟨rfl, rfl⟩ _ _ ⟨rfl, rfl⟩ _ _ ⟨rfl, rfl⟩ _ _ ⟨rfl, rfl⟩ _ _ ⟨rfl, rfl⟩ _ _ ⟨rfl, rfl⟩ _ _ ⟨rfl, rfl⟩ _ _ ⟨rfl, rfl⟩ a_140 w_140 hs140; clear hs139
         have hs141 := Sx.as (T' := [_, _, _, _, _, _, _, _, _, _, _, _, _, _, _, _, _, _, _, _, _, _, _, _]) (B' := [_, _, _, _, _, _, _]) rfl rfl hs140; clear hs140
         have hs142 := hs141.keep [0, 1, 2, 3, 4, 5, 6, 7, 8, 9, 10, 11, 12, 13, 14, 16, 17, 18, 19, 20, 21, 22, 23] [_, _, _, _, _, _, _, _, _, _, _, _, _, _, _, _, _, _, _, _, _, _, _] rfl; clear hs141
         refine sq rfl (st_assign hs142 (Ev.t 12 rfl) rfl rfl fun _ _ hs143 => ?_); clear hs142
         refine wpListIn_nil ?_
         have hs144 := hs143.keep [0, 15, 16, 17, 18, 19, 20, 21, 22, 23] [_, _, _, _, _, _, _, _, _, _] rfl; clear hs143
         refine in_norm ?_
         refine th_norm (hK63 _ _ ?_)
         refine cd_region1 ?_
         refine sq rfl (st_move hs144 (Ev.t 1 rfl) rfl rfl fun _ _ hs145 => ?_); clear hs144
         refine sq rfl (st_add (z := (g : Int) + 1) hs145 (Ev.t 0 rfl) (.const _) rfl rfl rfl (by omega) fun _ _ hs146 => ?_); clear hs145
         have hs147 := hs146.keep [0, 1, 2, 4, 5, 6, 7, 8, 9, 10, 11] [_, _, _, _, _, _, _, _, _, _, _] rfl; clear hs146
         refine sq rfl (st_assign hs147 (Ev.t 0 rfl) rfl rfl fun _ _ hs148 => ?_); clear hs147
         refine wpListIn_nil ?_
         have hs149 := hs148.keep [0, 3, 4, 5, 6, 7, 8, 9, 10, 11] [_, _, _, _, _, _, _, _, _, _] rfl; clear hs148
         refine ⟨g + 1, ⟨?_, ?_⟩, by (show l7.length - (g + 1) < l7.length - g; omega)⟩
         · exact hin
         have hs150 : Sx 228 [] [(21, .int .i64 ((g : Int) + 1)), (20, .int .i64 ((tak b.rolls (l7.take g)) + (x61 * x59.price))), (18, .int .i64 ww), (16, .pointer (some ⟨b27, 0, none⟩)), (14, .pointer (some ⟨b25, 0, none⟩)), (12, .pointer (some ⟨b23, 0, none⟩)), (10, .int .i64 m), (6, .slice A7 l7.length c7), (5, .pointer (some ⟨b15, 0, none⟩)), (4, .bool false)] [(b27, some (.cells ⟨[.int .i64 v1, .int .i64 v2]⟩ 35 (0, 0))), (b25, some (.cells ⟨[.int .i64 u1, .int .i64 u2]⟩ 35 (0, 0))), (b23, some (.cells ⟨[.int .i64 t1, .int .i64 t2]⟩ 35 (0, 0))), (b15, some (.cells ⟨(bxL (b.setCount d7) A n cp A2 n2 c2)⟩ 25 (0, 0))), (b7, o7), (b8, some (.cells ⟨(bxL b A n cp A2 n2 c2)⟩ 25 (0, 0)))] [] w _ _ := Sx.blks hs149 ((List.Sublist.cons _ (List.Sublist.cons_cons _ (List.Sublist.cons_cons _ (List.Sublist.cons_cons _ (List.Sublist.cons_cons _ (List.Sublist.cons_cons _ (List.Sublist.cons_cons _ List.Sublist.slnil))))))))
         exact Sx.keepE [0, 1, 2, 3, 4, 5, 6, 7, 8, 9] _ ⟨⟨_, rfl, rfl⟩, ⟨_, rfl, by rw [htk]⟩, ⟨_, rfl, rfl⟩, ⟨_, rfl, rfl⟩, ⟨_, rfl, rfl⟩, ⟨_, rfl, rfl⟩, ⟨_, rfl, rfl⟩, ⟨_, rfl, rfl⟩, ⟨_, rfl, rfl⟩, ⟨_, rfl, rfl⟩, trivial⟩ hs150
       · have hge : g = l7.length := by simp at hc58; omega
         have hs122 := Sx.keepE [0, 1, 2, 3, 4, 5, 6, 7, 8, 9, 10] [(109, _), (21, _), (20, .int .i64 (tak b.rolls l7)), (18, _), (16, _), (14, _), (12, _), (10, _), (6, _), (5, _), (4, _)] ⟨⟨_, rfl, rfl⟩, ⟨_, rfl, rfl⟩, ⟨_, rfl, (by rw [hge, List.take_length])⟩, ⟨_, rfl, rfl⟩, ⟨_, rfl, rfl⟩, ⟨_, rfl, rfl⟩, ⟨_, rfl, rfl⟩, ⟨_, rfl, rfl⟩, ⟨_, rfl, rfl⟩, ⟨_, rfl, rfl⟩, ⟨_, rfl, rfl⟩, trivial⟩ hs121; clear hs121
         refine cd_exit ?_
         refine th_exit ?_
         refine th_exit ?_
         refine in_hit ?_
         refine th_norm (hK54 _ _ ?_)
         refine cd_region fun K70 hK70 => ?_
         refine sq rfl (st_loadA (o := 0) (off := 0) (vs := (bxL (b.setCount d7) A n cp A2 n2 c2)) hs122 (Ev.t 9 rfl) rfl rfl isAgg25 sizeOf25 (hs122.cells 3 rfl) rfl fun _ _ hs123 => ?_); clear hs122
         refine sq rfl (st_move hs123 (Ev.t 3 rfl) rfl rfl fun _ _ hs124 => ?_); clear hs123
         refine sq rfl (st_callv (vs := [.agg ⟨(bxL (b.setCount d7) A n cp A2 n2 c2)⟩, .int .i64 (tak b.rolls l7)]) hs124 (.func _) ⟨(Ev.t 1 rfl), (Ev.t 0 rfl), trivial⟩ rfl rfl call42 rfl (part_v (b.setCount d7) A n cp A2 n2 c2 (tak b.rolls l7) _ ht hd hsh hg) fun _ _ hs125 => ?_); clear hs124
         refine sq rfl (st_move hs125 (Ev.t 0 rfl) rfl rfl fun _ _ hs126 => ?_); clear hs125
         refine sq rfl (st_extract hs126 (Ev.t 0 rfl) rfl rfl rfl fun _ _ hs127 => ?_); clear hs126
         refine sq rfl (st_extract hs127 (Ev.t 1 rfl) rfl rfl rfl fun _ _ hs128 => ?_); clear hs127
         refine sq rfl (st_extract hs128 (Ev.t 2 rfl) rfl rfl rfl fun _ _ hs129 => ?_); clear hs128
         refine sq rfl (st_assign hs129 (Ev.t 2 rfl) rfl rfl fun _ _ hs130 => ?_); clear hs129
         refine sq rfl (st_assign hs130 (Ev.t 2 rfl) rfl rfl fun _ _ hs131 => ?_); clear hs130
         refine sq rfl (st_assign hs131 (Ev.t 2 rfl) rfl rfl fun _ _ hs132 => ?_); clear hs131
         refine hK70 _ _ ?_; clear hK70
         have hs133 := hs132.keep [0, 1, 2, 12, 13, 14, 15, 16, 19, 20] [_, _, _, _, _, _, _, _, _, _] rfl; clear hs132
         refine cd_region fun K71 hK71 => ?_
         refine sq rfl (st_move hs133 (Ev.t 3 rfl) rfl rfl fun _ _ hs134 => ?_); clear hs133
         refine sq rfl (st_field (o' := 2) hs134 (Ev.t 9 rfl) rfl rfl runUnderlying25 rfl sizeOf3 rfl rfl fun _ _ hs135 => ?_); clear hs134
         refine sq rfl (st_load1 (o := 0) (off := 2) (v := .int .i64 ((b.setCount d7).count)) hs135 (Ev.t 0 rfl) rfl rfl isAgg3 (hs135.cells 3 rfl) rfl fun _ _ hs136 => ?_); clear hs135
         refine sq rfl (st_sub (z := (tak b.rolls l7) - ((b.setCount d7).count)) hs136 (Ev.t 2 rfl) (Ev.t 0 rfl) rfl rfl rfl (by omega) fun _ _ hs137 => ?_); clear hs136
         refine sq rfl (st_field (o' := 2) hs137 (Ev.t 12 rfl) rfl rfl runUnderlying25 rfl sizeOf3 rfl rfl fun _ _ hs138 => ?_); clear hs137
         refine sq rfl (st_load1 (o := 0) (off := 2) (v := .int .i64 ((b.setCount d7).count)) hs138 (Ev.t 0 rfl) rfl rfl isAgg3 (hs138.cells 3 rfl) rfl fun _ _ hs139 => ?_); clear hs138
         refine sq rfl (st_move hs139 (Ev.t 9 rfl) rfl rfl fun _ _ hs140 => ?_); clear hs139
         refine sq rfl (st_sub (z := ((b.setCount d7).count) - (tak b.rolls l7)) hs140 (Ev.t 1 rfl) (Ev.t 0 rfl) rfl rfl rfl (by omega) fun _ _ hs141 => ?_); clear hs140
         refine sq rfl (st_max hs141 (Ev.t 4 rfl) (Ev.t 0 rfl) rfl rfl fun _ _ hs142 => ?_); clear hs141
         refine sq rfl (st_assign hs142 (Ev.t 0 rfl) rfl rfl fun _ _ hs143 => ?_); clear hs142
         refine hK71 _ _ ?_; clear hK71
         have hs144 := hs143.keep [0, 10, 11, 12, 13, 14, 15, 16, 17, 18, 19] [_, _, _, _, _, _, _, _, _, _, _] rfl; clear hs143
         refine cd_region fun K72 hK72 => ?_
         refine sq rfl (st_loadA (o := 0) (off := 0) (vs := [.int .i64 t1, .int .i64 t2]) hs144 (Ev.t 8 rfl) rfl rfl isAgg35 sizeOf35 (hs144.cells 2 rfl) rfl fun _ _ hs145 => ?_); clear hs144
         refine sq rfl (st_move hs145 (Ev.t 5 rfl) rfl rfl fun _ _ hs146 => ?_); clear hs145
         refine sq rfl (st_callv (vs := [.agg ⟨[.int .i64 t1, .int .i64 t2]⟩, .int .i64 (tak b.rolls l7)]) hs146 (.func _) ⟨(Ev.t 1 rfl), (Ev.t 0 rfl), trivial⟩ rfl rfl call41 rfl (callsV_eq (v' := .bool true) (holds_v t1 t2 (tak b.rolls l7) _) (by rw [Value.bool.injEq, Till.within_iff]; omega)) fun _ _ hs147 => ?_); clear hs146
         refine sq rfl (st_move hs147 (Ev.t 0 rfl) rfl rfl fun _ _ hs148 => ?_); clear hs147
         refine sq_on hs148 rfl rfl 0 rfl rfl (st_loadA (o := 0) (off := 0) (vs := [.int .i64 u1, .int .i64 u2]) hs148 (Ev.t 11 rfl) rfl rfl isAgg35 sizeOf35 (hs148.cells 1 rfl) rfl fun _ _ hs149 => ?_); clear hs148
         refine sq_on hs149 rfl rfl 1 rfl rfl (st_move hs149 (Ev.t 7 rfl) rfl rfl fun _ _ hs150 => ?_); clear hs149
         refine sq_on hs150 rfl rfl 2 rfl rfl (st_callv (vs := [.agg ⟨[.int .i64 u1, .int .i64 u2]⟩, .int .i64 (hireI (b.setCount d7) (tak b.rolls l7))]) hs150 (.func _) ⟨(Ev.t 1 rfl), (Ev.t 0 rfl), trivial⟩ rfl rfl call41 rfl (callsV_eq (v' := .bool true) (holds_v u1 u2 (hireI (b.setCount d7) (tak b.rolls l7)) _) (by rw [Value.bool.injEq, Till.within_iff]; omega)) fun _ _ hs151 => ?_); clear hs150
         refine sq rfl (st_pick hs151 (Ev.t 3 rfl) rfl rfl (fun h => (Ev.t 0 rfl)) (fun h => by cases h) fun _ _ hs152 => ?_); clear hs151
         refine sq rfl (st_move hs152 (Ev.t 0 rfl) rfl rfl fun _ _ hs153 => ?_); clear hs152
         refine sq_on hs153 rfl rfl 0 rfl rfl (st_loadA (o := 0) (off := 0) (vs := [.int .i64 v1, .int .i64 v2]) hs153 (Ev.t 15 rfl) rfl rfl isAgg35 sizeOf35 (hs153.cells 0 rfl) rfl fun _ _ hs154 => ?_); clear hs153
         refine sq_on hs154 rfl rfl 1 rfl rfl (st_move hs154 (Ev.t 11 rfl) rfl rfl fun _ _ hs155 => ?_); clear hs154
         refine sq_on hs155 rfl rfl 2 rfl rfl (st_callv (vs := [.agg ⟨[.int .i64 v1, .int .i64 v2]⟩, .int .i64 (leftI (b.setCount d7) (tak b.rolls l7))]) hs155 (.func _) ⟨(Ev.t 1 rfl), (Ev.t 0 rfl), trivial⟩ rfl rfl call41 rfl (callsV_eq (v' := .bool true) (holds_v v1 v2 (leftI (b.setCount d7) (tak b.rolls l7)) _) (by rw [Value.bool.injEq, Till.within_iff]; omega)) fun _ _ hs156 => ?_); clear hs155
         refine sq rfl (st_pick hs156 (Ev.t 3 rfl) rfl rfl (fun h => (Ev.t 0 rfl)) (fun h => by cases h) fun _ _ hs157 => ?_); clear hs156
         refine sq rfl (st_move hs157 (Ev.t 0 rfl) rfl rfl fun _ _ hs158 => ?_); clear hs157
         refine sq_on hs158 rfl rfl 0 rfl rfl (st_move hs158 (Ev.t 17 rfl) rfl rfl fun _ _ hs159 => ?_); clear hs158
         refine sq_on hs159 rfl rfl 1 rfl rfl (st_move hs159 (Ev.t 17 rfl) rfl rfl fun _ _ hs160 => ?_); clear hs159
         refine sq_on hs160 rfl rfl 2 rfl rfl (st_add (z := (dutyI (b.setCount d7) (tak b.rolls l7)) + (hireI (b.setCount d7) (tak b.rolls l7))) hs160 (Ev.t 1 rfl) (Ev.t 0 rfl) rfl rfl rfl (by omega) fun _ _ hs161 => ?_); clear hs160
         refine sq_on hs161 rfl rfl 3 rfl rfl (st_move hs161 (Ev.t 18 rfl) rfl rfl fun _ _ hs162 => ?_); clear hs161
         refine sq_on hs162 rfl rfl 4 rfl rfl (st_add (z := ((dutyI (b.setCount d7) (tak b.rolls l7)) + (hireI (b.setCount d7) (tak b.rolls l7))) + (leftI (b.setCount d7) (tak b.rolls l7))) hs162 (Ev.t 1 rfl) (Ev.t 0 rfl) rfl rfl rfl (by omega) fun _ _ hs163 => ?_); clear hs162
         refine sq_on hs163 rfl rfl 5 rfl rfl (st_move hs163 (Ev.t 23 rfl) rfl rfl fun _ _ hs164 => ?_); clear hs163
         refine sq_on hs164 rfl rfl 6 rfl rfl (st_cmp (c := true) hs164 (Ev.t 1 rfl) (Ev.t 0 rfl) rfl rfl rfl (show ((((dutyI (b.setCount d7) (tak b.rolls l7)) + (hireI (b.setCount d7) (tak b.rolls l7))) + (leftI (b.setCount d7) (tak b.rolls l7)) : Int) == (tak b.rolls l7)) = true from by simp only [beq_iff_eq]; omega) fun _ _ hs165 => ?_); clear hs164
         refine sq rfl (st_pick hs165 (Ev.t 7 rfl) rfl rfl (fun h => (Ev.t 0 rfl)) (fun h => by cases h) fun _ _ hs166 => ?_); clear hs165
         refine sq rfl (st_move hs166 (Ev.t 0 rfl) rfl rfl fun _ _ hs167 => ?_); clear hs166
         refine sq_on hs167 rfl rfl 0 rfl rfl (st_field (o' := 0) hs167 (Ev.t 30 rfl) rfl rfl runUnderlying35 rfl sizeOf3 rfl rfl fun _ _ hs168 => ?_); clear hs167
         refine sq_on hs168 rfl rfl 1 rfl rfl (st_load1 (o := 0) (off := 0) (v := .int .i64 u1) hs168 (Ev.t 0 rfl) rfl rfl isAgg3 (hs168.cells 1 rfl) rfl fun _ _ hs169 => ?_); clear hs168
         refine sq_on hs169 rfl rfl 2 rfl rfl (st_field (o' := 6) hs169 (Ev.t 34 rfl) rfl rfl runUnderlying25 rfl sizeOf3 rfl rfl fun _ _ hs170 => ?_); clear hs169
         refine sq_on hs170 rfl rfl 3 rfl rfl (st_load1 (o := 0) (off := 6) (v := .int .i64 ((b.setCount d7).guar)) hs170 (Ev.t 0 rfl) rfl rfl isAgg3 (hs170.cells 3 rfl) rfl fun _ _ hs171 => ?_); clear hs170
         refine sq_on hs171 rfl rfl 4 rfl rfl (st_cmp (c := true) hs171 (Ev.t 2 rfl) (Ev.t 0 rfl) rfl rfl rfl (show decide ((u1 : Int) ≥ ((b.setCount d7).guar)) = true from decide_eq_true (by omega)) fun _ _ hs172 => ?_); clear hs171
         refine sq rfl (st_pick hs172 (Ev.t 5 rfl) rfl rfl (fun h => (Ev.t 0 rfl)) (fun h => by cases h) fun _ _ hs173 => ?_); clear hs172
         refine sq rfl (st_move hs173 (Ev.t 0 rfl) rfl rfl fun _ _ hs174 => ?_); clear hs173
         refine sq_on hs174 rfl rfl 0 rfl rfl (st_move hs174 (Ev.t 35 rfl) rfl rfl fun _ _ hs175 => ?_); clear hs174
         refine sq_on hs175 rfl rfl 1 rfl rfl (st_cmp (c := true) hs175 (Ev.t 0 rfl) (.const _) rfl rfl rfl (show decide ((ww : Int) ≥ 0) = true from decide_eq_true (by omega)) fun _ _ hs176 => ?_); clear hs175
         refine sq rfl (st_pick hs176 (Ev.t 2 rfl) rfl rfl (fun h => (Ev.t 0 rfl)) (fun h => by cases h) fun _ _ hs177 => ?_); clear hs176
         refine sq rfl (st_move hs177 (Ev.t 0 rfl) rfl rfl fun _ _ hs178 => ?_); clear hs177
         refine sq_on hs178 rfl rfl 0 rfl rfl (st_move hs178 (Ev.t 39 rfl) rfl rfl fun _ _ hs179 => ?_); clear hs178
         refine sq_on hs179 rfl rfl 1 rfl rfl (st_move hs179 (Ev.t 35 rfl) rfl rfl fun _ _ hs180 => ?_); clear hs179
         refine sq_on hs180 rfl rfl 2 rfl rfl (st_cmp (c := true) hs180 (Ev.t 1 rfl) (Ev.t 0 rfl) rfl rfl rfl (show decide ((ww : Int) ≤ (max ((tak b.rolls l7) - ((b.setCount d7).count)) (((b.setCount d7).count) - (tak b.rolls l7)))) = true from decide_eq_true (by omega)) fun _ _ hs181 => ?_); clear hs180
         refine sq rfl (st_pick hs181 (Ev.t 3 rfl) rfl rfl (fun h => (Ev.t 0 rfl)) (fun h => by cases h) fun _ _ hs182 => ?_); clear hs181
         refine sq rfl (st_move hs182 (Ev.t 0 rfl) rfl rfl fun _ _ hs183 => ?_); clear hs182
         refine sq_on hs183 rfl rfl 0 rfl rfl (st_callv (vs := []) hs183 (.func _) trivial rfl rfl call14 rfl (counted_v _ (hG.kp hs183.kp (by simp))) fun _ _ hs184 => ?_); clear hs183
         refine sq rfl (st_pick hs184 (Ev.t 1 rfl) rfl rfl (fun h => (Ev.t 0 rfl)) (fun h => by cases h) fun _ _ hs185 => ?_); clear hs184
         have hs186 := hs185.keep [0, 1, 2, 3, 4, 5, 6, 7, 8, 9, 10, 11, 12, 13, 14, 15, 16, 17, 18, 19, 20, 21, 22, 23, 24, 25, 26, 27, 28, 29, 30, 31, 32, 33, 34, 35, 36, 37, 38, 39, 40, 41, 42, 43, 44, 45, 46, 47, 48, 49, 50] [_, _, _, _, _, _, _, _, _, _, _, _, _, _, _, _, _, _, _, _, _, _, _, _, _, _, _, _, _, _, _, _, _, _, _, _, _, _, _, _, _, _, _, _, _, _, _, _, _, _, _] rfl; clear hs185
         refine sq rfl (st_assign hs186 (Ev.t 0 rfl) rfl rfl fun _ _ hs187 => ?_); clear hs186
         refine hK72 _ _ ?_; clear hK72
         have hs188 := hs187.keep [0] [_] rfl; clear hs187
         refine cd_retv (vs := [.bool true]) hs188 hQ0 rfl ⟨.tmp 0 rfl, trivial⟩ ?_
         clear hs188 hQ0 hN0
         rfl
end Go.Proofs.YtcnndpedeofbmaaDoor
