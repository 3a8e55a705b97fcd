/- The law: is a box sound; the chapter's box, and that its examples hold; the parts of takings. -/
import Derived.Test.YtcnndpedeofbmaaDoorUk
import Derived.Test.YtcnndpedeofbmaaDoorUg
import Derived.Test.YtcnndpedeofbmaaDoorTq
set_option maxRecDepth 100000
namespace Go.Proofs.YtcnndpedeofbmaaDoor
open Go Go.Sx Go.Till Go.Proofs.Tryd
theorem amid_t (n lo hi : Int) (h : within n lo hi = true) (w : World) : CallsV Tryd.prog 16 [.int .i64 n, .int .i64 lo, .int .i64 hi] w (.bool true) := callsV_eq (amid_v n lo hi w) (by rw [h])
theorem legal_t (a z lo hi : Int) (h : legal a z lo hi = true) (w : World) : CallsV Tryd.prog 19 [.agg ⟨[.int .i64 a, .int .i64 z]⟩, .int .i64 lo, .int .i64 hi] w (.bool true) := callsV_eq (legal_v a z lo hi w) (by rw [h])

theorem sound_v (b : Bx) (A : Option Addr) (n cp : Nat) (A2 : Option Addr) (n2 c2 : Nat) (w : World) (hP : RollsAt w A n b.rolls) (hn : n ≤ 140737488351232) (hF : SpsAt w A2 n2 b.free) (hn2 : n2 ≤ 140737488351232) :
    CallsV Tryd.prog 13 [.agg ⟨(bxL b A n cp A2 n2 c2)⟩] w (.bool b.ok) := by
 refine enter (N := 131) (M := []) w func13 rfl rfl rfl (fun Q0 a_0 hQ0 hN0 hs0 => ?_)
 rcases hok : b.ok with _ | _
 · skip
   refine cd_region fun K1 hK1 => ?_
   refine sq rfl (st_box hs0 (Ev.t 0 rfl) rfl rfl rfl fun b2 _ _ hs1 => ?_); clear hs0
   refine sq rfl (st_assign hs1 (.const _) rfl rfl fun _ _ hs2 => ?_); clear hs1
   refine hK1 _ _ ?_; clear hK1
   have hs3 := hs2.keep [0, 1] [_, _] rfl; clear hs2
   refine cd_region fun K3 hK3 => ?_
   refine sq rfl (st_loadA (o := 0) (off := 0) (vs := (bxL b A n cp A2 n2 c2)) hs3 (Ev.t 1 rfl) rfl rfl isAgg25 sizeOf25 (hs3.cells 0 rfl) rfl fun _ _ hs4 => ?_); clear hs3
   refine sq rfl (st_callv (vs := [.agg ⟨(bxL b A n cp A2 n2 c2)⟩]) hs4 (.func _) ⟨(Ev.t 0 rfl), trivial⟩ rfl rfl call29 rfl (callsV_eq (v' := .int .i64 90) (check_v b A n cp A2 n2 c2 _ (hP.kp hs4.kp) hn (hF.kp hs4.kp) hn2) (by simp [hok])) fun _ _ hs5 => ?_); clear hs4
   refine sq rfl (st_cmp (c := false) hs5 (Ev.t 0 rfl) (.const _) rfl rfl rfl rfl fun _ _ hs6 => ?_); clear hs5
   refine sq rfl (st_move hs6 (Ev.t 0 rfl) rfl rfl fun _ _ hs7 => ?_); clear hs6
   refine sq_off hs7 rfl rfl 0 rfl rfl rfl rfl rfl fun _ _ hs8 => ?_; clear hs7
   refine sq_off hs8 rfl rfl 1 rfl rfl rfl rfl rfl fun _ _ hs9 => ?_; clear hs8
   refine sq_off hs9 rfl rfl 2 rfl rfl rfl rfl rfl fun _ _ hs10 => ?_; clear hs9
   refine sq_off hs10 rfl rfl 3 rfl rfl rfl rfl rfl fun _ _ hs11 => ?_; clear hs10
   refine sq rfl (st_pick hs11 (Ev.t 4 rfl) rfl rfl (fun h => by cases h) (fun h => (.const _)) fun _ _ hs12 => ?_); clear hs11
   refine sq rfl (st_move hs12 (Ev.t 0 rfl) rfl rfl fun _ _ hs13 => ?_); clear hs12
   refine sq_off hs13 rfl rfl 0 rfl rfl rfl rfl rfl fun _ _ hs14 => ?_; clear hs13
   refine sq_off hs14 rfl rfl 1 rfl rfl rfl rfl rfl fun _ _ hs15 => ?_; clear hs14
   refine sq_off hs15 rfl rfl 2 rfl rfl rfl rfl rfl fun _ _ hs16 => ?_; clear hs15
   refine sq_off hs16 rfl rfl 3 rfl rfl rfl rfl rfl fun _ _ hs17 => ?_; clear hs16
   refine sq_off hs17 rfl rfl 4 rfl rfl rfl rfl rfl fun _ _ hs18 => ?_; clear hs17
   refine sq_off hs18 rfl rfl 5 rfl rfl rfl rfl rfl fun _ _ hs19 => ?_; clear hs18
   refine sq_off hs19 rfl rfl 6 rfl rfl rfl rfl rfl fun _ _ hs20 => ?_; clear hs19
   refine sq rfl (st_pick hs20 (Ev.t 7 rfl) rfl rfl (fun h => by cases h) (fun h => (.const _)) fun _ _ hs21 => ?_); clear hs20
   refine sq rfl (st_move hs21 (Ev.t 0 rfl) rfl rfl fun _ _ hs22 => ?_); clear hs21
   refine sq_off hs22 rfl rfl 0 rfl rfl rfl rfl rfl fun _ _ hs23 => ?_; clear hs22
   refine sq_off hs23 rfl rfl 1 rfl rfl rfl rfl rfl fun _ _ hs24 => ?_; clear hs23
   refine sq_off hs24 rfl rfl 2 rfl rfl rfl rfl rfl fun _ _ hs25 => ?_; clear hs24
   refine sq rfl (st_pick hs25 (Ev.t 3 rfl) rfl rfl (fun h => by cases h) (fun h => (.const _)) fun _ _ hs26 => ?_); clear hs25
   refine sq rfl (st_move hs26 (Ev.t 0 rfl) rfl rfl fun _ _ hs27 => ?_); clear hs26
   refine sq_off hs27 rfl rfl 0 rfl rfl rfl rfl rfl fun _ _ hs28 => ?_; clear hs27
   refine sq_off hs28 rfl rfl 1 rfl rfl rfl rfl rfl fun _ _ hs29 => ?_; clear hs28
   refine sq_off hs29 rfl rfl 2 rfl rfl rfl rfl rfl fun _ _ hs30 => ?_; clear hs29
   refine sq rfl (st_pick hs30 (Ev.t 3 rfl) rfl rfl (fun h => by cases h) (fun h => (.const _)) fun _ _ hs31 => ?_); clear hs30
   refine sq rfl (st_move hs31 (Ev.t 0 rfl) rfl rfl fun _ _ hs32 => ?_); clear hs31
   refine sq_off hs32 rfl rfl 0 rfl rfl rfl rfl rfl fun _ _ hs33 => ?_; clear hs32
   refine sq_off hs33 rfl rfl 1 rfl rfl rfl rfl rfl fun _ _ hs34 => ?_; clear hs33
   refine sq_off hs34 rfl rfl 2 rfl rfl rfl rfl rfl fun _ _ hs35 => ?_; clear hs34
   refine sq rfl (st_pick hs35 (Ev.t 3 rfl) rfl rfl (fun h => by cases h) (fun h => (.const _)) fun _ _ hs36 => ?_); clear hs35
   refine sq rfl (st_move hs36 (Ev.t 0 rfl) rfl rfl fun _ _ hs37 => ?_); clear hs36
   refine sq_off hs37 rfl rfl 0 rfl rfl rfl rfl rfl fun _ _ hs38 => ?_; clear hs37
   refine sq_off hs38 rfl rfl 1 rfl rfl rfl rfl rfl fun _ _ hs39 => ?_; clear hs38
   refine sq_off hs39 rfl rfl 2 rfl rfl rfl rfl rfl fun _ _ hs40 => ?_; clear hs39
   refine sq rfl (st_pick hs40 (Ev.t 3 rfl) rfl rfl (fun h => by cases h) (fun h => (.const _)) fun _ _ hs41 => ?_); clear hs40
   refine sq rfl (st_move hs41 (Ev.t 0 rfl) rfl rfl fun _ _ hs42 => ?_); clear hs41
   refine sq_off hs42 rfl rfl 0 rfl rfl rfl rfl rfl fun _ _ hs43 => ?_; clear hs42
   refine sq_off hs43 rfl rfl 1 rfl rfl rfl rfl rfl fun _ _ hs44 => ?_; clear hs43
   refine sq_off hs44 rfl rfl 2 rfl rfl rfl rfl rfl fun _ _ hs45 => ?_; clear hs44
   refine sq rfl (st_pick hs45 (Ev.t 3 rfl) rfl rfl (fun h => by cases h) (fun h => (.const _)) fun _ _ hs46 => ?_); clear hs45
   refine sq rfl (st_assign hs46 (Ev.t 0 rfl) rfl rfl fun _ _ hs47 => ?_); clear hs46
   refine hK3 _ _ ?_; clear hK3
   have hs48 := hs47.keep [0, 44, 45] [_, _, _] rfl; clear hs47
   refine cd_seq fun K4 hK4 => ?_
   refine cd_region fun K5 hK5 => ?_
   refine sq rfl (st_assign hs48 (.const _) rfl rfl fun _ _ hs49 => ?_); clear hs48
   refine hK5 _ _ ?_; clear hK5
   refine cd_block ?_
   refine cd_rounds 1 ?_
   refine cd_round fun K6 hK6 => ?_
   refine cd_seq fun K7 hK7 => ?_
   refine cd_region fun K8 hK8 => ?_
   refine sq rfl (st_move hs49 (Ev.t 1 rfl) rfl rfl fun _ _ hs50 => ?_); clear hs49
   refine sq rfl (st_move hs50 (Ev.t 0 rfl) rfl rfl fun _ _ hs51 => ?_); clear hs50
   refine sq_off hs51 rfl rfl 0 rfl rfl rfl rfl rfl fun _ _ hs52 => ?_; clear hs51
   refine sq_off hs52 rfl rfl 1 rfl rfl rfl rfl rfl fun _ _ hs53 => ?_; clear hs52
   refine sq_off hs53 rfl rfl 2 rfl rfl rfl rfl rfl fun _ _ hs54 => ?_; clear hs53
   refine sq_off hs54 rfl rfl 3 rfl rfl rfl rfl rfl fun _ _ hs55 => ?_; clear hs54
   refine sq_off hs55 rfl rfl 4 rfl rfl rfl rfl rfl fun _ _ hs56 => ?_; clear hs55
   refine sq rfl (st_pick hs56 (Ev.t 5 rfl) rfl rfl (fun h => by cases h) (fun h => (.const _)) fun _ _ hs57 => ?_); clear hs56
   refine hK8 _ _ ?_; clear hK8
   have hs58 := hs57.keep [0, 8, 9, 10, 11] [_, _, _, _, _] rfl; clear hs57
   have hc9 : false = false := rfl
   refine cd_cond hs58 (Ev.t 0 rfl) (fun h => absurd (hc9.symm.trans h) (by decide)) (fun _ => ?_)
   refine cd_exit ?_
   refine th_exit ?_
   refine th_exit ?_
   refine in_hit ?_
   refine th_norm (hK4 _ _ ?_)
   refine cd_region fun K10 hK10 => ?_
   refine sq rfl (st_move hs58 (Ev.t 2 rfl) rfl rfl fun _ _ hs59 => ?_); clear hs58
   have hs60 := hs59.keep [0, 1, 2, 3, 5] [_, _, _, _, _] rfl; clear hs59
   refine sq rfl (st_assign hs60 (Ev.t 0 rfl) rfl rfl fun _ _ hs61 => ?_); clear hs60
   refine hK10 _ _ ?_; clear hK10
   have hs62 := hs61.keep [0] [_] rfl; clear hs61
   refine cd_retv (vs := [.bool false]) hs62 hQ0 rfl ⟨.tmp 0 rfl, trivial⟩ ?_
   clear hs62 hQ0 hN0
   simp [pack, hok]
 · skip
   have hO := ok_iff.1 hok
   have hl1 := hP.len; have hl2 := hF.len; have hn14 := hO.n; have hlen := hO.len
   have s1 : within (n : Int) 1 4 = true := Till.within_iff.2 (by omega)
   have s2 := Till.within_iff.2 hO.count; have s3 := Till.within_iff.2 hO.err; have s4 := Till.within_iff.2 hO.duty; have s5 := Till.within_iff.2 hO.share; have s6 := Till.within_iff.2 hO.guar
   refine cd_region fun K11 hK11 => ?_
   refine sq rfl (st_box hs0 (Ev.t 0 rfl) rfl rfl rfl fun b12 _ _ hs1 => ?_); clear hs0
   refine sq rfl (st_assign hs1 (.const _) rfl rfl fun _ _ hs2 => ?_); clear hs1
   refine hK11 _ _ ?_; clear hK11
   have hs3 := hs2.keep [0, 1] [_, _] rfl; clear hs2
   refine cd_region fun K13 hK13 => ?_
   refine sq rfl (st_loadA (o := 0) (off := 0) (vs := (bxL b A n cp A2 n2 c2)) hs3 (Ev.t 1 rfl) rfl rfl isAgg25 sizeOf25 (hs3.cells 0 rfl) rfl fun _ _ hs4 => ?_); clear hs3
   refine sq rfl (st_callv (vs := [.agg ⟨(bxL b A n cp A2 n2 c2)⟩]) hs4 (.func _) ⟨(Ev.t 0 rfl), trivial⟩ rfl rfl call29 rfl (callsV_eq (v' := .int .i64 0) (check_v b A n cp A2 n2 c2 _ (hP.kp hs4.kp) hn (hF.kp hs4.kp) hn2) (by simp [hok])) fun _ _ hs5 => ?_); clear hs4
   refine sq rfl (st_cmp (c := true) hs5 (Ev.t 0 rfl) (.const _) rfl rfl rfl rfl fun _ _ hs6 => ?_); clear hs5
   refine sq rfl (st_move hs6 (Ev.t 0 rfl) rfl rfl fun _ _ hs7 => ?_); clear hs6
   refine sq_on hs7 rfl rfl 0 rfl rfl (st_field (o' := 0) hs7 (Ev.t 5 rfl) rfl rfl runUnderlying25 rfl sizeOf22 rfl rfl fun _ _ hs8 => ?_); clear hs7
   refine sq_on hs8 rfl rfl 1 rfl rfl (st_load1 (o := 0) (off := 0) (v := .slice A n cp) hs8 (Ev.t 0 rfl) rfl rfl isAgg22 (hs8.cells 0 rfl) rfl fun _ _ hs9 => ?_); clear hs8
   refine sq_on hs9 rfl rfl 2 rfl rfl (st_len hs9 (Ev.t 0 rfl) rfl rfl runUnderlying22 fun _ _ hs10 => ?_); clear hs9
   refine sq_on hs10 rfl rfl 3 rfl rfl (st_callv (vs := [.int .i64 (n : Int), .int .i64 1, .int .i64 4]) hs10 (.func _) ⟨(Ev.t 0 rfl), (.const _), (.const _), trivial⟩ rfl rfl call16 rfl (amid_t (n : Int) 1 4 (by assumption) _) fun _ _ hs11 => ?_); clear hs10
   refine sq rfl (st_pick hs11 (Ev.t 4 rfl) rfl rfl (fun h => (Ev.t 0 rfl)) (fun h => by cases h) fun _ _ hs12 => ?_); clear hs11
   refine sq rfl (st_move hs12 (Ev.t 0 rfl) rfl rfl fun _ _ hs13 => ?_); clear hs12
   refine sq_on hs13 rfl rfl 0 rfl rfl (st_field (o' := 1) hs13 (Ev.t 11 rfl) rfl rfl runUnderlying25 rfl sizeOf23 rfl rfl fun _ _ hs14 => ?_); clear hs13
   refine sq_on hs14 rfl rfl 1 rfl rfl (st_load1 (o := 0) (off := 1) (v := .slice A2 n2 c2) hs14 (Ev.t 0 rfl) rfl rfl isAgg23 (hs14.cells 0 rfl) rfl fun _ _ hs15 => ?_); clear hs14
   refine sq_on hs15 rfl rfl 2 rfl rfl (st_len hs15 (Ev.t 0 rfl) rfl rfl runUnderlying23 fun _ _ hs16 => ?_); clear hs15
   refine sq_on hs16 rfl rfl 3 rfl rfl (st_field (o' := 0) hs16 (Ev.t 14 rfl) rfl rfl runUnderlying25 rfl sizeOf22 rfl rfl fun _ _ hs17 => ?_); clear hs16
   refine sq_on hs17 rfl rfl 4 rfl rfl (st_load1 (o := 0) (off := 0) (v := .slice A n cp) hs17 (Ev.t 0 rfl) rfl rfl isAgg22 (hs17.cells 0 rfl) rfl fun _ _ hs18 => ?_); clear hs17
   refine sq_on hs18 rfl rfl 5 rfl rfl (st_len hs18 (Ev.t 0 rfl) rfl rfl runUnderlying22 fun _ _ hs19 => ?_); clear hs18
   refine sq_on hs19 rfl rfl 6 rfl rfl (st_cmp (c := true) hs19 (Ev.t 3 rfl) (Ev.t 0 rfl) rfl rfl rfl (show (((n2 : Int) : Int) == (n : Int)) = true from by simp only [beq_iff_eq]; omega) fun _ _ hs20 => ?_); clear hs19
   refine sq rfl (st_pick hs20 (Ev.t 7 rfl) rfl rfl (fun h => (Ev.t 0 rfl)) (fun h => by cases h) fun _ _ hs21 => ?_); clear hs20
   refine sq rfl (st_move hs21 (Ev.t 0 rfl) rfl rfl fun _ _ hs22 => ?_); clear hs21
   refine sq_on hs22 rfl rfl 0 rfl rfl (st_field (o' := 2) hs22 (Ev.t 20 rfl) rfl rfl runUnderlying25 rfl sizeOf3 rfl rfl fun _ _ hs23 => ?_); clear hs22
   refine sq_on hs23 rfl rfl 1 rfl rfl (st_load1 (o := 0) (off := 2) (v := .int .i64 b.count) hs23 (Ev.t 0 rfl) rfl rfl isAgg3 (hs23.cells 0 rfl) rfl fun _ _ hs24 => ?_); clear hs23
   refine sq_on hs24 rfl rfl 2 rfl rfl (st_callv (vs := [.int .i64 b.count, .int .i64 0, .int .i64 60000]) hs24 (.func _) ⟨(Ev.t 0 rfl), (.const _), (.const _), trivial⟩ rfl rfl call16 rfl (amid_t b.count 0 60000 (by assumption) _) fun _ _ hs25 => ?_); clear hs24
   refine sq rfl (st_pick hs25 (Ev.t 3 rfl) rfl rfl (fun h => (Ev.t 0 rfl)) (fun h => by cases h) fun _ _ hs26 => ?_); clear hs25
   refine sq rfl (st_move hs26 (Ev.t 0 rfl) rfl rfl fun _ _ hs27 => ?_); clear hs26
   refine sq_on hs27 rfl rfl 0 rfl rfl (st_field (o' := 3) hs27 (Ev.t 25 rfl) rfl rfl runUnderlying25 rfl sizeOf3 rfl rfl fun _ _ hs28 => ?_); clear hs27
   refine sq_on hs28 rfl rfl 1 rfl rfl (st_load1 (o := 0) (off := 3) (v := .int .i64 b.err) hs28 (Ev.t 0 rfl) rfl rfl isAgg3 (hs28.cells 0 rfl) rfl fun _ _ hs29 => ?_); clear hs28
   refine sq_on hs29 rfl rfl 2 rfl rfl (st_callv (vs := [.int .i64 b.err, .int .i64 0, .int .i64 200]) hs29 (.func _) ⟨(Ev.t 0 rfl), (.const _), (.const _), trivial⟩ rfl rfl call16 rfl (amid_t b.err 0 200 (by assumption) _) fun _ _ hs30 => ?_); clear hs29
   refine sq rfl (st_pick hs30 (Ev.t 3 rfl) rfl rfl (fun h => (Ev.t 0 rfl)) (fun h => by cases h) fun _ _ hs31 => ?_); clear hs30
   refine sq rfl (st_move hs31 (Ev.t 0 rfl) rfl rfl fun _ _ hs32 => ?_); clear hs31
   refine sq_on hs32 rfl rfl 0 rfl rfl (st_field (o' := 4) hs32 (Ev.t 30 rfl) rfl rfl runUnderlying25 rfl sizeOf3 rfl rfl fun _ _ hs33 => ?_); clear hs32
   refine sq_on hs33 rfl rfl 1 rfl rfl (st_load1 (o := 0) (off := 4) (v := .int .i64 b.duty) hs33 (Ev.t 0 rfl) rfl rfl isAgg3 (hs33.cells 0 rfl) rfl fun _ _ hs34 => ?_); clear hs33
   refine sq_on hs34 rfl rfl 2 rfl rfl (st_callv (vs := [.int .i64 b.duty, .int .i64 0, .int .i64 100]) hs34 (.func _) ⟨(Ev.t 0 rfl), (.const _), (.const _), trivial⟩ rfl rfl call16 rfl (amid_t b.duty 0 100 (by assumption) _) fun _ _ hs35 => ?_); clear hs34
   refine sq rfl (st_pick hs35 (Ev.t 3 rfl) rfl rfl (fun h => (Ev.t 0 rfl)) (fun h => by cases h) fun _ _ hs36 => ?_); clear hs35
   refine sq rfl (st_move hs36 (Ev.t 0 rfl) rfl rfl fun _ _ hs37 => ?_); clear hs36
   refine sq_on hs37 rfl rfl 0 rfl rfl (st_field (o' := 5) hs37 (Ev.t 35 rfl) rfl rfl runUnderlying25 rfl sizeOf3 rfl rfl fun _ _ hs38 => ?_); clear hs37
   refine sq_on hs38 rfl rfl 1 rfl rfl (st_load1 (o := 0) (off := 5) (v := .int .i64 b.share) hs38 (Ev.t 0 rfl) rfl rfl isAgg3 (hs38.cells 0 rfl) rfl fun _ _ hs39 => ?_); clear hs38
   refine sq_on hs39 rfl rfl 2 rfl rfl (st_callv (vs := [.int .i64 b.share, .int .i64 0, .int .i64 100]) hs39 (.func _) ⟨(Ev.t 0 rfl), (.const _), (.const _), trivial⟩ rfl rfl call16 rfl (amid_t b.share 0 100 (by assumption) _) fun _ _ hs40 => ?_); clear hs39
   refine sq rfl (st_pick hs40 (Ev.t 3 rfl) rfl rfl (fun h => (Ev.t 0 rfl)) (fun h => by cases h) fun _ _ hs41 => ?_); clear hs40
   refine sq rfl (st_move hs41 (Ev.t 0 rfl) rfl rfl fun _ _ hs42 => ?_); clear hs41
   refine sq_on hs42 rfl rfl 0 rfl rfl (st_field (o' := 6) hs42 (Ev.t 40 rfl) rfl rfl runUnderlying25 rfl sizeOf3 rfl rfl fun _ _ hs43 => ?_); clear hs42
   refine sq_on hs43 rfl rfl 1 rfl rfl (st_load1 (o := 0) (off := 6) (v := .int .i64 b.guar) hs43 (Ev.t 0 rfl) rfl rfl isAgg3 (hs43.cells 0 rfl) rfl fun _ _ hs44 => ?_); clear hs43
   refine sq_on hs44 rfl rfl 2 rfl rfl (st_callv (vs := [.int .i64 b.guar, .int .i64 0, .int .i64 60000]) hs44 (.func _) ⟨(Ev.t 0 rfl), (.const _), (.const _), trivial⟩ rfl rfl call16 rfl (amid_t b.guar 0 60000 (by assumption) _) fun _ _ hs45 => ?_); clear hs44
   refine sq rfl (st_pick hs45 (Ev.t 3 rfl) rfl rfl (fun h => (Ev.t 0 rfl)) (fun h => by cases h) fun _ _ hs46 => ?_); clear hs45
   refine sq rfl (st_assign hs46 (Ev.t 0 rfl) rfl rfl fun _ _ hs47 => ?_); clear hs46
   refine hK13 _ _ ?_; clear hK13
   have hs48 := hs47.keep [0, 44, 45] [_, _, _] rfl; clear hs47
   refine cd_seq fun K14 hK14 => ?_
   refine cd_region fun K15 hK15 => ?_
   refine sq rfl (st_assign hs48 (.const _) rfl rfl fun _ _ hs49 => ?_); clear hs48
   refine hK15 _ _ ?_; clear hK15
   refine cd_block ?_
   have hs50 : Sx 131 [] [(4, .int .i64 (0 : Int)), (3, .bool true), (2, .bool false), (1, .pointer (some ⟨b12, 0, none⟩))] [(b12, some (.cells ⟨(bxL b A n cp A2 n2 c2)⟩ 25 (0, 0)))] [] w _ _ := Sx.keepE [0, 1, 2, 3] _ ⟨⟨_, rfl, rfl⟩, ⟨_, rfl, rfl⟩, ⟨_, rfl, rfl⟩, ⟨_, rfl, rfl⟩, trivial⟩ hs49; clear hs49
   refine cd_loop (X := Nat) (fun i a_ w_ => (i ≤ n) ∧ Sx 131 [] [(4, .int .i64 (i : Int)), (3, .bool true), (2, .bool false), (1, .pointer (some ⟨b12, 0, none⟩))] [(b12, some (.cells ⟨(bxL b A n cp A2 n2 c2)⟩ 25 (0, 0)))] [] w a_ w_) (fun i => n - i) (0) ⟨?_, hs50⟩ ?_
   · first | omega | simp
   intro i a_51 w_51 ⟨hi, hs51⟩; clear hs50
   refine cd_seq fun K16 hK16 => ?_
   refine cd_region fun K17 hK17 => ?_
   refine sq rfl (st_move hs51 (Ev.t 1 rfl) rfl rfl fun _ _ hs52 => ?_); clear hs51
   refine sq rfl (st_move hs52 (Ev.t 0 rfl) rfl rfl fun _ _ hs53 => ?_); clear hs52
   refine sq_on hs53 rfl rfl 0 rfl rfl (st_move hs53 (Ev.t 2 rfl) rfl rfl fun _ _ hs54 => ?_); clear hs53
   refine sq_on hs54 rfl rfl 1 rfl rfl (st_field (o' := 0) hs54 (Ev.t 6 rfl) rfl rfl runUnderlying25 rfl sizeOf22 rfl rfl fun _ _ hs55 => ?_); clear hs54
   refine sq_on hs55 rfl rfl 2 rfl rfl (st_load1 (o := 0) (off := 0) (v := .slice A n cp) hs55 (Ev.t 0 rfl) rfl rfl isAgg22 (hs55.cells 0 rfl) rfl fun _ _ hs56 => ?_); clear hs55
   refine sq_on hs56 rfl rfl 3 rfl rfl (st_len hs56 (Ev.t 0 rfl) rfl rfl runUnderlying22 fun _ _ hs57 => ?_); clear hs56
   refine sq_on hs57 rfl rfl 4 rfl rfl (st_cmp (c := decide (((i : Int) : Int) < (n : Int))) hs57 (Ev.t 3 rfl) (Ev.t 0 rfl) rfl rfl rfl rfl fun _ _ hs58 => ?_); clear hs57
   refine sq rfl (st_pick hs58 (Ev.t 5 rfl) rfl rfl (fun h => (Ev.t 0 rfl)) (fun h => by cases h) fun _ _ hs59 => ?_); clear hs58
   refine hK17 _ _ ?_; clear hK17
   have hs60 := hs59.keep [0, 8, 9, 10, 11] [_, _, _, _, _] rfl; clear hs59
   refine cd_cond hs60 (Ev.t 0 rfl) (fun hc18 => ?_) (fun hc18 => ?_)
   · simp only [decide_eq_true_eq] at hc18
     have hi2 : i < n := by omega
     have hi3 : i < n2 := by omega
     obtain ⟨x19, hx19⟩ : ∃ x, b.rolls[i]? = some x := ⟨_, List.getElem?_eq_getElem (by have := hP.len; omega)⟩
     obtain ⟨b20, o20, hA20, -, hc20⟩ := hP.el i x19 hx19
     obtain ⟨x21, hx21⟩ : ∃ x, b.free[i]? = some x := ⟨_, List.getElem?_eq_getElem (by have := hF.len; omega)⟩
     obtain ⟨b22, o22, hA22, -, hc22⟩ := hF.el i x21 hx21
     have hro := ok_roll (hO.roll _ _ hx19); have hfo := ok_free (hO.free _ _ hx21)
     have q1 : within x19.price 1 50 = true := Till.within_iff.2 hro.1
     have q2 : legal x19.first.lo x19.first.hi 0 300 = true := Till.legal_iff.2 (by omega)
     have q3 : legal x19.fin.lo x19.fin.hi 0 300 = true := Till.legal_iff.2 (by omega)
     have q4 : legal x21.lo x21.hi 0 50 = true := Till.legal_iff.2 (by omega)
     refine cd_skip ?_
     refine th_norm (hK16 _ _ ?_)
     refine cd_seq fun K23 hK23 => ?_
     refine cd_block ?_
     refine cd_region fun K24 hK24 => ?_
     refine sq rfl (st_field (o' := 0) hs60 (Ev.t 4 rfl) rfl rfl runUnderlying25 rfl sizeOf22 rfl rfl fun _ _ hs61 => ?_); clear hs60
     refine sq rfl (st_load1 (o := 0) (off := 0) (v := .slice A n cp) hs61 (Ev.t 0 rfl) rfl rfl isAgg22 (hs61.cells 0 rfl) rfl fun _ _ hs62 => ?_); clear hs61
     refine sq rfl (st_move hs62 (Ev.t 3 rfl) rfl rfl fun _ _ hs63 => ?_); clear hs62
     refine sq rfl (st_indexM (o' := o20 + i * 5) hs63 (Ev.t 1 rfl) (Ev.t 0 rfl) rfl rfl hA20 runUnderlying22 sizeOf46 ⟨by omega, by have := hP.len; have := (List.getElem?_eq_some_iff.1 hx19).1; omega⟩ rfl fun _ _ hs64 => ?_); clear hs63
     refine sq rfl (st_loadA (o := o20 + i * 5) (off := 0) (vs := (rollL x19)) hs64 (Ev.t 0 rfl) rfl rfl isAgg46 sizeOf46 (hs64.old hc20 (by simp)) rfl fun _ _ hs65 => ?_); clear hs64
     refine sq rfl (st_alloc hs65 rfl rfl zeroValue46 rfl fun b25 _ _ hs66 => ?_); clear hs65
     refine sq rfl (st_store (l' := (rollL x19)) (vs := (rollL x19)) (i := 0) hs66 (Ev.t 0 rfl) (Ev.t 1 rfl) sizeOf46 rfl rfl rfl rfl rfl rfl fun _ _ hs67 => ?_); clear hs66
     have hs68 := hs67.asB [_, _] rfl; clear hs67
     refine hK24 _ _ ?_; clear hK24
     have hs69 := hs68.keep [0, 7, 9, 10] [_, _, _, _] rfl; clear hs68
     refine cd_drawn1 mixed hs69 [⟨64, [], Is (.pointer (some ⟨b25, 0, none⟩))⟩, ⟨65, [0], Is (.int .i64 x19.price)⟩, ⟨66, [1], Is (.bool true)⟩, ⟨67, [2], Is (.bool true)⟩, ⟨68, [3], Is (.pointer (some ⟨b25, 1, none⟩))⟩, ⟨69, [3, 4], Is (.agg ⟨[.int .i64 x19.first.lo, .int .i64 x19.first.hi]⟩)⟩, ⟨70, [3, 5], Is (.bool true)⟩, ⟨71, [3, 6], Is (.bool true)⟩, ⟨72, [7], Is (.bool true)⟩, ⟨73, [8], Is (.pointer (some ⟨b25, 3, none⟩))⟩, ⟨74, [8, 9], Is (.agg ⟨[.int .i64 x19.fin.lo, .int .i64 x19.fin.hi]⟩)⟩, ⟨75, [8, 10], Is (.bool true)⟩, ⟨76, [8, 11], Is (.bool true)⟩, ⟨77, [12], Is (.bool true)⟩, ⟨78, [13], Is (.pointer (some ⟨b25, 1, none⟩))⟩, ⟨79, [13, 14], Is (.pointer (some ⟨b25, 1, none⟩))⟩, ⟨80, [13, 15], Is (.int .i64 x19.first.lo)⟩, ⟨81, [13], Is (.pointer (some ⟨b25, 3, none⟩))⟩, ⟨82, [13, 17], Is (.pointer (some ⟨b25, 4, none⟩))⟩, ⟨83, [13, 18], Is (.int .i64 x19.fin.hi)⟩, ⟨84, [13, 16, 19], Is (.bool true)⟩, ⟨85, [13, 20], Is (.bool true)⟩, ⟨86, [21], Is (.bool true)⟩, ⟨87, [22], Is (.pointer (some ⟨b12, 1, none⟩))⟩, ⟨88, [22, 23], Is (.slice A2 n2 c2)⟩, ⟨89, [22], Is (.int .i64 (i : Int))⟩, ⟨90, [22, 24, 25], Is (.pointer (some ⟨b22, o22 + i * 2, none⟩))⟩, ⟨91, [22, 26], Is (.agg ⟨(spL x21)⟩)⟩, ⟨92, [22, 27], Is (.bool true)⟩, ⟨93, [22, 28], Is (.bool true)⟩, ⟨94, [29], Is (.bool true)⟩, ⟨95, [30], Is (.pointer (some ⟨b25, 1, none⟩))⟩, ⟨96, [30, 31], Is (.pointer (some ⟨b25, 2, none⟩))⟩, ⟨97, [30, 32], Is (.int .i64 x19.first.hi)⟩, ⟨98, [30], Is (.pointer (some ⟨b25, 1, none⟩))⟩, ⟨99, [30, 34], Is (.pointer (some ⟨b25, 1, none⟩))⟩, ⟨100, [30, 35], Is (.int .i64 x19.first.lo)⟩, ⟨101, [30, 33, 36], Is (.int .i64 (x19.first.hi - x19.first.lo))⟩, ⟨102, [30, 37], Is (.bool true)⟩, ⟨103, [30, 38], Is (.bool true)⟩, ⟨104, [39], Is (.bool true)⟩, ⟨105, [40], Is (.pointer (some ⟨b25, 3, none⟩))⟩, ⟨106, [40, 41], Is (.pointer (some ⟨b25, 4, none⟩))⟩, ⟨107, [40, 42], Is (.int .i64 x19.fin.hi)⟩, ⟨108, [40], Is (.pointer (some ⟨b25, 3, none⟩))⟩, ⟨109, [40, 44], Is (.pointer (some ⟨b25, 3, none⟩))⟩, ⟨110, [40, 45], Is (.int .i64 x19.fin.lo)⟩, ⟨111, [40, 43, 46], Is (.int .i64 (x19.fin.hi - x19.fin.lo))⟩, ⟨112, [40, 47], Is (.bool true)⟩, ⟨113, [40, 48], Is (.bool true)⟩, ⟨114, [49], Is (.bool true)⟩, ⟨115, [50], Is (.pointer (some ⟨b12, 1, none⟩))⟩, ⟨116, [50, 51], Is (.slice A2 n2 c2)⟩, ⟨117, [50], Is (.int .i64 (i : Int))⟩, ⟨118, [50, 52, 53], Is (.pointer (some ⟨b22, o22 + i * 2, none⟩))⟩, ⟨119, [50, 54], Is (.pointer (some ⟨b22, o22 + i * 2 + 1, none⟩))⟩, ⟨120, [50, 55], Is (.int .i64 x21.hi)⟩, ⟨121, [50], Is (.pointer (some ⟨b12, 1, none⟩))⟩, ⟨122, [50, 57], Is (.slice A2 n2 c2)⟩, ⟨123, [50], Is (.int .i64 (i : Int))⟩, ⟨124, [50, 58, 59], Is (.pointer (some ⟨b22, o22 + i * 2, none⟩))⟩, ⟨125, [50, 60], Is (.pointer (some ⟨b22, o22 + i * 2, none⟩))⟩, ⟨126, [50, 61], Is (.int .i64 x21.lo)⟩, ⟨127, [50, 56, 62], Is (.int .i64 (x21.hi - x21.lo))⟩, ⟨128, [50, 63], Is (.bool true)⟩, ⟨129, [50, 64], Is (.bool true)⟩] (by kernel_rfl) (by kernel_rfl) ⟨⟨?_, ?_, ?_, ?_, ?_, ?_, ?_, ?_, ?_, ?_, ?_, ?_, ?_, ?_, ?_, ?_, ?_, ?_, ?_, ?_, ?_, ?_, ?_, ?_, ?_, ?_, ?_, ?_, ?_, ?_, ?_, ?_, ?_, ?_, ?_, ?_, ?_, ?_, ?_, ?_, ?_, ?_, ?_, ?_, ?_, ?_, ?_, ?_, ?_, ?_, ?_, ?_, ?_, ?_, ?_, ?_, ?_, ?_, ?_, ?_, ?_, ?_, ?_, ?_, ?_, ?_, trivial⟩, ?_⟩
     · rintro T_ B_ a_ w_ K_ hT hB hf hsD hk
       exact ob rfl rfl (st_field (o' := 0) hsD (evT hT 0 rfl) rfl hf runUnderlying46 rfl sizeOf3 rfl rfl fun _ _ => hk _ _ _ _ ⟨rfl, rfl⟩)
     · rintro T_ B_ a_ w_ K_ hT hB _ _ ⟨rfl, rfl⟩ h64 - hf hsD hk
       exact ob rfl rfl (st_load1 (o := 0) (off := 0) (v := .int .i64 x19.price) hsD (Ev.tmp h64) rfl hf isAgg3 (hsD.cellsM (inB hB 0 rfl)) rfl fun _ _ => hk _ _ _ _ ⟨rfl, rfl⟩)
     · rintro T_ B_ a_ w_ K_ hT hB _ _ ⟨rfl, rfl⟩ h65 - hf hsD hk
       exact ob rfl rfl (st_callv (vs := [.int .i64 x19.price, .int .i64 1, .int .i64 50]) hsD (.func _) ⟨(Ev.tmp h65), (.const _), (.const _), trivial⟩ rfl hf call16 rfl (amid_t x19.price 1 50 (by assumption) _) fun _ _ => hk _ _ _ _ ⟨rfl, rfl⟩)
     · rintro T_ B_ a_ w_ K_ hT hB _ _ ⟨rfl, rfl⟩ h66 - hf hsD hk
       exact ob rfl rfl (st_move hsD (Ev.tmp h66) rfl hf fun _ _ => hk _ _ _ _ ⟨rfl, rfl⟩)
     · rintro T_ B_ a_ w_ K_ hT hB _ _ ⟨rfl, rfl⟩ h67 - hf hsD hk
       exact ob_gv hsD (gg := true) (v := .pointer (some ⟨b25, 1, none⟩)) rfl rfl rfl h67 rfl rfl rfl hf (fun _ K1 hK1 => st_field (o' := 1) hsD (evT hT 0 rfl) rfl hf runUnderlying46 rfl sizeOf35 rfl rfl hK1) fun _ _ => hk _ _ _ _ ⟨rfl, rfl⟩
     · rintro T_ B_ a_ w_ K_ hT hB _ _ ⟨rfl, rfl⟩ h67 - _ _ ⟨rfl, rfl⟩ h68 - hf hsD hk
       exact ob_gv hsD (gg := true) (v := .agg ⟨[.int .i64 x19.first.lo, .int .i64 x19.first.hi]⟩) rfl rfl rfl h67 rfl rfl rfl hf (fun _ K1 hK1 => st_loadA (o := 0) (off := 1) (vs := [.int .i64 x19.first.lo, .int .i64 x19.first.hi]) hsD (Ev.tmp h68) rfl hf isAgg35 sizeOf35 (hsD.cellsM (inB hB 0 rfl)) rfl hK1) fun _ _ => hk _ _ _ _ ⟨rfl, rfl⟩
     · rintro T_ B_ a_ w_ K_ hT hB _ _ ⟨rfl, rfl⟩ h67 - _ _ ⟨rfl, rfl⟩ h69 - hf hsD hk
       exact ob_gv hsD (gg := true) (v := .bool true) rfl rfl rfl h67 rfl rfl rfl hf (fun _ K1 hK1 => st_callv (vs := [.agg ⟨[.int .i64 x19.first.lo, .int .i64 x19.first.hi]⟩, .int .i64 0, .int .i64 300]) hsD (.func _) ⟨(Ev.tmp h69), (.const _), (.const _), trivial⟩ rfl hf call19 rfl (legal_t x19.first.lo x19.first.hi 0 300 (by assumption) _) hK1) fun _ _ => hk _ _ _ _ ⟨rfl, rfl⟩
     · rintro T_ B_ a_ w_ K_ hT hB _ _ ⟨rfl, rfl⟩ h67 - _ _ ⟨rfl, rfl⟩ h70 - hf hsD hk
       exact ob rfl rfl (st_pick hsD (Ev.tmp h67) rfl hf (fun h => (Ev.tmp h70)) (fun h => by cases h) fun _ _ => hk _ _ _ _ ⟨rfl, rfl⟩)
     · rintro T_ B_ a_ w_ K_ hT hB _ _ ⟨rfl, rfl⟩ h71 - hf hsD hk
       exact ob rfl rfl (st_move hsD (Ev.tmp h71) rfl hf fun _ _ => hk _ _ _ _ ⟨rfl, rfl⟩)
     · rintro T_ B_ a_ w_ K_ hT hB _ _ ⟨rfl, rfl⟩ h72 - hf hsD hk
       exact ob_gv hsD (gg := true) (v := .pointer (some ⟨b25, 3, none⟩)) rfl rfl rfl h72 rfl rfl rfl hf (fun _ K1 hK1 => st_field (o' := 3) hsD (evT hT 0 rfl) rfl hf runUnderlying46 rfl sizeOf35 rfl rfl hK1) fun _ _ => hk _ _ _ _ ⟨rfl, rfl⟩
     · rintro T_ B_ a_ w_ K_ hT hB _ _ ⟨rfl, rfl⟩ h72 - _ _ ⟨rfl, rfl⟩ h73 - hf hsD hk
       exact ob_gv hsD (gg := true) (v := .agg ⟨[.int .i64 x19.fin.lo, .int .i64 x19.fin.hi]⟩) rfl rfl rfl h72 rfl rfl rfl hf (fun _ K1 hK1 => st_loadA (o := 0) (off := 3) (vs := [.int .i64 x19.fin.lo, .int .i64 x19.fin.hi]) hsD (Ev.tmp h73) rfl hf isAgg35 sizeOf35 (hsD.cellsM (inB hB 0 rfl)) rfl hK1) fun _ _ => hk _ _ _ _ ⟨rfl, rfl⟩
     · rintro T_ B_ a_ w_ K_ hT hB _ _ ⟨rfl, rfl⟩ h72 - _ _ ⟨rfl, rfl⟩ h74 - hf hsD hk
       exact ob_gv hsD (gg := true) (v := .bool true) rfl rfl rfl h72 rfl rfl rfl hf (fun _ K1 hK1 => st_callv (vs := [.agg ⟨[.int .i64 x19.fin.lo, .int .i64 x19.fin.hi]⟩, .int .i64 0, .int .i64 300]) hsD (.func _) ⟨(Ev.tmp h74), (.const _), (.const _), trivial⟩ rfl hf call19 rfl (legal_t x19.fin.lo x19.fin.hi 0 300 (by assumption) _) hK1) fun _ _ => hk _ _ _ _ ⟨rfl, rfl⟩
     · rintro T_ B_ a_ w_ K_ hT hB _ _ ⟨rfl, rfl⟩ h72 - _ _ ⟨rfl, rfl⟩ h75 - hf hsD hk
       exact ob rfl rfl (st_pick hsD (Ev.tmp h72) rfl hf (fun h => (Ev.tmp h75)) (fun h => by cases h) fun _ _ => hk _ _ _ _ ⟨rfl, rfl⟩)
     · rintro T_ B_ a_ w_ K_ hT hB _ _ ⟨rfl, rfl⟩ h76 - hf hsD hk
       exact ob rfl rfl (st_move hsD (Ev.tmp h76) rfl hf fun _ _ => hk _ _ _ _ ⟨rfl, rfl⟩)
     · rintro T_ B_ a_ w_ K_ hT hB _ _ ⟨rfl, rfl⟩ h77 - hf hsD hk
       exact ob_gv hsD (gg := true) (v := .pointer (some ⟨b25, 1, none⟩)) rfl rfl rfl h77 rfl rfl rfl hf (fun _ K1 hK1 => st_field (o' := 1) hsD (evT hT 0 rfl) rfl hf runUnderlying46 rfl sizeOf35 rfl rfl hK1) fun _ _ => hk _ _ _ _ ⟨rfl, rfl⟩
     · rintro T_ B_ a_ w_ K_ hT hB _ _ ⟨rfl, rfl⟩ h77 - _ _ ⟨rfl, rfl⟩ h78 - hf hsD hk
       exact ob_gv hsD (gg := true) (v := .pointer (some ⟨b25, 1, none⟩)) rfl rfl rfl h77 rfl rfl rfl hf (fun _ K1 hK1 => st_field (o' := 1) hsD (Ev.tmp h78) rfl hf runUnderlying35 rfl sizeOf3 rfl rfl hK1) fun _ _ => hk _ _ _ _ ⟨rfl, rfl⟩
     · rintro T_ B_ a_ w_ K_ hT hB _ _ ⟨rfl, rfl⟩ h77 - _ _ ⟨rfl, rfl⟩ h79 - hf hsD hk
       exact ob_gv hsD (gg := true) (v := .int .i64 x19.first.lo) rfl rfl rfl h77 rfl rfl rfl hf (fun _ K1 hK1 => st_load1 (o := 0) (off := 1) (v := .int .i64 x19.first.lo) hsD (Ev.tmp h79) rfl hf isAgg3 (hsD.cellsM (inB hB 0 rfl)) rfl hK1) fun _ _ => hk _ _ _ _ ⟨rfl, rfl⟩
     · rintro T_ B_ a_ w_ K_ hT hB _ _ ⟨rfl, rfl⟩ h77 - hf hsD hk
       exact ob_gv hsD (gg := true) (v := .pointer (some ⟨b25, 3, none⟩)) rfl rfl rfl h77 rfl rfl rfl hf (fun _ K1 hK1 => st_field (o' := 3) hsD (evT hT 0 rfl) rfl hf runUnderlying46 rfl sizeOf35 rfl rfl hK1) fun _ _ => hk _ _ _ _ ⟨rfl, rfl⟩
     · rintro T_ B_ a_ w_ K_ hT hB _ _ ⟨rfl, rfl⟩ h77 - _ _ ⟨rfl, rfl⟩ h81 - hf hsD hk
       exact ob_gv hsD (gg := true) (v := .pointer (some ⟨b25, 4, none⟩)) rfl rfl rfl h77 rfl rfl rfl hf (fun _ K1 hK1 => st_field (o' := 4) hsD (Ev.tmp h81) rfl hf runUnderlying35 rfl sizeOf3 rfl rfl hK1) fun _ _ => hk _ _ _ _ ⟨rfl, rfl⟩
     · rintro T_ B_ a_ w_ K_ hT hB _ _ ⟨rfl, rfl⟩ h77 - _ _ ⟨rfl, rfl⟩ h82 - hf hsD hk
       exact ob_gv hsD (gg := true) (v := .int .i64 x19.fin.hi) rfl rfl rfl h77 rfl rfl rfl hf (fun _ K1 hK1 => st_load1 (o := 0) (off := 4) (v := .int .i64 x19.fin.hi) hsD (Ev.tmp h82) rfl hf isAgg3 (hsD.cellsM (inB hB 0 rfl)) rfl hK1) fun _ _ => hk _ _ _ _ ⟨rfl, rfl⟩
     · rintro T_ B_ a_ w_ K_ hT hB _ _ ⟨rfl, rfl⟩ h77 - _ _ ⟨rfl, rfl⟩ h80 - _ _ ⟨rfl, rfl⟩ h83 - hf hsD hk
       exact ob_gv hsD (gg := true) (v := .bool true) rfl rfl rfl h77 rfl rfl rfl hf (fun _ K1 hK1 => st_cmp (c := true) hsD (Ev.tmp h80) (Ev.tmp h83) rfl hf rfl (show decide ((x19.first.lo : Int) ≤ x19.fin.hi) = true from decide_eq_true (by omega)) hK1) fun _ _ => hk _ _ _ _ ⟨rfl, rfl⟩
     · rintro T_ B_ a_ w_ K_ hT hB _ _ ⟨rfl, rfl⟩ h77 - _ _ ⟨rfl, rfl⟩ h84 - hf hsD hk
       exact ob rfl rfl (st_pick hsD (Ev.tmp h77) rfl hf (fun h => (Ev.tmp h84)) (fun h => by cases h) fun _ _ => hk _ _ _ _ ⟨rfl, rfl⟩)
     · rintro T_ B_ a_ w_ K_ hT hB _ _ ⟨rfl, rfl⟩ h85 - hf hsD hk
       exact ob rfl rfl (st_move hsD (Ev.tmp h85) rfl hf fun _ _ => hk _ _ _ _ ⟨rfl, rfl⟩)
     · rintro T_ B_ a_ w_ K_ hT hB _ _ ⟨rfl, rfl⟩ h86 - hf hsD hk
       exact ob_gv hsD (gg := true) (v := .pointer (some ⟨b12, 1, none⟩)) rfl rfl rfl h86 rfl rfl rfl hf (fun _ K1 hK1 => st_field (o' := 1) hsD (evT hT 3 rfl) rfl hf runUnderlying25 rfl sizeOf23 rfl rfl hK1) fun _ _ => hk _ _ _ _ ⟨rfl, rfl⟩
     · rintro T_ B_ a_ w_ K_ hT hB _ _ ⟨rfl, rfl⟩ h86 - _ _ ⟨rfl, rfl⟩ h87 - hf hsD hk
       exact ob_gv hsD (gg := true) (v := .slice A2 n2 c2) rfl rfl rfl h86 rfl rfl rfl hf (fun _ K1 hK1 => st_load1 (o := 0) (off := 1) (v := .slice A2 n2 c2) hsD (Ev.tmp h87) rfl hf isAgg23 (hsD.cellsM (inB hB 1 rfl)) rfl hK1) fun _ _ => hk _ _ _ _ ⟨rfl, rfl⟩
     · rintro T_ B_ a_ w_ K_ hT hB _ _ ⟨rfl, rfl⟩ h86 - hf hsD hk
       exact ob_gv hsD (gg := true) (v := .int .i64 (i : Int)) rfl rfl rfl h86 rfl rfl rfl hf (fun _ K1 hK1 => st_move hsD (evT hT 1 rfl) rfl hf hK1) fun _ _ => hk _ _ _ _ ⟨rfl, rfl⟩
     · rintro T_ B_ a_ w_ K_ hT hB _ _ ⟨rfl, rfl⟩ h86 - _ _ ⟨rfl, rfl⟩ h88 - _ _ ⟨rfl, rfl⟩ h89 - hf hsD hk
       exact ob_gv hsD (gg := true) (v := .pointer (some ⟨b22, o22 + i * 2, none⟩)) rfl rfl rfl h86 rfl rfl rfl hf (fun _ K1 hK1 => st_indexM (o' := o22 + i * 2) hsD (Ev.tmp h88) (Ev.tmp h89) rfl hf hA22 runUnderlying23 sizeOf35 ⟨by omega, by have := hF.len; have := (List.getElem?_eq_some_iff.1 hx21).1; omega⟩ rfl hK1) fun _ _ => hk _ _ _ _ ⟨rfl, rfl⟩
     · rintro T_ B_ a_ w_ K_ hT hB _ _ ⟨rfl, rfl⟩ h86 - _ _ ⟨rfl, rfl⟩ h90 - hf hsD hk
       exact ob_gv hsD (gg := true) (v := .agg ⟨(spL x21)⟩) rfl rfl rfl h86 rfl rfl rfl hf (fun _ K1 hK1 => st_loadA (o := o22 + i * 2) (off := 0) (vs := (spL x21)) hsD (Ev.tmp h90) rfl hf isAgg35 sizeOf35 (hsD.old hc22 (by simp)) rfl hK1) fun _ _ => hk _ _ _ _ ⟨rfl, rfl⟩
     · rintro T_ B_ a_ w_ K_ hT hB _ _ ⟨rfl, rfl⟩ h86 - _ _ ⟨rfl, rfl⟩ h91 - hf hsD hk
       exact ob_gv hsD (gg := true) (v := .bool true) rfl rfl rfl h86 rfl rfl rfl hf (fun _ K1 hK1 => st_callv (vs := [.agg ⟨(spL x21)⟩, .int .i64 0, .int .i64 50]) hsD (.func _) ⟨(Ev.tmp h91), (.const _), (.const _), trivial⟩ rfl hf call19 rfl (legal_t x21.lo x21.hi 0 50 (by assumption) _) hK1) fun _ _ => hk _ _ _ _ ⟨rfl, rfl⟩
     · rintro T_ B_ a_ w_ K_ hT hB _ _ ⟨rfl, rfl⟩ h86 - _ _ ⟨rfl, rfl⟩ h92 - hf hsD hk
       exact ob rfl rfl (st_pick hsD (Ev.tmp h86) rfl hf (fun h => (Ev.tmp h92)) (fun h => by cases h) fun _ _ => hk _ _ _ _ ⟨rfl, rfl⟩)
     · rintro T_ B_ a_ w_ K_ hT hB _ _ ⟨rfl, rfl⟩ h93 - hf hsD hk
       exact ob rfl rfl (st_move hsD (Ev.tmp h93) rfl hf fun _ _ => hk _ _ _ _ ⟨rfl, rfl⟩)
     · rintro T_ B_ a_ w_ K_ hT hB _ _ ⟨rfl, rfl⟩ h94 - hf hsD hk
       exact ob_gv hsD (gg := true) (v := .pointer (some ⟨b25, 1, none⟩)) rfl rfl rfl h94 rfl rfl rfl hf (fun _ K1 hK1 => st_field (o' := 1) hsD (evT hT 0 rfl) rfl hf runUnderlying46 rfl sizeOf35 rfl rfl hK1) fun _ _ => hk _ _ _ _ ⟨rfl, rfl⟩
     · rintro T_ B_ a_ w_ K_ hT hB _ _ ⟨rfl, rfl⟩ h94 - _ _ ⟨rfl, rfl⟩ h95 - hf hsD hk
       exact ob_gv hsD (gg := true) (v := .pointer (some ⟨b25, 2, none⟩)) rfl rfl rfl h94 rfl rfl rfl hf (fun _ K1 hK1 => st_field (o' := 2) hsD (Ev.tmp h95) rfl hf runUnderlying35 rfl sizeOf3 rfl rfl hK1) fun _ _ => hk _ _ _ _ ⟨rfl, rfl⟩
     · rintro T_ B_ a_ w_ K_ hT hB _ _ ⟨rfl, rfl⟩ h94 - _ _ ⟨rfl, rfl⟩ h96 - hf hsD hk
       exact ob_gv hsD (gg := true) (v := .int .i64 x19.first.hi) rfl rfl rfl h94 rfl rfl rfl hf (fun _ K1 hK1 => st_load1 (o := 0) (off := 2) (v := .int .i64 x19.first.hi) hsD (Ev.tmp h96) rfl hf isAgg3 (hsD.cellsM (inB hB 0 rfl)) rfl hK1) fun _ _ => hk _ _ _ _ ⟨rfl, rfl⟩
     · rintro T_ B_ a_ w_ K_ hT hB _ _ ⟨rfl, rfl⟩ h94 - hf hsD hk
       exact ob_gv hsD (gg := true) (v := .pointer (some ⟨b25, 1, none⟩)) rfl rfl rfl h94 rfl rfl rfl hf (fun _ K1 hK1 => st_field (o' := 1) hsD (evT hT 0 rfl) rfl hf runUnderlying46 rfl sizeOf35 rfl rfl hK1) fun _ _ => hk _ _ _ _ ⟨rfl, rfl⟩
     · rintro T_ B_ a_ w_ K_ hT hB _ _ ⟨rfl, rfl⟩ h94 - _ _ ⟨rfl, rfl⟩ h98 - hf hsD hk
       exact ob_gv hsD (gg := true) (v := .pointer (some ⟨b25, 1, none⟩)) rfl rfl rfl h94 rfl rfl rfl hf (fun _ K1 hK1 => st_field (o' := 1) hsD (Ev.tmp h98) rfl hf runUnderlying35 rfl sizeOf3 rfl rfl hK1) fun _ _ => hk _ _ _ _ ⟨rfl, rfl⟩
     · rintro T_ B_ a_ w_ K_ hT hB _ _ ⟨rfl, rfl⟩ h94 - _ _ ⟨rfl, rfl⟩ h99 - hf hsD hk
       exact ob_gv hsD (gg := true) (v := .int .i64 x19.first.lo) rfl rfl rfl h94 rfl rfl rfl hf (fun _ K1 hK1 => st_load1 (o := 0) (off := 1) (v := .int .i64 x19.first.lo) hsD (Ev.tmp h99) rfl hf isAgg3 (hsD.cellsM (inB hB 0 rfl)) rfl hK1) fun _ _ => hk _ _ _ _ ⟨rfl, rfl⟩
     · rintro T_ B_ a_ w_ K_ hT hB _ _ ⟨rfl, rfl⟩ h94 - _ _ ⟨rfl, rfl⟩ h97 - _ _ ⟨rfl, rfl⟩ h100 - hf hsD hk
       exact ob_gv hsD (gg := true) (v := .int .i64 (x19.first.hi - x19.first.lo)) rfl rfl rfl h94 rfl rfl rfl hf (fun _ K1 hK1 => st_sub (z := x19.first.hi - x19.first.lo) hsD (Ev.tmp h97) (Ev.tmp h100) rfl hf rfl (by omega) hK1) fun _ _ => hk _ _ _ _ ⟨rfl, rfl⟩
     · rintro T_ B_ a_ w_ K_ hT hB _ _ ⟨rfl, rfl⟩ h94 - _ _ ⟨rfl, rfl⟩ h101 - hf hsD hk
       exact ob_gv hsD (gg := true) (v := .bool true) rfl rfl rfl h94 rfl rfl rfl hf (fun _ K1 hK1 => st_cmp (c := true) hsD (Ev.tmp h101) (.const _) rfl hf rfl (show decide ((x19.first.hi - x19.first.lo : Int) ≤ 15) = true from decide_eq_true (by omega)) hK1) fun _ _ => hk _ _ _ _ ⟨rfl, rfl⟩
     · rintro T_ B_ a_ w_ K_ hT hB _ _ ⟨rfl, rfl⟩ h94 - _ _ ⟨rfl, rfl⟩ h102 - hf hsD hk
       exact ob rfl rfl (st_pick hsD (Ev.tmp h94) rfl hf (fun h => (Ev.tmp h102)) (fun h => by cases h) fun _ _ => hk _ _ _ _ ⟨rfl, rfl⟩)
     · rintro T_ B_ a_ w_ K_ hT hB _ _ ⟨rfl, rfl⟩ h103 - hf hsD hk
       exact ob rfl rfl (st_move hsD (Ev.tmp h103) rfl hf fun _ _ => hk _ _ _ _ ⟨rfl, rfl⟩)
     · rintro T_ B_ a_ w_ K_ hT hB _ _ ⟨rfl, rfl⟩ h104 - hf hsD hk
       exact ob_gv hsD (gg := true) (v := .pointer (some ⟨b25, 3, none⟩)) rfl rfl rfl h104 rfl rfl rfl hf (fun _ K1 hK1 => st_field (o' := 3) hsD (evT hT 0 rfl) rfl hf runUnderlying46 rfl sizeOf35 rfl rfl hK1) fun _ _ => hk _ _ _ _ ⟨rfl, rfl⟩
     · rintro T_ B_ a_ w_ K_ hT hB _ _ ⟨rfl, rfl⟩ h104 - _ _ ⟨rfl, rfl⟩ h105 - hf hsD hk
       exact ob_gv hsD (gg := true) (v := .pointer (some ⟨b25, 4, none⟩)) rfl rfl rfl h104 rfl rfl rfl hf (fun _ K1 hK1 => st_field (o' := 4) hsD (Ev.tmp h105) rfl hf runUnderlying35 rfl sizeOf3 rfl rfl hK1) fun _ _ => hk _ _ _ _ ⟨rfl, rfl⟩
     · rintro T_ B_ a_ w_ K_ hT hB _ _ ⟨rfl, rfl⟩ h104 - _ _ ⟨rfl, rfl⟩ h106 - hf hsD hk
       exact ob_gv hsD (gg := true) (v := .int .i64 x19.fin.hi) rfl rfl rfl h104 rfl rfl rfl hf (fun _ K1 hK1 => st_load1 (o := 0) (off := 4) (v := .int .i64 x19.fin.hi) hsD (Ev.tmp h106) rfl hf isAgg3 (hsD.cellsM (inB hB 0 rfl)) rfl hK1) fun _ _ => hk _ _ _ _ ⟨rfl, rfl⟩
     · rintro T_ B_ a_ w_ K_ hT hB _ _ ⟨rfl, rfl⟩ h104 - hf hsD hk
       exact ob_gv hsD (gg := true) (v := .pointer (some ⟨b25, 3, none⟩)) rfl rfl rfl h104 rfl rfl rfl hf (fun _ K1 hK1 => st_field (o' := 3) hsD (evT hT 0 rfl) rfl hf runUnderlying46 rfl sizeOf35 rfl rfl hK1) fun _ _ => hk _ _ _ _ ⟨rfl, rfl⟩
     · rintro T_ B_ a_ w_ K_ hT hB _ _ ⟨rfl, rfl⟩ h104 - _ _ ⟨rfl, rfl⟩ h108 - hf hsD hk
       exact ob_gv hsD (gg := true) (v := .pointer (some ⟨b25, 3, none⟩)) rfl rfl rfl h104 rfl rfl rfl hf (fun _ K1 hK1 => st_field (o' := 3) hsD (Ev.tmp h108) rfl hf runUnderlying35 rfl sizeOf3 rfl rfl hK1) fun _ _ => hk _ _ _ _ ⟨rfl, rfl⟩
     · rintro T_ B_ a_ w_ K_ hT hB _ _ ⟨rfl, rfl⟩ h104 - _ _ ⟨rfl, rfl⟩ h109 - hf hsD hk
       exact ob_gv hsD (gg := true) (v := .int .i64 x19.fin.lo) rfl rfl rfl h104 rfl rfl rfl hf (fun _ K1 hK1 => st_load1 (o := 0) (off := 3) (v := .int .i64 x19.fin.lo) hsD (Ev.tmp h109) rfl hf isAgg3 (hsD.cellsM (inB hB 0 rfl)) rfl hK1) fun _ _ => hk _ _ _ _ ⟨rfl, rfl⟩
     · rintro T_ B_ a_ w_ K_ hT hB _ _ ⟨rfl, rfl⟩ h104 - _ _ ⟨rfl, rfl⟩ h107 - _ _ ⟨rfl, rfl⟩ h110 - hf hsD hk
       exact ob_gv hsD (gg := true) (v := .int .i64 (x19.fin.hi - x19.fin.lo)) rfl rfl rfl h104 rfl rfl rfl hf (fun _ K1 hK1 => st_sub (z := x19.fin.hi - x19.fin.lo) hsD (Ev.tmp h107) (Ev.tmp h110) rfl hf rfl (by omega) hK1) fun _ _ => hk _ _ _ _ ⟨rfl, rfl⟩
     · rintro T_ B_ a_ w_ K_ hT hB _ _ ⟨rfl, rfl⟩ h104 - _ _ ⟨rfl, rfl⟩ h111 - hf hsD hk
       exact ob_gv hsD (gg := true) (v := .bool true) rfl rfl rfl h104 rfl rfl rfl hf (fun _ K1 hK1 => st_cmp (c := true) hsD (Ev.tmp h111) (.const _) rfl hf rfl (show decide ((x19.fin.hi - x19.fin.lo : Int) ≤ 15) = true from decide_eq_true (by omega)) hK1) fun _ _ => hk _ _ _ _ ⟨rfl, rfl⟩
     · rintro T_ B_ a_ w_ K_ hT hB _ _ ⟨rfl, rfl⟩ h104 - _ _ ⟨rfl, rfl⟩ h112 - hf hsD hk
       exact ob rfl rfl (st_pick hsD (Ev.tmp h104) rfl hf (fun h => (Ev.tmp h112)) (fun h => by cases h) fun _ _ => hk _ _ _ _ ⟨rfl, rfl⟩)
     · rintro T_ B_ a_ w_ K_ hT hB _ _ ⟨rfl, rfl⟩ h113 - hf hsD hk
       exact ob rfl rfl (st_move hsD (Ev.tmp h113) rfl hf fun _ _ => hk _ _ _ _ ⟨rfl, rfl⟩)
     · rintro T_ B_ a_ w_ K_ hT hB _ _ ⟨rfl, rfl⟩ h114 - hf hsD hk
       exact ob_gv hsD (gg := true) (v := .pointer (some ⟨b12, 1, none⟩)) rfl rfl rfl h114 rfl rfl rfl hf (fun _ K1 hK1 => st_field (o' := 1) hsD (evT hT 3 rfl) rfl hf runUnderlying25 rfl sizeOf23 rfl rfl hK1) fun _ _ => hk _ _ _ _ ⟨rfl, rfl⟩
     · rintro T_ B_ a_ w_ K_ hT hB _ _ ⟨rfl, rfl⟩ h114 - _ _ ⟨rfl, rfl⟩ h115 - hf hsD hk
       exact ob_gv hsD (gg := true) (v := .slice A2 n2 c2) rfl rfl rfl h114 rfl rfl rfl hf (fun _ K1 hK1 => st_load1 (o := 0) (off := 1) (v := .slice A2 n2 c2) hsD (Ev.tmp h115) rfl hf isAgg23 (hsD.cellsM (inB hB 1 rfl)) rfl hK1) fun _ _ => hk _ _ _ _ ⟨rfl, rfl⟩
     · rintro T_ B_ a_ w_ K_ hT hB _ _ ⟨rfl, rfl⟩ h114 - hf hsD hk
       exact ob_gv hsD (gg := true) (v := .int .i64 (i : Int)) rfl rfl rfl h114 rfl rfl rfl hf (fun _ K1 hK1 => st_move hsD (evT hT 1 rfl) rfl hf hK1) fun _ _ => hk _ _ _ _ ⟨rfl, rfl⟩
     · rintro T_ B_ a_ w_ K_ hT hB _ _ ⟨rfl, rfl⟩ h114 - _ _ ⟨rfl, rfl⟩ h116 - _ _ ⟨rfl, rfl⟩ h117 - hf hsD hk
       exact ob_gv hsD (gg := true) (v := .pointer (some ⟨b22, o22 + i * 2, none⟩)) rfl rfl rfl h114 rfl rfl rfl hf (fun _ K1 hK1 => st_indexM (o' := o22 + i * 2) hsD (Ev.tmp h116) (Ev.tmp h117) rfl hf hA22 runUnderlying23 sizeOf35 ⟨by omega, by have := hF.len; have := (List.getElem?_eq_some_iff.1 hx21).1; omega⟩ rfl hK1) fun _ _ => hk _ _ _ _ ⟨rfl, rfl⟩
     · rintro T_ B_ a_ w_ K_ hT hB _ _ ⟨rfl, rfl⟩ h114 - _ _ ⟨rfl, rfl⟩ h118 - hf hsD hk
       exact ob_gv hsD (gg := true) (v := .pointer (some ⟨b22, o22 + i * 2 + 1, none⟩)) rfl rfl rfl h114 rfl rfl rfl hf (fun _ K1 hK1 => st_field (o' := o22 + i * 2 + 1) hsD (Ev.tmp h118) rfl hf runUnderlying35 rfl sizeOf3 rfl rfl hK1) fun _ _ => hk _ _ _ _ ⟨rfl, rfl⟩
     · rintro T_ B_ a_ w_ K_ hT hB _ _ ⟨rfl, rfl⟩ h114 - _ _ ⟨rfl, rfl⟩ h119 - hf hsD hk
       exact ob_gv hsD (gg := true) (v := .int .i64 x21.hi) rfl rfl rfl h114 rfl rfl rfl hf (fun _ K1 hK1 => st_load1 (o := o22 + i * 2) (off := 1) (v := .int .i64 x21.hi) hsD (Ev.tmp h119) rfl hf isAgg3 (hsD.old hc22 (by simp)) rfl hK1) fun _ _ => hk _ _ _ _ ⟨rfl, rfl⟩
     · rintro T_ B_ a_ w_ K_ hT hB _ _ ⟨rfl, rfl⟩ h114 - hf hsD hk
       exact ob_gv hsD (gg := true) (v := .pointer (some ⟨b12, 1, none⟩)) rfl rfl rfl h114 rfl rfl rfl hf (fun _ K1 hK1 => st_field (o' := 1) hsD (evT hT 3 rfl) rfl hf runUnderlying25 rfl sizeOf23 rfl rfl hK1) fun _ _ => hk _ _ _ _ ⟨rfl, rfl⟩
     · rintro T_ B_ a_ w_ K_ hT hB _ _ ⟨rfl, rfl⟩ h114 - _ _ ⟨rfl, rfl⟩ h121 - hf hsD hk
       exact ob_gv hsD (gg := true) (v := .slice A2 n2 c2) rfl rfl rfl h114 rfl rfl rfl hf (fun _ K1 hK1 => st_load1 (o := 0) (off := 1) (v := .slice A2 n2 c2) hsD (Ev.tmp h121) rfl hf isAgg23 (hsD.cellsM (inB hB 1 rfl)) rfl hK1) fun _ _ => hk _ _ _ _ ⟨rfl, rfl⟩
     · rintro T_ B_ a_ w_ K_ hT hB _ _ ⟨rfl, rfl⟩ h114 - hf hsD hk
       exact ob_gv hsD (gg := true) (v := .int .i64 (i : Int)) rfl rfl rfl h114 rfl rfl rfl hf (fun _ K1 hK1 => st_move hsD (evT hT 1 rfl) rfl hf hK1) fun _ _ => hk _ _ _ _ ⟨rfl, rfl⟩
     · rintro T_ B_ a_ w_ K_ hT hB _ _ ⟨rfl, rfl⟩ h114 - _ _ ⟨rfl, rfl⟩ h122 - _ _ ⟨rfl, rfl⟩ h123 - hf hsD hk
       exact ob_gv hsD (gg := true) (v := .pointer (some ⟨b22, o22 + i * 2, none⟩)) rfl rfl rfl h114 rfl rfl rfl hf (fun _ K1 hK1 => st_indexM (o' := o22 + i * 2) hsD (Ev.tmp h122) (Ev.tmp h123) rfl hf hA22 runUnderlying23 sizeOf35 ⟨by omega, by have := hF.len; have := (List.getElem?_eq_some_iff.1 hx21).1; omega⟩ rfl hK1) fun _ _ => hk _ _ _ _ ⟨rfl, rfl⟩
     · rintro T_ B_ a_ w_ K_ hT hB _ _ ⟨rfl, rfl⟩ h114 - _ _ ⟨rfl, rfl⟩ h124 - hf hsD hk
       exact ob_gv hsD (gg := true) (v := .pointer (some ⟨b22, o22 + i * 2, none⟩)) rfl rfl rfl h114 rfl rfl rfl hf (fun _ K1 hK1 => st_field (o' := o22 + i * 2) hsD (Ev.tmp h124) rfl hf runUnderlying35 rfl sizeOf3 rfl rfl hK1) fun _ _ => hk _ _ _ _ ⟨rfl, rfl⟩
     · rintro T_ B_ a_ w_ K_ hT hB _ _ ⟨rfl, rfl⟩ h114 - _ _ ⟨rfl, rfl⟩ h125 - hf hsD hk
       exact ob_gv hsD (gg := true) (v := .int .i64 x21.lo) rfl rfl rfl h114 rfl rfl rfl hf (fun _ K1 hK1 => st_load1 (o := o22 + i * 2) (off := 0) (v := .int .i64 x21.lo) hsD (Ev.tmp h125) rfl hf isAgg3 (hsD.old hc22 (by simp)) rfl hK1) fun _ _ => hk _ _ _ _ ⟨rfl, rfl⟩
     · rintro T_ B_ a_ w_ K_ hT hB _ _ ⟨rfl, rfl⟩ h114 - _ _ ⟨rfl, rfl⟩ h120 - _ _ ⟨rfl, rfl⟩ h126 - hf hsD hk
       exact ob_gv hsD (gg := true) (v := .int .i64 (x21.hi - x21.lo)) rfl rfl rfl h114 rfl rfl rfl hf (fun _ K1 hK1 => st_sub (z := x21.hi - x21.lo) hsD (Ev.tmp h120) (Ev.tmp h126) rfl hf rfl (by omega) hK1) fun _ _ => hk _ _ _ _ ⟨rfl, rfl⟩
     · rintro T_ B_ a_ w_ K_ hT hB _ _ ⟨rfl, rfl⟩ h114 - _ _ ⟨rfl, rfl⟩ h127 - hf hsD hk
       exact ob_gv hsD (gg := true) (v := .bool true) rfl rfl rfl h114 rfl rfl rfl hf (fun _ K1 hK1 => st_cmp (c := true) hsD (Ev.tmp h127) (.const _) rfl hf rfl (show decide ((x21.hi - x21.lo : Int) ≤ 15) = true from decide_eq_true (by omega)) hK1) fun _ _ => hk _ _ _ _ ⟨rfl, rfl⟩
     · rintro T_ B_ a_ w_ K_ hT hB _ _ ⟨rfl, rfl⟩ h114 - _ _ ⟨rfl, rfl⟩ h128 - hf hsD hk
       exact ob rfl rfl (st_pick hsD (Ev.tmp h114) rfl hf (fun h => (Ev.tmp h128)) (fun h => by cases h) fun _ _ => hk _ _ _ _ ⟨rfl, rfl⟩)
     rintro _ _ ⟨rfl, rfl⟩ _ _ ⟨rfl, rfl⟩ _ _ ⟨rfl, rfl⟩ _ _ ⟨rfl, rfl⟩ _ _ ⟨rfl, rfl⟩ _ _ ⟨rfl, rfl⟩ _ _ ⟨rfl, rfl⟩ _ _ ⟨rfl, rfl⟩ _ _ ⟨rfl, rfl⟩ _ _ ⟨rfl, rfl⟩ _ _ ⟨rfl, rfl⟩ _ _ ⟨rfl, rfl⟩ _ _ ⟨rfl, rfl⟩ _ _ ⟨rfl, rfl⟩ _ _ ⟨rfl, rfl⟩ _ _ ⟨rfl, rfl⟩ _ _ ⟨rfl, rfl⟩ _ _ ⟨rfl, rfl⟩ _ _ ⟨rfl, rfl⟩ _ _ ⟨rfl, rfl⟩ _ _ ⟨rfl, rfl⟩ _ _ ⟨rfl, rfl⟩ _ _ ⟨rfl, rfl⟩ _ _ ⟨rfl, rfl⟩ _ _ ⟨rfl, rfl⟩ _ _ ⟨rfl, rfl⟩ _ _ ⟨rfl, rfl⟩ _ _ ⟨rfl, rfl⟩ _ _ ⟨rfl, rfl⟩ _ _ ⟨rfl, rfl⟩ _ _ ⟨rfl, rfl⟩ _ _ ⟨rfl, rfl⟩ _ _ ⟨rfl, rfl⟩ _ _ ⟨rfl, rfl⟩ _ _ ⟨rfl, rfl⟩ _ _ ⟨rfl, rfl⟩ _ _ ⟨rfl, rfl⟩ _ _ ⟨rfl, rfl⟩ _ _ ⟨rfl, rfl⟩ _ _ ⟨rfl, rfl⟩ _ _ ⟨rfl, rfl⟩ _ _ ⟨rfl, rfl⟩ _ _ ⟨rfl, rfl⟩ _ _ ⟨rfl, rfl⟩ _ _ ⟨rfl, rfl⟩ _ _ ⟨rfl, rfl⟩ _ _ ⟨rfl, rfl⟩ _ _ ⟨rfl, rfl⟩ _ _ ⟨rfl, rfl⟩ _ _ ⟨rfl, rfl⟩ _ _ ⟨rfl, rfl⟩ _ _ ⟨rfl, rfl⟩ _ _ ⟨rfl, rfl⟩ _ _ ⟨rfl, rfl⟩ _ _ ⟨rfl, rfl⟩ _ _ ⟨rfl, rfl⟩ _ _ ⟨rfl, rfl⟩ _ _ ⟨rfl, rfl⟩ _ _ ⟨rfl, rfl⟩ _ _ ⟨rfl, rfl⟩ _ _ ⟨rfl, rfl⟩ _ _ ⟨rfl, rfl⟩ _ _ ⟨rfl, rfl⟩ _ _ ⟨rfl, rfl⟩ _ _ ⟨rfl, rfl⟩ _ _ ⟨rfl, rfl⟩ a_70 w_70 hs70; clear hs69
     have hs71 := Sx.as (T' := [_, _, _, _, _, _, _, _, _, _, _, _, _, _, _, _, _, _, _, _, _, _, _, _, _, _, _, _, _, _, _, _, _, _, _, _, _, _, _, _, _, _, _, _, _, _, _, _, _, _, _, _, _, _, _, _, _, _, _, _, _, _, _, _, _, _, _, _, _, _]) (B' := [_, _]) rfl rfl hs70; clear hs70
     refine sq rfl (st_assign hs71 (Ev.t 65 rfl) rfl rfl fun _ _ hs72 => ?_); clear hs71
     refine wpListIn_nil ?_
     have hs73 := hs72.keep [0, 68, 69, 70] [_, _, _, _] rfl; clear hs72
     refine in_norm ?_
     refine th_norm (hK23 _ _ ?_)
     refine cd_region1 ?_
     refine sq rfl (st_move hs73 (Ev.t 1 rfl) rfl rfl fun _ _ hs74 => ?_); clear hs73
     refine sq rfl (st_add (z := (i : Int) + 1) hs74 (Ev.t 0 rfl) (.const _) rfl rfl rfl (by omega) fun _ _ hs75 => ?_); clear hs74
     have hs76 := hs75.keep [0, 1, 2, 4, 5] [_, _, _, _, _] rfl; clear hs75
     refine sq rfl (st_assign hs76 (Ev.t 0 rfl) rfl rfl fun _ _ hs77 => ?_); clear hs76
     refine wpListIn_nil ?_
     have hs78 := hs77.keep [0, 3, 4, 5] [_, _, _, _] rfl; clear hs77
     refine ⟨i + 1, ⟨?_, ?_⟩, by omega⟩
     · first | omega | (simp; done) | (simp; omega)
     have hs79 : Sx 131 [] [(4, .int .i64 ((i : Int) + 1)), (3, .bool true), (2, .bool false), (1, .pointer (some ⟨b12, 0, none⟩))] [(b12, some (.cells ⟨(bxL b A n cp A2 n2 c2)⟩ 25 (0, 0)))] [] w _ _ := Sx.blks hs78 ((List.Sublist.cons _ (List.Sublist.cons_cons _ List.Sublist.slnil)))
     exact Sx.keepE [0, 1, 2, 3] _ ⟨⟨_, rfl, rfl⟩, ⟨_, rfl, rfl⟩, ⟨_, rfl, rfl⟩, ⟨_, rfl, rfl⟩, trivial⟩ hs79
   · refine cd_exit ?_
     refine th_exit ?_
     refine th_exit ?_
     refine in_hit ?_
     refine th_norm (hK14 _ _ ?_)
     refine cd_region fun K26 hK26 => ?_
     refine sq rfl (st_move hs60 (Ev.t 2 rfl) rfl rfl fun _ _ hs61 => ?_); clear hs60
     have hs62 := hs61.keep [0, 1, 2, 3, 5] [_, _, _, _, _] rfl; clear hs61
     refine sq rfl (st_assign hs62 (Ev.t 0 rfl) rfl rfl fun _ _ hs63 => ?_); clear hs62
     refine hK26 _ _ ?_; clear hK26
     have hs64 := hs63.keep [0] [_] rfl; clear hs63
     refine cd_retv (vs := [.bool true]) hs64 hQ0 rfl ⟨.tmp 0 rfl, trivial⟩ ?_
     clear hs64 hQ0 hN0
     simp [pack, hok]

theorem box_b (c e : Int) (w : World)  :
    CallsB Tryd.prog 22 [.int .i64 c, .int .i64 e] w (fun v_ bs_ => ∃ b7 b8, v_ = .agg ⟨(bxL (exB c e) (some ⟨b7, 0, none⟩) 2 2 (some ⟨b8, 0, none⟩) 2 2)⟩ ∧ bs_ = [(b8, some (.cells ⟨exFC⟩ 35 (0, 0))), (b7, some (.cells ⟨exRC⟩ 46 (0, 0)))]) := by
 refine enter (N := 18) (M := []) w func22 rfl rfl rfl (fun Q0 a_0 hQ0 hN0 hs0 => ?_)
 refine cd_region fun K1 hK1 => ?_
 refine sq rfl (st_alloc hs0 rfl rfl zeroValue25 rfl fun b2 _ _ hs1 => ?_); clear hs0
 refine hK1 _ _ ?_; clear hK1
 refine cd_region fun K3 hK3 => ?_
 refine sq rfl (st_callv (vs := [.int .i64 100, .int .i64 100]) hs1 (.func _) ⟨(.const _), (.const _), trivial⟩ rfl rfl call23 rfl (S_v 100 100 _) fun _ _ hs2 => ?_); clear hs1
 refine sq rfl (st_callv (vs := [.int .i64 130, .int .i64 133]) hs2 (.func _) ⟨(.const _), (.const _), trivial⟩ rfl rfl call23 rfl (S_v 130 133 _) fun _ _ hs3 => ?_); clear hs2
 refine sq rfl (st_build hs3 (qs := [(0, .int .i64 10), (1, .agg ⟨[.int .i64 100, .int .i64 100]⟩), (2, .agg ⟨[.int .i64 130, .int .i64 133]⟩)]) (v := .agg ⟨[.int .i64 10, .int .i64 100, .int .i64 100, .int .i64 130, .int .i64 133]⟩) ⟨(.const _), (Ev.t 1 rfl), (Ev.t 0 rfl), trivial⟩ rfl rfl rfl (fun _ => by kernel_rfl) fun _ _ hs4 => ?_); clear hs3
 refine sq rfl (st_callv (vs := [.int .i64 40, .int .i64 42]) hs4 (.func _) ⟨(.const _), (.const _), trivial⟩ rfl rfl call23 rfl (S_v 40 42 _) fun _ _ hs5 => ?_); clear hs4
 refine sq rfl (st_callv (vs := [.int .i64 60, .int .i64 60]) hs5 (.func _) ⟨(.const _), (.const _), trivial⟩ rfl rfl call23 rfl (S_v 60 60 _) fun _ _ hs6 => ?_); clear hs5
 refine sq rfl (st_build hs6 (qs := [(0, .int .i64 25), (1, .agg ⟨[.int .i64 40, .int .i64 42]⟩), (2, .agg ⟨[.int .i64 60, .int .i64 60]⟩)]) (v := .agg ⟨[.int .i64 25, .int .i64 40, .int .i64 42, .int .i64 60, .int .i64 60]⟩) ⟨(.const _), (Ev.t 1 rfl), (Ev.t 0 rfl), trivial⟩ rfl rfl rfl (fun _ => by kernel_rfl) fun _ _ hs7 => ?_); clear hs6
 refine sq rfl (st_buildSlice hs7 (qs := [(0, .agg ⟨[.int .i64 10, .int .i64 100, .int .i64 100, .int .i64 130, .int .i64 133]⟩), (1, .agg ⟨[.int .i64 25, .int .i64 40, .int .i64 42, .int .i64 60, .int .i64 60]⟩)]) (e := 46) (l := [.int .i64 10, .int .i64 100, .int .i64 100, .int .i64 130, .int .i64 133, .int .i64 25, .int .i64 40, .int .i64 42, .int .i64 60, .int .i64 60]) ⟨(Ev.t 3 rfl), (Ev.t 0 rfl), trivial⟩ rfl rfl rfl (fun _ => by kernel_rfl) fun b4 _ _ hs8 => ?_); clear hs7
 refine sq rfl (st_callv (vs := [.int .i64 0, .int .i64 2]) hs8 (.func _) ⟨(.const _), (.const _), trivial⟩ rfl rfl call23 rfl (S_v 0 2 _) fun _ _ hs9 => ?_); clear hs8
 refine sq rfl (st_callv (vs := [.int .i64 0, .int .i64 0]) hs9 (.func _) ⟨(.const _), (.const _), trivial⟩ rfl rfl call23 rfl (S_v 0 0 _) fun _ _ hs10 => ?_); clear hs9
 refine sq rfl (st_buildSlice hs10 (qs := [(0, .agg ⟨[.int .i64 0, .int .i64 2]⟩), (1, .agg ⟨[.int .i64 0, .int .i64 0]⟩)]) (e := 35) (l := [.int .i64 0, .int .i64 2, .int .i64 0, .int .i64 0]) ⟨(Ev.t 1 rfl), (Ev.t 0 rfl), trivial⟩ rfl rfl rfl (fun _ => by kernel_rfl) fun b5 _ _ hs11 => ?_); clear hs10
 refine sq rfl (st_move hs11 (Ev.t 11 rfl) rfl rfl fun _ _ hs12 => ?_); clear hs11
 refine sq rfl (st_move hs12 (Ev.t 13 rfl) rfl rfl fun _ _ hs13 => ?_); clear hs12
 refine sq rfl (st_build hs13 (qs := [(0, .slice (some ⟨b4, 0, none⟩) 2 2), (1, .slice (some ⟨b5, 0, none⟩) 2 2), (2, .int .i64 c), (3, .int .i64 e), (4, .int .i64 10), (5, .int .i64 50), (6, .int .i64 300)]) (v := .agg ⟨[.slice (some ⟨b4, 0, none⟩) 2 2, .slice (some ⟨b5, 0, none⟩) 2 2, .int .i64 c, .int .i64 e, .int .i64 10, .int .i64 50, .int .i64 300]⟩) ⟨(Ev.t 5 rfl), (Ev.t 2 rfl), (Ev.t 1 rfl), (Ev.t 0 rfl), (.const _), (.const _), (.const _), trivial⟩ rfl rfl rfl (fun _ => by kernel_rfl) fun _ _ hs14 => ?_); clear hs13
 refine sq rfl (st_store (l' := [.slice (some ⟨b4, 0, none⟩) 2 2, .slice (some ⟨b5, 0, none⟩) 2 2, .int .i64 c, .int .i64 e, .int .i64 10, .int .i64 50, .int .i64 300]) (vs := [.slice (some ⟨b4, 0, none⟩) 2 2, .slice (some ⟨b5, 0, none⟩) 2 2, .int .i64 c, .int .i64 e, .int .i64 10, .int .i64 50, .int .i64 300]) (i := 2) hs14 (Ev.t 13 rfl) (Ev.t 0 rfl) sizeOf25 rfl rfl rfl rfl rfl rfl fun _ _ hs15 => ?_); clear hs14
 have hs16 := hs15.asB [_, _, _] rfl; clear hs15
 refine hK3 _ _ ?_; clear hK3
 have hs17 := hs16.keep [13] [_] rfl; clear hs16
 exact cd_ret (vs := [.agg ⟨[.slice (some ⟨b4, 0, none⟩) 2 2, .slice (some ⟨b5, 0, none⟩) 2 2, .int .i64 c, .int .i64 e, .int .i64 10, .int .i64 50, .int .i64 300]⟩]) (bs := [(b5, some (.cells ⟨exFC⟩ 35 (0, 0))), (b4, some (.cells ⟨exRC⟩ 46 (0, 0)))]) hs17 hQ0 rfl ⟨resA (o := 0) (off := 0) (vs := [.slice (some ⟨b4, 0, none⟩) 2 2, .slice (some ⟨b5, 0, none⟩) 2 2, .int .i64 c, .int .i64 e, .int .i64 10, .int .i64 50, .int .i64 300]) 0 rfl isAgg25 sizeOf25 (hs17.cells 2 rfl) rfl, trivial⟩ (.cons_cons _ (.cons_cons _ (List.nil_sublist _))) ⟨b4, b5, rfl, rfl⟩

theorem ex_whole2 : (exB 760 5).betweenR wholeI = (⟨755, 765⟩, 0) := ex_whole

theorem exIsTruth (b7 b8 : Nat) (w : World) (hr : CellsAt w b7 0 exRC) (hf : CellsAt w b8 0 exFC) (sb : Nat) (hsb : CellsAt w sb 0 [.int .i64 28, .int .i64 19]) : CallsV Tryd.prog 24 [.agg ⟨(bxL (exB 760 5) (some ⟨b7, 0, none⟩) 2 2 (some ⟨b8, 0, none⟩) 2 2)⟩, .slice (some ⟨sb, 0, none⟩) 2 2] w (.tuple ⟨[.bool true, .int .i64 0]⟩) := by
  have h := IsTruth_v (exB 760 5) _ 2 2 _ 2 2 (some ⟨sb, 0, none⟩) 2 2 [28, 19] w (exR_at hr) (by decide) (exF_at hf) (by decide) (sl_at (enc := intL1) (sz := 1) (ys := [28, 19]) (fun _ => rfl) (by decide) hsb) (by decide)
  rw [ex_truth] at h; exact h

theorem exMany (b7 b8 : Nat) (w : World) (hr : CellsAt w b7 0 exRC) (hf : CellsAt w b8 0 exFC) : CallsV Tryd.prog 15 [.agg ⟨(bxL (exB 760 5) (some ⟨b7, 0, none⟩) 2 2 (some ⟨b8, 0, none⟩) 2 2)⟩] w (.tuple ⟨[.int .i64 3, .int .i64 0]⟩) := by
  have h := Many_v (exB 760 5) _ 2 2 _ 2 2 w (exR_at hr) (by decide) (exF_at hf) (by decide)
  rw [ex_many] at h; exact h

theorem exSold (b7 b8 : Nat) (w : World) (hr : CellsAt w b7 0 exRC) (hf : CellsAt w b8 0 exFC) : CallsV Tryd.prog 18 [.agg ⟨(bxL (exB 760 5) (some ⟨b7, 0, none⟩) 2 2 (some ⟨b8, 0, none⟩) 2 2)⟩, .int .i64 0] w (.tuple ⟨[.agg ⟨[.int .i64 28, .int .i64 31]⟩, .int .i64 0]⟩) := by
  have h := Sold_v (exB 760 5) _ 2 2 _ 2 2 w (exR_at hr) (by decide) (exF_at hf) (by decide) 0
  rw [ex_sold] at h; exact h

theorem exCan (b7 b8 : Nat) (w : World) (hr : CellsAt w b7 0 exRC) (hf : CellsAt w b8 0 exFC) : CallsV Tryd.prog 21 [.agg ⟨(bxL (exB 760 5) (some ⟨b7, 0, none⟩) 2 2 (some ⟨b8, 0, none⟩) 2 2)⟩, .int .i64 0, .int .i64 31] w (.tuple ⟨[.bool true, .int .i64 0]⟩) := by
  have h := Can_v (exB 760 5) _ 2 2 _ 2 2 w (exR_at hr) (by decide) (exF_at hf) (by decide) 0 31
  rw [ex_can] at h; exact h

theorem exAsk (b7 b8 : Nat) (w : World) (hr : CellsAt w b7 0 exRC) (hf : CellsAt w b8 0 exFC) : CallsV Tryd.prog 12 [.agg ⟨(bxL (exB 760 5) (some ⟨b7, 0, none⟩) 2 2 (some ⟨b8, 0, none⟩) 2 2)⟩] w (.tuple ⟨[.int .i64 0, .int .i64 0]⟩) := by
  have h := Ask_v (exB 760 5) _ 2 2 _ 2 2 w (exR_at hr) (by decide) (exF_at hf) (by decide)
  rw [ex_ask] at h; exact h

theorem exAsk0 (b7 b8 : Nat) (w : World) (hr : CellsAt w b7 0 exRC) (hf : CellsAt w b8 0 exFC) : CallsV Tryd.prog 12 [.agg ⟨(bxL (exB 760 0) (some ⟨b7, 0, none⟩) 2 2 (some ⟨b8, 0, none⟩) 2 2)⟩] w (.tuple ⟨[.int .i64 0, .int .i64 4]⟩) := by
  have h := Ask_v (exB 760 0) _ 2 2 _ 2 2 w (exR_at hr) (by decide) (exF_at hf) (by decide)
  rw [ex_ask0] at h; exact h

theorem exTakings (b7 b8 : Nat) (w : World) (hr : CellsAt w b7 0 exRC) (hf : CellsAt w b8 0 exFC) (hG : CellsAt w 0 0 partsL) : CallsV Tryd.prog 25 [.agg ⟨(bxL (exB 760 5) (some ⟨b7, 0, none⟩) 2 2 (some ⟨b8, 0, none⟩) 2 2)⟩] w (.tuple ⟨[.agg ⟨[.int .i64 755, .int .i64 765]⟩, .int .i64 0]⟩) := by
  have h := Takings_v (exB 760 5) _ 2 2 _ 2 2 w (exR_at hr) (by decide) (exF_at hf) (by decide) hG
  rw [ex_whole2] at h; exact h

theorem exHire (b7 b8 : Nat) (w : World) (hr : CellsAt w b7 0 exRC) (hf : CellsAt w b8 0 exFC) (hG : CellsAt w 0 0 partsL) : CallsV Tryd.prog 26 [.agg ⟨(bxL (exB 760 5) (some ⟨b7, 0, none⟩) 2 2 (some ⟨b8, 0, none⟩) 2 2)⟩] w (.tuple ⟨[.agg ⟨[.int .i64 340, .int .i64 344]⟩, .int .i64 0]⟩) := by
  have h := Hire_v (exB 760 5) _ 2 2 _ 2 2 w (exR_at hr) (by decide) (exF_at hf) (by decide) hG
  rw [ex_hire] at h; exact h

theorem exLeft (b7 b8 : Nat) (w : World) (hr : CellsAt w b7 0 exRC) (hf : CellsAt w b8 0 exFC) (hG : CellsAt w 0 0 partsL) : CallsV Tryd.prog 27 [.agg ⟨(bxL (exB 760 5) (some ⟨b7, 0, none⟩) 2 2 (some ⟨b8, 0, none⟩) 2 2)⟩] w (.tuple ⟨[.agg ⟨[.int .i64 340, .int .i64 345]⟩, .int .i64 0]⟩) := by
  have h := Left_v (exB 760 5) _ 2 2 _ 2 2 w (exR_at hr) (by decide) (exF_at hf) (by decide) hG
  rw [ex_left] at h; exact h

theorem exWrong (b7 b8 : Nat) (w : World) (hr : CellsAt w b7 0 exRC) (hf : CellsAt w b8 0 exFC) : CallsV Tryd.prog 28 [.agg ⟨(bxL (exB 772 5) (some ⟨b7, 0, none⟩) 2 2 (some ⟨b8, 0, none⟩) 2 2)⟩] w (.tuple ⟨[.int .i64 2, .int .i64 0]⟩) := by
  have h := Wrong_v (exB 772 5) _ 2 2 _ 2 2 w (exR_at hr) (by decide) (exF_at hf) (by decide)
  rw [ex_wrong] at h; exact h

theorem counted_v  (w : World) (hG : CellsAt w 0 0 partsL) :
    CallsV Tryd.prog 14 [] w (.bool true) := by
 refine enter (N := 144) (M := []) w func14 rfl rfl rfl (fun Q0 a_0 hQ0 hN0 hs0 => ?_)
 refine cd_region fun K1 hK1 => ?_
 refine sq rfl (st_assign hs0 (.const _) rfl rfl fun _ _ hs1 => ?_); clear hs0
 refine hK1 _ _ ?_; clear hK1
 refine cd_region fun K2 hK2 => ?_
 refine sq rfl (st_call (vs := [.int .i64 760, .int .i64 5]) hs1 (.func _) ⟨(.const _), (.const _), trivial⟩ rfl rfl call22 rfl (box_b 760 5 _) fun v5 bs6 a_2 w_2 hp2 hs2 => ?_); clear hs1
 obtain ⟨b3, b4, rfl, rfl⟩ := hp2
 have hs3 := Sx.as (T' := [_, _]) (B' := [_, _]) rfl rfl hs2; clear hs2
 refine sq rfl (st_buildSlice hs3 (qs := [(0, .int .i64 28), (1, .int .i64 19)]) (e := 3) (l := [.int .i64 28, .int .i64 19]) ⟨(.const _), (.const _), trivial⟩ rfl rfl rfl (fun _ => by kernel_rfl) fun b7 _ _ hs4 => ?_); clear hs3
 refine sq rfl (st_callv (vs := [.agg ⟨(bxL (exB 760 5) (some ⟨b3, 0, none⟩) 2 2 (some ⟨b4, 0, none⟩) 2 2)⟩, .slice (some ⟨b7, 0, none⟩) 2 2]) hs4 (.func _) ⟨(Ev.t 1 rfl), (Ev.t 0 rfl), trivial⟩ rfl rfl call24 rfl (exIsTruth b3 b4 _ (hs4.cells 2 rfl) (hs4.cells 1 rfl) b7 (hs4.cells 0 rfl)) fun _ _ hs5 => ?_); clear hs4
 refine sq rfl (st_move hs5 (Ev.t 0 rfl) rfl rfl fun _ _ hs6 => ?_); clear hs5
 refine sq rfl (st_extract hs6 (Ev.t 0 rfl) rfl rfl rfl fun _ _ hs7 => ?_); clear hs6
 refine sq rfl (st_extract hs7 (Ev.t 1 rfl) rfl rfl rfl fun _ _ hs8 => ?_); clear hs7
 refine sq rfl (st_assign hs8 (Ev.t 1 rfl) rfl rfl fun _ _ hs9 => ?_); clear hs8
 refine sq rfl (st_assign hs9 (Ev.t 1 rfl) rfl rfl fun _ _ hs10 => ?_); clear hs9
 refine hK2 _ _ ?_; clear hK2
 have hs11 := hs10.keep [0, 1, 8] [_, _, _] rfl; clear hs10
 refine cd_region fun K8 hK8 => ?_
 refine sq rfl (st_call (vs := [.int .i64 760, .int .i64 5]) hs11 (.func _) ⟨(.const _), (.const _), trivial⟩ rfl rfl call22 rfl (box_b 760 5 _) fun v11 bs12 a_12 w_12 hp12 hs12 => ?_); clear hs11
 obtain ⟨b9, b10, rfl, rfl⟩ := hp12
 have hs13 := Sx.as (T' := [_, _, _, _]) (B' := [_, _, _, _, _]) rfl rfl hs12; clear hs12
 refine sq rfl (st_callv (vs := [.agg ⟨(bxL (exB 760 5) (some ⟨b9, 0, none⟩) 2 2 (some ⟨b10, 0, none⟩) 2 2)⟩]) hs13 (.func _) ⟨(Ev.t 0 rfl), trivial⟩ rfl rfl call15 rfl (exMany b9 b10 _ (hs13.cells 1 rfl) (hs13.cells 0 rfl)) fun _ _ hs14 => ?_); clear hs13
 refine sq rfl (st_move hs14 (Ev.t 0 rfl) rfl rfl fun _ _ hs15 => ?_); clear hs14
 refine sq rfl (st_extract hs15 (Ev.t 0 rfl) rfl rfl rfl fun _ _ hs16 => ?_); clear hs15
 refine sq rfl (st_extract hs16 (Ev.t 1 rfl) rfl rfl rfl fun _ _ hs17 => ?_); clear hs16
 refine sq rfl (st_assign hs17 (Ev.t 1 rfl) rfl rfl fun _ _ hs18 => ?_); clear hs17
 refine sq rfl (st_assign hs18 (Ev.t 1 rfl) rfl rfl fun _ _ hs19 => ?_); clear hs18
 refine hK8 _ _ ?_; clear hK8
 have hs20 := hs19.keep [0, 1, 7, 8, 9] [_, _, _, _, _] rfl; clear hs19
 refine cd_region fun K13 hK13 => ?_
 refine sq rfl (st_call (vs := [.int .i64 760, .int .i64 5]) hs20 (.func _) ⟨(.const _), (.const _), trivial⟩ rfl rfl call22 rfl (box_b 760 5 _) fun v16 bs17 a_21 w_21 hp21 hs21 => ?_); clear hs20
 obtain ⟨b14, b15, rfl, rfl⟩ := hp21
 have hs22 := Sx.as (T' := [_, _, _, _, _, _]) (B' := [_, _, _, _, _, _, _]) rfl rfl hs21; clear hs21
 refine sq rfl (st_callv (vs := [.agg ⟨(bxL (exB 760 5) (some ⟨b14, 0, none⟩) 2 2 (some ⟨b15, 0, none⟩) 2 2)⟩, .int .i64 0]) hs22 (.func _) ⟨(Ev.t 0 rfl), (.const _), trivial⟩ rfl rfl call18 rfl (exSold b14 b15 _ (hs22.cells 1 rfl) (hs22.cells 0 rfl)) fun _ _ hs23 => ?_); clear hs22
 refine sq rfl (st_move hs23 (Ev.t 0 rfl) rfl rfl fun _ _ hs24 => ?_); clear hs23
 refine sq rfl (st_extract hs24 (Ev.t 0 rfl) rfl rfl rfl fun _ _ hs25 => ?_); clear hs24
 refine sq rfl (st_extract hs25 (Ev.t 1 rfl) rfl rfl rfl fun _ _ hs26 => ?_); clear hs25
 refine sq rfl (st_alloc hs26 rfl rfl zeroValue35 rfl fun b18 _ _ hs27 => ?_); clear hs26
 refine sq rfl (st_store (l' := [.int .i64 28, .int .i64 31]) (vs := [.int .i64 28, .int .i64 31]) (i := 0) hs27 (Ev.t 0 rfl) (Ev.t 2 rfl) sizeOf35 rfl rfl rfl rfl rfl rfl fun _ _ hs28 => ?_); clear hs27
 have hs29 := hs28.asB [_, _, _, _, _, _, _, _] rfl; clear hs28
 refine sq rfl (st_assign hs29 (Ev.t 1 rfl) rfl rfl fun _ _ hs30 => ?_); clear hs29
 refine hK13 _ _ ?_; clear hK13
 have hs31 := hs30.keep [0, 1, 7, 8, 9, 10, 11] [_, _, _, _, _, _, _] rfl; clear hs30
 refine cd_region fun K19 hK19 => ?_
 refine sq rfl (st_call (vs := [.int .i64 760, .int .i64 5]) hs31 (.func _) ⟨(.const _), (.const _), trivial⟩ rfl rfl call22 rfl (box_b 760 5 _) fun v22 bs23 a_32 w_32 hp32 hs32 => ?_); clear hs31
 obtain ⟨b20, b21, rfl, rfl⟩ := hp32
 have hs33 := Sx.as (T' := [_, _, _, _, _, _, _, _]) (B' := [_, _, _, _, _, _, _, _, _, _]) rfl rfl hs32; clear hs32
 refine sq rfl (st_callv (vs := [.agg ⟨(bxL (exB 760 5) (some ⟨b20, 0, none⟩) 2 2 (some ⟨b21, 0, none⟩) 2 2)⟩, .int .i64 0, .int .i64 31]) hs33 (.func _) ⟨(Ev.t 0 rfl), (.const _), (.const _), trivial⟩ rfl rfl call21 rfl (exCan b20 b21 _ (hs33.cells 1 rfl) (hs33.cells 0 rfl)) fun _ _ hs34 => ?_); clear hs33
 refine sq rfl (st_move hs34 (Ev.t 0 rfl) rfl rfl fun _ _ hs35 => ?_); clear hs34
 refine sq rfl (st_extract hs35 (Ev.t 0 rfl) rfl rfl rfl fun _ _ hs36 => ?_); clear hs35
 refine sq rfl (st_extract hs36 (Ev.t 1 rfl) rfl rfl rfl fun _ _ hs37 => ?_); clear hs36
 refine sq rfl (st_assign hs37 (Ev.t 1 rfl) rfl rfl fun _ _ hs38 => ?_); clear hs37
 refine sq rfl (st_assign hs38 (Ev.t 1 rfl) rfl rfl fun _ _ hs39 => ?_); clear hs38
 refine hK19 _ _ ?_; clear hK19
 have hs40 := hs39.keep [0, 1, 7, 8, 9, 10, 11, 12, 13] [_, _, _, _, _, _, _, _, _] rfl; clear hs39
 refine cd_seq fun K24 hK24 => ?_
 refine cd_drawn mixed hs40 [⟨38, [], Is (.int .i64 0)⟩, ⟨39, [0], Is (.bool false)⟩, ⟨40, [1], Is (.bool false)⟩, ⟨41, [2], Is (.int .i64 0)⟩, ⟨42, [2, 3], Is (.bool false)⟩, ⟨43, [2, 4], Is (.bool false)⟩, ⟨44, [5], Is (.bool false)⟩, ⟨45, [6], Is (.int .i64 0)⟩, ⟨46, [6, 7], Is (.bool false)⟩, ⟨47, [6, 8], Is (.bool false)⟩, ⟨48, [9], Is (.bool false)⟩, ⟨49, [10], Is (.int .i64 0)⟩, ⟨50, [10, 11], Is (.bool false)⟩, ⟨51, [10, 12], Is (.bool false)⟩, ⟨52, [13], Is (.bool false)⟩, ⟨53, [14], Is (.bool true)⟩, ⟨54, [14, 15], Is (.bool false)⟩, ⟨55, [14, 16], Is (.bool false)⟩, ⟨56, [17], Is (.bool false)⟩, ⟨57, [18], Is (.int .i64 3)⟩, ⟨58, [18, 19], Is (.bool false)⟩, ⟨59, [18, 20], Is (.bool false)⟩, ⟨60, [21], Is (.bool false)⟩, ⟨61, [22], Is (.agg ⟨[.int .i64 28, .int .i64 31]⟩)⟩, ⟨62, [22], Is (.agg ⟨[.int .i64 28, .int .i64 31]⟩)⟩, ⟨63, [22, 23, 24], Is (.bool false)⟩, ⟨64, [22, 25], Is (.bool false)⟩, ⟨65, [26], Is (.bool false)⟩, ⟨66, [27], Is (.bool true)⟩, ⟨67, [27, 28], Is (.bool false)⟩, ⟨68, [27, 29], Is (.bool false)⟩] (by kernel_rfl) (by kernel_rfl) fun K25 hK25 => ⟨⟨?_, ?_, ?_, ?_, ?_, ?_, ?_, ?_, ?_, ?_, ?_, ?_, ?_, ?_, ?_, ?_, ?_, ?_, ?_, ?_, ?_, ?_, ?_, ?_, ?_, ?_, ?_, ?_, ?_, ?_, ?_, trivial⟩, ?_⟩
 · rintro T_ B_ a_ w_ K_ hT hB hf hsD hk
   exact ob rfl rfl (st_move hsD (evT hT 6 rfl) rfl hf fun _ _ => hk _ _ _ _ ⟨rfl, rfl⟩)
 · rintro T_ B_ a_ w_ K_ hT hB _ _ ⟨rfl, rfl⟩ h38 - hf hsD hk
   exact ob rfl rfl (st_cmp (c := false) hsD (Ev.tmp h38) (.const _) rfl hf rfl rfl fun _ _ => hk _ _ _ _ ⟨rfl, rfl⟩)
 · rintro T_ B_ a_ w_ K_ hT hB _ _ ⟨rfl, rfl⟩ h39 - hf hsD hk
   exact ob rfl rfl (st_move hsD (Ev.tmp h39) rfl hf fun _ _ => hk _ _ _ _ ⟨rfl, rfl⟩)
 · rintro T_ B_ a_ w_ K_ hT hB _ _ ⟨rfl, rfl⟩ h40 - hf hsD hk
   exact ob_gv hsD (gg := true) (v := .int .i64 0) rfl rfl rfl h40 rfl rfl rfl hf (fun _ K1 hK1 => st_move hsD (evT hT 4 rfl) rfl hf hK1) fun _ _ => hk _ _ _ _ ⟨rfl, rfl⟩
 · rintro T_ B_ a_ w_ K_ hT hB _ _ ⟨rfl, rfl⟩ h40 - _ _ ⟨rfl, rfl⟩ h41 - hf hsD hk
   exact ob_gv hsD (gg := true) (v := .bool false) rfl rfl rfl h40 rfl rfl rfl hf (fun _ K1 hK1 => st_cmp (c := false) hsD (Ev.tmp h41) (.const _) rfl hf rfl rfl hK1) fun _ _ => hk _ _ _ _ ⟨rfl, rfl⟩
 · rintro T_ B_ a_ w_ K_ hT hB _ _ ⟨rfl, rfl⟩ h40 - _ _ ⟨rfl, rfl⟩ h42 - hf hsD hk
   exact ob rfl rfl (st_pick hsD (Ev.tmp h40) rfl hf (fun h => by cases h) (fun h => (Ev.tmp h42)) fun _ _ => hk _ _ _ _ ⟨rfl, rfl⟩)
 · rintro T_ B_ a_ w_ K_ hT hB _ _ ⟨rfl, rfl⟩ h43 - hf hsD hk
   exact ob rfl rfl (st_move hsD (Ev.tmp h43) rfl hf fun _ _ => hk _ _ _ _ ⟨rfl, rfl⟩)
 · rintro T_ B_ a_ w_ K_ hT hB _ _ ⟨rfl, rfl⟩ h44 - hf hsD hk
   exact ob_gv hsD (gg := true) (v := .int .i64 0) rfl rfl rfl h44 rfl rfl rfl hf (fun _ K1 hK1 => st_move hsD (evT hT 2 rfl) rfl hf hK1) fun _ _ => hk _ _ _ _ ⟨rfl, rfl⟩
 · rintro T_ B_ a_ w_ K_ hT hB _ _ ⟨rfl, rfl⟩ h44 - _ _ ⟨rfl, rfl⟩ h45 - hf hsD hk
   exact ob_gv hsD (gg := true) (v := .bool false) rfl rfl rfl h44 rfl rfl rfl hf (fun _ K1 hK1 => st_cmp (c := false) hsD (Ev.tmp h45) (.const _) rfl hf rfl rfl hK1) fun _ _ => hk _ _ _ _ ⟨rfl, rfl⟩
 · rintro T_ B_ a_ w_ K_ hT hB _ _ ⟨rfl, rfl⟩ h44 - _ _ ⟨rfl, rfl⟩ h46 - hf hsD hk
   exact ob rfl rfl (st_pick hsD (Ev.tmp h44) rfl hf (fun h => by cases h) (fun h => (Ev.tmp h46)) fun _ _ => hk _ _ _ _ ⟨rfl, rfl⟩)
 · rintro T_ B_ a_ w_ K_ hT hB _ _ ⟨rfl, rfl⟩ h47 - hf hsD hk
   exact ob rfl rfl (st_move hsD (Ev.tmp h47) rfl hf fun _ _ => hk _ _ _ _ ⟨rfl, rfl⟩)
 · rintro T_ B_ a_ w_ K_ hT hB _ _ ⟨rfl, rfl⟩ h48 - hf hsD hk
   exact ob_gv hsD (gg := true) (v := .int .i64 0) rfl rfl rfl h48 rfl rfl rfl hf (fun _ K1 hK1 => st_move hsD (evT hT 0 rfl) rfl hf hK1) fun _ _ => hk _ _ _ _ ⟨rfl, rfl⟩
 · rintro T_ B_ a_ w_ K_ hT hB _ _ ⟨rfl, rfl⟩ h48 - _ _ ⟨rfl, rfl⟩ h49 - hf hsD hk
   exact ob_gv hsD (gg := true) (v := .bool false) rfl rfl rfl h48 rfl rfl rfl hf (fun _ K1 hK1 => st_cmp (c := false) hsD (Ev.tmp h49) (.const _) rfl hf rfl rfl hK1) fun _ _ => hk _ _ _ _ ⟨rfl, rfl⟩
 · rintro T_ B_ a_ w_ K_ hT hB _ _ ⟨rfl, rfl⟩ h48 - _ _ ⟨rfl, rfl⟩ h50 - hf hsD hk
   exact ob rfl rfl (st_pick hsD (Ev.tmp h48) rfl hf (fun h => by cases h) (fun h => (Ev.tmp h50)) fun _ _ => hk _ _ _ _ ⟨rfl, rfl⟩)
 · rintro T_ B_ a_ w_ K_ hT hB _ _ ⟨rfl, rfl⟩ h51 - hf hsD hk
   exact ob rfl rfl (st_move hsD (Ev.tmp h51) rfl hf fun _ _ => hk _ _ _ _ ⟨rfl, rfl⟩)
 · rintro T_ B_ a_ w_ K_ hT hB _ _ ⟨rfl, rfl⟩ h52 - hf hsD hk
   exact ob_gv hsD (gg := true) (v := .bool true) rfl rfl rfl h52 rfl rfl rfl hf (fun _ K1 hK1 => st_move hsD (evT hT 7 rfl) rfl hf hK1) fun _ _ => hk _ _ _ _ ⟨rfl, rfl⟩
 · rintro T_ B_ a_ w_ K_ hT hB _ _ ⟨rfl, rfl⟩ h52 - _ _ ⟨rfl, rfl⟩ h53 - hf hsD hk
   exact ob_gv hsD (gg := true) (v := .bool false) rfl rfl rfl h52 rfl rfl rfl hf (fun _ K1 hK1 => st_not hsD (Ev.tmp h53) rfl hf hK1) fun _ _ => hk _ _ _ _ ⟨rfl, rfl⟩
 · rintro T_ B_ a_ w_ K_ hT hB _ _ ⟨rfl, rfl⟩ h52 - _ _ ⟨rfl, rfl⟩ h54 - hf hsD hk
   exact ob rfl rfl (st_pick hsD (Ev.tmp h52) rfl hf (fun h => by cases h) (fun h => (Ev.tmp h54)) fun _ _ => hk _ _ _ _ ⟨rfl, rfl⟩)
 · rintro T_ B_ a_ w_ K_ hT hB _ _ ⟨rfl, rfl⟩ h55 - hf hsD hk
   exact ob rfl rfl (st_move hsD (Ev.tmp h55) rfl hf fun _ _ => hk _ _ _ _ ⟨rfl, rfl⟩)
 · rintro T_ B_ a_ w_ K_ hT hB _ _ ⟨rfl, rfl⟩ h56 - hf hsD hk
   exact ob_gv hsD (gg := true) (v := .int .i64 3) rfl rfl rfl h56 rfl rfl rfl hf (fun _ K1 hK1 => st_move hsD (evT hT 5 rfl) rfl hf hK1) fun _ _ => hk _ _ _ _ ⟨rfl, rfl⟩
 · rintro T_ B_ a_ w_ K_ hT hB _ _ ⟨rfl, rfl⟩ h56 - _ _ ⟨rfl, rfl⟩ h57 - hf hsD hk
   exact ob_gv hsD (gg := true) (v := .bool false) rfl rfl rfl h56 rfl rfl rfl hf (fun _ K1 hK1 => st_cmp (c := false) hsD (Ev.tmp h57) (.const _) rfl hf rfl rfl hK1) fun _ _ => hk _ _ _ _ ⟨rfl, rfl⟩
 · rintro T_ B_ a_ w_ K_ hT hB _ _ ⟨rfl, rfl⟩ h56 - _ _ ⟨rfl, rfl⟩ h58 - hf hsD hk
   exact ob rfl rfl (st_pick hsD (Ev.tmp h56) rfl hf (fun h => by cases h) (fun h => (Ev.tmp h58)) fun _ _ => hk _ _ _ _ ⟨rfl, rfl⟩)
 · rintro T_ B_ a_ w_ K_ hT hB _ _ ⟨rfl, rfl⟩ h59 - hf hsD hk
   exact ob rfl rfl (st_move hsD (Ev.tmp h59) rfl hf fun _ _ => hk _ _ _ _ ⟨rfl, rfl⟩)
 · rintro T_ B_ a_ w_ K_ hT hB _ _ ⟨rfl, rfl⟩ h60 - hf hsD hk
   exact ob_gv hsD (gg := true) (v := .agg ⟨[.int .i64 28, .int .i64 31]⟩) rfl rfl rfl h60 rfl rfl rfl hf (fun _ K1 hK1 => st_loadA (o := 0) (off := 0) (vs := [.int .i64 28, .int .i64 31]) hsD (evT hT 3 rfl) rfl hf isAgg35 sizeOf35 (hsD.cellsM (inB hB 2 rfl)) rfl hK1) fun _ _ => hk _ _ _ _ ⟨rfl, rfl⟩
 · rintro T_ B_ a_ w_ K_ hT hB _ _ ⟨rfl, rfl⟩ h60 - hf hsD hk
   exact ob_gv hsD (gg := true) (v := .agg ⟨[.int .i64 28, .int .i64 31]⟩) rfl rfl rfl h60 rfl rfl rfl hf (fun _ K1 hK1 => st_callv (vs := [.int .i64 28, .int .i64 31]) hsD (.func _) ⟨(.const _), (.const _), trivial⟩ rfl hf call23 rfl (S_v 28 31 _) hK1) fun _ _ => hk _ _ _ _ ⟨rfl, rfl⟩
 · rintro T_ B_ a_ w_ K_ hT hB _ _ ⟨rfl, rfl⟩ h60 - _ _ ⟨rfl, rfl⟩ h61 - _ _ ⟨rfl, rfl⟩ h62 - hf hsD hk
   exact ob_gv hsD (gg := true) (v := .bool false) rfl rfl rfl h60 rfl rfl rfl hf (fun _ K1 hK1 => st_bin (z := .bool false) hsD (Ev.tmp h61) (Ev.tmp h62) (run_neq_35 _ _ 28 31 28 31) rfl hf hK1) fun _ _ => hk _ _ _ _ ⟨rfl, rfl⟩
 · rintro T_ B_ a_ w_ K_ hT hB _ _ ⟨rfl, rfl⟩ h60 - _ _ ⟨rfl, rfl⟩ h63 - hf hsD hk
   exact ob rfl rfl (st_pick hsD (Ev.tmp h60) rfl hf (fun h => by cases h) (fun h => (Ev.tmp h63)) fun _ _ => hk _ _ _ _ ⟨rfl, rfl⟩)
 · rintro T_ B_ a_ w_ K_ hT hB _ _ ⟨rfl, rfl⟩ h64 - hf hsD hk
   exact ob rfl rfl (st_move hsD (Ev.tmp h64) rfl hf fun _ _ => hk _ _ _ _ ⟨rfl, rfl⟩)
 · rintro T_ B_ a_ w_ K_ hT hB _ _ ⟨rfl, rfl⟩ h65 - hf hsD hk
   exact ob_gv hsD (gg := true) (v := .bool true) rfl rfl rfl h65 rfl rfl rfl hf (fun _ K1 hK1 => st_move hsD (evT hT 1 rfl) rfl hf hK1) fun _ _ => hk _ _ _ _ ⟨rfl, rfl⟩
 · rintro T_ B_ a_ w_ K_ hT hB _ _ ⟨rfl, rfl⟩ h65 - _ _ ⟨rfl, rfl⟩ h66 - hf hsD hk
   exact ob_gv hsD (gg := true) (v := .bool false) rfl rfl rfl h65 rfl rfl rfl hf (fun _ K1 hK1 => st_not hsD (Ev.tmp h66) rfl hf hK1) fun _ _ => hk _ _ _ _ ⟨rfl, rfl⟩
 · rintro T_ B_ a_ w_ K_ hT hB _ _ ⟨rfl, rfl⟩ h65 - _ _ ⟨rfl, rfl⟩ h67 - hf hsD hk
   exact ob rfl rfl (st_pick hsD (Ev.tmp h65) rfl hf (fun h => by cases h) (fun h => (Ev.tmp h67)) fun _ _ => hk _ _ _ _ ⟨rfl, rfl⟩)
 rintro _ _ ⟨rfl, rfl⟩ _ _ ⟨rfl, rfl⟩ _ _ ⟨rfl, rfl⟩ _ _ ⟨rfl, rfl⟩ _ _ ⟨rfl, rfl⟩ _ _ ⟨rfl, rfl⟩ _ _ ⟨rfl, rfl⟩ _ _ ⟨rfl, rfl⟩ _ _ ⟨rfl, rfl⟩ _ _ ⟨rfl, rfl⟩ _ _ ⟨rfl, rfl⟩ _ _ ⟨rfl, rfl⟩ _ _ ⟨rfl, rfl⟩ _ _ ⟨rfl, rfl⟩ _ _ ⟨rfl, rfl⟩ _ _ ⟨rfl, rfl⟩ _ _ ⟨rfl, rfl⟩ _ _ ⟨rfl, rfl⟩ _ _ ⟨rfl, rfl⟩ _ _ ⟨rfl, rfl⟩ _ _ ⟨rfl, rfl⟩ _ _ ⟨rfl, rfl⟩ _ _ ⟨rfl, rfl⟩ _ _ ⟨rfl, rfl⟩ _ _ ⟨rfl, rfl⟩ _ _ ⟨rfl, rfl⟩ _ _ ⟨rfl, rfl⟩ _ _ ⟨rfl, rfl⟩ _ _ ⟨rfl, rfl⟩ _ _ ⟨rfl, rfl⟩ _ _ ⟨rfl, rfl⟩ a_41 w_41 hs41; clear hs40
 have hs42 := Sx.as (T' := [_, _, _, _, _, _, _, _, _, _, _, _, _, _, _, _, _, _, _, _, _, _, _, _, _, _, _, _, _, _, _, _, _, _, _, _, _, _, _, _]) (B' := [_, _, _, _, _, _, _, _, _, _]) rfl rfl hs41; clear hs41
 refine hK25 _ _ ?_; clear hK25
 have hs43 := hs42.keep [30, 39] [_, _] rfl; clear hs42
 have hc26 : false = false := rfl
 refine cd_cond hs43 (Ev.t 0 rfl) (fun h => absurd (hc26.symm.trans h) (by decide)) (fun _ => ?_)
 refine cd_skip ?_
 refine th_norm (hK24 _ _ ?_)
 refine cd_region fun K27 hK27 => ?_
 refine sq rfl (st_call (vs := [.int .i64 760, .int .i64 5]) hs43 (.func _) ⟨(.const _), (.const _), trivial⟩ rfl rfl call22 rfl (box_b 760 5 _) fun v30 bs31 a_44 w_44 hp44 hs44 => ?_); clear hs43
 obtain ⟨b28, b29, rfl, rfl⟩ := hp44
 have hs45 := Sx.as (T' := [_, _, _]) (B' := [_, _, _, _, _, _, _, _, _, _, _, _]) rfl rfl hs44; clear hs44
 refine sq rfl (st_callv (vs := [.agg ⟨(bxL (exB 760 5) (some ⟨b28, 0, none⟩) 2 2 (some ⟨b29, 0, none⟩) 2 2)⟩]) hs45 (.func _) ⟨(Ev.t 0 rfl), trivial⟩ rfl rfl call25 rfl (exTakings b28 b29 _ (hs45.cells 1 rfl) (hs45.cells 0 rfl) (hG.kp hs45.kp (by simp))) fun _ _ hs46 => ?_); clear hs45
 refine sq rfl (st_move hs46 (Ev.t 0 rfl) rfl rfl fun _ _ hs47 => ?_); clear hs46
 refine sq rfl (st_extract hs47 (Ev.t 0 rfl) rfl rfl rfl fun _ _ hs48 => ?_); clear hs47
 refine sq rfl (st_extract hs48 (Ev.t 1 rfl) rfl rfl rfl fun _ _ hs49 => ?_); clear hs48
 refine sq rfl (st_alloc hs49 rfl rfl zeroValue35 rfl fun b32 _ _ hs50 => ?_); clear hs49
 refine sq rfl (st_store (l' := [.int .i64 755, .int .i64 765]) (vs := [.int .i64 755, .int .i64 765]) (i := 0) hs50 (Ev.t 0 rfl) (Ev.t 2 rfl) sizeOf35 rfl rfl rfl rfl rfl rfl fun _ _ hs51 => ?_); clear hs50
 have hs52 := hs51.asB [_, _, _, _, _, _, _, _, _, _, _, _, _] rfl; clear hs51
 refine sq rfl (st_assign hs52 (Ev.t 1 rfl) rfl rfl fun _ _ hs53 => ?_); clear hs52
 refine hK27 _ _ ?_; clear hK27
 have hs54 := hs53.keep [0, 1, 8] [_, _, _] rfl; clear hs53
 refine cd_region fun K33 hK33 => ?_
 refine sq rfl (st_call (vs := [.int .i64 760, .int .i64 5]) hs54 (.func _) ⟨(.const _), (.const _), trivial⟩ rfl rfl call22 rfl (box_b 760 5 _) fun v36 bs37 a_55 w_55 hp55 hs55 => ?_); clear hs54
 obtain ⟨b34, b35, rfl, rfl⟩ := hp55
 have hs56 := Sx.as (T' := [_, _, _, _]) (B' := [_, _, _, _, _, _, _, _, _, _, _, _, _, _, _]) rfl rfl hs55; clear hs55
 refine sq rfl (st_callv (vs := [.agg ⟨(bxL (exB 760 5) (some ⟨b34, 0, none⟩) 2 2 (some ⟨b35, 0, none⟩) 2 2)⟩]) hs56 (.func _) ⟨(Ev.t 0 rfl), trivial⟩ rfl rfl call26 rfl (exHire b34 b35 _ (hs56.cells 1 rfl) (hs56.cells 0 rfl) (hG.kp hs56.kp (by simp))) fun _ _ hs57 => ?_); clear hs56
 refine sq rfl (st_move hs57 (Ev.t 0 rfl) rfl rfl fun _ _ hs58 => ?_); clear hs57
 refine sq rfl (st_extract hs58 (Ev.t 0 rfl) rfl rfl rfl fun _ _ hs59 => ?_); clear hs58
 refine sq rfl (st_extract hs59 (Ev.t 1 rfl) rfl rfl rfl fun _ _ hs60 => ?_); clear hs59
 refine sq rfl (st_alloc hs60 rfl rfl zeroValue35 rfl fun b38 _ _ hs61 => ?_); clear hs60
 refine sq rfl (st_store (l' := [.int .i64 340, .int .i64 344]) (vs := [.int .i64 340, .int .i64 344]) (i := 0) hs61 (Ev.t 0 rfl) (Ev.t 2 rfl) sizeOf35 rfl rfl rfl rfl rfl rfl fun _ _ hs62 => ?_); clear hs61
 have hs63 := hs62.asB [_, _, _, _, _, _, _, _, _, _, _, _, _, _, _, _] rfl; clear hs62
 refine sq rfl (st_assign hs63 (Ev.t 1 rfl) rfl rfl fun _ _ hs64 => ?_); clear hs63
 refine hK33 _ _ ?_; clear hK33
 have hs65 := hs64.keep [0, 1, 7, 8, 9] [_, _, _, _, _] rfl; clear hs64
 refine cd_region fun K39 hK39 => ?_
 refine sq rfl (st_call (vs := [.int .i64 760, .int .i64 5]) hs65 (.func _) ⟨(.const _), (.const _), trivial⟩ rfl rfl call22 rfl (box_b 760 5 _) fun v42 bs43 a_66 w_66 hp66 hs66 => ?_); clear hs65
 obtain ⟨b40, b41, rfl, rfl⟩ := hp66
 have hs67 := Sx.as (T' := [_, _, _, _, _, _]) (B' := [_, _, _, _, _, _, _, _, _, _, _, _, _, _, _, _, _, _]) rfl rfl hs66; clear hs66
 refine sq rfl (st_callv (vs := [.agg ⟨(bxL (exB 760 5) (some ⟨b40, 0, none⟩) 2 2 (some ⟨b41, 0, none⟩) 2 2)⟩]) hs67 (.func _) ⟨(Ev.t 0 rfl), trivial⟩ rfl rfl call27 rfl (exLeft b40 b41 _ (hs67.cells 1 rfl) (hs67.cells 0 rfl) (hG.kp hs67.kp (by simp))) fun _ _ hs68 => ?_); clear hs67
 refine sq rfl (st_move hs68 (Ev.t 0 rfl) rfl rfl fun _ _ hs69 => ?_); clear hs68
 refine sq rfl (st_extract hs69 (Ev.t 0 rfl) rfl rfl rfl fun _ _ hs70 => ?_); clear hs69
 refine sq rfl (st_extract hs70 (Ev.t 1 rfl) rfl rfl rfl fun _ _ hs71 => ?_); clear hs70
 refine sq rfl (st_alloc hs71 rfl rfl zeroValue35 rfl fun b44 _ _ hs72 => ?_); clear hs71
 refine sq rfl (st_store (l' := [.int .i64 340, .int .i64 345]) (vs := [.int .i64 340, .int .i64 345]) (i := 0) hs72 (Ev.t 0 rfl) (Ev.t 2 rfl) sizeOf35 rfl rfl rfl rfl rfl rfl fun _ _ hs73 => ?_); clear hs72
 have hs74 := hs73.asB [_, _, _, _, _, _, _, _, _, _, _, _, _, _, _, _, _, _, _] rfl; clear hs73
 refine sq rfl (st_assign hs74 (Ev.t 1 rfl) rfl rfl fun _ _ hs75 => ?_); clear hs74
 refine hK39 _ _ ?_; clear hK39
 have hs76 := hs75.keep [0, 1, 7, 8, 9, 10, 11] [_, _, _, _, _, _, _] rfl; clear hs75
 refine cd_region fun K45 hK45 => ?_
 refine sq rfl (st_call (vs := [.int .i64 772, .int .i64 5]) hs76 (.func _) ⟨(.const _), (.const _), trivial⟩ rfl rfl call22 rfl (box_b 772 5 _) fun v48 bs49 a_77 w_77 hp77 hs77 => ?_); clear hs76
 obtain ⟨b46, b47, rfl, rfl⟩ := hp77
 have hs78 := Sx.as (T' := [_, _, _, _, _, _, _, _]) (B' := [_, _, _, _, _, _, _, _, _, _, _, _, _, _, _, _, _, _, _, _, _]) rfl rfl hs77; clear hs77
 refine sq rfl (st_callv (vs := [.agg ⟨(bxL (exB 772 5) (some ⟨b46, 0, none⟩) 2 2 (some ⟨b47, 0, none⟩) 2 2)⟩]) hs78 (.func _) ⟨(Ev.t 0 rfl), trivial⟩ rfl rfl call28 rfl (exWrong b46 b47 _ (hs78.cells 1 rfl) (hs78.cells 0 rfl)) fun _ _ hs79 => ?_); clear hs78
 refine sq rfl (st_move hs79 (Ev.t 0 rfl) rfl rfl fun _ _ hs80 => ?_); clear hs79
 refine sq rfl (st_extract hs80 (Ev.t 0 rfl) rfl rfl rfl fun _ _ hs81 => ?_); clear hs80
 refine sq rfl (st_extract hs81 (Ev.t 1 rfl) rfl rfl rfl fun _ _ hs82 => ?_); clear hs81
 refine sq rfl (st_assign hs82 (Ev.t 1 rfl) rfl rfl fun _ _ hs83 => ?_); clear hs82
 refine sq rfl (st_assign hs83 (Ev.t 1 rfl) rfl rfl fun _ _ hs84 => ?_); clear hs83
 refine hK45 _ _ ?_; clear hK45
 have hs85 := hs84.keep [0, 1, 7, 8, 9, 10, 11, 12, 13] [_, _, _, _, _, _, _, _, _] rfl; clear hs84
 refine cd_region fun K50 hK50 => ?_
 refine sq rfl (st_call (vs := [.int .i64 760, .int .i64 5]) hs85 (.func _) ⟨(.const _), (.const _), trivial⟩ rfl rfl call22 rfl (box_b 760 5 _) fun v53 bs54 a_86 w_86 hp86 hs86 => ?_); clear hs85
 obtain ⟨b51, b52, rfl, rfl⟩ := hp86
 have hs87 := Sx.as (T' := [_, _, _, _, _, _, _, _, _, _]) (B' := [_, _, _, _, _, _, _, _, _, _, _, _, _, _, _, _, _, _, _, _, _, _, _]) rfl rfl hs86; clear hs86
 refine sq rfl (st_callv (vs := [.agg ⟨(bxL (exB 760 5) (some ⟨b51, 0, none⟩) 2 2 (some ⟨b52, 0, none⟩) 2 2)⟩]) hs87 (.func _) ⟨(Ev.t 0 rfl), trivial⟩ rfl rfl call12 rfl (exAsk b51 b52 _ (hs87.cells 1 rfl) (hs87.cells 0 rfl)) fun _ _ hs88 => ?_); clear hs87
 refine sq rfl (st_move hs88 (Ev.t 0 rfl) rfl rfl fun _ _ hs89 => ?_); clear hs88
 refine sq rfl (st_extract hs89 (Ev.t 0 rfl) rfl rfl rfl fun _ _ hs90 => ?_); clear hs89
 refine sq rfl (st_extract hs90 (Ev.t 1 rfl) rfl rfl rfl fun _ _ hs91 => ?_); clear hs90
 refine sq rfl (st_assign hs91 (Ev.t 1 rfl) rfl rfl fun _ _ hs92 => ?_); clear hs91
 refine sq rfl (st_assign hs92 (Ev.t 1 rfl) rfl rfl fun _ _ hs93 => ?_); clear hs92
 refine hK50 _ _ ?_; clear hK50
 have hs94 := hs93.keep [0, 1, 7, 8, 9, 10, 11, 12, 13, 14, 15] [_, _, _, _, _, _, _, _, _, _, _] rfl; clear hs93
 refine cd_region fun K55 hK55 => ?_
 refine sq rfl (st_call (vs := [.int .i64 760, .int .i64 0]) hs94 (.func _) ⟨(.const _), (.const _), trivial⟩ rfl rfl call22 rfl (box_b 760 0 _) fun v58 bs59 a_95 w_95 hp95 hs95 => ?_); clear hs94
 obtain ⟨b56, b57, rfl, rfl⟩ := hp95
 have hs96 := Sx.as (T' := [_, _, _, _, _, _, _, _, _, _, _, _]) (B' := [_, _, _, _, _, _, _, _, _, _, _, _, _, _, _, _, _, _, _, _, _, _, _, _, _]) rfl rfl hs95; clear hs95
 refine sq rfl (st_callv (vs := [.agg ⟨(bxL (exB 760 0) (some ⟨b56, 0, none⟩) 2 2 (some ⟨b57, 0, none⟩) 2 2)⟩]) hs96 (.func _) ⟨(Ev.t 0 rfl), trivial⟩ rfl rfl call12 rfl (exAsk0 b56 b57 _ (hs96.cells 1 rfl) (hs96.cells 0 rfl)) fun _ _ hs97 => ?_); clear hs96
 refine sq rfl (st_move hs97 (Ev.t 0 rfl) rfl rfl fun _ _ hs98 => ?_); clear hs97
 refine sq rfl (st_extract hs98 (Ev.t 0 rfl) rfl rfl rfl fun _ _ hs99 => ?_); clear hs98
 refine sq rfl (st_extract hs99 (Ev.t 1 rfl) rfl rfl rfl fun _ _ hs100 => ?_); clear hs99
 refine sq rfl (st_assign hs100 (Ev.t 1 rfl) rfl rfl fun _ _ hs101 => ?_); clear hs100
 refine sq rfl (st_assign hs101 (Ev.t 1 rfl) rfl rfl fun _ _ hs102 => ?_); clear hs101
 refine hK55 _ _ ?_; clear hK55
 have hs103 := hs102.keep [0, 7, 8, 9, 10, 11, 12, 13, 14, 15, 16, 17] [_, _, _, _, _, _, _, _, _, _, _, _] rfl; clear hs102
 refine cd_drawn mixed hs103 [⟨99, [], Is (.int .i64 0)⟩, ⟨100, [0], Is (.bool true)⟩, ⟨101, [1], Is (.bool true)⟩, ⟨102, [2], Is (.int .i64 0)⟩, ⟨103, [2, 3], Is (.bool true)⟩, ⟨104, [2, 4], Is (.bool true)⟩, ⟨105, [5], Is (.bool true)⟩, ⟨106, [6], Is (.int .i64 0)⟩, ⟨107, [6, 7], Is (.bool true)⟩, ⟨108, [6, 8], Is (.bool true)⟩, ⟨109, [9], Is (.bool true)⟩, ⟨110, [10], Is (.int .i64 0)⟩, ⟨111, [10, 11], Is (.bool true)⟩, ⟨112, [10, 12], Is (.bool true)⟩, ⟨113, [13], Is (.bool true)⟩, ⟨114, [14], Is (.int .i64 0)⟩, ⟨115, [14, 15], Is (.bool true)⟩, ⟨116, [14, 16], Is (.bool true)⟩, ⟨117, [17], Is (.bool true)⟩, ⟨118, [18], Is (.int .i64 4)⟩, ⟨119, [18, 19], Is (.bool true)⟩, ⟨120, [18, 20], Is (.bool true)⟩, ⟨121, [21], Is (.bool true)⟩, ⟨122, [22], Is (.agg ⟨[.int .i64 755, .int .i64 765]⟩)⟩, ⟨123, [22], Is (.agg ⟨[.int .i64 755, .int .i64 765]⟩)⟩, ⟨124, [22, 23, 24], Is (.bool true)⟩, ⟨125, [22, 25], Is (.bool true)⟩, ⟨126, [26], Is (.bool true)⟩, ⟨127, [27], Is (.agg ⟨[.int .i64 340, .int .i64 344]⟩)⟩, ⟨128, [27], Is (.agg ⟨[.int .i64 340, .int .i64 344]⟩)⟩, ⟨129, [27, 28, 29], Is (.bool true)⟩, ⟨130, [27, 30], Is (.bool true)⟩, ⟨131, [31], Is (.bool true)⟩, ⟨132, [32], Is (.agg ⟨[.int .i64 340, .int .i64 345]⟩)⟩, ⟨133, [32], Is (.agg ⟨[.int .i64 340, .int .i64 345]⟩)⟩, ⟨134, [32, 33, 34], Is (.bool true)⟩, ⟨135, [32, 35], Is (.bool true)⟩, ⟨136, [36], Is (.bool true)⟩, ⟨137, [37], Is (.int .i64 2)⟩, ⟨138, [37, 38], Is (.bool true)⟩, ⟨139, [37, 39], Is (.bool true)⟩, ⟨140, [40], Is (.bool true)⟩, ⟨141, [41], Is (.int .i64 0)⟩, ⟨142, [41, 42], Is (.bool true)⟩, ⟨143, [41, 43], Is (.bool true)⟩] (by kernel_rfl) (by kernel_rfl) fun K60 hK60 => ⟨⟨?_, ?_, ?_, ?_, ?_, ?_, ?_, ?_, ?_, ?_, ?_, ?_, ?_, ?_, ?_, ?_, ?_, ?_, ?_, ?_, ?_, ?_, ?_, ?_, ?_, ?_, ?_, ?_, ?_, ?_, ?_, ?_, ?_, ?_, ?_, ?_, ?_, ?_, ?_, ?_, ?_, ?_, ?_, ?_, ?_, trivial⟩, ?_⟩
 · rintro T_ B_ a_ w_ K_ hT hB hf hsD hk
   exact ob rfl rfl (st_move hsD (evT hT 9 rfl) rfl hf fun _ _ => hk _ _ _ _ ⟨rfl, rfl⟩)
 · rintro T_ B_ a_ w_ K_ hT hB _ _ ⟨rfl, rfl⟩ h99 - hf hsD hk
   exact ob rfl rfl (st_cmp (c := true) hsD (Ev.tmp h99) (.const _) rfl hf rfl rfl fun _ _ => hk _ _ _ _ ⟨rfl, rfl⟩)
 · rintro T_ B_ a_ w_ K_ hT hB _ _ ⟨rfl, rfl⟩ h100 - hf hsD hk
   exact ob rfl rfl (st_move hsD (Ev.tmp h100) rfl hf fun _ _ => hk _ _ _ _ ⟨rfl, rfl⟩)
 · rintro T_ B_ a_ w_ K_ hT hB _ _ ⟨rfl, rfl⟩ h101 - hf hsD hk
   exact ob_gv hsD (gg := true) (v := .int .i64 0) rfl rfl rfl h101 rfl rfl rfl hf (fun _ K1 hK1 => st_move hsD (evT hT 7 rfl) rfl hf hK1) fun _ _ => hk _ _ _ _ ⟨rfl, rfl⟩
 · rintro T_ B_ a_ w_ K_ hT hB _ _ ⟨rfl, rfl⟩ h101 - _ _ ⟨rfl, rfl⟩ h102 - hf hsD hk
   exact ob_gv hsD (gg := true) (v := .bool true) rfl rfl rfl h101 rfl rfl rfl hf (fun _ K1 hK1 => st_cmp (c := true) hsD (Ev.tmp h102) (.const _) rfl hf rfl rfl hK1) fun _ _ => hk _ _ _ _ ⟨rfl, rfl⟩
 · rintro T_ B_ a_ w_ K_ hT hB _ _ ⟨rfl, rfl⟩ h101 - _ _ ⟨rfl, rfl⟩ h103 - hf hsD hk
   exact ob rfl rfl (st_pick hsD (Ev.tmp h101) rfl hf (fun h => (Ev.tmp h103)) (fun h => by cases h) fun _ _ => hk _ _ _ _ ⟨rfl, rfl⟩)
 · rintro T_ B_ a_ w_ K_ hT hB _ _ ⟨rfl, rfl⟩ h104 - hf hsD hk
   exact ob rfl rfl (st_move hsD (Ev.tmp h104) rfl hf fun _ _ => hk _ _ _ _ ⟨rfl, rfl⟩)
 · rintro T_ B_ a_ w_ K_ hT hB _ _ ⟨rfl, rfl⟩ h105 - hf hsD hk
   exact ob_gv hsD (gg := true) (v := .int .i64 0) rfl rfl rfl h105 rfl rfl rfl hf (fun _ K1 hK1 => st_move hsD (evT hT 5 rfl) rfl hf hK1) fun _ _ => hk _ _ _ _ ⟨rfl, rfl⟩
 · rintro T_ B_ a_ w_ K_ hT hB _ _ ⟨rfl, rfl⟩ h105 - _ _ ⟨rfl, rfl⟩ h106 - hf hsD hk
   exact ob_gv hsD (gg := true) (v := .bool true) rfl rfl rfl h105 rfl rfl rfl hf (fun _ K1 hK1 => st_cmp (c := true) hsD (Ev.tmp h106) (.const _) rfl hf rfl rfl hK1) fun _ _ => hk _ _ _ _ ⟨rfl, rfl⟩
 · rintro T_ B_ a_ w_ K_ hT hB _ _ ⟨rfl, rfl⟩ h105 - _ _ ⟨rfl, rfl⟩ h107 - hf hsD hk
   exact ob rfl rfl (st_pick hsD (Ev.tmp h105) rfl hf (fun h => (Ev.tmp h107)) (fun h => by cases h) fun _ _ => hk _ _ _ _ ⟨rfl, rfl⟩)
 · rintro T_ B_ a_ w_ K_ hT hB _ _ ⟨rfl, rfl⟩ h108 - hf hsD hk
   exact ob rfl rfl (st_move hsD (Ev.tmp h108) rfl hf fun _ _ => hk _ _ _ _ ⟨rfl, rfl⟩)
 · rintro T_ B_ a_ w_ K_ hT hB _ _ ⟨rfl, rfl⟩ h109 - hf hsD hk
   exact ob_gv hsD (gg := true) (v := .int .i64 0) rfl rfl rfl h109 rfl rfl rfl hf (fun _ K1 hK1 => st_move hsD (evT hT 3 rfl) rfl hf hK1) fun _ _ => hk _ _ _ _ ⟨rfl, rfl⟩
 · rintro T_ B_ a_ w_ K_ hT hB _ _ ⟨rfl, rfl⟩ h109 - _ _ ⟨rfl, rfl⟩ h110 - hf hsD hk
   exact ob_gv hsD (gg := true) (v := .bool true) rfl rfl rfl h109 rfl rfl rfl hf (fun _ K1 hK1 => st_cmp (c := true) hsD (Ev.tmp h110) (.const _) rfl hf rfl rfl hK1) fun _ _ => hk _ _ _ _ ⟨rfl, rfl⟩
 · rintro T_ B_ a_ w_ K_ hT hB _ _ ⟨rfl, rfl⟩ h109 - _ _ ⟨rfl, rfl⟩ h111 - hf hsD hk
   exact ob rfl rfl (st_pick hsD (Ev.tmp h109) rfl hf (fun h => (Ev.tmp h111)) (fun h => by cases h) fun _ _ => hk _ _ _ _ ⟨rfl, rfl⟩)
 · rintro T_ B_ a_ w_ K_ hT hB _ _ ⟨rfl, rfl⟩ h112 - hf hsD hk
   exact ob rfl rfl (st_move hsD (Ev.tmp h112) rfl hf fun _ _ => hk _ _ _ _ ⟨rfl, rfl⟩)
 · rintro T_ B_ a_ w_ K_ hT hB _ _ ⟨rfl, rfl⟩ h113 - hf hsD hk
   exact ob_gv hsD (gg := true) (v := .int .i64 0) rfl rfl rfl h113 rfl rfl rfl hf (fun _ K1 hK1 => st_move hsD (evT hT 1 rfl) rfl hf hK1) fun _ _ => hk _ _ _ _ ⟨rfl, rfl⟩
 · rintro T_ B_ a_ w_ K_ hT hB _ _ ⟨rfl, rfl⟩ h113 - _ _ ⟨rfl, rfl⟩ h114 - hf hsD hk
   exact ob_gv hsD (gg := true) (v := .bool true) rfl rfl rfl h113 rfl rfl rfl hf (fun _ K1 hK1 => st_cmp (c := true) hsD (Ev.tmp h114) (.const _) rfl hf rfl rfl hK1) fun _ _ => hk _ _ _ _ ⟨rfl, rfl⟩
 · rintro T_ B_ a_ w_ K_ hT hB _ _ ⟨rfl, rfl⟩ h113 - _ _ ⟨rfl, rfl⟩ h115 - hf hsD hk
   exact ob rfl rfl (st_pick hsD (Ev.tmp h113) rfl hf (fun h => (Ev.tmp h115)) (fun h => by cases h) fun _ _ => hk _ _ _ _ ⟨rfl, rfl⟩)
 · rintro T_ B_ a_ w_ K_ hT hB _ _ ⟨rfl, rfl⟩ h116 - hf hsD hk
   exact ob rfl rfl (st_move hsD (Ev.tmp h116) rfl hf fun _ _ => hk _ _ _ _ ⟨rfl, rfl⟩)
 · rintro T_ B_ a_ w_ K_ hT hB _ _ ⟨rfl, rfl⟩ h117 - hf hsD hk
   exact ob_gv hsD (gg := true) (v := .int .i64 4) rfl rfl rfl h117 rfl rfl rfl hf (fun _ K1 hK1 => st_move hsD (evT hT 0 rfl) rfl hf hK1) fun _ _ => hk _ _ _ _ ⟨rfl, rfl⟩
 · rintro T_ B_ a_ w_ K_ hT hB _ _ ⟨rfl, rfl⟩ h117 - _ _ ⟨rfl, rfl⟩ h118 - hf hsD hk
   exact ob_gv hsD (gg := true) (v := .bool true) rfl rfl rfl h117 rfl rfl rfl hf (fun _ K1 hK1 => st_cmp (c := true) hsD (Ev.tmp h118) (.const _) rfl hf rfl rfl hK1) fun _ _ => hk _ _ _ _ ⟨rfl, rfl⟩
 · rintro T_ B_ a_ w_ K_ hT hB _ _ ⟨rfl, rfl⟩ h117 - _ _ ⟨rfl, rfl⟩ h119 - hf hsD hk
   exact ob rfl rfl (st_pick hsD (Ev.tmp h117) rfl hf (fun h => (Ev.tmp h119)) (fun h => by cases h) fun _ _ => hk _ _ _ _ ⟨rfl, rfl⟩)
 · rintro T_ B_ a_ w_ K_ hT hB _ _ ⟨rfl, rfl⟩ h120 - hf hsD hk
   exact ob rfl rfl (st_move hsD (Ev.tmp h120) rfl hf fun _ _ => hk _ _ _ _ ⟨rfl, rfl⟩)
 · rintro T_ B_ a_ w_ K_ hT hB _ _ ⟨rfl, rfl⟩ h121 - hf hsD hk
   exact ob_gv hsD (gg := true) (v := .agg ⟨[.int .i64 755, .int .i64 765]⟩) rfl rfl rfl h121 rfl rfl rfl hf (fun _ K1 hK1 => st_loadA (o := 0) (off := 0) (vs := [.int .i64 755, .int .i64 765]) hsD (evT hT 10 rfl) rfl hf isAgg35 sizeOf35 (hsD.cellsM (inB hB 12 rfl)) rfl hK1) fun _ _ => hk _ _ _ _ ⟨rfl, rfl⟩
 · rintro T_ B_ a_ w_ K_ hT hB _ _ ⟨rfl, rfl⟩ h121 - hf hsD hk
   exact ob_gv hsD (gg := true) (v := .agg ⟨[.int .i64 755, .int .i64 765]⟩) rfl rfl rfl h121 rfl rfl rfl hf (fun _ K1 hK1 => st_callv (vs := [.int .i64 755, .int .i64 765]) hsD (.func _) ⟨(.const _), (.const _), trivial⟩ rfl hf call23 rfl (S_v 755 765 _) hK1) fun _ _ => hk _ _ _ _ ⟨rfl, rfl⟩
 · rintro T_ B_ a_ w_ K_ hT hB _ _ ⟨rfl, rfl⟩ h121 - _ _ ⟨rfl, rfl⟩ h122 - _ _ ⟨rfl, rfl⟩ h123 - hf hsD hk
   exact ob_gv hsD (gg := true) (v := .bool true) rfl rfl rfl h121 rfl rfl rfl hf (fun _ K1 hK1 => st_bin (z := .bool true) hsD (Ev.tmp h122) (Ev.tmp h123) (run_eql_35 _ _ 755 765 755 765) rfl hf hK1) fun _ _ => hk _ _ _ _ ⟨rfl, rfl⟩
 · rintro T_ B_ a_ w_ K_ hT hB _ _ ⟨rfl, rfl⟩ h121 - _ _ ⟨rfl, rfl⟩ h124 - hf hsD hk
   exact ob rfl rfl (st_pick hsD (Ev.tmp h121) rfl hf (fun h => (Ev.tmp h124)) (fun h => by cases h) fun _ _ => hk _ _ _ _ ⟨rfl, rfl⟩)
 · rintro T_ B_ a_ w_ K_ hT hB _ _ ⟨rfl, rfl⟩ h125 - hf hsD hk
   exact ob rfl rfl (st_move hsD (Ev.tmp h125) rfl hf fun _ _ => hk _ _ _ _ ⟨rfl, rfl⟩)
 · rintro T_ B_ a_ w_ K_ hT hB _ _ ⟨rfl, rfl⟩ h126 - hf hsD hk
   exact ob_gv hsD (gg := true) (v := .agg ⟨[.int .i64 340, .int .i64 344]⟩) rfl rfl rfl h126 rfl rfl rfl hf (fun _ K1 hK1 => st_loadA (o := 0) (off := 0) (vs := [.int .i64 340, .int .i64 344]) hsD (evT hT 8 rfl) rfl hf isAgg35 sizeOf35 (hsD.cellsM (inB hB 9 rfl)) rfl hK1) fun _ _ => hk _ _ _ _ ⟨rfl, rfl⟩
 · rintro T_ B_ a_ w_ K_ hT hB _ _ ⟨rfl, rfl⟩ h126 - hf hsD hk
   exact ob_gv hsD (gg := true) (v := .agg ⟨[.int .i64 340, .int .i64 344]⟩) rfl rfl rfl h126 rfl rfl rfl hf (fun _ K1 hK1 => st_callv (vs := [.int .i64 340, .int .i64 344]) hsD (.func _) ⟨(.const _), (.const _), trivial⟩ rfl hf call23 rfl (S_v 340 344 _) hK1) fun _ _ => hk _ _ _ _ ⟨rfl, rfl⟩
 · rintro T_ B_ a_ w_ K_ hT hB _ _ ⟨rfl, rfl⟩ h126 - _ _ ⟨rfl, rfl⟩ h127 - _ _ ⟨rfl, rfl⟩ h128 - hf hsD hk
   exact ob_gv hsD (gg := true) (v := .bool true) rfl rfl rfl h126 rfl rfl rfl hf (fun _ K1 hK1 => st_bin (z := .bool true) hsD (Ev.tmp h127) (Ev.tmp h128) (run_eql_35 _ _ 340 344 340 344) rfl hf hK1) fun _ _ => hk _ _ _ _ ⟨rfl, rfl⟩
 · rintro T_ B_ a_ w_ K_ hT hB _ _ ⟨rfl, rfl⟩ h126 - _ _ ⟨rfl, rfl⟩ h129 - hf hsD hk
   exact ob rfl rfl (st_pick hsD (Ev.tmp h126) rfl hf (fun h => (Ev.tmp h129)) (fun h => by cases h) fun _ _ => hk _ _ _ _ ⟨rfl, rfl⟩)
 · rintro T_ B_ a_ w_ K_ hT hB _ _ ⟨rfl, rfl⟩ h130 - hf hsD hk
   exact ob rfl rfl (st_move hsD (Ev.tmp h130) rfl hf fun _ _ => hk _ _ _ _ ⟨rfl, rfl⟩)
 · rintro T_ B_ a_ w_ K_ hT hB _ _ ⟨rfl, rfl⟩ h131 - hf hsD hk
   exact ob_gv hsD (gg := true) (v := .agg ⟨[.int .i64 340, .int .i64 345]⟩) rfl rfl rfl h131 rfl rfl rfl hf (fun _ K1 hK1 => st_loadA (o := 0) (off := 0) (vs := [.int .i64 340, .int .i64 345]) hsD (evT hT 6 rfl) rfl hf isAgg35 sizeOf35 (hsD.cellsM (inB hB 6 rfl)) rfl hK1) fun _ _ => hk _ _ _ _ ⟨rfl, rfl⟩
 · rintro T_ B_ a_ w_ K_ hT hB _ _ ⟨rfl, rfl⟩ h131 - hf hsD hk
   exact ob_gv hsD (gg := true) (v := .agg ⟨[.int .i64 340, .int .i64 345]⟩) rfl rfl rfl h131 rfl rfl rfl hf (fun _ K1 hK1 => st_callv (vs := [.int .i64 340, .int .i64 345]) hsD (.func _) ⟨(.const _), (.const _), trivial⟩ rfl hf call23 rfl (S_v 340 345 _) hK1) fun _ _ => hk _ _ _ _ ⟨rfl, rfl⟩
 · rintro T_ B_ a_ w_ K_ hT hB _ _ ⟨rfl, rfl⟩ h131 - _ _ ⟨rfl, rfl⟩ h132 - _ _ ⟨rfl, rfl⟩ h133 - hf hsD hk
   exact ob_gv hsD (gg := true) (v := .bool true) rfl rfl rfl h131 rfl rfl rfl hf (fun _ K1 hK1 => st_bin (z := .bool true) hsD (Ev.tmp h132) (Ev.tmp h133) (run_eql_35 _ _ 340 345 340 345) rfl hf hK1) fun _ _ => hk _ _ _ _ ⟨rfl, rfl⟩
 · rintro T_ B_ a_ w_ K_ hT hB _ _ ⟨rfl, rfl⟩ h131 - _ _ ⟨rfl, rfl⟩ h134 - hf hsD hk
   exact ob rfl rfl (st_pick hsD (Ev.tmp h131) rfl hf (fun h => (Ev.tmp h134)) (fun h => by cases h) fun _ _ => hk _ _ _ _ ⟨rfl, rfl⟩)
 · rintro T_ B_ a_ w_ K_ hT hB _ _ ⟨rfl, rfl⟩ h135 - hf hsD hk
   exact ob rfl rfl (st_move hsD (Ev.tmp h135) rfl hf fun _ _ => hk _ _ _ _ ⟨rfl, rfl⟩)
 · rintro T_ B_ a_ w_ K_ hT hB _ _ ⟨rfl, rfl⟩ h136 - hf hsD hk
   exact ob_gv hsD (gg := true) (v := .int .i64 2) rfl rfl rfl h136 rfl rfl rfl hf (fun _ K1 hK1 => st_move hsD (evT hT 4 rfl) rfl hf hK1) fun _ _ => hk _ _ _ _ ⟨rfl, rfl⟩
 · rintro T_ B_ a_ w_ K_ hT hB _ _ ⟨rfl, rfl⟩ h136 - _ _ ⟨rfl, rfl⟩ h137 - hf hsD hk
   exact ob_gv hsD (gg := true) (v := .bool true) rfl rfl rfl h136 rfl rfl rfl hf (fun _ K1 hK1 => st_cmp (c := true) hsD (Ev.tmp h137) (.const _) rfl hf rfl rfl hK1) fun _ _ => hk _ _ _ _ ⟨rfl, rfl⟩
 · rintro T_ B_ a_ w_ K_ hT hB _ _ ⟨rfl, rfl⟩ h136 - _ _ ⟨rfl, rfl⟩ h138 - hf hsD hk
   exact ob rfl rfl (st_pick hsD (Ev.tmp h136) rfl hf (fun h => (Ev.tmp h138)) (fun h => by cases h) fun _ _ => hk _ _ _ _ ⟨rfl, rfl⟩)
 · rintro T_ B_ a_ w_ K_ hT hB _ _ ⟨rfl, rfl⟩ h139 - hf hsD hk
   exact ob rfl rfl (st_move hsD (Ev.tmp h139) rfl hf fun _ _ => hk _ _ _ _ ⟨rfl, rfl⟩)
 · rintro T_ B_ a_ w_ K_ hT hB _ _ ⟨rfl, rfl⟩ h140 - hf hsD hk
   exact ob_gv hsD (gg := true) (v := .int .i64 0) rfl rfl rfl h140 rfl rfl rfl hf (fun _ K1 hK1 => st_move hsD (evT hT 2 rfl) rfl hf hK1) fun _ _ => hk _ _ _ _ ⟨rfl, rfl⟩
 · rintro T_ B_ a_ w_ K_ hT hB _ _ ⟨rfl, rfl⟩ h140 - _ _ ⟨rfl, rfl⟩ h141 - hf hsD hk
   exact ob_gv hsD (gg := true) (v := .bool true) rfl rfl rfl h140 rfl rfl rfl hf (fun _ K1 hK1 => st_cmp (c := true) hsD (Ev.tmp h141) (.const _) rfl hf rfl rfl hK1) fun _ _ => hk _ _ _ _ ⟨rfl, rfl⟩
 · rintro T_ B_ a_ w_ K_ hT hB _ _ ⟨rfl, rfl⟩ h140 - _ _ ⟨rfl, rfl⟩ h142 - hf hsD hk
   exact ob rfl rfl (st_pick hsD (Ev.tmp h140) rfl hf (fun h => (Ev.tmp h142)) (fun h => by cases h) fun _ _ => hk _ _ _ _ ⟨rfl, rfl⟩)
 rintro _ _ ⟨rfl, rfl⟩ _ _ ⟨rfl, rfl⟩ _ _ ⟨rfl, rfl⟩ _ _ ⟨rfl, rfl⟩ _ _ ⟨rfl, rfl⟩ _ _ ⟨rfl, rfl⟩ _ _ ⟨rfl, rfl⟩ _ _ ⟨rfl, rfl⟩ _ _ ⟨rfl, rfl⟩ _ _ ⟨rfl, rfl⟩ _ _ ⟨rfl, rfl⟩ _ _ ⟨rfl, rfl⟩ _ _ ⟨rfl, rfl⟩ _ _ ⟨rfl, rfl⟩ _ _ ⟨rfl, rfl⟩ _ _ ⟨rfl, rfl⟩ _ _ ⟨rfl, rfl⟩ _ _ ⟨rfl, rfl⟩ _ _ ⟨rfl, rfl⟩ _ _ ⟨rfl, rfl⟩ _ _ ⟨rfl, rfl⟩ _ _ ⟨rfl, rfl⟩ _ _ ⟨rfl, rfl⟩ _ _ ⟨rfl, rfl⟩ _ _ ⟨rfl, rfl⟩ _ _ ⟨rfl, rfl⟩ _ _ ⟨rfl, rfl⟩ _ _ ⟨rfl, rfl⟩ _ _ ⟨rfl, rfl⟩ _ _ ⟨rfl, rfl⟩ _ _ ⟨rfl, rfl⟩ _ _ ⟨rfl, rfl⟩ _ _ ⟨rfl, rfl⟩ _ _ ⟨rfl, rfl⟩ _ _ ⟨rfl, rfl⟩ _ _ ⟨rfl, rfl⟩ _ _ ⟨rfl, rfl⟩ _ _ ⟨rfl, rfl⟩ _ _ ⟨rfl, rfl⟩ _ _ ⟨rfl, rfl⟩ _ _ ⟨rfl, rfl⟩ _ _ ⟨rfl, rfl⟩ _ _ ⟨rfl, rfl⟩ _ _ ⟨rfl, rfl⟩ _ _ ⟨rfl, rfl⟩ a_104 w_104 hs104; clear hs103
 have hs105 := Sx.as (T' := [_, _, _, _, _, _, _, _, _, _, _, _, _, _, _, _, _, _, _, _, _, _, _, _, _, _, _, _, _, _, _, _, _, _, _, _, _, _, _, _, _, _, _, _, _, _, _, _, _, _, _, _, _, _, _, _, _]) (B' := [_, _, _, _, _, _, _, _, _, _, _, _, _, _, _, _, _, _, _, _, _, _, _, _, _]) rfl rfl hs104; clear hs104
 have hs106 := hs105.keep [0, 1, 2, 3, 4, 5, 6, 7, 8, 9, 10, 11, 12, 13, 14, 15, 16, 17, 18, 19, 20, 21, 22, 23, 24, 25, 26, 27, 28, 29, 30, 31, 32, 33, 34, 35, 36, 37, 38, 39, 40, 41, 42, 43, 44, 45, 46, 47, 48, 49, 50, 51, 52, 53, 54, 55] [_, _, _, _, _, _, _, _, _, _, _, _, _, _, _, _, _, _, _, _, _, _, _, _, _, _, _, _, _, _, _, _, _, _, _, _, _, _, _, _, _, _, _, _, _, _, _, _, _, _, _, _, _, _, _, _] rfl; clear hs105
 refine sq rfl (st_assign hs106 (Ev.t 44 rfl) rfl rfl fun _ _ hs107 => ?_); clear hs106
 refine hK60 _ _ ?_; clear hK60
 have hs108 := hs107.keep [0] [_] rfl; clear hs107
 refine cd_retv (vs := [.bool true]) hs108 hQ0 rfl ⟨.tmp 0 rfl, trivial⟩ ?_
 clear hs108 hQ0 hN0
 rfl

theorem rem_bd {x : Int} (h : 0 ≤ x) : 0 ≤ x.tmod 100 ∧ x.tmod 100 ≤ 99 ∧ (x - x.tmod 100) / 100 = x / 100 := by
  rw [Int.tmod_eq_emod_of_nonneg h]; omega

theorem part_v (b : Bx) (A : Option Addr) (n cp : Nat) (A2 : Option Addr) (n2 c2 : Nat) (t : Int) (w : World) (ht : 0 ≤ t ∧ t ≤ 60000) (hd : 0 ≤ b.duty ∧ b.duty ≤ 100) (hsh : 0 ≤ b.share ∧ b.share ≤ 100) (hg : 0 ≤ b.guar ∧ b.guar ≤ 60000) :
    CallsV Tryd.prog 42 [.agg ⟨(bxL b A n cp A2 n2 c2)⟩, .int .i64 t] w (.tuple ⟨[.int .i64 (dutyI b t), .int .i64 (hireI b t), .int .i64 (leftI b t)]⟩) := by
 have hm : 0 ≤ t * b.duty ∧ t * b.duty ≤ 6000000 := ⟨Int.mul_nonneg ht.1 hd.1, Int.le_trans (Int.mul_le_mul ht.2 hd.2 hd.1 (by omega)) (by omega)⟩
 have hr1 := rem_bd hm.1
 have h1 := duty_bd ht hd
 have h2 := share_bd (b := b) (t := t - dutyI b t) (by omega) hsh
 have hr2 := rem_bd h2.1
 have h3 := hire_bd ht hd hsh hg
 refine enter (N := 46) (M := []) w func42 rfl rfl rfl (fun Q0 a_0 hQ0 hN0 hs0 => ?_)
 refine cd_region fun K1 hK1 => ?_
 refine sq rfl (st_box hs0 (Ev.t 0 rfl) rfl rfl rfl fun b2 _ _ hs1 => ?_); clear hs0
 refine sq rfl (st_assign hs1 (.const _) rfl rfl fun _ _ hs2 => ?_); clear hs1
 refine sq rfl (st_assign hs2 (.const _) rfl rfl fun _ _ hs3 => ?_); clear hs2
 refine sq rfl (st_assign hs3 (.const _) rfl rfl fun _ _ hs4 => ?_); clear hs3
 refine hK1 _ _ ?_; clear hK1
 have hs5 := hs4.keep [0, 1, 2, 3, 5] [_, _, _, _, _] rfl; clear hs4
 refine cd_region fun K3 hK3 => ?_
 refine sq rfl (st_move hs5 (Ev.t 4 rfl) rfl rfl fun _ _ hs6 => ?_); clear hs5
 refine sq rfl (st_field (o' := 4) hs6 (Ev.t 4 rfl) rfl rfl runUnderlying25 rfl sizeOf3 rfl rfl fun _ _ hs7 => ?_); clear hs6
 refine sq rfl (st_load1 (o := 0) (off := 4) (v := .int .i64 b.duty) hs7 (Ev.t 0 rfl) rfl rfl isAgg3 (hs7.cells 0 rfl) rfl fun _ _ hs8 => ?_); clear hs7
 refine sq rfl (st_mul (z := t * b.duty) hs8 (Ev.t 2 rfl) (Ev.t 0 rfl) rfl rfl rfl (by omega) fun _ _ hs9 => ?_); clear hs8
 refine sq rfl (st_move hs9 (Ev.t 8 rfl) rfl rfl fun _ _ hs10 => ?_); clear hs9
 refine sq rfl (st_field (o' := 4) hs10 (Ev.t 8 rfl) rfl rfl runUnderlying25 rfl sizeOf3 rfl rfl fun _ _ hs11 => ?_); clear hs10
 refine sq rfl (st_load1 (o := 0) (off := 4) (v := .int .i64 b.duty) hs11 (Ev.t 0 rfl) rfl rfl isAgg3 (hs11.cells 0 rfl) rfl fun _ _ hs12 => ?_); clear hs11
 refine sq rfl (st_mul (z := t * b.duty) hs12 (Ev.t 2 rfl) (Ev.t 0 rfl) rfl rfl rfl (by omega) fun _ _ hs13 => ?_); clear hs12
 refine sq rfl (st_rem hs13 (Ev.t 0 rfl) (.const _) rfl rfl (by omega) fun _ _ hs14 => ?_); clear hs13
 refine sq rfl (st_sub (z := (t * b.duty) - ((t * b.duty : Int).tmod 100)) hs14 (Ev.t 5 rfl) (Ev.t 0 rfl) rfl rfl rfl (by omega) fun _ _ hs15 => ?_); clear hs14
 refine sq rfl (st_quo hs15 (Ev.t 0 rfl) (.const _) rfl rfl (by omega) fun _ _ hs16 => ?_); clear hs15
 refine sq rfl (st_assign hs16 (Ev.t 0 rfl) rfl rfl fun _ _ hs17 => ?_); clear hs16
 have hs18 := Sx.keepE [0, 1, 2, 3, 4, 5, 6, 7, 8, 9, 10, 11, 12, 13, 14, 15, 16] [(7, .int .i64 (dutyI b t)), (20, _), (19, _), (18, _), (17, _), (16, _), (15, _), (14, _), (13, _), (12, _), (11, _), (10, _), (6, _), (5, _), (4, _), (2, _), (1, _)] ⟨⟨_, rfl, (by rw [hr1.2.2]; rfl)⟩, ⟨_, rfl, rfl⟩, ⟨_, rfl, rfl⟩, ⟨_, rfl, rfl⟩, ⟨_, rfl, rfl⟩, ⟨_, rfl, rfl⟩, ⟨_, rfl, rfl⟩, ⟨_, rfl, rfl⟩, ⟨_, rfl, rfl⟩, ⟨_, rfl, rfl⟩, ⟨_, rfl, rfl⟩, ⟨_, rfl, rfl⟩, ⟨_, rfl, rfl⟩, ⟨_, rfl, rfl⟩, ⟨_, rfl, rfl⟩, ⟨_, rfl, rfl⟩, ⟨_, rfl, rfl⟩, trivial⟩ hs17; clear hs17
 refine hK3 _ _ ?_; clear hK3
 have hs19 := hs18.keep [0, 12, 13, 14, 15, 16] [_, _, _, _, _, _] rfl; clear hs18
 refine cd_region fun K4 hK4 => ?_
 refine sq rfl (st_move hs19 (Ev.t 5 rfl) rfl rfl fun _ _ hs20 => ?_); clear hs19
 refine sq rfl (st_move hs20 (Ev.t 1 rfl) rfl rfl fun _ _ hs21 => ?_); clear hs20
 refine sq rfl (st_sub (z := t - (dutyI b t)) hs21 (Ev.t 1 rfl) (Ev.t 0 rfl) rfl rfl rfl (by omega) fun _ _ hs22 => ?_); clear hs21
 refine sq rfl (st_assign hs22 (Ev.t 0 rfl) rfl rfl fun _ _ hs23 => ?_); clear hs22
 refine hK4 _ _ ?_; clear hK4
 have hs24 := hs23.keep [0, 4, 5, 6, 7, 8] [_, _, _, _, _, _] rfl; clear hs23
 refine cd_region fun K5 hK5 => ?_
 refine sq rfl (st_move hs24 (Ev.t 0 rfl) rfl rfl fun _ _ hs25 => ?_); clear hs24
 refine sq rfl (st_field (o' := 5) hs25 (Ev.t 6 rfl) rfl rfl runUnderlying25 rfl sizeOf3 rfl rfl fun _ _ hs26 => ?_); clear hs25
 refine sq rfl (st_load1 (o := 0) (off := 5) (v := .int .i64 b.share) hs26 (Ev.t 0 rfl) rfl rfl isAgg3 (hs26.cells 0 rfl) rfl fun _ _ hs27 => ?_); clear hs26
 refine sq rfl (st_mul (z := (t - (dutyI b t)) * b.share) hs27 (Ev.t 2 rfl) (Ev.t 0 rfl) rfl rfl rfl (by omega) fun _ _ hs28 => ?_); clear hs27
 refine sq rfl (st_move hs28 (Ev.t 4 rfl) rfl rfl fun _ _ hs29 => ?_); clear hs28
 refine sq rfl (st_field (o' := 5) hs29 (Ev.t 10 rfl) rfl rfl runUnderlying25 rfl sizeOf3 rfl rfl fun _ _ hs30 => ?_); clear hs29
 refine sq rfl (st_load1 (o := 0) (off := 5) (v := .int .i64 b.share) hs30 (Ev.t 0 rfl) rfl rfl isAgg3 (hs30.cells 0 rfl) rfl fun _ _ hs31 => ?_); clear hs30
 refine sq rfl (st_mul (z := (t - (dutyI b t)) * b.share) hs31 (Ev.t 2 rfl) (Ev.t 0 rfl) rfl rfl rfl (by omega) fun _ _ hs32 => ?_); clear hs31
 refine sq rfl (st_rem hs32 (Ev.t 0 rfl) (.const _) rfl rfl (by omega) fun _ _ hs33 => ?_); clear hs32
 refine sq rfl (st_sub (z := ((t - (dutyI b t)) * b.share) - (((t - (dutyI b t)) * b.share : Int).tmod 100)) hs33 (Ev.t 5 rfl) (Ev.t 0 rfl) rfl rfl rfl (by omega) fun _ _ hs34 => ?_); clear hs33
 refine sq rfl (st_quo hs34 (Ev.t 0 rfl) (.const _) rfl rfl (by omega) fun _ _ hs35 => ?_); clear hs34
 refine sq rfl (st_assign hs35 (Ev.t 0 rfl) rfl rfl fun _ _ hs36 => ?_); clear hs35
 have hs37 := Sx.keepE [0, 1, 2, 3, 4, 5, 6, 7, 8, 9, 10, 11, 12, 13, 14, 15, 16, 17] [(9, .int .i64 ((t - dutyI b t) * b.share / 100)), (34, _), (33, _), (32, _), (31, _), (30, _), (29, _), (28, _), (27, _), (26, _), (25, _), (24, _), (8, _), (7, _), (6, _), (5, _), (4, _), (2, _)] ⟨⟨_, rfl, (by rw [hr2.2.2])⟩, ⟨_, rfl, rfl⟩, ⟨_, rfl, rfl⟩, ⟨_, rfl, rfl⟩, ⟨_, rfl, rfl⟩, ⟨_, rfl, rfl⟩, ⟨_, rfl, rfl⟩, ⟨_, rfl, rfl⟩, ⟨_, rfl, rfl⟩, ⟨_, rfl, rfl⟩, ⟨_, rfl, rfl⟩, ⟨_, rfl, rfl⟩, ⟨_, rfl, rfl⟩, ⟨_, rfl, rfl⟩, ⟨_, rfl, rfl⟩, ⟨_, rfl, rfl⟩, ⟨_, rfl, rfl⟩, ⟨_, rfl, rfl⟩, trivial⟩ hs36; clear hs36
 refine hK5 _ _ ?_; clear hK5
 have hs38 := hs37.keep [0, 12, 13, 14, 15, 16, 17] [_, _, _, _, _, _, _] rfl; clear hs37
 refine cd_seq fun K6 hK6 => ?_
 refine cd_region fun K7 hK7 => ?_
 refine sq rfl (st_move hs38 (Ev.t 0 rfl) rfl rfl fun _ _ hs39 => ?_); clear hs38
 refine sq rfl (st_field (o' := 6) hs39 (Ev.t 7 rfl) rfl rfl runUnderlying25 rfl sizeOf3 rfl rfl fun _ _ hs40 => ?_); clear hs39
 refine sq rfl (st_load1 (o := 0) (off := 6) (v := .int .i64 b.guar) hs40 (Ev.t 0 rfl) rfl rfl isAgg3 (hs40.cells 0 rfl) rfl fun _ _ hs41 => ?_); clear hs40
 refine sq rfl (st_cmp (c := decide (((t - dutyI b t) * b.share / 100 : Int) < b.guar)) hs41 (Ev.t 2 rfl) (Ev.t 0 rfl) rfl rfl rfl rfl fun _ _ hs42 => ?_); clear hs41
 refine hK7 _ _ ?_; clear hK7
 have hs43 := hs42.keep [0, 4, 5, 6, 7, 8, 9, 10] [_, _, _, _, _, _, _, _] rfl; clear hs42
 refine cd_cond hs43 (Ev.t 0 rfl) (fun hc8 => ?_) (fun hc8 => ?_)
 · have hlt := of_decide_eq_true hc8
   have hhi : hireI b t = b.guar := by unfold hireI; omega
   refine cd_region1 ?_
   refine sq rfl (st_field (o' := 6) hs43 (Ev.t 7 rfl) rfl rfl runUnderlying25 rfl sizeOf3 rfl rfl fun _ _ hs44 => ?_); clear hs43
   refine sq rfl (st_load1 (o := 0) (off := 6) (v := .int .i64 b.guar) hs44 (Ev.t 0 rfl) rfl rfl isAgg3 (hs44.cells 0 rfl) rfl fun _ _ hs45 => ?_); clear hs44
   have hs46 := hs45.keep [0, 1, 2, 4, 5, 6, 7, 8, 9] [_, _, _, _, _, _, _, _, _] rfl; clear hs45
   refine sq rfl (st_assign hs46 (Ev.t 0 rfl) rfl rfl fun _ _ hs47 => ?_); clear hs46
   refine wpListIn_nil ?_
   have hs48 := hs47.keep [0, 4, 5, 6, 7, 8] [_, _, _, _, _, _] rfl; clear hs47
   refine th_norm (hK6 _ _ ?_)
   refine cd_region fun K9 hK9 => ?_
   refine sq rfl (st_move hs48 (Ev.t 2 rfl) rfl rfl fun _ _ hs49 => ?_); clear hs48
   refine sq rfl (st_move hs49 (Ev.t 1 rfl) rfl rfl fun _ _ hs50 => ?_); clear hs49
   refine sq rfl (st_move hs50 (Ev.t 3 rfl) rfl rfl fun _ _ hs51 => ?_); clear hs50
   refine sq rfl (st_move hs51 (Ev.t 3 rfl) rfl rfl fun _ _ hs52 => ?_); clear hs51
   refine sq rfl (st_sub (z := (t - (dutyI b t)) - b.guar) hs52 (Ev.t 1 rfl) (Ev.t 0 rfl) rfl rfl rfl (by omega) fun _ _ hs53 => ?_); clear hs52
   have hs54 := hs53.keep [0, 1, 2, 3, 4, 5, 6, 7, 8, 9] [_, _, _, _, _, _, _, _, _, _] rfl; clear hs53
   refine sq rfl (st_assign hs54 (Ev.t 4 rfl) rfl rfl fun _ _ hs55 => ?_); clear hs54
   have hs56 := hs55.keep [0, 1, 2, 3, 4, 5, 6, 7, 8, 9] [_, _, _, _, _, _, _, _, _, _] rfl; clear hs55
   refine sq rfl (st_assign hs56 (Ev.t 4 rfl) rfl rfl fun _ _ hs57 => ?_); clear hs56
   have hs58 := hs57.keep [0, 1, 2, 3, 4, 5, 6, 7, 8, 9] [_, _, _, _, _, _, _, _, _, _] rfl; clear hs57
   refine sq rfl (st_assign hs58 (Ev.t 2 rfl) rfl rfl fun _ _ hs59 => ?_); clear hs58
   refine hK9 _ _ ?_; clear hK9
   have hs60 := hs59.keep [0, 1, 2] [_, _, _] rfl; clear hs59
   refine cd_retv (vs := [.int .i64 (dutyI b t), .int .i64 b.guar, .int .i64 ((t - (dutyI b t)) - b.guar)]) hs60 hQ0 rfl ⟨.tmp 2 rfl, .tmp 1 rfl, .tmp 0 rfl, trivial⟩ ?_
   clear hs60 hQ0 hN0
   simp only [pack, hhi, leftI]
 · have hlt := of_decide_eq_false hc8
   have hhi : hireI b t = (t - dutyI b t) * b.share / 100 := by unfold hireI; omega
   refine cd_skip ?_
   refine th_norm (hK6 _ _ ?_)
   refine cd_region fun K10 hK10 => ?_
   refine sq rfl (st_move hs43 (Ev.t 3 rfl) rfl rfl fun _ _ hs44 => ?_); clear hs43
   refine sq rfl (st_move hs44 (Ev.t 2 rfl) rfl rfl fun _ _ hs45 => ?_); clear hs44
   refine sq rfl (st_move hs45 (Ev.t 4 rfl) rfl rfl fun _ _ hs46 => ?_); clear hs45
   refine sq rfl (st_move hs46 (Ev.t 4 rfl) rfl rfl fun _ _ hs47 => ?_); clear hs46
   refine sq rfl (st_sub (z := (t - (dutyI b t)) - ((t - dutyI b t) * b.share / 100)) hs47 (Ev.t 1 rfl) (Ev.t 0 rfl) rfl rfl rfl (by omega) fun _ _ hs48 => ?_); clear hs47
   have hs49 := hs48.keep [0, 1, 2, 3, 4, 5, 6, 7, 8, 9, 10, 12] [_, _, _, _, _, _, _, _, _, _, _, _] rfl; clear hs48
   refine sq rfl (st_assign hs49 (Ev.t 4 rfl) rfl rfl fun _ _ hs50 => ?_); clear hs49
   have hs51 := hs50.keep [0, 1, 2, 3, 4, 5, 6, 7, 8, 9, 10, 12] [_, _, _, _, _, _, _, _, _, _, _, _] rfl; clear hs50
   refine sq rfl (st_assign hs51 (Ev.t 4 rfl) rfl rfl fun _ _ hs52 => ?_); clear hs51
   have hs53 := hs52.keep [0, 1, 2, 3, 4, 5, 6, 7, 8, 9, 10, 12] [_, _, _, _, _, _, _, _, _, _, _, _] rfl; clear hs52
   refine sq rfl (st_assign hs53 (Ev.t 2 rfl) rfl rfl fun _ _ hs54 => ?_); clear hs53
   refine hK10 _ _ ?_; clear hK10
   have hs55 := hs54.keep [0, 1, 2] [_, _, _] rfl; clear hs54
   refine cd_retv (vs := [.int .i64 (dutyI b t), .int .i64 ((t - dutyI b t) * b.share / 100), .int .i64 ((t - (dutyI b t)) - ((t - dutyI b t) * b.share / 100))]) hs55 hQ0 rfl ⟨.tmp 2 rfl, .tmp 1 rfl, .tmp 0 rfl, trivial⟩ ?_
   clear hs55 hQ0 hN0
   simp only [pack, hhi, leftI]
end Go.Proofs.YtcnndpedeofbmaaDoor
