/- The law EnginePlans: its walk. -/
import Derived.Test.YtdbcedmofoakmaaDoorFm
import Derived.Test.YtdbcedmofoakmaaDoorFa
import Derived.Test.YtdbcedmofoakmaaDoorEf
set_option maxRecDepth 100000
namespace Go.Proofs.YtdbcedmofoakmaaDoor
open Go Go.Sx Go.Eng
theorem EnginePlans_v (b : Book) (A : Option Addr) (n cp : Nat) (A2 : Option Addr) (m c2 : Nat) (plan : List Walks) (w : World) (hP : PartsAt w A n b.parts) (hn : n ≤ 140737488351232) (hL : PlanAt w A2 m plan) (hm : m ≤ 140737488351232) (hG : CellsAt w 0 0 stuffsL) :
    CallsV Tryd.prog 4 [.agg ⟨(bookL b A n cp)⟩, .slice A2 m c2] w (.bool true) := by
 refine enter (N := 52) (M := []) w Tryd.func4 rfl rfl rfl (fun Q0 a_0 hQ0 hN0 hs0 => ?_)
 rcases hR : b.planR with ⟨_ | pl, e5⟩
 · skip
   refine cd_region fun K1 hK1 => ?_
   refine sq rfl (st_box hs0 (Ev.t 0 rfl) rfl rfl rfl fun b2 _ _ hs1 => ?_); clear hs0
   refine sq rfl (st_assign hs1 (.const _) rfl rfl fun _ _ hs2 => ?_); clear hs1
   refine hK1 _ _ ?_; clear hK1
   have hs3 := Sx.keepT [0, 1, 3] [_, _, _] ⟨rfl, rfl, rfl, trivial⟩ hs2; clear hs2
   refine cd_region fun K3 hK3 => ?_
   refine sq rfl (st_loadA (o := 0) (off := 0) (vs := (bookL b A n cp)) hs3 (Ev.t 1 rfl) rfl rfl Tryd.isAgg27 Tryd.sizeOf27 (hs3.cells 0 rfl) rfl fun _ _ hs4 => ?_); clear hs3
   refine sq rfl (st_move hs4 (Ev.t 3 rfl) rfl rfl fun _ _ hs5 => ?_); clear hs4
   refine sq rfl (st_callv (vs := [.agg ⟨(bookL b A n cp)⟩, .slice A2 m c2]) hs5 (.func _) ⟨(Ev.t 1 rfl), (Ev.t 0 rfl), trivial⟩ rfl rfl Tryd.call21 rfl (Fails_v b A n cp A2 m c2 plan _ (hP.kp hs5.kp) hn (hL.kp hs5.kp) hm (hG.kp hs5.kp (by simp))) fun _ _ hs6 => ?_); clear hs5
   refine sq rfl (st_move hs6 (Ev.t 0 rfl) rfl rfl fun _ _ hs7 => ?_); clear hs6
   refine sq rfl (st_extract hs7 (Ev.t 0 rfl) rfl rfl rfl fun _ _ hs8 => ?_); clear hs7
   refine sq rfl (st_extract hs8 (Ev.t 1 rfl) rfl rfl rfl fun _ _ hs9 => ?_); clear hs8
   refine sq rfl (st_assign hs9 (Ev.t 1 rfl) rfl rfl fun _ _ hs10 => ?_); clear hs9
   refine sq rfl (st_assign hs10 (Ev.t 1 rfl) rfl rfl fun _ _ hs11 => ?_); clear hs10
   refine hK3 _ _ ?_; clear hK3
   have hs12 := Sx.keepT [0, 1, 8, 9, 10] [_, _, _, _, _] ⟨rfl, rfl, rfl, rfl, rfl, trivial⟩ hs11; clear hs11
   refine cd_region fun K4 hK4 => ?_
   refine sq rfl (st_loadA (o := 0) (off := 0) (vs := (bookL b A n cp)) hs12 (Ev.t 3 rfl) rfl rfl Tryd.isAgg27 Tryd.sizeOf27 (hs12.cells 0 rfl) rfl fun _ _ hs13 => ?_); clear hs12
   refine sq rfl (st_move hs13 (Ev.t 5 rfl) rfl rfl fun _ _ hs14 => ?_); clear hs13
   refine sq rfl (st_callv (vs := [.agg ⟨(bookL b A n cp)⟩, .slice A2 m c2]) hs14 (.func _) ⟨(Ev.t 1 rfl), (Ev.t 0 rfl), trivial⟩ rfl rfl Tryd.call22 rfl (rFails_v b A n cp A2 m c2 plan _ (hP.kp hs14.kp) hn (hL.kp hs14.kp) hm) fun _ _ hs15 => ?_); clear hs14
   refine sq rfl (st_move hs15 (Ev.t 0 rfl) rfl rfl fun _ _ hs16 => ?_); clear hs15
   refine sq rfl (st_extract hs16 (Ev.t 0 rfl) rfl rfl rfl fun _ _ hs17 => ?_); clear hs16
   refine sq rfl (st_extract hs17 (Ev.t 1 rfl) rfl rfl rfl fun _ _ hs18 => ?_); clear hs17
   refine sq rfl (st_assign hs18 (Ev.t 1 rfl) rfl rfl fun _ _ hs19 => ?_); clear hs18
   refine sq rfl (st_assign hs19 (Ev.t 1 rfl) rfl rfl fun _ _ hs20 => ?_); clear hs19
   refine hK4 _ _ ?_; clear hK4
   have hs21 := Sx.keepT [0, 1, 8, 9, 10, 11] [_, _, _, _, _, _] ⟨rfl, rfl, rfl, rfl, rfl, rfl, trivial⟩ hs20; clear hs20
   refine cd_seq fun K5 hK5 => ?_
   refine cd_region fun K6 hK6 => ?_
   refine sq rfl (st_move hs21 (Ev.t 3 rfl) rfl rfl fun _ _ hs22 => ?_); clear hs21
   refine sq rfl (st_move hs22 (Ev.t 2 rfl) rfl rfl fun _ _ hs23 => ?_); clear hs22
   refine sq rfl (st_cmp (c := ((b.failsR plan).1 : Int) != ((b.failsR plan).1)) hs23 (Ev.t 1 rfl) (Ev.t 0 rfl) rfl rfl rfl rfl fun _ _ hs24 => ?_); clear hs23
   refine sq rfl (st_move hs24 (Ev.t 0 rfl) rfl rfl fun _ _ hs25 => ?_); clear hs24
   refine sq_gv hs25 (gg := !(((b.failsR plan).1 : Int) != ((b.failsR plan).1))) (v := .int .i64 ((b.failsR plan).2)) rfl rfl 0 rfl (ison_f _) rfl rfl rfl (fun hg7 K8 hK8 => st_move hs25 (Ev.t 6 rfl) rfl rfl hK8) fun _ _ hs26 => ?_; clear hs25
   refine sq_gv hs26 (gg := !(((b.failsR plan).1 : Int) != ((b.failsR plan).1))) (v := .int .i64 ((b.failsR plan).2)) rfl rfl 1 rfl (ison_f _) rfl rfl rfl (fun hg9 K10 hK10 => st_move hs26 (Ev.t 5 rfl) rfl rfl hK10) fun _ _ hs27 => ?_; clear hs26
   refine sq_gv hs27 (gg := !(((b.failsR plan).1 : Int) != ((b.failsR plan).1))) (v := .bool (((b.failsR plan).2 : Int) != ((b.failsR plan).2))) rfl rfl 2 rfl (ison_f _) rfl rfl rfl (fun hg11 K12 hK12 => st_cmp (c := ((b.failsR plan).2 : Int) != ((b.failsR plan).2)) hs27 ((Ev.t 1 rfl).un hg11) ((Ev.t 0 rfl).un hg11) rfl rfl rfl rfl hK12) fun _ _ hs28 => ?_; clear hs27
   refine sq rfl (st_or hs28 (gx := true) (gy := !(((b.failsR plan).1 : Int) != ((b.failsR plan).1))) (Ev.t 3 rfl) rfl (Ev.t 0 rfl) (fun h => (by first | exact absurd h (by decide) | (rw [h]; rfl))) rfl rfl fun _ _ hs29 => ?_); clear hs28
   refine hK6 _ _ ?_; clear hK6
   have hs30 := Sx.keepT [0, 12, 13] [_, _, _] ⟨rfl, rfl, rfl, trivial⟩ hs29; clear hs29
   have hc13 : ((((b.failsR plan).1 : Int) != ((b.failsR plan).1)) || (((b.failsR plan).2 : Int) != ((b.failsR plan).2))) = false := by simp
   refine cd_cond hs30 (Ev.t 0 rfl) (fun h => absurd (hc13.symm.trans h) (by decide)) (fun _ => ?_)
   refine cd_skip ?_
   refine th_norm (hK5 _ _ ?_)
   refine cd_region fun K14 hK14 => ?_
   refine sq rfl (st_loadA (o := 0) (off := 0) (vs := (bookL b A n cp)) hs30 (Ev.t 2 rfl) rfl rfl Tryd.isAgg27 Tryd.sizeOf27 (hs30.cells 0 rfl) rfl fun _ _ hs31 => ?_); clear hs30
   refine sq rfl (st_callv (vs := [.agg ⟨(bookL b A n cp)⟩]) hs31 (.func _) ⟨(Ev.t 0 rfl), trivial⟩ rfl rfl Tryd.call23 rfl (plansV_none hR (Plan_b b A n cp _ (hP.kp hs31.kp) hn (hG.kp hs31.kp (by simp)))) fun _ _ hs32 => ?_); clear hs31
   refine sq rfl (st_move hs32 (Ev.t 0 rfl) rfl rfl fun _ _ hs33 => ?_); clear hs32
   refine sq rfl (st_extract hs33 (Ev.t 0 rfl) rfl rfl rfl fun _ _ hs34 => ?_); clear hs33
   refine sq rfl (st_extract hs34 (Ev.t 1 rfl) rfl rfl rfl fun _ _ hs35 => ?_); clear hs34
   refine sq rfl (st_assign hs35 (Ev.t 1 rfl) rfl rfl fun _ _ hs36 => ?_); clear hs35
   refine sq rfl (st_assign hs36 (Ev.t 1 rfl) rfl rfl fun _ _ hs37 => ?_); clear hs36
   refine hK14 _ _ ?_; clear hK14
   have hs38 := Sx.keepT [0, 1, 8, 9] [_, _, _, _] ⟨rfl, rfl, rfl, rfl, trivial⟩ hs37; clear hs37
   refine cd_region fun K15 hK15 => ?_
   refine sq rfl (st_loadA (o := 0) (off := 0) (vs := (bookL b A n cp)) hs38 (Ev.t 3 rfl) rfl rfl Tryd.isAgg27 Tryd.sizeOf27 (hs38.cells 0 rfl) rfl fun _ _ hs39 => ?_); clear hs38
   refine sq rfl (st_callv (vs := [.agg ⟨(bookL b A n cp)⟩]) hs39 (.func _) ⟨(Ev.t 0 rfl), trivial⟩ rfl rfl Tryd.call24 rfl (plansV_none hR (rPlan_b b A n cp _ (hP.kp hs39.kp) hn)) fun _ _ hs40 => ?_); clear hs39
   refine sq rfl (st_move hs40 (Ev.t 0 rfl) rfl rfl fun _ _ hs41 => ?_); clear hs40
   refine sq rfl (st_extract hs41 (Ev.t 0 rfl) rfl rfl rfl fun _ _ hs42 => ?_); clear hs41
   refine sq rfl (st_extract hs42 (Ev.t 1 rfl) rfl rfl rfl fun _ _ hs43 => ?_); clear hs42
   refine sq rfl (st_assign hs43 (Ev.t 1 rfl) rfl rfl fun _ _ hs44 => ?_); clear hs43
   refine sq rfl (st_assign hs44 (Ev.t 1 rfl) rfl rfl fun _ _ hs45 => ?_); clear hs44
   refine hK15 _ _ ?_; clear hK15
   have hs46 := Sx.keepT [0, 1, 7, 8, 9] [_, _, _, _, _] ⟨rfl, rfl, rfl, rfl, rfl, trivial⟩ hs45; clear hs45
   refine cd_region fun K16 hK16 => ?_
   refine sq rfl (st_move hs46 (Ev.t 3 rfl) rfl rfl fun _ _ hs47 => ?_); clear hs46
   refine sq rfl (st_move hs47 (Ev.t 2 rfl) rfl rfl fun _ _ hs48 => ?_); clear hs47
   refine sq rfl (st_callv (vs := [.slice none 0 0, .slice none 0 0]) hs48 (.func _) ⟨(Ev.t 1 rfl), (Ev.t 0 rfl), trivial⟩ rfl rfl Tryd.call25 rfl ((samePlans_v none 0 0 [] none 0 0 [] _ (nil_at _) (by decide) (nil_at _) (by decide))) fun _ _ hs49 => ?_); clear hs48
   refine sq rfl (st_move hs49 (Ev.t 0 rfl) rfl rfl fun _ _ hs50 => ?_); clear hs49
   refine sq_gv hs50 (gg := samePl [] []) (v := .int .i64 e5) rfl rfl 0 rfl (ison_t _) rfl rfl rfl (fun hg17 K18 hK18 => st_move hs50 (Ev.t 6 rfl) rfl rfl hK18) fun _ _ hs51 => ?_; clear hs50
   refine sq_gv hs51 (gg := samePl [] []) (v := .int .i64 e5) rfl rfl 1 rfl (ison_t _) rfl rfl rfl (fun hg19 K20 hK20 => st_move hs51 (Ev.t 5 rfl) rfl rfl hK20) fun _ _ hs52 => ?_; clear hs51
   refine sq_gv hs52 (gg := samePl [] []) (v := .bool ((e5 : Int) == e5)) rfl rfl 2 rfl (ison_t _) rfl rfl rfl (fun hg21 K22 hK22 => st_cmp (c := (e5 : Int) == e5) hs52 ((Ev.t 1 rfl).un hg21) ((Ev.t 0 rfl).un hg21) rfl rfl rfl rfl hK22) fun _ _ hs53 => ?_; clear hs52
   refine sq rfl (st_and hs53 (gx := true) (gy := samePl [] []) (Ev.t 3 rfl) rfl (Ev.t 0 rfl) (fun h => h) rfl rfl fun _ _ hs54 => ?_); clear hs53
   refine sq rfl (st_move hs54 (Ev.t 0 rfl) rfl rfl fun _ _ hs55 => ?_); clear hs54
   refine sq_gv hs55 (gg := (samePl [] []) && ((e5 : Int) == e5)) (v := .bool true) rfl rfl 0 rfl (ison_t _) rfl rfl rfl (fun hg23 K24 hK24 => st_callv (vs := []) hs55 (.func _) trivial rfl rfl Tryd.call20 rfl (fired_v _ (hG.kp hs55.kp (by simp))) hK24) fun _ _ hs56 => ?_; clear hs55
   refine sq rfl (st_and hs56 (gx := true) (gy := (samePl [] []) && ((e5 : Int) == e5)) (Ev.t 1 rfl) rfl (Ev.t 0 rfl) (fun h => h) rfl rfl fun _ _ hs57 => ?_); clear hs56
   have hs58 := Sx.keepT [0, 1, 2, 3, 4, 5, 6, 7, 8, 9, 10, 11, 12, 13, 14] [_, _, _, _, _, _, _, _, _, _, _, _, _, _, _] ⟨rfl, rfl, rfl, rfl, rfl, rfl, rfl, rfl, rfl, rfl, rfl, rfl, rfl, rfl, rfl, trivial⟩ hs57; clear hs57
   refine sq rfl (st_assign hs58 (Ev.t 0 rfl) rfl rfl fun _ _ hs59 => ?_); clear hs58
   refine hK16 _ _ ?_; clear hK16
   have hs60 := Sx.keepT [0] [_] ⟨rfl, trivial⟩ hs59; clear hs59
   refine cd_retv (vs := [.bool (((samePl [] []) && ((e5 : Int) == e5)) && true)]) hs60 hQ0 rfl ⟨.tmp 0 rfl, trivial⟩ ?_
   clear hs60 hQ0 hN0
   first | (have h := samePl_eq.2 (rfl : pl = pl); simp [pack, h]; done) | simp [pack, samePl]
 · skip
   have hpl : pl.length ≤ 140737488351232 := planR_len hR
   refine cd_region fun K25 hK25 => ?_
   refine sq rfl (st_box hs0 (Ev.t 0 rfl) rfl rfl rfl fun b26 _ _ hs1 => ?_); clear hs0
   refine sq rfl (st_assign hs1 (.const _) rfl rfl fun _ _ hs2 => ?_); clear hs1
   refine hK25 _ _ ?_; clear hK25
   have hs3 := Sx.keepT [0, 1, 3] [_, _, _] ⟨rfl, rfl, rfl, trivial⟩ hs2; clear hs2
   refine cd_region fun K27 hK27 => ?_
   refine sq rfl (st_loadA (o := 0) (off := 0) (vs := (bookL b A n cp)) hs3 (Ev.t 1 rfl) rfl rfl Tryd.isAgg27 Tryd.sizeOf27 (hs3.cells 0 rfl) rfl fun _ _ hs4 => ?_); clear hs3
   refine sq rfl (st_move hs4 (Ev.t 3 rfl) rfl rfl fun _ _ hs5 => ?_); clear hs4
   refine sq rfl (st_callv (vs := [.agg ⟨(bookL b A n cp)⟩, .slice A2 m c2]) hs5 (.func _) ⟨(Ev.t 1 rfl), (Ev.t 0 rfl), trivial⟩ rfl rfl Tryd.call21 rfl (Fails_v b A n cp A2 m c2 plan _ (hP.kp hs5.kp) hn (hL.kp hs5.kp) hm (hG.kp hs5.kp (by simp))) fun _ _ hs6 => ?_); clear hs5
   refine sq rfl (st_move hs6 (Ev.t 0 rfl) rfl rfl fun _ _ hs7 => ?_); clear hs6
   refine sq rfl (st_extract hs7 (Ev.t 0 rfl) rfl rfl rfl fun _ _ hs8 => ?_); clear hs7
   refine sq rfl (st_extract hs8 (Ev.t 1 rfl) rfl rfl rfl fun _ _ hs9 => ?_); clear hs8
   refine sq rfl (st_assign hs9 (Ev.t 1 rfl) rfl rfl fun _ _ hs10 => ?_); clear hs9
   refine sq rfl (st_assign hs10 (Ev.t 1 rfl) rfl rfl fun _ _ hs11 => ?_); clear hs10
   refine hK27 _ _ ?_; clear hK27
   have hs12 := Sx.keepT [0, 1, 8, 9, 10] [_, _, _, _, _] ⟨rfl, rfl, rfl, rfl, rfl, trivial⟩ hs11; clear hs11
   refine cd_region fun K28 hK28 => ?_
   refine sq rfl (st_loadA (o := 0) (off := 0) (vs := (bookL b A n cp)) hs12 (Ev.t 3 rfl) rfl rfl Tryd.isAgg27 Tryd.sizeOf27 (hs12.cells 0 rfl) rfl fun _ _ hs13 => ?_); clear hs12
   refine sq rfl (st_move hs13 (Ev.t 5 rfl) rfl rfl fun _ _ hs14 => ?_); clear hs13
   refine sq rfl (st_callv (vs := [.agg ⟨(bookL b A n cp)⟩, .slice A2 m c2]) hs14 (.func _) ⟨(Ev.t 1 rfl), (Ev.t 0 rfl), trivial⟩ rfl rfl Tryd.call22 rfl (rFails_v b A n cp A2 m c2 plan _ (hP.kp hs14.kp) hn (hL.kp hs14.kp) hm) fun _ _ hs15 => ?_); clear hs14
   refine sq rfl (st_move hs15 (Ev.t 0 rfl) rfl rfl fun _ _ hs16 => ?_); clear hs15
   refine sq rfl (st_extract hs16 (Ev.t 0 rfl) rfl rfl rfl fun _ _ hs17 => ?_); clear hs16
   refine sq rfl (st_extract hs17 (Ev.t 1 rfl) rfl rfl rfl fun _ _ hs18 => ?_); clear hs17
   refine sq rfl (st_assign hs18 (Ev.t 1 rfl) rfl rfl fun _ _ hs19 => ?_); clear hs18
   refine sq rfl (st_assign hs19 (Ev.t 1 rfl) rfl rfl fun _ _ hs20 => ?_); clear hs19
   refine hK28 _ _ ?_; clear hK28
   have hs21 := Sx.keepT [0, 1, 8, 9, 10, 11] [_, _, _, _, _, _] ⟨rfl, rfl, rfl, rfl, rfl, rfl, trivial⟩ hs20; clear hs20
   refine cd_seq fun K29 hK29 => ?_
   refine cd_region fun K30 hK30 => ?_
   refine sq rfl (st_move hs21 (Ev.t 3 rfl) rfl rfl fun _ _ hs22 => ?_); clear hs21
   refine sq rfl (st_move hs22 (Ev.t 2 rfl) rfl rfl fun _ _ hs23 => ?_); clear hs22
   refine sq rfl (st_cmp (c := ((b.failsR plan).1 : Int) != ((b.failsR plan).1)) hs23 (Ev.t 1 rfl) (Ev.t 0 rfl) rfl rfl rfl rfl fun _ _ hs24 => ?_); clear hs23
   refine sq rfl (st_move hs24 (Ev.t 0 rfl) rfl rfl fun _ _ hs25 => ?_); clear hs24
   refine sq_gv hs25 (gg := !(((b.failsR plan).1 : Int) != ((b.failsR plan).1))) (v := .int .i64 ((b.failsR plan).2)) rfl rfl 0 rfl (ison_f _) rfl rfl rfl (fun hg31 K32 hK32 => st_move hs25 (Ev.t 6 rfl) rfl rfl hK32) fun _ _ hs26 => ?_; clear hs25
   refine sq_gv hs26 (gg := !(((b.failsR plan).1 : Int) != ((b.failsR plan).1))) (v := .int .i64 ((b.failsR plan).2)) rfl rfl 1 rfl (ison_f _) rfl rfl rfl (fun hg33 K34 hK34 => st_move hs26 (Ev.t 5 rfl) rfl rfl hK34) fun _ _ hs27 => ?_; clear hs26
   refine sq_gv hs27 (gg := !(((b.failsR plan).1 : Int) != ((b.failsR plan).1))) (v := .bool (((b.failsR plan).2 : Int) != ((b.failsR plan).2))) rfl rfl 2 rfl (ison_f _) rfl rfl rfl (fun hg35 K36 hK36 => st_cmp (c := ((b.failsR plan).2 : Int) != ((b.failsR plan).2)) hs27 ((Ev.t 1 rfl).un hg35) ((Ev.t 0 rfl).un hg35) rfl rfl rfl rfl hK36) fun _ _ hs28 => ?_; clear hs27
   refine sq rfl (st_or hs28 (gx := true) (gy := !(((b.failsR plan).1 : Int) != ((b.failsR plan).1))) (Ev.t 3 rfl) rfl (Ev.t 0 rfl) (fun h => (by first | exact absurd h (by decide) | (rw [h]; rfl))) rfl rfl fun _ _ hs29 => ?_); clear hs28
   refine hK30 _ _ ?_; clear hK30
   have hs30 := Sx.keepT [0, 12, 13] [_, _, _] ⟨rfl, rfl, rfl, trivial⟩ hs29; clear hs29
   have hc37 : ((((b.failsR plan).1 : Int) != ((b.failsR plan).1)) || (((b.failsR plan).2 : Int) != ((b.failsR plan).2))) = false := by simp
   refine cd_cond hs30 (Ev.t 0 rfl) (fun h => absurd (hc37.symm.trans h) (by decide)) (fun _ => ?_)
   refine cd_skip ?_
   refine th_norm (hK29 _ _ ?_)
   refine cd_region fun K38 hK38 => ?_
   refine sq rfl (st_loadA (o := 0) (off := 0) (vs := (bookL b A n cp)) hs30 (Ev.t 2 rfl) rfl rfl Tryd.isAgg27 Tryd.sizeOf27 (hs30.cells 0 rfl) rfl fun _ _ hs31 => ?_); clear hs30
   refine sq rfl (st_call (vs := [.agg ⟨(bookL b A n cp)⟩]) hs31 (.func _) ⟨(Ev.t 0 rfl), trivial⟩ rfl rfl Tryd.call23 rfl (plansV_some hR (Plan_b b A n cp _ (hP.kp hs31.kp) hn (hG.kp hs31.kp (by simp)))) fun v40 bs41 a_32 w_32 hp32 hs32 => ?_); clear hs31
   obtain ⟨A39, c39, b39, o39, rfl, hO39, rfl⟩ := hp32
   have hs33 := Sx.as (T' := [_, _, _, _, _]) (B' := [_, _]) rfl rfl hs32; clear hs32
   refine sq rfl (st_move hs33 (Ev.t 0 rfl) rfl rfl fun _ _ hs34 => ?_); clear hs33
   refine sq rfl (st_extract hs34 (Ev.t 0 rfl) rfl rfl rfl fun _ _ hs35 => ?_); clear hs34
   refine sq rfl (st_extract hs35 (Ev.t 1 rfl) rfl rfl rfl fun _ _ hs36 => ?_); clear hs35
   refine sq rfl (st_assign hs36 (Ev.t 1 rfl) rfl rfl fun _ _ hs37 => ?_); clear hs36
   refine sq rfl (st_assign hs37 (Ev.t 1 rfl) rfl rfl fun _ _ hs38 => ?_); clear hs37
   refine hK38 _ _ ?_; clear hK38
   have hs39 := Sx.keepT [0, 1, 8, 9] [_, _, _, _] ⟨rfl, rfl, rfl, rfl, trivial⟩ hs38; clear hs38
   refine cd_region fun K42 hK42 => ?_
   refine sq rfl (st_loadA (o := 0) (off := 0) (vs := (bookL b A n cp)) hs39 (Ev.t 3 rfl) rfl rfl Tryd.isAgg27 Tryd.sizeOf27 (hs39.cells 1 rfl) rfl fun _ _ hs40 => ?_); clear hs39
   refine sq rfl (st_call (vs := [.agg ⟨(bookL b A n cp)⟩]) hs40 (.func _) ⟨(Ev.t 0 rfl), trivial⟩ rfl rfl Tryd.call24 rfl (plansV_some hR (rPlan_b b A n cp _ (hP.kp hs40.kp) hn)) fun v44 bs45 a_41 w_41 hp41 hs41 => ?_); clear hs40
   obtain ⟨A43, c43, b43, o43, rfl, hO43, rfl⟩ := hp41
   have hs42 := Sx.as (T' := [_, _, _, _, _, _]) (B' := [_, _, _]) rfl rfl hs41; clear hs41
   refine sq rfl (st_move hs42 (Ev.t 0 rfl) rfl rfl fun _ _ hs43 => ?_); clear hs42
   refine sq rfl (st_extract hs43 (Ev.t 0 rfl) rfl rfl rfl fun _ _ hs44 => ?_); clear hs43
   refine sq rfl (st_extract hs44 (Ev.t 1 rfl) rfl rfl rfl fun _ _ hs45 => ?_); clear hs44
   refine sq rfl (st_assign hs45 (Ev.t 1 rfl) rfl rfl fun _ _ hs46 => ?_); clear hs45
   refine sq rfl (st_assign hs46 (Ev.t 1 rfl) rfl rfl fun _ _ hs47 => ?_); clear hs46
   refine hK42 _ _ ?_; clear hK42
   have hs48 := Sx.keepT [0, 1, 7, 8, 9] [_, _, _, _, _] ⟨rfl, rfl, rfl, rfl, rfl, trivial⟩ hs47; clear hs47
   refine cd_region fun K46 hK46 => ?_
   refine sq rfl (st_move hs48 (Ev.t 3 rfl) rfl rfl fun _ _ hs49 => ?_); clear hs48
   refine sq rfl (st_move hs49 (Ev.t 2 rfl) rfl rfl fun _ _ hs50 => ?_); clear hs49
   refine sq rfl (st_callv (vs := [.slice A39 pl.length c39, .slice A43 pl.length c43]) hs50 (.func _) ⟨(Ev.t 1 rfl), (Ev.t 0 rfl), trivial⟩ rfl rfl Tryd.call25 rfl (samePlans_v A39 pl.length c39 pl A43 pl.length c43 pl _ (hO39.at hs50 1 rfl) hpl (hO43.at hs50 0 rfl) hpl) fun _ _ hs51 => ?_); clear hs50
   refine sq rfl (st_move hs51 (Ev.t 0 rfl) rfl rfl fun _ _ hs52 => ?_); clear hs51
   refine sq_gv hs52 (gg := samePl pl pl) (v := .int .i64 e5) rfl rfl 0 rfl (ison_t _) rfl rfl rfl (fun hg47 K48 hK48 => st_move hs52 (Ev.t 6 rfl) rfl rfl hK48) fun _ _ hs53 => ?_; clear hs52
   refine sq_gv hs53 (gg := samePl pl pl) (v := .int .i64 e5) rfl rfl 1 rfl (ison_t _) rfl rfl rfl (fun hg49 K50 hK50 => st_move hs53 (Ev.t 5 rfl) rfl rfl hK50) fun _ _ hs54 => ?_; clear hs53
   refine sq_gv hs54 (gg := samePl pl pl) (v := .bool ((e5 : Int) == e5)) rfl rfl 2 rfl (ison_t _) rfl rfl rfl (fun hg51 K52 hK52 => st_cmp (c := (e5 : Int) == e5) hs54 ((Ev.t 1 rfl).un hg51) ((Ev.t 0 rfl).un hg51) rfl rfl rfl rfl hK52) fun _ _ hs55 => ?_; clear hs54
   refine sq rfl (st_and hs55 (gx := true) (gy := samePl pl pl) (Ev.t 3 rfl) rfl (Ev.t 0 rfl) (fun h => h) rfl rfl fun _ _ hs56 => ?_); clear hs55
   refine sq rfl (st_move hs56 (Ev.t 0 rfl) rfl rfl fun _ _ hs57 => ?_); clear hs56
   refine sq_gv hs57 (gg := (samePl pl pl) && ((e5 : Int) == e5)) (v := .bool true) rfl rfl 0 rfl (ison_t _) rfl rfl rfl (fun hg53 K54 hK54 => st_callv (vs := []) hs57 (.func _) trivial rfl rfl Tryd.call20 rfl (fired_v _ (hG.kp hs57.kp (by simp))) hK54) fun _ _ hs58 => ?_; clear hs57
   refine sq rfl (st_and hs58 (gx := true) (gy := (samePl pl pl) && ((e5 : Int) == e5)) (Ev.t 1 rfl) rfl (Ev.t 0 rfl) (fun h => h) rfl rfl fun _ _ hs59 => ?_); clear hs58
   have hs60 := Sx.keepT [0, 1, 2, 3, 4, 5, 6, 7, 8, 9, 10, 11, 12, 13, 14] [_, _, _, _, _, _, _, _, _, _, _, _, _, _, _] ⟨rfl, rfl, rfl, rfl, rfl, rfl, rfl, rfl, rfl, rfl, rfl, rfl, rfl, rfl, rfl, trivial⟩ hs59; clear hs59
   refine sq rfl (st_assign hs60 (Ev.t 0 rfl) rfl rfl fun _ _ hs61 => ?_); clear hs60
   refine hK46 _ _ ?_; clear hK46
   have hs62 := Sx.keepT [0] [_] ⟨rfl, trivial⟩ hs61; clear hs61
   refine cd_retv (vs := [.bool (((samePl pl pl) && ((e5 : Int) == e5)) && true)]) hs62 hQ0 rfl ⟨.tmp 0 rfl, trivial⟩ ?_
   clear hs62 hQ0 hN0
   first | (have h := samePl_eq.2 (rfl : pl = pl); simp [pack, h]; done) | simp [pack, samePl]
end Go.Proofs.YtdbcedmofoakmaaDoor
