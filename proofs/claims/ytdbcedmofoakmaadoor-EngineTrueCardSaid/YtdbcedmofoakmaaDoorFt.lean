/- The law EngineTrue: its walk. -/
import Derived.Test.YtdbcedmofoakmaaDoorFu
set_option maxRecDepth 100000
namespace Go.Proofs.YtdbcedmofoakmaaDoor
open Go Go.Sx Go.Eng
theorem EngineTrue_v (b : Book) (A : Option Addr) (n cp : Nat) (A4 : Option Addr) (m4 c4 : Nat) (bits : List Int) (A45 : Option Addr) (m45 c45 : Nat) (bits5 : List Int) (w : World) (hP : PartsAt w A n b.parts) (hn : n ≤ 140737488351232) (hI : SlAt intL 1 w A4 m4 bits) (hm4 : m4 ≤ 140737488351232) (hI5 : SlAt intL 1 w A45 m45 bits5) (hm45 : m45 ≤ 140737488351232) (hG : CellsAt w 0 0 stuffsL) :
    CallsV Tryd.prog 6 [.agg ⟨(bookL b A n cp)⟩, .slice A4 m4 c4, .slice A45 m45 c45] w (.bool true) := by
 refine enter (N := 102) (M := []) w Tryd.func6 rfl rfl rfl (fun Q0 a_0 hQ0 hN0 hs0 => ?_)
 rcases hok : b.ok with _ | _
 · skip
   have hR := planR_no hok
   refine cd_region fun K1 hK1 => ?_
   refine sq rfl (st_box hs0 (Ev.t 0 rfl) rfl rfl rfl fun b2 _ _ hs1 => ?_); clear hs0
   refine sq rfl (st_assign hs1 (.const _) rfl rfl fun _ _ hs2 => ?_); clear hs1
   refine hK1 _ _ ?_; clear hK1
   have hs3 := Sx.keepT [0, 1, 3, 4] [_, _, _, _] ⟨rfl, rfl, rfl, rfl, trivial⟩ hs2; clear hs2
   refine cd_seq fun K3 hK3 => ?_
   refine cd_region fun K4 hK4 => ?_
   refine sq rfl (st_loadA (o := 0) (off := 0) (vs := (bookL b A n cp)) hs3 (Ev.t 1 rfl) rfl rfl Tryd.isAgg27 Tryd.sizeOf27 (hs3.cells 0 rfl) rfl fun _ _ hs4 => ?_); clear hs3
   refine sq rfl (st_callv (vs := [.agg ⟨(bookL b A n cp)⟩]) hs4 (.func _) ⟨(Ev.t 0 rfl), trivial⟩ rfl rfl Tryd.call32 rfl (callsV_eq (v' := .bool false) (sound_v b A n cp _ (hP.kp hs4.kp) hn) (by rw [hok])) fun _ _ hs5 => ?_); clear hs4
   refine sq rfl (st_not hs5 (Ev.t 0 rfl) rfl rfl fun _ _ hs6 => ?_); clear hs5
   refine hK4 _ _ ?_; clear hK4
   have hs7 := Sx.keepT [0, 3, 4, 5, 6] [_, _, _, _, _] ⟨rfl, rfl, rfl, rfl, rfl, trivial⟩ hs6; clear hs6
   have hc5 : true = true := rfl
   refine cd_cond hs7 (Ev.t 0 rfl) (fun _ => ?_) (fun h => absurd (hc5.symm.trans h) (by decide))
   refine cd_region fun K6 hK6 => ?_
   refine sq rfl (st_callv (vs := []) hs7 (.func _) trivial rfl rfl Tryd.call20 rfl (fired_v _ (hG.kp hs7.kp (by simp))) fun _ _ hs8 => ?_); clear hs7
   have hs9 := Sx.keepT [0, 1, 3, 4, 5] [_, _, _, _, _] ⟨rfl, rfl, rfl, rfl, rfl, trivial⟩ hs8; clear hs8
   refine sq rfl (st_assign hs9 (Ev.t 0 rfl) rfl rfl fun _ _ hs10 => ?_); clear hs9
   refine hK6 _ _ ?_; clear hK6
   have hs11 := Sx.keepT [0] [_] ⟨rfl, trivial⟩ hs10; clear hs10
   refine cd_retv (vs := [.bool true]) hs11 (fun a_ w_ h => th_ret (hQ0 a_ w_ h)) rfl ⟨.tmp 0 rfl, trivial⟩ ?_
   clear hs11 hQ0 hN0 hK3
   first | rfl | (simp [pack]; done)
 · skip
   have hb := ok_bd hok
   have hl2 := hP.len
   have hl5 := ok_len hok
   rcases hR : b.planR with ⟨_ | pl, e5⟩
   · skip
     obtain ⟨rfl, hbad⟩ := planR_none hok hR
     refine cd_region fun K7 hK7 => ?_
     refine sq rfl (st_box hs0 (Ev.t 0 rfl) rfl rfl rfl fun b8 _ _ hs1 => ?_); clear hs0
     refine sq rfl (st_assign hs1 (.const _) rfl rfl fun _ _ hs2 => ?_); clear hs1
     refine hK7 _ _ ?_; clear hK7
     have hs3 := Sx.keepT [0, 1, 3, 4] [_, _, _, _] ⟨rfl, rfl, rfl, rfl, trivial⟩ hs2; clear hs2
     refine cd_seq fun K9 hK9 => ?_
     refine cd_region fun K10 hK10 => ?_
     refine sq rfl (st_loadA (o := 0) (off := 0) (vs := (bookL b A n cp)) hs3 (Ev.t 1 rfl) rfl rfl Tryd.isAgg27 Tryd.sizeOf27 (hs3.cells 0 rfl) rfl fun _ _ hs4 => ?_); clear hs3
     refine sq rfl (st_callv (vs := [.agg ⟨(bookL b A n cp)⟩]) hs4 (.func _) ⟨(Ev.t 0 rfl), trivial⟩ rfl rfl Tryd.call32 rfl (callsV_eq (v' := .bool true) (sound_v b A n cp _ (hP.kp hs4.kp) hn) (by rw [hok])) fun _ _ hs5 => ?_); clear hs4
     refine sq rfl (st_not hs5 (Ev.t 0 rfl) rfl rfl fun _ _ hs6 => ?_); clear hs5
     refine hK10 _ _ ?_; clear hK10
     have hs7 := Sx.keepT [0, 3, 4, 5, 6] [_, _, _, _, _] ⟨rfl, rfl, rfl, rfl, rfl, trivial⟩ hs6; clear hs6
     have hc11 : false = false := rfl
     refine cd_cond hs7 (Ev.t 0 rfl) (fun h => absurd (hc11.symm.trans h) (by decide)) (fun _ => ?_)
     refine cd_skip ?_
     refine th_norm (hK9 _ _ ?_)
     refine cd_region fun K12 hK12 => ?_
     refine sq rfl (st_loadA (o := 0) (off := 0) (vs := (bookL b A n cp)) hs7 (Ev.t 2 rfl) rfl rfl Tryd.isAgg27 Tryd.sizeOf27 (hs7.cells 0 rfl) rfl fun _ _ hs8 => ?_); clear hs7
     refine sq rfl (st_callv (vs := [.agg ⟨(bookL b A n cp)⟩]) hs8 (.func _) ⟨(Ev.t 0 rfl), trivial⟩ rfl rfl Tryd.call23 rfl (plansV_none hR (Plan_b b A n cp _ (hP.kp hs8.kp) hn (hG.kp hs8.kp (by simp)))) fun _ _ hs9 => ?_); clear hs8
     refine sq rfl (st_move hs9 (Ev.t 0 rfl) rfl rfl fun _ _ hs10 => ?_); clear hs9
     refine sq rfl (st_extract hs10 (Ev.t 0 rfl) rfl rfl rfl fun _ _ hs11 => ?_); clear hs10
     refine sq rfl (st_extract hs11 (Ev.t 1 rfl) rfl rfl rfl fun _ _ hs12 => ?_); clear hs11
     refine sq rfl (st_assign hs12 (Ev.t 1 rfl) rfl rfl fun _ _ hs13 => ?_); clear hs12
     refine sq rfl (st_assign hs13 (Ev.t 1 rfl) rfl rfl fun _ _ hs14 => ?_); clear hs13
     refine hK12 _ _ ?_; clear hK12
     have hs15 := Sx.keepT [0, 1, 8, 9, 10, 11] [_, _, _, _, _, _] ⟨rfl, rfl, rfl, rfl, rfl, rfl, trivial⟩ hs14; clear hs14
     refine cd_seq fun K13 hK13 => ?_
     refine cd_region fun K14 hK14 => ?_
     refine sq rfl (st_move hs15 (Ev.t 0 rfl) rfl rfl fun _ _ hs16 => ?_); clear hs15
     refine sq rfl (st_cmp (c := false) hs16 (Ev.t 0 rfl) (.const _) rfl rfl rfl rfl fun _ _ hs17 => ?_); clear hs16
     refine hK14 _ _ ?_; clear hK14
     have hs18 := Sx.keepT [0, 2, 3, 4, 5, 6, 7] [_, _, _, _, _, _, _] ⟨rfl, rfl, rfl, rfl, rfl, rfl, rfl, trivial⟩ hs17; clear hs17
     have hc15 : false = false := rfl
     refine cd_cond hs18 (Ev.t 0 rfl) (fun h => absurd (hc15.symm.trans h) (by decide)) (fun _ => ?_)
     refine cd_region fun K16 hK16 => ?_
     refine sq rfl (st_move hs18 (Ev.t 1 rfl) rfl rfl fun _ _ hs19 => ?_); clear hs18
     refine sq rfl (st_cmp (c := false) hs19 (Ev.t 0 rfl) (.const _) rfl rfl rfl rfl fun _ _ hs20 => ?_); clear hs19
     refine sq rfl (st_move hs20 (Ev.t 0 rfl) rfl rfl fun _ _ hs21 => ?_); clear hs20
     refine sq_on hs21 rfl rfl 0 rfl rfl (st_move hs21 (Ev.t 5 rfl) rfl rfl fun _ _ hs22 => ?_); clear hs21
     refine sq_on hs22 rfl rfl 1 rfl rfl (st_len hs22 (Ev.t 0 rfl) rfl rfl Tryd.runUnderlying28 fun _ _ hs23 => ?_); clear hs22
     refine sq_on hs23 rfl rfl 2 rfl rfl (st_cmp (c := false) hs23 (Ev.t 0 rfl) (.const _) rfl rfl rfl rfl fun _ _ hs24 => ?_); clear hs23
     refine sq rfl (st_pick hs24 (Ev.t 3 rfl) rfl rfl (fun h => by cases h) (fun h => (Ev.t 0 rfl)) fun _ _ hs25 => ?_); clear hs24
     refine hK16 _ _ ?_; clear hK16
     have hs26 := Sx.keepT [0, 8, 10, 11, 12, 13] [_, _, _, _, _, _] ⟨rfl, rfl, rfl, rfl, rfl, rfl, trivial⟩ hs25; clear hs25
     have hc17 : false = false := rfl
     refine cd_cond hs26 (Ev.t 0 rfl) (fun h => absurd (hc17.symm.trans h) (by decide)) (fun _ => ?_)
     refine cd_skip ?_
     refine th_norm (hK13 _ _ ?_)
     refine cd_region fun K18 hK18 => ?_
     refine sq rfl (st_loadA (o := 0) (off := 0) (vs := (bookL b A n cp)) hs26 (Ev.t 3 rfl) rfl rfl Tryd.isAgg27 Tryd.sizeOf27 (hs26.cells 0 rfl) rfl fun _ _ hs27 => ?_); clear hs26
     refine sq rfl (st_move hs27 (Ev.t 6 rfl) rfl rfl fun _ _ hs28 => ?_); clear hs27
     refine sq rfl (st_call (vs := [.agg ⟨(bookL b A n cp)⟩, .slice A45 m45 c45]) hs28 (.func _) ⟨(Ev.t 1 rfl), (Ev.t 0 rfl), trivial⟩ rfl rfl Tryd.call36 rfl (chosen_b b A n cp A45 m45 c45 bits5 _ (hP.kp hs28.kp) hn (hI5.kp hs28.kp) (by omega) hb) fun v20 bs21 a_29 w_29 hp29 hs29 => ?_); clear hs28
     obtain ⟨ol, Ao19, co19, bo19, oo19, rfl, hOo19, rfl, hol⟩ := hp29
     have hs30 := Sx.as (T' := [_, _, _, _, _, _, _, _, _]) (B' := [_, _]) rfl rfl hs29; clear hs29
     refine sq rfl (st_assign hs30 (Ev.t 0 rfl) rfl rfl fun _ _ hs31 => ?_); clear hs30
     refine hK18 _ _ ?_; clear hK18
     have hs32 := Sx.keepT [0, 5, 6, 7, 8] [_, _, _, _, _] ⟨rfl, rfl, rfl, rfl, rfl, trivial⟩ hs31; clear hs31
     obtain ⟨q9, hfo, hq9, -, hall9⟩ := (fails_cases hok hol).resolve_left (fun h => by rw [hbad ol] at h; cases h.2.1)
     have holl := isPlan_len hol
     have hw9 : within (q9 : Int) 0 (n : Int) = true := Eng.within_iff.2 (by omega)
     refine cd_region fun K22 hK22 => ?_
     refine sq rfl (st_loadA (o := 0) (off := 0) (vs := (bookL b A n cp)) hs32 (Ev.t 3 rfl) rfl rfl Tryd.isAgg27 Tryd.sizeOf27 (hs32.cells 1 rfl) rfl fun _ _ hs33 => ?_); clear hs32
     refine sq rfl (st_move hs33 (Ev.t 1 rfl) rfl rfl fun _ _ hs34 => ?_); clear hs33
     refine sq rfl (st_move hs34 (Ev.t 6 rfl) rfl rfl fun _ _ hs35 => ?_); clear hs34
     refine sq rfl (st_call (vs := [.agg ⟨(bookL b A n cp)⟩, .slice Ao19 ol.length co19, .slice A4 m4 c4]) hs35 (.func _) ⟨(Ev.t 2 rfl), (Ev.t 1 rfl), (Ev.t 0 rfl), trivial⟩ rfl rfl Tryd.call34 rfl (happened_b b A n cp Ao19 ol.length co19 ol A4 m4 c4 bits _ (hP.kp hs35.kp) hn (hOo19.at hs35 0 rfl) (by omega) (hI.kp hs35.kp) (by omega) hok hol) fun v24 bs25 a_36 w_36 hp36 hs36 => ?_); clear hs35
     obtain ⟨cs23, ws23, fl23, A123, c123, b123, o123, A223, c223, b223, o223, rfl, h123, h223, rfl, hH23⟩ := hp36
     have hs37 := Sx.as (T' := [_, _, _, _, _, _, _, _, _]) (B' := [_, _, _, _]) rfl rfl hs36; clear hs36
     refine sq rfl (st_alloc hs37 rfl rfl Tryd.zeroValue50 rfl fun b26 _ _ hs38 => ?_); clear hs37
     refine sq rfl (st_store (l' := [.slice A123 cs23.length c123, .slice A223 ws23.length c223, .int .i64 fl23]) (vs := [.slice A123 cs23.length c123, .slice A223 ws23.length c223, .int .i64 fl23]) (i := 0) hs38 (Ev.t 0 rfl) (Ev.t 1 rfl) Tryd.sizeOf50 rfl rfl rfl rfl rfl rfl fun _ _ hs39 => ?_); clear hs38
     have hs40 := Sx.as (T' := [_, _, _, _, _, _, _, _, _, _]) (B' := [_, _, _, _, _]) rfl rfl hs39; clear hs39
     refine hK22 _ _ ?_; clear hK22
     have hs41 := Sx.keepT [0, 5, 6, 7, 8] [_, _, _, _, _] ⟨rfl, rfl, rfl, rfl, rfl, trivial⟩ hs40; clear hs40
     have hfl2 := hap_fl hb hH23 hall9 (by omega)
     refine cd_region fun K27 hK27 => ?_
     refine sq rfl (st_loadA (o := 0) (off := 0) (vs := (bookL b A n cp)) hs41 (Ev.t 4 rfl) rfl rfl Tryd.isAgg27 Tryd.sizeOf27 (hs41.cells 4 rfl) rfl fun _ _ hs42 => ?_); clear hs41
     refine sq rfl (st_move hs42 (Ev.t 2 rfl) rfl rfl fun _ _ hs43 => ?_); clear hs42
     refine sq rfl (st_callv (vs := [.agg ⟨(bookL b A n cp)⟩, .slice Ao19 ol.length co19]) hs43 (.func _) ⟨(Ev.t 1 rfl), (Ev.t 0 rfl), trivial⟩ rfl rfl Tryd.call21 rfl (callsV_eq (v' := .tuple ⟨[.int .i64 (q9 : Int), .int .i64 0]⟩) (Fails_v b A n cp Ao19 ol.length co19 ol _ (hP.kp hs43.kp) hn (hOo19.at hs43 3 rfl) (by omega) (hG.kp hs43.kp (by simp))) (by rw [hfo])) fun _ _ hs44 => ?_); clear hs43
     refine sq rfl (st_move hs44 (Ev.t 0 rfl) rfl rfl fun _ _ hs45 => ?_); clear hs44
     refine sq rfl (st_extract hs45 (Ev.t 0 rfl) rfl rfl rfl fun _ _ hs46 => ?_); clear hs45
     refine sq rfl (st_extract hs46 (Ev.t 1 rfl) rfl rfl rfl fun _ _ hs47 => ?_); clear hs46
     refine sq rfl (st_assign hs47 (Ev.t 1 rfl) rfl rfl fun _ _ hs48 => ?_); clear hs47
     refine sq rfl (st_assign hs48 (Ev.t 1 rfl) rfl rfl fun _ _ hs49 => ?_); clear hs48
     refine hK27 _ _ ?_; clear hK27
     have hs50 := Sx.keepT [0, 1, 8, 9, 10, 11, 12] [_, _, _, _, _, _, _] ⟨rfl, rfl, rfl, rfl, rfl, rfl, rfl, trivial⟩ hs49; clear hs49
     refine cd_seq fun K28 hK28 => ?_
     refine cd_region fun K29 hK29 => ?_
     refine sq rfl (st_move hs50 (Ev.t 0 rfl) rfl rfl fun _ _ hs51 => ?_); clear hs50
     refine sq rfl (st_cmp (c := false) hs51 (Ev.t 0 rfl) (.const _) rfl rfl rfl rfl fun _ _ hs52 => ?_); clear hs51
     refine hK29 _ _ ?_; clear hK29
     have hs53 := Sx.keepT [0, 2, 3, 4, 5, 6, 7, 8] [_, _, _, _, _, _, _, _] ⟨rfl, rfl, rfl, rfl, rfl, rfl, rfl, rfl, trivial⟩ hs52; clear hs52
     have hc30 : false = false := rfl
     refine cd_cond hs53 (Ev.t 0 rfl) (fun h => absurd (hc30.symm.trans h) (by decide)) (fun _ => ?_)
     refine cd_skip ?_
     refine th_norm (hK28 _ _ ?_)
     refine cd_region fun K31 hK31 => ?_
     refine sq rfl (st_move hs53 (Ev.t 1 rfl) rfl rfl fun _ _ hs54 => ?_); clear hs53
     refine sq rfl (st_cmp (c := true) hs54 (Ev.t 0 rfl) (.const _) rfl rfl rfl rfl fun _ _ hs55 => ?_); clear hs54
     refine sq rfl (st_move hs55 (Ev.t 0 rfl) rfl rfl fun _ _ hs56 => ?_); clear hs55
     refine sq_off hs56 rfl rfl 0 rfl rfl rfl rfl rfl fun _ _ hs57 => ?_; clear hs56
     refine sq_off hs57 rfl rfl 1 rfl rfl rfl rfl rfl fun _ _ hs58 => ?_; clear hs57
     refine sq_off hs58 rfl rfl 2 rfl rfl rfl rfl rfl fun _ _ hs59 => ?_; clear hs58
     refine sq_off hs59 rfl rfl 0 rfl rfl rfl rfl rfl fun _ _ hs60 => ?_; clear hs59
     refine sq_off hs60 rfl rfl 1 rfl rfl rfl rfl rfl fun _ _ hs61 => ?_; clear hs60
     refine sq_off hs61 rfl rfl 5 rfl rfl rfl rfl rfl fun _ _ hs62 => ?_; clear hs61
     refine sq rfl (st_pick hs62 (Ev.t 6 rfl) rfl rfl (fun h => (.const _)) (fun h => by cases h) fun _ _ hs63 => ?_); clear hs62
     refine sq rfl (st_move hs63 (Ev.t 0 rfl) rfl rfl fun _ _ hs64 => ?_); clear hs63
     refine sq_on hs64 rfl rfl 0 rfl rfl (st_field (o' := 2) hs64 (Ev.t 14 rfl) rfl rfl Tryd.runUnderlying50 rfl Tryd.sizeOf3 rfl rfl fun _ _ hs65 => ?_); clear hs64
     refine sq_on hs65 rfl rfl 1 rfl rfl (st_load1 (o := 0) (off := 2) (v := .int .i64 fl23) hs65 (Ev.t 0 rfl) rfl rfl Tryd.isAgg3 (hs65.cells 0 rfl) rfl fun _ _ hs66 => ?_); clear hs65
     refine sq_on hs66 rfl rfl 2 rfl rfl (st_move hs66 (Ev.t 15 rfl) rfl rfl fun _ _ hs67 => ?_); clear hs66
     refine sq_on hs67 rfl rfl 3 rfl rfl (st_cmp (c := decide ((fl23 : Int) ≥ (q9 : Int))) hs67 (Ev.t 1 rfl) (Ev.t 0 rfl) rfl rfl rfl rfl fun _ _ hs68 => ?_); clear hs67
     have hs69 := Sx.keepE [0, 1, 2, 3, 4, 5, 6, 7, 8, 9, 10, 11, 12, 13, 14, 15, 16, 17, 18, 19, 20, 21, 22] [(84, .bool true), (83, _), (82, _), (81, _), (80, _), (79, _), (78, _), (77, _), (76, _), (75, _), (74, _), (73, _), (72, _), (71, _), (70, _), (66, _), (12, _), (11, _), (10, _), (7, _), (8, _), (6, _), (3, _)] ⟨⟨_, rfl, (by congr 1; simp; omega)⟩, ⟨_, rfl, rfl⟩, ⟨_, rfl, rfl⟩, ⟨_, rfl, rfl⟩, ⟨_, rfl, rfl⟩, ⟨_, rfl, rfl⟩, ⟨_, rfl, rfl⟩, ⟨_, rfl, rfl⟩, ⟨_, rfl, rfl⟩, ⟨_, rfl, rfl⟩, ⟨_, rfl, rfl⟩, ⟨_, rfl, rfl⟩, ⟨_, rfl, rfl⟩, ⟨_, rfl, rfl⟩, ⟨_, rfl, rfl⟩, ⟨_, rfl, rfl⟩, ⟨_, rfl, rfl⟩, ⟨_, rfl, rfl⟩, ⟨_, rfl, rfl⟩, ⟨_, rfl, rfl⟩, ⟨_, rfl, rfl⟩, ⟨_, rfl, rfl⟩, ⟨_, rfl, rfl⟩, trivial⟩ hs68; clear hs68
     refine sq rfl (st_pick hs69 (Ev.t 4 rfl) rfl rfl (fun h => (Ev.t 0 rfl)) (fun h => by cases h) fun _ _ hs70 => ?_); clear hs69
     refine sq rfl (st_move hs70 (Ev.t 0 rfl) rfl rfl fun _ _ hs71 => ?_); clear hs70
     refine sq_on hs71 rfl rfl 0 rfl rfl (st_move hs71 (Ev.t 19 rfl) rfl rfl fun _ _ hs72 => ?_); clear hs71
     refine sq_on hs72 rfl rfl 1 rfl rfl (st_field (o' := 22) hs72 (Ev.t 25 rfl) rfl rfl Tryd.runUnderlying27 rfl Tryd.sizeOf25 rfl rfl fun _ _ hs73 => ?_); clear hs72
     refine sq_on hs73 rfl rfl 2 rfl rfl (st_load1 (o := 0) (off := 22) (v := .slice A n cp) hs73 (Ev.t 0 rfl) rfl rfl Tryd.isAgg25 (hs73.cells 4 rfl) rfl fun _ _ hs74 => ?_); clear hs73
     refine sq_on hs74 rfl rfl 3 rfl rfl (st_len hs74 (Ev.t 0 rfl) rfl rfl Tryd.runUnderlying25 fun _ _ hs75 => ?_); clear hs74
     refine sq_on hs75 rfl rfl 4 rfl rfl (st_callv (vs := [.int .i64 (q9 : Int), .int .i64 0, .int .i64 (n : Int)]) hs75 (.func _) ⟨(Ev.t 3 rfl), (.const _), (Ev.t 0 rfl), trivial⟩ rfl rfl Tryd.call37 rfl (amid_t (q9 : Int) 0 (n : Int) (by assumption) _) fun _ _ hs76 => ?_); clear hs75
     refine sq rfl (st_pick hs76 (Ev.t 5 rfl) rfl rfl (fun h => (Ev.t 0 rfl)) (fun h => by cases h) fun _ _ hs77 => ?_); clear hs76
     refine sq rfl (st_move hs77 (Ev.t 0 rfl) rfl rfl fun _ _ hs78 => ?_); clear hs77
     refine sq_on hs78 rfl rfl 0 rfl rfl (st_loadA (o := 0) (off := 0) (vs := (bookL b A n cp)) hs78 (Ev.t 31 rfl) rfl rfl Tryd.isAgg27 Tryd.sizeOf27 (hs78.cells 4 rfl) rfl fun _ _ hs79 => ?_); clear hs78
     refine sq_on hs79 rfl rfl 1 rfl rfl (st_move hs79 (Ev.t 29 rfl) rfl rfl fun _ _ hs80 => ?_); clear hs79
     refine sq_on hs80 rfl rfl 2 rfl rfl (st_loadA (o := 0) (off := 0) (vs := [.slice A123 cs23.length c123, .slice A223 ws23.length c223, .int .i64 fl23]) hs80 (Ev.t 29 rfl) rfl rfl Tryd.isAgg50 Tryd.sizeOf50 (hs80.cells 0 rfl) rfl fun _ _ hs81 => ?_); clear hs80
     refine sq_on hs81 rfl rfl 3 rfl rfl (st_callv (vs := [.agg ⟨(bookL b A n cp)⟩, .slice Ao19 ol.length co19, .agg ⟨[.slice A123 cs23.length c123, .slice A223 ws23.length c223, .int .i64 fl23]⟩]) hs81 (.func _) ⟨(Ev.t 2 rfl), (Ev.t 1 rfl), (Ev.t 0 rfl), trivial⟩ rfl rfl Tryd.call35 rfl (lies_v b A n cp Ao19 ol.length co19 ol A123 cs23.length c123 cs23 A223 ws23.length c223 ws23 fl23 _ (hP.kp hs81.kp) hn (hOo19.at hs81 3 rfl) (by omega) (hG.kp hs81.kp (by simp)) hok hol hH23 (h123.at hs81 1 rfl) (h223.at hs81 2 rfl)) fun _ _ hs82 => ?_); clear hs81
     refine sq rfl (st_pick hs82 (Ev.t 4 rfl) rfl rfl (fun h => (Ev.t 0 rfl)) (fun h => by cases h) fun _ _ hs83 => ?_); clear hs82
     refine sq rfl (st_move hs83 (Ev.t 0 rfl) rfl rfl fun _ _ hs84 => ?_); clear hs83
     refine sq_on hs84 rfl rfl 0 rfl rfl (st_callv (vs := []) hs84 (.func _) trivial rfl rfl Tryd.call20 rfl (fired_v _ (hG.kp hs84.kp (by simp))) fun _ _ hs85 => ?_); clear hs84
     refine sq rfl (st_pick hs85 (Ev.t 1 rfl) rfl rfl (fun h => (Ev.t 0 rfl)) (fun h => by cases h) fun _ _ hs86 => ?_); clear hs85
     have hs87 := Sx.keepT [0, 1, 2, 3, 4, 5, 6, 7, 8, 9, 10, 11, 12, 13, 14, 15, 16, 17, 18, 19, 20, 21, 22, 23, 24, 25, 26, 27, 28, 29, 30, 31, 32, 33, 34, 35, 36, 37, 39] [_, _, _, _, _, _, _, _, _, _, _, _, _, _, _, _, _, _, _, _, _, _, _, _, _, _, _, _, _, _, _, _, _, _, _, _, _, _, _] ⟨rfl, rfl, rfl, rfl, rfl, rfl, rfl, rfl, rfl, rfl, rfl, rfl, rfl, rfl, rfl, rfl, rfl, rfl, rfl, rfl, rfl, rfl, rfl, rfl, rfl, rfl, rfl, rfl, rfl, rfl, rfl, rfl, rfl, rfl, rfl, rfl, rfl, rfl, rfl, trivial⟩ hs86; clear hs86
     refine sq rfl (st_assign hs87 (Ev.t 0 rfl) rfl rfl fun _ _ hs88 => ?_); clear hs87
     refine hK31 _ _ ?_; clear hK31
     have hs89 := Sx.keepT [0] [_] ⟨rfl, trivial⟩ hs88; clear hs88
     refine cd_retv (vs := [.bool true]) hs89 hQ0 rfl ⟨.tmp 0 rfl, trivial⟩ ?_
     clear hs89 hQ0 hN0
     first | rfl | (simp [pack]; done)
   · skip
     obtain ⟨rfl, hgood, -⟩ := planR_some hok hR
     have hipl := good_isPlan hgood
     have hpll := isPlan_len hipl
     refine cd_region fun K32 hK32 => ?_
     refine sq rfl (st_box hs0 (Ev.t 0 rfl) rfl rfl rfl fun b33 _ _ hs1 => ?_); clear hs0
     refine sq rfl (st_assign hs1 (.const _) rfl rfl fun _ _ hs2 => ?_); clear hs1
     refine hK32 _ _ ?_; clear hK32
     have hs3 := Sx.keepT [0, 1, 3, 4] [_, _, _, _] ⟨rfl, rfl, rfl, rfl, trivial⟩ hs2; clear hs2
     refine cd_seq fun K34 hK34 => ?_
     refine cd_region fun K35 hK35 => ?_
     refine sq rfl (st_loadA (o := 0) (off := 0) (vs := (bookL b A n cp)) hs3 (Ev.t 1 rfl) rfl rfl Tryd.isAgg27 Tryd.sizeOf27 (hs3.cells 0 rfl) rfl fun _ _ hs4 => ?_); clear hs3
     refine sq rfl (st_callv (vs := [.agg ⟨(bookL b A n cp)⟩]) hs4 (.func _) ⟨(Ev.t 0 rfl), trivial⟩ rfl rfl Tryd.call32 rfl (callsV_eq (v' := .bool true) (sound_v b A n cp _ (hP.kp hs4.kp) hn) (by rw [hok])) fun _ _ hs5 => ?_); clear hs4
     refine sq rfl (st_not hs5 (Ev.t 0 rfl) rfl rfl fun _ _ hs6 => ?_); clear hs5
     refine hK35 _ _ ?_; clear hK35
     have hs7 := Sx.keepT [0, 3, 4, 5, 6] [_, _, _, _, _] ⟨rfl, rfl, rfl, rfl, rfl, trivial⟩ hs6; clear hs6
     have hc36 : false = false := rfl
     refine cd_cond hs7 (Ev.t 0 rfl) (fun h => absurd (hc36.symm.trans h) (by decide)) (fun _ => ?_)
     refine cd_skip ?_
     refine th_norm (hK34 _ _ ?_)
     refine cd_region fun K37 hK37 => ?_
     refine sq rfl (st_loadA (o := 0) (off := 0) (vs := (bookL b A n cp)) hs7 (Ev.t 2 rfl) rfl rfl Tryd.isAgg27 Tryd.sizeOf27 (hs7.cells 0 rfl) rfl fun _ _ hs8 => ?_); clear hs7
     refine sq rfl (st_call (vs := [.agg ⟨(bookL b A n cp)⟩]) hs8 (.func _) ⟨(Ev.t 0 rfl), trivial⟩ rfl rfl Tryd.call23 rfl (plansV_some hR (Plan_b b A n cp _ (hP.kp hs8.kp) hn (hG.kp hs8.kp (by simp)))) fun v39 bs40 a_9 w_9 hp9 hs9 => ?_); clear hs8
     obtain ⟨A38, c38, b38, o38, rfl, hO38, rfl⟩ := hp9
     have hs10 := Sx.as (T' := [_, _, _, _, _, _, _]) (B' := [_, _]) rfl rfl hs9; clear hs9
     refine sq rfl (st_move hs10 (Ev.t 0 rfl) rfl rfl fun _ _ hs11 => ?_); clear hs10
     refine sq rfl (st_extract hs11 (Ev.t 0 rfl) rfl rfl rfl fun _ _ hs12 => ?_); clear hs11
     refine sq rfl (st_extract hs12 (Ev.t 1 rfl) rfl rfl rfl fun _ _ hs13 => ?_); clear hs12
     refine sq rfl (st_assign hs13 (Ev.t 1 rfl) rfl rfl fun _ _ hs14 => ?_); clear hs13
     refine sq rfl (st_assign hs14 (Ev.t 1 rfl) rfl rfl fun _ _ hs15 => ?_); clear hs14
     refine hK37 _ _ ?_; clear hK37
     have hs16 := Sx.keepT [0, 1, 8, 9, 10, 11] [_, _, _, _, _, _] ⟨rfl, rfl, rfl, rfl, rfl, rfl, trivial⟩ hs15; clear hs15
     refine cd_seq fun K41 hK41 => ?_
     refine cd_region fun K42 hK42 => ?_
     refine sq rfl (st_move hs16 (Ev.t 0 rfl) rfl rfl fun _ _ hs17 => ?_); clear hs16
     refine sq rfl (st_cmp (c := true) hs17 (Ev.t 0 rfl) (.const _) rfl rfl rfl rfl fun _ _ hs18 => ?_); clear hs17
     refine hK42 _ _ ?_; clear hK42
     have hs19 := Sx.keepT [0, 2, 3, 4, 5, 6, 7] [_, _, _, _, _, _, _] ⟨rfl, rfl, rfl, rfl, rfl, rfl, rfl, trivial⟩ hs18; clear hs18
     have hc43 : true = true := rfl
     refine cd_cond hs19 (Ev.t 0 rfl) (fun _ => ?_) (fun h => absurd (hc43.symm.trans h) (by decide))
     refine cd_seq fun K44 hK44 => ?_
     refine cd_region fun K45 hK45 => ?_
     refine sq rfl (st_loadA (o := 0) (off := 0) (vs := (bookL b A n cp)) hs19 (Ev.t 4 rfl) rfl rfl Tryd.isAgg27 Tryd.sizeOf27 (hs19.cells 1 rfl) rfl fun _ _ hs20 => ?_); clear hs19
     refine sq rfl (st_move hs20 (Ev.t 3 rfl) rfl rfl fun _ _ hs21 => ?_); clear hs20
     refine sq rfl (st_callv (vs := [.agg ⟨(bookL b A n cp)⟩, .slice A38 pl.length c38]) hs21 (.func _) ⟨(Ev.t 1 rfl), (Ev.t 0 rfl), trivial⟩ rfl rfl Tryd.call33 rfl (callsV_eq (v' := .bool true) (allowed_v b A n cp A38 pl.length c38 pl _ (hP.kp hs21.kp) hn (hO38.at hs21 0 rfl) (by omega) hb) (by rw [good_isPlan hgood])) fun _ _ hs22 => ?_); clear hs21
     refine sq rfl (st_not hs22 (Ev.t 0 rfl) rfl rfl fun _ _ hs23 => ?_); clear hs22
     refine hK45 _ _ ?_; clear hK45
     have hs24 := Sx.keepT [0, 5, 6, 7, 8, 9, 10] [_, _, _, _, _, _, _] ⟨rfl, rfl, rfl, rfl, rfl, rfl, rfl, trivial⟩ hs23; clear hs23
     have hc46 : false = false := rfl
     refine cd_cond hs24 (Ev.t 0 rfl) (fun h => absurd (hc46.symm.trans h) (by decide)) (fun _ => ?_)
     refine cd_skip ?_
     refine th_norm (hK44 _ _ ?_)
     refine cd_region fun K47 hK47 => ?_
     refine sq rfl (st_loadA (o := 0) (off := 0) (vs := (bookL b A n cp)) hs24 (Ev.t 4 rfl) rfl rfl Tryd.isAgg27 Tryd.sizeOf27 (hs24.cells 1 rfl) rfl fun _ _ hs25 => ?_); clear hs24
     refine sq rfl (st_move hs25 (Ev.t 3 rfl) rfl rfl fun _ _ hs26 => ?_); clear hs25
     refine sq rfl (st_move hs26 (Ev.t 7 rfl) rfl rfl fun _ _ hs27 => ?_); clear hs26
     refine sq rfl (st_call (vs := [.agg ⟨(bookL b A n cp)⟩, .slice A38 pl.length c38, .slice A4 m4 c4]) hs27 (.func _) ⟨(Ev.t 2 rfl), (Ev.t 1 rfl), (Ev.t 0 rfl), trivial⟩ rfl rfl Tryd.call34 rfl (happened_b b A n cp A38 pl.length c38 pl A4 m4 c4 bits _ (hP.kp hs27.kp) hn (hO38.at hs27 0 rfl) (by omega) (hI.kp hs27.kp) (by omega) hok hipl) fun v49 bs50 a_28 w_28 hp28 hs28 => ?_); clear hs27
     obtain ⟨cs48, ws48, fl48, A148, c148, b148, o148, A248, c248, b248, o248, rfl, h148, h248, rfl, hH48⟩ := hp28
     have hs29 := Sx.as (T' := [_, _, _, _, _, _, _, _, _, _, _]) (B' := [_, _, _, _]) rfl rfl hs28; clear hs28
     refine sq rfl (st_alloc hs29 rfl rfl Tryd.zeroValue50 rfl fun b51 _ _ hs30 => ?_); clear hs29
     refine sq rfl (st_store (l' := [.slice A148 cs48.length c148, .slice A248 ws48.length c248, .int .i64 fl48]) (vs := [.slice A148 cs48.length c148, .slice A248 ws48.length c248, .int .i64 fl48]) (i := 0) hs30 (Ev.t 0 rfl) (Ev.t 1 rfl) Tryd.sizeOf50 rfl rfl rfl rfl rfl rfl fun _ _ hs31 => ?_); clear hs30
     have hs32 := Sx.as (T' := [_, _, _, _, _, _, _, _, _, _, _, _]) (B' := [_, _, _, _, _]) rfl rfl hs31; clear hs31
     refine hK47 _ _ ?_; clear hK47
     have hs33 := Sx.keepT [0, 6, 7, 8, 9, 10, 11] [_, _, _, _, _, _, _] ⟨rfl, rfl, rfl, rfl, rfl, rfl, rfl, trivial⟩ hs32; clear hs32
     have hfl1 := hap_fl hb hH48 (good_all hipl hgood) (Nat.le_refl _)
     refine cd_region fun K52 hK52 => ?_
     refine sq rfl (st_field (o' := 2) hs33 (Ev.t 0 rfl) rfl rfl Tryd.runUnderlying50 rfl Tryd.sizeOf3 rfl rfl fun _ _ hs34 => ?_); clear hs33
     refine sq rfl (st_load1 (o := 0) (off := 2) (v := .int .i64 fl48) hs34 (Ev.t 0 rfl) rfl rfl Tryd.isAgg3 (hs34.cells 0 rfl) rfl fun _ _ hs35 => ?_); clear hs34
     refine sq rfl (st_field (o' := 22) hs35 (Ev.t 6 rfl) rfl rfl Tryd.runUnderlying27 rfl Tryd.sizeOf25 rfl rfl fun _ _ hs36 => ?_); clear hs35
     refine sq rfl (st_load1 (o := 0) (off := 22) (v := .slice A n cp) hs36 (Ev.t 0 rfl) rfl rfl Tryd.isAgg25 (hs36.cells 4 rfl) rfl fun _ _ hs37 => ?_); clear hs36
     refine sq rfl (st_len hs37 (Ev.t 0 rfl) rfl rfl Tryd.runUnderlying25 fun _ _ hs38 => ?_); clear hs37
     refine sq rfl (st_cmp (c := decide ((fl48 : Int) < (n : Int))) hs38 (Ev.t 3 rfl) (Ev.t 0 rfl) rfl rfl rfl rfl fun _ _ hs39 => ?_); clear hs38
     have hs40 := Sx.keepE [0, 1, 2, 3, 4, 5, 6, 7, 8, 9, 10, 11, 12] [(37, .bool false), (36, _), (35, _), (34, _), (33, _), (32, _), (9, _), (8, _), (7, _), (6, _), (3, _), (1, _), (2, _)] ⟨⟨_, rfl, (by congr 1; simp; omega)⟩, ⟨_, rfl, rfl⟩, ⟨_, rfl, rfl⟩, ⟨_, rfl, rfl⟩, ⟨_, rfl, rfl⟩, ⟨_, rfl, rfl⟩, ⟨_, rfl, rfl⟩, ⟨_, rfl, rfl⟩, ⟨_, rfl, rfl⟩, ⟨_, rfl, rfl⟩, ⟨_, rfl, rfl⟩, ⟨_, rfl, rfl⟩, ⟨_, rfl, rfl⟩, trivial⟩ hs39; clear hs39
     refine sq rfl (st_move hs40 (Ev.t 0 rfl) rfl rfl fun _ _ hs41 => ?_); clear hs40
     refine sq_on hs41 rfl rfl 0 rfl rfl (st_loadA (o := 0) (off := 0) (vs := (bookL b A n cp)) hs41 (Ev.t 11 rfl) rfl rfl Tryd.isAgg27 Tryd.sizeOf27 (hs41.cells 4 rfl) rfl fun _ _ hs42 => ?_); clear hs41
     refine sq_on hs42 rfl rfl 1 rfl rfl (st_move hs42 (Ev.t 10 rfl) rfl rfl fun _ _ hs43 => ?_); clear hs42
     refine sq_on hs43 rfl rfl 2 rfl rfl (st_loadA (o := 0) (off := 0) (vs := [.slice A148 cs48.length c148, .slice A248 ws48.length c248, .int .i64 fl48]) hs43 (Ev.t 9 rfl) rfl rfl Tryd.isAgg50 Tryd.sizeOf50 (hs43.cells 0 rfl) rfl fun _ _ hs44 => ?_); clear hs43
     refine sq_on hs44 rfl rfl 3 rfl rfl (st_callv (vs := [.agg ⟨(bookL b A n cp)⟩, .slice A38 pl.length c38, .agg ⟨[.slice A148 cs48.length c148, .slice A248 ws48.length c248, .int .i64 fl48]⟩]) hs44 (.func _) ⟨(Ev.t 2 rfl), (Ev.t 1 rfl), (Ev.t 0 rfl), trivial⟩ rfl rfl Tryd.call35 rfl (lies_v b A n cp A38 pl.length c38 pl A148 cs48.length c148 cs48 A248 ws48.length c248 ws48 fl48 _ (hP.kp hs44.kp) hn (hO38.at hs44 3 rfl) (by omega) (hG.kp hs44.kp (by simp)) hok hipl hH48 (h148.at hs44 1 rfl) (h248.at hs44 2 rfl)) fun _ _ hs45 => ?_); clear hs44
     refine sq_on hs45 rfl rfl 4 rfl rfl (st_not hs45 (Ev.t 0 rfl) rfl rfl fun _ _ hs46 => ?_); clear hs45
     refine sq rfl (st_pick hs46 (Ev.t 5 rfl) rfl rfl (fun h => by cases h) (fun h => (Ev.t 0 rfl)) fun _ _ hs47 => ?_); clear hs46
     refine hK52 _ _ ?_; clear hK52
     have hs48 := Sx.keepT [0, 14, 16, 17, 18, 19] [_, _, _, _, _, _] ⟨rfl, rfl, rfl, rfl, rfl, rfl, trivial⟩ hs47; clear hs47
     have hc53 : false = false := rfl
     refine cd_cond hs48 (Ev.t 0 rfl) (fun h => absurd (hc53.symm.trans h) (by decide)) (fun _ => ?_)
     refine cd_skip ?_
     refine th_norm (hK41 _ _ ?_)
     refine cd_region fun K54 hK54 => ?_
     refine sq rfl (st_loadA (o := 0) (off := 0) (vs := (bookL b A n cp)) hs48 (Ev.t 3 rfl) rfl rfl Tryd.isAgg27 Tryd.sizeOf27 (hs48.cells 4 rfl) rfl fun _ _ hs49 => ?_); clear hs48
     refine sq rfl (st_move hs49 (Ev.t 6 rfl) rfl rfl fun _ _ hs50 => ?_); clear hs49
     refine sq rfl (st_call (vs := [.agg ⟨(bookL b A n cp)⟩, .slice A45 m45 c45]) hs50 (.func _) ⟨(Ev.t 1 rfl), (Ev.t 0 rfl), trivial⟩ rfl rfl Tryd.call36 rfl (chosen_b b A n cp A45 m45 c45 bits5 _ (hP.kp hs50.kp) hn (hI5.kp hs50.kp) (by omega) hb) fun v56 bs57 a_51 w_51 hp51 hs51 => ?_); clear hs50
     obtain ⟨ol, Ao55, co55, bo55, oo55, rfl, hOo55, rfl, hol⟩ := hp51
     have hs52 := Sx.as (T' := [_, _, _, _, _, _, _, _, _]) (B' := [_, _, _, _, _, _]) rfl rfl hs51; clear hs51
     refine sq rfl (st_assign hs52 (Ev.t 0 rfl) rfl rfl fun _ _ hs53 => ?_); clear hs52
     refine hK54 _ _ ?_; clear hK54
     have hs54 := Sx.keepT [0, 5, 6, 7, 8] [_, _, _, _, _] ⟨rfl, rfl, rfl, rfl, rfl, trivial⟩ hs53; clear hs53
     rcases fails_cases hok hol with ⟨hfo, -, hall9⟩ | ⟨q9, hfo, hq9, -, hall9⟩
     · skip
       have holl := isPlan_len hol
       have hw9 : within (n : Int) 0 (n : Int) = true := Eng.within_iff.2 (by omega)
       refine cd_region fun K58 hK58 => ?_
       refine sq rfl (st_loadA (o := 0) (off := 0) (vs := (bookL b A n cp)) hs54 (Ev.t 3 rfl) rfl rfl Tryd.isAgg27 Tryd.sizeOf27 (hs54.cells 5 rfl) rfl fun _ _ hs55 => ?_); clear hs54
       refine sq rfl (st_move hs55 (Ev.t 1 rfl) rfl rfl fun _ _ hs56 => ?_); clear hs55
       refine sq rfl (st_move hs56 (Ev.t 6 rfl) rfl rfl fun _ _ hs57 => ?_); clear hs56
       refine sq rfl (st_call (vs := [.agg ⟨(bookL b A n cp)⟩, .slice Ao55 ol.length co55, .slice A4 m4 c4]) hs57 (.func _) ⟨(Ev.t 2 rfl), (Ev.t 1 rfl), (Ev.t 0 rfl), trivial⟩ rfl rfl Tryd.call34 rfl (happened_b b A n cp Ao55 ol.length co55 ol A4 m4 c4 bits _ (hP.kp hs57.kp) hn (hOo55.at hs57 0 rfl) (by omega) (hI.kp hs57.kp) (by omega) hok hol) fun v60 bs61 a_58 w_58 hp58 hs58 => ?_); clear hs57
       obtain ⟨cs59, ws59, fl59, A159, c159, b159, o159, A259, c259, b259, o259, rfl, h159, h259, rfl, hH59⟩ := hp58
       have hs59 := Sx.as (T' := [_, _, _, _, _, _, _, _, _]) (B' := [_, _, _, _, _, _, _, _]) rfl rfl hs58; clear hs58
       refine sq rfl (st_alloc hs59 rfl rfl Tryd.zeroValue50 rfl fun b62 _ _ hs60 => ?_); clear hs59
       refine sq rfl (st_store (l' := [.slice A159 cs59.length c159, .slice A259 ws59.length c259, .int .i64 fl59]) (vs := [.slice A159 cs59.length c159, .slice A259 ws59.length c259, .int .i64 fl59]) (i := 0) hs60 (Ev.t 0 rfl) (Ev.t 1 rfl) Tryd.sizeOf50 rfl rfl rfl rfl rfl rfl fun _ _ hs61 => ?_); clear hs60
       have hs62 := Sx.as (T' := [_, _, _, _, _, _, _, _, _, _]) (B' := [_, _, _, _, _, _, _, _, _]) rfl rfl hs61; clear hs61
       refine hK58 _ _ ?_; clear hK58
       have hs63 := Sx.keepT [0, 5, 6, 7, 8] [_, _, _, _, _] ⟨rfl, rfl, rfl, rfl, rfl, trivial⟩ hs62; clear hs62
       have hfl2 := hap_fl hb hH59 hall9 (by omega)
       refine cd_region fun K63 hK63 => ?_
       refine sq rfl (st_loadA (o := 0) (off := 0) (vs := (bookL b A n cp)) hs63 (Ev.t 4 rfl) rfl rfl Tryd.isAgg27 Tryd.sizeOf27 (hs63.cells 8 rfl) rfl fun _ _ hs64 => ?_); clear hs63
       refine sq rfl (st_move hs64 (Ev.t 2 rfl) rfl rfl fun _ _ hs65 => ?_); clear hs64
       refine sq rfl (st_callv (vs := [.agg ⟨(bookL b A n cp)⟩, .slice Ao55 ol.length co55]) hs65 (.func _) ⟨(Ev.t 1 rfl), (Ev.t 0 rfl), trivial⟩ rfl rfl Tryd.call21 rfl (callsV_eq (v' := .tuple ⟨[.int .i64 0, .int .i64 4]⟩) (Fails_v b A n cp Ao55 ol.length co55 ol _ (hP.kp hs65.kp) hn (hOo55.at hs65 3 rfl) (by omega) (hG.kp hs65.kp (by simp))) (by rw [hfo])) fun _ _ hs66 => ?_); clear hs65
       refine sq rfl (st_move hs66 (Ev.t 0 rfl) rfl rfl fun _ _ hs67 => ?_); clear hs66
       refine sq rfl (st_extract hs67 (Ev.t 0 rfl) rfl rfl rfl fun _ _ hs68 => ?_); clear hs67
       refine sq rfl (st_extract hs68 (Ev.t 1 rfl) rfl rfl rfl fun _ _ hs69 => ?_); clear hs68
       refine sq rfl (st_assign hs69 (Ev.t 1 rfl) rfl rfl fun _ _ hs70 => ?_); clear hs69
       refine sq rfl (st_assign hs70 (Ev.t 1 rfl) rfl rfl fun _ _ hs71 => ?_); clear hs70
       refine hK63 _ _ ?_; clear hK63
       have hs72 := Sx.keepT [0, 1, 8, 9, 10, 11, 12] [_, _, _, _, _, _, _] ⟨rfl, rfl, rfl, rfl, rfl, rfl, rfl, trivial⟩ hs71; clear hs71
       refine cd_seq fun K64 hK64 => ?_
       refine cd_region fun K65 hK65 => ?_
       refine sq rfl (st_move hs72 (Ev.t 0 rfl) rfl rfl fun _ _ hs73 => ?_); clear hs72
       refine sq rfl (st_cmp (c := true) hs73 (Ev.t 0 rfl) (.const _) rfl rfl rfl rfl fun _ _ hs74 => ?_); clear hs73
       refine hK65 _ _ ?_; clear hK65
       have hs75 := Sx.keepT [0, 2, 3, 4, 5, 6, 7, 8] [_, _, _, _, _, _, _, _] ⟨rfl, rfl, rfl, rfl, rfl, rfl, rfl, rfl, trivial⟩ hs74; clear hs74
       have hc66 : true = true := rfl
       refine cd_cond hs75 (Ev.t 0 rfl) (fun _ => ?_) (fun h => absurd (hc66.symm.trans h) (by decide))
       refine cd_region1 ?_
       refine sq rfl (st_field (o' := 22) hs75 (Ev.t 7 rfl) rfl rfl Tryd.runUnderlying27 rfl Tryd.sizeOf25 rfl rfl fun _ _ hs76 => ?_); clear hs75
       refine sq rfl (st_load1 (o := 0) (off := 22) (v := .slice A n cp) hs76 (Ev.t 0 rfl) rfl rfl Tryd.isAgg25 (hs76.cells 8 rfl) rfl fun _ _ hs77 => ?_); clear hs76
       refine sq rfl (st_len hs77 (Ev.t 0 rfl) rfl rfl Tryd.runUnderlying25 fun _ _ hs78 => ?_); clear hs77
       have hs79 := Sx.keepT [0, 1, 2, 3, 4, 6, 7, 8, 9, 10] [_, _, _, _, _, _, _, _, _, _] ⟨rfl, rfl, rfl, rfl, rfl, rfl, rfl, rfl, rfl, rfl, trivial⟩ hs78; clear hs78
       refine sq rfl (st_assign hs79 (Ev.t 0 rfl) rfl rfl fun _ _ hs80 => ?_); clear hs79
       refine wpListIn_nil ?_
       have hs81 := Sx.keepT [0, 5, 6, 7, 8, 9, 10] [_, _, _, _, _, _, _] ⟨rfl, rfl, rfl, rfl, rfl, rfl, rfl, trivial⟩ hs80; clear hs80
       refine th_norm (hK64 _ _ ?_)
       refine cd_region fun K67 hK67 => ?_
       refine sq rfl (st_move hs81 (Ev.t 1 rfl) rfl rfl fun _ _ hs82 => ?_); clear hs81
       refine sq rfl (st_cmp (c := false) hs82 (Ev.t 0 rfl) (.const _) rfl rfl rfl rfl fun _ _ hs83 => ?_); clear hs82
       refine sq rfl (st_move hs83 (Ev.t 0 rfl) rfl rfl fun _ _ hs84 => ?_); clear hs83
       refine sq_on hs84 rfl rfl 0 rfl rfl (st_move hs84 (Ev.t 4 rfl) rfl rfl fun _ _ hs85 => ?_); clear hs84
       refine sq_on hs85 rfl rfl 1 rfl rfl (st_cmp (c := true) hs85 (Ev.t 0 rfl) (.const _) rfl rfl rfl rfl fun _ _ hs86 => ?_); clear hs85
       refine sq_on hs86 rfl rfl 2 rfl rfl (st_move hs86 (Ev.t 0 rfl) rfl rfl fun _ _ hs87 => ?_); clear hs86
       refine sq_on hs87 rfl rfl 0 rfl rfl (st_move hs87 (Ev.t 10 rfl) rfl rfl fun _ _ hs88 => ?_); clear hs87
       refine sq_on hs88 rfl rfl 1 rfl rfl (st_cmp (c := true) hs88 (Ev.t 0 rfl) (.const _) rfl rfl rfl rfl fun _ _ hs89 => ?_); clear hs88
       refine sq_on hs89 rfl rfl 5 rfl rfl (st_pick hs89 (Ev.t 2 rfl) rfl rfl (fun h => (Ev.t 0 rfl)) (fun h => by cases h) fun _ _ hs90 => ?_); clear hs89
       refine sq rfl (st_pick hs90 (Ev.t 6 rfl) rfl rfl (fun h => by cases h) (fun h => (Ev.t 0 rfl)) fun _ _ hs91 => ?_); clear hs90
       refine sq rfl (st_move hs91 (Ev.t 0 rfl) rfl rfl fun _ _ hs92 => ?_); clear hs91
       refine sq_on hs92 rfl rfl 0 rfl rfl (st_field (o' := 2) hs92 (Ev.t 13 rfl) rfl rfl Tryd.runUnderlying50 rfl Tryd.sizeOf3 rfl rfl fun _ _ hs93 => ?_); clear hs92
       refine sq_on hs93 rfl rfl 1 rfl rfl (st_load1 (o := 0) (off := 2) (v := .int .i64 fl59) hs93 (Ev.t 0 rfl) rfl rfl Tryd.isAgg3 (hs93.cells 0 rfl) rfl fun _ _ hs94 => ?_); clear hs93
       refine sq_on hs94 rfl rfl 2 rfl rfl (st_move hs94 (Ev.t 13 rfl) rfl rfl fun _ _ hs95 => ?_); clear hs94
       refine sq_on hs95 rfl rfl 3 rfl rfl (st_cmp (c := decide ((fl59 : Int) ≥ (n : Int))) hs95 (Ev.t 1 rfl) (Ev.t 0 rfl) rfl rfl rfl rfl fun _ _ hs96 => ?_); clear hs95
       have hs97 := Sx.keepE [0, 1, 2, 3, 4, 5, 6, 7, 8, 9, 10, 11, 12, 13, 14, 15, 16, 17, 18, 19, 20, 21] [(84, .bool true), (83, _), (82, _), (81, _), (80, _), (79, _), (78, _), (77, _), (76, _), (75, _), (74, _), (73, _), (72, _), (71, _), (70, _), (11, _), (12, _), (10, _), (7, _), (8, _), (6, _), (3, _)] ⟨⟨_, rfl, (by congr 1; simp; omega)⟩, ⟨_, rfl, rfl⟩, ⟨_, rfl, rfl⟩, ⟨_, rfl, rfl⟩, ⟨_, rfl, rfl⟩, ⟨_, rfl, rfl⟩, ⟨_, rfl, rfl⟩, ⟨_, rfl, rfl⟩, ⟨_, rfl, rfl⟩, ⟨_, rfl, rfl⟩, ⟨_, rfl, rfl⟩, ⟨_, rfl, rfl⟩, ⟨_, rfl, rfl⟩, ⟨_, rfl, rfl⟩, ⟨_, rfl, rfl⟩, ⟨_, rfl, rfl⟩, ⟨_, rfl, rfl⟩, ⟨_, rfl, rfl⟩, ⟨_, rfl, rfl⟩, ⟨_, rfl, rfl⟩, ⟨_, rfl, rfl⟩, ⟨_, rfl, rfl⟩, trivial⟩ hs96; clear hs96
       refine sq rfl (st_pick hs97 (Ev.t 4 rfl) rfl rfl (fun h => (Ev.t 0 rfl)) (fun h => by cases h) fun _ _ hs98 => ?_); clear hs97
       refine sq rfl (st_move hs98 (Ev.t 0 rfl) rfl rfl fun _ _ hs99 => ?_); clear hs98
       refine sq_on hs99 rfl rfl 0 rfl rfl (st_move hs99 (Ev.t 17 rfl) rfl rfl fun _ _ hs100 => ?_); clear hs99
       refine sq_on hs100 rfl rfl 1 rfl rfl (st_field (o' := 22) hs100 (Ev.t 24 rfl) rfl rfl Tryd.runUnderlying27 rfl Tryd.sizeOf25 rfl rfl fun _ _ hs101 => ?_); clear hs100
       refine sq_on hs101 rfl rfl 2 rfl rfl (st_load1 (o := 0) (off := 22) (v := .slice A n cp) hs101 (Ev.t 0 rfl) rfl rfl Tryd.isAgg25 (hs101.cells 8 rfl) rfl fun _ _ hs102 => ?_); clear hs101
       refine sq_on hs102 rfl rfl 3 rfl rfl (st_len hs102 (Ev.t 0 rfl) rfl rfl Tryd.runUnderlying25 fun _ _ hs103 => ?_); clear hs102
       refine sq_on hs103 rfl rfl 4 rfl rfl (st_callv (vs := [.int .i64 (n : Int), .int .i64 0, .int .i64 (n : Int)]) hs103 (.func _) ⟨(Ev.t 3 rfl), (.const _), (Ev.t 0 rfl), trivial⟩ rfl rfl Tryd.call37 rfl (amid_t (n : Int) 0 (n : Int) (by assumption) _) fun _ _ hs104 => ?_); clear hs103
       refine sq rfl (st_pick hs104 (Ev.t 5 rfl) rfl rfl (fun h => (Ev.t 0 rfl)) (fun h => by cases h) fun _ _ hs105 => ?_); clear hs104
       refine sq rfl (st_move hs105 (Ev.t 0 rfl) rfl rfl fun _ _ hs106 => ?_); clear hs105
       refine sq_on hs106 rfl rfl 0 rfl rfl (st_loadA (o := 0) (off := 0) (vs := (bookL b A n cp)) hs106 (Ev.t 30 rfl) rfl rfl Tryd.isAgg27 Tryd.sizeOf27 (hs106.cells 8 rfl) rfl fun _ _ hs107 => ?_); clear hs106
       refine sq_on hs107 rfl rfl 1 rfl rfl (st_move hs107 (Ev.t 28 rfl) rfl rfl fun _ _ hs108 => ?_); clear hs107
       refine sq_on hs108 rfl rfl 2 rfl rfl (st_loadA (o := 0) (off := 0) (vs := [.slice A159 cs59.length c159, .slice A259 ws59.length c259, .int .i64 fl59]) hs108 (Ev.t 28 rfl) rfl rfl Tryd.isAgg50 Tryd.sizeOf50 (hs108.cells 0 rfl) rfl fun _ _ hs109 => ?_); clear hs108
       refine sq_on hs109 rfl rfl 3 rfl rfl (st_callv (vs := [.agg ⟨(bookL b A n cp)⟩, .slice Ao55 ol.length co55, .agg ⟨[.slice A159 cs59.length c159, .slice A259 ws59.length c259, .int .i64 fl59]⟩]) hs109 (.func _) ⟨(Ev.t 2 rfl), (Ev.t 1 rfl), (Ev.t 0 rfl), trivial⟩ rfl rfl Tryd.call35 rfl (lies_v b A n cp Ao55 ol.length co55 ol A159 cs59.length c159 cs59 A259 ws59.length c259 ws59 fl59 _ (hP.kp hs109.kp) hn (hOo55.at hs109 3 rfl) (by omega) (hG.kp hs109.kp (by simp)) hok hol hH59 (h159.at hs109 1 rfl) (h259.at hs109 2 rfl)) fun _ _ hs110 => ?_); clear hs109
       refine sq rfl (st_pick hs110 (Ev.t 4 rfl) rfl rfl (fun h => (Ev.t 0 rfl)) (fun h => by cases h) fun _ _ hs111 => ?_); clear hs110
       refine sq rfl (st_move hs111 (Ev.t 0 rfl) rfl rfl fun _ _ hs112 => ?_); clear hs111
       refine sq_on hs112 rfl rfl 0 rfl rfl (st_callv (vs := []) hs112 (.func _) trivial rfl rfl Tryd.call20 rfl (fired_v _ (hG.kp hs112.kp (by simp))) fun _ _ hs113 => ?_); clear hs112
       refine sq rfl (st_pick hs113 (Ev.t 1 rfl) rfl rfl (fun h => (Ev.t 0 rfl)) (fun h => by cases h) fun _ _ hs114 => ?_); clear hs113
       have hs115 := Sx.keepT [0, 1, 2, 3, 4, 5, 6, 7, 8, 9, 10, 11, 12, 13, 14, 15, 16, 17, 18, 19, 20, 21, 22, 23, 24, 25, 26, 27, 28, 29, 30, 31, 32, 33, 34, 35, 36, 38] [_, _, _, _, _, _, _, _, _, _, _, _, _, _, _, _, _, _, _, _, _, _, _, _, _, _, _, _, _, _, _, _, _, _, _, _, _, _] ⟨rfl, rfl, rfl, rfl, rfl, rfl, rfl, rfl, rfl, rfl, rfl, rfl, rfl, rfl, rfl, rfl, rfl, rfl, rfl, rfl, rfl, rfl, rfl, rfl, rfl, rfl, rfl, rfl, rfl, rfl, rfl, rfl, rfl, rfl, rfl, rfl, rfl, rfl, trivial⟩ hs114; clear hs114
       refine sq rfl (st_assign hs115 (Ev.t 0 rfl) rfl rfl fun _ _ hs116 => ?_); clear hs115
       refine hK67 _ _ ?_; clear hK67
       have hs117 := Sx.keepT [0] [_] ⟨rfl, trivial⟩ hs116; clear hs116
       refine cd_retv (vs := [.bool true]) hs117 hQ0 rfl ⟨.tmp 0 rfl, trivial⟩ ?_
       clear hs117 hQ0 hN0
       first | rfl | (simp [pack]; done)
     · skip
       have holl := isPlan_len hol
       have hw9 : within (q9 : Int) 0 (n : Int) = true := Eng.within_iff.2 (by omega)
       refine cd_region fun K68 hK68 => ?_
       refine sq rfl (st_loadA (o := 0) (off := 0) (vs := (bookL b A n cp)) hs54 (Ev.t 3 rfl) rfl rfl Tryd.isAgg27 Tryd.sizeOf27 (hs54.cells 5 rfl) rfl fun _ _ hs55 => ?_); clear hs54
       refine sq rfl (st_move hs55 (Ev.t 1 rfl) rfl rfl fun _ _ hs56 => ?_); clear hs55
       refine sq rfl (st_move hs56 (Ev.t 6 rfl) rfl rfl fun _ _ hs57 => ?_); clear hs56
       refine sq rfl (st_call (vs := [.agg ⟨(bookL b A n cp)⟩, .slice Ao55 ol.length co55, .slice A4 m4 c4]) hs57 (.func _) ⟨(Ev.t 2 rfl), (Ev.t 1 rfl), (Ev.t 0 rfl), trivial⟩ rfl rfl Tryd.call34 rfl (happened_b b A n cp Ao55 ol.length co55 ol A4 m4 c4 bits _ (hP.kp hs57.kp) hn (hOo55.at hs57 0 rfl) (by omega) (hI.kp hs57.kp) (by omega) hok hol) fun v70 bs71 a_58 w_58 hp58 hs58 => ?_); clear hs57
       obtain ⟨cs69, ws69, fl69, A169, c169, b169, o169, A269, c269, b269, o269, rfl, h169, h269, rfl, hH69⟩ := hp58
       have hs59 := Sx.as (T' := [_, _, _, _, _, _, _, _, _]) (B' := [_, _, _, _, _, _, _, _]) rfl rfl hs58; clear hs58
       refine sq rfl (st_alloc hs59 rfl rfl Tryd.zeroValue50 rfl fun b72 _ _ hs60 => ?_); clear hs59
       refine sq rfl (st_store (l' := [.slice A169 cs69.length c169, .slice A269 ws69.length c269, .int .i64 fl69]) (vs := [.slice A169 cs69.length c169, .slice A269 ws69.length c269, .int .i64 fl69]) (i := 0) hs60 (Ev.t 0 rfl) (Ev.t 1 rfl) Tryd.sizeOf50 rfl rfl rfl rfl rfl rfl fun _ _ hs61 => ?_); clear hs60
       have hs62 := Sx.as (T' := [_, _, _, _, _, _, _, _, _, _]) (B' := [_, _, _, _, _, _, _, _, _]) rfl rfl hs61; clear hs61
       refine hK68 _ _ ?_; clear hK68
       have hs63 := Sx.keepT [0, 5, 6, 7, 8] [_, _, _, _, _] ⟨rfl, rfl, rfl, rfl, rfl, trivial⟩ hs62; clear hs62
       have hfl2 := hap_fl hb hH69 hall9 (by omega)
       refine cd_region fun K73 hK73 => ?_
       refine sq rfl (st_loadA (o := 0) (off := 0) (vs := (bookL b A n cp)) hs63 (Ev.t 4 rfl) rfl rfl Tryd.isAgg27 Tryd.sizeOf27 (hs63.cells 8 rfl) rfl fun _ _ hs64 => ?_); clear hs63
       refine sq rfl (st_move hs64 (Ev.t 2 rfl) rfl rfl fun _ _ hs65 => ?_); clear hs64
       refine sq rfl (st_callv (vs := [.agg ⟨(bookL b A n cp)⟩, .slice Ao55 ol.length co55]) hs65 (.func _) ⟨(Ev.t 1 rfl), (Ev.t 0 rfl), trivial⟩ rfl rfl Tryd.call21 rfl (callsV_eq (v' := .tuple ⟨[.int .i64 (q9 : Int), .int .i64 0]⟩) (Fails_v b A n cp Ao55 ol.length co55 ol _ (hP.kp hs65.kp) hn (hOo55.at hs65 3 rfl) (by omega) (hG.kp hs65.kp (by simp))) (by rw [hfo])) fun _ _ hs66 => ?_); clear hs65
       refine sq rfl (st_move hs66 (Ev.t 0 rfl) rfl rfl fun _ _ hs67 => ?_); clear hs66
       refine sq rfl (st_extract hs67 (Ev.t 0 rfl) rfl rfl rfl fun _ _ hs68 => ?_); clear hs67
       refine sq rfl (st_extract hs68 (Ev.t 1 rfl) rfl rfl rfl fun _ _ hs69 => ?_); clear hs68
       refine sq rfl (st_assign hs69 (Ev.t 1 rfl) rfl rfl fun _ _ hs70 => ?_); clear hs69
       refine sq rfl (st_assign hs70 (Ev.t 1 rfl) rfl rfl fun _ _ hs71 => ?_); clear hs70
       refine hK73 _ _ ?_; clear hK73
       have hs72 := Sx.keepT [0, 1, 8, 9, 10, 11, 12] [_, _, _, _, _, _, _] ⟨rfl, rfl, rfl, rfl, rfl, rfl, rfl, trivial⟩ hs71; clear hs71
       refine cd_seq fun K74 hK74 => ?_
       refine cd_region fun K75 hK75 => ?_
       refine sq rfl (st_move hs72 (Ev.t 0 rfl) rfl rfl fun _ _ hs73 => ?_); clear hs72
       refine sq rfl (st_cmp (c := false) hs73 (Ev.t 0 rfl) (.const _) rfl rfl rfl rfl fun _ _ hs74 => ?_); clear hs73
       refine hK75 _ _ ?_; clear hK75
       have hs75 := Sx.keepT [0, 2, 3, 4, 5, 6, 7, 8] [_, _, _, _, _, _, _, _] ⟨rfl, rfl, rfl, rfl, rfl, rfl, rfl, rfl, trivial⟩ hs74; clear hs74
       have hc76 : false = false := rfl
       refine cd_cond hs75 (Ev.t 0 rfl) (fun h => absurd (hc76.symm.trans h) (by decide)) (fun _ => ?_)
       refine cd_skip ?_
       refine th_norm (hK74 _ _ ?_)
       refine cd_region fun K77 hK77 => ?_
       refine sq rfl (st_move hs75 (Ev.t 1 rfl) rfl rfl fun _ _ hs76 => ?_); clear hs75
       refine sq rfl (st_cmp (c := true) hs76 (Ev.t 0 rfl) (.const _) rfl rfl rfl rfl fun _ _ hs77 => ?_); clear hs76
       refine sq rfl (st_move hs77 (Ev.t 0 rfl) rfl rfl fun _ _ hs78 => ?_); clear hs77
       refine sq_off hs78 rfl rfl 0 rfl rfl rfl rfl rfl fun _ _ hs79 => ?_; clear hs78
       refine sq_off hs79 rfl rfl 1 rfl rfl rfl rfl rfl fun _ _ hs80 => ?_; clear hs79
       refine sq_off hs80 rfl rfl 2 rfl rfl rfl rfl rfl fun _ _ hs81 => ?_; clear hs80
       refine sq_off hs81 rfl rfl 0 rfl rfl rfl rfl rfl fun _ _ hs82 => ?_; clear hs81
       refine sq_off hs82 rfl rfl 1 rfl rfl rfl rfl rfl fun _ _ hs83 => ?_; clear hs82
       refine sq_off hs83 rfl rfl 5 rfl rfl rfl rfl rfl fun _ _ hs84 => ?_; clear hs83
       refine sq rfl (st_pick hs84 (Ev.t 6 rfl) rfl rfl (fun h => (.const _)) (fun h => by cases h) fun _ _ hs85 => ?_); clear hs84
       refine sq rfl (st_move hs85 (Ev.t 0 rfl) rfl rfl fun _ _ hs86 => ?_); clear hs85
       refine sq_on hs86 rfl rfl 0 rfl rfl (st_field (o' := 2) hs86 (Ev.t 14 rfl) rfl rfl Tryd.runUnderlying50 rfl Tryd.sizeOf3 rfl rfl fun _ _ hs87 => ?_); clear hs86
       refine sq_on hs87 rfl rfl 1 rfl rfl (st_load1 (o := 0) (off := 2) (v := .int .i64 fl69) hs87 (Ev.t 0 rfl) rfl rfl Tryd.isAgg3 (hs87.cells 0 rfl) rfl fun _ _ hs88 => ?_); clear hs87
       refine sq_on hs88 rfl rfl 2 rfl rfl (st_move hs88 (Ev.t 15 rfl) rfl rfl fun _ _ hs89 => ?_); clear hs88
       refine sq_on hs89 rfl rfl 3 rfl rfl (st_cmp (c := decide ((fl69 : Int) ≥ (q9 : Int))) hs89 (Ev.t 1 rfl) (Ev.t 0 rfl) rfl rfl rfl rfl fun _ _ hs90 => ?_); clear hs89
       have hs91 := Sx.keepE [0, 1, 2, 3, 4, 5, 6, 7, 8, 9, 10, 11, 12, 13, 14, 15, 16, 17, 18, 19, 20, 21, 22] [(84, .bool true), (83, _), (82, _), (81, _), (80, _), (79, _), (78, _), (77, _), (76, _), (75, _), (74, _), (73, _), (72, _), (71, _), (70, _), (66, _), (12, _), (11, _), (10, _), (7, _), (8, _), (6, _), (3, _)] ⟨⟨_, rfl, (by congr 1; simp; omega)⟩, ⟨_, rfl, rfl⟩, ⟨_, rfl, rfl⟩, ⟨_, rfl, rfl⟩, ⟨_, rfl, rfl⟩, ⟨_, rfl, rfl⟩, ⟨_, rfl, rfl⟩, ⟨_, rfl, rfl⟩, ⟨_, rfl, rfl⟩, ⟨_, rfl, rfl⟩, ⟨_, rfl, rfl⟩, ⟨_, rfl, rfl⟩, ⟨_, rfl, rfl⟩, ⟨_, rfl, rfl⟩, ⟨_, rfl, rfl⟩, ⟨_, rfl, rfl⟩, ⟨_, rfl, rfl⟩, ⟨_, rfl, rfl⟩, ⟨_, rfl, rfl⟩, ⟨_, rfl, rfl⟩, ⟨_, rfl, rfl⟩, ⟨_, rfl, rfl⟩, ⟨_, rfl, rfl⟩, trivial⟩ hs90; clear hs90
       refine sq rfl (st_pick hs91 (Ev.t 4 rfl) rfl rfl (fun h => (Ev.t 0 rfl)) (fun h => by cases h) fun _ _ hs92 => ?_); clear hs91
       refine sq rfl (st_move hs92 (Ev.t 0 rfl) rfl rfl fun _ _ hs93 => ?_); clear hs92
       refine sq_on hs93 rfl rfl 0 rfl rfl (st_move hs93 (Ev.t 19 rfl) rfl rfl fun _ _ hs94 => ?_); clear hs93
       refine sq_on hs94 rfl rfl 1 rfl rfl (st_field (o' := 22) hs94 (Ev.t 25 rfl) rfl rfl Tryd.runUnderlying27 rfl Tryd.sizeOf25 rfl rfl fun _ _ hs95 => ?_); clear hs94
       refine sq_on hs95 rfl rfl 2 rfl rfl (st_load1 (o := 0) (off := 22) (v := .slice A n cp) hs95 (Ev.t 0 rfl) rfl rfl Tryd.isAgg25 (hs95.cells 8 rfl) rfl fun _ _ hs96 => ?_); clear hs95
       refine sq_on hs96 rfl rfl 3 rfl rfl (st_len hs96 (Ev.t 0 rfl) rfl rfl Tryd.runUnderlying25 fun _ _ hs97 => ?_); clear hs96
       refine sq_on hs97 rfl rfl 4 rfl rfl (st_callv (vs := [.int .i64 (q9 : Int), .int .i64 0, .int .i64 (n : Int)]) hs97 (.func _) ⟨(Ev.t 3 rfl), (.const _), (Ev.t 0 rfl), trivial⟩ rfl rfl Tryd.call37 rfl (amid_t (q9 : Int) 0 (n : Int) (by assumption) _) fun _ _ hs98 => ?_); clear hs97
       refine sq rfl (st_pick hs98 (Ev.t 5 rfl) rfl rfl (fun h => (Ev.t 0 rfl)) (fun h => by cases h) fun _ _ hs99 => ?_); clear hs98
       refine sq rfl (st_move hs99 (Ev.t 0 rfl) rfl rfl fun _ _ hs100 => ?_); clear hs99
       refine sq_on hs100 rfl rfl 0 rfl rfl (st_loadA (o := 0) (off := 0) (vs := (bookL b A n cp)) hs100 (Ev.t 31 rfl) rfl rfl Tryd.isAgg27 Tryd.sizeOf27 (hs100.cells 8 rfl) rfl fun _ _ hs101 => ?_); clear hs100
       refine sq_on hs101 rfl rfl 1 rfl rfl (st_move hs101 (Ev.t 29 rfl) rfl rfl fun _ _ hs102 => ?_); clear hs101
       refine sq_on hs102 rfl rfl 2 rfl rfl (st_loadA (o := 0) (off := 0) (vs := [.slice A169 cs69.length c169, .slice A269 ws69.length c269, .int .i64 fl69]) hs102 (Ev.t 29 rfl) rfl rfl Tryd.isAgg50 Tryd.sizeOf50 (hs102.cells 0 rfl) rfl fun _ _ hs103 => ?_); clear hs102
       refine sq_on hs103 rfl rfl 3 rfl rfl (st_callv (vs := [.agg ⟨(bookL b A n cp)⟩, .slice Ao55 ol.length co55, .agg ⟨[.slice A169 cs69.length c169, .slice A269 ws69.length c269, .int .i64 fl69]⟩]) hs103 (.func _) ⟨(Ev.t 2 rfl), (Ev.t 1 rfl), (Ev.t 0 rfl), trivial⟩ rfl rfl Tryd.call35 rfl (lies_v b A n cp Ao55 ol.length co55 ol A169 cs69.length c169 cs69 A269 ws69.length c269 ws69 fl69 _ (hP.kp hs103.kp) hn (hOo55.at hs103 3 rfl) (by omega) (hG.kp hs103.kp (by simp)) hok hol hH69 (h169.at hs103 1 rfl) (h269.at hs103 2 rfl)) fun _ _ hs104 => ?_); clear hs103
       refine sq rfl (st_pick hs104 (Ev.t 4 rfl) rfl rfl (fun h => (Ev.t 0 rfl)) (fun h => by cases h) fun _ _ hs105 => ?_); clear hs104
       refine sq rfl (st_move hs105 (Ev.t 0 rfl) rfl rfl fun _ _ hs106 => ?_); clear hs105
       refine sq_on hs106 rfl rfl 0 rfl rfl (st_callv (vs := []) hs106 (.func _) trivial rfl rfl Tryd.call20 rfl (fired_v _ (hG.kp hs106.kp (by simp))) fun _ _ hs107 => ?_); clear hs106
       refine sq rfl (st_pick hs107 (Ev.t 1 rfl) rfl rfl (fun h => (Ev.t 0 rfl)) (fun h => by cases h) fun _ _ hs108 => ?_); clear hs107
       have hs109 := Sx.keepT [0, 1, 2, 3, 4, 5, 6, 7, 8, 9, 10, 11, 12, 13, 14, 15, 16, 17, 18, 19, 20, 21, 22, 23, 24, 25, 26, 27, 28, 29, 30, 31, 32, 33, 34, 35, 36, 37, 39] [_, _, _, _, _, _, _, _, _, _, _, _, _, _, _, _, _, _, _, _, _, _, _, _, _, _, _, _, _, _, _, _, _, _, _, _, _, _, _] ⟨rfl, rfl, rfl, rfl, rfl, rfl, rfl, rfl, rfl, rfl, rfl, rfl, rfl, rfl, rfl, rfl, rfl, rfl, rfl, rfl, rfl, rfl, rfl, rfl, rfl, rfl, rfl, rfl, rfl, rfl, rfl, rfl, rfl, rfl, rfl, rfl, rfl, rfl, rfl, trivial⟩ hs108; clear hs108
       refine sq rfl (st_assign hs109 (Ev.t 0 rfl) rfl rfl fun _ _ hs110 => ?_); clear hs109
       refine hK77 _ _ ?_; clear hK77
       have hs111 := Sx.keepT [0] [_] ⟨rfl, trivial⟩ hs110; clear hs110
       refine cd_retv (vs := [.bool true]) hs111 hQ0 rfl ⟨.tmp 0 rfl, trivial⟩ ?_
       clear hs111 hQ0 hN0
       first | rfl | (simp [pack]; done)
end Go.Proofs.YtdbcedmofoakmaaDoor
