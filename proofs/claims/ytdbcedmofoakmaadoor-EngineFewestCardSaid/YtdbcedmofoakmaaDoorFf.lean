/- The law EngineFewest: its walk. -/
import Derived.Test.YtdbcedmofoakmaaDoorFh
set_option maxRecDepth 100000
namespace Go.Proofs.YtdbcedmofoakmaaDoor
open Go Go.Sx Go.Eng
theorem isPlan_small {b : Book} (hb : Bd b) {l : List Walks} (h : b.isPlan l = true) : SmallP l := by
  have hl := isPlan_len h
  refine ⟨by have := hb.len; omega, fun i y hy => ?_⟩
  have hi := (List.getElem?_eq_some_iff.1 hy).1
  exact isPlan_bd hb h (List.getElem?_eq_getElem (by omega)) hy

theorem EngineFewest_v (b : Book) (A : Option Addr) (n cp : Nat) (A4 : Option Addr) (m4 c4 : Nat) (bits : List Int) (k0 k1 : Int) (w : World) (hP : PartsAt w A n b.parts) (hn : n ≤ 140737488351232) (hI : SlAt intL 1 w A4 m4 bits) (hm4 : m4 ≤ 140737488351232) (hG : CellsAt w 0 0 stuffsL) :
    CallsV Tryd.prog 8 [.agg ⟨(bookL b A n cp)⟩, .slice A4 m4 c4, .agg ⟨[.int .i64 k0, .int .i64 k1]⟩] w (.bool true) := by
 refine enter (N := 156) (M := []) w Tryd.func8 rfl rfl rfl (fun Q0 a_0 hQ0 hN0 hs0 => ?_)
 rcases hok : b.ok with _ | _
 · skip
   have hR := planR_no hok
   refine cd_region fun K1 hK1 => ?_
   refine sq rfl (st_box hs0 (Ev.t 0 rfl) rfl rfl rfl fun b2 _ _ hs1 => ?_); clear hs0
   refine sq rfl (st_box hs1 (Ev.t 3 rfl) rfl rfl rfl fun b3 _ _ hs2 => ?_); clear hs1
   refine sq rfl (st_assign hs2 (.const _) rfl rfl fun _ _ hs3 => ?_); clear hs2
   refine hK1 _ _ ?_; clear hK1
   have hs4 := Sx.keepT [0, 1, 2, 4] [_, _, _, _] ⟨rfl, rfl, rfl, rfl, trivial⟩ hs3; clear hs3
   refine cd_region fun K4 hK4 => ?_
   refine sq rfl (st_loadA (o := 0) (off := 0) (vs := (bookL b A n cp)) hs4 (Ev.t 2 rfl) rfl rfl Tryd.isAgg27 Tryd.sizeOf27 (hs4.cells 1 rfl) rfl fun _ _ hs5 => ?_); clear hs4
   refine sq rfl (st_callv (vs := [.agg ⟨(bookL b A n cp)⟩]) hs5 (.func _) ⟨(Ev.t 0 rfl), trivial⟩ rfl rfl Tryd.call23 rfl (plansV_none hR (Plan_b b A n cp _ (hP.kp hs5.kp) hn (hG.kp hs5.kp (by simp)))) fun _ _ hs6 => ?_); clear hs5
   refine sq rfl (st_move hs6 (Ev.t 0 rfl) rfl rfl fun _ _ hs7 => ?_); clear hs6
   refine sq rfl (st_extract hs7 (Ev.t 0 rfl) rfl rfl rfl fun _ _ hs8 => ?_); clear hs7
   refine sq rfl (st_extract hs8 (Ev.t 1 rfl) rfl rfl rfl fun _ _ hs9 => ?_); clear hs8
   refine sq rfl (st_assign hs9 (Ev.t 1 rfl) rfl rfl fun _ _ hs10 => ?_); clear hs9
   refine sq rfl (st_assign hs10 (Ev.t 1 rfl) rfl rfl fun _ _ hs11 => ?_); clear hs10
   refine hK4 _ _ ?_; clear hK4
   have hs12 := Sx.keepT [0, 1, 7, 8, 9, 10] [_, _, _, _, _, _] ⟨rfl, rfl, rfl, rfl, rfl, rfl, trivial⟩ hs11; clear hs11
   refine cd_seq fun K5 hK5 => ?_
   refine cd_region fun K6 hK6 => ?_
   refine sq rfl (st_loadA (o := 0) (off := 0) (vs := (bookL b A n cp)) hs12 (Ev.t 4 rfl) rfl rfl Tryd.isAgg27 Tryd.sizeOf27 (hs12.cells 1 rfl) rfl fun _ _ hs13 => ?_); clear hs12
   refine sq rfl (st_callv (vs := [.agg ⟨(bookL b A n cp)⟩]) hs13 (.func _) ⟨(Ev.t 0 rfl), trivial⟩ rfl rfl Tryd.call32 rfl (callsV_eq (v' := .bool false) (sound_v b A n cp _ (hP.kp hs13.kp) hn) (by rw [hok])) fun _ _ hs14 => ?_); clear hs13
   refine sq rfl (st_not hs14 (Ev.t 0 rfl) rfl rfl fun _ _ hs15 => ?_); clear hs14
   refine hK6 _ _ ?_; clear hK6
   have hs16 := Sx.keepT [0, 3, 4, 5, 6, 7, 8] [_, _, _, _, _, _, _] ⟨rfl, rfl, rfl, rfl, rfl, rfl, rfl, trivial⟩ hs15; clear hs15
   have hc7 : true = true := rfl
   refine cd_cond hs16 (Ev.t 0 rfl) (fun _ => ?_) (fun h => absurd (hc7.symm.trans h) (by decide))
   refine cd_region fun K8 hK8 => ?_
   refine sq rfl (st_move hs16 (Ev.t 1 rfl) rfl rfl fun _ _ hs17 => ?_); clear hs16
   refine sq rfl (st_cmp (c := true) hs17 (Ev.t 0 rfl) (.const _) rfl rfl rfl rfl fun _ _ hs18 => ?_); clear hs17
   refine sq rfl (st_move hs18 (Ev.t 0 rfl) rfl rfl fun _ _ hs19 => ?_); clear hs18
   refine sq_on hs19 rfl rfl 0 rfl rfl (st_move hs19 (Ev.t 5 rfl) rfl rfl fun _ _ hs20 => ?_); clear hs19
   refine sq_on hs20 rfl rfl 1 rfl rfl (st_len hs20 (Ev.t 0 rfl) rfl rfl Tryd.runUnderlying28 fun _ _ hs21 => ?_); clear hs20
   refine sq_on hs21 rfl rfl 2 rfl rfl (st_cmp (c := true) hs21 (Ev.t 0 rfl) (.const _) rfl rfl rfl rfl fun _ _ hs22 => ?_); clear hs21
   refine sq rfl (st_pick hs22 (Ev.t 3 rfl) rfl rfl (fun h => (Ev.t 0 rfl)) (fun h => by cases h) fun _ _ hs23 => ?_); clear hs22
   refine sq rfl (st_move hs23 (Ev.t 0 rfl) rfl rfl fun _ _ hs24 => ?_); clear hs23
   refine sq_on hs24 rfl rfl 0 rfl rfl (st_callv (vs := []) hs24 (.func _) trivial rfl rfl Tryd.call20 rfl (fired_v _ (hG.kp hs24.kp (by simp))) fun _ _ hs25 => ?_); clear hs24
   refine sq rfl (st_pick hs25 (Ev.t 1 rfl) rfl rfl (fun h => (Ev.t 0 rfl)) (fun h => by cases h) fun _ _ hs26 => ?_); clear hs25
   have hs27 := Sx.keepT [0, 1, 2, 3, 4, 5, 6, 7, 8, 9, 10, 11, 12, 14, 15, 16] [_, _, _, _, _, _, _, _, _, _, _, _, _, _, _, _] ⟨rfl, rfl, rfl, rfl, rfl, rfl, rfl, rfl, rfl, rfl, rfl, rfl, rfl, rfl, rfl, rfl, trivial⟩ hs26; clear hs26
   refine sq rfl (st_assign hs27 (Ev.t 0 rfl) rfl rfl fun _ _ hs28 => ?_); clear hs27
   refine hK8 _ _ ?_; clear hK8
   have hs29 := Sx.keepT [0] [_] ⟨rfl, trivial⟩ hs28; clear hs28
   refine cd_retv (vs := [.bool true]) hs29 (fun a_ w_ h => th_ret (hQ0 a_ w_ h)) rfl ⟨.tmp 0 rfl, trivial⟩ ?_
   clear hs29 hQ0 hN0 hK5
   first | rfl | (simp [pack]; done)
 · skip
   have hb := ok_bd hok
   have hl2 := hP.len
   have hl5 := ok_len hok
   rcases hR : b.planR with ⟨_ | pl, e5⟩
   · skip
     obtain ⟨rfl, hbad⟩ := planR_none hok hR
     refine cd_region fun K9 hK9 => ?_
     refine sq rfl (st_box hs0 (Ev.t 0 rfl) rfl rfl rfl fun b10 _ _ hs1 => ?_); clear hs0
     refine sq rfl (st_box hs1 (Ev.t 3 rfl) rfl rfl rfl fun b11 _ _ hs2 => ?_); clear hs1
     refine sq rfl (st_assign hs2 (.const _) rfl rfl fun _ _ hs3 => ?_); clear hs2
     refine hK9 _ _ ?_; clear hK9
     have hs4 := Sx.keepT [0, 1, 2, 4] [_, _, _, _] ⟨rfl, rfl, rfl, rfl, trivial⟩ hs3; clear hs3
     refine cd_region fun K12 hK12 => ?_
     refine sq rfl (st_loadA (o := 0) (off := 0) (vs := (bookL b A n cp)) hs4 (Ev.t 2 rfl) rfl rfl Tryd.isAgg27 Tryd.sizeOf27 (hs4.cells 1 rfl) rfl fun _ _ hs5 => ?_); clear hs4
     refine sq rfl (st_callv (vs := [.agg ⟨(bookL b A n cp)⟩]) hs5 (.func _) ⟨(Ev.t 0 rfl), trivial⟩ rfl rfl Tryd.call23 rfl (plansV_none hR (Plan_b b A n cp _ (hP.kp hs5.kp) hn (hG.kp hs5.kp (by simp)))) fun _ _ hs6 => ?_); clear hs5
     refine sq rfl (st_move hs6 (Ev.t 0 rfl) rfl rfl fun _ _ hs7 => ?_); clear hs6
     refine sq rfl (st_extract hs7 (Ev.t 0 rfl) rfl rfl rfl fun _ _ hs8 => ?_); clear hs7
     refine sq rfl (st_extract hs8 (Ev.t 1 rfl) rfl rfl rfl fun _ _ hs9 => ?_); clear hs8
     refine sq rfl (st_assign hs9 (Ev.t 1 rfl) rfl rfl fun _ _ hs10 => ?_); clear hs9
     refine sq rfl (st_assign hs10 (Ev.t 1 rfl) rfl rfl fun _ _ hs11 => ?_); clear hs10
     refine hK12 _ _ ?_; clear hK12
     have hs12 := Sx.keepT [0, 1, 7, 8, 9, 10] [_, _, _, _, _, _] ⟨rfl, rfl, rfl, rfl, rfl, rfl, trivial⟩ hs11; clear hs11
     refine cd_seq fun K13 hK13 => ?_
     refine cd_region fun K14 hK14 => ?_
     refine sq rfl (st_loadA (o := 0) (off := 0) (vs := (bookL b A n cp)) hs12 (Ev.t 4 rfl) rfl rfl Tryd.isAgg27 Tryd.sizeOf27 (hs12.cells 1 rfl) rfl fun _ _ hs13 => ?_); clear hs12
     refine sq rfl (st_callv (vs := [.agg ⟨(bookL b A n cp)⟩]) hs13 (.func _) ⟨(Ev.t 0 rfl), trivial⟩ rfl rfl Tryd.call32 rfl (callsV_eq (v' := .bool true) (sound_v b A n cp _ (hP.kp hs13.kp) hn) (by rw [hok])) fun _ _ hs14 => ?_); clear hs13
     refine sq rfl (st_not hs14 (Ev.t 0 rfl) rfl rfl fun _ _ hs15 => ?_); clear hs14
     refine hK14 _ _ ?_; clear hK14
     have hs16 := Sx.keepT [0, 3, 4, 5, 6, 7, 8] [_, _, _, _, _, _, _] ⟨rfl, rfl, rfl, rfl, rfl, rfl, rfl, trivial⟩ hs15; clear hs15
     have hc15 : false = false := rfl
     refine cd_cond hs16 (Ev.t 0 rfl) (fun h => absurd (hc15.symm.trans h) (by decide)) (fun _ => ?_)
     refine cd_skip ?_
     refine th_norm (hK13 _ _ ?_)
     refine cd_region fun K16 hK16 => ?_
     refine sq rfl (st_loadA (o := 0) (off := 0) (vs := (bookL b A n cp)) hs16 (Ev.t 5 rfl) rfl rfl Tryd.isAgg27 Tryd.sizeOf27 (hs16.cells 1 rfl) rfl fun _ _ hs17 => ?_); clear hs16
     refine sq rfl (st_move hs17 (Ev.t 7 rfl) rfl rfl fun _ _ hs18 => ?_); clear hs17
     refine sq rfl (st_call (vs := [.agg ⟨(bookL b A n cp)⟩, .slice A4 m4 c4]) hs18 (.func _) ⟨(Ev.t 1 rfl), (Ev.t 0 rfl), trivial⟩ rfl rfl Tryd.call36 rfl (chosen_b b A n cp A4 m4 c4 bits _ (hP.kp hs18.kp) hn (hI.kp hs18.kp) (by omega) hb) fun v18 bs19 a_19 w_19 hp19 hs19 => ?_); clear hs18
     obtain ⟨ol, Ao17, co17, bo17, oo17, rfl, hOo17, rfl, hol⟩ := hp19
     have hs20 := Sx.as (T' := [_, _, _, _, _, _, _, _, _, _]) (B' := [_, _, _]) rfl rfl hs19; clear hs19
     refine sq rfl (st_assign hs20 (Ev.t 0 rfl) rfl rfl fun _ _ hs21 => ?_); clear hs20
     refine hK16 _ _ ?_; clear hK16
     have hs22 := Sx.keepT [0, 5, 6, 7, 8, 9] [_, _, _, _, _, _] ⟨rfl, rfl, rfl, rfl, rfl, rfl, trivial⟩ hs21; clear hs21
     have hoe := failsR_bad hok hol (hbad ol)
     have holl := isPlan_len hol
     obtain ⟨j9, hfo⟩ : ∃ j, b.failsR ol = (j, 0) := ⟨_, Prod.ext rfl hoe⟩
     refine cd_region fun K20 hK20 => ?_
     refine sq rfl (st_loadA (o := 0) (off := 0) (vs := (bookL b A n cp)) hs22 (Ev.t 5 rfl) rfl rfl Tryd.isAgg27 Tryd.sizeOf27 (hs22.cells 2 rfl) rfl fun _ _ hs23 => ?_); clear hs22
     refine sq rfl (st_move hs23 (Ev.t 1 rfl) rfl rfl fun _ _ hs24 => ?_); clear hs23
     refine sq rfl (st_callv (vs := [.agg ⟨(bookL b A n cp)⟩, .slice Ao17 ol.length co17]) hs24 (.func _) ⟨(Ev.t 1 rfl), (Ev.t 0 rfl), trivial⟩ rfl rfl Tryd.call21 rfl (callsV_eq (v' := .tuple ⟨[.int .i64 j9, .int .i64 0]⟩) (Fails_v b A n cp Ao17 ol.length co17 ol _ (hP.kp hs24.kp) hn (hOo17.at hs24 0 rfl) (by omega) (hG.kp hs24.kp (by simp))) (by rw [hfo])) fun _ _ hs25 => ?_); clear hs24
     refine sq rfl (st_move hs25 (Ev.t 0 rfl) rfl rfl fun _ _ hs26 => ?_); clear hs25
     refine sq rfl (st_extract hs26 (Ev.t 0 rfl) rfl rfl rfl fun _ _ hs27 => ?_); clear hs26
     refine sq rfl (st_extract hs27 (Ev.t 1 rfl) rfl rfl rfl fun _ _ hs28 => ?_); clear hs27
     refine sq rfl (st_assign hs28 (Ev.t 1 rfl) rfl rfl fun _ _ hs29 => ?_); clear hs28
     refine sq rfl (st_assign hs29 (Ev.t 1 rfl) rfl rfl fun _ _ hs30 => ?_); clear hs29
     refine hK20 _ _ ?_; clear hK20
     have hs31 := Sx.keepT [0, 8, 9, 10, 11, 12, 13] [_, _, _, _, _, _, _] ⟨rfl, rfl, rfl, rfl, rfl, rfl, rfl, trivial⟩ hs30; clear hs30
     refine cd_seq fun K21 hK21 => ?_
     refine cd_region fun K22 hK22 => ?_
     refine sq rfl (st_move hs31 (Ev.t 2 rfl) rfl rfl fun _ _ hs32 => ?_); clear hs31
     refine sq rfl (st_cmp (c := true) hs32 (Ev.t 0 rfl) (.const _) rfl rfl rfl rfl fun _ _ hs33 => ?_); clear hs32
     refine hK22 _ _ ?_; clear hK22
     have hs34 := Sx.keepT [0, 2, 3, 4, 5, 6, 7, 8] [_, _, _, _, _, _, _, _] ⟨rfl, rfl, rfl, rfl, rfl, rfl, rfl, rfl, trivial⟩ hs33; clear hs33
     have hc23 : true = true := rfl
     refine cd_cond hs34 (Ev.t 0 rfl) (fun _ => ?_) (fun h => absurd (hc23.symm.trans h) (by decide))
     refine cd_region fun K24 hK24 => ?_
     refine sq rfl (st_move hs34 (Ev.t 3 rfl) rfl rfl fun _ _ hs35 => ?_); clear hs34
     refine sq rfl (st_cmp (c := true) hs35 (Ev.t 0 rfl) (.const _) rfl rfl rfl rfl fun _ _ hs36 => ?_); clear hs35
     refine sq rfl (st_move hs36 (Ev.t 0 rfl) rfl rfl fun _ _ hs37 => ?_); clear hs36
     refine sq_on hs37 rfl rfl 0 rfl rfl (st_move hs37 (Ev.t 7 rfl) rfl rfl fun _ _ hs38 => ?_); clear hs37
     refine sq_on hs38 rfl rfl 1 rfl rfl (st_len hs38 (Ev.t 0 rfl) rfl rfl Tryd.runUnderlying28 fun _ _ hs39 => ?_); clear hs38
     refine sq_on hs39 rfl rfl 2 rfl rfl (st_cmp (c := true) hs39 (Ev.t 0 rfl) (.const _) rfl rfl rfl rfl fun _ _ hs40 => ?_); clear hs39
     refine sq rfl (st_pick hs40 (Ev.t 3 rfl) rfl rfl (fun h => (Ev.t 0 rfl)) (fun h => by cases h) fun _ _ hs41 => ?_); clear hs40
     refine sq rfl (st_move hs41 (Ev.t 0 rfl) rfl rfl fun _ _ hs42 => ?_); clear hs41
     refine sq_on hs42 rfl rfl 0 rfl rfl (st_move hs42 (Ev.t 9 rfl) rfl rfl fun _ _ hs43 => ?_); clear hs42
     refine sq_on hs43 rfl rfl 1 rfl rfl (st_cmp (c := true) hs43 (Ev.t 0 rfl) (.const _) rfl rfl rfl rfl fun _ _ hs44 => ?_); clear hs43
     refine sq rfl (st_pick hs44 (Ev.t 2 rfl) rfl rfl (fun h => (Ev.t 0 rfl)) (fun h => by cases h) fun _ _ hs45 => ?_); clear hs44
     refine sq rfl (st_move hs45 (Ev.t 0 rfl) rfl rfl fun _ _ hs46 => ?_); clear hs45
     refine sq_on hs46 rfl rfl 0 rfl rfl (st_callv (vs := []) hs46 (.func _) trivial rfl rfl Tryd.call20 rfl (fired_v _ (hG.kp hs46.kp (by simp))) fun _ _ hs47 => ?_); clear hs46
     refine sq rfl (st_pick hs47 (Ev.t 1 rfl) rfl rfl (fun h => (Ev.t 0 rfl)) (fun h => by cases h) fun _ _ hs48 => ?_); clear hs47
     have hs49 := Sx.keepT [0, 1, 2, 3, 4, 5, 6, 7, 8, 9, 10, 11, 12, 13, 14, 15, 16, 17, 18, 20, 21] [_, _, _, _, _, _, _, _, _, _, _, _, _, _, _, _, _, _, _, _, _] ⟨rfl, rfl, rfl, rfl, rfl, rfl, rfl, rfl, rfl, rfl, rfl, rfl, rfl, rfl, rfl, rfl, rfl, rfl, rfl, rfl, rfl, trivial⟩ hs48; clear hs48
     refine sq rfl (st_assign hs49 (Ev.t 0 rfl) rfl rfl fun _ _ hs50 => ?_); clear hs49
     refine hK24 _ _ ?_; clear hK24
     have hs51 := Sx.keepT [0] [_] ⟨rfl, trivial⟩ hs50; clear hs50
     refine cd_retv (vs := [.bool true]) hs51 (fun a_ w_ h => th_ret (hQ0 a_ w_ h)) rfl ⟨.tmp 0 rfl, trivial⟩ ?_
     clear hs51 hQ0 hN0 hK21
     first | rfl | (simp [pack]; done)
   · skip
     obtain ⟨rfl, hgood, hmin⟩ := planR_some hok hR
     have hipl := good_isPlan hgood
     have hpll := isPlan_len hipl
     have hsmp := isPlan_small hb hipl
     have hfp := failsR_good hok hgood
     refine cd_region fun K25 hK25 => ?_
     refine sq rfl (st_box hs0 (Ev.t 0 rfl) rfl rfl rfl fun b26 _ _ hs1 => ?_); clear hs0
     refine sq rfl (st_box hs1 (Ev.t 3 rfl) rfl rfl rfl fun b27 _ _ hs2 => ?_); clear hs1
     refine sq rfl (st_assign hs2 (.const _) rfl rfl fun _ _ hs3 => ?_); clear hs2
     refine hK25 _ _ ?_; clear hK25
     have hs4 := Sx.keepT [0, 1, 2, 4] [_, _, _, _] ⟨rfl, rfl, rfl, rfl, trivial⟩ hs3; clear hs3
     refine cd_region fun K28 hK28 => ?_
     refine sq rfl (st_loadA (o := 0) (off := 0) (vs := (bookL b A n cp)) hs4 (Ev.t 2 rfl) rfl rfl Tryd.isAgg27 Tryd.sizeOf27 (hs4.cells 1 rfl) rfl fun _ _ hs5 => ?_); clear hs4
     refine sq rfl (st_call (vs := [.agg ⟨(bookL b A n cp)⟩]) hs5 (.func _) ⟨(Ev.t 0 rfl), trivial⟩ rfl rfl Tryd.call23 rfl (plansV_some hR (Plan_b b A n cp _ (hP.kp hs5.kp) hn (hG.kp hs5.kp (by simp)))) fun v30 bs31 a_6 w_6 hp6 hs6 => ?_); clear hs5
     obtain ⟨A29, c29, b29, o29, rfl, hO29, rfl⟩ := hp6
     have hs7 := Sx.as (T' := [_, _, _, _, _, _]) (B' := [_, _, _]) rfl rfl hs6; clear hs6
     refine sq rfl (st_move hs7 (Ev.t 0 rfl) rfl rfl fun _ _ hs8 => ?_); clear hs7
     refine sq rfl (st_extract hs8 (Ev.t 0 rfl) rfl rfl rfl fun _ _ hs9 => ?_); clear hs8
     refine sq rfl (st_extract hs9 (Ev.t 1 rfl) rfl rfl rfl fun _ _ hs10 => ?_); clear hs9
     refine sq rfl (st_assign hs10 (Ev.t 1 rfl) rfl rfl fun _ _ hs11 => ?_); clear hs10
     refine sq rfl (st_assign hs11 (Ev.t 1 rfl) rfl rfl fun _ _ hs12 => ?_); clear hs11
     refine hK28 _ _ ?_; clear hK28
     have hs13 := Sx.keepT [0, 1, 7, 8, 9, 10] [_, _, _, _, _, _] ⟨rfl, rfl, rfl, rfl, rfl, rfl, trivial⟩ hs12; clear hs12
     refine cd_seq fun K32 hK32 => ?_
     refine cd_region fun K33 hK33 => ?_
     refine sq rfl (st_loadA (o := 0) (off := 0) (vs := (bookL b A n cp)) hs13 (Ev.t 4 rfl) rfl rfl Tryd.isAgg27 Tryd.sizeOf27 (hs13.cells 2 rfl) rfl fun _ _ hs14 => ?_); clear hs13
     refine sq rfl (st_callv (vs := [.agg ⟨(bookL b A n cp)⟩]) hs14 (.func _) ⟨(Ev.t 0 rfl), trivial⟩ rfl rfl Tryd.call32 rfl (callsV_eq (v' := .bool true) (sound_v b A n cp _ (hP.kp hs14.kp) hn) (by rw [hok])) fun _ _ hs15 => ?_); clear hs14
     refine sq rfl (st_not hs15 (Ev.t 0 rfl) rfl rfl fun _ _ hs16 => ?_); clear hs15
     refine hK33 _ _ ?_; clear hK33
     have hs17 := Sx.keepT [0, 3, 4, 5, 6, 7, 8] [_, _, _, _, _, _, _] ⟨rfl, rfl, rfl, rfl, rfl, rfl, rfl, trivial⟩ hs16; clear hs16
     have hc34 : false = false := rfl
     refine cd_cond hs17 (Ev.t 0 rfl) (fun h => absurd (hc34.symm.trans h) (by decide)) (fun _ => ?_)
     refine cd_skip ?_
     refine th_norm (hK32 _ _ ?_)
     refine cd_region fun K35 hK35 => ?_
     refine sq rfl (st_loadA (o := 0) (off := 0) (vs := (bookL b A n cp)) hs17 (Ev.t 5 rfl) rfl rfl Tryd.isAgg27 Tryd.sizeOf27 (hs17.cells 2 rfl) rfl fun _ _ hs18 => ?_); clear hs17
     refine sq rfl (st_move hs18 (Ev.t 7 rfl) rfl rfl fun _ _ hs19 => ?_); clear hs18
     refine sq rfl (st_call (vs := [.agg ⟨(bookL b A n cp)⟩, .slice A4 m4 c4]) hs19 (.func _) ⟨(Ev.t 1 rfl), (Ev.t 0 rfl), trivial⟩ rfl rfl Tryd.call36 rfl (chosen_b b A n cp A4 m4 c4 bits _ (hP.kp hs19.kp) hn (hI.kp hs19.kp) (by omega) hb) fun v37 bs38 a_20 w_20 hp20 hs20 => ?_); clear hs19
     obtain ⟨ol, Ao36, co36, bo36, oo36, rfl, hOo36, rfl, hol⟩ := hp20
     have hs21 := Sx.as (T' := [_, _, _, _, _, _, _, _, _, _]) (B' := [_, _, _, _]) rfl rfl hs20; clear hs20
     refine sq rfl (st_assign hs21 (Ev.t 0 rfl) rfl rfl fun _ _ hs22 => ?_); clear hs21
     refine hK35 _ _ ?_; clear hK35
     have hs23 := Sx.keepT [0, 5, 6, 7, 8, 9] [_, _, _, _, _, _] ⟨rfl, rfl, rfl, rfl, rfl, rfl, trivial⟩ hs22; clear hs22
     rcases hgo : b.good b.parts ol b.coal.lo b.water.lo with _ | _
     · skip
       have hoe := failsR_bad hok hol hgo
       have holl := isPlan_len hol
       obtain ⟨j9, hfo⟩ : ∃ j, b.failsR ol = (j, 0) := ⟨_, Prod.ext rfl hoe⟩
       refine cd_region fun K39 hK39 => ?_
       refine sq rfl (st_loadA (o := 0) (off := 0) (vs := (bookL b A n cp)) hs23 (Ev.t 5 rfl) rfl rfl Tryd.isAgg27 Tryd.sizeOf27 (hs23.cells 3 rfl) rfl fun _ _ hs24 => ?_); clear hs23
       refine sq rfl (st_move hs24 (Ev.t 1 rfl) rfl rfl fun _ _ hs25 => ?_); clear hs24
       refine sq rfl (st_callv (vs := [.agg ⟨(bookL b A n cp)⟩, .slice Ao36 ol.length co36]) hs25 (.func _) ⟨(Ev.t 1 rfl), (Ev.t 0 rfl), trivial⟩ rfl rfl Tryd.call21 rfl (callsV_eq (v' := .tuple ⟨[.int .i64 j9, .int .i64 0]⟩) (Fails_v b A n cp Ao36 ol.length co36 ol _ (hP.kp hs25.kp) hn (hOo36.at hs25 0 rfl) (by omega) (hG.kp hs25.kp (by simp))) (by rw [hfo])) fun _ _ hs26 => ?_); clear hs25
       refine sq rfl (st_move hs26 (Ev.t 0 rfl) rfl rfl fun _ _ hs27 => ?_); clear hs26
       refine sq rfl (st_extract hs27 (Ev.t 0 rfl) rfl rfl rfl fun _ _ hs28 => ?_); clear hs27
       refine sq rfl (st_extract hs28 (Ev.t 1 rfl) rfl rfl rfl fun _ _ hs29 => ?_); clear hs28
       refine sq rfl (st_assign hs29 (Ev.t 1 rfl) rfl rfl fun _ _ hs30 => ?_); clear hs29
       refine sq rfl (st_assign hs30 (Ev.t 1 rfl) rfl rfl fun _ _ hs31 => ?_); clear hs30
       refine hK39 _ _ ?_; clear hK39
       have hs32 := Sx.keepT [0, 8, 9, 10, 11, 12, 13] [_, _, _, _, _, _, _] ⟨rfl, rfl, rfl, rfl, rfl, rfl, rfl, trivial⟩ hs31; clear hs31
       refine cd_seq fun K40 hK40 => ?_
       refine cd_region fun K41 hK41 => ?_
       refine sq rfl (st_move hs32 (Ev.t 2 rfl) rfl rfl fun _ _ hs33 => ?_); clear hs32
       refine sq rfl (st_cmp (c := false) hs33 (Ev.t 0 rfl) (.const _) rfl rfl rfl rfl fun _ _ hs34 => ?_); clear hs33
       refine hK41 _ _ ?_; clear hK41
       have hs35 := Sx.keepT [0, 2, 3, 4, 5, 6, 7, 8] [_, _, _, _, _, _, _, _] ⟨rfl, rfl, rfl, rfl, rfl, rfl, rfl, rfl, trivial⟩ hs34; clear hs34
       have hc42 : false = false := rfl
       refine cd_cond hs35 (Ev.t 0 rfl) (fun h => absurd (hc42.symm.trans h) (by decide)) (fun _ => ?_)
       refine cd_skip ?_
       refine th_norm (hK40 _ _ ?_)
       refine cd_seq fun K43 hK43 => ?_
       refine cd_region fun K44 hK44 => ?_
       refine sq rfl (st_loadA (o := 0) (off := 0) (vs := (bookL b A n cp)) hs35 (Ev.t 7 rfl) rfl rfl Tryd.isAgg27 Tryd.sizeOf27 (hs35.cells 3 rfl) rfl fun _ _ hs36 => ?_); clear hs35
       refine sq rfl (st_move hs36 (Ev.t 5 rfl) rfl rfl fun _ _ hs37 => ?_); clear hs36
       refine sq rfl (st_callv (vs := [.agg ⟨(bookL b A n cp)⟩, .slice A29 pl.length c29]) hs37 (.func _) ⟨(Ev.t 1 rfl), (Ev.t 0 rfl), trivial⟩ rfl rfl Tryd.call21 rfl (callsV_eq (v' := .tuple ⟨[.int .i64 0, .int .i64 4]⟩) (Fails_v b A n cp A29 pl.length c29 pl _ (hP.kp hs37.kp) hn (hO29.at hs37 1 rfl) (by omega) (hG.kp hs37.kp (by simp))) (by rw [hfp])) fun _ _ hs38 => ?_); clear hs37
       refine sq rfl (st_move hs38 (Ev.t 0 rfl) rfl rfl fun _ _ hs39 => ?_); clear hs38
       refine sq rfl (st_extract hs39 (Ev.t 0 rfl) rfl rfl rfl fun _ _ hs40 => ?_); clear hs39
       refine sq rfl (st_extract hs40 (Ev.t 1 rfl) rfl rfl rfl fun _ _ hs41 => ?_); clear hs40
       refine sq rfl (st_assign hs41 (Ev.t 1 rfl) rfl rfl fun _ _ hs42 => ?_); clear hs41
       refine sq rfl (st_assign hs42 (Ev.t 1 rfl) rfl rfl fun _ _ hs43 => ?_); clear hs42
       refine hK44 _ _ ?_; clear hK44
       have hs44 := Sx.keepT [0, 9, 10, 12, 13, 14, 15] [_, _, _, _, _, _, _] ⟨rfl, rfl, rfl, rfl, rfl, rfl, rfl, trivial⟩ hs43; clear hs43
       refine cd_region fun K45 hK45 => ?_
       refine sq rfl (st_loadA (o := 0) (off := 0) (vs := (bookL b A n cp)) hs44 (Ev.t 6 rfl) rfl rfl Tryd.isAgg27 Tryd.sizeOf27 (hs44.cells 3 rfl) rfl fun _ _ hs45 => ?_); clear hs44
       refine sq rfl (st_move hs45 (Ev.t 4 rfl) rfl rfl fun _ _ hs46 => ?_); clear hs45
       refine sq rfl (st_callv (vs := [.agg ⟨(bookL b A n cp)⟩, .slice A29 pl.length c29]) hs46 (.func _) ⟨(Ev.t 1 rfl), (Ev.t 0 rfl), trivial⟩ rfl rfl Tryd.call33 rfl (callsV_eq (v' := .bool true) (allowed_v b A n cp A29 pl.length c29 pl _ (hP.kp hs46.kp) hn (hO29.at hs46 1 rfl) (by omega) hb) (by rw [good_isPlan hgood])) fun _ _ hs47 => ?_); clear hs46
       refine sq rfl (st_not hs47 (Ev.t 0 rfl) rfl rfl fun _ _ hs48 => ?_); clear hs47
       refine sq rfl (st_move hs48 (Ev.t 0 rfl) rfl rfl fun _ _ hs49 => ?_); clear hs48
       refine sq_on hs49 rfl rfl 0 rfl rfl (st_move hs49 (Ev.t 5 rfl) rfl rfl fun _ _ hs50 => ?_); clear hs49
       refine sq_on hs50 rfl rfl 1 rfl rfl (st_cmp (c := false) hs50 (Ev.t 0 rfl) (.const _) rfl rfl rfl rfl fun _ _ hs51 => ?_); clear hs50
       refine sq rfl (st_pick hs51 (Ev.t 2 rfl) rfl rfl (fun h => by cases h) (fun h => (Ev.t 0 rfl)) fun _ _ hs52 => ?_); clear hs51
       refine hK45 _ _ ?_; clear hK45
       have hs53 := Sx.keepT [0, 9, 10, 11, 12, 13, 14] [_, _, _, _, _, _, _] ⟨rfl, rfl, rfl, rfl, rfl, rfl, rfl, trivial⟩ hs52; clear hs52
       have hc46 : false = false := rfl
       refine cd_cond hs53 (Ev.t 0 rfl) (fun h => absurd (hc46.symm.trans h) (by decide)) (fun _ => ?_)
       refine cd_skip ?_
       refine th_norm (hK43 _ _ ?_)
       refine cd_seq fun K47 hK47 => ?_
       refine cd_region fun K48 hK48 => ?_
       refine sq rfl (st_move hs53 (Ev.t 1 rfl) rfl rfl fun _ _ hs54 => ?_); clear hs53
       refine sq rfl (st_cmp (c := false) hs54 (Ev.t 0 rfl) (.const _) rfl rfl rfl rfl fun _ _ hs55 => ?_); clear hs54
       refine sq rfl (st_move hs55 (Ev.t 0 rfl) rfl rfl fun _ _ hs56 => ?_); clear hs55
       refine sq_off hs56 rfl rfl 0 rfl rfl rfl rfl rfl fun _ _ hs57 => ?_; clear hs56
       refine sq_off hs57 rfl rfl 1 rfl rfl rfl rfl rfl fun _ _ hs58 => ?_; clear hs57
       refine sq_off hs58 rfl rfl 2 rfl rfl rfl rfl rfl fun _ _ hs59 => ?_; clear hs58
       refine sq_off hs59 rfl rfl 3 rfl rfl rfl rfl rfl fun _ _ hs60 => ?_; clear hs59
       refine sq_off hs60 rfl rfl 4 rfl rfl rfl rfl rfl fun _ _ hs61 => ?_; clear hs60
       refine sq_off hs61 rfl rfl 5 rfl rfl rfl rfl rfl fun _ _ hs62 => ?_; clear hs61
       refine sq_off hs62 rfl rfl 0 rfl rfl rfl rfl rfl fun _ _ hs63 => ?_; clear hs62
       refine sq_off hs63 rfl rfl 1 rfl rfl rfl rfl rfl fun _ _ hs64 => ?_; clear hs63
       refine sq_off hs64 rfl rfl 2 rfl rfl rfl rfl rfl fun _ _ hs65 => ?_; clear hs64
       refine sq_off hs65 rfl rfl 3 rfl rfl rfl rfl rfl fun _ _ hs66 => ?_; clear hs65
       refine sq_off hs66 rfl rfl 4 rfl rfl rfl rfl rfl fun _ _ hs67 => ?_; clear hs66
       refine sq_off hs67 rfl rfl 5 rfl rfl rfl rfl rfl fun _ _ hs68 => ?_; clear hs67
       refine sq_off hs68 rfl rfl 0 rfl rfl rfl rfl rfl fun _ _ hs69 => ?_; clear hs68
       refine sq_off hs69 rfl rfl 1 rfl rfl rfl rfl rfl fun _ _ hs70 => ?_; clear hs69
       refine sq_off hs70 rfl rfl 2 rfl rfl rfl rfl rfl fun _ _ hs71 => ?_; clear hs70
       refine sq_off hs71 rfl rfl 3 rfl rfl rfl rfl rfl fun _ _ hs72 => ?_; clear hs71
       refine sq_off hs72 rfl rfl 4 rfl rfl rfl rfl rfl fun _ _ hs73 => ?_; clear hs72
       refine sq_off hs73 rfl rfl 11 rfl rfl rfl rfl rfl fun _ _ hs74 => ?_; clear hs73
       refine sq_off hs74 rfl rfl 18 rfl rfl rfl rfl rfl fun _ _ hs75 => ?_; clear hs74
       refine sq rfl (st_pick hs75 (Ev.t 19 rfl) rfl rfl (fun h => by cases h) (fun h => (.const _)) fun _ _ hs76 => ?_); clear hs75
       refine hK48 _ _ ?_; clear hK48
       have hs77 := Sx.keepT [0, 26, 27, 28, 29] [_, _, _, _, _] ⟨rfl, rfl, rfl, rfl, rfl, trivial⟩ hs76; clear hs76
       have hc49 : false = false := rfl
       refine cd_cond hs77 (Ev.t 0 rfl) (fun h => absurd (hc49.symm.trans h) (by decide)) (fun _ => ?_)
       refine cd_skip ?_
       refine th_norm (hK47 _ _ ?_)
       refine cd_region fun K50 hK50 => ?_
       refine sq rfl (st_indexArr (o' := 0) hs77 (Ev.t 3 rfl) (.const _) rfl rfl Tryd.runUnderlying29 Tryd.sizeOf3 (by decide) rfl fun _ _ hs78 => ?_); clear hs77
       refine sq rfl (st_load1 (o := 0) (off := 0) (v := .int .i64 k0) hs78 (Ev.t 0 rfl) rfl rfl Tryd.isAgg3 (hs78.cells 2 rfl) rfl fun _ _ hs79 => ?_); clear hs78
       refine sq rfl (st_move hs79 (Ev.t 3 rfl) rfl rfl fun _ _ hs80 => ?_); clear hs79
       refine sq rfl (st_len hs80 (Ev.t 0 rfl) rfl rfl Tryd.runUnderlying28 fun _ _ hs81 => ?_); clear hs80
       refine sq rfl (st_callv (vs := [.int .i64 k0, .int .i64 (pl.length : Int)]) hs81 (.func _) ⟨(Ev.t 2 rfl), (Ev.t 0 rfl), trivial⟩ rfl rfl Tryd.call38 rfl (turn_v k0 (pl.length : Int) (by omega) _) fun _ _ hs82 => ?_); clear hs81
       refine sq rfl (st_assign hs82 (Ev.t 0 rfl) rfl rfl fun _ _ hs83 => ?_); clear hs82
       refine hK50 _ _ ?_; clear hK50
       have hs84 := Sx.keepT [0, 7, 8, 9, 10] [_, _, _, _, _] ⟨rfl, rfl, rfl, rfl, rfl, trivial⟩ hs83; clear hs83
       have hplp : 0 < pl.length := by omega
       have htb := turn_bd (n := k0) (m := (pl.length : Int)) (by omega)
       obtain ⟨q, hq⟩ : ∃ q : Nat, (q : Int) = turn k0 (pl.length : Int) := ⟨(turn k0 (pl.length : Int)).toNat, Int.toNat_of_nonneg htb.1⟩
       have hqp : q < pl.length := by omega
       have hqb : q < b.parts.length := by omega
       obtain ⟨y, hy⟩ : ∃ y, pl[q]? = some y := ⟨_, List.getElem?_eq_getElem hqp⟩
       obtain ⟨x, hx⟩ : ∃ x, b.parts[q]? = some x := ⟨_, List.getElem?_eq_getElem hqb⟩
       have hyw := okWalks_iff.1 (isPlan_ok hipl hx hy)
       have hxw := (hb.parts q x hx).2
       obtain ⟨b51, o51, hA51, -, hc51⟩ := hP.el q x hx
       obtain ⟨hAp, lp, hop, hrp⟩ := hO29.open hy
       have hs85 := Sx.keepE [0, 1, 2, 3, 4] [(14, .int .i64 (q : Int)), (7, _), (6, _), (5, _), (3, _)] ⟨⟨_, rfl, (by rw [hq])⟩, ⟨_, rfl, rfl⟩, ⟨_, rfl, rfl⟩, ⟨_, rfl, rfl⟩, ⟨_, rfl, rfl⟩, trivial⟩ hs84; clear hs84
       refine cd_seq fun K52 hK52 => ?_
       refine cd_drawn mixed hs85 [⟨103, [], Is (.slice A29 pl.length c29)⟩,
      ⟨104, [], Is (.int .i64 (q : Int))⟩,
      ⟨105, [0, 1], Is (.pointer (some ⟨b29, q * 2, none⟩))⟩,
      ⟨106, [2], Is (.pointer (some ⟨b29, q * 2, none⟩))⟩,
      ⟨107, [3], Is (.int .i64 y.c)⟩,
      ⟨108, [], Is (.slice A29 pl.length c29)⟩,
      ⟨109, [], Is (.int .i64 (q : Int))⟩,
      ⟨110, [5, 6], Is (.pointer (some ⟨b29, q * 2, none⟩))⟩,
      ⟨111, [7], Is (.pointer (some ⟨b29, q * 2 + 1, none⟩))⟩,
      ⟨112, [8], Is (.int .i64 y.w)⟩,
      ⟨113, [4, 9], Is (.int .i64 (y.c + y.w))⟩,
      ⟨114, [], Is (.pointer (some ⟨b26, 22, none⟩))⟩,
      ⟨115, [11], Is (.slice A n cp)⟩,
      ⟨116, [], Is (.int .i64 (q : Int))⟩,
      ⟨117, [12, 13], Is (.pointer (some ⟨b51, o51 + q * 4, none⟩))⟩,
      ⟨118, [14], Is (.pointer (some ⟨b51, o51 + q * 4 + 3, none⟩))⟩,
      ⟨119, [15], Is (.int .i64 x.walks)⟩,
      ⟨120, [10, 16], Is (.bool ((y.c + y.w : Int) == x.walks))⟩] (by kernel_rfl) (by kernel_rfl) fun K53 hK53 => ⟨⟨?_, ?_, ?_, ?_, ?_, ?_, ?_, ?_, ?_, ?_, ?_, ?_, ?_, ?_, ?_, ?_, ?_, ?_, trivial⟩, ?_⟩
       · intro T_ B_ a_ w_ K_ hT hB
         intro hf hsD hk
         exact ob rfl rfl (st_move hsD (Ev.tmp (hT _ (mem_nth (i := 1) rfl))) rfl hf fun a_1 w_1 h1 => hk _ _ _ _ ⟨rfl, rfl⟩ h1)
       · intro T_ B_ a_ w_ K_ hT hB
         intro hf hsD hk
         exact ob rfl rfl (st_move hsD (Ev.tmp (hT _ (mem_nth (i := 0) rfl))) rfl hf fun a_1 w_1 h1 => hk _ _ _ _ ⟨rfl, rfl⟩ h1)
       · intro T_ B_ a_ w_ K_ hT hB
         rintro _ _ ⟨rfl, rfl⟩ h103 -
         rintro _ _ ⟨rfl, rfl⟩ h104 -
         intro hf hsD hk
         exact ob rfl rfl (st_indexM (o' := q * 2) hsD (Ev.tmp h103) (Ev.tmp h104) rfl hf hAp Tryd.runUnderlying28 Tryd.sizeOf64 ⟨by omega, by have := (List.getElem?_eq_some_iff.1 hy).1; omega⟩ (by simp) fun a_1 w_1 h1 => hk _ _ _ _ ⟨rfl, rfl⟩ h1)
       · intro T_ B_ a_ w_ K_ hT hB
         rintro _ _ ⟨rfl, rfl⟩ h105 -
         intro hf hsD hk
         exact ob rfl rfl (st_field (o' := q * 2) hsD (Ev.tmp h105) rfl hf Tryd.runUnderlying64 rfl Tryd.sizeOf3 rfl rfl fun a_1 w_1 h1 => hk _ _ _ _ ⟨rfl, rfl⟩ h1)
       · intro T_ B_ a_ w_ K_ hT hB
         rintro _ _ ⟨rfl, rfl⟩ h106 -
         intro hf hsD hk
         exact ob rfl rfl (st_load1 (o := (q * 2)) (off := 0) (v := .int .i64 y.c) hsD (Ev.tmp h106) rfl hf Tryd.isAgg3 (hrp.at (hsD.cellsM (by rw [← hop]; exact hB _ (mem_nth (i := 1) rfl))) hy) rfl fun a_1 w_1 h1 => hk _ _ _ _ ⟨rfl, rfl⟩ h1)
       · intro T_ B_ a_ w_ K_ hT hB
         intro hf hsD hk
         exact ob rfl rfl (st_move hsD (Ev.tmp (hT _ (mem_nth (i := 1) rfl))) rfl hf fun a_1 w_1 h1 => hk _ _ _ _ ⟨rfl, rfl⟩ h1)
       · intro T_ B_ a_ w_ K_ hT hB
         intro hf hsD hk
         exact ob rfl rfl (st_move hsD (Ev.tmp (hT _ (mem_nth (i := 0) rfl))) rfl hf fun a_1 w_1 h1 => hk _ _ _ _ ⟨rfl, rfl⟩ h1)
       · intro T_ B_ a_ w_ K_ hT hB
         rintro _ _ ⟨rfl, rfl⟩ h108 -
         rintro _ _ ⟨rfl, rfl⟩ h109 -
         intro hf hsD hk
         exact ob rfl rfl (st_indexM (o' := q * 2) hsD (Ev.tmp h108) (Ev.tmp h109) rfl hf hAp Tryd.runUnderlying28 Tryd.sizeOf64 ⟨by omega, by have := (List.getElem?_eq_some_iff.1 hy).1; omega⟩ (by simp) fun a_1 w_1 h1 => hk _ _ _ _ ⟨rfl, rfl⟩ h1)
       · intro T_ B_ a_ w_ K_ hT hB
         rintro _ _ ⟨rfl, rfl⟩ h110 -
         intro hf hsD hk
         exact ob rfl rfl (st_field (o' := q * 2 + 1) hsD (Ev.tmp h110) rfl hf Tryd.runUnderlying64 rfl Tryd.sizeOf3 rfl rfl fun a_1 w_1 h1 => hk _ _ _ _ ⟨rfl, rfl⟩ h1)
       · intro T_ B_ a_ w_ K_ hT hB
         rintro _ _ ⟨rfl, rfl⟩ h111 -
         intro hf hsD hk
         exact ob rfl rfl (st_load1 (o := (q * 2)) (off := 1) (v := .int .i64 y.w) hsD (Ev.tmp h111) rfl hf Tryd.isAgg3 (hrp.at (hsD.cellsM (by rw [← hop]; exact hB _ (mem_nth (i := 1) rfl))) hy) rfl fun a_1 w_1 h1 => hk _ _ _ _ ⟨rfl, rfl⟩ h1)
       · intro T_ B_ a_ w_ K_ hT hB
         rintro _ _ ⟨rfl, rfl⟩ h107 -
         rintro _ _ ⟨rfl, rfl⟩ h112 -
         intro hf hsD hk
         exact ob rfl rfl (st_add (z := y.c + y.w) hsD (Ev.tmp h107) (Ev.tmp h112) rfl hf rfl (by omega) fun a_1 w_1 h1 => hk _ _ _ _ ⟨rfl, rfl⟩ h1)
       · intro T_ B_ a_ w_ K_ hT hB
         intro hf hsD hk
         exact ob rfl rfl (st_field (o' := 22) hsD (Ev.tmp (hT _ (mem_nth (i := 4) rfl))) rfl hf Tryd.runUnderlying27 rfl Tryd.sizeOf25 rfl rfl fun a_1 w_1 h1 => hk _ _ _ _ ⟨rfl, rfl⟩ h1)
       · intro T_ B_ a_ w_ K_ hT hB
         rintro _ _ ⟨rfl, rfl⟩ h114 -
         intro hf hsD hk
         exact ob rfl rfl (st_load1 (o := 0) (off := 22) (v := .slice A n cp) hsD (Ev.tmp h114) rfl hf Tryd.isAgg25 (hsD.cellsM (hB _ (mem_nth (i := 3) rfl))) rfl fun a_1 w_1 h1 => hk _ _ _ _ ⟨rfl, rfl⟩ h1)
       · intro T_ B_ a_ w_ K_ hT hB
         intro hf hsD hk
         exact ob rfl rfl (st_move hsD (Ev.tmp (hT _ (mem_nth (i := 0) rfl))) rfl hf fun a_1 w_1 h1 => hk _ _ _ _ ⟨rfl, rfl⟩ h1)
       · intro T_ B_ a_ w_ K_ hT hB
         rintro _ _ ⟨rfl, rfl⟩ h115 -
         rintro _ _ ⟨rfl, rfl⟩ h116 -
         intro hf hsD hk
         exact ob rfl rfl (st_indexM (o' := o51 + q * 4) hsD (Ev.tmp h115) (Ev.tmp h116) rfl hf hA51 Tryd.runUnderlying25 Tryd.sizeOf66 ⟨by omega, by have := hP.len; have := (List.getElem?_eq_some_iff.1 hx).1; omega⟩ rfl fun a_1 w_1 h1 => hk _ _ _ _ ⟨rfl, rfl⟩ h1)
       · intro T_ B_ a_ w_ K_ hT hB
         rintro _ _ ⟨rfl, rfl⟩ h117 -
         intro hf hsD hk
         exact ob rfl rfl (st_field (o' := o51 + q * 4 + 3) hsD (Ev.tmp h117) rfl hf Tryd.runUnderlying66 rfl Tryd.sizeOf3 rfl rfl fun a_1 w_1 h1 => hk _ _ _ _ ⟨rfl, rfl⟩ h1)
       · intro T_ B_ a_ w_ K_ hT hB
         rintro _ _ ⟨rfl, rfl⟩ h118 -
         intro hf hsD hk
         exact ob rfl rfl (st_load1 (o := o51 + q * 4) (off := 3) (v := .int .i64 x.walks) hsD (Ev.tmp h118) rfl hf Tryd.isAgg3 (hsD.old hc51 (by simp)) rfl fun a_1 w_1 h1 => hk _ _ _ _ ⟨rfl, rfl⟩ h1)
       · intro T_ B_ a_ w_ K_ hT hB
         rintro _ _ ⟨rfl, rfl⟩ h113 -
         rintro _ _ ⟨rfl, rfl⟩ h119 -
         intro hf hsD hk
         exact ob rfl rfl (st_cmp (c := (y.c + y.w : Int) == x.walks) hsD (Ev.tmp h113) (Ev.tmp h119) rfl hf rfl rfl fun a_1 w_1 h1 => hk _ _ _ _ ⟨rfl, rfl⟩ h1)
       rintro _ _ ⟨rfl, rfl⟩
       rintro _ _ ⟨rfl, rfl⟩
       rintro _ _ ⟨rfl, rfl⟩
       rintro _ _ ⟨rfl, rfl⟩
       rintro _ _ ⟨rfl, rfl⟩
       rintro _ _ ⟨rfl, rfl⟩
       rintro _ _ ⟨rfl, rfl⟩
       rintro _ _ ⟨rfl, rfl⟩
       rintro _ _ ⟨rfl, rfl⟩
       rintro _ _ ⟨rfl, rfl⟩
       rintro _ _ ⟨rfl, rfl⟩
       rintro _ _ ⟨rfl, rfl⟩
       rintro _ _ ⟨rfl, rfl⟩
       rintro _ _ ⟨rfl, rfl⟩
       rintro _ _ ⟨rfl, rfl⟩
       rintro _ _ ⟨rfl, rfl⟩
       rintro _ _ ⟨rfl, rfl⟩
       rintro _ _ ⟨rfl, rfl⟩
       intro a_86 w_86 hs86
       clear hs85
       have hs87 := Sx.as (T' := [_, _, _, _, _, _, _, _, _, _, _, _, _, _, _, _, _, _, _, _, _, _, _]) (B' := [_, _, _, _]) rfl rfl hs86; clear hs86
       refine hK53 _ _ ?_; clear hK53
       have hs88 := Sx.keepT [17, 18, 19, 20, 21, 22] [_, _, _, _, _, _] ⟨rfl, rfl, rfl, rfl, rfl, rfl, trivial⟩ hs87; clear hs87
       refine cd_cond hs88 (Ev.t 0 rfl) (fun hc54 => ?_) (fun hc54 => ?_)
       · refine cd_region fun K55 hK55 => ?_
         refine sq rfl (st_callv (vs := []) hs88 (.func _) trivial rfl rfl Tryd.call20 rfl (fired_v _ (hG.kp hs88.kp (by simp))) fun _ _ hs89 => ?_); clear hs88
         have hs90 := Sx.keepT [0, 1, 2, 3, 5, 6] [_, _, _, _, _, _] ⟨rfl, rfl, rfl, rfl, rfl, rfl, trivial⟩ hs89; clear hs89
         refine sq rfl (st_assign hs90 (Ev.t 0 rfl) rfl rfl fun _ _ hs91 => ?_); clear hs90
         refine hK55 _ _ ?_; clear hK55
         have hs92 := Sx.keepT [0] [_] ⟨rfl, trivial⟩ hs91; clear hs91
         refine cd_retv (vs := [.bool true]) hs92 (fun a_ w_ h => th_ret (hQ0 a_ w_ h)) rfl ⟨.tmp 0 rfl, trivial⟩ ?_
         clear hs92 hQ0 hN0 hK52
         first | rfl | (simp [pack]; done)
       · have hne : y.c + y.w < x.walks := by simp at hc54; omega
         refine cd_skip ?_
         refine th_norm (hK52 _ _ ?_)
         refine cd_region fun K56 hK56 => ?_
         refine sq rfl (st_buildSlice hs88 (qs := []) (e := 64) (l := []) trivial rfl rfl rfl (fun _ => by kernel_rfl) fun b57 _ _ hs89 => ?_); clear hs88
         refine sq rfl (st_move hs89 (Ev.t 3 rfl) rfl rfl fun _ _ hs90 => ?_); clear hs89
         refine sq rfl (st_append (enc := walksL) (zs := ([] : List Walks)) (ys := pl) (c := 0) (i := 0) hs90 (Ev.t 1 rfl) (Ev.t 0 rfl) rfl rfl Tryd.underlying28 (show (Tryd.prog.info? 64).map (fun i => (i.zero, i.size, i.bytes)) = some (some (.agg #[.int .i64 0, .int .i64 0]), 2, 16) by kernel_rfl) rfl (fun _ => rfl) (fun _ u hu => by simp only [walksL, List.mem_cons, List.not_mem_nil, or_false] at hu; rcases hu with rfl | rfl <;> rfl) (.inl ⟨rfl, rfl⟩) rfl (hO29.at hs90 2 rfl) (by simp; omega) (by simp; omega) (fun A7 c7 bq oq _ _ hownq hs91 => ?_)); clear hs90
         have hs92 := Sx.as (T' := [_, _, _, _, _, _, _, _, _]) (B' := [_, _, _, _, _]) rfl rfl hs91; clear hs91
         rw [List.nil_append] at hownq
         have hs93 := Sx.keepE [0, 1, 2, 3, 4, 5, 6, 7, 8] [(124, .slice A7 pl.length c7), (123, _), (122, _), (120, _), (14, _), (7, _), (6, _), (5, _), (3, _)] ⟨⟨_, rfl, (by simp)⟩, ⟨_, rfl, rfl⟩, ⟨_, rfl, rfl⟩, ⟨_, rfl, rfl⟩, ⟨_, rfl, rfl⟩, ⟨_, rfl, rfl⟩, ⟨_, rfl, rfl⟩, ⟨_, rfl, rfl⟩, ⟨_, rfl, rfl⟩, trivial⟩ hs92; clear hs92
         refine sq rfl (st_assign hs93 (Ev.t 0 rfl) rfl rfl fun _ _ hs94 => ?_); clear hs93
         refine hK56 _ _ ?_; clear hK56
         have hs95 := Sx.keepT [0, 5, 7, 8, 9] [_, _, _, _, _] ⟨rfl, rfl, rfl, rfl, rfl, trivial⟩ hs94; clear hs94
         refine cd_seq fun K58 hK58 => ?_
         refine cd_region fun K59 hK59 => ?_
         refine sq rfl (st_indexArr (o' := 1) hs95 (Ev.t 3 rfl) (.const _) rfl rfl Tryd.runUnderlying29 Tryd.sizeOf3 (by decide) rfl fun _ _ hs96 => ?_); clear hs95
         refine sq rfl (st_load1 (o := 0) (off := 1) (v := .int .i64 k1) hs96 (Ev.t 0 rfl) rfl rfl Tryd.isAgg3 (hs96.cells 3 rfl) rfl fun _ _ hs97 => ?_); clear hs96
         refine sq rfl (st_rem hs97 (Ev.t 0 rfl) (.const _) rfl rfl (by omega) fun _ _ hs98 => ?_); clear hs97
         refine sq rfl (st_cmp (c := ((k1 : Int).tmod 2 : Int) == 0) hs98 (Ev.t 0 rfl) (.const _) rfl rfl rfl rfl fun _ _ hs99 => ?_); clear hs98
         refine hK59 _ _ ?_; clear hK59
         have hs100 := Sx.keepT [0, 4, 5, 6, 8] [_, _, _, _, _] ⟨rfl, rfl, rfl, rfl, rfl, trivial⟩ hs99; clear hs99
         refine cd_cond hs100 (Ev.t 0 rfl) (fun hc60 => ?_) (fun hc60 => ?_)
         · refine cd_region1 ?_
           refine sq rfl (st_move hs100 (Ev.t 1 rfl) rfl rfl fun _ _ hs101 => ?_); clear hs100
           refine sq rfl (st_move hs101 (Ev.t 3 rfl) rfl rfl fun _ _ hs102 => ?_); clear hs101
           obtain ⟨hA61, l61, ho61, hr61⟩ := hownq.open hy
           refine sq rfl (st_indexM (o' := q * 2) hs102 (Ev.t 1 rfl) (Ev.t 0 rfl) rfl rfl hA61 Tryd.runUnderlying28 Tryd.sizeOf64 ⟨by omega, by have := (List.getElem?_eq_some_iff.1 hy).1; omega⟩ (by simp) fun _ _ hs103 => ?_); clear hs102
           refine sq rfl (st_field (o' := q * 2) hs103 (Ev.t 0 rfl) rfl rfl Tryd.runUnderlying64 rfl Tryd.sizeOf3 rfl rfl fun _ _ hs104 => ?_); clear hs103
           refine sq rfl (st_load1 (o := (q * 2)) (off := 0) (v := .int .i64 y.c) hs104 (Ev.t 0 rfl) rfl rfl Tryd.isAgg3 (hr61.at (hs104.cellsO 0 rfl ho61) hy) rfl fun _ _ hs105 => ?_); clear hs104
           refine sq rfl (st_add (z := y.c + 1) hs105 (Ev.t 0 rfl) (.const _) rfl rfl rfl (by omega) fun _ _ hs106 => ?_); clear hs105
           refine sq rfl (st_indexM (o' := q * 2) hs106 (Ev.t 5 rfl) (Ev.t 4 rfl) rfl rfl hA61 Tryd.runUnderlying28 Tryd.sizeOf64 ⟨by omega, by have := (List.getElem?_eq_some_iff.1 hy).1; omega⟩ (by simp) fun _ _ hs107 => ?_); clear hs106
           refine sq rfl (st_field (o' := q * 2) hs107 (Ev.t 0 rfl) rfl rfl Tryd.runUnderlying64 rfl Tryd.sizeOf3 rfl rfl fun _ _ hs108 => ?_); clear hs107
           refine sq rfl (st_storeOwn (enc := walksL) (sz := 2) (off := 0) (kk := q) (i := 0) (u := y) (u' := ⟨y.c + 1, y.w⟩) hs108 (Ev.t 0 rfl) (Ev.t 2 rfl) Tryd.sizeOf3 rfl hownq hy (fun _ => rfl) (by decide) rfl rfl rfl (fun o8 _ _ hown8 hs109 => ?_)); clear hs108
           have hs110 := Sx.as (T' := [_, _, _, _, _, _, _, _, _, _, _, _, _]) (B' := [_, _, _, _, _]) rfl rfl hs109; clear hs109
           have hfx := failsR_good hok (good_more hb hgood hy hx (z := ⟨y.c + 1, y.w⟩) (by constructor <;> simp only <;> omega) (okWalks_iff.2 (by simp only; omega)))
           refine wpListIn_nil ?_
           have hs111 := Sx.keepT [9, 11, 12] [_, _, _] ⟨rfl, rfl, rfl, trivial⟩ hs110; clear hs110
           refine th_norm (hK58 _ _ ?_)
           refine cd_region fun K62 hK62 => ?_
           refine sq rfl (st_loadA (o := 0) (off := 0) (vs := (bookL b A n cp)) hs111 (Ev.t 2 rfl) rfl rfl Tryd.isAgg27 Tryd.sizeOf27 (hs111.cells 4 rfl) rfl fun _ _ hs112 => ?_); clear hs111
           refine sq rfl (st_move hs112 (Ev.t 1 rfl) rfl rfl fun _ _ hs113 => ?_); clear hs112
           refine sq rfl (st_callv (vs := [.agg ⟨(bookL b A n cp)⟩, .slice A7 pl.length c7]) hs113 (.func _) ⟨(Ev.t 1 rfl), (Ev.t 0 rfl), trivial⟩ rfl rfl Tryd.call21 rfl (callsV_eq (v' := .tuple ⟨[.int .i64 0, .int .i64 4]⟩) (Fails_v b A n cp A7 pl.length c7 (pl.set q ⟨y.c + 1, y.w⟩) _ (hP.kp hs113.kp) hn (by rw [show pl.length = ((pl.set q ⟨y.c + 1, y.w⟩)).length from by simp]; exact (hown8.at hs113 0 rfl)) (by omega) (hG.kp hs113.kp (by simp))) (by rw [hfx])) fun _ _ hs114 => ?_); clear hs113
           refine sq rfl (st_move hs114 (Ev.t 0 rfl) rfl rfl fun _ _ hs115 => ?_); clear hs114
           refine sq rfl (st_extract hs115 (Ev.t 0 rfl) rfl rfl rfl fun _ _ hs116 => ?_); clear hs115
           refine sq rfl (st_extract hs116 (Ev.t 1 rfl) rfl rfl rfl fun _ _ hs117 => ?_); clear hs116
           refine sq rfl (st_assign hs117 (Ev.t 1 rfl) rfl rfl fun _ _ hs118 => ?_); clear hs117
           refine sq rfl (st_assign hs118 (Ev.t 1 rfl) rfl rfl fun _ _ hs119 => ?_); clear hs118
           refine hK62 _ _ ?_; clear hK62
           have hs120 := Sx.keepT [0, 9] [_, _] ⟨rfl, rfl, trivial⟩ hs119; clear hs119
           refine cd_region fun K63 hK63 => ?_
           refine sq rfl (st_move hs120 (Ev.t 0 rfl) rfl rfl fun _ _ hs121 => ?_); clear hs120
           refine sq rfl (st_cmp (c := true) hs121 (Ev.t 0 rfl) (.const _) rfl rfl rfl rfl fun _ _ hs122 => ?_); clear hs121
           refine sq rfl (st_move hs122 (Ev.t 0 rfl) rfl rfl fun _ _ hs123 => ?_); clear hs122
           refine sq_on hs123 rfl rfl 0 rfl rfl (st_callv (vs := []) hs123 (.func _) trivial rfl rfl Tryd.call20 rfl (fired_v _ (hG.kp hs123.kp (by simp))) fun _ _ hs124 => ?_); clear hs123
           refine sq rfl (st_pick hs124 (Ev.t 1 rfl) rfl rfl (fun h => (Ev.t 0 rfl)) (fun h => by cases h) fun _ _ hs125 => ?_); clear hs124
           have hs126 := Sx.keepT [0, 1, 2, 3, 4, 5] [_, _, _, _, _, _] ⟨rfl, rfl, rfl, rfl, rfl, rfl, trivial⟩ hs125; clear hs125
           refine sq rfl (st_assign hs126 (Ev.t 0 rfl) rfl rfl fun _ _ hs127 => ?_); clear hs126
           refine hK63 _ _ ?_; clear hK63
           have hs128 := Sx.keepT [0] [_] ⟨rfl, trivial⟩ hs127; clear hs127
           refine cd_retv (vs := [.bool true]) hs128 hQ0 rfl ⟨.tmp 0 rfl, trivial⟩ ?_
           clear hs128 hQ0 hN0
           first | rfl | (simp [pack]; done)
         · refine cd_region1 ?_
           refine sq rfl (st_move hs100 (Ev.t 1 rfl) rfl rfl fun _ _ hs101 => ?_); clear hs100
           refine sq rfl (st_move hs101 (Ev.t 3 rfl) rfl rfl fun _ _ hs102 => ?_); clear hs101
           obtain ⟨hA64, l64, ho64, hr64⟩ := hownq.open hy
           refine sq rfl (st_indexM (o' := q * 2) hs102 (Ev.t 1 rfl) (Ev.t 0 rfl) rfl rfl hA64 Tryd.runUnderlying28 Tryd.sizeOf64 ⟨by omega, by have := (List.getElem?_eq_some_iff.1 hy).1; omega⟩ (by simp) fun _ _ hs103 => ?_); clear hs102
           refine sq rfl (st_field (o' := q * 2 + 1) hs103 (Ev.t 0 rfl) rfl rfl Tryd.runUnderlying64 rfl Tryd.sizeOf3 rfl rfl fun _ _ hs104 => ?_); clear hs103
           refine sq rfl (st_load1 (o := (q * 2)) (off := 1) (v := .int .i64 y.w) hs104 (Ev.t 0 rfl) rfl rfl Tryd.isAgg3 (hr64.at (hs104.cellsO 0 rfl ho64) hy) rfl fun _ _ hs105 => ?_); clear hs104
           refine sq rfl (st_add (z := y.w + 1) hs105 (Ev.t 0 rfl) (.const _) rfl rfl rfl (by omega) fun _ _ hs106 => ?_); clear hs105
           refine sq rfl (st_indexM (o' := q * 2) hs106 (Ev.t 5 rfl) (Ev.t 4 rfl) rfl rfl hA64 Tryd.runUnderlying28 Tryd.sizeOf64 ⟨by omega, by have := (List.getElem?_eq_some_iff.1 hy).1; omega⟩ (by simp) fun _ _ hs107 => ?_); clear hs106
           refine sq rfl (st_field (o' := q * 2 + 1) hs107 (Ev.t 0 rfl) rfl rfl Tryd.runUnderlying64 rfl Tryd.sizeOf3 rfl rfl fun _ _ hs108 => ?_); clear hs107
           refine sq rfl (st_storeOwn (enc := walksL) (sz := 2) (off := 1) (kk := q) (i := 0) (u := y) (u' := ⟨y.c, y.w + 1⟩) hs108 (Ev.t 0 rfl) (Ev.t 2 rfl) Tryd.sizeOf3 rfl hownq hy (fun _ => rfl) (by decide) rfl rfl rfl (fun o8 _ _ hown8 hs109 => ?_)); clear hs108
           have hs110 := Sx.as (T' := [_, _, _, _, _, _, _, _, _, _, _, _, _]) (B' := [_, _, _, _, _]) rfl rfl hs109; clear hs109
           have hfx := failsR_good hok (good_more hb hgood hy hx (z := ⟨y.c, y.w + 1⟩) (by constructor <;> simp only <;> omega) (okWalks_iff.2 (by simp only; omega)))
           refine wpListIn_nil ?_
           have hs111 := Sx.keepT [9, 11, 12] [_, _, _] ⟨rfl, rfl, rfl, trivial⟩ hs110; clear hs110
           refine th_norm (hK58 _ _ ?_)
           refine cd_region fun K65 hK65 => ?_
           refine sq rfl (st_loadA (o := 0) (off := 0) (vs := (bookL b A n cp)) hs111 (Ev.t 2 rfl) rfl rfl Tryd.isAgg27 Tryd.sizeOf27 (hs111.cells 4 rfl) rfl fun _ _ hs112 => ?_); clear hs111
           refine sq rfl (st_move hs112 (Ev.t 1 rfl) rfl rfl fun _ _ hs113 => ?_); clear hs112
           refine sq rfl (st_callv (vs := [.agg ⟨(bookL b A n cp)⟩, .slice A7 pl.length c7]) hs113 (.func _) ⟨(Ev.t 1 rfl), (Ev.t 0 rfl), trivial⟩ rfl rfl Tryd.call21 rfl (callsV_eq (v' := .tuple ⟨[.int .i64 0, .int .i64 4]⟩) (Fails_v b A n cp A7 pl.length c7 (pl.set q ⟨y.c, y.w + 1⟩) _ (hP.kp hs113.kp) hn (by rw [show pl.length = ((pl.set q ⟨y.c, y.w + 1⟩)).length from by simp]; exact (hown8.at hs113 0 rfl)) (by omega) (hG.kp hs113.kp (by simp))) (by rw [hfx])) fun _ _ hs114 => ?_); clear hs113
           refine sq rfl (st_move hs114 (Ev.t 0 rfl) rfl rfl fun _ _ hs115 => ?_); clear hs114
           refine sq rfl (st_extract hs115 (Ev.t 0 rfl) rfl rfl rfl fun _ _ hs116 => ?_); clear hs115
           refine sq rfl (st_extract hs116 (Ev.t 1 rfl) rfl rfl rfl fun _ _ hs117 => ?_); clear hs116
           refine sq rfl (st_assign hs117 (Ev.t 1 rfl) rfl rfl fun _ _ hs118 => ?_); clear hs117
           refine sq rfl (st_assign hs118 (Ev.t 1 rfl) rfl rfl fun _ _ hs119 => ?_); clear hs118
           refine hK65 _ _ ?_; clear hK65
           have hs120 := Sx.keepT [0, 9] [_, _] ⟨rfl, rfl, trivial⟩ hs119; clear hs119
           refine cd_region fun K66 hK66 => ?_
           refine sq rfl (st_move hs120 (Ev.t 0 rfl) rfl rfl fun _ _ hs121 => ?_); clear hs120
           refine sq rfl (st_cmp (c := true) hs121 (Ev.t 0 rfl) (.const _) rfl rfl rfl rfl fun _ _ hs122 => ?_); clear hs121
           refine sq rfl (st_move hs122 (Ev.t 0 rfl) rfl rfl fun _ _ hs123 => ?_); clear hs122
           refine sq_on hs123 rfl rfl 0 rfl rfl (st_callv (vs := []) hs123 (.func _) trivial rfl rfl Tryd.call20 rfl (fired_v _ (hG.kp hs123.kp (by simp))) fun _ _ hs124 => ?_); clear hs123
           refine sq rfl (st_pick hs124 (Ev.t 1 rfl) rfl rfl (fun h => (Ev.t 0 rfl)) (fun h => by cases h) fun _ _ hs125 => ?_); clear hs124
           have hs126 := Sx.keepT [0, 1, 2, 3, 4, 5] [_, _, _, _, _, _] ⟨rfl, rfl, rfl, rfl, rfl, rfl, trivial⟩ hs125; clear hs125
           refine sq rfl (st_assign hs126 (Ev.t 0 rfl) rfl rfl fun _ _ hs127 => ?_); clear hs126
           refine hK66 _ _ ?_; clear hK66
           have hs128 := Sx.keepT [0] [_] ⟨rfl, trivial⟩ hs127; clear hs127
           refine cd_retv (vs := [.bool true]) hs128 hQ0 rfl ⟨.tmp 0 rfl, trivial⟩ ?_
           clear hs128 hQ0 hN0
           first | rfl | (simp [pack]; done)
     · skip
       have hfo := failsR_good hok hgo
       have holl := isPlan_len hol
       have hsmo := isPlan_small hb hol
       rcases hmin ol hgo with hlt | ⟨heq, hbef⟩
       · skip
         refine cd_region fun K67 hK67 => ?_
         refine sq rfl (st_loadA (o := 0) (off := 0) (vs := (bookL b A n cp)) hs23 (Ev.t 5 rfl) rfl rfl Tryd.isAgg27 Tryd.sizeOf27 (hs23.cells 3 rfl) rfl fun _ _ hs24 => ?_); clear hs23
         refine sq rfl (st_move hs24 (Ev.t 1 rfl) rfl rfl fun _ _ hs25 => ?_); clear hs24
         refine sq rfl (st_callv (vs := [.agg ⟨(bookL b A n cp)⟩, .slice Ao36 ol.length co36]) hs25 (.func _) ⟨(Ev.t 1 rfl), (Ev.t 0 rfl), trivial⟩ rfl rfl Tryd.call21 rfl (callsV_eq (v' := .tuple ⟨[.int .i64 0, .int .i64 4]⟩) (Fails_v b A n cp Ao36 ol.length co36 ol _ (hP.kp hs25.kp) hn (hOo36.at hs25 0 rfl) (by omega) (hG.kp hs25.kp (by simp))) (by rw [hfo])) fun _ _ hs26 => ?_); clear hs25
         refine sq rfl (st_move hs26 (Ev.t 0 rfl) rfl rfl fun _ _ hs27 => ?_); clear hs26
         refine sq rfl (st_extract hs27 (Ev.t 0 rfl) rfl rfl rfl fun _ _ hs28 => ?_); clear hs27
         refine sq rfl (st_extract hs28 (Ev.t 1 rfl) rfl rfl rfl fun _ _ hs29 => ?_); clear hs28
         refine sq rfl (st_assign hs29 (Ev.t 1 rfl) rfl rfl fun _ _ hs30 => ?_); clear hs29
         refine sq rfl (st_assign hs30 (Ev.t 1 rfl) rfl rfl fun _ _ hs31 => ?_); clear hs30
         refine hK67 _ _ ?_; clear hK67
         have hs32 := Sx.keepT [0, 8, 9, 10, 11, 12, 13] [_, _, _, _, _, _, _] ⟨rfl, rfl, rfl, rfl, rfl, rfl, rfl, trivial⟩ hs31; clear hs31
         refine cd_seq fun K68 hK68 => ?_
         refine cd_region fun K69 hK69 => ?_
         refine sq rfl (st_move hs32 (Ev.t 2 rfl) rfl rfl fun _ _ hs33 => ?_); clear hs32
         refine sq rfl (st_cmp (c := false) hs33 (Ev.t 0 rfl) (.const _) rfl rfl rfl rfl fun _ _ hs34 => ?_); clear hs33
         refine hK69 _ _ ?_; clear hK69
         have hs35 := Sx.keepT [0, 2, 3, 4, 5, 6, 7, 8] [_, _, _, _, _, _, _, _] ⟨rfl, rfl, rfl, rfl, rfl, rfl, rfl, rfl, trivial⟩ hs34; clear hs34
         have hc70 : false = false := rfl
         refine cd_cond hs35 (Ev.t 0 rfl) (fun h => absurd (hc70.symm.trans h) (by decide)) (fun _ => ?_)
         refine cd_skip ?_
         refine th_norm (hK68 _ _ ?_)
         refine cd_seq fun K71 hK71 => ?_
         refine cd_region fun K72 hK72 => ?_
         refine sq rfl (st_loadA (o := 0) (off := 0) (vs := (bookL b A n cp)) hs35 (Ev.t 7 rfl) rfl rfl Tryd.isAgg27 Tryd.sizeOf27 (hs35.cells 3 rfl) rfl fun _ _ hs36 => ?_); clear hs35
         refine sq rfl (st_move hs36 (Ev.t 5 rfl) rfl rfl fun _ _ hs37 => ?_); clear hs36
         refine sq rfl (st_callv (vs := [.agg ⟨(bookL b A n cp)⟩, .slice A29 pl.length c29]) hs37 (.func _) ⟨(Ev.t 1 rfl), (Ev.t 0 rfl), trivial⟩ rfl rfl Tryd.call21 rfl (callsV_eq (v' := .tuple ⟨[.int .i64 0, .int .i64 4]⟩) (Fails_v b A n cp A29 pl.length c29 pl _ (hP.kp hs37.kp) hn (hO29.at hs37 1 rfl) (by omega) (hG.kp hs37.kp (by simp))) (by rw [hfp])) fun _ _ hs38 => ?_); clear hs37
         refine sq rfl (st_move hs38 (Ev.t 0 rfl) rfl rfl fun _ _ hs39 => ?_); clear hs38
         refine sq rfl (st_extract hs39 (Ev.t 0 rfl) rfl rfl rfl fun _ _ hs40 => ?_); clear hs39
         refine sq rfl (st_extract hs40 (Ev.t 1 rfl) rfl rfl rfl fun _ _ hs41 => ?_); clear hs40
         refine sq rfl (st_assign hs41 (Ev.t 1 rfl) rfl rfl fun _ _ hs42 => ?_); clear hs41
         refine sq rfl (st_assign hs42 (Ev.t 1 rfl) rfl rfl fun _ _ hs43 => ?_); clear hs42
         refine hK72 _ _ ?_; clear hK72
         have hs44 := Sx.keepT [0, 9, 10, 12, 13, 14, 15] [_, _, _, _, _, _, _] ⟨rfl, rfl, rfl, rfl, rfl, rfl, rfl, trivial⟩ hs43; clear hs43
         refine cd_region fun K73 hK73 => ?_
         refine sq rfl (st_loadA (o := 0) (off := 0) (vs := (bookL b A n cp)) hs44 (Ev.t 6 rfl) rfl rfl Tryd.isAgg27 Tryd.sizeOf27 (hs44.cells 3 rfl) rfl fun _ _ hs45 => ?_); clear hs44
         refine sq rfl (st_move hs45 (Ev.t 4 rfl) rfl rfl fun _ _ hs46 => ?_); clear hs45
         refine sq rfl (st_callv (vs := [.agg ⟨(bookL b A n cp)⟩, .slice A29 pl.length c29]) hs46 (.func _) ⟨(Ev.t 1 rfl), (Ev.t 0 rfl), trivial⟩ rfl rfl Tryd.call33 rfl (callsV_eq (v' := .bool true) (allowed_v b A n cp A29 pl.length c29 pl _ (hP.kp hs46.kp) hn (hO29.at hs46 1 rfl) (by omega) hb) (by rw [good_isPlan hgood])) fun _ _ hs47 => ?_); clear hs46
         refine sq rfl (st_not hs47 (Ev.t 0 rfl) rfl rfl fun _ _ hs48 => ?_); clear hs47
         refine sq rfl (st_move hs48 (Ev.t 0 rfl) rfl rfl fun _ _ hs49 => ?_); clear hs48
         refine sq_on hs49 rfl rfl 0 rfl rfl (st_move hs49 (Ev.t 5 rfl) rfl rfl fun _ _ hs50 => ?_); clear hs49
         refine sq_on hs50 rfl rfl 1 rfl rfl (st_cmp (c := false) hs50 (Ev.t 0 rfl) (.const _) rfl rfl rfl rfl fun _ _ hs51 => ?_); clear hs50
         refine sq rfl (st_pick hs51 (Ev.t 2 rfl) rfl rfl (fun h => by cases h) (fun h => (Ev.t 0 rfl)) fun _ _ hs52 => ?_); clear hs51
         refine hK73 _ _ ?_; clear hK73
         have hs53 := Sx.keepT [0, 9, 10, 11, 12, 13, 14] [_, _, _, _, _, _, _] ⟨rfl, rfl, rfl, rfl, rfl, rfl, rfl, trivial⟩ hs52; clear hs52
         have hc74 : false = false := rfl
         refine cd_cond hs53 (Ev.t 0 rfl) (fun h => absurd (hc74.symm.trans h) (by decide)) (fun _ => ?_)
         refine cd_skip ?_
         refine th_norm (hK71 _ _ ?_)
         refine cd_seq fun K75 hK75 => ?_
         refine cd_region fun K76 hK76 => ?_
         refine sq rfl (st_move hs53 (Ev.t 1 rfl) rfl rfl fun _ _ hs54 => ?_); clear hs53
         refine sq rfl (st_cmp (c := true) hs54 (Ev.t 0 rfl) (.const _) rfl rfl rfl rfl fun _ _ hs55 => ?_); clear hs54
         refine sq rfl (st_move hs55 (Ev.t 0 rfl) rfl rfl fun _ _ hs56 => ?_); clear hs55
         refine sq_on hs56 rfl rfl 0 rfl rfl (st_move hs56 (Ev.t 5 rfl) rfl rfl fun _ _ hs57 => ?_); clear hs56
         refine sq_on hs57 rfl rfl 1 rfl rfl (st_callv (vs := [.slice Ao36 ol.length co36]) hs57 (.func _) ⟨(Ev.t 0 rfl), trivial⟩ rfl rfl Tryd.call41 rfl (many_v Ao36 ol.length co36 ol _ (hOo36.at hs57 0 rfl) (by omega) hsmo) fun _ _ hs58 => ?_); clear hs57
         refine sq_on hs58 rfl rfl 2 rfl rfl (st_move hs58 (Ev.t 8 rfl) rfl rfl fun _ _ hs59 => ?_); clear hs58
         refine sq_on hs59 rfl rfl 3 rfl rfl (st_callv (vs := [.slice A29 pl.length c29]) hs59 (.func _) ⟨(Ev.t 0 rfl), trivial⟩ rfl rfl Tryd.call41 rfl (many_v A29 pl.length c29 pl _ (hO29.at hs59 1 rfl) (by omega) hsmp) fun _ _ hs60 => ?_); clear hs59
         refine sq_on hs60 rfl rfl 4 rfl rfl (st_cmp (c := decide ((sumW ol : Int) < (sumW pl))) hs60 (Ev.t 2 rfl) (Ev.t 0 rfl) rfl rfl rfl rfl fun _ _ hs61 => ?_); clear hs60
         have hs62 := Sx.keepE [0, 1, 2, 3, 4, 5, 6, 7, 8, 9, 10, 11, 12, 13, 14] [(82, .bool false), (81, _), (80, _), (79, _), (78, _), (77, _), (76, _), (75, _), (74, _), (11, _), (9, _), (7, _), (6, _), (5, _), (3, _)] ⟨⟨_, rfl, (by congr 1; simp; omega)⟩, ⟨_, rfl, rfl⟩, ⟨_, rfl, rfl⟩, ⟨_, rfl, rfl⟩, ⟨_, rfl, rfl⟩, ⟨_, rfl, rfl⟩, ⟨_, rfl, rfl⟩, ⟨_, rfl, rfl⟩, ⟨_, rfl, rfl⟩, ⟨_, rfl, rfl⟩, ⟨_, rfl, rfl⟩, ⟨_, rfl, rfl⟩, ⟨_, rfl, rfl⟩, ⟨_, rfl, rfl⟩, ⟨_, rfl, rfl⟩, trivial⟩ hs61; clear hs61
         refine sq_on hs62 rfl rfl 5 rfl rfl (st_move hs62 (Ev.t 0 rfl) rfl rfl fun _ _ hs63 => ?_); clear hs62
         refine sq_on hs63 rfl rfl 0 rfl rfl (st_move hs63 (Ev.t 11 rfl) rfl rfl fun _ _ hs64 => ?_); clear hs63
         refine sq_on hs64 rfl rfl 1 rfl rfl (st_callv (vs := [.slice Ao36 ol.length co36]) hs64 (.func _) ⟨(Ev.t 0 rfl), trivial⟩ rfl rfl Tryd.call41 rfl (many_v Ao36 ol.length co36 ol _ (hOo36.at hs64 0 rfl) (by omega) hsmo) fun _ _ hs65 => ?_); clear hs64
         refine sq_on hs65 rfl rfl 2 rfl rfl (st_move hs65 (Ev.t 14 rfl) rfl rfl fun _ _ hs66 => ?_); clear hs65
         refine sq_on hs66 rfl rfl 3 rfl rfl (st_callv (vs := [.slice A29 pl.length c29]) hs66 (.func _) ⟨(Ev.t 0 rfl), trivial⟩ rfl rfl Tryd.call41 rfl (many_v A29 pl.length c29 pl _ (hO29.at hs66 1 rfl) (by omega) hsmp) fun _ _ hs67 => ?_); clear hs66
         refine sq_on hs67 rfl rfl 4 rfl rfl (st_cmp (c := (sumW ol : Int) == (sumW pl)) hs67 (Ev.t 2 rfl) (Ev.t 0 rfl) rfl rfl rfl rfl fun _ _ hs68 => ?_); clear hs67
         have hs69 := Sx.keepE [0, 1, 2, 3, 4, 5, 6, 7, 8, 9, 10, 11, 12, 13, 14, 15, 16, 17, 18, 19, 20] [(88, .bool false), (87, _), (86, _), (85, _), (84, _), (83, _), (82, _), (81, _), (80, _), (79, _), (78, _), (77, _), (76, _), (75, _), (74, _), (11, _), (9, _), (7, _), (6, _), (5, _), (3, _)] ⟨⟨_, rfl, (by congr 1; simp; omega)⟩, ⟨_, rfl, rfl⟩, ⟨_, rfl, rfl⟩, ⟨_, rfl, rfl⟩, ⟨_, rfl, rfl⟩, ⟨_, rfl, rfl⟩, ⟨_, rfl, rfl⟩, ⟨_, rfl, rfl⟩, ⟨_, rfl, rfl⟩, ⟨_, rfl, rfl⟩, ⟨_, rfl, rfl⟩, ⟨_, rfl, rfl⟩, ⟨_, rfl, rfl⟩, ⟨_, rfl, rfl⟩, ⟨_, rfl, rfl⟩, ⟨_, rfl, rfl⟩, ⟨_, rfl, rfl⟩, ⟨_, rfl, rfl⟩, ⟨_, rfl, rfl⟩, ⟨_, rfl, rfl⟩, ⟨_, rfl, rfl⟩, trivial⟩ hs68; clear hs68
         refine sq_on hs69 rfl rfl 5 rfl rfl (st_move hs69 (Ev.t 0 rfl) rfl rfl fun _ _ hs70 => ?_); clear hs69
         refine sq_off hs70 rfl rfl 0 rfl rfl rfl rfl rfl fun _ _ hs71 => ?_; clear hs70
         refine sq_off hs71 rfl rfl 1 rfl rfl rfl rfl rfl fun _ _ hs72 => ?_; clear hs71
         refine sq_off hs72 rfl rfl 2 rfl rfl rfl rfl rfl fun _ _ hs73 => ?_; clear hs72
         refine sq_off hs73 rfl rfl 3 rfl rfl rfl rfl rfl fun _ _ hs74 => ?_; clear hs73
         refine sq_off hs74 rfl rfl 4 rfl rfl rfl rfl rfl fun _ _ hs75 => ?_; clear hs74
         refine sq_on hs75 rfl rfl 11 rfl rfl (st_pick hs75 (Ev.t 5 rfl) rfl rfl (fun h => by cases h) (fun h => (.const _)) fun _ _ hs76 => ?_); clear hs75
         refine sq_on hs76 rfl rfl 18 rfl rfl (st_pick hs76 (Ev.t 12 rfl) rfl rfl (fun h => by cases h) (fun h => (Ev.t 0 rfl)) fun _ _ hs77 => ?_); clear hs76
         refine sq rfl (st_pick hs77 (Ev.t 19 rfl) rfl rfl (fun h => (Ev.t 0 rfl)) (fun h => by cases h) fun _ _ hs78 => ?_); clear hs77
         refine hK76 _ _ ?_; clear hK76
         have hs79 := Sx.keepT [0, 26, 27, 28, 29] [_, _, _, _, _] ⟨rfl, rfl, rfl, rfl, rfl, trivial⟩ hs78; clear hs78
         have hc77 : false = false := rfl
         refine cd_cond hs79 (Ev.t 0 rfl) (fun h => absurd (hc77.symm.trans h) (by decide)) (fun _ => ?_)
         refine cd_skip ?_
         refine th_norm (hK75 _ _ ?_)
         refine cd_region fun K78 hK78 => ?_
         refine sq rfl (st_indexArr (o' := 0) hs79 (Ev.t 3 rfl) (.const _) rfl rfl Tryd.runUnderlying29 Tryd.sizeOf3 (by decide) rfl fun _ _ hs80 => ?_); clear hs79
         refine sq rfl (st_load1 (o := 0) (off := 0) (v := .int .i64 k0) hs80 (Ev.t 0 rfl) rfl rfl Tryd.isAgg3 (hs80.cells 2 rfl) rfl fun _ _ hs81 => ?_); clear hs80
         refine sq rfl (st_move hs81 (Ev.t 3 rfl) rfl rfl fun _ _ hs82 => ?_); clear hs81
         refine sq rfl (st_len hs82 (Ev.t 0 rfl) rfl rfl Tryd.runUnderlying28 fun _ _ hs83 => ?_); clear hs82
         refine sq rfl (st_callv (vs := [.int .i64 k0, .int .i64 (pl.length : Int)]) hs83 (.func _) ⟨(Ev.t 2 rfl), (Ev.t 0 rfl), trivial⟩ rfl rfl Tryd.call38 rfl (turn_v k0 (pl.length : Int) (by omega) _) fun _ _ hs84 => ?_); clear hs83
         refine sq rfl (st_assign hs84 (Ev.t 0 rfl) rfl rfl fun _ _ hs85 => ?_); clear hs84
         refine hK78 _ _ ?_; clear hK78
         have hs86 := Sx.keepT [0, 7, 8, 9, 10] [_, _, _, _, _] ⟨rfl, rfl, rfl, rfl, rfl, trivial⟩ hs85; clear hs85
         have hplp : 0 < pl.length := by omega
         have htb := turn_bd (n := k0) (m := (pl.length : Int)) (by omega)
         obtain ⟨q, hq⟩ : ∃ q : Nat, (q : Int) = turn k0 (pl.length : Int) := ⟨(turn k0 (pl.length : Int)).toNat, Int.toNat_of_nonneg htb.1⟩
         have hqp : q < pl.length := by omega
         have hqb : q < b.parts.length := by omega
         obtain ⟨y, hy⟩ : ∃ y, pl[q]? = some y := ⟨_, List.getElem?_eq_getElem hqp⟩
         obtain ⟨x, hx⟩ : ∃ x, b.parts[q]? = some x := ⟨_, List.getElem?_eq_getElem hqb⟩
         have hyw := okWalks_iff.1 (isPlan_ok hipl hx hy)
         have hxw := (hb.parts q x hx).2
         obtain ⟨b79, o79, hA79, -, hc79⟩ := hP.el q x hx
         obtain ⟨hAp, lp, hop, hrp⟩ := hO29.open hy
         have hs87 := Sx.keepE [0, 1, 2, 3, 4] [(14, .int .i64 (q : Int)), (7, _), (6, _), (5, _), (3, _)] ⟨⟨_, rfl, (by rw [hq])⟩, ⟨_, rfl, rfl⟩, ⟨_, rfl, rfl⟩, ⟨_, rfl, rfl⟩, ⟨_, rfl, rfl⟩, trivial⟩ hs86; clear hs86
         refine cd_seq fun K80 hK80 => ?_
         refine cd_drawn mixed hs87 [⟨103, [], Is (.slice A29 pl.length c29)⟩,
      ⟨104, [], Is (.int .i64 (q : Int))⟩,
      ⟨105, [0, 1], Is (.pointer (some ⟨b29, q * 2, none⟩))⟩,
      ⟨106, [2], Is (.pointer (some ⟨b29, q * 2, none⟩))⟩,
      ⟨107, [3], Is (.int .i64 y.c)⟩,
      ⟨108, [], Is (.slice A29 pl.length c29)⟩,
      ⟨109, [], Is (.int .i64 (q : Int))⟩,
      ⟨110, [5, 6], Is (.pointer (some ⟨b29, q * 2, none⟩))⟩,
      ⟨111, [7], Is (.pointer (some ⟨b29, q * 2 + 1, none⟩))⟩,
      ⟨112, [8], Is (.int .i64 y.w)⟩,
      ⟨113, [4, 9], Is (.int .i64 (y.c + y.w))⟩,
      ⟨114, [], Is (.pointer (some ⟨b26, 22, none⟩))⟩,
      ⟨115, [11], Is (.slice A n cp)⟩,
      ⟨116, [], Is (.int .i64 (q : Int))⟩,
      ⟨117, [12, 13], Is (.pointer (some ⟨b79, o79 + q * 4, none⟩))⟩,
      ⟨118, [14], Is (.pointer (some ⟨b79, o79 + q * 4 + 3, none⟩))⟩,
      ⟨119, [15], Is (.int .i64 x.walks)⟩,
      ⟨120, [10, 16], Is (.bool ((y.c + y.w : Int) == x.walks))⟩] (by kernel_rfl) (by kernel_rfl) fun K81 hK81 => ⟨⟨?_, ?_, ?_, ?_, ?_, ?_, ?_, ?_, ?_, ?_, ?_, ?_, ?_, ?_, ?_, ?_, ?_, ?_, trivial⟩, ?_⟩
         · intro T_ B_ a_ w_ K_ hT hB
           intro hf hsD hk
           exact ob rfl rfl (st_move hsD (Ev.tmp (hT _ (mem_nth (i := 1) rfl))) rfl hf fun a_1 w_1 h1 => hk _ _ _ _ ⟨rfl, rfl⟩ h1)
         · intro T_ B_ a_ w_ K_ hT hB
           intro hf hsD hk
           exact ob rfl rfl (st_move hsD (Ev.tmp (hT _ (mem_nth (i := 0) rfl))) rfl hf fun a_1 w_1 h1 => hk _ _ _ _ ⟨rfl, rfl⟩ h1)
         · intro T_ B_ a_ w_ K_ hT hB
           rintro _ _ ⟨rfl, rfl⟩ h103 -
           rintro _ _ ⟨rfl, rfl⟩ h104 -
           intro hf hsD hk
           exact ob rfl rfl (st_indexM (o' := q * 2) hsD (Ev.tmp h103) (Ev.tmp h104) rfl hf hAp Tryd.runUnderlying28 Tryd.sizeOf64 ⟨by omega, by have := (List.getElem?_eq_some_iff.1 hy).1; omega⟩ (by simp) fun a_1 w_1 h1 => hk _ _ _ _ ⟨rfl, rfl⟩ h1)
         · intro T_ B_ a_ w_ K_ hT hB
           rintro _ _ ⟨rfl, rfl⟩ h105 -
           intro hf hsD hk
           exact ob rfl rfl (st_field (o' := q * 2) hsD (Ev.tmp h105) rfl hf Tryd.runUnderlying64 rfl Tryd.sizeOf3 rfl rfl fun a_1 w_1 h1 => hk _ _ _ _ ⟨rfl, rfl⟩ h1)
         · intro T_ B_ a_ w_ K_ hT hB
           rintro _ _ ⟨rfl, rfl⟩ h106 -
           intro hf hsD hk
           exact ob rfl rfl (st_load1 (o := (q * 2)) (off := 0) (v := .int .i64 y.c) hsD (Ev.tmp h106) rfl hf Tryd.isAgg3 (hrp.at (hsD.cellsM (by rw [← hop]; exact hB _ (mem_nth (i := 1) rfl))) hy) rfl fun a_1 w_1 h1 => hk _ _ _ _ ⟨rfl, rfl⟩ h1)
         · intro T_ B_ a_ w_ K_ hT hB
           intro hf hsD hk
           exact ob rfl rfl (st_move hsD (Ev.tmp (hT _ (mem_nth (i := 1) rfl))) rfl hf fun a_1 w_1 h1 => hk _ _ _ _ ⟨rfl, rfl⟩ h1)
         · intro T_ B_ a_ w_ K_ hT hB
           intro hf hsD hk
           exact ob rfl rfl (st_move hsD (Ev.tmp (hT _ (mem_nth (i := 0) rfl))) rfl hf fun a_1 w_1 h1 => hk _ _ _ _ ⟨rfl, rfl⟩ h1)
         · intro T_ B_ a_ w_ K_ hT hB
           rintro _ _ ⟨rfl, rfl⟩ h108 -
           rintro _ _ ⟨rfl, rfl⟩ h109 -
           intro hf hsD hk
           exact ob rfl rfl (st_indexM (o' := q * 2) hsD (Ev.tmp h108) (Ev.tmp h109) rfl hf hAp Tryd.runUnderlying28 Tryd.sizeOf64 ⟨by omega, by have := (List.getElem?_eq_some_iff.1 hy).1; omega⟩ (by simp) fun a_1 w_1 h1 => hk _ _ _ _ ⟨rfl, rfl⟩ h1)
         · intro T_ B_ a_ w_ K_ hT hB
           rintro _ _ ⟨rfl, rfl⟩ h110 -
           intro hf hsD hk
           exact ob rfl rfl (st_field (o' := q * 2 + 1) hsD (Ev.tmp h110) rfl hf Tryd.runUnderlying64 rfl Tryd.sizeOf3 rfl rfl fun a_1 w_1 h1 => hk _ _ _ _ ⟨rfl, rfl⟩ h1)
         · intro T_ B_ a_ w_ K_ hT hB
           rintro _ _ ⟨rfl, rfl⟩ h111 -
           intro hf hsD hk
           exact ob rfl rfl (st_load1 (o := (q * 2)) (off := 1) (v := .int .i64 y.w) hsD (Ev.tmp h111) rfl hf Tryd.isAgg3 (hrp.at (hsD.cellsM (by rw [← hop]; exact hB _ (mem_nth (i := 1) rfl))) hy) rfl fun a_1 w_1 h1 => hk _ _ _ _ ⟨rfl, rfl⟩ h1)
         · intro T_ B_ a_ w_ K_ hT hB
           rintro _ _ ⟨rfl, rfl⟩ h107 -
           rintro _ _ ⟨rfl, rfl⟩ h112 -
           intro hf hsD hk
           exact ob rfl rfl (st_add (z := y.c + y.w) hsD (Ev.tmp h107) (Ev.tmp h112) rfl hf rfl (by omega) fun a_1 w_1 h1 => hk _ _ _ _ ⟨rfl, rfl⟩ h1)
         · intro T_ B_ a_ w_ K_ hT hB
           intro hf hsD hk
           exact ob rfl rfl (st_field (o' := 22) hsD (Ev.tmp (hT _ (mem_nth (i := 4) rfl))) rfl hf Tryd.runUnderlying27 rfl Tryd.sizeOf25 rfl rfl fun a_1 w_1 h1 => hk _ _ _ _ ⟨rfl, rfl⟩ h1)
         · intro T_ B_ a_ w_ K_ hT hB
           rintro _ _ ⟨rfl, rfl⟩ h114 -
           intro hf hsD hk
           exact ob rfl rfl (st_load1 (o := 0) (off := 22) (v := .slice A n cp) hsD (Ev.tmp h114) rfl hf Tryd.isAgg25 (hsD.cellsM (hB _ (mem_nth (i := 3) rfl))) rfl fun a_1 w_1 h1 => hk _ _ _ _ ⟨rfl, rfl⟩ h1)
         · intro T_ B_ a_ w_ K_ hT hB
           intro hf hsD hk
           exact ob rfl rfl (st_move hsD (Ev.tmp (hT _ (mem_nth (i := 0) rfl))) rfl hf fun a_1 w_1 h1 => hk _ _ _ _ ⟨rfl, rfl⟩ h1)
         · intro T_ B_ a_ w_ K_ hT hB
           rintro _ _ ⟨rfl, rfl⟩ h115 -
           rintro _ _ ⟨rfl, rfl⟩ h116 -
           intro hf hsD hk
           exact ob rfl rfl (st_indexM (o' := o79 + q * 4) hsD (Ev.tmp h115) (Ev.tmp h116) rfl hf hA79 Tryd.runUnderlying25 Tryd.sizeOf66 ⟨by omega, by have := hP.len; have := (List.getElem?_eq_some_iff.1 hx).1; omega⟩ rfl fun a_1 w_1 h1 => hk _ _ _ _ ⟨rfl, rfl⟩ h1)
         · intro T_ B_ a_ w_ K_ hT hB
           rintro _ _ ⟨rfl, rfl⟩ h117 -
           intro hf hsD hk
           exact ob rfl rfl (st_field (o' := o79 + q * 4 + 3) hsD (Ev.tmp h117) rfl hf Tryd.runUnderlying66 rfl Tryd.sizeOf3 rfl rfl fun a_1 w_1 h1 => hk _ _ _ _ ⟨rfl, rfl⟩ h1)
         · intro T_ B_ a_ w_ K_ hT hB
           rintro _ _ ⟨rfl, rfl⟩ h118 -
           intro hf hsD hk
           exact ob rfl rfl (st_load1 (o := o79 + q * 4) (off := 3) (v := .int .i64 x.walks) hsD (Ev.tmp h118) rfl hf Tryd.isAgg3 (hsD.old hc79 (by simp)) rfl fun a_1 w_1 h1 => hk _ _ _ _ ⟨rfl, rfl⟩ h1)
         · intro T_ B_ a_ w_ K_ hT hB
           rintro _ _ ⟨rfl, rfl⟩ h113 -
           rintro _ _ ⟨rfl, rfl⟩ h119 -
           intro hf hsD hk
           exact ob rfl rfl (st_cmp (c := (y.c + y.w : Int) == x.walks) hsD (Ev.tmp h113) (Ev.tmp h119) rfl hf rfl rfl fun a_1 w_1 h1 => hk _ _ _ _ ⟨rfl, rfl⟩ h1)
         rintro _ _ ⟨rfl, rfl⟩
         rintro _ _ ⟨rfl, rfl⟩
         rintro _ _ ⟨rfl, rfl⟩
         rintro _ _ ⟨rfl, rfl⟩
         rintro _ _ ⟨rfl, rfl⟩
         rintro _ _ ⟨rfl, rfl⟩
         rintro _ _ ⟨rfl, rfl⟩
         rintro _ _ ⟨rfl, rfl⟩
         rintro _ _ ⟨rfl, rfl⟩
         rintro _ _ ⟨rfl, rfl⟩
         rintro _ _ ⟨rfl, rfl⟩
         rintro _ _ ⟨rfl, rfl⟩
         rintro _ _ ⟨rfl, rfl⟩
         rintro _ _ ⟨rfl, rfl⟩
         rintro _ _ ⟨rfl, rfl⟩
         rintro _ _ ⟨rfl, rfl⟩
         rintro _ _ ⟨rfl, rfl⟩
         rintro _ _ ⟨rfl, rfl⟩
         intro a_88 w_88 hs88
         clear hs87
         have hs89 := Sx.as (T' := [_, _, _, _, _, _, _, _, _, _, _, _, _, _, _, _, _, _, _, _, _, _, _]) (B' := [_, _, _, _]) rfl rfl hs88; clear hs88
         refine hK81 _ _ ?_; clear hK81
         have hs90 := Sx.keepT [17, 18, 19, 20, 21, 22] [_, _, _, _, _, _] ⟨rfl, rfl, rfl, rfl, rfl, rfl, trivial⟩ hs89; clear hs89
         refine cd_cond hs90 (Ev.t 0 rfl) (fun hc82 => ?_) (fun hc82 => ?_)
         · refine cd_region fun K83 hK83 => ?_
           refine sq rfl (st_callv (vs := []) hs90 (.func _) trivial rfl rfl Tryd.call20 rfl (fired_v _ (hG.kp hs90.kp (by simp))) fun _ _ hs91 => ?_); clear hs90
           have hs92 := Sx.keepT [0, 1, 2, 3, 5, 6] [_, _, _, _, _, _] ⟨rfl, rfl, rfl, rfl, rfl, rfl, trivial⟩ hs91; clear hs91
           refine sq rfl (st_assign hs92 (Ev.t 0 rfl) rfl rfl fun _ _ hs93 => ?_); clear hs92
           refine hK83 _ _ ?_; clear hK83
           have hs94 := Sx.keepT [0] [_] ⟨rfl, trivial⟩ hs93; clear hs93
           refine cd_retv (vs := [.bool true]) hs94 (fun a_ w_ h => th_ret (hQ0 a_ w_ h)) rfl ⟨.tmp 0 rfl, trivial⟩ ?_
           clear hs94 hQ0 hN0 hK80
           first | rfl | (simp [pack]; done)
         · have hne : y.c + y.w < x.walks := by simp at hc82; omega
           refine cd_skip ?_
           refine th_norm (hK80 _ _ ?_)
           refine cd_region fun K84 hK84 => ?_
           refine sq rfl (st_buildSlice hs90 (qs := []) (e := 64) (l := []) trivial rfl rfl rfl (fun _ => by kernel_rfl) fun b85 _ _ hs91 => ?_); clear hs90
           refine sq rfl (st_move hs91 (Ev.t 3 rfl) rfl rfl fun _ _ hs92 => ?_); clear hs91
           refine sq rfl (st_append (enc := walksL) (zs := ([] : List Walks)) (ys := pl) (c := 0) (i := 0) hs92 (Ev.t 1 rfl) (Ev.t 0 rfl) rfl rfl Tryd.underlying28 (show (Tryd.prog.info? 64).map (fun i => (i.zero, i.size, i.bytes)) = some (some (.agg #[.int .i64 0, .int .i64 0]), 2, 16) by kernel_rfl) rfl (fun _ => rfl) (fun _ u hu => by simp only [walksL, List.mem_cons, List.not_mem_nil, or_false] at hu; rcases hu with rfl | rfl <;> rfl) (.inl ⟨rfl, rfl⟩) rfl (hO29.at hs92 2 rfl) (by simp; omega) (by simp; omega) (fun A7 c7 bq oq _ _ hownq hs93 => ?_)); clear hs92
           have hs94 := Sx.as (T' := [_, _, _, _, _, _, _, _, _]) (B' := [_, _, _, _, _]) rfl rfl hs93; clear hs93
           rw [List.nil_append] at hownq
           have hs95 := Sx.keepE [0, 1, 2, 3, 4, 5, 6, 7, 8] [(124, .slice A7 pl.length c7), (123, _), (122, _), (120, _), (14, _), (7, _), (6, _), (5, _), (3, _)] ⟨⟨_, rfl, (by simp)⟩, ⟨_, rfl, rfl⟩, ⟨_, rfl, rfl⟩, ⟨_, rfl, rfl⟩, ⟨_, rfl, rfl⟩, ⟨_, rfl, rfl⟩, ⟨_, rfl, rfl⟩, ⟨_, rfl, rfl⟩, ⟨_, rfl, rfl⟩, trivial⟩ hs94; clear hs94
           refine sq rfl (st_assign hs95 (Ev.t 0 rfl) rfl rfl fun _ _ hs96 => ?_); clear hs95
           refine hK84 _ _ ?_; clear hK84
           have hs97 := Sx.keepT [0, 5, 7, 8, 9] [_, _, _, _, _] ⟨rfl, rfl, rfl, rfl, rfl, trivial⟩ hs96; clear hs96
           refine cd_seq fun K86 hK86 => ?_
           refine cd_region fun K87 hK87 => ?_
           refine sq rfl (st_indexArr (o' := 1) hs97 (Ev.t 3 rfl) (.const _) rfl rfl Tryd.runUnderlying29 Tryd.sizeOf3 (by decide) rfl fun _ _ hs98 => ?_); clear hs97
           refine sq rfl (st_load1 (o := 0) (off := 1) (v := .int .i64 k1) hs98 (Ev.t 0 rfl) rfl rfl Tryd.isAgg3 (hs98.cells 3 rfl) rfl fun _ _ hs99 => ?_); clear hs98
           refine sq rfl (st_rem hs99 (Ev.t 0 rfl) (.const _) rfl rfl (by omega) fun _ _ hs100 => ?_); clear hs99
           refine sq rfl (st_cmp (c := ((k1 : Int).tmod 2 : Int) == 0) hs100 (Ev.t 0 rfl) (.const _) rfl rfl rfl rfl fun _ _ hs101 => ?_); clear hs100
           refine hK87 _ _ ?_; clear hK87
           have hs102 := Sx.keepT [0, 4, 5, 6, 8] [_, _, _, _, _] ⟨rfl, rfl, rfl, rfl, rfl, trivial⟩ hs101; clear hs101
           refine cd_cond hs102 (Ev.t 0 rfl) (fun hc88 => ?_) (fun hc88 => ?_)
           · refine cd_region1 ?_
             refine sq rfl (st_move hs102 (Ev.t 1 rfl) rfl rfl fun _ _ hs103 => ?_); clear hs102
             refine sq rfl (st_move hs103 (Ev.t 3 rfl) rfl rfl fun _ _ hs104 => ?_); clear hs103
             obtain ⟨hA89, l89, ho89, hr89⟩ := hownq.open hy
             refine sq rfl (st_indexM (o' := q * 2) hs104 (Ev.t 1 rfl) (Ev.t 0 rfl) rfl rfl hA89 Tryd.runUnderlying28 Tryd.sizeOf64 ⟨by omega, by have := (List.getElem?_eq_some_iff.1 hy).1; omega⟩ (by simp) fun _ _ hs105 => ?_); clear hs104
             refine sq rfl (st_field (o' := q * 2) hs105 (Ev.t 0 rfl) rfl rfl Tryd.runUnderlying64 rfl Tryd.sizeOf3 rfl rfl fun _ _ hs106 => ?_); clear hs105
             refine sq rfl (st_load1 (o := (q * 2)) (off := 0) (v := .int .i64 y.c) hs106 (Ev.t 0 rfl) rfl rfl Tryd.isAgg3 (hr89.at (hs106.cellsO 0 rfl ho89) hy) rfl fun _ _ hs107 => ?_); clear hs106
             refine sq rfl (st_add (z := y.c + 1) hs107 (Ev.t 0 rfl) (.const _) rfl rfl rfl (by omega) fun _ _ hs108 => ?_); clear hs107
             refine sq rfl (st_indexM (o' := q * 2) hs108 (Ev.t 5 rfl) (Ev.t 4 rfl) rfl rfl hA89 Tryd.runUnderlying28 Tryd.sizeOf64 ⟨by omega, by have := (List.getElem?_eq_some_iff.1 hy).1; omega⟩ (by simp) fun _ _ hs109 => ?_); clear hs108
             refine sq rfl (st_field (o' := q * 2) hs109 (Ev.t 0 rfl) rfl rfl Tryd.runUnderlying64 rfl Tryd.sizeOf3 rfl rfl fun _ _ hs110 => ?_); clear hs109
             refine sq rfl (st_storeOwn (enc := walksL) (sz := 2) (off := 0) (kk := q) (i := 0) (u := y) (u' := ⟨y.c + 1, y.w⟩) hs110 (Ev.t 0 rfl) (Ev.t 2 rfl) Tryd.sizeOf3 rfl hownq hy (fun _ => rfl) (by decide) rfl rfl rfl (fun o8 _ _ hown8 hs111 => ?_)); clear hs110
             have hs112 := Sx.as (T' := [_, _, _, _, _, _, _, _, _, _, _, _, _]) (B' := [_, _, _, _, _]) rfl rfl hs111; clear hs111
             have hfx := failsR_good hok (good_more hb hgood hy hx (z := ⟨y.c + 1, y.w⟩) (by constructor <;> simp only <;> omega) (okWalks_iff.2 (by simp only; omega)))
             refine wpListIn_nil ?_
             have hs113 := Sx.keepT [9, 11, 12] [_, _, _] ⟨rfl, rfl, rfl, trivial⟩ hs112; clear hs112
             refine th_norm (hK86 _ _ ?_)
             refine cd_region fun K90 hK90 => ?_
             refine sq rfl (st_loadA (o := 0) (off := 0) (vs := (bookL b A n cp)) hs113 (Ev.t 2 rfl) rfl rfl Tryd.isAgg27 Tryd.sizeOf27 (hs113.cells 4 rfl) rfl fun _ _ hs114 => ?_); clear hs113
             refine sq rfl (st_move hs114 (Ev.t 1 rfl) rfl rfl fun _ _ hs115 => ?_); clear hs114
             refine sq rfl (st_callv (vs := [.agg ⟨(bookL b A n cp)⟩, .slice A7 pl.length c7]) hs115 (.func _) ⟨(Ev.t 1 rfl), (Ev.t 0 rfl), trivial⟩ rfl rfl Tryd.call21 rfl (callsV_eq (v' := .tuple ⟨[.int .i64 0, .int .i64 4]⟩) (Fails_v b A n cp A7 pl.length c7 (pl.set q ⟨y.c + 1, y.w⟩) _ (hP.kp hs115.kp) hn (by rw [show pl.length = ((pl.set q ⟨y.c + 1, y.w⟩)).length from by simp]; exact (hown8.at hs115 0 rfl)) (by omega) (hG.kp hs115.kp (by simp))) (by rw [hfx])) fun _ _ hs116 => ?_); clear hs115
             refine sq rfl (st_move hs116 (Ev.t 0 rfl) rfl rfl fun _ _ hs117 => ?_); clear hs116
             refine sq rfl (st_extract hs117 (Ev.t 0 rfl) rfl rfl rfl fun _ _ hs118 => ?_); clear hs117
             refine sq rfl (st_extract hs118 (Ev.t 1 rfl) rfl rfl rfl fun _ _ hs119 => ?_); clear hs118
             refine sq rfl (st_assign hs119 (Ev.t 1 rfl) rfl rfl fun _ _ hs120 => ?_); clear hs119
             refine sq rfl (st_assign hs120 (Ev.t 1 rfl) rfl rfl fun _ _ hs121 => ?_); clear hs120
             refine hK90 _ _ ?_; clear hK90
             have hs122 := Sx.keepT [0, 9] [_, _] ⟨rfl, rfl, trivial⟩ hs121; clear hs121
             refine cd_region fun K91 hK91 => ?_
             refine sq rfl (st_move hs122 (Ev.t 0 rfl) rfl rfl fun _ _ hs123 => ?_); clear hs122
             refine sq rfl (st_cmp (c := true) hs123 (Ev.t 0 rfl) (.const _) rfl rfl rfl rfl fun _ _ hs124 => ?_); clear hs123
             refine sq rfl (st_move hs124 (Ev.t 0 rfl) rfl rfl fun _ _ hs125 => ?_); clear hs124
             refine sq_on hs125 rfl rfl 0 rfl rfl (st_callv (vs := []) hs125 (.func _) trivial rfl rfl Tryd.call20 rfl (fired_v _ (hG.kp hs125.kp (by simp))) fun _ _ hs126 => ?_); clear hs125
             refine sq rfl (st_pick hs126 (Ev.t 1 rfl) rfl rfl (fun h => (Ev.t 0 rfl)) (fun h => by cases h) fun _ _ hs127 => ?_); clear hs126
             have hs128 := Sx.keepT [0, 1, 2, 3, 4, 5] [_, _, _, _, _, _] ⟨rfl, rfl, rfl, rfl, rfl, rfl, trivial⟩ hs127; clear hs127
             refine sq rfl (st_assign hs128 (Ev.t 0 rfl) rfl rfl fun _ _ hs129 => ?_); clear hs128
             refine hK91 _ _ ?_; clear hK91
             have hs130 := Sx.keepT [0] [_] ⟨rfl, trivial⟩ hs129; clear hs129
             refine cd_retv (vs := [.bool true]) hs130 hQ0 rfl ⟨.tmp 0 rfl, trivial⟩ ?_
             clear hs130 hQ0 hN0
             first | rfl | (simp [pack]; done)
           · refine cd_region1 ?_
             refine sq rfl (st_move hs102 (Ev.t 1 rfl) rfl rfl fun _ _ hs103 => ?_); clear hs102
             refine sq rfl (st_move hs103 (Ev.t 3 rfl) rfl rfl fun _ _ hs104 => ?_); clear hs103
             obtain ⟨hA92, l92, ho92, hr92⟩ := hownq.open hy
             refine sq rfl (st_indexM (o' := q * 2) hs104 (Ev.t 1 rfl) (Ev.t 0 rfl) rfl rfl hA92 Tryd.runUnderlying28 Tryd.sizeOf64 ⟨by omega, by have := (List.getElem?_eq_some_iff.1 hy).1; omega⟩ (by simp) fun _ _ hs105 => ?_); clear hs104
             refine sq rfl (st_field (o' := q * 2 + 1) hs105 (Ev.t 0 rfl) rfl rfl Tryd.runUnderlying64 rfl Tryd.sizeOf3 rfl rfl fun _ _ hs106 => ?_); clear hs105
             refine sq rfl (st_load1 (o := (q * 2)) (off := 1) (v := .int .i64 y.w) hs106 (Ev.t 0 rfl) rfl rfl Tryd.isAgg3 (hr92.at (hs106.cellsO 0 rfl ho92) hy) rfl fun _ _ hs107 => ?_); clear hs106
             refine sq rfl (st_add (z := y.w + 1) hs107 (Ev.t 0 rfl) (.const _) rfl rfl rfl (by omega) fun _ _ hs108 => ?_); clear hs107
             refine sq rfl (st_indexM (o' := q * 2) hs108 (Ev.t 5 rfl) (Ev.t 4 rfl) rfl rfl hA92 Tryd.runUnderlying28 Tryd.sizeOf64 ⟨by omega, by have := (List.getElem?_eq_some_iff.1 hy).1; omega⟩ (by simp) fun _ _ hs109 => ?_); clear hs108
             refine sq rfl (st_field (o' := q * 2 + 1) hs109 (Ev.t 0 rfl) rfl rfl Tryd.runUnderlying64 rfl Tryd.sizeOf3 rfl rfl fun _ _ hs110 => ?_); clear hs109
             refine sq rfl (st_storeOwn (enc := walksL) (sz := 2) (off := 1) (kk := q) (i := 0) (u := y) (u' := ⟨y.c, y.w + 1⟩) hs110 (Ev.t 0 rfl) (Ev.t 2 rfl) Tryd.sizeOf3 rfl hownq hy (fun _ => rfl) (by decide) rfl rfl rfl (fun o8 _ _ hown8 hs111 => ?_)); clear hs110
             have hs112 := Sx.as (T' := [_, _, _, _, _, _, _, _, _, _, _, _, _]) (B' := [_, _, _, _, _]) rfl rfl hs111; clear hs111
             have hfx := failsR_good hok (good_more hb hgood hy hx (z := ⟨y.c, y.w + 1⟩) (by constructor <;> simp only <;> omega) (okWalks_iff.2 (by simp only; omega)))
             refine wpListIn_nil ?_
             have hs113 := Sx.keepT [9, 11, 12] [_, _, _] ⟨rfl, rfl, rfl, trivial⟩ hs112; clear hs112
             refine th_norm (hK86 _ _ ?_)
             refine cd_region fun K93 hK93 => ?_
             refine sq rfl (st_loadA (o := 0) (off := 0) (vs := (bookL b A n cp)) hs113 (Ev.t 2 rfl) rfl rfl Tryd.isAgg27 Tryd.sizeOf27 (hs113.cells 4 rfl) rfl fun _ _ hs114 => ?_); clear hs113
             refine sq rfl (st_move hs114 (Ev.t 1 rfl) rfl rfl fun _ _ hs115 => ?_); clear hs114
             refine sq rfl (st_callv (vs := [.agg ⟨(bookL b A n cp)⟩, .slice A7 pl.length c7]) hs115 (.func _) ⟨(Ev.t 1 rfl), (Ev.t 0 rfl), trivial⟩ rfl rfl Tryd.call21 rfl (callsV_eq (v' := .tuple ⟨[.int .i64 0, .int .i64 4]⟩) (Fails_v b A n cp A7 pl.length c7 (pl.set q ⟨y.c, y.w + 1⟩) _ (hP.kp hs115.kp) hn (by rw [show pl.length = ((pl.set q ⟨y.c, y.w + 1⟩)).length from by simp]; exact (hown8.at hs115 0 rfl)) (by omega) (hG.kp hs115.kp (by simp))) (by rw [hfx])) fun _ _ hs116 => ?_); clear hs115
             refine sq rfl (st_move hs116 (Ev.t 0 rfl) rfl rfl fun _ _ hs117 => ?_); clear hs116
             refine sq rfl (st_extract hs117 (Ev.t 0 rfl) rfl rfl rfl fun _ _ hs118 => ?_); clear hs117
             refine sq rfl (st_extract hs118 (Ev.t 1 rfl) rfl rfl rfl fun _ _ hs119 => ?_); clear hs118
             refine sq rfl (st_assign hs119 (Ev.t 1 rfl) rfl rfl fun _ _ hs120 => ?_); clear hs119
             refine sq rfl (st_assign hs120 (Ev.t 1 rfl) rfl rfl fun _ _ hs121 => ?_); clear hs120
             refine hK93 _ _ ?_; clear hK93
             have hs122 := Sx.keepT [0, 9] [_, _] ⟨rfl, rfl, trivial⟩ hs121; clear hs121
             refine cd_region fun K94 hK94 => ?_
             refine sq rfl (st_move hs122 (Ev.t 0 rfl) rfl rfl fun _ _ hs123 => ?_); clear hs122
             refine sq rfl (st_cmp (c := true) hs123 (Ev.t 0 rfl) (.const _) rfl rfl rfl rfl fun _ _ hs124 => ?_); clear hs123
             refine sq rfl (st_move hs124 (Ev.t 0 rfl) rfl rfl fun _ _ hs125 => ?_); clear hs124
             refine sq_on hs125 rfl rfl 0 rfl rfl (st_callv (vs := []) hs125 (.func _) trivial rfl rfl Tryd.call20 rfl (fired_v _ (hG.kp hs125.kp (by simp))) fun _ _ hs126 => ?_); clear hs125
             refine sq rfl (st_pick hs126 (Ev.t 1 rfl) rfl rfl (fun h => (Ev.t 0 rfl)) (fun h => by cases h) fun _ _ hs127 => ?_); clear hs126
             have hs128 := Sx.keepT [0, 1, 2, 3, 4, 5] [_, _, _, _, _, _] ⟨rfl, rfl, rfl, rfl, rfl, rfl, trivial⟩ hs127; clear hs127
             refine sq rfl (st_assign hs128 (Ev.t 0 rfl) rfl rfl fun _ _ hs129 => ?_); clear hs128
             refine hK94 _ _ ?_; clear hK94
             have hs130 := Sx.keepT [0] [_] ⟨rfl, trivial⟩ hs129; clear hs129
             refine cd_retv (vs := [.bool true]) hs130 hQ0 rfl ⟨.tmp 0 rfl, trivial⟩ ?_
             clear hs130 hQ0 hN0
             first | rfl | (simp [pack]; done)
       · skip
         refine cd_region fun K95 hK95 => ?_
         refine sq rfl (st_loadA (o := 0) (off := 0) (vs := (bookL b A n cp)) hs23 (Ev.t 5 rfl) rfl rfl Tryd.isAgg27 Tryd.sizeOf27 (hs23.cells 3 rfl) rfl fun _ _ hs24 => ?_); clear hs23
         refine sq rfl (st_move hs24 (Ev.t 1 rfl) rfl rfl fun _ _ hs25 => ?_); clear hs24
         refine sq rfl (st_callv (vs := [.agg ⟨(bookL b A n cp)⟩, .slice Ao36 ol.length co36]) hs25 (.func _) ⟨(Ev.t 1 rfl), (Ev.t 0 rfl), trivial⟩ rfl rfl Tryd.call21 rfl (callsV_eq (v' := .tuple ⟨[.int .i64 0, .int .i64 4]⟩) (Fails_v b A n cp Ao36 ol.length co36 ol _ (hP.kp hs25.kp) hn (hOo36.at hs25 0 rfl) (by omega) (hG.kp hs25.kp (by simp))) (by rw [hfo])) fun _ _ hs26 => ?_); clear hs25
         refine sq rfl (st_move hs26 (Ev.t 0 rfl) rfl rfl fun _ _ hs27 => ?_); clear hs26
         refine sq rfl (st_extract hs27 (Ev.t 0 rfl) rfl rfl rfl fun _ _ hs28 => ?_); clear hs27
         refine sq rfl (st_extract hs28 (Ev.t 1 rfl) rfl rfl rfl fun _ _ hs29 => ?_); clear hs28
         refine sq rfl (st_assign hs29 (Ev.t 1 rfl) rfl rfl fun _ _ hs30 => ?_); clear hs29
         refine sq rfl (st_assign hs30 (Ev.t 1 rfl) rfl rfl fun _ _ hs31 => ?_); clear hs30
         refine hK95 _ _ ?_; clear hK95
         have hs32 := Sx.keepT [0, 8, 9, 10, 11, 12, 13] [_, _, _, _, _, _, _] ⟨rfl, rfl, rfl, rfl, rfl, rfl, rfl, trivial⟩ hs31; clear hs31
         refine cd_seq fun K96 hK96 => ?_
         refine cd_region fun K97 hK97 => ?_
         refine sq rfl (st_move hs32 (Ev.t 2 rfl) rfl rfl fun _ _ hs33 => ?_); clear hs32
         refine sq rfl (st_cmp (c := false) hs33 (Ev.t 0 rfl) (.const _) rfl rfl rfl rfl fun _ _ hs34 => ?_); clear hs33
         refine hK97 _ _ ?_; clear hK97
         have hs35 := Sx.keepT [0, 2, 3, 4, 5, 6, 7, 8] [_, _, _, _, _, _, _, _] ⟨rfl, rfl, rfl, rfl, rfl, rfl, rfl, rfl, trivial⟩ hs34; clear hs34
         have hc98 : false = false := rfl
         refine cd_cond hs35 (Ev.t 0 rfl) (fun h => absurd (hc98.symm.trans h) (by decide)) (fun _ => ?_)
         refine cd_skip ?_
         refine th_norm (hK96 _ _ ?_)
         refine cd_seq fun K99 hK99 => ?_
         refine cd_region fun K100 hK100 => ?_
         refine sq rfl (st_loadA (o := 0) (off := 0) (vs := (bookL b A n cp)) hs35 (Ev.t 7 rfl) rfl rfl Tryd.isAgg27 Tryd.sizeOf27 (hs35.cells 3 rfl) rfl fun _ _ hs36 => ?_); clear hs35
         refine sq rfl (st_move hs36 (Ev.t 5 rfl) rfl rfl fun _ _ hs37 => ?_); clear hs36
         refine sq rfl (st_callv (vs := [.agg ⟨(bookL b A n cp)⟩, .slice A29 pl.length c29]) hs37 (.func _) ⟨(Ev.t 1 rfl), (Ev.t 0 rfl), trivial⟩ rfl rfl Tryd.call21 rfl (callsV_eq (v' := .tuple ⟨[.int .i64 0, .int .i64 4]⟩) (Fails_v b A n cp A29 pl.length c29 pl _ (hP.kp hs37.kp) hn (hO29.at hs37 1 rfl) (by omega) (hG.kp hs37.kp (by simp))) (by rw [hfp])) fun _ _ hs38 => ?_); clear hs37
         refine sq rfl (st_move hs38 (Ev.t 0 rfl) rfl rfl fun _ _ hs39 => ?_); clear hs38
         refine sq rfl (st_extract hs39 (Ev.t 0 rfl) rfl rfl rfl fun _ _ hs40 => ?_); clear hs39
         refine sq rfl (st_extract hs40 (Ev.t 1 rfl) rfl rfl rfl fun _ _ hs41 => ?_); clear hs40
         refine sq rfl (st_assign hs41 (Ev.t 1 rfl) rfl rfl fun _ _ hs42 => ?_); clear hs41
         refine sq rfl (st_assign hs42 (Ev.t 1 rfl) rfl rfl fun _ _ hs43 => ?_); clear hs42
         refine hK100 _ _ ?_; clear hK100
         have hs44 := Sx.keepT [0, 9, 10, 12, 13, 14, 15] [_, _, _, _, _, _, _] ⟨rfl, rfl, rfl, rfl, rfl, rfl, rfl, trivial⟩ hs43; clear hs43
         refine cd_region fun K101 hK101 => ?_
         refine sq rfl (st_loadA (o := 0) (off := 0) (vs := (bookL b A n cp)) hs44 (Ev.t 6 rfl) rfl rfl Tryd.isAgg27 Tryd.sizeOf27 (hs44.cells 3 rfl) rfl fun _ _ hs45 => ?_); clear hs44
         refine sq rfl (st_move hs45 (Ev.t 4 rfl) rfl rfl fun _ _ hs46 => ?_); clear hs45
         refine sq rfl (st_callv (vs := [.agg ⟨(bookL b A n cp)⟩, .slice A29 pl.length c29]) hs46 (.func _) ⟨(Ev.t 1 rfl), (Ev.t 0 rfl), trivial⟩ rfl rfl Tryd.call33 rfl (callsV_eq (v' := .bool true) (allowed_v b A n cp A29 pl.length c29 pl _ (hP.kp hs46.kp) hn (hO29.at hs46 1 rfl) (by omega) hb) (by rw [good_isPlan hgood])) fun _ _ hs47 => ?_); clear hs46
         refine sq rfl (st_not hs47 (Ev.t 0 rfl) rfl rfl fun _ _ hs48 => ?_); clear hs47
         refine sq rfl (st_move hs48 (Ev.t 0 rfl) rfl rfl fun _ _ hs49 => ?_); clear hs48
         refine sq_on hs49 rfl rfl 0 rfl rfl (st_move hs49 (Ev.t 5 rfl) rfl rfl fun _ _ hs50 => ?_); clear hs49
         refine sq_on hs50 rfl rfl 1 rfl rfl (st_cmp (c := false) hs50 (Ev.t 0 rfl) (.const _) rfl rfl rfl rfl fun _ _ hs51 => ?_); clear hs50
         refine sq rfl (st_pick hs51 (Ev.t 2 rfl) rfl rfl (fun h => by cases h) (fun h => (Ev.t 0 rfl)) fun _ _ hs52 => ?_); clear hs51
         refine hK101 _ _ ?_; clear hK101
         have hs53 := Sx.keepT [0, 9, 10, 11, 12, 13, 14] [_, _, _, _, _, _, _] ⟨rfl, rfl, rfl, rfl, rfl, rfl, rfl, trivial⟩ hs52; clear hs52
         have hc102 : false = false := rfl
         refine cd_cond hs53 (Ev.t 0 rfl) (fun h => absurd (hc102.symm.trans h) (by decide)) (fun _ => ?_)
         refine cd_skip ?_
         refine th_norm (hK99 _ _ ?_)
         refine cd_seq fun K103 hK103 => ?_
         refine cd_region fun K104 hK104 => ?_
         refine sq rfl (st_move hs53 (Ev.t 1 rfl) rfl rfl fun _ _ hs54 => ?_); clear hs53
         refine sq rfl (st_cmp (c := true) hs54 (Ev.t 0 rfl) (.const _) rfl rfl rfl rfl fun _ _ hs55 => ?_); clear hs54
         refine sq rfl (st_move hs55 (Ev.t 0 rfl) rfl rfl fun _ _ hs56 => ?_); clear hs55
         refine sq_on hs56 rfl rfl 0 rfl rfl (st_move hs56 (Ev.t 5 rfl) rfl rfl fun _ _ hs57 => ?_); clear hs56
         refine sq_on hs57 rfl rfl 1 rfl rfl (st_callv (vs := [.slice Ao36 ol.length co36]) hs57 (.func _) ⟨(Ev.t 0 rfl), trivial⟩ rfl rfl Tryd.call41 rfl (many_v Ao36 ol.length co36 ol _ (hOo36.at hs57 0 rfl) (by omega) hsmo) fun _ _ hs58 => ?_); clear hs57
         refine sq_on hs58 rfl rfl 2 rfl rfl (st_move hs58 (Ev.t 8 rfl) rfl rfl fun _ _ hs59 => ?_); clear hs58
         refine sq_on hs59 rfl rfl 3 rfl rfl (st_callv (vs := [.slice A29 pl.length c29]) hs59 (.func _) ⟨(Ev.t 0 rfl), trivial⟩ rfl rfl Tryd.call41 rfl (many_v A29 pl.length c29 pl _ (hO29.at hs59 1 rfl) (by omega) hsmp) fun _ _ hs60 => ?_); clear hs59
         refine sq_on hs60 rfl rfl 4 rfl rfl (st_cmp (c := decide ((sumW ol : Int) < (sumW pl))) hs60 (Ev.t 2 rfl) (Ev.t 0 rfl) rfl rfl rfl rfl fun _ _ hs61 => ?_); clear hs60
         have hs62 := Sx.keepE [0, 1, 2, 3, 4, 5, 6, 7, 8, 9, 10, 11, 12, 13, 14] [(82, .bool false), (81, _), (80, _), (79, _), (78, _), (77, _), (76, _), (75, _), (74, _), (11, _), (9, _), (7, _), (6, _), (5, _), (3, _)] ⟨⟨_, rfl, (by congr 1; simp; omega)⟩, ⟨_, rfl, rfl⟩, ⟨_, rfl, rfl⟩, ⟨_, rfl, rfl⟩, ⟨_, rfl, rfl⟩, ⟨_, rfl, rfl⟩, ⟨_, rfl, rfl⟩, ⟨_, rfl, rfl⟩, ⟨_, rfl, rfl⟩, ⟨_, rfl, rfl⟩, ⟨_, rfl, rfl⟩, ⟨_, rfl, rfl⟩, ⟨_, rfl, rfl⟩, ⟨_, rfl, rfl⟩, ⟨_, rfl, rfl⟩, trivial⟩ hs61; clear hs61
         refine sq_on hs62 rfl rfl 5 rfl rfl (st_move hs62 (Ev.t 0 rfl) rfl rfl fun _ _ hs63 => ?_); clear hs62
         refine sq_on hs63 rfl rfl 0 rfl rfl (st_move hs63 (Ev.t 11 rfl) rfl rfl fun _ _ hs64 => ?_); clear hs63
         refine sq_on hs64 rfl rfl 1 rfl rfl (st_callv (vs := [.slice Ao36 ol.length co36]) hs64 (.func _) ⟨(Ev.t 0 rfl), trivial⟩ rfl rfl Tryd.call41 rfl (many_v Ao36 ol.length co36 ol _ (hOo36.at hs64 0 rfl) (by omega) hsmo) fun _ _ hs65 => ?_); clear hs64
         refine sq_on hs65 rfl rfl 2 rfl rfl (st_move hs65 (Ev.t 14 rfl) rfl rfl fun _ _ hs66 => ?_); clear hs65
         refine sq_on hs66 rfl rfl 3 rfl rfl (st_callv (vs := [.slice A29 pl.length c29]) hs66 (.func _) ⟨(Ev.t 0 rfl), trivial⟩ rfl rfl Tryd.call41 rfl (many_v A29 pl.length c29 pl _ (hO29.at hs66 1 rfl) (by omega) hsmp) fun _ _ hs67 => ?_); clear hs66
         refine sq_on hs67 rfl rfl 4 rfl rfl (st_cmp (c := (sumW ol : Int) == (sumW pl)) hs67 (Ev.t 2 rfl) (Ev.t 0 rfl) rfl rfl rfl rfl fun _ _ hs68 => ?_); clear hs67
         have hs69 := Sx.keepE [0, 1, 2, 3, 4, 5, 6, 7, 8, 9, 10, 11, 12, 13, 14, 15, 16, 17, 18, 19, 20] [(88, .bool true), (87, _), (86, _), (85, _), (84, _), (83, _), (82, _), (81, _), (80, _), (79, _), (78, _), (77, _), (76, _), (75, _), (74, _), (11, _), (9, _), (7, _), (6, _), (5, _), (3, _)] ⟨⟨_, rfl, (by congr 1; simp; omega)⟩, ⟨_, rfl, rfl⟩, ⟨_, rfl, rfl⟩, ⟨_, rfl, rfl⟩, ⟨_, rfl, rfl⟩, ⟨_, rfl, rfl⟩, ⟨_, rfl, rfl⟩, ⟨_, rfl, rfl⟩, ⟨_, rfl, rfl⟩, ⟨_, rfl, rfl⟩, ⟨_, rfl, rfl⟩, ⟨_, rfl, rfl⟩, ⟨_, rfl, rfl⟩, ⟨_, rfl, rfl⟩, ⟨_, rfl, rfl⟩, ⟨_, rfl, rfl⟩, ⟨_, rfl, rfl⟩, ⟨_, rfl, rfl⟩, ⟨_, rfl, rfl⟩, ⟨_, rfl, rfl⟩, ⟨_, rfl, rfl⟩, trivial⟩ hs68; clear hs68
         refine sq_on hs69 rfl rfl 5 rfl rfl (st_move hs69 (Ev.t 0 rfl) rfl rfl fun _ _ hs70 => ?_); clear hs69
         refine sq_on hs70 rfl rfl 0 rfl rfl (st_move hs70 (Ev.t 17 rfl) rfl rfl fun _ _ hs71 => ?_); clear hs70
         refine sq_on hs71 rfl rfl 1 rfl rfl (st_call (vs := [.slice Ao36 ol.length co36]) hs71 (.func _) ⟨(Ev.t 0 rfl), trivial⟩ rfl rfl Tryd.call43 rfl (row_b Ao36 ol.length co36 ol _ (hOo36.at hs71 0 rfl) (by omega) (by omega)) fun v106 bs107 a_72 w_72 hp72 hs72 => ?_); clear hs71
         obtain ⟨Ar105, cr105, br105, or105, rfl, hOr105, rfl⟩ := hp72
         have hs73 := Sx.as (T' := [_, _, _, _, _, _, _, _, _, _, _, _, _, _, _, _, _, _, _, _, _, _, _, _]) (B' := [_, _, _, _, _]) rfl rfl hs72; clear hs72
         refine sq_on hs73 rfl rfl 2 rfl rfl (st_move hs73 (Ev.t 20 rfl) rfl rfl fun _ _ hs74 => ?_); clear hs73
         refine sq_on hs74 rfl rfl 3 rfl rfl (st_call (vs := [.slice A29 pl.length c29]) hs74 (.func _) ⟨(Ev.t 0 rfl), trivial⟩ rfl rfl Tryd.call43 rfl (row_b A29 pl.length c29 pl _ (hO29.at hs74 2 rfl) (by omega) (by omega)) fun v109 bs110 a_75 w_75 hp75 hs75 => ?_); clear hs74
         obtain ⟨Ar108, cr108, br108, or108, rfl, hOr108, rfl⟩ := hp75
         have hs76 := Sx.as (T' := [_, _, _, _, _, _, _, _, _, _, _, _, _, _, _, _, _, _, _, _, _, _, _, _, _, _]) (B' := [_, _, _, _, _, _]) rfl rfl hs75; clear hs75
         refine sq_on hs76 rfl rfl 4 rfl rfl (st_callv (vs := [.slice Ar105 ((rowL ol).length) cr105, .slice Ar108 ((rowL pl).length) cr108]) hs76 (.func _) ⟨(Ev.t 2 rfl), (Ev.t 0 rfl), trivial⟩ rfl rfl Tryd.call42 rfl (callsV_eq (v' := .bool false) (before_v Ar105 (rowL ol).length cr105 (rowL ol) Ar108 (rowL pl).length cr108 (rowL pl) _ (hOr105.at hs76 1 rfl) (hOr108.at hs76 0 rfl) (by rw [rowL_len]; omega) (by rw [rowL_len]; omega)) (by rw [hbef])) fun _ _ hs77 => ?_); clear hs76
         refine sq_on hs77 rfl rfl 11 rfl rfl (st_pick hs77 (Ev.t 5 rfl) rfl rfl (fun h => (Ev.t 0 rfl)) (fun h => by cases h) fun _ _ hs78 => ?_); clear hs77
         refine sq_on hs78 rfl rfl 18 rfl rfl (st_pick hs78 (Ev.t 12 rfl) rfl rfl (fun h => by cases h) (fun h => (Ev.t 0 rfl)) fun _ _ hs79 => ?_); clear hs78
         refine sq rfl (st_pick hs79 (Ev.t 19 rfl) rfl rfl (fun h => (Ev.t 0 rfl)) (fun h => by cases h) fun _ _ hs80 => ?_); clear hs79
         refine hK104 _ _ ?_; clear hK104
         have hs81 := Sx.keepT [0, 26, 27, 28, 29] [_, _, _, _, _] ⟨rfl, rfl, rfl, rfl, rfl, trivial⟩ hs80; clear hs80
         have hc111 : false = false := rfl
         refine cd_cond hs81 (Ev.t 0 rfl) (fun h => absurd (hc111.symm.trans h) (by decide)) (fun _ => ?_)
         refine cd_skip ?_
         refine th_norm (hK103 _ _ ?_)
         refine cd_region fun K112 hK112 => ?_
         refine sq rfl (st_indexArr (o' := 0) hs81 (Ev.t 3 rfl) (.const _) rfl rfl Tryd.runUnderlying29 Tryd.sizeOf3 (by decide) rfl fun _ _ hs82 => ?_); clear hs81
         refine sq rfl (st_load1 (o := 0) (off := 0) (v := .int .i64 k0) hs82 (Ev.t 0 rfl) rfl rfl Tryd.isAgg3 (hs82.cells 4 rfl) rfl fun _ _ hs83 => ?_); clear hs82
         refine sq rfl (st_move hs83 (Ev.t 3 rfl) rfl rfl fun _ _ hs84 => ?_); clear hs83
         refine sq rfl (st_len hs84 (Ev.t 0 rfl) rfl rfl Tryd.runUnderlying28 fun _ _ hs85 => ?_); clear hs84
         refine sq rfl (st_callv (vs := [.int .i64 k0, .int .i64 (pl.length : Int)]) hs85 (.func _) ⟨(Ev.t 2 rfl), (Ev.t 0 rfl), trivial⟩ rfl rfl Tryd.call38 rfl (turn_v k0 (pl.length : Int) (by omega) _) fun _ _ hs86 => ?_); clear hs85
         refine sq rfl (st_assign hs86 (Ev.t 0 rfl) rfl rfl fun _ _ hs87 => ?_); clear hs86
         refine hK112 _ _ ?_; clear hK112
         have hs88 := Sx.keepT [0, 7, 8, 9, 10] [_, _, _, _, _] ⟨rfl, rfl, rfl, rfl, rfl, trivial⟩ hs87; clear hs87
         have hplp : 0 < pl.length := by omega
         have htb := turn_bd (n := k0) (m := (pl.length : Int)) (by omega)
         obtain ⟨q, hq⟩ : ∃ q : Nat, (q : Int) = turn k0 (pl.length : Int) := ⟨(turn k0 (pl.length : Int)).toNat, Int.toNat_of_nonneg htb.1⟩
         have hqp : q < pl.length := by omega
         have hqb : q < b.parts.length := by omega
         obtain ⟨y, hy⟩ : ∃ y, pl[q]? = some y := ⟨_, List.getElem?_eq_getElem hqp⟩
         obtain ⟨x, hx⟩ : ∃ x, b.parts[q]? = some x := ⟨_, List.getElem?_eq_getElem hqb⟩
         have hyw := okWalks_iff.1 (isPlan_ok hipl hx hy)
         have hxw := (hb.parts q x hx).2
         obtain ⟨b113, o113, hA113, -, hc113⟩ := hP.el q x hx
         obtain ⟨hAp, lp, hop, hrp⟩ := hO29.open hy
         have hs89 := Sx.keepE [0, 1, 2, 3, 4] [(14, .int .i64 (q : Int)), (7, _), (6, _), (5, _), (3, _)] ⟨⟨_, rfl, (by rw [hq])⟩, ⟨_, rfl, rfl⟩, ⟨_, rfl, rfl⟩, ⟨_, rfl, rfl⟩, ⟨_, rfl, rfl⟩, trivial⟩ hs88; clear hs88
         refine cd_seq fun K114 hK114 => ?_
         refine cd_drawn mixed hs89 [⟨103, [], Is (.slice A29 pl.length c29)⟩,
      ⟨104, [], Is (.int .i64 (q : Int))⟩,
      ⟨105, [0, 1], Is (.pointer (some ⟨b29, q * 2, none⟩))⟩,
      ⟨106, [2], Is (.pointer (some ⟨b29, q * 2, none⟩))⟩,
      ⟨107, [3], Is (.int .i64 y.c)⟩,
      ⟨108, [], Is (.slice A29 pl.length c29)⟩,
      ⟨109, [], Is (.int .i64 (q : Int))⟩,
      ⟨110, [5, 6], Is (.pointer (some ⟨b29, q * 2, none⟩))⟩,
      ⟨111, [7], Is (.pointer (some ⟨b29, q * 2 + 1, none⟩))⟩,
      ⟨112, [8], Is (.int .i64 y.w)⟩,
      ⟨113, [4, 9], Is (.int .i64 (y.c + y.w))⟩,
      ⟨114, [], Is (.pointer (some ⟨b26, 22, none⟩))⟩,
      ⟨115, [11], Is (.slice A n cp)⟩,
      ⟨116, [], Is (.int .i64 (q : Int))⟩,
      ⟨117, [12, 13], Is (.pointer (some ⟨b113, o113 + q * 4, none⟩))⟩,
      ⟨118, [14], Is (.pointer (some ⟨b113, o113 + q * 4 + 3, none⟩))⟩,
      ⟨119, [15], Is (.int .i64 x.walks)⟩,
      ⟨120, [10, 16], Is (.bool ((y.c + y.w : Int) == x.walks))⟩] (by kernel_rfl) (by kernel_rfl) fun K115 hK115 => ⟨⟨?_, ?_, ?_, ?_, ?_, ?_, ?_, ?_, ?_, ?_, ?_, ?_, ?_, ?_, ?_, ?_, ?_, ?_, trivial⟩, ?_⟩
         · intro T_ B_ a_ w_ K_ hT hB
           intro hf hsD hk
           exact ob rfl rfl (st_move hsD (Ev.tmp (hT _ (mem_nth (i := 1) rfl))) rfl hf fun a_1 w_1 h1 => hk _ _ _ _ ⟨rfl, rfl⟩ h1)
         · intro T_ B_ a_ w_ K_ hT hB
           intro hf hsD hk
           exact ob rfl rfl (st_move hsD (Ev.tmp (hT _ (mem_nth (i := 0) rfl))) rfl hf fun a_1 w_1 h1 => hk _ _ _ _ ⟨rfl, rfl⟩ h1)
         · intro T_ B_ a_ w_ K_ hT hB
           rintro _ _ ⟨rfl, rfl⟩ h103 -
           rintro _ _ ⟨rfl, rfl⟩ h104 -
           intro hf hsD hk
           exact ob rfl rfl (st_indexM (o' := q * 2) hsD (Ev.tmp h103) (Ev.tmp h104) rfl hf hAp Tryd.runUnderlying28 Tryd.sizeOf64 ⟨by omega, by have := (List.getElem?_eq_some_iff.1 hy).1; omega⟩ (by simp) fun a_1 w_1 h1 => hk _ _ _ _ ⟨rfl, rfl⟩ h1)
         · intro T_ B_ a_ w_ K_ hT hB
           rintro _ _ ⟨rfl, rfl⟩ h105 -
           intro hf hsD hk
           exact ob rfl rfl (st_field (o' := q * 2) hsD (Ev.tmp h105) rfl hf Tryd.runUnderlying64 rfl Tryd.sizeOf3 rfl rfl fun a_1 w_1 h1 => hk _ _ _ _ ⟨rfl, rfl⟩ h1)
         · intro T_ B_ a_ w_ K_ hT hB
           rintro _ _ ⟨rfl, rfl⟩ h106 -
           intro hf hsD hk
           exact ob rfl rfl (st_load1 (o := (q * 2)) (off := 0) (v := .int .i64 y.c) hsD (Ev.tmp h106) rfl hf Tryd.isAgg3 (hrp.at (hsD.cellsM (by rw [← hop]; exact hB _ (mem_nth (i := 3) rfl))) hy) rfl fun a_1 w_1 h1 => hk _ _ _ _ ⟨rfl, rfl⟩ h1)
         · intro T_ B_ a_ w_ K_ hT hB
           intro hf hsD hk
           exact ob rfl rfl (st_move hsD (Ev.tmp (hT _ (mem_nth (i := 1) rfl))) rfl hf fun a_1 w_1 h1 => hk _ _ _ _ ⟨rfl, rfl⟩ h1)
         · intro T_ B_ a_ w_ K_ hT hB
           intro hf hsD hk
           exact ob rfl rfl (st_move hsD (Ev.tmp (hT _ (mem_nth (i := 0) rfl))) rfl hf fun a_1 w_1 h1 => hk _ _ _ _ ⟨rfl, rfl⟩ h1)
         · intro T_ B_ a_ w_ K_ hT hB
           rintro _ _ ⟨rfl, rfl⟩ h108 -
           rintro _ _ ⟨rfl, rfl⟩ h109 -
           intro hf hsD hk
           exact ob rfl rfl (st_indexM (o' := q * 2) hsD (Ev.tmp h108) (Ev.tmp h109) rfl hf hAp Tryd.runUnderlying28 Tryd.sizeOf64 ⟨by omega, by have := (List.getElem?_eq_some_iff.1 hy).1; omega⟩ (by simp) fun a_1 w_1 h1 => hk _ _ _ _ ⟨rfl, rfl⟩ h1)
         · intro T_ B_ a_ w_ K_ hT hB
           rintro _ _ ⟨rfl, rfl⟩ h110 -
           intro hf hsD hk
           exact ob rfl rfl (st_field (o' := q * 2 + 1) hsD (Ev.tmp h110) rfl hf Tryd.runUnderlying64 rfl Tryd.sizeOf3 rfl rfl fun a_1 w_1 h1 => hk _ _ _ _ ⟨rfl, rfl⟩ h1)
         · intro T_ B_ a_ w_ K_ hT hB
           rintro _ _ ⟨rfl, rfl⟩ h111 -
           intro hf hsD hk
           exact ob rfl rfl (st_load1 (o := (q * 2)) (off := 1) (v := .int .i64 y.w) hsD (Ev.tmp h111) rfl hf Tryd.isAgg3 (hrp.at (hsD.cellsM (by rw [← hop]; exact hB _ (mem_nth (i := 3) rfl))) hy) rfl fun a_1 w_1 h1 => hk _ _ _ _ ⟨rfl, rfl⟩ h1)
         · intro T_ B_ a_ w_ K_ hT hB
           rintro _ _ ⟨rfl, rfl⟩ h107 -
           rintro _ _ ⟨rfl, rfl⟩ h112 -
           intro hf hsD hk
           exact ob rfl rfl (st_add (z := y.c + y.w) hsD (Ev.tmp h107) (Ev.tmp h112) rfl hf rfl (by omega) fun a_1 w_1 h1 => hk _ _ _ _ ⟨rfl, rfl⟩ h1)
         · intro T_ B_ a_ w_ K_ hT hB
           intro hf hsD hk
           exact ob rfl rfl (st_field (o' := 22) hsD (Ev.tmp (hT _ (mem_nth (i := 4) rfl))) rfl hf Tryd.runUnderlying27 rfl Tryd.sizeOf25 rfl rfl fun a_1 w_1 h1 => hk _ _ _ _ ⟨rfl, rfl⟩ h1)
         · intro T_ B_ a_ w_ K_ hT hB
           rintro _ _ ⟨rfl, rfl⟩ h114 -
           intro hf hsD hk
           exact ob rfl rfl (st_load1 (o := 0) (off := 22) (v := .slice A n cp) hsD (Ev.tmp h114) rfl hf Tryd.isAgg25 (hsD.cellsM (hB _ (mem_nth (i := 5) rfl))) rfl fun a_1 w_1 h1 => hk _ _ _ _ ⟨rfl, rfl⟩ h1)
         · intro T_ B_ a_ w_ K_ hT hB
           intro hf hsD hk
           exact ob rfl rfl (st_move hsD (Ev.tmp (hT _ (mem_nth (i := 0) rfl))) rfl hf fun a_1 w_1 h1 => hk _ _ _ _ ⟨rfl, rfl⟩ h1)
         · intro T_ B_ a_ w_ K_ hT hB
           rintro _ _ ⟨rfl, rfl⟩ h115 -
           rintro _ _ ⟨rfl, rfl⟩ h116 -
           intro hf hsD hk
           exact ob rfl rfl (st_indexM (o' := o113 + q * 4) hsD (Ev.tmp h115) (Ev.tmp h116) rfl hf hA113 Tryd.runUnderlying25 Tryd.sizeOf66 ⟨by omega, by have := hP.len; have := (List.getElem?_eq_some_iff.1 hx).1; omega⟩ rfl fun a_1 w_1 h1 => hk _ _ _ _ ⟨rfl, rfl⟩ h1)
         · intro T_ B_ a_ w_ K_ hT hB
           rintro _ _ ⟨rfl, rfl⟩ h117 -
           intro hf hsD hk
           exact ob rfl rfl (st_field (o' := o113 + q * 4 + 3) hsD (Ev.tmp h117) rfl hf Tryd.runUnderlying66 rfl Tryd.sizeOf3 rfl rfl fun a_1 w_1 h1 => hk _ _ _ _ ⟨rfl, rfl⟩ h1)
         · intro T_ B_ a_ w_ K_ hT hB
           rintro _ _ ⟨rfl, rfl⟩ h118 -
           intro hf hsD hk
           exact ob rfl rfl (st_load1 (o := o113 + q * 4) (off := 3) (v := .int .i64 x.walks) hsD (Ev.tmp h118) rfl hf Tryd.isAgg3 (hsD.old hc113 (by simp)) rfl fun a_1 w_1 h1 => hk _ _ _ _ ⟨rfl, rfl⟩ h1)
         · intro T_ B_ a_ w_ K_ hT hB
           rintro _ _ ⟨rfl, rfl⟩ h113 -
           rintro _ _ ⟨rfl, rfl⟩ h119 -
           intro hf hsD hk
           exact ob rfl rfl (st_cmp (c := (y.c + y.w : Int) == x.walks) hsD (Ev.tmp h113) (Ev.tmp h119) rfl hf rfl rfl fun a_1 w_1 h1 => hk _ _ _ _ ⟨rfl, rfl⟩ h1)
         rintro _ _ ⟨rfl, rfl⟩
         rintro _ _ ⟨rfl, rfl⟩
         rintro _ _ ⟨rfl, rfl⟩
         rintro _ _ ⟨rfl, rfl⟩
         rintro _ _ ⟨rfl, rfl⟩
         rintro _ _ ⟨rfl, rfl⟩
         rintro _ _ ⟨rfl, rfl⟩
         rintro _ _ ⟨rfl, rfl⟩
         rintro _ _ ⟨rfl, rfl⟩
         rintro _ _ ⟨rfl, rfl⟩
         rintro _ _ ⟨rfl, rfl⟩
         rintro _ _ ⟨rfl, rfl⟩
         rintro _ _ ⟨rfl, rfl⟩
         rintro _ _ ⟨rfl, rfl⟩
         rintro _ _ ⟨rfl, rfl⟩
         rintro _ _ ⟨rfl, rfl⟩
         rintro _ _ ⟨rfl, rfl⟩
         rintro _ _ ⟨rfl, rfl⟩
         intro a_90 w_90 hs90
         clear hs89
         have hs91 := Sx.as (T' := [_, _, _, _, _, _, _, _, _, _, _, _, _, _, _, _, _, _, _, _, _, _, _]) (B' := [_, _, _, _, _, _]) rfl rfl hs90; clear hs90
         refine hK115 _ _ ?_; clear hK115
         have hs92 := Sx.keepT [17, 18, 19, 20, 21, 22] [_, _, _, _, _, _] ⟨rfl, rfl, rfl, rfl, rfl, rfl, trivial⟩ hs91; clear hs91
         refine cd_cond hs92 (Ev.t 0 rfl) (fun hc116 => ?_) (fun hc116 => ?_)
         · refine cd_region fun K117 hK117 => ?_
           refine sq rfl (st_callv (vs := []) hs92 (.func _) trivial rfl rfl Tryd.call20 rfl (fired_v _ (hG.kp hs92.kp (by simp))) fun _ _ hs93 => ?_); clear hs92
           have hs94 := Sx.keepT [0, 1, 2, 3, 5, 6] [_, _, _, _, _, _] ⟨rfl, rfl, rfl, rfl, rfl, rfl, trivial⟩ hs93; clear hs93
           refine sq rfl (st_assign hs94 (Ev.t 0 rfl) rfl rfl fun _ _ hs95 => ?_); clear hs94
           refine hK117 _ _ ?_; clear hK117
           have hs96 := Sx.keepT [0] [_] ⟨rfl, trivial⟩ hs95; clear hs95
           refine cd_retv (vs := [.bool true]) hs96 (fun a_ w_ h => th_ret (hQ0 a_ w_ h)) rfl ⟨.tmp 0 rfl, trivial⟩ ?_
           clear hs96 hQ0 hN0 hK114
           first | rfl | (simp [pack]; done)
         · have hne : y.c + y.w < x.walks := by simp at hc116; omega
           refine cd_skip ?_
           refine th_norm (hK114 _ _ ?_)
           refine cd_region fun K118 hK118 => ?_
           refine sq rfl (st_buildSlice hs92 (qs := []) (e := 64) (l := []) trivial rfl rfl rfl (fun _ => by kernel_rfl) fun b119 _ _ hs93 => ?_); clear hs92
           refine sq rfl (st_move hs93 (Ev.t 3 rfl) rfl rfl fun _ _ hs94 => ?_); clear hs93
           refine sq rfl (st_append (enc := walksL) (zs := ([] : List Walks)) (ys := pl) (c := 0) (i := 0) hs94 (Ev.t 1 rfl) (Ev.t 0 rfl) rfl rfl Tryd.underlying28 (show (Tryd.prog.info? 64).map (fun i => (i.zero, i.size, i.bytes)) = some (some (.agg #[.int .i64 0, .int .i64 0]), 2, 16) by kernel_rfl) rfl (fun _ => rfl) (fun _ u hu => by simp only [walksL, List.mem_cons, List.not_mem_nil, or_false] at hu; rcases hu with rfl | rfl <;> rfl) (.inl ⟨rfl, rfl⟩) rfl (hO29.at hs94 4 rfl) (by simp; omega) (by simp; omega) (fun A7 c7 bq oq _ _ hownq hs95 => ?_)); clear hs94
           have hs96 := Sx.as (T' := [_, _, _, _, _, _, _, _, _]) (B' := [_, _, _, _, _, _, _]) rfl rfl hs95; clear hs95
           rw [List.nil_append] at hownq
           have hs97 := Sx.keepE [0, 1, 2, 3, 4, 5, 6, 7, 8] [(124, .slice A7 pl.length c7), (123, _), (122, _), (120, _), (14, _), (7, _), (6, _), (5, _), (3, _)] ⟨⟨_, rfl, (by simp)⟩, ⟨_, rfl, rfl⟩, ⟨_, rfl, rfl⟩, ⟨_, rfl, rfl⟩, ⟨_, rfl, rfl⟩, ⟨_, rfl, rfl⟩, ⟨_, rfl, rfl⟩, ⟨_, rfl, rfl⟩, ⟨_, rfl, rfl⟩, trivial⟩ hs96; clear hs96
           refine sq rfl (st_assign hs97 (Ev.t 0 rfl) rfl rfl fun _ _ hs98 => ?_); clear hs97
           refine hK118 _ _ ?_; clear hK118
           have hs99 := Sx.keepT [0, 5, 7, 8, 9] [_, _, _, _, _] ⟨rfl, rfl, rfl, rfl, rfl, trivial⟩ hs98; clear hs98
           refine cd_seq fun K120 hK120 => ?_
           refine cd_region fun K121 hK121 => ?_
           refine sq rfl (st_indexArr (o' := 1) hs99 (Ev.t 3 rfl) (.const _) rfl rfl Tryd.runUnderlying29 Tryd.sizeOf3 (by decide) rfl fun _ _ hs100 => ?_); clear hs99
           refine sq rfl (st_load1 (o := 0) (off := 1) (v := .int .i64 k1) hs100 (Ev.t 0 rfl) rfl rfl Tryd.isAgg3 (hs100.cells 5 rfl) rfl fun _ _ hs101 => ?_); clear hs100
           refine sq rfl (st_rem hs101 (Ev.t 0 rfl) (.const _) rfl rfl (by omega) fun _ _ hs102 => ?_); clear hs101
           refine sq rfl (st_cmp (c := ((k1 : Int).tmod 2 : Int) == 0) hs102 (Ev.t 0 rfl) (.const _) rfl rfl rfl rfl fun _ _ hs103 => ?_); clear hs102
           refine hK121 _ _ ?_; clear hK121
           have hs104 := Sx.keepT [0, 4, 5, 6, 8] [_, _, _, _, _] ⟨rfl, rfl, rfl, rfl, rfl, trivial⟩ hs103; clear hs103
           refine cd_cond hs104 (Ev.t 0 rfl) (fun hc122 => ?_) (fun hc122 => ?_)
           · refine cd_region1 ?_
             refine sq rfl (st_move hs104 (Ev.t 1 rfl) rfl rfl fun _ _ hs105 => ?_); clear hs104
             refine sq rfl (st_move hs105 (Ev.t 3 rfl) rfl rfl fun _ _ hs106 => ?_); clear hs105
             obtain ⟨hA123, l123, ho123, hr123⟩ := hownq.open hy
             refine sq rfl (st_indexM (o' := q * 2) hs106 (Ev.t 1 rfl) (Ev.t 0 rfl) rfl rfl hA123 Tryd.runUnderlying28 Tryd.sizeOf64 ⟨by omega, by have := (List.getElem?_eq_some_iff.1 hy).1; omega⟩ (by simp) fun _ _ hs107 => ?_); clear hs106
             refine sq rfl (st_field (o' := q * 2) hs107 (Ev.t 0 rfl) rfl rfl Tryd.runUnderlying64 rfl Tryd.sizeOf3 rfl rfl fun _ _ hs108 => ?_); clear hs107
             refine sq rfl (st_load1 (o := (q * 2)) (off := 0) (v := .int .i64 y.c) hs108 (Ev.t 0 rfl) rfl rfl Tryd.isAgg3 (hr123.at (hs108.cellsO 0 rfl ho123) hy) rfl fun _ _ hs109 => ?_); clear hs108
             refine sq rfl (st_add (z := y.c + 1) hs109 (Ev.t 0 rfl) (.const _) rfl rfl rfl (by omega) fun _ _ hs110 => ?_); clear hs109
             refine sq rfl (st_indexM (o' := q * 2) hs110 (Ev.t 5 rfl) (Ev.t 4 rfl) rfl rfl hA123 Tryd.runUnderlying28 Tryd.sizeOf64 ⟨by omega, by have := (List.getElem?_eq_some_iff.1 hy).1; omega⟩ (by simp) fun _ _ hs111 => ?_); clear hs110
             refine sq rfl (st_field (o' := q * 2) hs111 (Ev.t 0 rfl) rfl rfl Tryd.runUnderlying64 rfl Tryd.sizeOf3 rfl rfl fun _ _ hs112 => ?_); clear hs111
             refine sq rfl (st_storeOwn (enc := walksL) (sz := 2) (off := 0) (kk := q) (i := 0) (u := y) (u' := ⟨y.c + 1, y.w⟩) hs112 (Ev.t 0 rfl) (Ev.t 2 rfl) Tryd.sizeOf3 rfl hownq hy (fun _ => rfl) (by decide) rfl rfl rfl (fun o8 _ _ hown8 hs113 => ?_)); clear hs112
             have hs114 := Sx.as (T' := [_, _, _, _, _, _, _, _, _, _, _, _, _]) (B' := [_, _, _, _, _, _, _]) rfl rfl hs113; clear hs113
             have hfx := failsR_good hok (good_more hb hgood hy hx (z := ⟨y.c + 1, y.w⟩) (by constructor <;> simp only <;> omega) (okWalks_iff.2 (by simp only; omega)))
             refine wpListIn_nil ?_
             have hs115 := Sx.keepT [9, 11, 12] [_, _, _] ⟨rfl, rfl, rfl, trivial⟩ hs114; clear hs114
             refine th_norm (hK120 _ _ ?_)
             refine cd_region fun K124 hK124 => ?_
             refine sq rfl (st_loadA (o := 0) (off := 0) (vs := (bookL b A n cp)) hs115 (Ev.t 2 rfl) rfl rfl Tryd.isAgg27 Tryd.sizeOf27 (hs115.cells 6 rfl) rfl fun _ _ hs116 => ?_); clear hs115
             refine sq rfl (st_move hs116 (Ev.t 1 rfl) rfl rfl fun _ _ hs117 => ?_); clear hs116
             refine sq rfl (st_callv (vs := [.agg ⟨(bookL b A n cp)⟩, .slice A7 pl.length c7]) hs117 (.func _) ⟨(Ev.t 1 rfl), (Ev.t 0 rfl), trivial⟩ rfl rfl Tryd.call21 rfl (callsV_eq (v' := .tuple ⟨[.int .i64 0, .int .i64 4]⟩) (Fails_v b A n cp A7 pl.length c7 (pl.set q ⟨y.c + 1, y.w⟩) _ (hP.kp hs117.kp) hn (by rw [show pl.length = ((pl.set q ⟨y.c + 1, y.w⟩)).length from by simp]; exact (hown8.at hs117 0 rfl)) (by omega) (hG.kp hs117.kp (by simp))) (by rw [hfx])) fun _ _ hs118 => ?_); clear hs117
             refine sq rfl (st_move hs118 (Ev.t 0 rfl) rfl rfl fun _ _ hs119 => ?_); clear hs118
             refine sq rfl (st_extract hs119 (Ev.t 0 rfl) rfl rfl rfl fun _ _ hs120 => ?_); clear hs119
             refine sq rfl (st_extract hs120 (Ev.t 1 rfl) rfl rfl rfl fun _ _ hs121 => ?_); clear hs120
             refine sq rfl (st_assign hs121 (Ev.t 1 rfl) rfl rfl fun _ _ hs122 => ?_); clear hs121
             refine sq rfl (st_assign hs122 (Ev.t 1 rfl) rfl rfl fun _ _ hs123 => ?_); clear hs122
             refine hK124 _ _ ?_; clear hK124
             have hs124 := Sx.keepT [0, 9] [_, _] ⟨rfl, rfl, trivial⟩ hs123; clear hs123
             refine cd_region fun K125 hK125 => ?_
             refine sq rfl (st_move hs124 (Ev.t 0 rfl) rfl rfl fun _ _ hs125 => ?_); clear hs124
             refine sq rfl (st_cmp (c := true) hs125 (Ev.t 0 rfl) (.const _) rfl rfl rfl rfl fun _ _ hs126 => ?_); clear hs125
             refine sq rfl (st_move hs126 (Ev.t 0 rfl) rfl rfl fun _ _ hs127 => ?_); clear hs126
             refine sq_on hs127 rfl rfl 0 rfl rfl (st_callv (vs := []) hs127 (.func _) trivial rfl rfl Tryd.call20 rfl (fired_v _ (hG.kp hs127.kp (by simp))) fun _ _ hs128 => ?_); clear hs127
             refine sq rfl (st_pick hs128 (Ev.t 1 rfl) rfl rfl (fun h => (Ev.t 0 rfl)) (fun h => by cases h) fun _ _ hs129 => ?_); clear hs128
             have hs130 := Sx.keepT [0, 1, 2, 3, 4, 5] [_, _, _, _, _, _] ⟨rfl, rfl, rfl, rfl, rfl, rfl, trivial⟩ hs129; clear hs129
             refine sq rfl (st_assign hs130 (Ev.t 0 rfl) rfl rfl fun _ _ hs131 => ?_); clear hs130
             refine hK125 _ _ ?_; clear hK125
             have hs132 := Sx.keepT [0] [_] ⟨rfl, trivial⟩ hs131; clear hs131
             refine cd_retv (vs := [.bool true]) hs132 hQ0 rfl ⟨.tmp 0 rfl, trivial⟩ ?_
             clear hs132 hQ0 hN0
             first | rfl | (simp [pack]; done)
           · refine cd_region1 ?_
             refine sq rfl (st_move hs104 (Ev.t 1 rfl) rfl rfl fun _ _ hs105 => ?_); clear hs104
             refine sq rfl (st_move hs105 (Ev.t 3 rfl) rfl rfl fun _ _ hs106 => ?_); clear hs105
             obtain ⟨hA126, l126, ho126, hr126⟩ := hownq.open hy
             refine sq rfl (st_indexM (o' := q * 2) hs106 (Ev.t 1 rfl) (Ev.t 0 rfl) rfl rfl hA126 Tryd.runUnderlying28 Tryd.sizeOf64 ⟨by omega, by have := (List.getElem?_eq_some_iff.1 hy).1; omega⟩ (by simp) fun _ _ hs107 => ?_); clear hs106
             refine sq rfl (st_field (o' := q * 2 + 1) hs107 (Ev.t 0 rfl) rfl rfl Tryd.runUnderlying64 rfl Tryd.sizeOf3 rfl rfl fun _ _ hs108 => ?_); clear hs107
             refine sq rfl (st_load1 (o := (q * 2)) (off := 1) (v := .int .i64 y.w) hs108 (Ev.t 0 rfl) rfl rfl Tryd.isAgg3 (hr126.at (hs108.cellsO 0 rfl ho126) hy) rfl fun _ _ hs109 => ?_); clear hs108
             refine sq rfl (st_add (z := y.w + 1) hs109 (Ev.t 0 rfl) (.const _) rfl rfl rfl (by omega) fun _ _ hs110 => ?_); clear hs109
             refine sq rfl (st_indexM (o' := q * 2) hs110 (Ev.t 5 rfl) (Ev.t 4 rfl) rfl rfl hA126 Tryd.runUnderlying28 Tryd.sizeOf64 ⟨by omega, by have := (List.getElem?_eq_some_iff.1 hy).1; omega⟩ (by simp) fun _ _ hs111 => ?_); clear hs110
             refine sq rfl (st_field (o' := q * 2 + 1) hs111 (Ev.t 0 rfl) rfl rfl Tryd.runUnderlying64 rfl Tryd.sizeOf3 rfl rfl fun _ _ hs112 => ?_); clear hs111
             refine sq rfl (st_storeOwn (enc := walksL) (sz := 2) (off := 1) (kk := q) (i := 0) (u := y) (u' := ⟨y.c, y.w + 1⟩) hs112 (Ev.t 0 rfl) (Ev.t 2 rfl) Tryd.sizeOf3 rfl hownq hy (fun _ => rfl) (by decide) rfl rfl rfl (fun o8 _ _ hown8 hs113 => ?_)); clear hs112
             have hs114 := Sx.as (T' := [_, _, _, _, _, _, _, _, _, _, _, _, _]) (B' := [_, _, _, _, _, _, _]) rfl rfl hs113; clear hs113
             have hfx := failsR_good hok (good_more hb hgood hy hx (z := ⟨y.c, y.w + 1⟩) (by constructor <;> simp only <;> omega) (okWalks_iff.2 (by simp only; omega)))
             refine wpListIn_nil ?_
             have hs115 := Sx.keepT [9, 11, 12] [_, _, _] ⟨rfl, rfl, rfl, trivial⟩ hs114; clear hs114
             refine th_norm (hK120 _ _ ?_)
             refine cd_region fun K127 hK127 => ?_
             refine sq rfl (st_loadA (o := 0) (off := 0) (vs := (bookL b A n cp)) hs115 (Ev.t 2 rfl) rfl rfl Tryd.isAgg27 Tryd.sizeOf27 (hs115.cells 6 rfl) rfl fun _ _ hs116 => ?_); clear hs115
             refine sq rfl (st_move hs116 (Ev.t 1 rfl) rfl rfl fun _ _ hs117 => ?_); clear hs116
             refine sq rfl (st_callv (vs := [.agg ⟨(bookL b A n cp)⟩, .slice A7 pl.length c7]) hs117 (.func _) ⟨(Ev.t 1 rfl), (Ev.t 0 rfl), trivial⟩ rfl rfl Tryd.call21 rfl (callsV_eq (v' := .tuple ⟨[.int .i64 0, .int .i64 4]⟩) (Fails_v b A n cp A7 pl.length c7 (pl.set q ⟨y.c, y.w + 1⟩) _ (hP.kp hs117.kp) hn (by rw [show pl.length = ((pl.set q ⟨y.c, y.w + 1⟩)).length from by simp]; exact (hown8.at hs117 0 rfl)) (by omega) (hG.kp hs117.kp (by simp))) (by rw [hfx])) fun _ _ hs118 => ?_); clear hs117
             refine sq rfl (st_move hs118 (Ev.t 0 rfl) rfl rfl fun _ _ hs119 => ?_); clear hs118
             refine sq rfl (st_extract hs119 (Ev.t 0 rfl) rfl rfl rfl fun _ _ hs120 => ?_); clear hs119
             refine sq rfl (st_extract hs120 (Ev.t 1 rfl) rfl rfl rfl fun _ _ hs121 => ?_); clear hs120
             refine sq rfl (st_assign hs121 (Ev.t 1 rfl) rfl rfl fun _ _ hs122 => ?_); clear hs121
             refine sq rfl (st_assign hs122 (Ev.t 1 rfl) rfl rfl fun _ _ hs123 => ?_); clear hs122
             refine hK127 _ _ ?_; clear hK127
             have hs124 := Sx.keepT [0, 9] [_, _] ⟨rfl, rfl, trivial⟩ hs123; clear hs123
             refine cd_region fun K128 hK128 => ?_
             refine sq rfl (st_move hs124 (Ev.t 0 rfl) rfl rfl fun _ _ hs125 => ?_); clear hs124
             refine sq rfl (st_cmp (c := true) hs125 (Ev.t 0 rfl) (.const _) rfl rfl rfl rfl fun _ _ hs126 => ?_); clear hs125
             refine sq rfl (st_move hs126 (Ev.t 0 rfl) rfl rfl fun _ _ hs127 => ?_); clear hs126
             refine sq_on hs127 rfl rfl 0 rfl rfl (st_callv (vs := []) hs127 (.func _) trivial rfl rfl Tryd.call20 rfl (fired_v _ (hG.kp hs127.kp (by simp))) fun _ _ hs128 => ?_); clear hs127
             refine sq rfl (st_pick hs128 (Ev.t 1 rfl) rfl rfl (fun h => (Ev.t 0 rfl)) (fun h => by cases h) fun _ _ hs129 => ?_); clear hs128
             have hs130 := Sx.keepT [0, 1, 2, 3, 4, 5] [_, _, _, _, _, _] ⟨rfl, rfl, rfl, rfl, rfl, rfl, trivial⟩ hs129; clear hs129
             refine sq rfl (st_assign hs130 (Ev.t 0 rfl) rfl rfl fun _ _ hs131 => ?_); clear hs130
             refine hK128 _ _ ?_; clear hK128
             have hs132 := Sx.keepT [0] [_] ⟨rfl, trivial⟩ hs131; clear hs131
             refine cd_retv (vs := [.bool true]) hs132 hQ0 rfl ⟨.tmp 0 rfl, trivial⟩ ?_
             clear hs132 hQ0 hN0
             first | rfl | (simp [pack]; done)
end Go.Proofs.YtdbcedmofoakmaaDoor
