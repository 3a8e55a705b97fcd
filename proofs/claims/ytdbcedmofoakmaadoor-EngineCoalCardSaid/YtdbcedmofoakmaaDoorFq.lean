/- The law EngineCoal: its walk. -/
import Derived.Test.YtdbcedmofoakmaaDoorFp
set_option maxRecDepth 100000
namespace Go.Proofs.YtdbcedmofoakmaaDoor
open Go Go.Sx Go.Eng
theorem EngineCoal_v (b : Book) (A : Option Addr) (n cp : Nat) (k : Int) (w : World) (hP : PartsAt w A n b.parts) (hn : n ≤ 140737488351232) (hG : CellsAt w 0 0 stuffsL) (_hcp : n ≤ cp) :
    CallsV Tryd.prog 11 [.agg ⟨(bookL b A n cp)⟩, .int .i64 k] w (.bool true) := by
 refine enter (N := 127) (M := []) w Tryd.func11 rfl rfl rfl (fun Q0 a_0 hQ0 hN0 hs0 => ?_)
 rcases hok : b.ok with _ | _
 · skip
   have hR := coalR_no hok
   refine cd_region fun K1 hK1 => ?_
   refine sq rfl (st_box hs0 (Ev.t 0 rfl) rfl rfl rfl fun b2 _ _ hs1 => ?_); clear hs0
   refine sq rfl (st_assign hs1 (.const _) rfl rfl fun _ _ hs2 => ?_); clear hs1
   refine hK1 _ _ ?_; clear hK1
   have hs3 := Sx.keepT [0, 1, 3] [_, _, _] ⟨rfl, rfl, rfl, trivial⟩ hs2; clear hs2
   refine cd_region fun K3 hK3 => ?_
   refine sq rfl (st_loadA (o := 0) (off := 0) (vs := (bookL b A n cp)) hs3 (Ev.t 1 rfl) rfl rfl Tryd.isAgg27 Tryd.sizeOf27 (hs3.cells 0 rfl) rfl fun _ _ hs4 => ?_); clear hs3
   refine sq rfl (st_callv (vs := [.agg ⟨(bookL b A n cp)⟩]) hs4 (.func _) ⟨(Ev.t 0 rfl), trivial⟩ rfl rfl Tryd.call30 rfl (callsV_eq (v' := .tuple ⟨[.int .i64 0, .int .i64 40]⟩) (Coal_v b A n cp _ (hP.kp hs4.kp) hn (hG.kp hs4.kp (by simp))) (by rw [hR])) fun _ _ hs5 => ?_); clear hs4
   refine sq rfl (st_move hs5 (Ev.t 0 rfl) rfl rfl fun _ _ hs6 => ?_); clear hs5
   refine sq rfl (st_extract hs6 (Ev.t 0 rfl) rfl rfl rfl fun _ _ hs7 => ?_); clear hs6
   refine sq rfl (st_extract hs7 (Ev.t 1 rfl) rfl rfl rfl fun _ _ hs8 => ?_); clear hs7
   refine sq rfl (st_assign hs8 (Ev.t 1 rfl) rfl rfl fun _ _ hs9 => ?_); clear hs8
   refine sq rfl (st_assign hs9 (Ev.t 1 rfl) rfl rfl fun _ _ hs10 => ?_); clear hs9
   refine hK3 _ _ ?_; clear hK3
   have hs11 := Sx.keepT [0, 1, 7, 8, 9] [_, _, _, _, _] ⟨rfl, rfl, rfl, rfl, rfl, trivial⟩ hs10; clear hs10
   refine cd_seq fun K4 hK4 => ?_
   refine cd_region fun K5 hK5 => ?_
   refine sq rfl (st_loadA (o := 0) (off := 0) (vs := (bookL b A n cp)) hs11 (Ev.t 3 rfl) rfl rfl Tryd.isAgg27 Tryd.sizeOf27 (hs11.cells 0 rfl) rfl fun _ _ hs12 => ?_); clear hs11
   refine sq rfl (st_callv (vs := [.agg ⟨(bookL b A n cp)⟩]) hs12 (.func _) ⟨(Ev.t 0 rfl), trivial⟩ rfl rfl Tryd.call32 rfl (callsV_eq (v' := .bool false) (sound_v b A n cp _ (hP.kp hs12.kp) hn) (by rw [hok])) fun _ _ hs13 => ?_); clear hs12
   refine sq rfl (st_not hs13 (Ev.t 0 rfl) rfl rfl fun _ _ hs14 => ?_); clear hs13
   refine hK5 _ _ ?_; clear hK5
   have hs15 := Sx.keepT [0, 3, 4, 5, 6, 7] [_, _, _, _, _, _] ⟨rfl, rfl, rfl, rfl, rfl, rfl, trivial⟩ hs14; clear hs14
   have hc6 : true = true := rfl
   refine cd_cond hs15 (Ev.t 0 rfl) (fun _ => ?_) (fun h => absurd (hc6.symm.trans h) (by decide))
   refine cd_region fun K7 hK7 => ?_
   refine sq rfl (st_move hs15 (Ev.t 1 rfl) rfl rfl fun _ _ hs16 => ?_); clear hs15
   refine sq rfl (st_cmp (c := true) hs16 (Ev.t 0 rfl) (.const _) rfl rfl rfl rfl fun _ _ hs17 => ?_); clear hs16
   refine sq rfl (st_move hs17 (Ev.t 0 rfl) rfl rfl fun _ _ hs18 => ?_); clear hs17
   refine sq_on hs18 rfl rfl 0 rfl rfl (st_move hs18 (Ev.t 5 rfl) rfl rfl fun _ _ hs19 => ?_); clear hs18
   refine sq_on hs19 rfl rfl 1 rfl rfl (st_cmp (c := true) hs19 (Ev.t 0 rfl) (.const _) rfl rfl rfl rfl fun _ _ hs20 => ?_); clear hs19
   refine sq rfl (st_pick hs20 (Ev.t 2 rfl) rfl rfl (fun h => (Ev.t 0 rfl)) (fun h => by cases h) fun _ _ hs21 => ?_); clear hs20
   refine sq rfl (st_move hs21 (Ev.t 0 rfl) rfl rfl fun _ _ hs22 => ?_); clear hs21
   refine sq_on hs22 rfl rfl 0 rfl rfl (st_callv (vs := []) hs22 (.func _) trivial rfl rfl Tryd.call20 rfl (fired_v _ (hG.kp hs22.kp (by simp))) fun _ _ hs23 => ?_); clear hs22
   refine sq rfl (st_pick hs23 (Ev.t 1 rfl) rfl rfl (fun h => (Ev.t 0 rfl)) (fun h => by cases h) fun _ _ hs24 => ?_); clear hs23
   have hs25 := Sx.keepT [0, 1, 2, 3, 4, 5, 6, 7, 8, 9, 10, 11, 13, 14] [_, _, _, _, _, _, _, _, _, _, _, _, _, _] ⟨rfl, rfl, rfl, rfl, rfl, rfl, rfl, rfl, rfl, rfl, rfl, rfl, rfl, rfl, trivial⟩ hs24; clear hs24
   refine sq rfl (st_assign hs25 (Ev.t 0 rfl) rfl rfl fun _ _ hs26 => ?_); clear hs25
   refine hK7 _ _ ?_; clear hK7
   have hs27 := Sx.keepT [0] [_] ⟨rfl, trivial⟩ hs26; clear hs26
   refine cd_retv (vs := [.bool true]) hs27 (fun a_ w_ h => th_ret (hQ0 a_ w_ h)) rfl ⟨.tmp 0 rfl, trivial⟩ ?_
   clear hs27 hQ0 hN0 hK4
   first | rfl | (simp [pack]; done) | (simp [pack, hlo]; done) | (simp [pack, hz0]; done) | (simp [pack, hz0, hlo]; done) | (simp [pack, hz0]; omega) | (simp [pack]; omega)
 · skip
   by_cases hfi : (first (fun k => (b.withCoal k).can) (b.bunker.toNat + 1) 0) < 0
   · skip
     have hb := ok_bd hok
     have hl5 := ok_len hok
     have hl2 := hP.len
     obtain ⟨⟨s1, s2, s3, s4, s5, s6⟩, -, -⟩ := sound_all hok
     have hbu := Eng.within_iff.1 s1
     have hR : b.coalR = (0, 4) := by rw [coalR_ok hok, if_pos hfi]
     have hok1 := ok_coal hok (s := ⟨b.bunker, b.bunker⟩) (by simp only; omega)
     have hp1 : (Book.planR { b with coal := ⟨b.bunker, b.bunker⟩ }).2 = 4 := by rw [planR_ok hok1, withCoal_can hb (by simp only; omega), coal_none hok hfi _ (by simp only; omega) (by simp only; omega)]; rfl
     refine cd_region fun K8 hK8 => ?_
     refine sq rfl (st_box hs0 (Ev.t 0 rfl) rfl rfl rfl fun b9 _ _ hs1 => ?_); clear hs0
     refine sq rfl (st_assign hs1 (.const _) rfl rfl fun _ _ hs2 => ?_); clear hs1
     refine hK8 _ _ ?_; clear hK8
     have hs3 := Sx.keepT [0, 1, 3] [_, _, _] ⟨rfl, rfl, rfl, trivial⟩ hs2; clear hs2
     refine cd_region fun K10 hK10 => ?_
     refine sq rfl (st_loadA (o := 0) (off := 0) (vs := (bookL b A n cp)) hs3 (Ev.t 1 rfl) rfl rfl Tryd.isAgg27 Tryd.sizeOf27 (hs3.cells 0 rfl) rfl fun _ _ hs4 => ?_); clear hs3
     refine sq rfl (st_callv (vs := [.agg ⟨(bookL b A n cp)⟩]) hs4 (.func _) ⟨(Ev.t 0 rfl), trivial⟩ rfl rfl Tryd.call30 rfl (callsV_eq (v' := .tuple ⟨[.int .i64 0, .int .i64 4]⟩) (Coal_v b A n cp _ (hP.kp hs4.kp) hn (hG.kp hs4.kp (by simp))) (by rw [hR])) fun _ _ hs5 => ?_); clear hs4
     refine sq rfl (st_move hs5 (Ev.t 0 rfl) rfl rfl fun _ _ hs6 => ?_); clear hs5
     refine sq rfl (st_extract hs6 (Ev.t 0 rfl) rfl rfl rfl fun _ _ hs7 => ?_); clear hs6
     refine sq rfl (st_extract hs7 (Ev.t 1 rfl) rfl rfl rfl fun _ _ hs8 => ?_); clear hs7
     refine sq rfl (st_assign hs8 (Ev.t 1 rfl) rfl rfl fun _ _ hs9 => ?_); clear hs8
     refine sq rfl (st_assign hs9 (Ev.t 1 rfl) rfl rfl fun _ _ hs10 => ?_); clear hs9
     refine hK10 _ _ ?_; clear hK10
     have hs11 := Sx.keepT [0, 1, 7, 8, 9] [_, _, _, _, _] ⟨rfl, rfl, rfl, rfl, rfl, trivial⟩ hs10; clear hs10
     refine cd_seq fun K11 hK11 => ?_
     refine cd_region fun K12 hK12 => ?_
     refine sq rfl (st_loadA (o := 0) (off := 0) (vs := (bookL b A n cp)) hs11 (Ev.t 3 rfl) rfl rfl Tryd.isAgg27 Tryd.sizeOf27 (hs11.cells 0 rfl) rfl fun _ _ hs12 => ?_); clear hs11
     refine sq rfl (st_callv (vs := [.agg ⟨(bookL b A n cp)⟩]) hs12 (.func _) ⟨(Ev.t 0 rfl), trivial⟩ rfl rfl Tryd.call32 rfl (callsV_eq (v' := .bool true) (sound_v b A n cp _ (hP.kp hs12.kp) hn) (by rw [hok])) fun _ _ hs13 => ?_); clear hs12
     refine sq rfl (st_not hs13 (Ev.t 0 rfl) rfl rfl fun _ _ hs14 => ?_); clear hs13
     refine hK12 _ _ ?_; clear hK12
     have hs15 := Sx.keepT [0, 3, 4, 5, 6, 7] [_, _, _, _, _, _] ⟨rfl, rfl, rfl, rfl, rfl, rfl, trivial⟩ hs14; clear hs14
     have hc13 : false = false := rfl
     refine cd_cond hs15 (Ev.t 0 rfl) (fun h => absurd (hc13.symm.trans h) (by decide)) (fun _ => ?_)
     refine cd_skip ?_
     refine th_norm (hK11 _ _ ?_)
     refine cd_region fun K14 hK14 => ?_
     refine sq rfl (st_loadA (o := 0) (off := 0) (vs := (bookL b A n cp)) hs15 (Ev.t 4 rfl) rfl rfl Tryd.isAgg27 Tryd.sizeOf27 (hs15.cells 0 rfl) rfl fun _ _ hs16 => ?_); clear hs15
     refine sq rfl (st_alloc hs16 rfl rfl Tryd.zeroValue27 rfl fun b15 _ _ hs17 => ?_); clear hs16
     refine sq rfl (st_store (l' := (bookL b A n cp)) (vs := (bookL b A n cp)) (i := 0) hs17 (Ev.t 0 rfl) (Ev.t 1 rfl) Tryd.sizeOf27 rfl rfl rfl rfl rfl rfl fun _ _ hs18 => ?_); clear hs17
     have hs19 := Sx.as (T' := [_, _, _, _, _, _, _, _]) (B' := [_, _]) rfl rfl hs18; clear hs18
     refine hK14 _ _ ?_; clear hK14
     have hs20 := Sx.keepT [0, 3, 4, 5, 6, 7] [_, _, _, _, _, _] ⟨rfl, rfl, rfl, rfl, rfl, rfl, trivial⟩ hs19; clear hs19
     refine cd_seq fun K16 hK16 => ?_
     refine cd_region fun K17 hK17 => ?_
     refine sq rfl (st_move hs20 (Ev.t 1 rfl) rfl rfl fun _ _ hs21 => ?_); clear hs20
     refine sq rfl (st_cmp (c := true) hs21 (Ev.t 0 rfl) (.const _) rfl rfl rfl rfl fun _ _ hs22 => ?_); clear hs21
     refine hK17 _ _ ?_; clear hK17
     have hs23 := Sx.keepT [0, 2, 3, 4, 5, 6, 7] [_, _, _, _, _, _, _] ⟨rfl, rfl, rfl, rfl, rfl, rfl, rfl, trivial⟩ hs22; clear hs22
     have hc18 : true = true := rfl
     refine cd_cond hs23 (Ev.t 0 rfl) (fun _ => ?_) (fun h => absurd (hc18.symm.trans h) (by decide))
     refine cd_region fun K19 hK19 => ?_
     refine sq rfl (st_field (o' := 4) hs23 (Ev.t 5 rfl) rfl rfl Tryd.runUnderlying27 rfl Tryd.sizeOf3 rfl rfl fun _ _ hs24 => ?_); clear hs23
     refine sq rfl (st_load1 (o := 0) (off := 4) (v := .int .i64 b.bunker) hs24 (Ev.t 0 rfl) rfl rfl Tryd.isAgg3 (hs24.cells 1 rfl) rfl fun _ _ hs25 => ?_); clear hs24
     refine sq rfl (st_field (o' := 4) hs25 (Ev.t 7 rfl) rfl rfl Tryd.runUnderlying27 rfl Tryd.sizeOf3 rfl rfl fun _ _ hs26 => ?_); clear hs25
     refine sq rfl (st_load1 (o := 0) (off := 4) (v := .int .i64 b.bunker) hs26 (Ev.t 0 rfl) rfl rfl Tryd.isAgg3 (hs26.cells 1 rfl) rfl fun _ _ hs27 => ?_); clear hs26
     refine sq rfl (st_callv (vs := [.int .i64 b.bunker, .int .i64 b.bunker]) hs27 (.func _) ⟨(Ev.t 2 rfl), (Ev.t 0 rfl), trivial⟩ rfl rfl Tryd.call40 rfl (S_v b.bunker b.bunker _) fun _ _ hs28 => ?_); clear hs27
     refine sq rfl (st_field (o' := 0) hs28 (Ev.t 6 rfl) rfl rfl Tryd.runUnderlying27 rfl Tryd.sizeOf23 rfl rfl fun _ _ hs29 => ?_); clear hs28
     refine sq rfl (st_store (l' := [.int .i64 b.bunker, .int .i64 b.bunker, .int .i64 b.water.lo, .int .i64 b.water.hi, .int .i64 b.bunker, .int .i64 b.tank, .int .i64 b.scoop, .int .i64 b.pail, .int .i64 b.burn0.lo, .int .i64 b.burn0.hi, .int .i64 b.burn1.lo, .int .i64 b.burn1.hi, .int .i64 b.drink0.lo, .int .i64 b.drink0.hi, .int .i64 b.drink1.lo, .int .i64 b.drink1.hi, .int .i64 b.full.lo, .int .i64 b.full.hi, .int .i64 b.weak.lo, .int .i64 b.weak.hi, .int .i64 b.mark, .int .i64 b.lamp, .slice A n cp]) (vs := [.int .i64 b.bunker, .int .i64 b.bunker]) (i := 0) hs29 (Ev.t 0 rfl) (Ev.t 1 rfl) Tryd.sizeOf23 rfl rfl rfl rfl rfl rfl fun _ _ hs30 => ?_); clear hs29
     have hs31 := Sx.as (T' := [_, _, _, _, _, _, _, _, _, _, _, _, _]) (B' := [_, _]) rfl rfl hs30; clear hs30
     refine hK19 _ _ ?_; clear hK19
     have hs32 := Sx.keepT [7, 8, 9, 10] [_, _, _, _] ⟨rfl, rfl, rfl, rfl, trivial⟩ hs31; clear hs31
     refine cd_region fun K20 hK20 => ?_
     refine sq rfl (st_loadA (o := 0) (off := 0) (vs := [.int .i64 b.bunker, .int .i64 b.bunker, .int .i64 b.water.lo, .int .i64 b.water.hi, .int .i64 b.bunker, .int .i64 b.tank, .int .i64 b.scoop, .int .i64 b.pail, .int .i64 b.burn0.lo, .int .i64 b.burn0.hi, .int .i64 b.burn1.lo, .int .i64 b.burn1.hi, .int .i64 b.drink0.lo, .int .i64 b.drink0.hi, .int .i64 b.drink1.lo, .int .i64 b.drink1.hi, .int .i64 b.full.lo, .int .i64 b.full.hi, .int .i64 b.weak.lo, .int .i64 b.weak.hi, .int .i64 b.mark, .int .i64 b.lamp, .slice A n cp]) hs32 (Ev.t 0 rfl) rfl rfl Tryd.isAgg27 Tryd.sizeOf27 (hs32.cells 0 rfl) rfl fun _ _ hs33 => ?_); clear hs32
     refine sq rfl (st_call (vs := [.agg ⟨[.int .i64 b.bunker, .int .i64 b.bunker, .int .i64 b.water.lo, .int .i64 b.water.hi, .int .i64 b.bunker, .int .i64 b.tank, .int .i64 b.scoop, .int .i64 b.pail, .int .i64 b.burn0.lo, .int .i64 b.burn0.hi, .int .i64 b.burn1.lo, .int .i64 b.burn1.hi, .int .i64 b.drink0.lo, .int .i64 b.drink0.hi, .int .i64 b.drink1.lo, .int .i64 b.drink1.hi, .int .i64 b.full.lo, .int .i64 b.full.hi, .int .i64 b.weak.lo, .int .i64 b.weak.hi, .int .i64 b.mark, .int .i64 b.lamp, .slice A n cp]⟩]) hs33 (.func _) ⟨(Ev.t 0 rfl), trivial⟩ rfl rfl Tryd.call23 rfl (plansL hp1 (Plan_b ({ b with coal := ⟨b.bunker, b.bunker⟩ }) A n cp _ (show PartsAt _ A n b.parts from hP.kp hs33.kp) hn (hG.kp hs33.kp (by simp)))) fun v22 bs23 a_34 w_34 hp34 hs34 => ?_); clear hs33
     obtain ⟨Ap21, np21, cq21, rfl, rfl⟩ := hp34
     have hs35 := Sx.as (T' := [_, _, _, _, _, _]) (B' := [_, _]) rfl rfl hs34; clear hs34
     refine sq rfl (st_move hs35 (Ev.t 0 rfl) rfl rfl fun _ _ hs36 => ?_); clear hs35
     refine sq rfl (st_extract hs36 (Ev.t 0 rfl) rfl rfl rfl fun _ _ hs37 => ?_); clear hs36
     refine sq rfl (st_extract hs37 (Ev.t 1 rfl) rfl rfl rfl fun _ _ hs38 => ?_); clear hs37
     refine sq rfl (st_assign hs38 (Ev.t 1 rfl) rfl rfl fun _ _ hs39 => ?_); clear hs38
     refine sq rfl (st_assign hs39 (Ev.t 1 rfl) rfl rfl fun _ _ hs40 => ?_); clear hs39
     refine hK20 _ _ ?_; clear hK20
     have hs41 := Sx.keepT [0, 8, 9, 10] [_, _, _, _] ⟨rfl, rfl, rfl, rfl, trivial⟩ hs40; clear hs40
     refine cd_region fun K24 hK24 => ?_
     refine sq rfl (st_move hs41 (Ev.t 1 rfl) rfl rfl fun _ _ hs42 => ?_); clear hs41
     refine sq rfl (st_cmp (c := true) hs42 (Ev.t 0 rfl) (.const _) rfl rfl rfl rfl fun _ _ hs43 => ?_); clear hs42
     refine sq rfl (st_move hs43 (Ev.t 0 rfl) rfl rfl fun _ _ hs44 => ?_); clear hs43
     refine sq_on hs44 rfl rfl 0 rfl rfl (st_move hs44 (Ev.t 3 rfl) rfl rfl fun _ _ hs45 => ?_); clear hs44
     refine sq_on hs45 rfl rfl 1 rfl rfl (st_move hs45 (Ev.t 5 rfl) rfl rfl fun _ _ hs46 => ?_); clear hs45
     refine sq_on hs46 rfl rfl 2 rfl rfl (st_cmp (c := true) hs46 (Ev.t 1 rfl) (Ev.t 0 rfl) rfl rfl rfl rfl fun _ _ hs47 => ?_); clear hs46
     refine sq rfl (st_pick hs47 (Ev.t 3 rfl) rfl rfl (fun h => (Ev.t 0 rfl)) (fun h => by cases h) fun _ _ hs48 => ?_); clear hs47
     refine sq rfl (st_move hs48 (Ev.t 0 rfl) rfl rfl fun _ _ hs49 => ?_); clear hs48
     refine sq_on hs49 rfl rfl 0 rfl rfl (st_move hs49 (Ev.t 10 rfl) rfl rfl fun _ _ hs50 => ?_); clear hs49
     refine sq_on hs50 rfl rfl 1 rfl rfl (st_cmp (c := true) hs50 (Ev.t 0 rfl) (.const _) rfl rfl rfl rfl fun _ _ hs51 => ?_); clear hs50
     refine sq rfl (st_pick hs51 (Ev.t 2 rfl) rfl rfl (fun h => (Ev.t 0 rfl)) (fun h => by cases h) fun _ _ hs52 => ?_); clear hs51
     refine sq rfl (st_move hs52 (Ev.t 0 rfl) rfl rfl fun _ _ hs53 => ?_); clear hs52
     refine sq_on hs53 rfl rfl 0 rfl rfl (st_callv (vs := []) hs53 (.func _) trivial rfl rfl Tryd.call20 rfl (fired_v _ (hG.kp hs53.kp (by simp))) fun _ _ hs54 => ?_); clear hs53
     refine sq rfl (st_pick hs54 (Ev.t 1 rfl) rfl rfl (fun h => (Ev.t 0 rfl)) (fun h => by cases h) fun _ _ hs55 => ?_); clear hs54
     have hs56 := Sx.keepT [0, 1, 2, 3, 4, 5, 6, 7, 8, 9, 10, 11, 12, 13, 14, 15, 16] [_, _, _, _, _, _, _, _, _, _, _, _, _, _, _, _, _] ⟨rfl, rfl, rfl, rfl, rfl, rfl, rfl, rfl, rfl, rfl, rfl, rfl, rfl, rfl, rfl, rfl, rfl, trivial⟩ hs55; clear hs55
     refine sq rfl (st_assign hs56 (Ev.t 0 rfl) rfl rfl fun _ _ hs57 => ?_); clear hs56
     refine hK24 _ _ ?_; clear hK24
     have hs58 := Sx.keepT [0] [_] ⟨rfl, trivial⟩ hs57; clear hs57
     refine cd_retv (vs := [.bool true]) hs58 (fun a_ w_ h => th_ret (hQ0 a_ w_ h)) rfl ⟨.tmp 0 rfl, trivial⟩ ?_
     clear hs58 hQ0 hN0 hK16
     first | rfl | (simp [pack]; done) | (simp [pack, hlo]; done) | (simp [pack, hz0]; done) | (simp [pack, hz0, hlo]; done) | (simp [pack, hz0]; omega) | (simp [pack]; omega)
   · skip
     have hb := ok_bd hok
     have hl5 := ok_len hok
     have hl2 := hP.len
     obtain ⟨⟨s1, s2, s3, s4, s5, s6⟩, -, -⟩ := sound_all hok
     have hbu := Eng.within_iff.1 s1
     have hco := okSpan_iff.1 s3
     have hR : b.coalR = ((first (fun k => (b.withCoal k).can) (b.bunker.toNat + 1) 0), 0) := by rw [coalR_ok hok, if_neg hfi]
     have hat := coal_at hok hfi
     generalize (first (fun k => (b.withCoal k).can) (b.bunker.toNat + 1) 0) = z at hR hat
     have hz1 := hat.lo; have hz2 := hat.hi
     have hw1 : within z 0 b.bunker = true := Eng.within_iff.2 ⟨hz1, hz2⟩
     have htb := turn_bd (n := k) (m := b.bunker - z + 1) (by omega)
     have hok1 := ok_coal hok (s := ⟨z + turn k (b.bunker - z + 1), b.bunker⟩) (by simp only; omega)
     have hp1 : (Book.planR { b with coal := ⟨z + turn k (b.bunker - z + 1), b.bunker⟩ }).2 = 0 := by rw [planR_ok hok1, withCoal_can hb (by simp only; omega), hat.yes _ (by simp only; omega) (by simp only; omega)]; rfl
     have hpb : b.can = b.canL b.parts b.coal.lo b.water.lo := can_eq hb
     refine cd_region fun K25 hK25 => ?_
     refine sq rfl (st_box hs0 (Ev.t 0 rfl) rfl rfl rfl fun b26 _ _ hs1 => ?_); clear hs0
     refine sq rfl (st_assign hs1 (.const _) rfl rfl fun _ _ hs2 => ?_); clear hs1
     refine hK25 _ _ ?_; clear hK25
     have hs3 := Sx.keepT [0, 1, 3] [_, _, _] ⟨rfl, rfl, rfl, trivial⟩ hs2; clear hs2
     refine cd_region fun K27 hK27 => ?_
     refine sq rfl (st_loadA (o := 0) (off := 0) (vs := (bookL b A n cp)) hs3 (Ev.t 1 rfl) rfl rfl Tryd.isAgg27 Tryd.sizeOf27 (hs3.cells 0 rfl) rfl fun _ _ hs4 => ?_); clear hs3
     refine sq rfl (st_callv (vs := [.agg ⟨(bookL b A n cp)⟩]) hs4 (.func _) ⟨(Ev.t 0 rfl), trivial⟩ rfl rfl Tryd.call30 rfl (callsV_eq (v' := .tuple ⟨[.int .i64 z, .int .i64 0]⟩) (Coal_v b A n cp _ (hP.kp hs4.kp) hn (hG.kp hs4.kp (by simp))) (by rw [hR])) fun _ _ hs5 => ?_); clear hs4
     refine sq rfl (st_move hs5 (Ev.t 0 rfl) rfl rfl fun _ _ hs6 => ?_); clear hs5
     refine sq rfl (st_extract hs6 (Ev.t 0 rfl) rfl rfl rfl fun _ _ hs7 => ?_); clear hs6
     refine sq rfl (st_extract hs7 (Ev.t 1 rfl) rfl rfl rfl fun _ _ hs8 => ?_); clear hs7
     refine sq rfl (st_assign hs8 (Ev.t 1 rfl) rfl rfl fun _ _ hs9 => ?_); clear hs8
     refine sq rfl (st_assign hs9 (Ev.t 1 rfl) rfl rfl fun _ _ hs10 => ?_); clear hs9
     refine hK27 _ _ ?_; clear hK27
     have hs11 := Sx.keepT [0, 1, 7, 8, 9] [_, _, _, _, _] ⟨rfl, rfl, rfl, rfl, rfl, trivial⟩ hs10; clear hs10
     refine cd_seq fun K28 hK28 => ?_
     refine cd_region fun K29 hK29 => ?_
     refine sq rfl (st_loadA (o := 0) (off := 0) (vs := (bookL b A n cp)) hs11 (Ev.t 3 rfl) rfl rfl Tryd.isAgg27 Tryd.sizeOf27 (hs11.cells 0 rfl) rfl fun _ _ hs12 => ?_); clear hs11
     refine sq rfl (st_callv (vs := [.agg ⟨(bookL b A n cp)⟩]) hs12 (.func _) ⟨(Ev.t 0 rfl), trivial⟩ rfl rfl Tryd.call32 rfl (callsV_eq (v' := .bool true) (sound_v b A n cp _ (hP.kp hs12.kp) hn) (by rw [hok])) fun _ _ hs13 => ?_); clear hs12
     refine sq rfl (st_not hs13 (Ev.t 0 rfl) rfl rfl fun _ _ hs14 => ?_); clear hs13
     refine hK29 _ _ ?_; clear hK29
     have hs15 := Sx.keepT [0, 3, 4, 5, 6, 7] [_, _, _, _, _, _] ⟨rfl, rfl, rfl, rfl, rfl, rfl, trivial⟩ hs14; clear hs14
     have hc30 : false = false := rfl
     refine cd_cond hs15 (Ev.t 0 rfl) (fun h => absurd (hc30.symm.trans h) (by decide)) (fun _ => ?_)
     refine cd_skip ?_
     refine th_norm (hK28 _ _ ?_)
     refine cd_region fun K31 hK31 => ?_
     refine sq rfl (st_loadA (o := 0) (off := 0) (vs := (bookL b A n cp)) hs15 (Ev.t 4 rfl) rfl rfl Tryd.isAgg27 Tryd.sizeOf27 (hs15.cells 0 rfl) rfl fun _ _ hs16 => ?_); clear hs15
     refine sq rfl (st_alloc hs16 rfl rfl Tryd.zeroValue27 rfl fun b32 _ _ hs17 => ?_); clear hs16
     refine sq rfl (st_store (l' := (bookL b A n cp)) (vs := (bookL b A n cp)) (i := 0) hs17 (Ev.t 0 rfl) (Ev.t 1 rfl) Tryd.sizeOf27 rfl rfl rfl rfl rfl rfl fun _ _ hs18 => ?_); clear hs17
     have hs19 := Sx.as (T' := [_, _, _, _, _, _, _, _]) (B' := [_, _]) rfl rfl hs18; clear hs18
     refine hK31 _ _ ?_; clear hK31
     have hs20 := Sx.keepT [0, 3, 4, 5, 6, 7] [_, _, _, _, _, _] ⟨rfl, rfl, rfl, rfl, rfl, rfl, trivial⟩ hs19; clear hs19
     refine cd_seq fun K33 hK33 => ?_
     refine cd_region fun K34 hK34 => ?_
     refine sq rfl (st_move hs20 (Ev.t 1 rfl) rfl rfl fun _ _ hs21 => ?_); clear hs20
     refine sq rfl (st_cmp (c := false) hs21 (Ev.t 0 rfl) (.const _) rfl rfl rfl rfl fun _ _ hs22 => ?_); clear hs21
     refine hK34 _ _ ?_; clear hK34
     have hs23 := Sx.keepT [0, 2, 3, 4, 5, 6, 7] [_, _, _, _, _, _, _] ⟨rfl, rfl, rfl, rfl, rfl, rfl, rfl, trivial⟩ hs22; clear hs22
     have hc35 : false = false := rfl
     refine cd_cond hs23 (Ev.t 0 rfl) (fun h => absurd (hc35.symm.trans h) (by decide)) (fun _ => ?_)
     refine cd_skip ?_
     refine th_norm (hK33 _ _ ?_)
     refine cd_seq fun K36 hK36 => ?_
     refine cd_region fun K37 hK37 => ?_
     refine sq rfl (st_move hs23 (Ev.t 3 rfl) rfl rfl fun _ _ hs24 => ?_); clear hs23
     refine sq rfl (st_field (o' := 4) hs24 (Ev.t 6 rfl) rfl rfl Tryd.runUnderlying27 rfl Tryd.sizeOf3 rfl rfl fun _ _ hs25 => ?_); clear hs24
     refine sq rfl (st_load1 (o := 0) (off := 4) (v := .int .i64 b.bunker) hs25 (Ev.t 0 rfl) rfl rfl Tryd.isAgg3 (hs25.cells 1 rfl) rfl fun _ _ hs26 => ?_); clear hs25
     refine sq rfl (st_callv (vs := [.int .i64 z, .int .i64 0, .int .i64 b.bunker]) hs26 (.func _) ⟨(Ev.t 2 rfl), (.const _), (Ev.t 0 rfl), trivial⟩ rfl rfl Tryd.call37 rfl (amid_t z 0 b.bunker (by assumption) _) fun _ _ hs27 => ?_); clear hs26
     refine sq rfl (st_not hs27 (Ev.t 0 rfl) rfl rfl fun _ _ hs28 => ?_); clear hs27
     refine hK37 _ _ ?_; clear hK37
     have hs29 := Sx.keepT [0, 6, 8, 9, 10, 11] [_, _, _, _, _, _] ⟨rfl, rfl, rfl, rfl, rfl, rfl, trivial⟩ hs28; clear hs28
     have hc38 : false = false := rfl
     refine cd_cond hs29 (Ev.t 0 rfl) (fun h => absurd (hc38.symm.trans h) (by decide)) (fun _ => ?_)
     refine cd_skip ?_
     refine th_norm (hK36 _ _ ?_)
     refine cd_region fun K39 hK39 => ?_
     refine sq rfl (st_move hs29 (Ev.t 2 rfl) rfl rfl fun _ _ hs30 => ?_); clear hs29
     refine sq rfl (st_move hs30 (Ev.t 6 rfl) rfl rfl fun _ _ hs31 => ?_); clear hs30
     refine sq rfl (st_field (o' := 4) hs31 (Ev.t 6 rfl) rfl rfl Tryd.runUnderlying27 rfl Tryd.sizeOf3 rfl rfl fun _ _ hs32 => ?_); clear hs31
     refine sq rfl (st_load1 (o := 0) (off := 4) (v := .int .i64 b.bunker) hs32 (Ev.t 0 rfl) rfl rfl Tryd.isAgg3 (hs32.cells 1 rfl) rfl fun _ _ hs33 => ?_); clear hs32
     refine sq rfl (st_move hs33 (Ev.t 6 rfl) rfl rfl fun _ _ hs34 => ?_); clear hs33
     refine sq rfl (st_sub (z := b.bunker - z) hs34 (Ev.t 1 rfl) (Ev.t 0 rfl) rfl rfl rfl (by omega) fun _ _ hs35 => ?_); clear hs34
     refine sq rfl (st_add (z := (b.bunker - z) + 1) hs35 (Ev.t 0 rfl) (.const _) rfl rfl rfl (by omega) fun _ _ hs36 => ?_); clear hs35
     refine sq rfl (st_callv (vs := [.int .i64 k, .int .i64 ((b.bunker - z) + 1)]) hs36 (.func _) ⟨(Ev.t 5 rfl), (Ev.t 0 rfl), trivial⟩ rfl rfl Tryd.call38 rfl (turn_v k ((b.bunker - z) + 1) (by omega) _) fun _ _ hs37 => ?_); clear hs36
     refine sq rfl (st_add (z := z + (turn k ((b.bunker - z) + 1))) hs37 (Ev.t 7 rfl) (Ev.t 0 rfl) rfl rfl rfl (by omega) fun _ _ hs38 => ?_); clear hs37
     refine sq rfl (st_assign hs38 (Ev.t 0 rfl) rfl rfl fun _ _ hs39 => ?_); clear hs38
     refine hK39 _ _ ?_; clear hK39
     have hs40 := Sx.keepT [0, 11, 12, 13, 14] [_, _, _, _, _] ⟨rfl, rfl, rfl, rfl, rfl, trivial⟩ hs39; clear hs39
     refine cd_region fun K40 hK40 => ?_
     refine sq rfl (st_move hs40 (Ev.t 0 rfl) rfl rfl fun _ _ hs41 => ?_); clear hs40
     refine sq rfl (st_field (o' := 4) hs41 (Ev.t 5 rfl) rfl rfl Tryd.runUnderlying27 rfl Tryd.sizeOf3 rfl rfl fun _ _ hs42 => ?_); clear hs41
     refine sq rfl (st_load1 (o := 0) (off := 4) (v := .int .i64 b.bunker) hs42 (Ev.t 0 rfl) rfl rfl Tryd.isAgg3 (hs42.cells 1 rfl) rfl fun _ _ hs43 => ?_); clear hs42
     refine sq rfl (st_callv (vs := [.int .i64 (z + (turn k ((b.bunker - z) + 1))), .int .i64 b.bunker]) hs43 (.func _) ⟨(Ev.t 2 rfl), (Ev.t 0 rfl), trivial⟩ rfl rfl Tryd.call40 rfl (S_v (z + (turn k ((b.bunker - z) + 1))) b.bunker _) fun _ _ hs44 => ?_); clear hs43
     refine sq rfl (st_field (o' := 0) hs44 (Ev.t 5 rfl) rfl rfl Tryd.runUnderlying27 rfl Tryd.sizeOf23 rfl rfl fun _ _ hs45 => ?_); clear hs44
     refine sq rfl (st_store (l' := [.int .i64 (z + (turn k ((b.bunker - z) + 1))), .int .i64 b.bunker, .int .i64 b.water.lo, .int .i64 b.water.hi, .int .i64 b.bunker, .int .i64 b.tank, .int .i64 b.scoop, .int .i64 b.pail, .int .i64 b.burn0.lo, .int .i64 b.burn0.hi, .int .i64 b.burn1.lo, .int .i64 b.burn1.hi, .int .i64 b.drink0.lo, .int .i64 b.drink0.hi, .int .i64 b.drink1.lo, .int .i64 b.drink1.hi, .int .i64 b.full.lo, .int .i64 b.full.hi, .int .i64 b.weak.lo, .int .i64 b.weak.hi, .int .i64 b.mark, .int .i64 b.lamp, .slice A n cp]) (vs := [.int .i64 (z + (turn k ((b.bunker - z) + 1))), .int .i64 b.bunker]) (i := 0) hs45 (Ev.t 0 rfl) (Ev.t 1 rfl) Tryd.sizeOf23 rfl rfl rfl rfl rfl rfl fun _ _ hs46 => ?_); clear hs45
     have hs47 := Sx.as (T' := [_, _, _, _, _, _, _, _, _, _]) (B' := [_, _]) rfl rfl hs46; clear hs46
     refine hK40 _ _ ?_; clear hK40
     have hs48 := Sx.keepT [6, 7, 8, 9] [_, _, _, _] ⟨rfl, rfl, rfl, rfl, trivial⟩ hs47; clear hs47
     refine cd_region fun K41 hK41 => ?_
     refine sq rfl (st_loadA (o := 0) (off := 0) (vs := [.int .i64 (z + (turn k ((b.bunker - z) + 1))), .int .i64 b.bunker, .int .i64 b.water.lo, .int .i64 b.water.hi, .int .i64 b.bunker, .int .i64 b.tank, .int .i64 b.scoop, .int .i64 b.pail, .int .i64 b.burn0.lo, .int .i64 b.burn0.hi, .int .i64 b.burn1.lo, .int .i64 b.burn1.hi, .int .i64 b.drink0.lo, .int .i64 b.drink0.hi, .int .i64 b.drink1.lo, .int .i64 b.drink1.hi, .int .i64 b.full.lo, .int .i64 b.full.hi, .int .i64 b.weak.lo, .int .i64 b.weak.hi, .int .i64 b.mark, .int .i64 b.lamp, .slice A n cp]) hs48 (Ev.t 0 rfl) rfl rfl Tryd.isAgg27 Tryd.sizeOf27 (hs48.cells 0 rfl) rfl fun _ _ hs49 => ?_); clear hs48
     refine sq rfl (st_call (vs := [.agg ⟨[.int .i64 (z + (turn k ((b.bunker - z) + 1))), .int .i64 b.bunker, .int .i64 b.water.lo, .int .i64 b.water.hi, .int .i64 b.bunker, .int .i64 b.tank, .int .i64 b.scoop, .int .i64 b.pail, .int .i64 b.burn0.lo, .int .i64 b.burn0.hi, .int .i64 b.burn1.lo, .int .i64 b.burn1.hi, .int .i64 b.drink0.lo, .int .i64 b.drink0.hi, .int .i64 b.drink1.lo, .int .i64 b.drink1.hi, .int .i64 b.full.lo, .int .i64 b.full.hi, .int .i64 b.weak.lo, .int .i64 b.weak.hi, .int .i64 b.mark, .int .i64 b.lamp, .slice A n cp]⟩]) hs49 (.func _) ⟨(Ev.t 0 rfl), trivial⟩ rfl rfl Tryd.call23 rfl (plansL hp1 (Plan_b ({ b with coal := ⟨z + turn k (b.bunker - z + 1), b.bunker⟩ }) A n cp _ (show PartsAt _ A n b.parts from hP.kp hs49.kp) hn (hG.kp hs49.kp (by simp)))) fun v43 bs44 a_50 w_50 hp50 hs50 => ?_); clear hs49
     obtain ⟨Ap42, np42, cq42, rfl, rfl⟩ := hp50
     have hs51 := Sx.as (T' := [_, _, _, _, _, _]) (B' := [_, _]) rfl rfl hs50; clear hs50
     refine sq rfl (st_move hs51 (Ev.t 0 rfl) rfl rfl fun _ _ hs52 => ?_); clear hs51
     refine sq rfl (st_extract hs52 (Ev.t 0 rfl) rfl rfl rfl fun _ _ hs53 => ?_); clear hs52
     refine sq rfl (st_extract hs53 (Ev.t 1 rfl) rfl rfl rfl fun _ _ hs54 => ?_); clear hs53
     refine sq rfl (st_assign hs54 (Ev.t 1 rfl) rfl rfl fun _ _ hs55 => ?_); clear hs54
     refine sq rfl (st_assign hs55 (Ev.t 1 rfl) rfl rfl fun _ _ hs56 => ?_); clear hs55
     refine hK41 _ _ ?_; clear hK41
     have hs57 := Sx.keepT [0, 8, 9, 10] [_, _, _, _] ⟨rfl, rfl, rfl, rfl, trivial⟩ hs56; clear hs56
     refine cd_region fun K45 hK45 => ?_
     refine sq rfl (st_loadA (o := 0) (off := 0) (vs := (bookL b A n cp)) hs57 (Ev.t 3 rfl) rfl rfl Tryd.isAgg27 Tryd.sizeOf27 (hs57.cells 1 rfl) rfl fun _ _ hs58 => ?_); clear hs57
     refine sq rfl (st_alloc hs58 rfl rfl Tryd.zeroValue27 rfl fun b46 _ _ hs59 => ?_); clear hs58
     refine sq rfl (st_store (l' := (bookL b A n cp)) (vs := (bookL b A n cp)) (i := 0) hs59 (Ev.t 0 rfl) (Ev.t 1 rfl) Tryd.sizeOf27 rfl rfl rfl rfl rfl rfl fun _ _ hs60 => ?_); clear hs59
     have hs61 := Sx.as (T' := [_, _, _, _, _, _]) (B' := [_, _, _]) rfl rfl hs60; clear hs60
     refine hK45 _ _ ?_; clear hK45
     have hs62 := Sx.keepT [0, 2, 3, 4, 5] [_, _, _, _, _] ⟨rfl, rfl, rfl, rfl, rfl, trivial⟩ hs61; clear hs61
     by_cases hz0 : z = 0
     · skip
       obtain ⟨e9, he9⟩ : ∃ e, (Book.planR { b with coal := ⟨z - 1, z - 1⟩ }).2 = e := ⟨_, rfl⟩
       refine cd_region fun K47 hK47 => ?_
       refine sq rfl (st_move hs62 (Ev.t 2 rfl) rfl rfl fun _ _ hs63 => ?_); clear hs62
       refine sq rfl (st_sub (z := z - 1) hs63 (Ev.t 0 rfl) (.const _) rfl rfl rfl (by omega) fun _ _ hs64 => ?_); clear hs63
       refine sq rfl (st_move hs64 (Ev.t 4 rfl) rfl rfl fun _ _ hs65 => ?_); clear hs64
       refine sq rfl (st_sub (z := z - 1) hs65 (Ev.t 0 rfl) (.const _) rfl rfl rfl (by omega) fun _ _ hs66 => ?_); clear hs65
       refine sq rfl (st_callv (vs := [.int .i64 (z - 1), .int .i64 (z - 1)]) hs66 (.func _) ⟨(Ev.t 2 rfl), (Ev.t 0 rfl), trivial⟩ rfl rfl Tryd.call40 rfl (S_v (z - 1) (z - 1) _) fun _ _ hs67 => ?_); clear hs66
       refine sq rfl (st_field (o' := 0) hs67 (Ev.t 5 rfl) rfl rfl Tryd.runUnderlying27 rfl Tryd.sizeOf23 rfl rfl fun _ _ hs68 => ?_); clear hs67
       refine sq rfl (st_store (l' := [.int .i64 (z - 1), .int .i64 (z - 1), .int .i64 b.water.lo, .int .i64 b.water.hi, .int .i64 b.bunker, .int .i64 b.tank, .int .i64 b.scoop, .int .i64 b.pail, .int .i64 b.burn0.lo, .int .i64 b.burn0.hi, .int .i64 b.burn1.lo, .int .i64 b.burn1.hi, .int .i64 b.drink0.lo, .int .i64 b.drink0.hi, .int .i64 b.drink1.lo, .int .i64 b.drink1.hi, .int .i64 b.full.lo, .int .i64 b.full.hi, .int .i64 b.weak.lo, .int .i64 b.weak.hi, .int .i64 b.mark, .int .i64 b.lamp, .slice A n cp]) (vs := [.int .i64 (z - 1), .int .i64 (z - 1)]) (i := 0) hs68 (Ev.t 0 rfl) (Ev.t 1 rfl) Tryd.sizeOf23 rfl rfl rfl rfl rfl rfl fun _ _ hs69 => ?_); clear hs68
       have hs70 := Sx.as (T' := [_, _, _, _, _, _, _, _, _, _, _]) (B' := [_, _, _]) rfl rfl hs69; clear hs69
       refine hK47 _ _ ?_; clear hK47
       have hs71 := Sx.keepT [6, 7, 8, 9, 10] [_, _, _, _, _] ⟨rfl, rfl, rfl, rfl, rfl, trivial⟩ hs70; clear hs70
       refine cd_region fun K48 hK48 => ?_
       refine sq rfl (st_loadA (o := 0) (off := 0) (vs := [.int .i64 (z - 1), .int .i64 (z - 1), .int .i64 b.water.lo, .int .i64 b.water.hi, .int .i64 b.bunker, .int .i64 b.tank, .int .i64 b.scoop, .int .i64 b.pail, .int .i64 b.burn0.lo, .int .i64 b.burn0.hi, .int .i64 b.burn1.lo, .int .i64 b.burn1.hi, .int .i64 b.drink0.lo, .int .i64 b.drink0.hi, .int .i64 b.drink1.lo, .int .i64 b.drink1.hi, .int .i64 b.full.lo, .int .i64 b.full.hi, .int .i64 b.weak.lo, .int .i64 b.weak.hi, .int .i64 b.mark, .int .i64 b.lamp, .slice A n cp]) hs71 (Ev.t 0 rfl) rfl rfl Tryd.isAgg27 Tryd.sizeOf27 (hs71.cells 0 rfl) rfl fun _ _ hs72 => ?_); clear hs71
       refine sq rfl (st_call (vs := [.agg ⟨[.int .i64 (z - 1), .int .i64 (z - 1), .int .i64 b.water.lo, .int .i64 b.water.hi, .int .i64 b.bunker, .int .i64 b.tank, .int .i64 b.scoop, .int .i64 b.pail, .int .i64 b.burn0.lo, .int .i64 b.burn0.hi, .int .i64 b.burn1.lo, .int .i64 b.burn1.hi, .int .i64 b.drink0.lo, .int .i64 b.drink0.hi, .int .i64 b.drink1.lo, .int .i64 b.drink1.hi, .int .i64 b.full.lo, .int .i64 b.full.hi, .int .i64 b.weak.lo, .int .i64 b.weak.hi, .int .i64 b.mark, .int .i64 b.lamp, .slice A n cp]⟩]) hs72 (.func _) ⟨(Ev.t 0 rfl), trivial⟩ rfl rfl Tryd.call23 rfl (plansL he9 (Plan_b ({ b with coal := ⟨z - 1, z - 1⟩ }) A n cp _ (show PartsAt _ A n b.parts from hP.kp hs72.kp) hn (hG.kp hs72.kp (by simp)))) fun v50 bs51 a_73 w_73 hp73 hs73 => ?_); clear hs72
       obtain ⟨Ap49, np49, cq49, rfl, rfl⟩ := hp73
       have hs74 := Sx.as (T' := [_, _, _, _, _, _, _]) (B' := [_, _, _]) rfl rfl hs73; clear hs73
       refine sq rfl (st_move hs74 (Ev.t 0 rfl) rfl rfl fun _ _ hs75 => ?_); clear hs74
       refine sq rfl (st_extract hs75 (Ev.t 0 rfl) rfl rfl rfl fun _ _ hs76 => ?_); clear hs75
       refine sq rfl (st_extract hs76 (Ev.t 1 rfl) rfl rfl rfl fun _ _ hs77 => ?_); clear hs76
       refine sq rfl (st_assign hs77 (Ev.t 1 rfl) rfl rfl fun _ _ hs78 => ?_); clear hs77
       refine sq rfl (st_assign hs78 (Ev.t 1 rfl) rfl rfl fun _ _ hs79 => ?_); clear hs78
       refine hK48 _ _ ?_; clear hK48
       have hs80 := Sx.keepT [0, 8, 9, 10, 11] [_, _, _, _, _] ⟨rfl, rfl, rfl, rfl, rfl, trivial⟩ hs79; clear hs79
       by_cases hlo : z ≤ b.coal.lo
       · skip
         have hpl0 : b.planR.2 = 0 := by rw [planR_ok hok, hpb, hat.yes _ hlo (by omega)]; rfl
         refine cd_region fun K52 hK52 => ?_
         refine sq rfl (st_loadA (o := 0) (off := 0) (vs := (bookL b A n cp)) hs80 (Ev.t 4 rfl) rfl rfl Tryd.isAgg27 Tryd.sizeOf27 (hs80.cells 2 rfl) rfl fun _ _ hs81 => ?_); clear hs80
         refine sq rfl (st_call (vs := [.agg ⟨(bookL b A n cp)⟩]) hs81 (.func _) ⟨(Ev.t 0 rfl), trivial⟩ rfl rfl Tryd.call23 rfl (plansL hpl0 (Plan_b b A n cp _ (hP.kp hs81.kp) hn (hG.kp hs81.kp (by simp)))) fun v54 bs55 a_82 w_82 hp82 hs82 => ?_); clear hs81
         obtain ⟨Ap53, np53, cq53, rfl, rfl⟩ := hp82
         have hs83 := Sx.as (T' := [_, _, _, _, _, _, _]) (B' := [_, _, _]) rfl rfl hs82; clear hs82
         refine sq rfl (st_move hs83 (Ev.t 0 rfl) rfl rfl fun _ _ hs84 => ?_); clear hs83
         refine sq rfl (st_extract hs84 (Ev.t 0 rfl) rfl rfl rfl fun _ _ hs85 => ?_); clear hs84
         refine sq rfl (st_extract hs85 (Ev.t 1 rfl) rfl rfl rfl fun _ _ hs86 => ?_); clear hs85
         refine sq rfl (st_assign hs86 (Ev.t 1 rfl) rfl rfl fun _ _ hs87 => ?_); clear hs86
         refine sq rfl (st_assign hs87 (Ev.t 1 rfl) rfl rfl fun _ _ hs88 => ?_); clear hs87
         refine hK52 _ _ ?_; clear hK52
         have hs89 := Sx.keepT [0, 7, 8, 9, 10, 11] [_, _, _, _, _, _] ⟨rfl, rfl, rfl, rfl, rfl, rfl, trivial⟩ hs88; clear hs88
         refine cd_region fun K56 hK56 => ?_
         refine sq rfl (st_move hs89 (Ev.t 2 rfl) rfl rfl fun _ _ hs90 => ?_); clear hs89
         refine sq rfl (st_cmp (c := true) hs90 (Ev.t 0 rfl) (.const _) rfl rfl rfl rfl fun _ _ hs91 => ?_); clear hs90
         refine sq rfl (st_move hs91 (Ev.t 0 rfl) rfl rfl fun _ _ hs92 => ?_); clear hs91
         refine sq_on hs92 rfl rfl 0 rfl rfl (st_move hs92 (Ev.t 6 rfl) rfl rfl fun _ _ hs93 => ?_); clear hs92
         refine sq_on hs93 rfl rfl 1 rfl rfl (st_cmp (c := (z : Int) == 0) hs93 (Ev.t 0 rfl) (.const _) rfl rfl rfl rfl fun _ _ hs94 => ?_); clear hs93
         refine sq_on hs94 rfl rfl 2 rfl rfl (st_move hs94 (Ev.t 0 rfl) rfl rfl fun _ _ hs95 => ?_); clear hs94
         refine sq_gv hs95 (gg := !((z : Int) == 0)) (v := .int .i64 e9) rfl rfl 0 rfl (ison_f _) rfl rfl rfl (fun hg57 K58 hK58 => st_move hs95 (Ev.t 7 rfl) rfl rfl hK58) fun _ _ hs96 => ?_; clear hs95
         refine sq_gv hs96 (gg := !((z : Int) == 0)) (v := .bool ((e9 : Int) == 4)) rfl rfl 1 rfl (ison_f _) rfl rfl rfl (fun hg59 K60 hK60 => st_cmp (c := (e9 : Int) == 4) hs96 ((Ev.t 0 rfl).un hg59) (.const _) rfl rfl rfl rfl hK60) fun _ _ hs97 => ?_; clear hs96
         refine sq_on hs97 rfl rfl 5 rfl rfl (st_or hs97 (gx := true) (gy := !((z : Int) == 0)) (Ev.t 2 rfl) rfl (Ev.t 0 rfl) (fun h => (by first | exact absurd h (by decide) | (rw [h]; rfl))) rfl rfl fun _ _ hs98 => ?_); clear hs97
         refine sq rfl (st_pick hs98 (Ev.t 6 rfl) rfl rfl (fun h => (Ev.t 0 rfl)) (fun h => by cases h) fun _ _ hs99 => ?_); clear hs98
         refine sq rfl (st_move hs99 (Ev.t 0 rfl) rfl rfl fun _ _ hs100 => ?_); clear hs99
         refine sq_gv hs100 (gg := ((z : Int) == 0) || ((e9 : Int) == 4)) (v := .int .i64 0) rfl rfl 0 rfl (ison_t _) rfl rfl rfl (fun hg61 K62 hK62 => st_move hs100 (Ev.t 11 rfl) rfl rfl hK62) fun _ _ hs101 => ?_; clear hs100
         refine sq_gv hs101 (gg := ((z : Int) == 0) || ((e9 : Int) == 4)) (v := .bool true) rfl rfl 1 rfl (ison_t _) rfl rfl rfl (fun hg63 K64 hK64 => st_cmp (c := true) hs101 ((Ev.t 0 rfl).un hg63) (.const _) rfl rfl rfl rfl hK64) fun _ _ hs102 => ?_; clear hs101
         refine sq_gv hs102 (gg := ((z : Int) == 0) || ((e9 : Int) == 4)) (v := .pointer (some ⟨b26, 0, none⟩)) rfl rfl 2 rfl (ison_t _) rfl rfl rfl (fun hg65 K66 hK66 => st_field (o' := 0) hs102 (Ev.t 18 rfl) rfl rfl Tryd.runUnderlying27 rfl Tryd.sizeOf23 rfl rfl hK66) fun _ _ hs103 => ?_; clear hs102
         refine sq_gv hs103 (gg := ((z : Int) == 0) || ((e9 : Int) == 4)) (v := .pointer (some ⟨b26, 0, none⟩)) rfl rfl 3 rfl (ison_t _) rfl rfl rfl (fun hg67 K68 hK68 => st_field (o' := 0) hs103 ((Ev.t 0 rfl).un hg67) rfl rfl Tryd.runUnderlying23 rfl Tryd.sizeOf3 rfl rfl hK68) fun _ _ hs104 => ?_; clear hs103
         refine sq_gv hs104 (gg := ((z : Int) == 0) || ((e9 : Int) == 4)) (v := .int .i64 b.coal.lo) rfl rfl 4 rfl (ison_t _) rfl rfl rfl (fun hg69 K70 hK70 => st_load1 (o := 0) (off := 0) (v := .int .i64 b.coal.lo) hs104 ((Ev.t 0 rfl).un hg69) rfl rfl Tryd.isAgg3 (hs104.cells 2 rfl) rfl hK70) fun _ _ hs105 => ?_; clear hs104
         refine sq_gv hs105 (gg := ((z : Int) == 0) || ((e9 : Int) == 4)) (v := .int .i64 z) rfl rfl 5 rfl (ison_t _) rfl rfl rfl (fun hg71 K72 hK72 => st_move hs105 (Ev.t 19 rfl) rfl rfl hK72) fun _ _ hs106 => ?_; clear hs105
         refine sq_gv hs106 (gg := ((z : Int) == 0) || ((e9 : Int) == 4)) (v := .bool (decide ((b.coal.lo : Int) ≥ z))) rfl rfl 6 rfl (ison_t _) rfl rfl rfl (fun hg73 K74 hK74 => st_cmp (c := decide ((b.coal.lo : Int) ≥ z)) hs106 ((Ev.t 1 rfl).un hg73) ((Ev.t 0 rfl).un hg73) rfl rfl rfl rfl hK74) fun _ _ hs107 => ?_; clear hs106
         refine sq_gv hs107 (gg := ((z : Int) == 0) || ((e9 : Int) == 4)) (v := .bool (true == (decide ((b.coal.lo : Int) ≥ z)))) rfl rfl 7 rfl (ison_t _) rfl rfl rfl (fun hg75 K76 hK76 => st_bin hs107 ((Ev.t 5 rfl).un hg75) ((Ev.t 0 rfl).un hg75) (run_eqb 4 Tryd.underlying4 _ _ true (decide ((b.coal.lo : Int) ≥ z))) rfl rfl hK76) fun _ _ hs108 => ?_; clear hs107
         refine sq rfl (st_and hs108 (gx := true) (gy := ((z : Int) == 0) || ((e9 : Int) == 4)) (Ev.t 8 rfl) rfl (Ev.t 0 rfl) (fun h => h) rfl rfl fun _ _ hs109 => ?_); clear hs108
         refine sq rfl (st_move hs109 (Ev.t 0 rfl) rfl rfl fun _ _ hs110 => ?_); clear hs109
         refine sq_gv hs110 (gg := (((z : Int) == 0) || ((e9 : Int) == 4)) && (true == (decide ((b.coal.lo : Int) ≥ z)))) (v := .bool true) rfl rfl 0 rfl (ison_t _) rfl rfl rfl (fun hg77 K78 hK78 => st_callv (vs := []) hs110 (.func _) trivial rfl rfl Tryd.call20 rfl (fired_v _ (hG.kp hs110.kp (by simp))) hK78) fun _ _ hs111 => ?_; clear hs110
         refine sq rfl (st_and hs111 (gx := true) (gy := (((z : Int) == 0) || ((e9 : Int) == 4)) && (true == (decide ((b.coal.lo : Int) ≥ z)))) (Ev.t 1 rfl) rfl (Ev.t 0 rfl) (fun h => h) rfl rfl fun _ _ hs112 => ?_); clear hs111
         have hs113 := Sx.keepT [0, 1, 2, 3, 4, 5, 6, 7, 8, 9, 10, 11, 12, 13, 14, 15, 16, 17, 18, 19, 20, 21, 22, 23, 24, 25, 26, 28] [_, _, _, _, _, _, _, _, _, _, _, _, _, _, _, _, _, _, _, _, _, _, _, _, _, _, _, _] ⟨rfl, rfl, rfl, rfl, rfl, rfl, rfl, rfl, rfl, rfl, rfl, rfl, rfl, rfl, rfl, rfl, rfl, rfl, rfl, rfl, rfl, rfl, rfl, rfl, rfl, rfl, rfl, rfl, trivial⟩ hs112; clear hs112
         refine sq rfl (st_assign hs113 (Ev.t 0 rfl) rfl rfl fun _ _ hs114 => ?_); clear hs113
         refine hK56 _ _ ?_; clear hK56
         have hs115 := Sx.keepT [0] [_] ⟨rfl, trivial⟩ hs114; clear hs114
         refine cd_retv (vs := [.bool (((((z : Int) == 0) || ((e9 : Int) == 4)) && (true == (decide ((b.coal.lo : Int) ≥ z)))) && true)]) hs115 hQ0 rfl ⟨.tmp 0 rfl, trivial⟩ ?_
         clear hs115 hQ0 hN0
         first | rfl | (simp [pack]; done) | (simp [pack, hlo]; done) | (simp [pack, hz0]; done) | (simp [pack, hz0, hlo]; done) | (simp [pack, hz0]; omega) | (simp [pack]; omega)
       · skip
         have hpl0 : b.planR.2 = 4 := by rw [planR_ok hok, hpb, hat.no _ (by omega) (by omega)]; rfl
         refine cd_region fun K79 hK79 => ?_
         refine sq rfl (st_loadA (o := 0) (off := 0) (vs := (bookL b A n cp)) hs80 (Ev.t 4 rfl) rfl rfl Tryd.isAgg27 Tryd.sizeOf27 (hs80.cells 2 rfl) rfl fun _ _ hs81 => ?_); clear hs80
         refine sq rfl (st_call (vs := [.agg ⟨(bookL b A n cp)⟩]) hs81 (.func _) ⟨(Ev.t 0 rfl), trivial⟩ rfl rfl Tryd.call23 rfl (plansL hpl0 (Plan_b b A n cp _ (hP.kp hs81.kp) hn (hG.kp hs81.kp (by simp)))) fun v81 bs82 a_82 w_82 hp82 hs82 => ?_); clear hs81
         obtain ⟨Ap80, np80, cq80, rfl, rfl⟩ := hp82
         have hs83 := Sx.as (T' := [_, _, _, _, _, _, _]) (B' := [_, _, _]) rfl rfl hs82; clear hs82
         refine sq rfl (st_move hs83 (Ev.t 0 rfl) rfl rfl fun _ _ hs84 => ?_); clear hs83
         refine sq rfl (st_extract hs84 (Ev.t 0 rfl) rfl rfl rfl fun _ _ hs85 => ?_); clear hs84
         refine sq rfl (st_extract hs85 (Ev.t 1 rfl) rfl rfl rfl fun _ _ hs86 => ?_); clear hs85
         refine sq rfl (st_assign hs86 (Ev.t 1 rfl) rfl rfl fun _ _ hs87 => ?_); clear hs86
         refine sq rfl (st_assign hs87 (Ev.t 1 rfl) rfl rfl fun _ _ hs88 => ?_); clear hs87
         refine hK79 _ _ ?_; clear hK79
         have hs89 := Sx.keepT [0, 7, 8, 9, 10, 11] [_, _, _, _, _, _] ⟨rfl, rfl, rfl, rfl, rfl, rfl, trivial⟩ hs88; clear hs88
         refine cd_region fun K83 hK83 => ?_
         refine sq rfl (st_move hs89 (Ev.t 2 rfl) rfl rfl fun _ _ hs90 => ?_); clear hs89
         refine sq rfl (st_cmp (c := true) hs90 (Ev.t 0 rfl) (.const _) rfl rfl rfl rfl fun _ _ hs91 => ?_); clear hs90
         refine sq rfl (st_move hs91 (Ev.t 0 rfl) rfl rfl fun _ _ hs92 => ?_); clear hs91
         refine sq_on hs92 rfl rfl 0 rfl rfl (st_move hs92 (Ev.t 6 rfl) rfl rfl fun _ _ hs93 => ?_); clear hs92
         refine sq_on hs93 rfl rfl 1 rfl rfl (st_cmp (c := (z : Int) == 0) hs93 (Ev.t 0 rfl) (.const _) rfl rfl rfl rfl fun _ _ hs94 => ?_); clear hs93
         refine sq_on hs94 rfl rfl 2 rfl rfl (st_move hs94 (Ev.t 0 rfl) rfl rfl fun _ _ hs95 => ?_); clear hs94
         refine sq_gv hs95 (gg := !((z : Int) == 0)) (v := .int .i64 e9) rfl rfl 0 rfl (ison_f _) rfl rfl rfl (fun hg84 K85 hK85 => st_move hs95 (Ev.t 7 rfl) rfl rfl hK85) fun _ _ hs96 => ?_; clear hs95
         refine sq_gv hs96 (gg := !((z : Int) == 0)) (v := .bool ((e9 : Int) == 4)) rfl rfl 1 rfl (ison_f _) rfl rfl rfl (fun hg86 K87 hK87 => st_cmp (c := (e9 : Int) == 4) hs96 ((Ev.t 0 rfl).un hg86) (.const _) rfl rfl rfl rfl hK87) fun _ _ hs97 => ?_; clear hs96
         refine sq_on hs97 rfl rfl 5 rfl rfl (st_or hs97 (gx := true) (gy := !((z : Int) == 0)) (Ev.t 2 rfl) rfl (Ev.t 0 rfl) (fun h => (by first | exact absurd h (by decide) | (rw [h]; rfl))) rfl rfl fun _ _ hs98 => ?_); clear hs97
         refine sq rfl (st_pick hs98 (Ev.t 6 rfl) rfl rfl (fun h => (Ev.t 0 rfl)) (fun h => by cases h) fun _ _ hs99 => ?_); clear hs98
         refine sq rfl (st_move hs99 (Ev.t 0 rfl) rfl rfl fun _ _ hs100 => ?_); clear hs99
         refine sq_gv hs100 (gg := ((z : Int) == 0) || ((e9 : Int) == 4)) (v := .int .i64 4) rfl rfl 0 rfl (ison_t _) rfl rfl rfl (fun hg88 K89 hK89 => st_move hs100 (Ev.t 11 rfl) rfl rfl hK89) fun _ _ hs101 => ?_; clear hs100
         refine sq_gv hs101 (gg := ((z : Int) == 0) || ((e9 : Int) == 4)) (v := .bool false) rfl rfl 1 rfl (ison_t _) rfl rfl rfl (fun hg90 K91 hK91 => st_cmp (c := false) hs101 ((Ev.t 0 rfl).un hg90) (.const _) rfl rfl rfl rfl hK91) fun _ _ hs102 => ?_; clear hs101
         refine sq_gv hs102 (gg := ((z : Int) == 0) || ((e9 : Int) == 4)) (v := .pointer (some ⟨b26, 0, none⟩)) rfl rfl 2 rfl (ison_t _) rfl rfl rfl (fun hg92 K93 hK93 => st_field (o' := 0) hs102 (Ev.t 18 rfl) rfl rfl Tryd.runUnderlying27 rfl Tryd.sizeOf23 rfl rfl hK93) fun _ _ hs103 => ?_; clear hs102
         refine sq_gv hs103 (gg := ((z : Int) == 0) || ((e9 : Int) == 4)) (v := .pointer (some ⟨b26, 0, none⟩)) rfl rfl 3 rfl (ison_t _) rfl rfl rfl (fun hg94 K95 hK95 => st_field (o' := 0) hs103 ((Ev.t 0 rfl).un hg94) rfl rfl Tryd.runUnderlying23 rfl Tryd.sizeOf3 rfl rfl hK95) fun _ _ hs104 => ?_; clear hs103
         refine sq_gv hs104 (gg := ((z : Int) == 0) || ((e9 : Int) == 4)) (v := .int .i64 b.coal.lo) rfl rfl 4 rfl (ison_t _) rfl rfl rfl (fun hg96 K97 hK97 => st_load1 (o := 0) (off := 0) (v := .int .i64 b.coal.lo) hs104 ((Ev.t 0 rfl).un hg96) rfl rfl Tryd.isAgg3 (hs104.cells 2 rfl) rfl hK97) fun _ _ hs105 => ?_; clear hs104
         refine sq_gv hs105 (gg := ((z : Int) == 0) || ((e9 : Int) == 4)) (v := .int .i64 z) rfl rfl 5 rfl (ison_t _) rfl rfl rfl (fun hg98 K99 hK99 => st_move hs105 (Ev.t 19 rfl) rfl rfl hK99) fun _ _ hs106 => ?_; clear hs105
         refine sq_gv hs106 (gg := ((z : Int) == 0) || ((e9 : Int) == 4)) (v := .bool (decide ((b.coal.lo : Int) ≥ z))) rfl rfl 6 rfl (ison_t _) rfl rfl rfl (fun hg100 K101 hK101 => st_cmp (c := decide ((b.coal.lo : Int) ≥ z)) hs106 ((Ev.t 1 rfl).un hg100) ((Ev.t 0 rfl).un hg100) rfl rfl rfl rfl hK101) fun _ _ hs107 => ?_; clear hs106
         refine sq_gv hs107 (gg := ((z : Int) == 0) || ((e9 : Int) == 4)) (v := .bool (false == (decide ((b.coal.lo : Int) ≥ z)))) rfl rfl 7 rfl (ison_t _) rfl rfl rfl (fun hg102 K103 hK103 => st_bin hs107 ((Ev.t 5 rfl).un hg102) ((Ev.t 0 rfl).un hg102) (run_eqb 4 Tryd.underlying4 _ _ false (decide ((b.coal.lo : Int) ≥ z))) rfl rfl hK103) fun _ _ hs108 => ?_; clear hs107
         refine sq rfl (st_and hs108 (gx := true) (gy := ((z : Int) == 0) || ((e9 : Int) == 4)) (Ev.t 8 rfl) rfl (Ev.t 0 rfl) (fun h => h) rfl rfl fun _ _ hs109 => ?_); clear hs108
         refine sq rfl (st_move hs109 (Ev.t 0 rfl) rfl rfl fun _ _ hs110 => ?_); clear hs109
         refine sq_gv hs110 (gg := (((z : Int) == 0) || ((e9 : Int) == 4)) && (false == (decide ((b.coal.lo : Int) ≥ z)))) (v := .bool true) rfl rfl 0 rfl (ison_t _) rfl rfl rfl (fun hg104 K105 hK105 => st_callv (vs := []) hs110 (.func _) trivial rfl rfl Tryd.call20 rfl (fired_v _ (hG.kp hs110.kp (by simp))) hK105) fun _ _ hs111 => ?_; clear hs110
         refine sq rfl (st_and hs111 (gx := true) (gy := (((z : Int) == 0) || ((e9 : Int) == 4)) && (false == (decide ((b.coal.lo : Int) ≥ z)))) (Ev.t 1 rfl) rfl (Ev.t 0 rfl) (fun h => h) rfl rfl fun _ _ hs112 => ?_); clear hs111
         have hs113 := Sx.keepT [0, 1, 2, 3, 4, 5, 6, 7, 8, 9, 10, 11, 12, 13, 14, 15, 16, 17, 18, 19, 20, 21, 22, 23, 24, 25, 26, 28] [_, _, _, _, _, _, _, _, _, _, _, _, _, _, _, _, _, _, _, _, _, _, _, _, _, _, _, _] ⟨rfl, rfl, rfl, rfl, rfl, rfl, rfl, rfl, rfl, rfl, rfl, rfl, rfl, rfl, rfl, rfl, rfl, rfl, rfl, rfl, rfl, rfl, rfl, rfl, rfl, rfl, rfl, rfl, trivial⟩ hs112; clear hs112
         refine sq rfl (st_assign hs113 (Ev.t 0 rfl) rfl rfl fun _ _ hs114 => ?_); clear hs113
         refine hK83 _ _ ?_; clear hK83
         have hs115 := Sx.keepT [0] [_] ⟨rfl, trivial⟩ hs114; clear hs114
         refine cd_retv (vs := [.bool (((((z : Int) == 0) || ((e9 : Int) == 4)) && (false == (decide ((b.coal.lo : Int) ≥ z)))) && true)]) hs115 hQ0 rfl ⟨.tmp 0 rfl, trivial⟩ ?_
         clear hs115 hQ0 hN0
         first | rfl | (simp [pack]; done) | (simp [pack, hlo]; done) | (simp [pack, hz0]; done) | (simp [pack, hz0, hlo]; done) | (simp [pack, hz0]; omega) | (simp [pack]; omega)
     · skip
       have hok2 := ok_coal hok (s := ⟨z - 1, z - 1⟩) (by simp only; omega)
       have he9 : (Book.planR { b with coal := ⟨z - 1, z - 1⟩ }).2 = 4 := by rw [planR_ok hok2, withCoal_can hb (by simp only; omega), hat.no _ (by simp only; omega) (by simp only; omega)]; rfl
       refine cd_region fun K106 hK106 => ?_
       refine sq rfl (st_move hs62 (Ev.t 2 rfl) rfl rfl fun _ _ hs63 => ?_); clear hs62
       refine sq rfl (st_sub (z := z - 1) hs63 (Ev.t 0 rfl) (.const _) rfl rfl rfl (by omega) fun _ _ hs64 => ?_); clear hs63
       refine sq rfl (st_move hs64 (Ev.t 4 rfl) rfl rfl fun _ _ hs65 => ?_); clear hs64
       refine sq rfl (st_sub (z := z - 1) hs65 (Ev.t 0 rfl) (.const _) rfl rfl rfl (by omega) fun _ _ hs66 => ?_); clear hs65
       refine sq rfl (st_callv (vs := [.int .i64 (z - 1), .int .i64 (z - 1)]) hs66 (.func _) ⟨(Ev.t 2 rfl), (Ev.t 0 rfl), trivial⟩ rfl rfl Tryd.call40 rfl (S_v (z - 1) (z - 1) _) fun _ _ hs67 => ?_); clear hs66
       refine sq rfl (st_field (o' := 0) hs67 (Ev.t 5 rfl) rfl rfl Tryd.runUnderlying27 rfl Tryd.sizeOf23 rfl rfl fun _ _ hs68 => ?_); clear hs67
       refine sq rfl (st_store (l' := [.int .i64 (z - 1), .int .i64 (z - 1), .int .i64 b.water.lo, .int .i64 b.water.hi, .int .i64 b.bunker, .int .i64 b.tank, .int .i64 b.scoop, .int .i64 b.pail, .int .i64 b.burn0.lo, .int .i64 b.burn0.hi, .int .i64 b.burn1.lo, .int .i64 b.burn1.hi, .int .i64 b.drink0.lo, .int .i64 b.drink0.hi, .int .i64 b.drink1.lo, .int .i64 b.drink1.hi, .int .i64 b.full.lo, .int .i64 b.full.hi, .int .i64 b.weak.lo, .int .i64 b.weak.hi, .int .i64 b.mark, .int .i64 b.lamp, .slice A n cp]) (vs := [.int .i64 (z - 1), .int .i64 (z - 1)]) (i := 0) hs68 (Ev.t 0 rfl) (Ev.t 1 rfl) Tryd.sizeOf23 rfl rfl rfl rfl rfl rfl fun _ _ hs69 => ?_); clear hs68
       have hs70 := Sx.as (T' := [_, _, _, _, _, _, _, _, _, _, _]) (B' := [_, _, _]) rfl rfl hs69; clear hs69
       refine hK106 _ _ ?_; clear hK106
       have hs71 := Sx.keepT [6, 7, 8, 9, 10] [_, _, _, _, _] ⟨rfl, rfl, rfl, rfl, rfl, trivial⟩ hs70; clear hs70
       refine cd_region fun K107 hK107 => ?_
       refine sq rfl (st_loadA (o := 0) (off := 0) (vs := [.int .i64 (z - 1), .int .i64 (z - 1), .int .i64 b.water.lo, .int .i64 b.water.hi, .int .i64 b.bunker, .int .i64 b.tank, .int .i64 b.scoop, .int .i64 b.pail, .int .i64 b.burn0.lo, .int .i64 b.burn0.hi, .int .i64 b.burn1.lo, .int .i64 b.burn1.hi, .int .i64 b.drink0.lo, .int .i64 b.drink0.hi, .int .i64 b.drink1.lo, .int .i64 b.drink1.hi, .int .i64 b.full.lo, .int .i64 b.full.hi, .int .i64 b.weak.lo, .int .i64 b.weak.hi, .int .i64 b.mark, .int .i64 b.lamp, .slice A n cp]) hs71 (Ev.t 0 rfl) rfl rfl Tryd.isAgg27 Tryd.sizeOf27 (hs71.cells 0 rfl) rfl fun _ _ hs72 => ?_); clear hs71
       refine sq rfl (st_call (vs := [.agg ⟨[.int .i64 (z - 1), .int .i64 (z - 1), .int .i64 b.water.lo, .int .i64 b.water.hi, .int .i64 b.bunker, .int .i64 b.tank, .int .i64 b.scoop, .int .i64 b.pail, .int .i64 b.burn0.lo, .int .i64 b.burn0.hi, .int .i64 b.burn1.lo, .int .i64 b.burn1.hi, .int .i64 b.drink0.lo, .int .i64 b.drink0.hi, .int .i64 b.drink1.lo, .int .i64 b.drink1.hi, .int .i64 b.full.lo, .int .i64 b.full.hi, .int .i64 b.weak.lo, .int .i64 b.weak.hi, .int .i64 b.mark, .int .i64 b.lamp, .slice A n cp]⟩]) hs72 (.func _) ⟨(Ev.t 0 rfl), trivial⟩ rfl rfl Tryd.call23 rfl (plansL he9 (Plan_b ({ b with coal := ⟨z - 1, z - 1⟩ }) A n cp _ (show PartsAt _ A n b.parts from hP.kp hs72.kp) hn (hG.kp hs72.kp (by simp)))) fun v109 bs110 a_73 w_73 hp73 hs73 => ?_); clear hs72
       obtain ⟨Ap108, np108, cq108, rfl, rfl⟩ := hp73
       have hs74 := Sx.as (T' := [_, _, _, _, _, _, _]) (B' := [_, _, _]) rfl rfl hs73; clear hs73
       refine sq rfl (st_move hs74 (Ev.t 0 rfl) rfl rfl fun _ _ hs75 => ?_); clear hs74
       refine sq rfl (st_extract hs75 (Ev.t 0 rfl) rfl rfl rfl fun _ _ hs76 => ?_); clear hs75
       refine sq rfl (st_extract hs76 (Ev.t 1 rfl) rfl rfl rfl fun _ _ hs77 => ?_); clear hs76
       refine sq rfl (st_assign hs77 (Ev.t 1 rfl) rfl rfl fun _ _ hs78 => ?_); clear hs77
       refine sq rfl (st_assign hs78 (Ev.t 1 rfl) rfl rfl fun _ _ hs79 => ?_); clear hs78
       refine hK107 _ _ ?_; clear hK107
       have hs80 := Sx.keepT [0, 8, 9, 10, 11] [_, _, _, _, _] ⟨rfl, rfl, rfl, rfl, rfl, trivial⟩ hs79; clear hs79
       by_cases hlo : z ≤ b.coal.lo
       · skip
         have hpl0 : b.planR.2 = 0 := by rw [planR_ok hok, hpb, hat.yes _ hlo (by omega)]; rfl
         refine cd_region fun K111 hK111 => ?_
         refine sq rfl (st_loadA (o := 0) (off := 0) (vs := (bookL b A n cp)) hs80 (Ev.t 4 rfl) rfl rfl Tryd.isAgg27 Tryd.sizeOf27 (hs80.cells 2 rfl) rfl fun _ _ hs81 => ?_); clear hs80
         refine sq rfl (st_call (vs := [.agg ⟨(bookL b A n cp)⟩]) hs81 (.func _) ⟨(Ev.t 0 rfl), trivial⟩ rfl rfl Tryd.call23 rfl (plansL hpl0 (Plan_b b A n cp _ (hP.kp hs81.kp) hn (hG.kp hs81.kp (by simp)))) fun v113 bs114 a_82 w_82 hp82 hs82 => ?_); clear hs81
         obtain ⟨Ap112, np112, cq112, rfl, rfl⟩ := hp82
         have hs83 := Sx.as (T' := [_, _, _, _, _, _, _]) (B' := [_, _, _]) rfl rfl hs82; clear hs82
         refine sq rfl (st_move hs83 (Ev.t 0 rfl) rfl rfl fun _ _ hs84 => ?_); clear hs83
         refine sq rfl (st_extract hs84 (Ev.t 0 rfl) rfl rfl rfl fun _ _ hs85 => ?_); clear hs84
         refine sq rfl (st_extract hs85 (Ev.t 1 rfl) rfl rfl rfl fun _ _ hs86 => ?_); clear hs85
         refine sq rfl (st_assign hs86 (Ev.t 1 rfl) rfl rfl fun _ _ hs87 => ?_); clear hs86
         refine sq rfl (st_assign hs87 (Ev.t 1 rfl) rfl rfl fun _ _ hs88 => ?_); clear hs87
         refine hK111 _ _ ?_; clear hK111
         have hs89 := Sx.keepT [0, 7, 8, 9, 10, 11] [_, _, _, _, _, _] ⟨rfl, rfl, rfl, rfl, rfl, rfl, trivial⟩ hs88; clear hs88
         refine cd_region fun K115 hK115 => ?_
         refine sq rfl (st_move hs89 (Ev.t 2 rfl) rfl rfl fun _ _ hs90 => ?_); clear hs89
         refine sq rfl (st_cmp (c := true) hs90 (Ev.t 0 rfl) (.const _) rfl rfl rfl rfl fun _ _ hs91 => ?_); clear hs90
         refine sq rfl (st_move hs91 (Ev.t 0 rfl) rfl rfl fun _ _ hs92 => ?_); clear hs91
         refine sq_on hs92 rfl rfl 0 rfl rfl (st_move hs92 (Ev.t 6 rfl) rfl rfl fun _ _ hs93 => ?_); clear hs92
         refine sq_on hs93 rfl rfl 1 rfl rfl (st_cmp (c := (z : Int) == 0) hs93 (Ev.t 0 rfl) (.const _) rfl rfl rfl rfl fun _ _ hs94 => ?_); clear hs93
         refine sq_on hs94 rfl rfl 2 rfl rfl (st_move hs94 (Ev.t 0 rfl) rfl rfl fun _ _ hs95 => ?_); clear hs94
         refine sq_gv hs95 (gg := !((z : Int) == 0)) (v := .int .i64 4) rfl rfl 0 rfl (ison_f _) rfl rfl rfl (fun hg116 K117 hK117 => st_move hs95 (Ev.t 7 rfl) rfl rfl hK117) fun _ _ hs96 => ?_; clear hs95
         refine sq_gv hs96 (gg := !((z : Int) == 0)) (v := .bool true) rfl rfl 1 rfl (ison_f _) rfl rfl rfl (fun hg118 K119 hK119 => st_cmp (c := true) hs96 ((Ev.t 0 rfl).un hg118) (.const _) rfl rfl rfl rfl hK119) fun _ _ hs97 => ?_; clear hs96
         refine sq_on hs97 rfl rfl 5 rfl rfl (st_or hs97 (gx := true) (gy := !((z : Int) == 0)) (Ev.t 2 rfl) rfl (Ev.t 0 rfl) (fun h => (by first | exact absurd h (by decide) | (rw [h]; rfl))) rfl rfl fun _ _ hs98 => ?_); clear hs97
         refine sq rfl (st_pick hs98 (Ev.t 6 rfl) rfl rfl (fun h => (Ev.t 0 rfl)) (fun h => by cases h) fun _ _ hs99 => ?_); clear hs98
         refine sq rfl (st_move hs99 (Ev.t 0 rfl) rfl rfl fun _ _ hs100 => ?_); clear hs99
         refine sq_gv hs100 (gg := ((z : Int) == 0) || true) (v := .int .i64 0) rfl rfl 0 rfl (ison_t _) rfl rfl rfl (fun hg120 K121 hK121 => st_move hs100 (Ev.t 11 rfl) rfl rfl hK121) fun _ _ hs101 => ?_; clear hs100
         refine sq_gv hs101 (gg := ((z : Int) == 0) || true) (v := .bool true) rfl rfl 1 rfl (ison_t _) rfl rfl rfl (fun hg122 K123 hK123 => st_cmp (c := true) hs101 ((Ev.t 0 rfl).un hg122) (.const _) rfl rfl rfl rfl hK123) fun _ _ hs102 => ?_; clear hs101
         refine sq_gv hs102 (gg := ((z : Int) == 0) || true) (v := .pointer (some ⟨b26, 0, none⟩)) rfl rfl 2 rfl (ison_t _) rfl rfl rfl (fun hg124 K125 hK125 => st_field (o' := 0) hs102 (Ev.t 18 rfl) rfl rfl Tryd.runUnderlying27 rfl Tryd.sizeOf23 rfl rfl hK125) fun _ _ hs103 => ?_; clear hs102
         refine sq_gv hs103 (gg := ((z : Int) == 0) || true) (v := .pointer (some ⟨b26, 0, none⟩)) rfl rfl 3 rfl (ison_t _) rfl rfl rfl (fun hg126 K127 hK127 => st_field (o' := 0) hs103 ((Ev.t 0 rfl).un hg126) rfl rfl Tryd.runUnderlying23 rfl Tryd.sizeOf3 rfl rfl hK127) fun _ _ hs104 => ?_; clear hs103
         refine sq_gv hs104 (gg := ((z : Int) == 0) || true) (v := .int .i64 b.coal.lo) rfl rfl 4 rfl (ison_t _) rfl rfl rfl (fun hg128 K129 hK129 => st_load1 (o := 0) (off := 0) (v := .int .i64 b.coal.lo) hs104 ((Ev.t 0 rfl).un hg128) rfl rfl Tryd.isAgg3 (hs104.cells 2 rfl) rfl hK129) fun _ _ hs105 => ?_; clear hs104
         refine sq_gv hs105 (gg := ((z : Int) == 0) || true) (v := .int .i64 z) rfl rfl 5 rfl (ison_t _) rfl rfl rfl (fun hg130 K131 hK131 => st_move hs105 (Ev.t 19 rfl) rfl rfl hK131) fun _ _ hs106 => ?_; clear hs105
         refine sq_gv hs106 (gg := ((z : Int) == 0) || true) (v := .bool (decide ((b.coal.lo : Int) ≥ z))) rfl rfl 6 rfl (ison_t _) rfl rfl rfl (fun hg132 K133 hK133 => st_cmp (c := decide ((b.coal.lo : Int) ≥ z)) hs106 ((Ev.t 1 rfl).un hg132) ((Ev.t 0 rfl).un hg132) rfl rfl rfl rfl hK133) fun _ _ hs107 => ?_; clear hs106
         refine sq_gv hs107 (gg := ((z : Int) == 0) || true) (v := .bool (true == (decide ((b.coal.lo : Int) ≥ z)))) rfl rfl 7 rfl (ison_t _) rfl rfl rfl (fun hg134 K135 hK135 => st_bin hs107 ((Ev.t 5 rfl).un hg134) ((Ev.t 0 rfl).un hg134) (run_eqb 4 Tryd.underlying4 _ _ true (decide ((b.coal.lo : Int) ≥ z))) rfl rfl hK135) fun _ _ hs108 => ?_; clear hs107
         refine sq rfl (st_and hs108 (gx := true) (gy := ((z : Int) == 0) || true) (Ev.t 8 rfl) rfl (Ev.t 0 rfl) (fun h => h) rfl rfl fun _ _ hs109 => ?_); clear hs108
         refine sq rfl (st_move hs109 (Ev.t 0 rfl) rfl rfl fun _ _ hs110 => ?_); clear hs109
         refine sq_gv hs110 (gg := (((z : Int) == 0) || true) && (true == (decide ((b.coal.lo : Int) ≥ z)))) (v := .bool true) rfl rfl 0 rfl (ison_t _) rfl rfl rfl (fun hg136 K137 hK137 => st_callv (vs := []) hs110 (.func _) trivial rfl rfl Tryd.call20 rfl (fired_v _ (hG.kp hs110.kp (by simp))) hK137) fun _ _ hs111 => ?_; clear hs110
         refine sq rfl (st_and hs111 (gx := true) (gy := (((z : Int) == 0) || true) && (true == (decide ((b.coal.lo : Int) ≥ z)))) (Ev.t 1 rfl) rfl (Ev.t 0 rfl) (fun h => h) rfl rfl fun _ _ hs112 => ?_); clear hs111
         have hs113 := Sx.keepT [0, 1, 2, 3, 4, 5, 6, 7, 8, 9, 10, 11, 12, 13, 14, 15, 16, 17, 18, 19, 20, 21, 22, 23, 24, 25, 26, 28] [_, _, _, _, _, _, _, _, _, _, _, _, _, _, _, _, _, _, _, _, _, _, _, _, _, _, _, _] ⟨rfl, rfl, rfl, rfl, rfl, rfl, rfl, rfl, rfl, rfl, rfl, rfl, rfl, rfl, rfl, rfl, rfl, rfl, rfl, rfl, rfl, rfl, rfl, rfl, rfl, rfl, rfl, rfl, trivial⟩ hs112; clear hs112
         refine sq rfl (st_assign hs113 (Ev.t 0 rfl) rfl rfl fun _ _ hs114 => ?_); clear hs113
         refine hK115 _ _ ?_; clear hK115
         have hs115 := Sx.keepT [0] [_] ⟨rfl, trivial⟩ hs114; clear hs114
         refine cd_retv (vs := [.bool (((((z : Int) == 0) || true) && (true == (decide ((b.coal.lo : Int) ≥ z)))) && true)]) hs115 hQ0 rfl ⟨.tmp 0 rfl, trivial⟩ ?_
         clear hs115 hQ0 hN0
         first | rfl | (simp [pack]; done) | (simp [pack, hlo]; done) | (simp [pack, hz0]; done) | (simp [pack, hz0, hlo]; done) | (simp [pack, hz0]; omega) | (simp [pack]; omega)
       · skip
         have hpl0 : b.planR.2 = 4 := by rw [planR_ok hok, hpb, hat.no _ (by omega) (by omega)]; rfl
         refine cd_region fun K138 hK138 => ?_
         refine sq rfl (st_loadA (o := 0) (off := 0) (vs := (bookL b A n cp)) hs80 (Ev.t 4 rfl) rfl rfl Tryd.isAgg27 Tryd.sizeOf27 (hs80.cells 2 rfl) rfl fun _ _ hs81 => ?_); clear hs80
         refine sq rfl (st_call (vs := [.agg ⟨(bookL b A n cp)⟩]) hs81 (.func _) ⟨(Ev.t 0 rfl), trivial⟩ rfl rfl Tryd.call23 rfl (plansL hpl0 (Plan_b b A n cp _ (hP.kp hs81.kp) hn (hG.kp hs81.kp (by simp)))) fun v140 bs141 a_82 w_82 hp82 hs82 => ?_); clear hs81
         obtain ⟨Ap139, np139, cq139, rfl, rfl⟩ := hp82
         have hs83 := Sx.as (T' := [_, _, _, _, _, _, _]) (B' := [_, _, _]) rfl rfl hs82; clear hs82
         refine sq rfl (st_move hs83 (Ev.t 0 rfl) rfl rfl fun _ _ hs84 => ?_); clear hs83
         refine sq rfl (st_extract hs84 (Ev.t 0 rfl) rfl rfl rfl fun _ _ hs85 => ?_); clear hs84
         refine sq rfl (st_extract hs85 (Ev.t 1 rfl) rfl rfl rfl fun _ _ hs86 => ?_); clear hs85
         refine sq rfl (st_assign hs86 (Ev.t 1 rfl) rfl rfl fun _ _ hs87 => ?_); clear hs86
         refine sq rfl (st_assign hs87 (Ev.t 1 rfl) rfl rfl fun _ _ hs88 => ?_); clear hs87
         refine hK138 _ _ ?_; clear hK138
         have hs89 := Sx.keepT [0, 7, 8, 9, 10, 11] [_, _, _, _, _, _] ⟨rfl, rfl, rfl, rfl, rfl, rfl, trivial⟩ hs88; clear hs88
         refine cd_region fun K142 hK142 => ?_
         refine sq rfl (st_move hs89 (Ev.t 2 rfl) rfl rfl fun _ _ hs90 => ?_); clear hs89
         refine sq rfl (st_cmp (c := true) hs90 (Ev.t 0 rfl) (.const _) rfl rfl rfl rfl fun _ _ hs91 => ?_); clear hs90
         refine sq rfl (st_move hs91 (Ev.t 0 rfl) rfl rfl fun _ _ hs92 => ?_); clear hs91
         refine sq_on hs92 rfl rfl 0 rfl rfl (st_move hs92 (Ev.t 6 rfl) rfl rfl fun _ _ hs93 => ?_); clear hs92
         refine sq_on hs93 rfl rfl 1 rfl rfl (st_cmp (c := (z : Int) == 0) hs93 (Ev.t 0 rfl) (.const _) rfl rfl rfl rfl fun _ _ hs94 => ?_); clear hs93
         refine sq_on hs94 rfl rfl 2 rfl rfl (st_move hs94 (Ev.t 0 rfl) rfl rfl fun _ _ hs95 => ?_); clear hs94
         refine sq_gv hs95 (gg := !((z : Int) == 0)) (v := .int .i64 4) rfl rfl 0 rfl (ison_f _) rfl rfl rfl (fun hg143 K144 hK144 => st_move hs95 (Ev.t 7 rfl) rfl rfl hK144) fun _ _ hs96 => ?_; clear hs95
         refine sq_gv hs96 (gg := !((z : Int) == 0)) (v := .bool true) rfl rfl 1 rfl (ison_f _) rfl rfl rfl (fun hg145 K146 hK146 => st_cmp (c := true) hs96 ((Ev.t 0 rfl).un hg145) (.const _) rfl rfl rfl rfl hK146) fun _ _ hs97 => ?_; clear hs96
         refine sq_on hs97 rfl rfl 5 rfl rfl (st_or hs97 (gx := true) (gy := !((z : Int) == 0)) (Ev.t 2 rfl) rfl (Ev.t 0 rfl) (fun h => (by first | exact absurd h (by decide) | (rw [h]; rfl))) rfl rfl fun _ _ hs98 => ?_); clear hs97
         refine sq rfl (st_pick hs98 (Ev.t 6 rfl) rfl rfl (fun h => (Ev.t 0 rfl)) (fun h => by cases h) fun _ _ hs99 => ?_); clear hs98
         refine sq rfl (st_move hs99 (Ev.t 0 rfl) rfl rfl fun _ _ hs100 => ?_); clear hs99
         refine sq_gv hs100 (gg := ((z : Int) == 0) || true) (v := .int .i64 4) rfl rfl 0 rfl (ison_t _) rfl rfl rfl (fun hg147 K148 hK148 => st_move hs100 (Ev.t 11 rfl) rfl rfl hK148) fun _ _ hs101 => ?_; clear hs100
         refine sq_gv hs101 (gg := ((z : Int) == 0) || true) (v := .bool false) rfl rfl 1 rfl (ison_t _) rfl rfl rfl (fun hg149 K150 hK150 => st_cmp (c := false) hs101 ((Ev.t 0 rfl).un hg149) (.const _) rfl rfl rfl rfl hK150) fun _ _ hs102 => ?_; clear hs101
         refine sq_gv hs102 (gg := ((z : Int) == 0) || true) (v := .pointer (some ⟨b26, 0, none⟩)) rfl rfl 2 rfl (ison_t _) rfl rfl rfl (fun hg151 K152 hK152 => st_field (o' := 0) hs102 (Ev.t 18 rfl) rfl rfl Tryd.runUnderlying27 rfl Tryd.sizeOf23 rfl rfl hK152) fun _ _ hs103 => ?_; clear hs102
         refine sq_gv hs103 (gg := ((z : Int) == 0) || true) (v := .pointer (some ⟨b26, 0, none⟩)) rfl rfl 3 rfl (ison_t _) rfl rfl rfl (fun hg153 K154 hK154 => st_field (o' := 0) hs103 ((Ev.t 0 rfl).un hg153) rfl rfl Tryd.runUnderlying23 rfl Tryd.sizeOf3 rfl rfl hK154) fun _ _ hs104 => ?_; clear hs103
         refine sq_gv hs104 (gg := ((z : Int) == 0) || true) (v := .int .i64 b.coal.lo) rfl rfl 4 rfl (ison_t _) rfl rfl rfl (fun hg155 K156 hK156 => st_load1 (o := 0) (off := 0) (v := .int .i64 b.coal.lo) hs104 ((Ev.t 0 rfl).un hg155) rfl rfl Tryd.isAgg3 (hs104.cells 2 rfl) rfl hK156) fun _ _ hs105 => ?_; clear hs104
         refine sq_gv hs105 (gg := ((z : Int) == 0) || true) (v := .int .i64 z) rfl rfl 5 rfl (ison_t _) rfl rfl rfl (fun hg157 K158 hK158 => st_move hs105 (Ev.t 19 rfl) rfl rfl hK158) fun _ _ hs106 => ?_; clear hs105
         refine sq_gv hs106 (gg := ((z : Int) == 0) || true) (v := .bool (decide ((b.coal.lo : Int) ≥ z))) rfl rfl 6 rfl (ison_t _) rfl rfl rfl (fun hg159 K160 hK160 => st_cmp (c := decide ((b.coal.lo : Int) ≥ z)) hs106 ((Ev.t 1 rfl).un hg159) ((Ev.t 0 rfl).un hg159) rfl rfl rfl rfl hK160) fun _ _ hs107 => ?_; clear hs106
         refine sq_gv hs107 (gg := ((z : Int) == 0) || true) (v := .bool (false == (decide ((b.coal.lo : Int) ≥ z)))) rfl rfl 7 rfl (ison_t _) rfl rfl rfl (fun hg161 K162 hK162 => st_bin hs107 ((Ev.t 5 rfl).un hg161) ((Ev.t 0 rfl).un hg161) (run_eqb 4 Tryd.underlying4 _ _ false (decide ((b.coal.lo : Int) ≥ z))) rfl rfl hK162) fun _ _ hs108 => ?_; clear hs107
         refine sq rfl (st_and hs108 (gx := true) (gy := ((z : Int) == 0) || true) (Ev.t 8 rfl) rfl (Ev.t 0 rfl) (fun h => h) rfl rfl fun _ _ hs109 => ?_); clear hs108
         refine sq rfl (st_move hs109 (Ev.t 0 rfl) rfl rfl fun _ _ hs110 => ?_); clear hs109
         refine sq_gv hs110 (gg := (((z : Int) == 0) || true) && (false == (decide ((b.coal.lo : Int) ≥ z)))) (v := .bool true) rfl rfl 0 rfl (ison_t _) rfl rfl rfl (fun hg163 K164 hK164 => st_callv (vs := []) hs110 (.func _) trivial rfl rfl Tryd.call20 rfl (fired_v _ (hG.kp hs110.kp (by simp))) hK164) fun _ _ hs111 => ?_; clear hs110
         refine sq rfl (st_and hs111 (gx := true) (gy := (((z : Int) == 0) || true) && (false == (decide ((b.coal.lo : Int) ≥ z)))) (Ev.t 1 rfl) rfl (Ev.t 0 rfl) (fun h => h) rfl rfl fun _ _ hs112 => ?_); clear hs111
         have hs113 := Sx.keepT [0, 1, 2, 3, 4, 5, 6, 7, 8, 9, 10, 11, 12, 13, 14, 15, 16, 17, 18, 19, 20, 21, 22, 23, 24, 25, 26, 28] [_, _, _, _, _, _, _, _, _, _, _, _, _, _, _, _, _, _, _, _, _, _, _, _, _, _, _, _] ⟨rfl, rfl, rfl, rfl, rfl, rfl, rfl, rfl, rfl, rfl, rfl, rfl, rfl, rfl, rfl, rfl, rfl, rfl, rfl, rfl, rfl, rfl, rfl, rfl, rfl, rfl, rfl, rfl, trivial⟩ hs112; clear hs112
         refine sq rfl (st_assign hs113 (Ev.t 0 rfl) rfl rfl fun _ _ hs114 => ?_); clear hs113
         refine hK142 _ _ ?_; clear hK142
         have hs115 := Sx.keepT [0] [_] ⟨rfl, trivial⟩ hs114; clear hs114
         refine cd_retv (vs := [.bool (((((z : Int) == 0) || true) && (false == (decide ((b.coal.lo : Int) ≥ z)))) && true)]) hs115 hQ0 rfl ⟨.tmp 0 rfl, trivial⟩ ?_
         clear hs115 hQ0 hN0
         first | rfl | (simp [pack]; done) | (simp [pack, hlo]; done) | (simp [pack, hz0]; done) | (simp [pack, hz0, hlo]; done) | (simp [pack, hz0]; omega) | (simp [pack]; omega)
end Go.Proofs.YtdbcedmofoakmaaDoor
