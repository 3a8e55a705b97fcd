/- The law EngineParts: its walk. -/
import Derived.Test.YtdbcedmofoakmaaDoorFg
set_option maxRecDepth 100000
namespace Go.Proofs.YtdbcedmofoakmaaDoor
open Go Go.Sx Go.Eng
theorem plansL {f : FuncId} {args : List Value} {w : World} {R : Option (List Walks) × Int} {e : Int} (he : R.2 = e) (h : CallsB Tryd.prog f args w (plansV R)) : CallsB Tryd.prog f args w (fun v bs => ∃ A n c, v = .tuple ⟨[.slice A n c, .int .i64 e]⟩ ∧ bs = []) := by
  subst he; exact plansE h

theorem EngineParts_v (b : Book) (A : Option Addr) (n cp : Nat) (k : Int) (w : World) (hP : PartsAt w A n b.parts) (hn : n ≤ 140737488351232) (hG : CellsAt w 0 0 stuffsL) (hcp : n ≤ cp) :
    CallsV Tryd.prog 10 [.agg ⟨(bookL b A n cp)⟩, .int .i64 k] w (.bool true) := by
 refine enter (N := 90) (M := []) w Tryd.func10 rfl rfl rfl (fun Q0 a_0 hQ0 hN0 hs0 => ?_)
 rcases hok : b.ok with _ | _
 · skip
   have hR := partsR_no hok
   refine cd_region fun K1 hK1 => ?_
   refine sq rfl (st_box hs0 (Ev.t 0 rfl) rfl rfl rfl fun b2 _ _ hs1 => ?_); clear hs0
   refine sq rfl (st_assign hs1 (.const _) rfl rfl fun _ _ hs2 => ?_); clear hs1
   refine hK1 _ _ ?_; clear hK1
   have hs3 := Sx.keepT [0, 1, 3] [_, _, _] ⟨rfl, rfl, rfl, trivial⟩ hs2; clear hs2
   refine cd_region fun K3 hK3 => ?_
   refine sq rfl (st_loadA (o := 0) (off := 0) (vs := (bookL b A n cp)) hs3 (Ev.t 1 rfl) rfl rfl Tryd.isAgg27 Tryd.sizeOf27 (hs3.cells 0 rfl) rfl fun _ _ hs4 => ?_); clear hs3
   refine sq rfl (st_callv (vs := [.agg ⟨(bookL b A n cp)⟩]) hs4 (.func _) ⟨(Ev.t 0 rfl), trivial⟩ rfl rfl Tryd.call26 rfl (callsV_eq (v' := .tuple ⟨[.int .i64 0, .int .i64 40]⟩) (Parts_v b A n cp _ (hP.kp hs4.kp) hn (hG.kp hs4.kp (by simp)) hcp) (by rw [hR])) fun _ _ hs5 => ?_); clear hs4
   refine sq rfl (st_move hs5 (Ev.t 0 rfl) rfl rfl fun _ _ hs6 => ?_); clear hs5
   refine sq rfl (st_extract hs6 (Ev.t 0 rfl) rfl rfl rfl fun _ _ hs7 => ?_); clear hs6
   refine sq rfl (st_extract hs7 (Ev.t 1 rfl) rfl rfl rfl fun _ _ hs8 => ?_); clear hs7
   refine sq rfl (st_assign hs8 (Ev.t 1 rfl) rfl rfl fun _ _ hs9 => ?_); clear hs8
   refine sq rfl (st_assign hs9 (Ev.t 1 rfl) rfl rfl fun _ _ hs10 => ?_); clear hs9
   refine hK3 _ _ ?_; clear hK3
   have hs11 := Sx.keepT [0, 1, 7, 8, 9] [_, _, _, _, _] ⟨rfl, rfl, rfl, rfl, rfl, trivial⟩ hs10; clear hs10
   refine cd_seq fun K4 hK4 => ?_
   refine cd_region fun K5 hK5 => ?_
   refine sq rfl (st_loadA (o := 0) (off := 0) (vs := (bookL b A n cp)) hs11 (Ev.t 3 rfl) rfl rfl Tryd.isAgg27 Tryd.sizeOf27 (hs11.cells 0 rfl) rfl fun _ _ hs12 => ?_); clear hs11
   refine sq rfl (st_callv (vs := [.agg ⟨(bookL b A n cp)⟩]) hs12 (.func _) ⟨(Ev.t 0 rfl), trivial⟩ rfl rfl Tryd.call32 rfl (callsV_eq (v' := .bool false) (sound_v b A n cp _ (hP.kp hs12.kp) hn) (by rw [hok])) fun _ _ hs13 => ?_); clear hs12
   refine sq rfl (st_not hs13 (Ev.t 0 rfl) rfl rfl fun _ _ hs14 => ?_); clear hs13
   refine hK5 _ _ ?_; clear hK5
   have hs15 := Sx.keepT [0, 3, 4, 5, 6, 7] [_, _, _, _, _, _] ⟨rfl, rfl, rfl, rfl, rfl, rfl, trivial⟩ hs14; clear hs14
   have hc6 : true = true := rfl
   refine cd_cond hs15 (Ev.t 0 rfl) (fun _ => ?_) (fun h => absurd (hc6.symm.trans h) (by decide))
   refine cd_region fun K7 hK7 => ?_
   refine sq rfl (st_move hs15 (Ev.t 1 rfl) rfl rfl fun _ _ hs16 => ?_); clear hs15
   refine sq rfl (st_cmp (c := true) hs16 (Ev.t 0 rfl) (.const _) rfl rfl rfl rfl fun _ _ hs17 => ?_); clear hs16
   refine sq rfl (st_move hs17 (Ev.t 0 rfl) rfl rfl fun _ _ hs18 => ?_); clear hs17
   refine sq_on hs18 rfl rfl 0 rfl rfl (st_move hs18 (Ev.t 5 rfl) rfl rfl fun _ _ hs19 => ?_); clear hs18
   refine sq_on hs19 rfl rfl 1 rfl rfl (st_cmp (c := true) hs19 (Ev.t 0 rfl) (.const _) rfl rfl rfl rfl fun _ _ hs20 => ?_); clear hs19
   refine sq rfl (st_pick hs20 (Ev.t 2 rfl) rfl rfl (fun h => (Ev.t 0 rfl)) (fun h => by cases h) fun _ _ hs21 => ?_); clear hs20
   refine sq rfl (st_move hs21 (Ev.t 0 rfl) rfl rfl fun _ _ hs22 => ?_); clear hs21
   refine sq_on hs22 rfl rfl 0 rfl rfl (st_callv (vs := []) hs22 (.func _) trivial rfl rfl Tryd.call20 rfl (fired_v _ (hG.kp hs22.kp (by simp))) fun _ _ hs23 => ?_); clear hs22
   refine sq rfl (st_pick hs23 (Ev.t 1 rfl) rfl rfl (fun h => (Ev.t 0 rfl)) (fun h => by cases h) fun _ _ hs24 => ?_); clear hs23
   have hs25 := Sx.keepT [0, 1, 2, 3, 4, 5, 6, 7, 8, 9, 10, 11, 13, 14] [_, _, _, _, _, _, _, _, _, _, _, _, _, _] ⟨rfl, rfl, rfl, rfl, rfl, rfl, rfl, rfl, rfl, rfl, rfl, rfl, rfl, rfl, trivial⟩ hs24; clear hs24
   refine sq rfl (st_assign hs25 (Ev.t 0 rfl) rfl rfl fun _ _ hs26 => ?_); clear hs25
   refine hK7 _ _ ?_; clear hK7
   have hs27 := Sx.keepT [0] [_] ⟨rfl, trivial⟩ hs26; clear hs26
   refine cd_retv (vs := [.bool true]) hs27 (fun a_ w_ h => th_ret (hQ0 a_ w_ h)) rfl ⟨.tmp 0 rfl, trivial⟩ ?_
   clear hs27 hQ0 hN0 hK4
   first | rfl | (simp [pack]; done) | (simp [pack, hmin]; omega)
 · skip
   have hb := ok_bd hok
   have hl2 := hP.len
   have hl5 := ok_len hok
   obtain ⟨q, hq⟩ : ∃ q, b.most b.parts.length = q := ⟨_, rfl⟩
   have hR : b.partsR = ((q : Int), 0) := by rw [partsR_ok hok, hq]
   have hqn := most_le b b.parts.length
   rw [hq] at hqn
   have hw1 : within (q : Int) 0 (n : Int) = true := Eng.within_iff.2 (by omega)
   have htb := turn_bd (n := k) (m := (n : Int)) (by omega)
   obtain ⟨mm, hmm⟩ : ∃ mm : Nat, (mm : Int) = 1 + turn k (n : Int) := ⟨(1 + turn k (n : Int)).toNat, Int.toNat_of_nonneg (by omega)⟩
   have hRm : (b.head mm).partsR = (((min q mm : Nat) : Int), 0) := by rw [head_partsR hok (by omega) (by omega), hq]
   have hokm := head_ok hok (k := mm) (by omega)
   have hcan := most_iff hb (j := mm) (n := b.parts.length) (by omega) (by omega)
   rw [hq] at hcan
   refine cd_region fun K8 hK8 => ?_
   refine sq rfl (st_box hs0 (Ev.t 0 rfl) rfl rfl rfl fun b9 _ _ hs1 => ?_); clear hs0
   refine sq rfl (st_assign hs1 (.const _) rfl rfl fun _ _ hs2 => ?_); clear hs1
   refine hK8 _ _ ?_; clear hK8
   have hs3 := Sx.keepT [0, 1, 3] [_, _, _] ⟨rfl, rfl, rfl, trivial⟩ hs2; clear hs2
   refine cd_region fun K10 hK10 => ?_
   refine sq rfl (st_loadA (o := 0) (off := 0) (vs := (bookL b A n cp)) hs3 (Ev.t 1 rfl) rfl rfl Tryd.isAgg27 Tryd.sizeOf27 (hs3.cells 0 rfl) rfl fun _ _ hs4 => ?_); clear hs3
   refine sq rfl (st_callv (vs := [.agg ⟨(bookL b A n cp)⟩]) hs4 (.func _) ⟨(Ev.t 0 rfl), trivial⟩ rfl rfl Tryd.call26 rfl (callsV_eq (v' := .tuple ⟨[.int .i64 (q : Int), .int .i64 0]⟩) (Parts_v b A n cp _ (hP.kp hs4.kp) hn (hG.kp hs4.kp (by simp)) hcp) (by rw [hR])) fun _ _ hs5 => ?_); clear hs4
   refine sq rfl (st_move hs5 (Ev.t 0 rfl) rfl rfl fun _ _ hs6 => ?_); clear hs5
   refine sq rfl (st_extract hs6 (Ev.t 0 rfl) rfl rfl rfl fun _ _ hs7 => ?_); clear hs6
   refine sq rfl (st_extract hs7 (Ev.t 1 rfl) rfl rfl rfl fun _ _ hs8 => ?_); clear hs7
   refine sq rfl (st_assign hs8 (Ev.t 1 rfl) rfl rfl fun _ _ hs9 => ?_); clear hs8
   refine sq rfl (st_assign hs9 (Ev.t 1 rfl) rfl rfl fun _ _ hs10 => ?_); clear hs9
   refine hK10 _ _ ?_; clear hK10
   have hs11 := Sx.keepT [0, 1, 7, 8, 9] [_, _, _, _, _] ⟨rfl, rfl, rfl, rfl, rfl, trivial⟩ hs10; clear hs10
   refine cd_seq fun K11 hK11 => ?_
   refine cd_region fun K12 hK12 => ?_
   refine sq rfl (st_loadA (o := 0) (off := 0) (vs := (bookL b A n cp)) hs11 (Ev.t 3 rfl) rfl rfl Tryd.isAgg27 Tryd.sizeOf27 (hs11.cells 0 rfl) rfl fun _ _ hs12 => ?_); clear hs11
   refine sq rfl (st_callv (vs := [.agg ⟨(bookL b A n cp)⟩]) hs12 (.func _) ⟨(Ev.t 0 rfl), trivial⟩ rfl rfl Tryd.call32 rfl (callsV_eq (v' := .bool true) (sound_v b A n cp _ (hP.kp hs12.kp) hn) (by rw [hok])) fun _ _ hs13 => ?_); clear hs12
   refine sq rfl (st_not hs13 (Ev.t 0 rfl) rfl rfl fun _ _ hs14 => ?_); clear hs13
   refine hK12 _ _ ?_; clear hK12
   have hs15 := Sx.keepT [0, 3, 4, 5, 6, 7] [_, _, _, _, _, _] ⟨rfl, rfl, rfl, rfl, rfl, rfl, trivial⟩ hs14; clear hs14
   have hc13 : false = false := rfl
   refine cd_cond hs15 (Ev.t 0 rfl) (fun h => absurd (hc13.symm.trans h) (by decide)) (fun _ => ?_)
   refine cd_skip ?_
   refine th_norm (hK11 _ _ ?_)
   refine cd_seq fun K14 hK14 => ?_
   refine cd_region fun K15 hK15 => ?_
   refine sq rfl (st_move hs15 (Ev.t 1 rfl) rfl rfl fun _ _ hs16 => ?_); clear hs15
   refine sq rfl (st_cmp (c := false) hs16 (Ev.t 0 rfl) (.const _) rfl rfl rfl rfl fun _ _ hs17 => ?_); clear hs16
   refine sq rfl (st_move hs17 (Ev.t 0 rfl) rfl rfl fun _ _ hs18 => ?_); clear hs17
   refine sq_on hs18 rfl rfl 0 rfl rfl (st_move hs18 (Ev.t 5 rfl) rfl rfl fun _ _ hs19 => ?_); clear hs18
   refine sq_on hs19 rfl rfl 1 rfl rfl (st_field (o' := 22) hs19 (Ev.t 8 rfl) rfl rfl Tryd.runUnderlying27 rfl Tryd.sizeOf25 rfl rfl fun _ _ hs20 => ?_); clear hs19
   refine sq_on hs20 rfl rfl 2 rfl rfl (st_load1 (o := 0) (off := 22) (v := .slice A n cp) hs20 (Ev.t 0 rfl) rfl rfl Tryd.isAgg25 (hs20.cells 0 rfl) rfl fun _ _ hs21 => ?_); clear hs20
   refine sq_on hs21 rfl rfl 3 rfl rfl (st_len hs21 (Ev.t 0 rfl) rfl rfl Tryd.runUnderlying25 fun _ _ hs22 => ?_); clear hs21
   refine sq_on hs22 rfl rfl 4 rfl rfl (st_callv (vs := [.int .i64 (q : Int), .int .i64 0, .int .i64 (n : Int)]) hs22 (.func _) ⟨(Ev.t 3 rfl), (.const _), (Ev.t 0 rfl), trivial⟩ rfl rfl Tryd.call37 rfl (amid_t (q : Int) 0 (n : Int) (by assumption) _) fun _ _ hs23 => ?_); clear hs22
   refine sq_on hs23 rfl rfl 5 rfl rfl (st_not hs23 (Ev.t 0 rfl) rfl rfl fun _ _ hs24 => ?_); clear hs23
   refine sq rfl (st_pick hs24 (Ev.t 6 rfl) rfl rfl (fun h => by cases h) (fun h => (Ev.t 0 rfl)) fun _ _ hs25 => ?_); clear hs24
   refine hK15 _ _ ?_; clear hK15
   have hs26 := Sx.keepT [0, 12, 13, 14, 15] [_, _, _, _, _] ⟨rfl, rfl, rfl, rfl, rfl, trivial⟩ hs25; clear hs25
   have hc16 : false = false := rfl
   refine cd_cond hs26 (Ev.t 0 rfl) (fun h => absurd (hc16.symm.trans h) (by decide)) (fun _ => ?_)
   refine cd_skip ?_
   refine th_norm (hK14 _ _ ?_)
   refine cd_region fun K17 hK17 => ?_
   refine sq rfl (st_loadA (o := 0) (off := 0) (vs := (bookL b A n cp)) hs26 (Ev.t 3 rfl) rfl rfl Tryd.isAgg27 Tryd.sizeOf27 (hs26.cells 0 rfl) rfl fun _ _ hs27 => ?_); clear hs26
   refine sq rfl (st_alloc hs27 rfl rfl Tryd.zeroValue27 rfl fun b18 _ _ hs28 => ?_); clear hs27
   refine sq rfl (st_store (l' := (bookL b A n cp)) (vs := (bookL b A n cp)) (i := 0) hs28 (Ev.t 0 rfl) (Ev.t 1 rfl) Tryd.sizeOf27 rfl rfl rfl rfl rfl rfl fun _ _ hs29 => ?_); clear hs28
   have hs30 := Sx.as (T' := [_, _, _, _, _, _, _]) (B' := [_, _]) rfl rfl hs29; clear hs29
   refine hK17 _ _ ?_; clear hK17
   have hs31 := Sx.keepT [0, 3, 4, 5, 6] [_, _, _, _, _] ⟨rfl, rfl, rfl, rfl, rfl, trivial⟩ hs30; clear hs30
   refine cd_region fun K19 hK19 => ?_
   refine sq rfl (st_move hs31 (Ev.t 4 rfl) rfl rfl fun _ _ hs32 => ?_); clear hs31
   refine sq rfl (st_field (o' := 22) hs32 (Ev.t 4 rfl) rfl rfl Tryd.runUnderlying27 rfl Tryd.sizeOf25 rfl rfl fun _ _ hs33 => ?_); clear hs32
   refine sq rfl (st_load1 (o := 0) (off := 22) (v := .slice A n cp) hs33 (Ev.t 0 rfl) rfl rfl Tryd.isAgg25 (hs33.cells 1 rfl) rfl fun _ _ hs34 => ?_); clear hs33
   refine sq rfl (st_len hs34 (Ev.t 0 rfl) rfl rfl Tryd.runUnderlying25 fun _ _ hs35 => ?_); clear hs34
   refine sq rfl (st_callv (vs := [.int .i64 k, .int .i64 (n : Int)]) hs35 (.func _) ⟨(Ev.t 3 rfl), (Ev.t 0 rfl), trivial⟩ rfl rfl Tryd.call38 rfl (turn_v k (n : Int) (by omega) _) fun _ _ hs36 => ?_); clear hs35
   refine sq rfl (st_add (z := 1 + (turn k (n : Int))) hs36 (.const _) (Ev.t 0 rfl) rfl rfl rfl (by omega) fun _ _ hs37 => ?_); clear hs36
   refine sq rfl (st_assign hs37 (Ev.t 0 rfl) rfl rfl fun _ _ hs38 => ?_); clear hs37
   refine hK19 _ _ ?_; clear hK19
   have hs39 := Sx.keepT [0, 7, 8, 9, 10] [_, _, _, _, _] ⟨rfl, rfl, rfl, rfl, rfl, trivial⟩ hs38; clear hs38
   have hs40 := Sx.keepE [0, 1, 2, 3, 4] [(8, .int .i64 (mm : Int)), (7, _), (5, _), (4, _), (2, _)] ⟨⟨_, rfl, (by rw [hmm])⟩, ⟨_, rfl, rfl⟩, ⟨_, rfl, rfl⟩, ⟨_, rfl, rfl⟩, ⟨_, rfl, rfl⟩, trivial⟩ hs39; clear hs39
   refine cd_region fun K20 hK20 => ?_
   refine sq rfl (st_field (o' := 22) hs40 (Ev.t 4 rfl) rfl rfl Tryd.runUnderlying27 rfl Tryd.sizeOf25 rfl rfl fun _ _ hs41 => ?_); clear hs40
   refine sq rfl (st_load1 (o := 0) (off := 22) (v := .slice A n cp) hs41 (Ev.t 0 rfl) rfl rfl Tryd.isAgg25 (hs41.cells 1 rfl) rfl fun _ _ hs42 => ?_); clear hs41
   refine sq rfl (st_move hs42 (Ev.t 2 rfl) rfl rfl fun _ _ hs43 => ?_); clear hs42
   refine sq rfl (st_slice2 (h := mm) hs43 (Ev.t 1 rfl) (Ev.t 0 rfl) rfl rfl Tryd.runUnderlying25 Tryd.sizeOf66 (by omega) (fun a_44 w_44 hs44 => ?_)); clear hs43
   have hs45 : Sx 90 [] [(50, .slice A mm cp), (49, .int .i64 (mm : Int)), (48, .slice A n cp), (47, .pointer (some ⟨b9, 22, none⟩)), (8, .int .i64 (mm : Int)), (7, .pointer (some ⟨b18, 0, none⟩)), (5, .int .i64 (q : Int)), (4, .bool false), (2, .pointer (some ⟨b9, 0, none⟩))] [(b18, some (.cells ⟨(bookL b A n cp)⟩ 27 (0, 0))), (b9, some (.cells ⟨(bookL b A n cp)⟩ 27 (0, 0)))] [] w _ _ := hs44; clear hs44
   refine sq rfl (st_field (o' := 22) hs45 (Ev.t 5 rfl) rfl rfl Tryd.runUnderlying27 rfl Tryd.sizeOf25 rfl rfl fun _ _ hs46 => ?_); clear hs45
   refine sq rfl (st_store (l' := [.int .i64 b.coal.lo, .int .i64 b.coal.hi, .int .i64 b.water.lo, .int .i64 b.water.hi, .int .i64 b.bunker, .int .i64 b.tank, .int .i64 b.scoop, .int .i64 b.pail, .int .i64 b.burn0.lo, .int .i64 b.burn0.hi, .int .i64 b.burn1.lo, .int .i64 b.burn1.hi, .int .i64 b.drink0.lo, .int .i64 b.drink0.hi, .int .i64 b.drink1.lo, .int .i64 b.drink1.hi, .int .i64 b.full.lo, .int .i64 b.full.hi, .int .i64 b.weak.lo, .int .i64 b.weak.hi, .int .i64 b.mark, .int .i64 b.lamp, .slice A mm cp]) (vs := [.slice A mm cp]) (i := 0) hs46 (Ev.t 0 rfl) (Ev.t 1 rfl) Tryd.sizeOf25 rfl rfl rfl rfl rfl rfl fun _ _ hs47 => ?_); clear hs46
   have hs48 := Sx.as (T' := [_, _, _, _, _, _, _, _, _, _]) (B' := [_, _]) rfl rfl hs47; clear hs47
   refine hK20 _ _ ?_; clear hK20
   have hs49 := Sx.keepT [5, 6, 7, 8] [_, _, _, _] ⟨rfl, rfl, rfl, rfl, trivial⟩ hs48; clear hs48
   by_cases hcq : mm ≤ q
   · skip
     have hpe : (b.head mm).planR.2 = 0 := by rw [planR_ok hokm, if_pos (hcan.2 hcq)]
     have hmin : min q mm = mm := by omega
     refine cd_region fun K21 hK21 => ?_
     refine sq rfl (st_loadA (o := 0) (off := 0) (vs := [.int .i64 b.coal.lo, .int .i64 b.coal.hi, .int .i64 b.water.lo, .int .i64 b.water.hi, .int .i64 b.bunker, .int .i64 b.tank, .int .i64 b.scoop, .int .i64 b.pail, .int .i64 b.burn0.lo, .int .i64 b.burn0.hi, .int .i64 b.burn1.lo, .int .i64 b.burn1.hi, .int .i64 b.drink0.lo, .int .i64 b.drink0.hi, .int .i64 b.drink1.lo, .int .i64 b.drink1.hi, .int .i64 b.full.lo, .int .i64 b.full.hi, .int .i64 b.weak.lo, .int .i64 b.weak.hi, .int .i64 b.mark, .int .i64 b.lamp, .slice A mm cp]) hs49 (Ev.t 1 rfl) rfl rfl Tryd.isAgg27 Tryd.sizeOf27 (hs49.cells 0 rfl) rfl fun _ _ hs50 => ?_); clear hs49
     refine sq rfl (st_callv (vs := [.agg ⟨[.int .i64 b.coal.lo, .int .i64 b.coal.hi, .int .i64 b.water.lo, .int .i64 b.water.hi, .int .i64 b.bunker, .int .i64 b.tank, .int .i64 b.scoop, .int .i64 b.pail, .int .i64 b.burn0.lo, .int .i64 b.burn0.hi, .int .i64 b.burn1.lo, .int .i64 b.burn1.hi, .int .i64 b.drink0.lo, .int .i64 b.drink0.hi, .int .i64 b.drink1.lo, .int .i64 b.drink1.hi, .int .i64 b.full.lo, .int .i64 b.full.hi, .int .i64 b.weak.lo, .int .i64 b.weak.hi, .int .i64 b.mark, .int .i64 b.lamp, .slice A mm cp]⟩]) hs50 (.func _) ⟨(Ev.t 0 rfl), trivial⟩ rfl rfl Tryd.call26 rfl (callsV_eq (v' := .tuple ⟨[.int .i64 ((min q mm : Nat) : Int), .int .i64 0]⟩) (Parts_v (b.head mm) A mm cp _ ((head_at hP (by omega)).kp hs50.kp) (by omega) (hG.kp hs50.kp (by simp)) (by omega)) (by rw [hRm])) fun _ _ hs51 => ?_); clear hs50
     refine sq rfl (st_move hs51 (Ev.t 0 rfl) rfl rfl fun _ _ hs52 => ?_); clear hs51
     refine sq rfl (st_extract hs52 (Ev.t 0 rfl) rfl rfl rfl fun _ _ hs53 => ?_); clear hs52
     refine sq rfl (st_extract hs53 (Ev.t 1 rfl) rfl rfl rfl fun _ _ hs54 => ?_); clear hs53
     refine sq rfl (st_assign hs54 (Ev.t 1 rfl) rfl rfl fun _ _ hs55 => ?_); clear hs54
     refine sq rfl (st_assign hs55 (Ev.t 1 rfl) rfl rfl fun _ _ hs56 => ?_); clear hs55
     refine hK21 _ _ ?_; clear hK21
     have hs57 := Sx.keepT [0, 1, 7, 8, 9, 10] [_, _, _, _, _, _] ⟨rfl, rfl, rfl, rfl, rfl, rfl, trivial⟩ hs56; clear hs56
     refine cd_region fun K22 hK22 => ?_
     refine sq rfl (st_loadA (o := 0) (off := 0) (vs := [.int .i64 b.coal.lo, .int .i64 b.coal.hi, .int .i64 b.water.lo, .int .i64 b.water.hi, .int .i64 b.bunker, .int .i64 b.tank, .int .i64 b.scoop, .int .i64 b.pail, .int .i64 b.burn0.lo, .int .i64 b.burn0.hi, .int .i64 b.burn1.lo, .int .i64 b.burn1.hi, .int .i64 b.drink0.lo, .int .i64 b.drink0.hi, .int .i64 b.drink1.lo, .int .i64 b.drink1.hi, .int .i64 b.full.lo, .int .i64 b.full.hi, .int .i64 b.weak.lo, .int .i64 b.weak.hi, .int .i64 b.mark, .int .i64 b.lamp, .slice A mm cp]) hs57 (Ev.t 3 rfl) rfl rfl Tryd.isAgg27 Tryd.sizeOf27 (hs57.cells 0 rfl) rfl fun _ _ hs58 => ?_); clear hs57
     refine sq rfl (st_call (vs := [.agg ⟨[.int .i64 b.coal.lo, .int .i64 b.coal.hi, .int .i64 b.water.lo, .int .i64 b.water.hi, .int .i64 b.bunker, .int .i64 b.tank, .int .i64 b.scoop, .int .i64 b.pail, .int .i64 b.burn0.lo, .int .i64 b.burn0.hi, .int .i64 b.burn1.lo, .int .i64 b.burn1.hi, .int .i64 b.drink0.lo, .int .i64 b.drink0.hi, .int .i64 b.drink1.lo, .int .i64 b.drink1.hi, .int .i64 b.full.lo, .int .i64 b.full.hi, .int .i64 b.weak.lo, .int .i64 b.weak.hi, .int .i64 b.mark, .int .i64 b.lamp, .slice A mm cp]⟩]) hs58 (.func _) ⟨(Ev.t 0 rfl), trivial⟩ rfl rfl Tryd.call23 rfl (plansL hpe (Plan_b (b.head mm) A mm cp _ ((head_at hP (by omega)).kp hs58.kp) (by omega) (hG.kp hs58.kp (by simp)))) fun v24 bs25 a_59 w_59 hp59 hs59 => ?_); clear hs58
     obtain ⟨Ap23, np23, cq23, rfl, rfl⟩ := hp59
     have hs60 := Sx.as (T' := [_, _, _, _, _, _, _, _]) (B' := [_, _]) rfl rfl hs59; clear hs59
     refine sq rfl (st_move hs60 (Ev.t 0 rfl) rfl rfl fun _ _ hs61 => ?_); clear hs60
     refine sq rfl (st_extract hs61 (Ev.t 0 rfl) rfl rfl rfl fun _ _ hs62 => ?_); clear hs61
     refine sq rfl (st_extract hs62 (Ev.t 1 rfl) rfl rfl rfl fun _ _ hs63 => ?_); clear hs62
     refine sq rfl (st_assign hs63 (Ev.t 1 rfl) rfl rfl fun _ _ hs64 => ?_); clear hs63
     refine sq rfl (st_assign hs64 (Ev.t 1 rfl) rfl rfl fun _ _ hs65 => ?_); clear hs64
     refine hK22 _ _ ?_; clear hK22
     have hs66 := Sx.keepT [0, 7, 8, 9, 11, 12] [_, _, _, _, _, _] ⟨rfl, rfl, rfl, rfl, rfl, rfl, trivial⟩ hs65; clear hs65
     refine cd_region fun K26 hK26 => ?_
     refine sq rfl (st_move hs66 (Ev.t 1 rfl) rfl rfl fun _ _ hs67 => ?_); clear hs66
     refine sq rfl (st_cmp (c := true) hs67 (Ev.t 0 rfl) (.const _) rfl rfl rfl rfl fun _ _ hs68 => ?_); clear hs67
     refine sq rfl (st_move hs68 (Ev.t 0 rfl) rfl rfl fun _ _ hs69 => ?_); clear hs68
     refine sq_on hs69 rfl rfl 0 rfl rfl (st_move hs69 (Ev.t 5 rfl) rfl rfl fun _ _ hs70 => ?_); clear hs69
     refine sq_on hs70 rfl rfl 1 rfl rfl (st_move hs70 (Ev.t 8 rfl) rfl rfl fun _ _ hs71 => ?_); clear hs70
     refine sq_on hs71 rfl rfl 2 rfl rfl (st_move hs71 (Ev.t 8 rfl) rfl rfl fun _ _ hs72 => ?_); clear hs71
     refine sq_on hs72 rfl rfl 3 rfl rfl (st_min hs72 (Ev.t 1 rfl) (Ev.t 0 rfl) rfl rfl fun _ _ hs73 => ?_); clear hs72
     refine sq_on hs73 rfl rfl 4 rfl rfl (st_cmp (c := (((min q mm : Nat) : Int) : Int) == (min (q : Int) (mm : Int))) hs73 (Ev.t 3 rfl) (Ev.t 0 rfl) rfl rfl rfl rfl fun _ _ hs74 => ?_); clear hs73
     refine sq rfl (st_pick hs74 (Ev.t 5 rfl) rfl rfl (fun h => (Ev.t 0 rfl)) (fun h => by cases h) fun _ _ hs75 => ?_); clear hs74
     refine sq rfl (st_move hs75 (Ev.t 0 rfl) rfl rfl fun _ _ hs76 => ?_); clear hs75
     refine sq_gv hs76 (gg := (((min q mm : Nat) : Int) : Int) == (min (q : Int) (mm : Int))) (v := .int .i64 0) rfl rfl 0 rfl (ison_t _) rfl rfl rfl (fun hg27 K28 hK28 => st_move hs76 (Ev.t 10 rfl) rfl rfl hK28) fun _ _ hs77 => ?_; clear hs76
     refine sq_gv hs77 (gg := (((min q mm : Nat) : Int) : Int) == (min (q : Int) (mm : Int))) (v := .bool true) rfl rfl 1 rfl (ison_t _) rfl rfl rfl (fun hg29 K30 hK30 => st_cmp (c := true) hs77 ((Ev.t 0 rfl).un hg29) (.const _) rfl rfl rfl rfl hK30) fun _ _ hs78 => ?_; clear hs77
     refine sq_gv hs78 (gg := (((min q mm : Nat) : Int) : Int) == (min (q : Int) (mm : Int))) (v := .int .i64 (mm : Int)) rfl rfl 2 rfl (ison_t _) rfl rfl rfl (fun hg31 K32 hK32 => st_move hs78 (Ev.t 15 rfl) rfl rfl hK32) fun _ _ hs79 => ?_; clear hs78
     refine sq_gv hs79 (gg := (((min q mm : Nat) : Int) : Int) == (min (q : Int) (mm : Int))) (v := .int .i64 (q : Int)) rfl rfl 3 rfl (ison_t _) rfl rfl rfl (fun hg33 K34 hK34 => st_move hs79 (Ev.t 17 rfl) rfl rfl hK34) fun _ _ hs80 => ?_; clear hs79
     refine sq_gv hs80 (gg := (((min q mm : Nat) : Int) : Int) == (min (q : Int) (mm : Int))) (v := .bool (decide (((mm : Int) : Int) ≤ (q : Int)))) rfl rfl 4 rfl (ison_t _) rfl rfl rfl (fun hg35 K36 hK36 => st_cmp (c := decide (((mm : Int) : Int) ≤ (q : Int))) hs80 ((Ev.t 1 rfl).un hg35) ((Ev.t 0 rfl).un hg35) rfl rfl rfl rfl hK36) fun _ _ hs81 => ?_; clear hs80
     refine sq_gv hs81 (gg := (((min q mm : Nat) : Int) : Int) == (min (q : Int) (mm : Int))) (v := .bool (true == (decide (((mm : Int) : Int) ≤ (q : Int))))) rfl rfl 5 rfl (ison_t _) rfl rfl rfl (fun hg37 K38 hK38 => st_bin hs81 ((Ev.t 3 rfl).un hg37) ((Ev.t 0 rfl).un hg37) (run_eqb 4 Tryd.underlying4 _ _ true (decide (((mm : Int) : Int) ≤ (q : Int)))) rfl rfl hK38) fun _ _ hs82 => ?_; clear hs81
     refine sq rfl (st_and hs82 (gx := true) (gy := (((min q mm : Nat) : Int) : Int) == (min (q : Int) (mm : Int))) (Ev.t 6 rfl) rfl (Ev.t 0 rfl) (fun h => h) rfl rfl fun _ _ hs83 => ?_); clear hs82
     refine sq rfl (st_move hs83 (Ev.t 0 rfl) rfl rfl fun _ _ hs84 => ?_); clear hs83
     refine sq_gv hs84 (gg := ((((min q mm : Nat) : Int) : Int) == (min (q : Int) (mm : Int))) && (true == (decide (((mm : Int) : Int) ≤ (q : Int))))) (v := .int .i64 0) rfl rfl 0 rfl (ison_t _) rfl rfl rfl (fun hg39 K40 hK40 => st_move hs84 (Ev.t 18 rfl) rfl rfl hK40) fun _ _ hs85 => ?_; clear hs84
     refine sq_gv hs85 (gg := ((((min q mm : Nat) : Int) : Int) == (min (q : Int) (mm : Int))) && (true == (decide (((mm : Int) : Int) ≤ (q : Int))))) (v := .bool true) rfl rfl 1 rfl (ison_t _) rfl rfl rfl (fun hg41 K42 hK42 => st_cmp (c := true) hs85 ((Ev.t 0 rfl).un hg41) (.const _) rfl rfl rfl rfl hK42) fun _ _ hs86 => ?_; clear hs85
     refine sq_gv hs86 (gg := ((((min q mm : Nat) : Int) : Int) == (min (q : Int) (mm : Int))) && (true == (decide (((mm : Int) : Int) ≤ (q : Int))))) (v := .bool true) rfl rfl 2 rfl (ison_t _) rfl rfl rfl (fun hg43 K44 hK44 => st_move hs86 ((Ev.t 0 rfl).un hg43) rfl rfl hK44) fun _ _ hs87 => ?_; clear hs86
     refine sq_gv hs87 (gg := (((((min q mm : Nat) : Int) : Int) == (min (q : Int) (mm : Int))) && (true == (decide (((mm : Int) : Int) ≤ (q : Int))))) && (!true)) (v := .int .i64 0) rfl rfl 0 rfl (ison_gf _ _) rfl rfl rfl (fun hg45 K46 hK46 => st_move hs87 (Ev.t 21 rfl) rfl rfl hK46) fun _ _ hs88 => ?_; clear hs87
     refine sq_gv hs88 (gg := (((((min q mm : Nat) : Int) : Int) == (min (q : Int) (mm : Int))) && (true == (decide (((mm : Int) : Int) ≤ (q : Int))))) && (!true)) (v := .bool false) rfl rfl 1 rfl (ison_gf _ _) rfl rfl rfl (fun hg47 K48 hK48 => st_cmp (c := false) hs88 ((Ev.t 0 rfl).un hg47) (.const _) rfl rfl rfl rfl hK48) fun _ _ hs89 => ?_; clear hs88
     refine sq_gv hs89 (gg := ((((min q mm : Nat) : Int) : Int) == (min (q : Int) (mm : Int))) && (true == (decide (((mm : Int) : Int) ≤ (q : Int))))) (v := .bool (true || false)) rfl rfl 5 rfl (ison_t _) rfl rfl rfl (fun hg49 K50 hK50 => st_or hs89 (gx := ((((min q mm : Nat) : Int) : Int) == (min (q : Int) (mm : Int))) && (true == (decide (((mm : Int) : Int) ≤ (q : Int))))) (gy := (((((min q mm : Nat) : Int) : Int) == (min (q : Int) (mm : Int))) && (true == (decide (((mm : Int) : Int) ≤ (q : Int))))) && (!true)) (Ev.t 2 rfl) hg49 (Ev.t 0 rfl) (fun h => and_i hg49 (by first | exact absurd h (by decide) | (rw [h]; rfl))) rfl rfl hK50) fun _ _ hs90 => ?_; clear hs89
     refine sq rfl (st_and hs90 (gx := true) (gy := ((((min q mm : Nat) : Int) : Int) == (min (q : Int) (mm : Int))) && (true == (decide (((mm : Int) : Int) ≤ (q : Int))))) (Ev.t 6 rfl) rfl (Ev.t 0 rfl) (fun h => h) rfl rfl fun _ _ hs91 => ?_); clear hs90
     refine sq rfl (st_move hs91 (Ev.t 0 rfl) rfl rfl fun _ _ hs92 => ?_); clear hs91
     refine sq_gv hs92 (gg := (((((min q mm : Nat) : Int) : Int) == (min (q : Int) (mm : Int))) && (true == (decide (((mm : Int) : Int) ≤ (q : Int))))) && (true || false)) (v := .bool true) rfl rfl 0 rfl (ison_t _) rfl rfl rfl (fun hg51 K52 hK52 => st_callv (vs := []) hs92 (.func _) trivial rfl rfl Tryd.call20 rfl (fired_v _ (hG.kp hs92.kp (by simp))) hK52) fun _ _ hs93 => ?_; clear hs92
     refine sq rfl (st_and hs93 (gx := true) (gy := (((((min q mm : Nat) : Int) : Int) == (min (q : Int) (mm : Int))) && (true == (decide (((mm : Int) : Int) ≤ (q : Int))))) && (true || false)) (Ev.t 1 rfl) rfl (Ev.t 0 rfl) (fun h => h) rfl rfl fun _ _ hs94 => ?_); clear hs93
     have hs95 := Sx.keepT [0, 1, 2, 3, 4, 5, 6, 7, 8, 9, 10, 11, 12, 13, 14, 15, 16, 17, 18, 19, 20, 21, 22, 23, 24, 25, 26, 27, 28, 29, 30, 31, 32] [_, _, _, _, _, _, _, _, _, _, _, _, _, _, _, _, _, _, _, _, _, _, _, _, _, _, _, _, _, _, _, _, _] ⟨rfl, rfl, rfl, rfl, rfl, rfl, rfl, rfl, rfl, rfl, rfl, rfl, rfl, rfl, rfl, rfl, rfl, rfl, rfl, rfl, rfl, rfl, rfl, rfl, rfl, rfl, rfl, rfl, rfl, rfl, rfl, rfl, rfl, trivial⟩ hs94; clear hs94
     refine sq rfl (st_assign hs95 (Ev.t 0 rfl) rfl rfl fun _ _ hs96 => ?_); clear hs95
     refine hK26 _ _ ?_; clear hK26
     have hs97 := Sx.keepT [0] [_] ⟨rfl, trivial⟩ hs96; clear hs96
     refine cd_retv (vs := [.bool (((((((min q mm : Nat) : Int) : Int) == (min (q : Int) (mm : Int))) && (true == (decide (((mm : Int) : Int) ≤ (q : Int))))) && (true || false)) && true)]) hs97 hQ0 rfl ⟨.tmp 0 rfl, trivial⟩ ?_
     clear hs97 hQ0 hN0
     first | rfl | (simp [pack]; done) | (simp [pack, hmin]; omega)
   · skip
     have hpe : (b.head mm).planR.2 = 4 := by rw [planR_ok hokm, if_neg (fun h => hcq (hcan.1 h))]
     have hmin : min q mm = q := by omega
     refine cd_region fun K53 hK53 => ?_
     refine sq rfl (st_loadA (o := 0) (off := 0) (vs := [.int .i64 b.coal.lo, .int .i64 b.coal.hi, .int .i64 b.water.lo, .int .i64 b.water.hi, .int .i64 b.bunker, .int .i64 b.tank, .int .i64 b.scoop, .int .i64 b.pail, .int .i64 b.burn0.lo, .int .i64 b.burn0.hi, .int .i64 b.burn1.lo, .int .i64 b.burn1.hi, .int .i64 b.drink0.lo, .int .i64 b.drink0.hi, .int .i64 b.drink1.lo, .int .i64 b.drink1.hi, .int .i64 b.full.lo, .int .i64 b.full.hi, .int .i64 b.weak.lo, .int .i64 b.weak.hi, .int .i64 b.mark, .int .i64 b.lamp, .slice A mm cp]) hs49 (Ev.t 1 rfl) rfl rfl Tryd.isAgg27 Tryd.sizeOf27 (hs49.cells 0 rfl) rfl fun _ _ hs50 => ?_); clear hs49
     refine sq rfl (st_callv (vs := [.agg ⟨[.int .i64 b.coal.lo, .int .i64 b.coal.hi, .int .i64 b.water.lo, .int .i64 b.water.hi, .int .i64 b.bunker, .int .i64 b.tank, .int .i64 b.scoop, .int .i64 b.pail, .int .i64 b.burn0.lo, .int .i64 b.burn0.hi, .int .i64 b.burn1.lo, .int .i64 b.burn1.hi, .int .i64 b.drink0.lo, .int .i64 b.drink0.hi, .int .i64 b.drink1.lo, .int .i64 b.drink1.hi, .int .i64 b.full.lo, .int .i64 b.full.hi, .int .i64 b.weak.lo, .int .i64 b.weak.hi, .int .i64 b.mark, .int .i64 b.lamp, .slice A mm cp]⟩]) hs50 (.func _) ⟨(Ev.t 0 rfl), trivial⟩ rfl rfl Tryd.call26 rfl (callsV_eq (v' := .tuple ⟨[.int .i64 ((min q mm : Nat) : Int), .int .i64 0]⟩) (Parts_v (b.head mm) A mm cp _ ((head_at hP (by omega)).kp hs50.kp) (by omega) (hG.kp hs50.kp (by simp)) (by omega)) (by rw [hRm])) fun _ _ hs51 => ?_); clear hs50
     refine sq rfl (st_move hs51 (Ev.t 0 rfl) rfl rfl fun _ _ hs52 => ?_); clear hs51
     refine sq rfl (st_extract hs52 (Ev.t 0 rfl) rfl rfl rfl fun _ _ hs53 => ?_); clear hs52
     refine sq rfl (st_extract hs53 (Ev.t 1 rfl) rfl rfl rfl fun _ _ hs54 => ?_); clear hs53
     refine sq rfl (st_assign hs54 (Ev.t 1 rfl) rfl rfl fun _ _ hs55 => ?_); clear hs54
     refine sq rfl (st_assign hs55 (Ev.t 1 rfl) rfl rfl fun _ _ hs56 => ?_); clear hs55
     refine hK53 _ _ ?_; clear hK53
     have hs57 := Sx.keepT [0, 1, 7, 8, 9, 10] [_, _, _, _, _, _] ⟨rfl, rfl, rfl, rfl, rfl, rfl, trivial⟩ hs56; clear hs56
     refine cd_region fun K54 hK54 => ?_
     refine sq rfl (st_loadA (o := 0) (off := 0) (vs := [.int .i64 b.coal.lo, .int .i64 b.coal.hi, .int .i64 b.water.lo, .int .i64 b.water.hi, .int .i64 b.bunker, .int .i64 b.tank, .int .i64 b.scoop, .int .i64 b.pail, .int .i64 b.burn0.lo, .int .i64 b.burn0.hi, .int .i64 b.burn1.lo, .int .i64 b.burn1.hi, .int .i64 b.drink0.lo, .int .i64 b.drink0.hi, .int .i64 b.drink1.lo, .int .i64 b.drink1.hi, .int .i64 b.full.lo, .int .i64 b.full.hi, .int .i64 b.weak.lo, .int .i64 b.weak.hi, .int .i64 b.mark, .int .i64 b.lamp, .slice A mm cp]) hs57 (Ev.t 3 rfl) rfl rfl Tryd.isAgg27 Tryd.sizeOf27 (hs57.cells 0 rfl) rfl fun _ _ hs58 => ?_); clear hs57
     refine sq rfl (st_call (vs := [.agg ⟨[.int .i64 b.coal.lo, .int .i64 b.coal.hi, .int .i64 b.water.lo, .int .i64 b.water.hi, .int .i64 b.bunker, .int .i64 b.tank, .int .i64 b.scoop, .int .i64 b.pail, .int .i64 b.burn0.lo, .int .i64 b.burn0.hi, .int .i64 b.burn1.lo, .int .i64 b.burn1.hi, .int .i64 b.drink0.lo, .int .i64 b.drink0.hi, .int .i64 b.drink1.lo, .int .i64 b.drink1.hi, .int .i64 b.full.lo, .int .i64 b.full.hi, .int .i64 b.weak.lo, .int .i64 b.weak.hi, .int .i64 b.mark, .int .i64 b.lamp, .slice A mm cp]⟩]) hs58 (.func _) ⟨(Ev.t 0 rfl), trivial⟩ rfl rfl Tryd.call23 rfl (plansL hpe (Plan_b (b.head mm) A mm cp _ ((head_at hP (by omega)).kp hs58.kp) (by omega) (hG.kp hs58.kp (by simp)))) fun v56 bs57 a_59 w_59 hp59 hs59 => ?_); clear hs58
     obtain ⟨Ap55, np55, cq55, rfl, rfl⟩ := hp59
     have hs60 := Sx.as (T' := [_, _, _, _, _, _, _, _]) (B' := [_, _]) rfl rfl hs59; clear hs59
     refine sq rfl (st_move hs60 (Ev.t 0 rfl) rfl rfl fun _ _ hs61 => ?_); clear hs60
     refine sq rfl (st_extract hs61 (Ev.t 0 rfl) rfl rfl rfl fun _ _ hs62 => ?_); clear hs61
     refine sq rfl (st_extract hs62 (Ev.t 1 rfl) rfl rfl rfl fun _ _ hs63 => ?_); clear hs62
     refine sq rfl (st_assign hs63 (Ev.t 1 rfl) rfl rfl fun _ _ hs64 => ?_); clear hs63
     refine sq rfl (st_assign hs64 (Ev.t 1 rfl) rfl rfl fun _ _ hs65 => ?_); clear hs64
     refine hK54 _ _ ?_; clear hK54
     have hs66 := Sx.keepT [0, 7, 8, 9, 11, 12] [_, _, _, _, _, _] ⟨rfl, rfl, rfl, rfl, rfl, rfl, trivial⟩ hs65; clear hs65
     refine cd_region fun K58 hK58 => ?_
     refine sq rfl (st_move hs66 (Ev.t 1 rfl) rfl rfl fun _ _ hs67 => ?_); clear hs66
     refine sq rfl (st_cmp (c := true) hs67 (Ev.t 0 rfl) (.const _) rfl rfl rfl rfl fun _ _ hs68 => ?_); clear hs67
     refine sq rfl (st_move hs68 (Ev.t 0 rfl) rfl rfl fun _ _ hs69 => ?_); clear hs68
     refine sq_on hs69 rfl rfl 0 rfl rfl (st_move hs69 (Ev.t 5 rfl) rfl rfl fun _ _ hs70 => ?_); clear hs69
     refine sq_on hs70 rfl rfl 1 rfl rfl (st_move hs70 (Ev.t 8 rfl) rfl rfl fun _ _ hs71 => ?_); clear hs70
     refine sq_on hs71 rfl rfl 2 rfl rfl (st_move hs71 (Ev.t 8 rfl) rfl rfl fun _ _ hs72 => ?_); clear hs71
     refine sq_on hs72 rfl rfl 3 rfl rfl (st_min hs72 (Ev.t 1 rfl) (Ev.t 0 rfl) rfl rfl fun _ _ hs73 => ?_); clear hs72
     refine sq_on hs73 rfl rfl 4 rfl rfl (st_cmp (c := (((min q mm : Nat) : Int) : Int) == (min (q : Int) (mm : Int))) hs73 (Ev.t 3 rfl) (Ev.t 0 rfl) rfl rfl rfl rfl fun _ _ hs74 => ?_); clear hs73
     refine sq rfl (st_pick hs74 (Ev.t 5 rfl) rfl rfl (fun h => (Ev.t 0 rfl)) (fun h => by cases h) fun _ _ hs75 => ?_); clear hs74
     refine sq rfl (st_move hs75 (Ev.t 0 rfl) rfl rfl fun _ _ hs76 => ?_); clear hs75
     refine sq_gv hs76 (gg := (((min q mm : Nat) : Int) : Int) == (min (q : Int) (mm : Int))) (v := .int .i64 4) rfl rfl 0 rfl (ison_t _) rfl rfl rfl (fun hg59 K60 hK60 => st_move hs76 (Ev.t 10 rfl) rfl rfl hK60) fun _ _ hs77 => ?_; clear hs76
     refine sq_gv hs77 (gg := (((min q mm : Nat) : Int) : Int) == (min (q : Int) (mm : Int))) (v := .bool false) rfl rfl 1 rfl (ison_t _) rfl rfl rfl (fun hg61 K62 hK62 => st_cmp (c := false) hs77 ((Ev.t 0 rfl).un hg61) (.const _) rfl rfl rfl rfl hK62) fun _ _ hs78 => ?_; clear hs77
     refine sq_gv hs78 (gg := (((min q mm : Nat) : Int) : Int) == (min (q : Int) (mm : Int))) (v := .int .i64 (mm : Int)) rfl rfl 2 rfl (ison_t _) rfl rfl rfl (fun hg63 K64 hK64 => st_move hs78 (Ev.t 15 rfl) rfl rfl hK64) fun _ _ hs79 => ?_; clear hs78
     refine sq_gv hs79 (gg := (((min q mm : Nat) : Int) : Int) == (min (q : Int) (mm : Int))) (v := .int .i64 (q : Int)) rfl rfl 3 rfl (ison_t _) rfl rfl rfl (fun hg65 K66 hK66 => st_move hs79 (Ev.t 17 rfl) rfl rfl hK66) fun _ _ hs80 => ?_; clear hs79
     refine sq_gv hs80 (gg := (((min q mm : Nat) : Int) : Int) == (min (q : Int) (mm : Int))) (v := .bool (decide (((mm : Int) : Int) ≤ (q : Int)))) rfl rfl 4 rfl (ison_t _) rfl rfl rfl (fun hg67 K68 hK68 => st_cmp (c := decide (((mm : Int) : Int) ≤ (q : Int))) hs80 ((Ev.t 1 rfl).un hg67) ((Ev.t 0 rfl).un hg67) rfl rfl rfl rfl hK68) fun _ _ hs81 => ?_; clear hs80
     refine sq_gv hs81 (gg := (((min q mm : Nat) : Int) : Int) == (min (q : Int) (mm : Int))) (v := .bool (false == (decide (((mm : Int) : Int) ≤ (q : Int))))) rfl rfl 5 rfl (ison_t _) rfl rfl rfl (fun hg69 K70 hK70 => st_bin hs81 ((Ev.t 3 rfl).un hg69) ((Ev.t 0 rfl).un hg69) (run_eqb 4 Tryd.underlying4 _ _ false (decide (((mm : Int) : Int) ≤ (q : Int)))) rfl rfl hK70) fun _ _ hs82 => ?_; clear hs81
     refine sq rfl (st_and hs82 (gx := true) (gy := (((min q mm : Nat) : Int) : Int) == (min (q : Int) (mm : Int))) (Ev.t 6 rfl) rfl (Ev.t 0 rfl) (fun h => h) rfl rfl fun _ _ hs83 => ?_); clear hs82
     refine sq rfl (st_move hs83 (Ev.t 0 rfl) rfl rfl fun _ _ hs84 => ?_); clear hs83
     refine sq_gv hs84 (gg := ((((min q mm : Nat) : Int) : Int) == (min (q : Int) (mm : Int))) && (false == (decide (((mm : Int) : Int) ≤ (q : Int))))) (v := .int .i64 4) rfl rfl 0 rfl (ison_t _) rfl rfl rfl (fun hg71 K72 hK72 => st_move hs84 (Ev.t 18 rfl) rfl rfl hK72) fun _ _ hs85 => ?_; clear hs84
     refine sq_gv hs85 (gg := ((((min q mm : Nat) : Int) : Int) == (min (q : Int) (mm : Int))) && (false == (decide (((mm : Int) : Int) ≤ (q : Int))))) (v := .bool false) rfl rfl 1 rfl (ison_t _) rfl rfl rfl (fun hg73 K74 hK74 => st_cmp (c := false) hs85 ((Ev.t 0 rfl).un hg73) (.const _) rfl rfl rfl rfl hK74) fun _ _ hs86 => ?_; clear hs85
     refine sq_gv hs86 (gg := ((((min q mm : Nat) : Int) : Int) == (min (q : Int) (mm : Int))) && (false == (decide (((mm : Int) : Int) ≤ (q : Int))))) (v := .bool false) rfl rfl 2 rfl (ison_t _) rfl rfl rfl (fun hg75 K76 hK76 => st_move hs86 ((Ev.t 0 rfl).un hg75) rfl rfl hK76) fun _ _ hs87 => ?_; clear hs86
     refine sq_gv hs87 (gg := (((((min q mm : Nat) : Int) : Int) == (min (q : Int) (mm : Int))) && (false == (decide (((mm : Int) : Int) ≤ (q : Int))))) && (!false)) (v := .int .i64 4) rfl rfl 0 rfl (ison_gf _ _) rfl rfl rfl (fun hg77 K78 hK78 => st_move hs87 (Ev.t 21 rfl) rfl rfl hK78) fun _ _ hs88 => ?_; clear hs87
     refine sq_gv hs88 (gg := (((((min q mm : Nat) : Int) : Int) == (min (q : Int) (mm : Int))) && (false == (decide (((mm : Int) : Int) ≤ (q : Int))))) && (!false)) (v := .bool true) rfl rfl 1 rfl (ison_gf _ _) rfl rfl rfl (fun hg79 K80 hK80 => st_cmp (c := true) hs88 ((Ev.t 0 rfl).un hg79) (.const _) rfl rfl rfl rfl hK80) fun _ _ hs89 => ?_; clear hs88
     refine sq_gv hs89 (gg := ((((min q mm : Nat) : Int) : Int) == (min (q : Int) (mm : Int))) && (false == (decide (((mm : Int) : Int) ≤ (q : Int))))) (v := .bool (false || true)) rfl rfl 5 rfl (ison_t _) rfl rfl rfl (fun hg81 K82 hK82 => st_or hs89 (gx := ((((min q mm : Nat) : Int) : Int) == (min (q : Int) (mm : Int))) && (false == (decide (((mm : Int) : Int) ≤ (q : Int))))) (gy := (((((min q mm : Nat) : Int) : Int) == (min (q : Int) (mm : Int))) && (false == (decide (((mm : Int) : Int) ≤ (q : Int))))) && (!false)) (Ev.t 2 rfl) hg81 (Ev.t 0 rfl) (fun h => and_i hg81 (by first | exact absurd h (by decide) | (rw [h]; rfl))) rfl rfl hK82) fun _ _ hs90 => ?_; clear hs89
     refine sq rfl (st_and hs90 (gx := true) (gy := ((((min q mm : Nat) : Int) : Int) == (min (q : Int) (mm : Int))) && (false == (decide (((mm : Int) : Int) ≤ (q : Int))))) (Ev.t 6 rfl) rfl (Ev.t 0 rfl) (fun h => h) rfl rfl fun _ _ hs91 => ?_); clear hs90
     refine sq rfl (st_move hs91 (Ev.t 0 rfl) rfl rfl fun _ _ hs92 => ?_); clear hs91
     refine sq_gv hs92 (gg := (((((min q mm : Nat) : Int) : Int) == (min (q : Int) (mm : Int))) && (false == (decide (((mm : Int) : Int) ≤ (q : Int))))) && (false || true)) (v := .bool true) rfl rfl 0 rfl (ison_t _) rfl rfl rfl (fun hg83 K84 hK84 => st_callv (vs := []) hs92 (.func _) trivial rfl rfl Tryd.call20 rfl (fired_v _ (hG.kp hs92.kp (by simp))) hK84) fun _ _ hs93 => ?_; clear hs92
     refine sq rfl (st_and hs93 (gx := true) (gy := (((((min q mm : Nat) : Int) : Int) == (min (q : Int) (mm : Int))) && (false == (decide (((mm : Int) : Int) ≤ (q : Int))))) && (false || true)) (Ev.t 1 rfl) rfl (Ev.t 0 rfl) (fun h => h) rfl rfl fun _ _ hs94 => ?_); clear hs93
     have hs95 := Sx.keepT [0, 1, 2, 3, 4, 5, 6, 7, 8, 9, 10, 11, 12, 13, 14, 15, 16, 17, 18, 19, 20, 21, 22, 23, 24, 25, 26, 27, 28, 29, 30, 31, 32] [_, _, _, _, _, _, _, _, _, _, _, _, _, _, _, _, _, _, _, _, _, _, _, _, _, _, _, _, _, _, _, _, _] ⟨rfl, rfl, rfl, rfl, rfl, rfl, rfl, rfl, rfl, rfl, rfl, rfl, rfl, rfl, rfl, rfl, rfl, rfl, rfl, rfl, rfl, rfl, rfl, rfl, rfl, rfl, rfl, rfl, rfl, rfl, rfl, rfl, rfl, trivial⟩ hs94; clear hs94
     refine sq rfl (st_assign hs95 (Ev.t 0 rfl) rfl rfl fun _ _ hs96 => ?_); clear hs95
     refine hK58 _ _ ?_; clear hK58
     have hs97 := Sx.keepT [0] [_] ⟨rfl, trivial⟩ hs96; clear hs96
     refine cd_retv (vs := [.bool (((((((min q mm : Nat) : Int) : Int) == (min (q : Int) (mm : Int))) && (false == (decide (((mm : Int) : Int) ≤ (q : Int))))) && (false || true)) && true)]) hs97 hQ0 rfl ⟨.tmp 0 rfl, trivial⟩ ?_
     clear hs97 hQ0 hN0
     first | rfl | (simp [pack]; done) | (simp [pack, hmin]; omega)
end Go.Proofs.YtdbcedmofoakmaaDoor
