/- The law TillWrong: its walk. -/
import Derived.Test.YtcnndpedeofbmaaDoorUn
set_option maxRecDepth 100000
namespace Go.Proofs.YtcnndpedeofbmaaDoor
open Go Go.Sx Go.Till Go.Proofs.Tryd
theorem TillWrong_v (b : Bx) (A : Option Addr) (n cp : Nat) (A2 : Option Addr) (n2 c2 : Nat) (k : Int) (w : World) (hP : RollsAt w A n b.rolls) (hn : n ≤ 140737488351232) (hF : SpsAt w A2 n2 b.free) (hn2 : n2 ≤ 140737488351232) (hG : CellsAt w 0 0 partsL) :
    CallsV Tryd.prog 9 [.agg ⟨(bxL b A n cp A2 n2 c2)⟩, .int .i64 k] w (.bool true) := by
 refine enter (N := 132) (M := []) w func9 rfl rfl rfl (fun Q0 a_0 hQ0 hN0 hs0 => ?_)
 rcases (show b.ok = false ∨ (b.ok = true ∧ b.wrongI > 200) ∨ (b.ok = true ∧ b.wrongI = 0) ∨ (b.ok = true ∧ ¬ b.wrongI > 200 ∧ b.wrongI ≠ 0 ∧ b.wrongI ≤ b.err) ∨ (b.ok = true ∧ ¬ b.wrongI > 200 ∧ b.wrongI ≠ 0 ∧ ¬ b.wrongI ≤ b.err) from by cases b.ok <;> simp <;> omega) with hok | ⟨hok, h200⟩ | ⟨hok, hw0⟩ | ⟨hok, h200, hw0, hpp⟩ | ⟨hok, h200, hw0, hpp⟩
 · skip
   have hW : b.wrongR = (0, 90) := by rw [Bx.wrongR, if_neg (by rw [hok]; decide)]
   refine cd_region fun K1 hK1 => ?_
   refine sq rfl (st_box hs0 (Ev.t 0 rfl) rfl rfl rfl fun b2 _ _ hs1 => ?_); clear hs0
   refine sq rfl (st_assign hs1 (.const _) rfl rfl fun _ _ hs2 => ?_); clear hs1
   refine hK1 _ _ ?_; clear hK1
   have hs3 := hs2.keep [0, 1, 3] [_, _, _] rfl; clear hs2
   refine cd_region fun K3 hK3 => ?_
   refine sq rfl (st_loadA (o := 0) (off := 0) (vs := (bxL b A n cp A2 n2 c2)) hs3 (Ev.t 1 rfl) rfl rfl isAgg25 sizeOf25 (hs3.cells 0 rfl) rfl fun _ _ hs4 => ?_); clear hs3
   refine sq rfl (st_callv (vs := [.agg ⟨(bxL b A n cp A2 n2 c2)⟩]) hs4 (.func _) ⟨(Ev.t 0 rfl), trivial⟩ rfl rfl call28 rfl (callsV_eq (v' := .tuple ⟨[.int .i64 0, .int .i64 90]⟩) (Wrong_v b A n cp A2 n2 c2 _ (hP.kp hs4.kp) hn (hF.kp hs4.kp) hn2) (by rw [hW])) fun _ _ hs5 => ?_); clear hs4
   refine sq rfl (st_move hs5 (Ev.t 0 rfl) rfl rfl fun _ _ hs6 => ?_); clear hs5
   refine sq rfl (st_extract hs6 (Ev.t 0 rfl) rfl rfl rfl fun _ _ hs7 => ?_); clear hs6
   refine sq rfl (st_extract hs7 (Ev.t 1 rfl) rfl rfl rfl fun _ _ hs8 => ?_); clear hs7
   refine sq rfl (st_assign hs8 (Ev.t 1 rfl) rfl rfl fun _ _ hs9 => ?_); clear hs8
   refine sq rfl (st_assign hs9 (Ev.t 1 rfl) rfl rfl fun _ _ hs10 => ?_); clear hs9
   refine hK3 _ _ ?_; clear hK3
   have hs11 := hs10.keep [0, 1, 7, 8, 9] [_, _, _, _, _] rfl; clear hs10
   refine cd_seq fun K4 hK4 => ?_
   refine cd_region fun K5 hK5 => ?_
   refine sq rfl (st_loadA (o := 0) (off := 0) (vs := (bxL b A n cp A2 n2 c2)) hs11 (Ev.t 3 rfl) rfl rfl isAgg25 sizeOf25 (hs11.cells 0 rfl) rfl fun _ _ hs12 => ?_); clear hs11
   refine sq rfl (st_callv (vs := [.agg ⟨(bxL b A n cp A2 n2 c2)⟩]) hs12 (.func _) ⟨(Ev.t 0 rfl), trivial⟩ rfl rfl call13 rfl (callsV_eq (v' := .bool false) (sound_v b A n cp A2 n2 c2 _ (hP.kp hs12.kp) hn (hF.kp hs12.kp) hn2) (by rw [hok])) fun _ _ hs13 => ?_); clear hs12
   refine sq rfl (st_not hs13 (Ev.t 0 rfl) rfl rfl fun _ _ hs14 => ?_); clear hs13
   refine hK5 _ _ ?_; clear hK5
   have hs15 := hs14.keep [0, 3, 4, 5, 6, 7] [_, _, _, _, _, _] rfl; clear hs14
   have hc6 : true = true := rfl
   refine cd_cond hs15 (Ev.t 0 rfl) (fun _ => ?_) (fun h => absurd (hc6.symm.trans h) (by decide))
   refine cd_region fun K7 hK7 => ?_
   refine sq rfl (st_move hs15 (Ev.t 1 rfl) rfl rfl fun _ _ hs16 => ?_); clear hs15
   refine sq rfl (st_cmp (c := true) hs16 (Ev.t 0 rfl) (.const _) rfl rfl rfl rfl fun _ _ hs17 => ?_); clear hs16
   refine sq rfl (st_move hs17 (Ev.t 0 rfl) rfl rfl fun _ _ hs18 => ?_); clear hs17
   refine sq_on hs18 rfl rfl 0 rfl rfl (st_move hs18 (Ev.t 5 rfl) rfl rfl fun _ _ hs19 => ?_); clear hs18
   refine sq_on hs19 rfl rfl 1 rfl rfl (st_cmp (c := true) hs19 (Ev.t 0 rfl) (.const _) rfl rfl rfl rfl fun _ _ hs20 => ?_); clear hs19
   refine sq rfl (st_pick hs20 (Ev.t 2 rfl) rfl rfl (fun h => (Ev.t 0 rfl)) (fun h => by cases h) fun _ _ hs21 => ?_); clear hs20
   refine sq rfl (st_move hs21 (Ev.t 0 rfl) rfl rfl fun _ _ hs22 => ?_); clear hs21
   refine sq_on hs22 rfl rfl 0 rfl rfl (st_callv (vs := []) hs22 (.func _) trivial rfl rfl call14 rfl (counted_v _ (hG.kp hs22.kp (by simp))) fun _ _ hs23 => ?_); clear hs22
   refine sq rfl (st_pick hs23 (Ev.t 1 rfl) rfl rfl (fun h => (Ev.t 0 rfl)) (fun h => by cases h) fun _ _ hs24 => ?_); clear hs23
   have hs25 := hs24.keep [0, 1, 2, 3, 4, 5, 6, 7, 8, 9, 10, 11, 13, 14] [_, _, _, _, _, _, _, _, _, _, _, _, _, _] rfl; clear hs24
   refine sq rfl (st_assign hs25 (Ev.t 0 rfl) rfl rfl fun _ _ hs26 => ?_); clear hs25
   refine hK7 _ _ ?_; clear hK7
   have hs27 := hs26.keep [0] [_] rfl; clear hs26
   refine cd_retv (vs := [.bool true]) hs27 (fun a_ w_ h => th_ret (hQ0 a_ w_ h)) rfl ⟨.tmp 0 rfl, trivial⟩ ?_
   clear hs27 hQ0 hN0 hK4
   rfl
 · skip
   have hO := ok_iff.1 hok
   have her := hO.err; have hwn := wrong_nonneg hO; have htb := turn_bd (n := k) (m := 60) (by omega)
   obtain ⟨m0, m1, hM0, hM1, hm0, hm1, hmw⟩ := wrong_law hok (e1 := min 200 (b.err + turn k 60)) (by omega)
   have hW : b.wrongR = (0, 4) := by rw [Bx.wrongR, if_pos hok, if_pos h200]
   have hM2 := wrong_none hok (e := 200) (by omega) h200
   obtain rfl : m0 = 0 := by omega
   refine cd_region fun K8 hK8 => ?_
   refine sq rfl (st_box hs0 (Ev.t 0 rfl) rfl rfl rfl fun b9 _ _ hs1 => ?_); clear hs0
   refine sq rfl (st_assign hs1 (.const _) rfl rfl fun _ _ hs2 => ?_); clear hs1
   refine hK8 _ _ ?_; clear hK8
   have hs3 := hs2.keep [0, 1, 3] [_, _, _] rfl; clear hs2
   refine cd_region fun K10 hK10 => ?_
   refine sq rfl (st_loadA (o := 0) (off := 0) (vs := (bxL b A n cp A2 n2 c2)) hs3 (Ev.t 1 rfl) rfl rfl isAgg25 sizeOf25 (hs3.cells 0 rfl) rfl fun _ _ hs4 => ?_); clear hs3
   refine sq rfl (st_callv (vs := [.agg ⟨(bxL b A n cp A2 n2 c2)⟩]) hs4 (.func _) ⟨(Ev.t 0 rfl), trivial⟩ rfl rfl call28 rfl (callsV_eq (v' := .tuple ⟨[.int .i64 0, .int .i64 4]⟩) (Wrong_v b A n cp A2 n2 c2 _ (hP.kp hs4.kp) hn (hF.kp hs4.kp) hn2) (by rw [hW])) fun _ _ hs5 => ?_); clear hs4
   refine sq rfl (st_move hs5 (Ev.t 0 rfl) rfl rfl fun _ _ hs6 => ?_); clear hs5
   refine sq rfl (st_extract hs6 (Ev.t 0 rfl) rfl rfl rfl fun _ _ hs7 => ?_); clear hs6
   refine sq rfl (st_extract hs7 (Ev.t 1 rfl) rfl rfl rfl fun _ _ hs8 => ?_); clear hs7
   refine sq rfl (st_assign hs8 (Ev.t 1 rfl) rfl rfl fun _ _ hs9 => ?_); clear hs8
   refine sq rfl (st_assign hs9 (Ev.t 1 rfl) rfl rfl fun _ _ hs10 => ?_); clear hs9
   refine hK10 _ _ ?_; clear hK10
   have hs11 := hs10.keep [0, 1, 7, 8, 9] [_, _, _, _, _] rfl; clear hs10
   refine cd_seq fun K11 hK11 => ?_
   refine cd_region fun K12 hK12 => ?_
   refine sq rfl (st_loadA (o := 0) (off := 0) (vs := (bxL b A n cp A2 n2 c2)) hs11 (Ev.t 3 rfl) rfl rfl isAgg25 sizeOf25 (hs11.cells 0 rfl) rfl fun _ _ hs12 => ?_); clear hs11
   refine sq rfl (st_callv (vs := [.agg ⟨(bxL b A n cp A2 n2 c2)⟩]) hs12 (.func _) ⟨(Ev.t 0 rfl), trivial⟩ rfl rfl call13 rfl (callsV_eq (v' := .bool true) (sound_v b A n cp A2 n2 c2 _ (hP.kp hs12.kp) hn (hF.kp hs12.kp) hn2) (by rw [hok])) fun _ _ hs13 => ?_); clear hs12
   refine sq rfl (st_not hs13 (Ev.t 0 rfl) rfl rfl fun _ _ hs14 => ?_); clear hs13
   refine hK12 _ _ ?_; clear hK12
   have hs15 := hs14.keep [0, 3, 4, 5, 6, 7] [_, _, _, _, _, _] rfl; clear hs14
   have hc13 : false = false := rfl
   refine cd_cond hs15 (Ev.t 0 rfl) (fun h => absurd (hc13.symm.trans h) (by decide)) (fun _ => ?_)
   refine cd_skip ?_
   refine th_norm (hK11 _ _ ?_)
   refine cd_region fun K14 hK14 => ?_
   refine sq rfl (st_loadA (o := 0) (off := 0) (vs := (bxL b A n cp A2 n2 c2)) hs15 (Ev.t 4 rfl) rfl rfl isAgg25 sizeOf25 (hs15.cells 0 rfl) rfl fun _ _ hs16 => ?_); clear hs15
   refine sq rfl (st_callv (vs := [.agg ⟨(bxL b A n cp A2 n2 c2)⟩]) hs16 (.func _) ⟨(Ev.t 0 rfl), trivial⟩ rfl rfl call15 rfl (callsV_eq (v' := .tuple ⟨[.int .i64 0, .int .i64 0]⟩) (Many_v b A n cp A2 n2 c2 _ (hP.kp hs16.kp) hn (hF.kp hs16.kp) hn2) (by rw [hM0])) fun _ _ hs17 => ?_); clear hs16
   refine sq rfl (st_move hs17 (Ev.t 0 rfl) rfl rfl fun _ _ hs18 => ?_); clear hs17
   refine sq rfl (st_extract hs18 (Ev.t 0 rfl) rfl rfl rfl fun _ _ hs19 => ?_); clear hs18
   refine sq rfl (st_extract hs19 (Ev.t 1 rfl) rfl rfl rfl fun _ _ hs20 => ?_); clear hs19
   refine sq rfl (st_assign hs20 (Ev.t 1 rfl) rfl rfl fun _ _ hs21 => ?_); clear hs20
   refine sq rfl (st_assign hs21 (Ev.t 1 rfl) rfl rfl fun _ _ hs22 => ?_); clear hs21
   refine hK14 _ _ ?_; clear hK14
   have hs23 := hs22.keep [0, 1, 8, 9, 10, 11, 12] [_, _, _, _, _, _, _] rfl; clear hs22
   refine cd_region fun K15 hK15 => ?_
   refine sq rfl (st_loadA (o := 0) (off := 0) (vs := (bxL b A n cp A2 n2 c2)) hs23 (Ev.t 5 rfl) rfl rfl isAgg25 sizeOf25 (hs23.cells 0 rfl) rfl fun _ _ hs24 => ?_); clear hs23
   refine sq rfl (st_alloc hs24 rfl rfl zeroValue25 rfl fun b16 _ _ hs25 => ?_); clear hs24
   refine sq rfl (st_store (l' := (bxL b A n cp A2 n2 c2)) (vs := (bxL b A n cp A2 n2 c2)) (i := 0) hs25 (Ev.t 0 rfl) (Ev.t 1 rfl) sizeOf25 rfl rfl rfl rfl rfl rfl fun _ _ hs26 => ?_); clear hs25
   have hs27 := hs26.asB [_, _] rfl; clear hs26
   refine hK15 _ _ ?_; clear hK15
   have hs28 := hs27.keep [0, 2, 3, 4, 5, 6, 7, 8] [_, _, _, _, _, _, _, _] rfl; clear hs27
   refine cd_drawn mixed hs28 [⟨35, [], Is (.pointer (some ⟨b9, 3, none⟩))⟩, ⟨36, [0], Is (.int .i64 b.err)⟩, ⟨37, [], Is (.int .i64 k)⟩, ⟨38, [2], Is (.int .i64 (turn k 60))⟩] (by kernel_rfl) (by kernel_rfl) fun K17 hK17 => ⟨⟨?_, ?_, ?_, ?_, trivial⟩, ?_⟩
   · rintro T_ B_ a_ w_ K_ hT hB hf hsD hk
     exact ob rfl rfl (st_field (o' := 3) hsD (evT hT 6 rfl) rfl hf runUnderlying25 rfl sizeOf3 rfl rfl fun _ _ => hk _ _ _ _ ⟨rfl, rfl⟩)
   · rintro T_ B_ a_ w_ K_ hT hB _ _ ⟨rfl, rfl⟩ h35 - hf hsD hk
     exact ob rfl rfl (st_load1 (o := 0) (off := 3) (v := .int .i64 b.err) hsD (Ev.tmp h35) rfl hf isAgg3 (hsD.cellsM (inB hB 1 rfl)) rfl fun _ _ => hk _ _ _ _ ⟨rfl, rfl⟩)
   · rintro T_ B_ a_ w_ K_ hT hB hf hsD hk
     exact ob rfl rfl (st_move hsD (evT hT 7 rfl) rfl hf fun _ _ => hk _ _ _ _ ⟨rfl, rfl⟩)
   · rintro T_ B_ a_ w_ K_ hT hB _ _ ⟨rfl, rfl⟩ h37 - hf hsD hk
     exact ob rfl rfl (st_callv (vs := [.int .i64 k, .int .i64 60]) hsD (.func _) ⟨(Ev.tmp h37), (.const _), trivial⟩ rfl hf call17 rfl (turn_v k 60 (by omega) _) fun _ _ => hk _ _ _ _ ⟨rfl, rfl⟩)
   rintro _ _ ⟨rfl, rfl⟩ _ _ ⟨rfl, rfl⟩ _ _ ⟨rfl, rfl⟩ _ _ ⟨rfl, rfl⟩ a_29 w_29 hs29; clear hs28
   have hs30 := Sx.as (T' := [_, _, _, _, _, _, _, _, _, _, _, _]) (B' := [_, _]) rfl rfl hs29; clear hs29
   refine sq rfl (st_add (z := b.err + (turn k 60)) hs30 (Ev.t 1 rfl) (Ev.t 3 rfl) rfl rfl rfl (by omega) fun _ _ hs31 => ?_); clear hs30
   refine sq rfl (st_min hs31 (.const _) (Ev.t 0 rfl) rfl rfl fun _ _ hs32 => ?_); clear hs31
   refine sq rfl (st_field (o' := 3) hs32 (Ev.t 6 rfl) rfl rfl runUnderlying25 rfl sizeOf3 rfl rfl fun _ _ hs33 => ?_); clear hs32
   refine sq rfl (st_store (l' := [.slice A n cp, .slice A2 n2 c2, .int .i64 b.count, .int .i64 (min 200 (b.err + (turn k 60))), .int .i64 b.duty, .int .i64 b.share, .int .i64 b.guar]) (vs := [.int .i64 (min 200 (b.err + (turn k 60)))]) (i := 0) hs33 (Ev.t 0 rfl) (Ev.t 1 rfl) sizeOf3 rfl rfl rfl rfl rfl rfl fun _ _ hs34 => ?_); clear hs33
   have hs35 := hs34.asB [_, _] rfl; clear hs34
   refine hK17 _ _ ?_; clear hK17
   have hs36 := hs35.keep [7, 8, 9, 10, 11, 12, 13] [_, _, _, _, _, _, _] rfl; clear hs35
   refine cd_region fun K18 hK18 => ?_
   refine sq rfl (st_loadA (o := 0) (off := 0) (vs := [.slice A n cp, .slice A2 n2 c2, .int .i64 b.count, .int .i64 (min 200 (b.err + (turn k 60))), .int .i64 b.duty, .int .i64 b.share, .int .i64 b.guar]) hs36 (Ev.t 0 rfl) rfl rfl isAgg25 sizeOf25 (hs36.cells 0 rfl) rfl fun _ _ hs37 => ?_); clear hs36
   refine sq rfl (st_callv (vs := [.agg ⟨[.slice A n cp, .slice A2 n2 c2, .int .i64 b.count, .int .i64 (min 200 (b.err + (turn k 60))), .int .i64 b.duty, .int .i64 b.share, .int .i64 b.guar]⟩]) hs37 (.func _) ⟨(Ev.t 0 rfl), trivial⟩ rfl rfl call15 rfl (callsV_eq (v' := .tuple ⟨[.int .i64 m1, .int .i64 0]⟩) (Many_v (b.setErr (min 200 (b.err + (turn k 60)))) A n cp A2 n2 c2 _ (hP.kp hs37.kp) hn (hF.kp hs37.kp) hn2) (by rw [hM1])) fun _ _ hs38 => ?_); clear hs37
   refine sq rfl (st_move hs38 (Ev.t 0 rfl) rfl rfl fun _ _ hs39 => ?_); clear hs38
   refine sq rfl (st_extract hs39 (Ev.t 0 rfl) rfl rfl rfl fun _ _ hs40 => ?_); clear hs39
   refine sq rfl (st_extract hs40 (Ev.t 1 rfl) rfl rfl rfl fun _ _ hs41 => ?_); clear hs40
   refine sq rfl (st_assign hs41 (Ev.t 1 rfl) rfl rfl fun _ _ hs42 => ?_); clear hs41
   refine sq rfl (st_assign hs42 (Ev.t 1 rfl) rfl rfl fun _ _ hs43 => ?_); clear hs42
   refine hK18 _ _ ?_; clear hK18
   have hs44 := hs43.keep [0, 1, 7, 8, 9, 10, 11, 12, 13] [_, _, _, _, _, _, _, _, _] rfl; clear hs43
   refine cd_seq fun K19 hK19 => ?_
   refine cd_region fun K20 hK20 => ?_
   refine sq rfl (st_move hs44 (Ev.t 3 rfl) rfl rfl fun _ _ hs45 => ?_); clear hs44
   refine sq rfl (st_cmp (c := false) hs45 (Ev.t 0 rfl) (.const _) rfl rfl rfl rfl fun _ _ hs46 => ?_); clear hs45
   refine sq rfl (st_move hs46 (Ev.t 0 rfl) rfl rfl fun _ _ hs47 => ?_); clear hs46
   refine sq_on hs47 rfl rfl 0 rfl rfl (st_move hs47 (Ev.t 3 rfl) rfl rfl fun _ _ hs48 => ?_); clear hs47
   refine sq_on hs48 rfl rfl 1 rfl rfl (st_cmp (c := false) hs48 (Ev.t 0 rfl) (.const _) rfl rfl rfl rfl fun _ _ hs49 => ?_); clear hs48
   refine sq rfl (st_pick hs49 (Ev.t 2 rfl) rfl rfl (fun h => by cases h) (fun h => (Ev.t 0 rfl)) fun _ _ hs50 => ?_); clear hs49
   refine sq rfl (st_move hs50 (Ev.t 0 rfl) rfl rfl fun _ _ hs51 => ?_); clear hs50
   refine sq_on hs51 rfl rfl 0 rfl rfl (st_move hs51 (Ev.t 8 rfl) rfl rfl fun _ _ hs52 => ?_); clear hs51
   refine sq_on hs52 rfl rfl 1 rfl rfl (st_move hs52 (Ev.t 12 rfl) rfl rfl fun _ _ hs53 => ?_); clear hs52
   refine sq_on hs53 rfl rfl 2 rfl rfl (st_cmp (c := false) hs53 (Ev.t 1 rfl) (Ev.t 0 rfl) rfl rfl rfl (show decide ((m1 : Int) < 0) = false from decide_eq_false (by omega)) fun _ _ hs54 => ?_); clear hs53
   refine sq rfl (st_pick hs54 (Ev.t 3 rfl) rfl rfl (fun h => by cases h) (fun h => (Ev.t 0 rfl)) fun _ _ hs55 => ?_); clear hs54
   refine hK20 _ _ ?_; clear hK20
   have hs56 := hs55.keep [0, 13, 15, 16, 17, 18, 19] [_, _, _, _, _, _, _] rfl; clear hs55
   have hc21 : false = false := rfl
   refine cd_cond hs56 (Ev.t 0 rfl) (fun h => absurd (hc21.symm.trans h) (by decide)) (fun _ => ?_)
   refine cd_skip ?_
   refine th_norm (hK19 _ _ ?_)
   refine cd_seq fun K22 hK22 => ?_
   refine cd_region fun K23 hK23 => ?_
   refine sq rfl (st_move hs56 (Ev.t 3 rfl) rfl rfl fun _ _ hs57 => ?_); clear hs56
   refine sq rfl (st_cmp (c := true) hs57 (Ev.t 0 rfl) (.const _) rfl rfl rfl rfl fun _ _ hs58 => ?_); clear hs57
   refine hK23 _ _ ?_; clear hK23
   have hs59 := hs58.keep [0, 3, 4, 5, 6, 7, 8] [_, _, _, _, _, _, _] rfl; clear hs58
   have hc24 : true = true := rfl
   refine cd_cond hs59 (Ev.t 0 rfl) (fun _ => ?_) (fun h => absurd (hc24.symm.trans h) (by decide))
   refine cd_region fun K25 hK25 => ?_
   refine sq rfl (st_field (o' := 3) hs59 (Ev.t 1 rfl) rfl rfl runUnderlying25 rfl sizeOf3 rfl rfl fun _ _ hs60 => ?_); clear hs59
   refine sq rfl (st_store (l' := [.slice A n cp, .slice A2 n2 c2, .int .i64 b.count, .int .i64 200, .int .i64 b.duty, .int .i64 b.share, .int .i64 b.guar]) (vs := [.int .i64 200]) (i := 0) hs60 (Ev.t 0 rfl) (.const _) sizeOf3 rfl rfl rfl rfl rfl rfl fun _ _ hs61 => ?_); clear hs60
   have hs62 := hs61.asB [_, _] rfl; clear hs61
   refine hK25 _ _ ?_; clear hK25
   have hs63 := hs62.keep [2, 3, 4, 5, 6] [_, _, _, _, _] rfl; clear hs62
   refine cd_region fun K26 hK26 => ?_
   refine sq rfl (st_loadA (o := 0) (off := 0) (vs := [.slice A n cp, .slice A2 n2 c2, .int .i64 b.count, .int .i64 200, .int .i64 b.duty, .int .i64 b.share, .int .i64 b.guar]) hs63 (Ev.t 0 rfl) rfl rfl isAgg25 sizeOf25 (hs63.cells 0 rfl) rfl fun _ _ hs64 => ?_); clear hs63
   refine sq rfl (st_callv (vs := [.agg ⟨[.slice A n cp, .slice A2 n2 c2, .int .i64 b.count, .int .i64 200, .int .i64 b.duty, .int .i64 b.share, .int .i64 b.guar]⟩]) hs64 (.func _) ⟨(Ev.t 0 rfl), trivial⟩ rfl rfl call15 rfl (callsV_eq (v' := .tuple ⟨[.int .i64 0, .int .i64 0]⟩) (Many_v (b.setErr 200) A n cp A2 n2 c2 _ (hP.kp hs64.kp) hn (hF.kp hs64.kp) hn2) (by rw [hM2])) fun _ _ hs65 => ?_); clear hs64
   refine sq rfl (st_move hs65 (Ev.t 0 rfl) rfl rfl fun _ _ hs66 => ?_); clear hs65
   refine sq rfl (st_extract hs66 (Ev.t 0 rfl) rfl rfl rfl fun _ _ hs67 => ?_); clear hs66
   refine sq rfl (st_extract hs67 (Ev.t 1 rfl) rfl rfl rfl fun _ _ hs68 => ?_); clear hs67
   refine sq rfl (st_assign hs68 (Ev.t 1 rfl) rfl rfl fun _ _ hs69 => ?_); clear hs68
   refine sq rfl (st_assign hs69 (Ev.t 1 rfl) rfl rfl fun _ _ hs70 => ?_); clear hs69
   refine hK26 _ _ ?_; clear hK26
   have hs71 := hs70.keep [0, 1, 8, 9, 10, 11] [_, _, _, _, _, _] rfl; clear hs70
   refine cd_region fun K27 hK27 => ?_
   refine sq rfl (st_move hs71 (Ev.t 3 rfl) rfl rfl fun _ _ hs72 => ?_); clear hs71
   refine sq rfl (st_cmp (c := true) hs72 (Ev.t 0 rfl) (.const _) rfl rfl rfl rfl fun _ _ hs73 => ?_); clear hs72
   refine sq rfl (st_move hs73 (Ev.t 0 rfl) rfl rfl fun _ _ hs74 => ?_); clear hs73
   refine sq_on hs74 rfl rfl 0 rfl rfl (st_move hs74 (Ev.t 7 rfl) rfl rfl fun _ _ hs75 => ?_); clear hs74
   refine sq_on hs75 rfl rfl 1 rfl rfl (st_cmp (c := true) hs75 (Ev.t 0 rfl) (.const _) rfl rfl rfl rfl fun _ _ hs76 => ?_); clear hs75
   refine sq rfl (st_pick hs76 (Ev.t 2 rfl) rfl rfl (fun h => (Ev.t 0 rfl)) (fun h => by cases h) fun _ _ hs77 => ?_); clear hs76
   refine sq rfl (st_move hs77 (Ev.t 0 rfl) rfl rfl fun _ _ hs78 => ?_); clear hs77
   refine sq_on hs78 rfl rfl 0 rfl rfl (st_move hs78 (Ev.t 7 rfl) rfl rfl fun _ _ hs79 => ?_); clear hs78
   refine sq_on hs79 rfl rfl 1 rfl rfl (st_cmp (c := true) hs79 (Ev.t 0 rfl) (.const _) rfl rfl rfl rfl fun _ _ hs80 => ?_); clear hs79
   refine sq rfl (st_pick hs80 (Ev.t 2 rfl) rfl rfl (fun h => (Ev.t 0 rfl)) (fun h => by cases h) fun _ _ hs81 => ?_); clear hs80
   refine sq rfl (st_move hs81 (Ev.t 0 rfl) rfl rfl fun _ _ hs82 => ?_); clear hs81
   refine sq_on hs82 rfl rfl 0 rfl rfl (st_move hs82 (Ev.t 12 rfl) rfl rfl fun _ _ hs83 => ?_); clear hs82
   refine sq_on hs83 rfl rfl 1 rfl rfl (st_cmp (c := true) hs83 (Ev.t 0 rfl) (.const _) rfl rfl rfl rfl fun _ _ hs84 => ?_); clear hs83
   refine sq rfl (st_pick hs84 (Ev.t 2 rfl) rfl rfl (fun h => (Ev.t 0 rfl)) (fun h => by cases h) fun _ _ hs85 => ?_); clear hs84
   refine sq rfl (st_move hs85 (Ev.t 0 rfl) rfl rfl fun _ _ hs86 => ?_); clear hs85
   refine sq_on hs86 rfl rfl 0 rfl rfl (st_move hs86 (Ev.t 17 rfl) rfl rfl fun _ _ hs87 => ?_); clear hs86
   refine sq_on hs87 rfl rfl 1 rfl rfl (st_cmp (c := true) hs87 (Ev.t 0 rfl) (.const _) rfl rfl rfl rfl fun _ _ hs88 => ?_); clear hs87
   refine sq rfl (st_pick hs88 (Ev.t 2 rfl) rfl rfl (fun h => (Ev.t 0 rfl)) (fun h => by cases h) fun _ _ hs89 => ?_); clear hs88
   refine sq rfl (st_move hs89 (Ev.t 0 rfl) rfl rfl fun _ _ hs90 => ?_); clear hs89
   refine sq_on hs90 rfl rfl 0 rfl rfl (st_callv (vs := []) hs90 (.func _) trivial rfl rfl call14 rfl (counted_v _ (hG.kp hs90.kp (by simp))) fun _ _ hs91 => ?_); clear hs90
   refine sq rfl (st_pick hs91 (Ev.t 1 rfl) rfl rfl (fun h => (Ev.t 0 rfl)) (fun h => by cases h) fun _ _ hs92 => ?_); clear hs91
   have hs93 := hs92.keep [0, 1, 2, 3, 4, 5, 6, 7, 8, 9, 10, 11, 12, 13, 14, 15, 16, 17, 18, 19, 20, 21, 22, 23, 24, 25] [_, _, _, _, _, _, _, _, _, _, _, _, _, _, _, _, _, _, _, _, _, _, _, _, _, _] rfl; clear hs92
   refine sq rfl (st_assign hs93 (Ev.t 0 rfl) rfl rfl fun _ _ hs94 => ?_); clear hs93
   refine hK27 _ _ ?_; clear hK27
   have hs95 := hs94.keep [0] [_] rfl; clear hs94
   refine cd_retv (vs := [.bool true]) hs95 (fun a_ w_ h => th_ret (hQ0 a_ w_ h)) rfl ⟨.tmp 0 rfl, trivial⟩ ?_
   clear hs95 hQ0 hN0 hK22
   rfl
 · skip
   have hO := ok_iff.1 hok
   have her := hO.err; have hwn := wrong_nonneg hO; have htb := turn_bd (n := k) (m := 60) (by omega)
   obtain ⟨m0, m1, hM0, hM1, hm0, hm1, hmw⟩ := wrong_law hok (e1 := min 200 (b.err + turn k 60)) (by omega)
   have hW : b.wrongR = (0, 0) := by rw [Bx.wrongR, if_pos hok, hw0]; rfl
   obtain ⟨m3, hM3, hm3⟩ := wrong_has hok (e := 0) (by omega) (by omega)
   have hp : 0 < m0 := hmw.2 (by omega)
   refine cd_region fun K28 hK28 => ?_
   refine sq rfl (st_box hs0 (Ev.t 0 rfl) rfl rfl rfl fun b29 _ _ hs1 => ?_); clear hs0
   refine sq rfl (st_assign hs1 (.const _) rfl rfl fun _ _ hs2 => ?_); clear hs1
   refine hK28 _ _ ?_; clear hK28
   have hs3 := hs2.keep [0, 1, 3] [_, _, _] rfl; clear hs2
   refine cd_region fun K30 hK30 => ?_
   refine sq rfl (st_loadA (o := 0) (off := 0) (vs := (bxL b A n cp A2 n2 c2)) hs3 (Ev.t 1 rfl) rfl rfl isAgg25 sizeOf25 (hs3.cells 0 rfl) rfl fun _ _ hs4 => ?_); clear hs3
   refine sq rfl (st_callv (vs := [.agg ⟨(bxL b A n cp A2 n2 c2)⟩]) hs4 (.func _) ⟨(Ev.t 0 rfl), trivial⟩ rfl rfl call28 rfl (callsV_eq (v' := .tuple ⟨[.int .i64 0, .int .i64 0]⟩) (Wrong_v b A n cp A2 n2 c2 _ (hP.kp hs4.kp) hn (hF.kp hs4.kp) hn2) (by rw [hW])) fun _ _ hs5 => ?_); clear hs4
   refine sq rfl (st_move hs5 (Ev.t 0 rfl) rfl rfl fun _ _ hs6 => ?_); clear hs5
   refine sq rfl (st_extract hs6 (Ev.t 0 rfl) rfl rfl rfl fun _ _ hs7 => ?_); clear hs6
   refine sq rfl (st_extract hs7 (Ev.t 1 rfl) rfl rfl rfl fun _ _ hs8 => ?_); clear hs7
   refine sq rfl (st_assign hs8 (Ev.t 1 rfl) rfl rfl fun _ _ hs9 => ?_); clear hs8
   refine sq rfl (st_assign hs9 (Ev.t 1 rfl) rfl rfl fun _ _ hs10 => ?_); clear hs9
   refine hK30 _ _ ?_; clear hK30
   have hs11 := hs10.keep [0, 1, 7, 8, 9] [_, _, _, _, _] rfl; clear hs10
   refine cd_seq fun K31 hK31 => ?_
   refine cd_region fun K32 hK32 => ?_
   refine sq rfl (st_loadA (o := 0) (off := 0) (vs := (bxL b A n cp A2 n2 c2)) hs11 (Ev.t 3 rfl) rfl rfl isAgg25 sizeOf25 (hs11.cells 0 rfl) rfl fun _ _ hs12 => ?_); clear hs11
   refine sq rfl (st_callv (vs := [.agg ⟨(bxL b A n cp A2 n2 c2)⟩]) hs12 (.func _) ⟨(Ev.t 0 rfl), trivial⟩ rfl rfl call13 rfl (callsV_eq (v' := .bool true) (sound_v b A n cp A2 n2 c2 _ (hP.kp hs12.kp) hn (hF.kp hs12.kp) hn2) (by rw [hok])) fun _ _ hs13 => ?_); clear hs12
   refine sq rfl (st_not hs13 (Ev.t 0 rfl) rfl rfl fun _ _ hs14 => ?_); clear hs13
   refine hK32 _ _ ?_; clear hK32
   have hs15 := hs14.keep [0, 3, 4, 5, 6, 7] [_, _, _, _, _, _] rfl; clear hs14
   have hc33 : false = false := rfl
   refine cd_cond hs15 (Ev.t 0 rfl) (fun h => absurd (hc33.symm.trans h) (by decide)) (fun _ => ?_)
   refine cd_skip ?_
   refine th_norm (hK31 _ _ ?_)
   refine cd_region fun K34 hK34 => ?_
   refine sq rfl (st_loadA (o := 0) (off := 0) (vs := (bxL b A n cp A2 n2 c2)) hs15 (Ev.t 4 rfl) rfl rfl isAgg25 sizeOf25 (hs15.cells 0 rfl) rfl fun _ _ hs16 => ?_); clear hs15
   refine sq rfl (st_callv (vs := [.agg ⟨(bxL b A n cp A2 n2 c2)⟩]) hs16 (.func _) ⟨(Ev.t 0 rfl), trivial⟩ rfl rfl call15 rfl (callsV_eq (v' := .tuple ⟨[.int .i64 m0, .int .i64 0]⟩) (Many_v b A n cp A2 n2 c2 _ (hP.kp hs16.kp) hn (hF.kp hs16.kp) hn2) (by rw [hM0])) fun _ _ hs17 => ?_); clear hs16
   refine sq rfl (st_move hs17 (Ev.t 0 rfl) rfl rfl fun _ _ hs18 => ?_); clear hs17
   refine sq rfl (st_extract hs18 (Ev.t 0 rfl) rfl rfl rfl fun _ _ hs19 => ?_); clear hs18
   refine sq rfl (st_extract hs19 (Ev.t 1 rfl) rfl rfl rfl fun _ _ hs20 => ?_); clear hs19
   refine sq rfl (st_assign hs20 (Ev.t 1 rfl) rfl rfl fun _ _ hs21 => ?_); clear hs20
   refine sq rfl (st_assign hs21 (Ev.t 1 rfl) rfl rfl fun _ _ hs22 => ?_); clear hs21
   refine hK34 _ _ ?_; clear hK34
   have hs23 := hs22.keep [0, 1, 8, 9, 10, 11, 12] [_, _, _, _, _, _, _] rfl; clear hs22
   refine cd_region fun K35 hK35 => ?_
   refine sq rfl (st_loadA (o := 0) (off := 0) (vs := (bxL b A n cp A2 n2 c2)) hs23 (Ev.t 5 rfl) rfl rfl isAgg25 sizeOf25 (hs23.cells 0 rfl) rfl fun _ _ hs24 => ?_); clear hs23
   refine sq rfl (st_alloc hs24 rfl rfl zeroValue25 rfl fun b36 _ _ hs25 => ?_); clear hs24
   refine sq rfl (st_store (l' := (bxL b A n cp A2 n2 c2)) (vs := (bxL b A n cp A2 n2 c2)) (i := 0) hs25 (Ev.t 0 rfl) (Ev.t 1 rfl) sizeOf25 rfl rfl rfl rfl rfl rfl fun _ _ hs26 => ?_); clear hs25
   have hs27 := hs26.asB [_, _] rfl; clear hs26
   refine hK35 _ _ ?_; clear hK35
   have hs28 := hs27.keep [0, 2, 3, 4, 5, 6, 7, 8] [_, _, _, _, _, _, _, _] rfl; clear hs27
   refine cd_drawn mixed hs28 [⟨35, [], Is (.pointer (some ⟨b29, 3, none⟩))⟩, ⟨36, [0], Is (.int .i64 b.err)⟩, ⟨37, [], Is (.int .i64 k)⟩, ⟨38, [2], Is (.int .i64 (turn k 60))⟩] (by kernel_rfl) (by kernel_rfl) fun K37 hK37 => ⟨⟨?_, ?_, ?_, ?_, trivial⟩, ?_⟩
   · rintro T_ B_ a_ w_ K_ hT hB hf hsD hk
     exact ob rfl rfl (st_field (o' := 3) hsD (evT hT 6 rfl) rfl hf runUnderlying25 rfl sizeOf3 rfl rfl fun _ _ => hk _ _ _ _ ⟨rfl, rfl⟩)
   · rintro T_ B_ a_ w_ K_ hT hB _ _ ⟨rfl, rfl⟩ h35 - hf hsD hk
     exact ob rfl rfl (st_load1 (o := 0) (off := 3) (v := .int .i64 b.err) hsD (Ev.tmp h35) rfl hf isAgg3 (hsD.cellsM (inB hB 1 rfl)) rfl fun _ _ => hk _ _ _ _ ⟨rfl, rfl⟩)
   · rintro T_ B_ a_ w_ K_ hT hB hf hsD hk
     exact ob rfl rfl (st_move hsD (evT hT 7 rfl) rfl hf fun _ _ => hk _ _ _ _ ⟨rfl, rfl⟩)
   · rintro T_ B_ a_ w_ K_ hT hB _ _ ⟨rfl, rfl⟩ h37 - hf hsD hk
     exact ob rfl rfl (st_callv (vs := [.int .i64 k, .int .i64 60]) hsD (.func _) ⟨(Ev.tmp h37), (.const _), trivial⟩ rfl hf call17 rfl (turn_v k 60 (by omega) _) fun _ _ => hk _ _ _ _ ⟨rfl, rfl⟩)
   rintro _ _ ⟨rfl, rfl⟩ _ _ ⟨rfl, rfl⟩ _ _ ⟨rfl, rfl⟩ _ _ ⟨rfl, rfl⟩ a_29 w_29 hs29; clear hs28
   have hs30 := Sx.as (T' := [_, _, _, _, _, _, _, _, _, _, _, _]) (B' := [_, _]) rfl rfl hs29; clear hs29
   refine sq rfl (st_add (z := b.err + (turn k 60)) hs30 (Ev.t 1 rfl) (Ev.t 3 rfl) rfl rfl rfl (by omega) fun _ _ hs31 => ?_); clear hs30
   refine sq rfl (st_min hs31 (.const _) (Ev.t 0 rfl) rfl rfl fun _ _ hs32 => ?_); clear hs31
   refine sq rfl (st_field (o' := 3) hs32 (Ev.t 6 rfl) rfl rfl runUnderlying25 rfl sizeOf3 rfl rfl fun _ _ hs33 => ?_); clear hs32
   refine sq rfl (st_store (l' := [.slice A n cp, .slice A2 n2 c2, .int .i64 b.count, .int .i64 (min 200 (b.err + (turn k 60))), .int .i64 b.duty, .int .i64 b.share, .int .i64 b.guar]) (vs := [.int .i64 (min 200 (b.err + (turn k 60)))]) (i := 0) hs33 (Ev.t 0 rfl) (Ev.t 1 rfl) sizeOf3 rfl rfl rfl rfl rfl rfl fun _ _ hs34 => ?_); clear hs33
   have hs35 := hs34.asB [_, _] rfl; clear hs34
   refine hK37 _ _ ?_; clear hK37
   have hs36 := hs35.keep [7, 8, 9, 10, 11, 12, 13] [_, _, _, _, _, _, _] rfl; clear hs35
   refine cd_region fun K38 hK38 => ?_
   refine sq rfl (st_loadA (o := 0) (off := 0) (vs := [.slice A n cp, .slice A2 n2 c2, .int .i64 b.count, .int .i64 (min 200 (b.err + (turn k 60))), .int .i64 b.duty, .int .i64 b.share, .int .i64 b.guar]) hs36 (Ev.t 0 rfl) rfl rfl isAgg25 sizeOf25 (hs36.cells 0 rfl) rfl fun _ _ hs37 => ?_); clear hs36
   refine sq rfl (st_callv (vs := [.agg ⟨[.slice A n cp, .slice A2 n2 c2, .int .i64 b.count, .int .i64 (min 200 (b.err + (turn k 60))), .int .i64 b.duty, .int .i64 b.share, .int .i64 b.guar]⟩]) hs37 (.func _) ⟨(Ev.t 0 rfl), trivial⟩ rfl rfl call15 rfl (callsV_eq (v' := .tuple ⟨[.int .i64 m1, .int .i64 0]⟩) (Many_v (b.setErr (min 200 (b.err + (turn k 60)))) A n cp A2 n2 c2 _ (hP.kp hs37.kp) hn (hF.kp hs37.kp) hn2) (by rw [hM1])) fun _ _ hs38 => ?_); clear hs37
   refine sq rfl (st_move hs38 (Ev.t 0 rfl) rfl rfl fun _ _ hs39 => ?_); clear hs38
   refine sq rfl (st_extract hs39 (Ev.t 0 rfl) rfl rfl rfl fun _ _ hs40 => ?_); clear hs39
   refine sq rfl (st_extract hs40 (Ev.t 1 rfl) rfl rfl rfl fun _ _ hs41 => ?_); clear hs40
   refine sq rfl (st_assign hs41 (Ev.t 1 rfl) rfl rfl fun _ _ hs42 => ?_); clear hs41
   refine sq rfl (st_assign hs42 (Ev.t 1 rfl) rfl rfl fun _ _ hs43 => ?_); clear hs42
   refine hK38 _ _ ?_; clear hK38
   have hs44 := hs43.keep [0, 1, 7, 8, 9, 10, 11, 12, 13] [_, _, _, _, _, _, _, _, _] rfl; clear hs43
   refine cd_seq fun K39 hK39 => ?_
   refine cd_region fun K40 hK40 => ?_
   refine sq rfl (st_move hs44 (Ev.t 3 rfl) rfl rfl fun _ _ hs45 => ?_); clear hs44
   refine sq rfl (st_cmp (c := false) hs45 (Ev.t 0 rfl) (.const _) rfl rfl rfl rfl fun _ _ hs46 => ?_); clear hs45
   refine sq rfl (st_move hs46 (Ev.t 0 rfl) rfl rfl fun _ _ hs47 => ?_); clear hs46
   refine sq_on hs47 rfl rfl 0 rfl rfl (st_move hs47 (Ev.t 3 rfl) rfl rfl fun _ _ hs48 => ?_); clear hs47
   refine sq_on hs48 rfl rfl 1 rfl rfl (st_cmp (c := false) hs48 (Ev.t 0 rfl) (.const _) rfl rfl rfl rfl fun _ _ hs49 => ?_); clear hs48
   refine sq rfl (st_pick hs49 (Ev.t 2 rfl) rfl rfl (fun h => by cases h) (fun h => (Ev.t 0 rfl)) fun _ _ hs50 => ?_); clear hs49
   refine sq rfl (st_move hs50 (Ev.t 0 rfl) rfl rfl fun _ _ hs51 => ?_); clear hs50
   refine sq_on hs51 rfl rfl 0 rfl rfl (st_move hs51 (Ev.t 8 rfl) rfl rfl fun _ _ hs52 => ?_); clear hs51
   refine sq_on hs52 rfl rfl 1 rfl rfl (st_move hs52 (Ev.t 12 rfl) rfl rfl fun _ _ hs53 => ?_); clear hs52
   refine sq_on hs53 rfl rfl 2 rfl rfl (st_cmp (c := false) hs53 (Ev.t 1 rfl) (Ev.t 0 rfl) rfl rfl rfl (show decide ((m1 : Int) < m0) = false from decide_eq_false (by omega)) fun _ _ hs54 => ?_); clear hs53
   refine sq rfl (st_pick hs54 (Ev.t 3 rfl) rfl rfl (fun h => by cases h) (fun h => (Ev.t 0 rfl)) fun _ _ hs55 => ?_); clear hs54
   refine hK40 _ _ ?_; clear hK40
   have hs56 := hs55.keep [0, 13, 15, 16, 17, 18, 19] [_, _, _, _, _, _, _] rfl; clear hs55
   have hc41 : false = false := rfl
   refine cd_cond hs56 (Ev.t 0 rfl) (fun h => absurd (hc41.symm.trans h) (by decide)) (fun _ => ?_)
   refine cd_skip ?_
   refine th_norm (hK39 _ _ ?_)
   refine cd_seq fun K42 hK42 => ?_
   refine cd_region fun K43 hK43 => ?_
   refine sq rfl (st_move hs56 (Ev.t 3 rfl) rfl rfl fun _ _ hs57 => ?_); clear hs56
   refine sq rfl (st_cmp (c := false) hs57 (Ev.t 0 rfl) (.const _) rfl rfl rfl rfl fun _ _ hs58 => ?_); clear hs57
   refine hK43 _ _ ?_; clear hK43
   have hs59 := hs58.keep [0, 3, 4, 5, 6, 7, 8] [_, _, _, _, _, _, _] rfl; clear hs58
   have hc44 : false = false := rfl
   refine cd_cond hs59 (Ev.t 0 rfl) (fun h => absurd (hc44.symm.trans h) (by decide)) (fun _ => ?_)
   refine cd_skip ?_
   refine th_norm (hK42 _ _ ?_)
   refine cd_seq fun K45 hK45 => ?_
   refine cd_region fun K46 hK46 => ?_
   refine sq rfl (st_move hs59 (Ev.t 4 rfl) rfl rfl fun _ _ hs60 => ?_); clear hs59
   refine sq rfl (st_callv (vs := [.int .i64 0, .int .i64 0, .int .i64 200]) hs60 (.func _) ⟨(Ev.t 0 rfl), (.const _), (.const _), trivial⟩ rfl rfl call16 rfl (callsV_eq (v' := .bool true) (amid_v 0 0 200 _) (by rw [Value.bool.injEq, Till.within_iff]; omega)) fun _ _ hs61 => ?_); clear hs60
   refine sq rfl (st_not hs61 (Ev.t 0 rfl) rfl rfl fun _ _ hs62 => ?_); clear hs61
   refine sq rfl (st_move hs62 (Ev.t 0 rfl) rfl rfl fun _ _ hs63 => ?_); clear hs62
   refine sq_on hs63 rfl rfl 0 rfl rfl (st_move hs63 (Ev.t 6 rfl) rfl rfl fun _ _ hs64 => ?_); clear hs63
   refine sq_on hs64 rfl rfl 1 rfl rfl (st_cmp (c := true) hs64 (Ev.t 0 rfl) (.const _) rfl rfl rfl (show decide ((m0 : Int) > 0) = true from decide_eq_true (by omega)) fun _ _ hs65 => ?_); clear hs64
   refine sq_on hs65 rfl rfl 2 rfl rfl (st_field (o' := 3) hs65 (Ev.t 12 rfl) rfl rfl runUnderlying25 rfl sizeOf3 rfl rfl fun _ _ hs66 => ?_); clear hs65
   refine sq_on hs66 rfl rfl 3 rfl rfl (st_load1 (o := 0) (off := 3) (v := .int .i64 b.err) hs66 (Ev.t 0 rfl) rfl rfl isAgg3 (hs66.cells 1 rfl) rfl fun _ _ hs67 => ?_); clear hs66
   refine sq_on hs67 rfl rfl 4 rfl rfl (st_move hs67 (Ev.t 12 rfl) rfl rfl fun _ _ hs68 => ?_); clear hs67
   refine sq_on hs68 rfl rfl 5 rfl rfl (st_cmp (c := true) hs68 (Ev.t 1 rfl) (Ev.t 0 rfl) rfl rfl rfl (show decide ((b.err : Int) ≥ 0) = true from decide_eq_true (by omega)) fun _ _ hs69 => ?_); clear hs68
   refine sq_on hs69 rfl rfl 6 rfl rfl (st_bin (z := .bool false) hs69 (Ev.t 4 rfl) (Ev.t 0 rfl) (run_neb 4 underlying4 _ _ true true) rfl rfl fun _ _ hs70 => ?_); clear hs69
   refine sq rfl (st_pick hs70 (Ev.t 7 rfl) rfl rfl (fun h => by cases h) (fun h => (Ev.t 0 rfl)) fun _ _ hs71 => ?_); clear hs70
   refine hK46 _ _ ?_; clear hK46
   have hs72 := hs71.keep [0, 13, 16, 17] [_, _, _, _] rfl; clear hs71
   have hc47 : false = false := rfl
   refine cd_cond hs72 (Ev.t 0 rfl) (fun h => absurd (hc47.symm.trans h) (by decide)) (fun _ => ?_)
   refine cd_skip ?_
   refine th_norm (hK45 _ _ ?_)
   refine cd_region fun K48 hK48 => ?_
   refine sq rfl (st_move hs72 (Ev.t 2 rfl) rfl rfl fun _ _ hs73 => ?_); clear hs72
   refine sq rfl (st_field (o' := 3) hs73 (Ev.t 2 rfl) rfl rfl runUnderlying25 rfl sizeOf3 rfl rfl fun _ _ hs74 => ?_); clear hs73
   refine sq rfl (st_store (l' := [.slice A n cp, .slice A2 n2 c2, .int .i64 b.count, .int .i64 0, .int .i64 b.duty, .int .i64 b.share, .int .i64 b.guar]) (vs := [.int .i64 0]) (i := 0) hs74 (Ev.t 0 rfl) (Ev.t 1 rfl) sizeOf3 rfl rfl rfl rfl rfl rfl fun _ _ hs75 => ?_); clear hs74
   have hs76 := hs75.asB [_, _] rfl; clear hs75
   refine hK48 _ _ ?_; clear hK48
   have hs77 := hs76.keep [3, 4, 5] [_, _, _] rfl; clear hs76
   refine cd_region fun K49 hK49 => ?_
   refine sq rfl (st_loadA (o := 0) (off := 0) (vs := [.slice A n cp, .slice A2 n2 c2, .int .i64 b.count, .int .i64 0, .int .i64 b.duty, .int .i64 b.share, .int .i64 b.guar]) hs77 (Ev.t 0 rfl) rfl rfl isAgg25 sizeOf25 (hs77.cells 0 rfl) rfl fun _ _ hs78 => ?_); clear hs77
   refine sq rfl (st_callv (vs := [.agg ⟨[.slice A n cp, .slice A2 n2 c2, .int .i64 b.count, .int .i64 0, .int .i64 b.duty, .int .i64 b.share, .int .i64 b.guar]⟩]) hs78 (.func _) ⟨(Ev.t 0 rfl), trivial⟩ rfl rfl call15 rfl (callsV_eq (v' := .tuple ⟨[.int .i64 m3, .int .i64 0]⟩) (Many_v (b.setErr 0) A n cp A2 n2 c2 _ (hP.kp hs78.kp) hn (hF.kp hs78.kp) hn2) (by rw [hM3])) fun _ _ hs79 => ?_); clear hs78
   refine sq rfl (st_move hs79 (Ev.t 0 rfl) rfl rfl fun _ _ hs80 => ?_); clear hs79
   refine sq rfl (st_extract hs80 (Ev.t 0 rfl) rfl rfl rfl fun _ _ hs81 => ?_); clear hs80
   refine sq rfl (st_extract hs81 (Ev.t 1 rfl) rfl rfl rfl fun _ _ hs82 => ?_); clear hs81
   refine sq rfl (st_assign hs82 (Ev.t 1 rfl) rfl rfl fun _ _ hs83 => ?_); clear hs82
   refine sq rfl (st_assign hs83 (Ev.t 1 rfl) rfl rfl fun _ _ hs84 => ?_); clear hs83
   refine hK49 _ _ ?_; clear hK49
   have hs85 := hs84.keep [0, 1, 7, 8, 9] [_, _, _, _, _] rfl; clear hs84
   refine cd_seq fun K50 hK50 => ?_
   refine cd_region fun K51 hK51 => ?_
   refine sq rfl (st_move hs85 (Ev.t 0 rfl) rfl rfl fun _ _ hs86 => ?_); clear hs85
   refine sq rfl (st_cmp (c := false) hs86 (Ev.t 0 rfl) (.const _) rfl rfl rfl rfl fun _ _ hs87 => ?_); clear hs86
   refine sq rfl (st_move hs87 (Ev.t 0 rfl) rfl rfl fun _ _ hs88 => ?_); clear hs87
   refine sq_on hs88 rfl rfl 0 rfl rfl (st_move hs88 (Ev.t 4 rfl) rfl rfl fun _ _ hs89 => ?_); clear hs88
   refine sq_on hs89 rfl rfl 1 rfl rfl (st_cmp (c := false) hs89 (Ev.t 0 rfl) (.const _) rfl rfl rfl (show decide ((m3 : Int) < 1) = false from decide_eq_false (by omega)) fun _ _ hs90 => ?_); clear hs89
   refine sq rfl (st_pick hs90 (Ev.t 2 rfl) rfl rfl (fun h => by cases h) (fun h => (Ev.t 0 rfl)) fun _ _ hs91 => ?_); clear hs90
   refine hK51 _ _ ?_; clear hK51
   have hs92 := hs91.keep [0, 8, 9, 10] [_, _, _, _] rfl; clear hs91
   have hc52 : false = false := rfl
   refine cd_cond hs92 (Ev.t 0 rfl) (fun h => absurd (hc52.symm.trans h) (by decide)) (fun _ => ?_)
   refine cd_skip ?_
   refine th_norm (hK50 _ _ ?_)
   refine cd_seq fun K53 hK53 => ?_
   refine cd_region fun K54 hK54 => ?_
   refine sq rfl (st_move hs92 (Ev.t 2 rfl) rfl rfl fun _ _ hs93 => ?_); clear hs92
   refine sq rfl (st_cmp (c := true) hs93 (Ev.t 0 rfl) (.const _) rfl rfl rfl rfl fun _ _ hs94 => ?_); clear hs93
   refine hK54 _ _ ?_; clear hK54
   have hs95 := hs94.keep [0, 3, 4, 5] [_, _, _, _] rfl; clear hs94
   have hc55 : true = true := rfl
   refine cd_cond hs95 (Ev.t 0 rfl) (fun _ => ?_) (fun h => absurd (hc55.symm.trans h) (by decide))
   refine cd_region fun K56 hK56 => ?_
   refine sq rfl (st_callv (vs := []) hs95 (.func _) trivial rfl rfl call14 rfl (counted_v _ (hG.kp hs95.kp (by simp))) fun _ _ hs96 => ?_); clear hs95
   have hs97 := hs96.keep [0, 1, 2, 3] [_, _, _, _] rfl; clear hs96
   refine sq rfl (st_assign hs97 (Ev.t 0 rfl) rfl rfl fun _ _ hs98 => ?_); clear hs97
   refine hK56 _ _ ?_; clear hK56
   have hs99 := hs98.keep [0] [_] rfl; clear hs98
   refine cd_retv (vs := [.bool true]) hs99 (fun a_ w_ h => th_ret (hQ0 a_ w_ h)) rfl ⟨.tmp 0 rfl, trivial⟩ ?_
   clear hs99 hQ0 hN0 hK53
   rfl
 · skip
   have hO := ok_iff.1 hok
   have her := hO.err; have hwn := wrong_nonneg hO; have htb := turn_bd (n := k) (m := 60) (by omega)
   obtain ⟨m0, m1, hM0, hM1, hm0, hm1, hmw⟩ := wrong_law hok (e1 := min 200 (b.err + turn k 60)) (by omega)
   obtain ⟨ww, hww⟩ : ∃ z, z = b.wrongI := ⟨_, rfl⟩
   rw [← hww] at h200 hw0 hwn hmw hpp
   have hW : b.wrongR = (ww, 0) := by rw [Bx.wrongR, if_pos hok, ← hww, if_neg h200]
   obtain ⟨m3, hM3, hm3⟩ := wrong_has hok (e := ww) (by omega) (by omega)
   have hM4 := wrong_none hok (e := ww - 1) (by omega) (by omega)
   have hp : 0 < m0 := hmw.2 hpp
   refine cd_region fun K57 hK57 => ?_
   refine sq rfl (st_box hs0 (Ev.t 0 rfl) rfl rfl rfl fun b58 _ _ hs1 => ?_); clear hs0
   refine sq rfl (st_assign hs1 (.const _) rfl rfl fun _ _ hs2 => ?_); clear hs1
   refine hK57 _ _ ?_; clear hK57
   have hs3 := hs2.keep [0, 1, 3] [_, _, _] rfl; clear hs2
   refine cd_region fun K59 hK59 => ?_
   refine sq rfl (st_loadA (o := 0) (off := 0) (vs := (bxL b A n cp A2 n2 c2)) hs3 (Ev.t 1 rfl) rfl rfl isAgg25 sizeOf25 (hs3.cells 0 rfl) rfl fun _ _ hs4 => ?_); clear hs3
   refine sq rfl (st_callv (vs := [.agg ⟨(bxL b A n cp A2 n2 c2)⟩]) hs4 (.func _) ⟨(Ev.t 0 rfl), trivial⟩ rfl rfl call28 rfl (callsV_eq (v' := .tuple ⟨[.int .i64 ww, .int .i64 0]⟩) (Wrong_v b A n cp A2 n2 c2 _ (hP.kp hs4.kp) hn (hF.kp hs4.kp) hn2) (by rw [hW])) fun _ _ hs5 => ?_); clear hs4
   refine sq rfl (st_move hs5 (Ev.t 0 rfl) rfl rfl fun _ _ hs6 => ?_); clear hs5
   refine sq rfl (st_extract hs6 (Ev.t 0 rfl) rfl rfl rfl fun _ _ hs7 => ?_); clear hs6
   refine sq rfl (st_extract hs7 (Ev.t 1 rfl) rfl rfl rfl fun _ _ hs8 => ?_); clear hs7
   refine sq rfl (st_assign hs8 (Ev.t 1 rfl) rfl rfl fun _ _ hs9 => ?_); clear hs8
   refine sq rfl (st_assign hs9 (Ev.t 1 rfl) rfl rfl fun _ _ hs10 => ?_); clear hs9
   refine hK59 _ _ ?_; clear hK59
   have hs11 := hs10.keep [0, 1, 7, 8, 9] [_, _, _, _, _] rfl; clear hs10
   refine cd_seq fun K60 hK60 => ?_
   refine cd_region fun K61 hK61 => ?_
   refine sq rfl (st_loadA (o := 0) (off := 0) (vs := (bxL b A n cp A2 n2 c2)) hs11 (Ev.t 3 rfl) rfl rfl isAgg25 sizeOf25 (hs11.cells 0 rfl) rfl fun _ _ hs12 => ?_); clear hs11
   refine sq rfl (st_callv (vs := [.agg ⟨(bxL b A n cp A2 n2 c2)⟩]) hs12 (.func _) ⟨(Ev.t 0 rfl), trivial⟩ rfl rfl call13 rfl (callsV_eq (v' := .bool true) (sound_v b A n cp A2 n2 c2 _ (hP.kp hs12.kp) hn (hF.kp hs12.kp) hn2) (by rw [hok])) fun _ _ hs13 => ?_); clear hs12
   refine sq rfl (st_not hs13 (Ev.t 0 rfl) rfl rfl fun _ _ hs14 => ?_); clear hs13
   refine hK61 _ _ ?_; clear hK61
   have hs15 := hs14.keep [0, 3, 4, 5, 6, 7] [_, _, _, _, _, _] rfl; clear hs14
   have hc62 : false = false := rfl
   refine cd_cond hs15 (Ev.t 0 rfl) (fun h => absurd (hc62.symm.trans h) (by decide)) (fun _ => ?_)
   refine cd_skip ?_
   refine th_norm (hK60 _ _ ?_)
   refine cd_region fun K63 hK63 => ?_
   refine sq rfl (st_loadA (o := 0) (off := 0) (vs := (bxL b A n cp A2 n2 c2)) hs15 (Ev.t 4 rfl) rfl rfl isAgg25 sizeOf25 (hs15.cells 0 rfl) rfl fun _ _ hs16 => ?_); clear hs15
   refine sq rfl (st_callv (vs := [.agg ⟨(bxL b A n cp A2 n2 c2)⟩]) hs16 (.func _) ⟨(Ev.t 0 rfl), trivial⟩ rfl rfl call15 rfl (callsV_eq (v' := .tuple ⟨[.int .i64 m0, .int .i64 0]⟩) (Many_v b A n cp A2 n2 c2 _ (hP.kp hs16.kp) hn (hF.kp hs16.kp) hn2) (by rw [hM0])) fun _ _ hs17 => ?_); clear hs16
   refine sq rfl (st_move hs17 (Ev.t 0 rfl) rfl rfl fun _ _ hs18 => ?_); clear hs17
   refine sq rfl (st_extract hs18 (Ev.t 0 rfl) rfl rfl rfl fun _ _ hs19 => ?_); clear hs18
   refine sq rfl (st_extract hs19 (Ev.t 1 rfl) rfl rfl rfl fun _ _ hs20 => ?_); clear hs19
   refine sq rfl (st_assign hs20 (Ev.t 1 rfl) rfl rfl fun _ _ hs21 => ?_); clear hs20
   refine sq rfl (st_assign hs21 (Ev.t 1 rfl) rfl rfl fun _ _ hs22 => ?_); clear hs21
   refine hK63 _ _ ?_; clear hK63
   have hs23 := hs22.keep [0, 1, 8, 9, 10, 11, 12] [_, _, _, _, _, _, _] rfl; clear hs22
   refine cd_region fun K64 hK64 => ?_
   refine sq rfl (st_loadA (o := 0) (off := 0) (vs := (bxL b A n cp A2 n2 c2)) hs23 (Ev.t 5 rfl) rfl rfl isAgg25 sizeOf25 (hs23.cells 0 rfl) rfl fun _ _ hs24 => ?_); clear hs23
   refine sq rfl (st_alloc hs24 rfl rfl zeroValue25 rfl fun b65 _ _ hs25 => ?_); clear hs24
   refine sq rfl (st_store (l' := (bxL b A n cp A2 n2 c2)) (vs := (bxL b A n cp A2 n2 c2)) (i := 0) hs25 (Ev.t 0 rfl) (Ev.t 1 rfl) sizeOf25 rfl rfl rfl rfl rfl rfl fun _ _ hs26 => ?_); clear hs25
   have hs27 := hs26.asB [_, _] rfl; clear hs26
   refine hK64 _ _ ?_; clear hK64
   have hs28 := hs27.keep [0, 2, 3, 4, 5, 6, 7, 8] [_, _, _, _, _, _, _, _] rfl; clear hs27
   refine cd_drawn mixed hs28 [⟨35, [], Is (.pointer (some ⟨b58, 3, none⟩))⟩, ⟨36, [0], Is (.int .i64 b.err)⟩, ⟨37, [], Is (.int .i64 k)⟩, ⟨38, [2], Is (.int .i64 (turn k 60))⟩] (by kernel_rfl) (by kernel_rfl) fun K66 hK66 => ⟨⟨?_, ?_, ?_, ?_, trivial⟩, ?_⟩
   · rintro T_ B_ a_ w_ K_ hT hB hf hsD hk
     exact ob rfl rfl (st_field (o' := 3) hsD (evT hT 6 rfl) rfl hf runUnderlying25 rfl sizeOf3 rfl rfl fun _ _ => hk _ _ _ _ ⟨rfl, rfl⟩)
   · rintro T_ B_ a_ w_ K_ hT hB _ _ ⟨rfl, rfl⟩ h35 - hf hsD hk
     exact ob rfl rfl (st_load1 (o := 0) (off := 3) (v := .int .i64 b.err) hsD (Ev.tmp h35) rfl hf isAgg3 (hsD.cellsM (inB hB 1 rfl)) rfl fun _ _ => hk _ _ _ _ ⟨rfl, rfl⟩)
   · rintro T_ B_ a_ w_ K_ hT hB hf hsD hk
     exact ob rfl rfl (st_move hsD (evT hT 7 rfl) rfl hf fun _ _ => hk _ _ _ _ ⟨rfl, rfl⟩)
   · rintro T_ B_ a_ w_ K_ hT hB _ _ ⟨rfl, rfl⟩ h37 - hf hsD hk
     exact ob rfl rfl (st_callv (vs := [.int .i64 k, .int .i64 60]) hsD (.func _) ⟨(Ev.tmp h37), (.const _), trivial⟩ rfl hf call17 rfl (turn_v k 60 (by omega) _) fun _ _ => hk _ _ _ _ ⟨rfl, rfl⟩)
   rintro _ _ ⟨rfl, rfl⟩ _ _ ⟨rfl, rfl⟩ _ _ ⟨rfl, rfl⟩ _ _ ⟨rfl, rfl⟩ a_29 w_29 hs29; clear hs28
   have hs30 := Sx.as (T' := [_, _, _, _, _, _, _, _, _, _, _, _]) (B' := [_, _]) rfl rfl hs29; clear hs29
   refine sq rfl (st_add (z := b.err + (turn k 60)) hs30 (Ev.t 1 rfl) (Ev.t 3 rfl) rfl rfl rfl (by omega) fun _ _ hs31 => ?_); clear hs30
   refine sq rfl (st_min hs31 (.const _) (Ev.t 0 rfl) rfl rfl fun _ _ hs32 => ?_); clear hs31
   refine sq rfl (st_field (o' := 3) hs32 (Ev.t 6 rfl) rfl rfl runUnderlying25 rfl sizeOf3 rfl rfl fun _ _ hs33 => ?_); clear hs32
   refine sq rfl (st_store (l' := [.slice A n cp, .slice A2 n2 c2, .int .i64 b.count, .int .i64 (min 200 (b.err + (turn k 60))), .int .i64 b.duty, .int .i64 b.share, .int .i64 b.guar]) (vs := [.int .i64 (min 200 (b.err + (turn k 60)))]) (i := 0) hs33 (Ev.t 0 rfl) (Ev.t 1 rfl) sizeOf3 rfl rfl rfl rfl rfl rfl fun _ _ hs34 => ?_); clear hs33
   have hs35 := hs34.asB [_, _] rfl; clear hs34
   refine hK66 _ _ ?_; clear hK66
   have hs36 := hs35.keep [7, 8, 9, 10, 11, 12, 13] [_, _, _, _, _, _, _] rfl; clear hs35
   refine cd_region fun K67 hK67 => ?_
   refine sq rfl (st_loadA (o := 0) (off := 0) (vs := [.slice A n cp, .slice A2 n2 c2, .int .i64 b.count, .int .i64 (min 200 (b.err + (turn k 60))), .int .i64 b.duty, .int .i64 b.share, .int .i64 b.guar]) hs36 (Ev.t 0 rfl) rfl rfl isAgg25 sizeOf25 (hs36.cells 0 rfl) rfl fun _ _ hs37 => ?_); clear hs36
   refine sq rfl (st_callv (vs := [.agg ⟨[.slice A n cp, .slice A2 n2 c2, .int .i64 b.count, .int .i64 (min 200 (b.err + (turn k 60))), .int .i64 b.duty, .int .i64 b.share, .int .i64 b.guar]⟩]) hs37 (.func _) ⟨(Ev.t 0 rfl), trivial⟩ rfl rfl call15 rfl (callsV_eq (v' := .tuple ⟨[.int .i64 m1, .int .i64 0]⟩) (Many_v (b.setErr (min 200 (b.err + (turn k 60)))) A n cp A2 n2 c2 _ (hP.kp hs37.kp) hn (hF.kp hs37.kp) hn2) (by rw [hM1])) fun _ _ hs38 => ?_); clear hs37
   refine sq rfl (st_move hs38 (Ev.t 0 rfl) rfl rfl fun _ _ hs39 => ?_); clear hs38
   refine sq rfl (st_extract hs39 (Ev.t 0 rfl) rfl rfl rfl fun _ _ hs40 => ?_); clear hs39
   refine sq rfl (st_extract hs40 (Ev.t 1 rfl) rfl rfl rfl fun _ _ hs41 => ?_); clear hs40
   refine sq rfl (st_assign hs41 (Ev.t 1 rfl) rfl rfl fun _ _ hs42 => ?_); clear hs41
   refine sq rfl (st_assign hs42 (Ev.t 1 rfl) rfl rfl fun _ _ hs43 => ?_); clear hs42
   refine hK67 _ _ ?_; clear hK67
   have hs44 := hs43.keep [0, 1, 7, 8, 9, 10, 11, 12, 13] [_, _, _, _, _, _, _, _, _] rfl; clear hs43
   refine cd_seq fun K68 hK68 => ?_
   refine cd_region fun K69 hK69 => ?_
   refine sq rfl (st_move hs44 (Ev.t 3 rfl) rfl rfl fun _ _ hs45 => ?_); clear hs44
   refine sq rfl (st_cmp (c := false) hs45 (Ev.t 0 rfl) (.const _) rfl rfl rfl rfl fun _ _ hs46 => ?_); clear hs45
   refine sq rfl (st_move hs46 (Ev.t 0 rfl) rfl rfl fun _ _ hs47 => ?_); clear hs46
   refine sq_on hs47 rfl rfl 0 rfl rfl (st_move hs47 (Ev.t 3 rfl) rfl rfl fun _ _ hs48 => ?_); clear hs47
   refine sq_on hs48 rfl rfl 1 rfl rfl (st_cmp (c := false) hs48 (Ev.t 0 rfl) (.const _) rfl rfl rfl rfl fun _ _ hs49 => ?_); clear hs48
   refine sq rfl (st_pick hs49 (Ev.t 2 rfl) rfl rfl (fun h => by cases h) (fun h => (Ev.t 0 rfl)) fun _ _ hs50 => ?_); clear hs49
   refine sq rfl (st_move hs50 (Ev.t 0 rfl) rfl rfl fun _ _ hs51 => ?_); clear hs50
   refine sq_on hs51 rfl rfl 0 rfl rfl (st_move hs51 (Ev.t 8 rfl) rfl rfl fun _ _ hs52 => ?_); clear hs51
   refine sq_on hs52 rfl rfl 1 rfl rfl (st_move hs52 (Ev.t 12 rfl) rfl rfl fun _ _ hs53 => ?_); clear hs52
   refine sq_on hs53 rfl rfl 2 rfl rfl (st_cmp (c := false) hs53 (Ev.t 1 rfl) (Ev.t 0 rfl) rfl rfl rfl (show decide ((m1 : Int) < m0) = false from decide_eq_false (by omega)) fun _ _ hs54 => ?_); clear hs53
   refine sq rfl (st_pick hs54 (Ev.t 3 rfl) rfl rfl (fun h => by cases h) (fun h => (Ev.t 0 rfl)) fun _ _ hs55 => ?_); clear hs54
   refine hK69 _ _ ?_; clear hK69
   have hs56 := hs55.keep [0, 13, 15, 16, 17, 18, 19] [_, _, _, _, _, _, _] rfl; clear hs55
   have hc70 : false = false := rfl
   refine cd_cond hs56 (Ev.t 0 rfl) (fun h => absurd (hc70.symm.trans h) (by decide)) (fun _ => ?_)
   refine cd_skip ?_
   refine th_norm (hK68 _ _ ?_)
   refine cd_seq fun K71 hK71 => ?_
   refine cd_region fun K72 hK72 => ?_
   refine sq rfl (st_move hs56 (Ev.t 3 rfl) rfl rfl fun _ _ hs57 => ?_); clear hs56
   refine sq rfl (st_cmp (c := false) hs57 (Ev.t 0 rfl) (.const _) rfl rfl rfl rfl fun _ _ hs58 => ?_); clear hs57
   refine hK72 _ _ ?_; clear hK72
   have hs59 := hs58.keep [0, 3, 4, 5, 6, 7, 8] [_, _, _, _, _, _, _] rfl; clear hs58
   have hc73 : false = false := rfl
   refine cd_cond hs59 (Ev.t 0 rfl) (fun h => absurd (hc73.symm.trans h) (by decide)) (fun _ => ?_)
   refine cd_skip ?_
   refine th_norm (hK71 _ _ ?_)
   refine cd_seq fun K74 hK74 => ?_
   refine cd_region fun K75 hK75 => ?_
   refine sq rfl (st_move hs59 (Ev.t 4 rfl) rfl rfl fun _ _ hs60 => ?_); clear hs59
   refine sq rfl (st_callv (vs := [.int .i64 ww, .int .i64 0, .int .i64 200]) hs60 (.func _) ⟨(Ev.t 0 rfl), (.const _), (.const _), trivial⟩ rfl rfl call16 rfl (callsV_eq (v' := .bool true) (amid_v ww 0 200 _) (by rw [Value.bool.injEq, Till.within_iff]; omega)) fun _ _ hs61 => ?_); clear hs60
   refine sq rfl (st_not hs61 (Ev.t 0 rfl) rfl rfl fun _ _ hs62 => ?_); clear hs61
   refine sq rfl (st_move hs62 (Ev.t 0 rfl) rfl rfl fun _ _ hs63 => ?_); clear hs62
   refine sq_on hs63 rfl rfl 0 rfl rfl (st_move hs63 (Ev.t 6 rfl) rfl rfl fun _ _ hs64 => ?_); clear hs63
   refine sq_on hs64 rfl rfl 1 rfl rfl (st_cmp (c := true) hs64 (Ev.t 0 rfl) (.const _) rfl rfl rfl (show decide ((m0 : Int) > 0) = true from decide_eq_true (by omega)) fun _ _ hs65 => ?_); clear hs64
   refine sq_on hs65 rfl rfl 2 rfl rfl (st_field (o' := 3) hs65 (Ev.t 12 rfl) rfl rfl runUnderlying25 rfl sizeOf3 rfl rfl fun _ _ hs66 => ?_); clear hs65
   refine sq_on hs66 rfl rfl 3 rfl rfl (st_load1 (o := 0) (off := 3) (v := .int .i64 b.err) hs66 (Ev.t 0 rfl) rfl rfl isAgg3 (hs66.cells 1 rfl) rfl fun _ _ hs67 => ?_); clear hs66
   refine sq_on hs67 rfl rfl 4 rfl rfl (st_move hs67 (Ev.t 12 rfl) rfl rfl fun _ _ hs68 => ?_); clear hs67
   refine sq_on hs68 rfl rfl 5 rfl rfl (st_cmp (c := true) hs68 (Ev.t 1 rfl) (Ev.t 0 rfl) rfl rfl rfl (show decide ((b.err : Int) ≥ ww) = true from decide_eq_true (by omega)) fun _ _ hs69 => ?_); clear hs68
   refine sq_on hs69 rfl rfl 6 rfl rfl (st_bin (z := .bool false) hs69 (Ev.t 4 rfl) (Ev.t 0 rfl) (run_neb 4 underlying4 _ _ true true) rfl rfl fun _ _ hs70 => ?_); clear hs69
   refine sq rfl (st_pick hs70 (Ev.t 7 rfl) rfl rfl (fun h => by cases h) (fun h => (Ev.t 0 rfl)) fun _ _ hs71 => ?_); clear hs70
   refine hK75 _ _ ?_; clear hK75
   have hs72 := hs71.keep [0, 13, 16, 17] [_, _, _, _] rfl; clear hs71
   have hc76 : false = false := rfl
   refine cd_cond hs72 (Ev.t 0 rfl) (fun h => absurd (hc76.symm.trans h) (by decide)) (fun _ => ?_)
   refine cd_skip ?_
   refine th_norm (hK74 _ _ ?_)
   refine cd_region fun K77 hK77 => ?_
   refine sq rfl (st_move hs72 (Ev.t 2 rfl) rfl rfl fun _ _ hs73 => ?_); clear hs72
   refine sq rfl (st_field (o' := 3) hs73 (Ev.t 2 rfl) rfl rfl runUnderlying25 rfl sizeOf3 rfl rfl fun _ _ hs74 => ?_); clear hs73
   refine sq rfl (st_store (l' := [.slice A n cp, .slice A2 n2 c2, .int .i64 b.count, .int .i64 ww, .int .i64 b.duty, .int .i64 b.share, .int .i64 b.guar]) (vs := [.int .i64 ww]) (i := 0) hs74 (Ev.t 0 rfl) (Ev.t 1 rfl) sizeOf3 rfl rfl rfl rfl rfl rfl fun _ _ hs75 => ?_); clear hs74
   have hs76 := hs75.asB [_, _] rfl; clear hs75
   refine hK77 _ _ ?_; clear hK77
   have hs77 := hs76.keep [3, 4, 5] [_, _, _] rfl; clear hs76
   refine cd_region fun K78 hK78 => ?_
   refine sq rfl (st_loadA (o := 0) (off := 0) (vs := [.slice A n cp, .slice A2 n2 c2, .int .i64 b.count, .int .i64 ww, .int .i64 b.duty, .int .i64 b.share, .int .i64 b.guar]) hs77 (Ev.t 0 rfl) rfl rfl isAgg25 sizeOf25 (hs77.cells 0 rfl) rfl fun _ _ hs78 => ?_); clear hs77
   refine sq rfl (st_callv (vs := [.agg ⟨[.slice A n cp, .slice A2 n2 c2, .int .i64 b.count, .int .i64 ww, .int .i64 b.duty, .int .i64 b.share, .int .i64 b.guar]⟩]) hs78 (.func _) ⟨(Ev.t 0 rfl), trivial⟩ rfl rfl call15 rfl (callsV_eq (v' := .tuple ⟨[.int .i64 m3, .int .i64 0]⟩) (Many_v (b.setErr ww) A n cp A2 n2 c2 _ (hP.kp hs78.kp) hn (hF.kp hs78.kp) hn2) (by rw [hM3])) fun _ _ hs79 => ?_); clear hs78
   refine sq rfl (st_move hs79 (Ev.t 0 rfl) rfl rfl fun _ _ hs80 => ?_); clear hs79
   refine sq rfl (st_extract hs80 (Ev.t 0 rfl) rfl rfl rfl fun _ _ hs81 => ?_); clear hs80
   refine sq rfl (st_extract hs81 (Ev.t 1 rfl) rfl rfl rfl fun _ _ hs82 => ?_); clear hs81
   refine sq rfl (st_assign hs82 (Ev.t 1 rfl) rfl rfl fun _ _ hs83 => ?_); clear hs82
   refine sq rfl (st_assign hs83 (Ev.t 1 rfl) rfl rfl fun _ _ hs84 => ?_); clear hs83
   refine hK78 _ _ ?_; clear hK78
   have hs85 := hs84.keep [0, 1, 7, 8, 9] [_, _, _, _, _] rfl; clear hs84
   refine cd_seq fun K79 hK79 => ?_
   refine cd_region fun K80 hK80 => ?_
   refine sq rfl (st_move hs85 (Ev.t 0 rfl) rfl rfl fun _ _ hs86 => ?_); clear hs85
   refine sq rfl (st_cmp (c := false) hs86 (Ev.t 0 rfl) (.const _) rfl rfl rfl rfl fun _ _ hs87 => ?_); clear hs86
   refine sq rfl (st_move hs87 (Ev.t 0 rfl) rfl rfl fun _ _ hs88 => ?_); clear hs87
   refine sq_on hs88 rfl rfl 0 rfl rfl (st_move hs88 (Ev.t 4 rfl) rfl rfl fun _ _ hs89 => ?_); clear hs88
   refine sq_on hs89 rfl rfl 1 rfl rfl (st_cmp (c := false) hs89 (Ev.t 0 rfl) (.const _) rfl rfl rfl (show decide ((m3 : Int) < 1) = false from decide_eq_false (by omega)) fun _ _ hs90 => ?_); clear hs89
   refine sq rfl (st_pick hs90 (Ev.t 2 rfl) rfl rfl (fun h => by cases h) (fun h => (Ev.t 0 rfl)) fun _ _ hs91 => ?_); clear hs90
   refine hK80 _ _ ?_; clear hK80
   have hs92 := hs91.keep [0, 8, 9, 10] [_, _, _, _] rfl; clear hs91
   have hc81 : false = false := rfl
   refine cd_cond hs92 (Ev.t 0 rfl) (fun h => absurd (hc81.symm.trans h) (by decide)) (fun _ => ?_)
   refine cd_skip ?_
   refine th_norm (hK79 _ _ ?_)
   refine cd_seq fun K82 hK82 => ?_
   refine cd_region fun K83 hK83 => ?_
   refine sq rfl (st_move hs92 (Ev.t 2 rfl) rfl rfl fun _ _ hs93 => ?_); clear hs92
   refine sq rfl (st_cmp (c := false) hs93 (Ev.t 0 rfl) (.const _) rfl rfl rfl (show ((ww : Int) == 0) = false from by simp only [beq_eq_false_iff_ne]; omega) fun _ _ hs94 => ?_); clear hs93
   refine hK83 _ _ ?_; clear hK83
   have hs95 := hs94.keep [0, 3, 4, 5] [_, _, _, _] rfl; clear hs94
   have hc84 : false = false := rfl
   refine cd_cond hs95 (Ev.t 0 rfl) (fun h => absurd (hc84.symm.trans h) (by decide)) (fun _ => ?_)
   refine cd_skip ?_
   refine th_norm (hK82 _ _ ?_)
   refine cd_region fun K85 hK85 => ?_
   refine sq rfl (st_move hs95 (Ev.t 2 rfl) rfl rfl fun _ _ hs96 => ?_); clear hs95
   refine sq rfl (st_sub (z := ww - 1) hs96 (Ev.t 0 rfl) (.const _) rfl rfl rfl (by omega) fun _ _ hs97 => ?_); clear hs96
   refine sq rfl (st_field (o' := 3) hs97 (Ev.t 3 rfl) rfl rfl runUnderlying25 rfl sizeOf3 rfl rfl fun _ _ hs98 => ?_); clear hs97
   refine sq rfl (st_store (l' := [.slice A n cp, .slice A2 n2 c2, .int .i64 b.count, .int .i64 (ww - 1), .int .i64 b.duty, .int .i64 b.share, .int .i64 b.guar]) (vs := [.int .i64 (ww - 1)]) (i := 0) hs98 (Ev.t 0 rfl) (Ev.t 1 rfl) sizeOf3 rfl rfl rfl rfl rfl rfl fun _ _ hs99 => ?_); clear hs98
   have hs100 := hs99.asB [_, _] rfl; clear hs99
   refine hK85 _ _ ?_; clear hK85
   have hs101 := hs100.keep [4, 6] [_, _] rfl; clear hs100
   refine cd_region fun K86 hK86 => ?_
   refine sq rfl (st_loadA (o := 0) (off := 0) (vs := [.slice A n cp, .slice A2 n2 c2, .int .i64 b.count, .int .i64 (ww - 1), .int .i64 b.duty, .int .i64 b.share, .int .i64 b.guar]) hs101 (Ev.t 0 rfl) rfl rfl isAgg25 sizeOf25 (hs101.cells 0 rfl) rfl fun _ _ hs102 => ?_); clear hs101
   refine sq rfl (st_callv (vs := [.agg ⟨[.slice A n cp, .slice A2 n2 c2, .int .i64 b.count, .int .i64 (ww - 1), .int .i64 b.duty, .int .i64 b.share, .int .i64 b.guar]⟩]) hs102 (.func _) ⟨(Ev.t 0 rfl), trivial⟩ rfl rfl call15 rfl (callsV_eq (v' := .tuple ⟨[.int .i64 0, .int .i64 0]⟩) (Many_v (b.setErr (ww - 1)) A n cp A2 n2 c2 _ (hP.kp hs102.kp) hn (hF.kp hs102.kp) hn2) (by rw [hM4])) fun _ _ hs103 => ?_); clear hs102
   refine sq rfl (st_move hs103 (Ev.t 0 rfl) rfl rfl fun _ _ hs104 => ?_); clear hs103
   refine sq rfl (st_extract hs104 (Ev.t 0 rfl) rfl rfl rfl fun _ _ hs105 => ?_); clear hs104
   refine sq rfl (st_extract hs105 (Ev.t 1 rfl) rfl rfl rfl fun _ _ hs106 => ?_); clear hs105
   refine sq rfl (st_assign hs106 (Ev.t 1 rfl) rfl rfl fun _ _ hs107 => ?_); clear hs106
   refine sq rfl (st_assign hs107 (Ev.t 1 rfl) rfl rfl fun _ _ hs108 => ?_); clear hs107
   refine hK86 _ _ ?_; clear hK86
   have hs109 := hs108.keep [0, 1, 8] [_, _, _] rfl; clear hs108
   refine cd_region fun K87 hK87 => ?_
   refine sq rfl (st_move hs109 (Ev.t 0 rfl) rfl rfl fun _ _ hs110 => ?_); clear hs109
   refine sq rfl (st_cmp (c := true) hs110 (Ev.t 0 rfl) (.const _) rfl rfl rfl rfl fun _ _ hs111 => ?_); clear hs110
   refine sq rfl (st_move hs111 (Ev.t 0 rfl) rfl rfl fun _ _ hs112 => ?_); clear hs111
   refine sq_on hs112 rfl rfl 0 rfl rfl (st_move hs112 (Ev.t 4 rfl) rfl rfl fun _ _ hs113 => ?_); clear hs112
   refine sq_on hs113 rfl rfl 1 rfl rfl (st_cmp (c := true) hs113 (Ev.t 0 rfl) (.const _) rfl rfl rfl rfl fun _ _ hs114 => ?_); clear hs113
   refine sq rfl (st_pick hs114 (Ev.t 2 rfl) rfl rfl (fun h => (Ev.t 0 rfl)) (fun h => by cases h) fun _ _ hs115 => ?_); clear hs114
   refine sq rfl (st_move hs115 (Ev.t 0 rfl) rfl rfl fun _ _ hs116 => ?_); clear hs115
   refine sq_on hs116 rfl rfl 0 rfl rfl (st_callv (vs := []) hs116 (.func _) trivial rfl rfl call14 rfl (counted_v _ (hG.kp hs116.kp (by simp))) fun _ _ hs117 => ?_); clear hs116
   refine sq rfl (st_pick hs117 (Ev.t 1 rfl) rfl rfl (fun h => (Ev.t 0 rfl)) (fun h => by cases h) fun _ _ hs118 => ?_); clear hs117
   have hs119 := hs118.keep [0, 1, 2, 3, 4, 5, 6, 7, 8, 9, 10] [_, _, _, _, _, _, _, _, _, _, _] rfl; clear hs118
   refine sq rfl (st_assign hs119 (Ev.t 0 rfl) rfl rfl fun _ _ hs120 => ?_); clear hs119
   refine hK87 _ _ ?_; clear hK87
   have hs121 := hs120.keep [0] [_] rfl; clear hs120
   refine cd_retv (vs := [.bool true]) hs121 hQ0 rfl ⟨.tmp 0 rfl, trivial⟩ ?_
   clear hs121 hQ0 hN0
   rfl
 · skip
   have hO := ok_iff.1 hok
   have her := hO.err; have hwn := wrong_nonneg hO; have htb := turn_bd (n := k) (m := 60) (by omega)
   obtain ⟨m0, m1, hM0, hM1, hm0, hm1, hmw⟩ := wrong_law hok (e1 := min 200 (b.err + turn k 60)) (by omega)
   obtain ⟨ww, hww⟩ : ∃ z, z = b.wrongI := ⟨_, rfl⟩
   rw [← hww] at h200 hw0 hwn hmw hpp
   have hW : b.wrongR = (ww, 0) := by rw [Bx.wrongR, if_pos hok, ← hww, if_neg h200]
   obtain ⟨m3, hM3, hm3⟩ := wrong_has hok (e := ww) (by omega) (by omega)
   have hM4 := wrong_none hok (e := ww - 1) (by omega) (by omega)
   have hp : ¬ 0 < m0 := fun h => hpp (hmw.1 h)
   obtain rfl : m0 = 0 := by omega
   refine cd_region fun K88 hK88 => ?_
   refine sq rfl (st_box hs0 (Ev.t 0 rfl) rfl rfl rfl fun b89 _ _ hs1 => ?_); clear hs0
   refine sq rfl (st_assign hs1 (.const _) rfl rfl fun _ _ hs2 => ?_); clear hs1
   refine hK88 _ _ ?_; clear hK88
   have hs3 := hs2.keep [0, 1, 3] [_, _, _] rfl; clear hs2
   refine cd_region fun K90 hK90 => ?_
   refine sq rfl (st_loadA (o := 0) (off := 0) (vs := (bxL b A n cp A2 n2 c2)) hs3 (Ev.t 1 rfl) rfl rfl isAgg25 sizeOf25 (hs3.cells 0 rfl) rfl fun _ _ hs4 => ?_); clear hs3
   refine sq rfl (st_callv (vs := [.agg ⟨(bxL b A n cp A2 n2 c2)⟩]) hs4 (.func _) ⟨(Ev.t 0 rfl), trivial⟩ rfl rfl call28 rfl (callsV_eq (v' := .tuple ⟨[.int .i64 ww, .int .i64 0]⟩) (Wrong_v b A n cp A2 n2 c2 _ (hP.kp hs4.kp) hn (hF.kp hs4.kp) hn2) (by rw [hW])) fun _ _ hs5 => ?_); clear hs4
   refine sq rfl (st_move hs5 (Ev.t 0 rfl) rfl rfl fun _ _ hs6 => ?_); clear hs5
   refine sq rfl (st_extract hs6 (Ev.t 0 rfl) rfl rfl rfl fun _ _ hs7 => ?_); clear hs6
   refine sq rfl (st_extract hs7 (Ev.t 1 rfl) rfl rfl rfl fun _ _ hs8 => ?_); clear hs7
   refine sq rfl (st_assign hs8 (Ev.t 1 rfl) rfl rfl fun _ _ hs9 => ?_); clear hs8
   refine sq rfl (st_assign hs9 (Ev.t 1 rfl) rfl rfl fun _ _ hs10 => ?_); clear hs9
   refine hK90 _ _ ?_; clear hK90
   have hs11 := hs10.keep [0, 1, 7, 8, 9] [_, _, _, _, _] rfl; clear hs10
   refine cd_seq fun K91 hK91 => ?_
   refine cd_region fun K92 hK92 => ?_
   refine sq rfl (st_loadA (o := 0) (off := 0) (vs := (bxL b A n cp A2 n2 c2)) hs11 (Ev.t 3 rfl) rfl rfl isAgg25 sizeOf25 (hs11.cells 0 rfl) rfl fun _ _ hs12 => ?_); clear hs11
   refine sq rfl (st_callv (vs := [.agg ⟨(bxL b A n cp A2 n2 c2)⟩]) hs12 (.func _) ⟨(Ev.t 0 rfl), trivial⟩ rfl rfl call13 rfl (callsV_eq (v' := .bool true) (sound_v b A n cp A2 n2 c2 _ (hP.kp hs12.kp) hn (hF.kp hs12.kp) hn2) (by rw [hok])) fun _ _ hs13 => ?_); clear hs12
   refine sq rfl (st_not hs13 (Ev.t 0 rfl) rfl rfl fun _ _ hs14 => ?_); clear hs13
   refine hK92 _ _ ?_; clear hK92
   have hs15 := hs14.keep [0, 3, 4, 5, 6, 7] [_, _, _, _, _, _] rfl; clear hs14
   have hc93 : false = false := rfl
   refine cd_cond hs15 (Ev.t 0 rfl) (fun h => absurd (hc93.symm.trans h) (by decide)) (fun _ => ?_)
   refine cd_skip ?_
   refine th_norm (hK91 _ _ ?_)
   refine cd_region fun K94 hK94 => ?_
   refine sq rfl (st_loadA (o := 0) (off := 0) (vs := (bxL b A n cp A2 n2 c2)) hs15 (Ev.t 4 rfl) rfl rfl isAgg25 sizeOf25 (hs15.cells 0 rfl) rfl fun _ _ hs16 => ?_); clear hs15
   refine sq rfl (st_callv (vs := [.agg ⟨(bxL b A n cp A2 n2 c2)⟩]) hs16 (.func _) ⟨(Ev.t 0 rfl), trivial⟩ rfl rfl call15 rfl (callsV_eq (v' := .tuple ⟨[.int .i64 0, .int .i64 0]⟩) (Many_v b A n cp A2 n2 c2 _ (hP.kp hs16.kp) hn (hF.kp hs16.kp) hn2) (by rw [hM0])) fun _ _ hs17 => ?_); clear hs16
   refine sq rfl (st_move hs17 (Ev.t 0 rfl) rfl rfl fun _ _ hs18 => ?_); clear hs17
   refine sq rfl (st_extract hs18 (Ev.t 0 rfl) rfl rfl rfl fun _ _ hs19 => ?_); clear hs18
   refine sq rfl (st_extract hs19 (Ev.t 1 rfl) rfl rfl rfl fun _ _ hs20 => ?_); clear hs19
   refine sq rfl (st_assign hs20 (Ev.t 1 rfl) rfl rfl fun _ _ hs21 => ?_); clear hs20
   refine sq rfl (st_assign hs21 (Ev.t 1 rfl) rfl rfl fun _ _ hs22 => ?_); clear hs21
   refine hK94 _ _ ?_; clear hK94
   have hs23 := hs22.keep [0, 1, 8, 9, 10, 11, 12] [_, _, _, _, _, _, _] rfl; clear hs22
   refine cd_region fun K95 hK95 => ?_
   refine sq rfl (st_loadA (o := 0) (off := 0) (vs := (bxL b A n cp A2 n2 c2)) hs23 (Ev.t 5 rfl) rfl rfl isAgg25 sizeOf25 (hs23.cells 0 rfl) rfl fun _ _ hs24 => ?_); clear hs23
   refine sq rfl (st_alloc hs24 rfl rfl zeroValue25 rfl fun b96 _ _ hs25 => ?_); clear hs24
   refine sq rfl (st_store (l' := (bxL b A n cp A2 n2 c2)) (vs := (bxL b A n cp A2 n2 c2)) (i := 0) hs25 (Ev.t 0 rfl) (Ev.t 1 rfl) sizeOf25 rfl rfl rfl rfl rfl rfl fun _ _ hs26 => ?_); clear hs25
   have hs27 := hs26.asB [_, _] rfl; clear hs26
   refine hK95 _ _ ?_; clear hK95
   have hs28 := hs27.keep [0, 2, 3, 4, 5, 6, 7, 8] [_, _, _, _, _, _, _, _] rfl; clear hs27
   refine cd_drawn mixed hs28 [⟨35, [], Is (.pointer (some ⟨b89, 3, none⟩))⟩, ⟨36, [0], Is (.int .i64 b.err)⟩, ⟨37, [], Is (.int .i64 k)⟩, ⟨38, [2], Is (.int .i64 (turn k 60))⟩] (by kernel_rfl) (by kernel_rfl) fun K97 hK97 => ⟨⟨?_, ?_, ?_, ?_, trivial⟩, ?_⟩
   · rintro T_ B_ a_ w_ K_ hT hB hf hsD hk
     exact ob rfl rfl (st_field (o' := 3) hsD (evT hT 6 rfl) rfl hf runUnderlying25 rfl sizeOf3 rfl rfl fun _ _ => hk _ _ _ _ ⟨rfl, rfl⟩)
   · rintro T_ B_ a_ w_ K_ hT hB _ _ ⟨rfl, rfl⟩ h35 - hf hsD hk
     exact ob rfl rfl (st_load1 (o := 0) (off := 3) (v := .int .i64 b.err) hsD (Ev.tmp h35) rfl hf isAgg3 (hsD.cellsM (inB hB 1 rfl)) rfl fun _ _ => hk _ _ _ _ ⟨rfl, rfl⟩)
   · rintro T_ B_ a_ w_ K_ hT hB hf hsD hk
     exact ob rfl rfl (st_move hsD (evT hT 7 rfl) rfl hf fun _ _ => hk _ _ _ _ ⟨rfl, rfl⟩)
   · rintro T_ B_ a_ w_ K_ hT hB _ _ ⟨rfl, rfl⟩ h37 - hf hsD hk
     exact ob rfl rfl (st_callv (vs := [.int .i64 k, .int .i64 60]) hsD (.func _) ⟨(Ev.tmp h37), (.const _), trivial⟩ rfl hf call17 rfl (turn_v k 60 (by omega) _) fun _ _ => hk _ _ _ _ ⟨rfl, rfl⟩)
   rintro _ _ ⟨rfl, rfl⟩ _ _ ⟨rfl, rfl⟩ _ _ ⟨rfl, rfl⟩ _ _ ⟨rfl, rfl⟩ a_29 w_29 hs29; clear hs28
   have hs30 := Sx.as (T' := [_, _, _, _, _, _, _, _, _, _, _, _]) (B' := [_, _]) rfl rfl hs29; clear hs29
   refine sq rfl (st_add (z := b.err + (turn k 60)) hs30 (Ev.t 1 rfl) (Ev.t 3 rfl) rfl rfl rfl (by omega) fun _ _ hs31 => ?_); clear hs30
   refine sq rfl (st_min hs31 (.const _) (Ev.t 0 rfl) rfl rfl fun _ _ hs32 => ?_); clear hs31
   refine sq rfl (st_field (o' := 3) hs32 (Ev.t 6 rfl) rfl rfl runUnderlying25 rfl sizeOf3 rfl rfl fun _ _ hs33 => ?_); clear hs32
   refine sq rfl (st_store (l' := [.slice A n cp, .slice A2 n2 c2, .int .i64 b.count, .int .i64 (min 200 (b.err + (turn k 60))), .int .i64 b.duty, .int .i64 b.share, .int .i64 b.guar]) (vs := [.int .i64 (min 200 (b.err + (turn k 60)))]) (i := 0) hs33 (Ev.t 0 rfl) (Ev.t 1 rfl) sizeOf3 rfl rfl rfl rfl rfl rfl fun _ _ hs34 => ?_); clear hs33
   have hs35 := hs34.asB [_, _] rfl; clear hs34
   refine hK97 _ _ ?_; clear hK97
   have hs36 := hs35.keep [7, 8, 9, 10, 11, 12, 13] [_, _, _, _, _, _, _] rfl; clear hs35
   refine cd_region fun K98 hK98 => ?_
   refine sq rfl (st_loadA (o := 0) (off := 0) (vs := [.slice A n cp, .slice A2 n2 c2, .int .i64 b.count, .int .i64 (min 200 (b.err + (turn k 60))), .int .i64 b.duty, .int .i64 b.share, .int .i64 b.guar]) hs36 (Ev.t 0 rfl) rfl rfl isAgg25 sizeOf25 (hs36.cells 0 rfl) rfl fun _ _ hs37 => ?_); clear hs36
   refine sq rfl (st_callv (vs := [.agg ⟨[.slice A n cp, .slice A2 n2 c2, .int .i64 b.count, .int .i64 (min 200 (b.err + (turn k 60))), .int .i64 b.duty, .int .i64 b.share, .int .i64 b.guar]⟩]) hs37 (.func _) ⟨(Ev.t 0 rfl), trivial⟩ rfl rfl call15 rfl (callsV_eq (v' := .tuple ⟨[.int .i64 m1, .int .i64 0]⟩) (Many_v (b.setErr (min 200 (b.err + (turn k 60)))) A n cp A2 n2 c2 _ (hP.kp hs37.kp) hn (hF.kp hs37.kp) hn2) (by rw [hM1])) fun _ _ hs38 => ?_); clear hs37
   refine sq rfl (st_move hs38 (Ev.t 0 rfl) rfl rfl fun _ _ hs39 => ?_); clear hs38
   refine sq rfl (st_extract hs39 (Ev.t 0 rfl) rfl rfl rfl fun _ _ hs40 => ?_); clear hs39
   refine sq rfl (st_extract hs40 (Ev.t 1 rfl) rfl rfl rfl fun _ _ hs41 => ?_); clear hs40
   refine sq rfl (st_assign hs41 (Ev.t 1 rfl) rfl rfl fun _ _ hs42 => ?_); clear hs41
   refine sq rfl (st_assign hs42 (Ev.t 1 rfl) rfl rfl fun _ _ hs43 => ?_); clear hs42
   refine hK98 _ _ ?_; clear hK98
   have hs44 := hs43.keep [0, 1, 7, 8, 9, 10, 11, 12, 13] [_, _, _, _, _, _, _, _, _] rfl; clear hs43
   refine cd_seq fun K99 hK99 => ?_
   refine cd_region fun K100 hK100 => ?_
   refine sq rfl (st_move hs44 (Ev.t 3 rfl) rfl rfl fun _ _ hs45 => ?_); clear hs44
   refine sq rfl (st_cmp (c := false) hs45 (Ev.t 0 rfl) (.const _) rfl rfl rfl rfl fun _ _ hs46 => ?_); clear hs45
   refine sq rfl (st_move hs46 (Ev.t 0 rfl) rfl rfl fun _ _ hs47 => ?_); clear hs46
   refine sq_on hs47 rfl rfl 0 rfl rfl (st_move hs47 (Ev.t 3 rfl) rfl rfl fun _ _ hs48 => ?_); clear hs47
   refine sq_on hs48 rfl rfl 1 rfl rfl (st_cmp (c := false) hs48 (Ev.t 0 rfl) (.const _) rfl rfl rfl rfl fun _ _ hs49 => ?_); clear hs48
   refine sq rfl (st_pick hs49 (Ev.t 2 rfl) rfl rfl (fun h => by cases h) (fun h => (Ev.t 0 rfl)) fun _ _ hs50 => ?_); clear hs49
   refine sq rfl (st_move hs50 (Ev.t 0 rfl) rfl rfl fun _ _ hs51 => ?_); clear hs50
   refine sq_on hs51 rfl rfl 0 rfl rfl (st_move hs51 (Ev.t 8 rfl) rfl rfl fun _ _ hs52 => ?_); clear hs51
   refine sq_on hs52 rfl rfl 1 rfl rfl (st_move hs52 (Ev.t 12 rfl) rfl rfl fun _ _ hs53 => ?_); clear hs52
   refine sq_on hs53 rfl rfl 2 rfl rfl (st_cmp (c := false) hs53 (Ev.t 1 rfl) (Ev.t 0 rfl) rfl rfl rfl (show decide ((m1 : Int) < 0) = false from decide_eq_false (by omega)) fun _ _ hs54 => ?_); clear hs53
   refine sq rfl (st_pick hs54 (Ev.t 3 rfl) rfl rfl (fun h => by cases h) (fun h => (Ev.t 0 rfl)) fun _ _ hs55 => ?_); clear hs54
   refine hK100 _ _ ?_; clear hK100
   have hs56 := hs55.keep [0, 13, 15, 16, 17, 18, 19] [_, _, _, _, _, _, _] rfl; clear hs55
   have hc101 : false = false := rfl
   refine cd_cond hs56 (Ev.t 0 rfl) (fun h => absurd (hc101.symm.trans h) (by decide)) (fun _ => ?_)
   refine cd_skip ?_
   refine th_norm (hK99 _ _ ?_)
   refine cd_seq fun K102 hK102 => ?_
   refine cd_region fun K103 hK103 => ?_
   refine sq rfl (st_move hs56 (Ev.t 3 rfl) rfl rfl fun _ _ hs57 => ?_); clear hs56
   refine sq rfl (st_cmp (c := false) hs57 (Ev.t 0 rfl) (.const _) rfl rfl rfl rfl fun _ _ hs58 => ?_); clear hs57
   refine hK103 _ _ ?_; clear hK103
   have hs59 := hs58.keep [0, 3, 4, 5, 6, 7, 8] [_, _, _, _, _, _, _] rfl; clear hs58
   have hc104 : false = false := rfl
   refine cd_cond hs59 (Ev.t 0 rfl) (fun h => absurd (hc104.symm.trans h) (by decide)) (fun _ => ?_)
   refine cd_skip ?_
   refine th_norm (hK102 _ _ ?_)
   refine cd_seq fun K105 hK105 => ?_
   refine cd_region fun K106 hK106 => ?_
   refine sq rfl (st_move hs59 (Ev.t 4 rfl) rfl rfl fun _ _ hs60 => ?_); clear hs59
   refine sq rfl (st_callv (vs := [.int .i64 ww, .int .i64 0, .int .i64 200]) hs60 (.func _) ⟨(Ev.t 0 rfl), (.const _), (.const _), trivial⟩ rfl rfl call16 rfl (callsV_eq (v' := .bool true) (amid_v ww 0 200 _) (by rw [Value.bool.injEq, Till.within_iff]; omega)) fun _ _ hs61 => ?_); clear hs60
   refine sq rfl (st_not hs61 (Ev.t 0 rfl) rfl rfl fun _ _ hs62 => ?_); clear hs61
   refine sq rfl (st_move hs62 (Ev.t 0 rfl) rfl rfl fun _ _ hs63 => ?_); clear hs62
   refine sq_on hs63 rfl rfl 0 rfl rfl (st_move hs63 (Ev.t 6 rfl) rfl rfl fun _ _ hs64 => ?_); clear hs63
   refine sq_on hs64 rfl rfl 1 rfl rfl (st_cmp (c := false) hs64 (Ev.t 0 rfl) (.const _) rfl rfl rfl rfl fun _ _ hs65 => ?_); clear hs64
   refine sq_on hs65 rfl rfl 2 rfl rfl (st_field (o' := 3) hs65 (Ev.t 12 rfl) rfl rfl runUnderlying25 rfl sizeOf3 rfl rfl fun _ _ hs66 => ?_); clear hs65
   refine sq_on hs66 rfl rfl 3 rfl rfl (st_load1 (o := 0) (off := 3) (v := .int .i64 b.err) hs66 (Ev.t 0 rfl) rfl rfl isAgg3 (hs66.cells 1 rfl) rfl fun _ _ hs67 => ?_); clear hs66
   refine sq_on hs67 rfl rfl 4 rfl rfl (st_move hs67 (Ev.t 12 rfl) rfl rfl fun _ _ hs68 => ?_); clear hs67
   refine sq_on hs68 rfl rfl 5 rfl rfl (st_cmp (c := false) hs68 (Ev.t 1 rfl) (Ev.t 0 rfl) rfl rfl rfl (show decide ((b.err : Int) ≥ ww) = false from decide_eq_false (by omega)) fun _ _ hs69 => ?_); clear hs68
   refine sq_on hs69 rfl rfl 6 rfl rfl (st_bin (z := .bool false) hs69 (Ev.t 4 rfl) (Ev.t 0 rfl) (run_neb 4 underlying4 _ _ false false) rfl rfl fun _ _ hs70 => ?_); clear hs69
   refine sq rfl (st_pick hs70 (Ev.t 7 rfl) rfl rfl (fun h => by cases h) (fun h => (Ev.t 0 rfl)) fun _ _ hs71 => ?_); clear hs70
   refine hK106 _ _ ?_; clear hK106
   have hs72 := hs71.keep [0, 13, 16, 17] [_, _, _, _] rfl; clear hs71
   have hc107 : false = false := rfl
   refine cd_cond hs72 (Ev.t 0 rfl) (fun h => absurd (hc107.symm.trans h) (by decide)) (fun _ => ?_)
   refine cd_skip ?_
   refine th_norm (hK105 _ _ ?_)
   refine cd_region fun K108 hK108 => ?_
   refine sq rfl (st_move hs72 (Ev.t 2 rfl) rfl rfl fun _ _ hs73 => ?_); clear hs72
   refine sq rfl (st_field (o' := 3) hs73 (Ev.t 2 rfl) rfl rfl runUnderlying25 rfl sizeOf3 rfl rfl fun _ _ hs74 => ?_); clear hs73
   refine sq rfl (st_store (l' := [.slice A n cp, .slice A2 n2 c2, .int .i64 b.count, .int .i64 ww, .int .i64 b.duty, .int .i64 b.share, .int .i64 b.guar]) (vs := [.int .i64 ww]) (i := 0) hs74 (Ev.t 0 rfl) (Ev.t 1 rfl) sizeOf3 rfl rfl rfl rfl rfl rfl fun _ _ hs75 => ?_); clear hs74
   have hs76 := hs75.asB [_, _] rfl; clear hs75
   refine hK108 _ _ ?_; clear hK108
   have hs77 := hs76.keep [3, 4, 5] [_, _, _] rfl; clear hs76
   refine cd_region fun K109 hK109 => ?_
   refine sq rfl (st_loadA (o := 0) (off := 0) (vs := [.slice A n cp, .slice A2 n2 c2, .int .i64 b.count, .int .i64 ww, .int .i64 b.duty, .int .i64 b.share, .int .i64 b.guar]) hs77 (Ev.t 0 rfl) rfl rfl isAgg25 sizeOf25 (hs77.cells 0 rfl) rfl fun _ _ hs78 => ?_); clear hs77
   refine sq rfl (st_callv (vs := [.agg ⟨[.slice A n cp, .slice A2 n2 c2, .int .i64 b.count, .int .i64 ww, .int .i64 b.duty, .int .i64 b.share, .int .i64 b.guar]⟩]) hs78 (.func _) ⟨(Ev.t 0 rfl), trivial⟩ rfl rfl call15 rfl (callsV_eq (v' := .tuple ⟨[.int .i64 m3, .int .i64 0]⟩) (Many_v (b.setErr ww) A n cp A2 n2 c2 _ (hP.kp hs78.kp) hn (hF.kp hs78.kp) hn2) (by rw [hM3])) fun _ _ hs79 => ?_); clear hs78
   refine sq rfl (st_move hs79 (Ev.t 0 rfl) rfl rfl fun _ _ hs80 => ?_); clear hs79
   refine sq rfl (st_extract hs80 (Ev.t 0 rfl) rfl rfl rfl fun _ _ hs81 => ?_); clear hs80
   refine sq rfl (st_extract hs81 (Ev.t 1 rfl) rfl rfl rfl fun _ _ hs82 => ?_); clear hs81
   refine sq rfl (st_assign hs82 (Ev.t 1 rfl) rfl rfl fun _ _ hs83 => ?_); clear hs82
   refine sq rfl (st_assign hs83 (Ev.t 1 rfl) rfl rfl fun _ _ hs84 => ?_); clear hs83
   refine hK109 _ _ ?_; clear hK109
   have hs85 := hs84.keep [0, 1, 7, 8, 9] [_, _, _, _, _] rfl; clear hs84
   refine cd_seq fun K110 hK110 => ?_
   refine cd_region fun K111 hK111 => ?_
   refine sq rfl (st_move hs85 (Ev.t 0 rfl) rfl rfl fun _ _ hs86 => ?_); clear hs85
   refine sq rfl (st_cmp (c := false) hs86 (Ev.t 0 rfl) (.const _) rfl rfl rfl rfl fun _ _ hs87 => ?_); clear hs86
   refine sq rfl (st_move hs87 (Ev.t 0 rfl) rfl rfl fun _ _ hs88 => ?_); clear hs87
   refine sq_on hs88 rfl rfl 0 rfl rfl (st_move hs88 (Ev.t 4 rfl) rfl rfl fun _ _ hs89 => ?_); clear hs88
   refine sq_on hs89 rfl rfl 1 rfl rfl (st_cmp (c := false) hs89 (Ev.t 0 rfl) (.const _) rfl rfl rfl (show decide ((m3 : Int) < 1) = false from decide_eq_false (by omega)) fun _ _ hs90 => ?_); clear hs89
   refine sq rfl (st_pick hs90 (Ev.t 2 rfl) rfl rfl (fun h => by cases h) (fun h => (Ev.t 0 rfl)) fun _ _ hs91 => ?_); clear hs90
   refine hK111 _ _ ?_; clear hK111
   have hs92 := hs91.keep [0, 8, 9, 10] [_, _, _, _] rfl; clear hs91
   have hc112 : false = false := rfl
   refine cd_cond hs92 (Ev.t 0 rfl) (fun h => absurd (hc112.symm.trans h) (by decide)) (fun _ => ?_)
   refine cd_skip ?_
   refine th_norm (hK110 _ _ ?_)
   refine cd_seq fun K113 hK113 => ?_
   refine cd_region fun K114 hK114 => ?_
   refine sq rfl (st_move hs92 (Ev.t 2 rfl) rfl rfl fun _ _ hs93 => ?_); clear hs92
   refine sq rfl (st_cmp (c := false) hs93 (Ev.t 0 rfl) (.const _) rfl rfl rfl (show ((ww : Int) == 0) = false from by simp only [beq_eq_false_iff_ne]; omega) fun _ _ hs94 => ?_); clear hs93
   refine hK114 _ _ ?_; clear hK114
   have hs95 := hs94.keep [0, 3, 4, 5] [_, _, _, _] rfl; clear hs94
   have hc115 : false = false := rfl
   refine cd_cond hs95 (Ev.t 0 rfl) (fun h => absurd (hc115.symm.trans h) (by decide)) (fun _ => ?_)
   refine cd_skip ?_
   refine th_norm (hK113 _ _ ?_)
   refine cd_region fun K116 hK116 => ?_
   refine sq rfl (st_move hs95 (Ev.t 2 rfl) rfl rfl fun _ _ hs96 => ?_); clear hs95
   refine sq rfl (st_sub (z := ww - 1) hs96 (Ev.t 0 rfl) (.const _) rfl rfl rfl (by omega) fun _ _ hs97 => ?_); clear hs96
   refine sq rfl (st_field (o' := 3) hs97 (Ev.t 3 rfl) rfl rfl runUnderlying25 rfl sizeOf3 rfl rfl fun _ _ hs98 => ?_); clear hs97
   refine sq rfl (st_store (l' := [.slice A n cp, .slice A2 n2 c2, .int .i64 b.count, .int .i64 (ww - 1), .int .i64 b.duty, .int .i64 b.share, .int .i64 b.guar]) (vs := [.int .i64 (ww - 1)]) (i := 0) hs98 (Ev.t 0 rfl) (Ev.t 1 rfl) sizeOf3 rfl rfl rfl rfl rfl rfl fun _ _ hs99 => ?_); clear hs98
   have hs100 := hs99.asB [_, _] rfl; clear hs99
   refine hK116 _ _ ?_; clear hK116
   have hs101 := hs100.keep [4, 6] [_, _] rfl; clear hs100
   refine cd_region fun K117 hK117 => ?_
   refine sq rfl (st_loadA (o := 0) (off := 0) (vs := [.slice A n cp, .slice A2 n2 c2, .int .i64 b.count, .int .i64 (ww - 1), .int .i64 b.duty, .int .i64 b.share, .int .i64 b.guar]) hs101 (Ev.t 0 rfl) rfl rfl isAgg25 sizeOf25 (hs101.cells 0 rfl) rfl fun _ _ hs102 => ?_); clear hs101
   refine sq rfl (st_callv (vs := [.agg ⟨[.slice A n cp, .slice A2 n2 c2, .int .i64 b.count, .int .i64 (ww - 1), .int .i64 b.duty, .int .i64 b.share, .int .i64 b.guar]⟩]) hs102 (.func _) ⟨(Ev.t 0 rfl), trivial⟩ rfl rfl call15 rfl (callsV_eq (v' := .tuple ⟨[.int .i64 0, .int .i64 0]⟩) (Many_v (b.setErr (ww - 1)) A n cp A2 n2 c2 _ (hP.kp hs102.kp) hn (hF.kp hs102.kp) hn2) (by rw [hM4])) fun _ _ hs103 => ?_); clear hs102
   refine sq rfl (st_move hs103 (Ev.t 0 rfl) rfl rfl fun _ _ hs104 => ?_); clear hs103
   refine sq rfl (st_extract hs104 (Ev.t 0 rfl) rfl rfl rfl fun _ _ hs105 => ?_); clear hs104
   refine sq rfl (st_extract hs105 (Ev.t 1 rfl) rfl rfl rfl fun _ _ hs106 => ?_); clear hs105
   refine sq rfl (st_assign hs106 (Ev.t 1 rfl) rfl rfl fun _ _ hs107 => ?_); clear hs106
   refine sq rfl (st_assign hs107 (Ev.t 1 rfl) rfl rfl fun _ _ hs108 => ?_); clear hs107
   refine hK117 _ _ ?_; clear hK117
   have hs109 := hs108.keep [0, 1, 8] [_, _, _] rfl; clear hs108
   refine cd_region fun K118 hK118 => ?_
   refine sq rfl (st_move hs109 (Ev.t 0 rfl) rfl rfl fun _ _ hs110 => ?_); clear hs109
   refine sq rfl (st_cmp (c := true) hs110 (Ev.t 0 rfl) (.const _) rfl rfl rfl rfl fun _ _ hs111 => ?_); clear hs110
   refine sq rfl (st_move hs111 (Ev.t 0 rfl) rfl rfl fun _ _ hs112 => ?_); clear hs111
   refine sq_on hs112 rfl rfl 0 rfl rfl (st_move hs112 (Ev.t 4 rfl) rfl rfl fun _ _ hs113 => ?_); clear hs112
   refine sq_on hs113 rfl rfl 1 rfl rfl (st_cmp (c := true) hs113 (Ev.t 0 rfl) (.const _) rfl rfl rfl rfl fun _ _ hs114 => ?_); clear hs113
   refine sq rfl (st_pick hs114 (Ev.t 2 rfl) rfl rfl (fun h => (Ev.t 0 rfl)) (fun h => by cases h) fun _ _ hs115 => ?_); clear hs114
   refine sq rfl (st_move hs115 (Ev.t 0 rfl) rfl rfl fun _ _ hs116 => ?_); clear hs115
   refine sq_on hs116 rfl rfl 0 rfl rfl (st_callv (vs := []) hs116 (.func _) trivial rfl rfl call14 rfl (counted_v _ (hG.kp hs116.kp (by simp))) fun _ _ hs117 => ?_); clear hs116
   refine sq rfl (st_pick hs117 (Ev.t 1 rfl) rfl rfl (fun h => (Ev.t 0 rfl)) (fun h => by cases h) fun _ _ hs118 => ?_); clear hs117
   have hs119 := hs118.keep [0, 1, 2, 3, 4, 5, 6, 7, 8, 9, 10] [_, _, _, _, _, _, _, _, _, _, _] rfl; clear hs118
   refine sq rfl (st_assign hs119 (Ev.t 0 rfl) rfl rfl fun _ _ hs120 => ?_); clear hs119
   refine hK118 _ _ ?_; clear hK118
   have hs121 := hs120.keep [0] [_] rfl; clear hs120
   refine cd_retv (vs := [.bool true]) hs121 hQ0 rfl ⟨.tmp 0 rfl, trivial⟩ ?_
   clear hs121 hQ0 hN0
   rfl
end Go.Proofs.YtcnndpedeofbmaaDoor
