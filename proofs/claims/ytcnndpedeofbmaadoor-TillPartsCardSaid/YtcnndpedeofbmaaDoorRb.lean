/- The reference of the till: how many truths; IsTruth, Many, Wrong; what is asked first. -/
import Derived.Test.YtcnndpedeofbmaaDoorRa
import Derived.Test.YtcnndpedeofbmaaDoorTw
set_option maxRecDepth 100000
namespace Go.Proofs.YtcnndpedeofbmaaDoor
open Go Go.Sx Go.Till Go.Proofs.Tryd
theorem all_lst {b : Bx} (hO : Ok b) : LstOk b.all b.rolls.length := by rw [← way_b hO]; exact way_ok hO _ (Nat.le_refl _)

theorem way1_b (b : Bx) (A : Option Addr) (n cp : Nat) (A2 : Option Addr) (n2 c2 : Nat) (w : World) (hP : RollsAt w A n b.rolls) (hn : n ≤ 140737488351232) (hF : SpsAt w A2 n2 b.free) (hn2 : n2 ≤ 140737488351232) (hO : Ok b) : CallsB Tryd.prog 64 [.agg ⟨bxL b A n cp A2 n2 c2⟩, .int .i64 (-1)] w (fun v bs => ∃ b7 o7, v = .slice (some ⟨b7, 0, none⟩) 60001 60001 ∧ Sx.Own intL1 1 3 (some ⟨b7, 0, none⟩) 60001 (arr (wf b.all)) b7 o7 ∧ bs = [(b7, o7)]) :=
  callsB_imp (ways_b b A n cp A2 n2 c2 (-1) w hP hn hF hn2 hO) (fun v bs ⟨b7, o7, h1, h2, h3⟩ => ⟨b7, o7, h1, by rw [way_b hO] at h2; exact h2, h3⟩)

theorem rmany_v (b : Bx) (A : Option Addr) (n cp : Nat) (A2 : Option Addr) (n2 c2 : Nat) (w : World) (hP : RollsAt w A n b.rolls) (hn : n ≤ 140737488351232) (hF : SpsAt w A2 n2 b.free) (hn2 : n2 ≤ 140737488351232) (hO : Ok b) :
    CallsV Tryd.prog 63 [.agg ⟨(bxL b A n cp A2 n2 c2)⟩] w (.int .i64 (b.many : Int)) := by
 have hn14 := hO.n
 have hL := all_lst hO
 refine enter (N := 26) (M := []) w func63 rfl rfl rfl (fun Q0 a_0 hQ0 hN0 hs0 => ?_)
 refine cd_region fun K1 hK1 => ?_
 refine sq rfl (st_box hs0 (Ev.t 0 rfl) rfl rfl rfl fun b2 _ _ hs1 => ?_); clear hs0
 refine sq rfl (st_assign hs1 (.const _) rfl rfl fun _ _ hs2 => ?_); clear hs1
 refine hK1 _ _ ?_; clear hK1
 have hs3 := hs2.keep [0, 1] [_, _] rfl; clear hs2
 refine cd_region fun K3 hK3 => ?_
 refine sq rfl (st_assign hs3 (.const _) rfl rfl fun _ _ hs4 => ?_); clear hs3
 refine hK3 _ _ ?_; clear hK3
 refine cd_region fun K4 hK4 => ?_
 refine sq rfl (st_loadA (o := 0) (off := 0) (vs := (bxL b A n cp A2 n2 c2)) hs4 (Ev.t 2 rfl) rfl rfl isAgg25 sizeOf25 (hs4.cells 0 rfl) rfl fun _ _ hs5 => ?_); clear hs4
 refine sq rfl (st_call (vs := [.agg ⟨(bxL b A n cp A2 n2 c2)⟩, .int .i64 (-1)]) hs5 (.func _) ⟨(Ev.t 0 rfl), (.const _), trivial⟩ rfl rfl call64 rfl (way1_b b A n cp A2 n2 c2 _ (hP.kp hs5.kp) hn (hF.kp hs5.kp) hn2 hO) fun v5 bs6 a_6 w_6 hp6 hs6 => ?_); clear hs5
 obtain ⟨bw8, ow8, rfl, hOw8, rfl⟩ := hp6
 have hs7 := Sx.as (T' := [_, _, _, _, _]) (B' := [_, _]) rfl rfl hs6; clear hs6
 refine sq rfl (st_assign hs7 (Ev.t 0 rfl) rfl rfl fun _ _ hs8 => ?_); clear hs7
 refine hK4 _ _ ?_; clear hK4
 have hs9 := hs8.keep [0, 3, 4, 5] [_, _, _, _] rfl; clear hs8
 refine cd_seq fun K7 hK7 => ?_
 refine cd_region fun K8 hK8 => ?_
 refine sq rfl (st_assign hs9 (.const _) rfl rfl fun _ _ hs10 => ?_); clear hs9
 refine hK8 _ _ ?_; clear hK8
 refine cd_block ?_
 have hs11 : Sx 26 [] [(5, .int .i64 (0 : Int)), (4, .slice (some ⟨bw8, 0, none⟩) 60001 60001), (3, .int .i64 (sumTo b.all (right b) 0)), (2, .int .i64 0), (1, .pointer (some ⟨b2, 0, none⟩))] [(bw8, ow8), (b2, some (.cells ⟨(bxL b A n cp A2 n2 c2)⟩ 25 (0, 0)))] [] w _ _ := Sx.keepE [0, 1, 2, 3, 4] _ ⟨⟨_, rfl, rfl⟩, ⟨_, rfl, rfl⟩, ⟨_, rfl, rfl⟩, ⟨_, rfl, rfl⟩, ⟨_, rfl, rfl⟩, trivial⟩ hs10; clear hs10
 refine cd_loop (X := Nat) (fun g a_ w_ => (g ≤ 60001) ∧ Sx 26 [] [(5, .int .i64 (g : Int)), (4, .slice (some ⟨bw8, 0, none⟩) 60001 60001), (3, .int .i64 (sumTo b.all (right b) g)), (2, .int .i64 0), (1, .pointer (some ⟨b2, 0, none⟩))] [(bw8, ow8), (b2, some (.cells ⟨(bxL b A n cp A2 n2 c2)⟩ 25 (0, 0)))] [] w a_ w_) (fun g => 60001 - g) (0) ⟨?_, hs11⟩ ?_
 · exact Nat.zero_le _
 intro g a_12 w_12 ⟨hj, hs12⟩; clear hs11
 refine cd_seq fun K9 hK9 => ?_
 refine cd_region fun K10 hK10 => ?_
 refine sq rfl (st_move hs12 (Ev.t 0 rfl) rfl rfl fun _ _ hs13 => ?_); clear hs12
 refine sq rfl (st_move hs13 (Ev.t 2 rfl) rfl rfl fun _ _ hs14 => ?_); clear hs13
 refine sq rfl (st_len hs14 (Ev.t 0 rfl) rfl rfl runUnderlying33 fun _ _ hs15 => ?_); clear hs14
 refine sq rfl (st_cmp (c := decide (((g : Int) : Int) < 60001)) hs15 (Ev.t 2 rfl) (Ev.t 0 rfl) rfl rfl rfl rfl fun _ _ hs16 => ?_); clear hs15
 refine hK10 _ _ ?_; clear hK10
 have hs17 := hs16.keep [0, 4, 5, 6, 7, 8] [_, _, _, _, _, _] rfl; clear hs16
 refine cd_cond hs17 (Ev.t 0 rfl) (fun hc11 => ?_) (fun hc11 => ?_)
 · have hgn : g < 60001 := by simp at hc11; omega
   have hs1 := sumTo_bd (g := right b) hL (by omega) g; have hw1 := lst_wf hL (by omega) g
   refine cd_skip ?_
   refine th_norm (hK9 _ _ ?_)
   refine cd_seq fun K12 hK12 => ?_
   refine cd_block ?_
   refine cd_region fun K13 hK13 => ?_
   refine sq rfl (st_loadA (o := 0) (off := 0) (vs := (bxL b A n cp A2 n2 c2)) hs17 (Ev.t 5 rfl) rfl rfl isAgg25 sizeOf25 (hs17.cells 1 rfl) rfl fun _ _ hs18 => ?_); clear hs17
   refine sq rfl (st_move hs18 (Ev.t 2 rfl) rfl rfl fun _ _ hs19 => ?_); clear hs18
   refine sq rfl (st_field (o' := 3) hs19 (Ev.t 7 rfl) rfl rfl runUnderlying25 rfl sizeOf3 rfl rfl fun _ _ hs20 => ?_); clear hs19
   refine sq rfl (st_load1 (o := 0) (off := 3) (v := .int .i64 b.err) hs20 (Ev.t 0 rfl) rfl rfl isAgg3 (hs20.cells 1 rfl) rfl fun _ _ hs21 => ?_); clear hs20
   refine sq rfl (st_callv (vs := [.agg ⟨(bxL b A n cp A2 n2 c2)⟩, .int .i64 (g : Int), .int .i64 b.err]) hs21 (.func _) ⟨(Ev.t 3 rfl), (Ev.t 2 rfl), (Ev.t 0 rfl), trivial⟩ rfl rfl call60 rfl (near_v b A n cp A2 n2 c2 (g : Int) b.err _ hO.count (by have := hO.err; omega)) fun _ _ hs22 => ?_); clear hs21
   refine hK13 _ _ ?_; clear hK13
   have hs23 := hs22.keep [0, 6, 7, 8, 9, 10] [_, _, _, _, _, _] rfl; clear hs22
   refine cd_cond hs23 (Ev.t 0 rfl) (fun hc14 => ?_) (fun hc14 => ?_)
   · have hrt : right b (g : Int) = true := by simpa [right] using hc14
     refine cd_region1 ?_
     refine sq rfl (st_move hs23 (Ev.t 3 rfl) rfl rfl fun _ _ hs24 => ?_); clear hs23
     refine sq rfl (st_move hs24 (Ev.t 3 rfl) rfl rfl fun _ _ hs25 => ?_); clear hs24
     refine sq rfl (st_move hs25 (Ev.t 3 rfl) rfl rfl fun _ _ hs26 => ?_); clear hs25
     refine sq rfl (st_indexSl (o' := g * 1) hs26 (Ev.t 1 rfl) (Ev.t 0 rfl) rfl rfl runUnderlying33 sizeOf3 ⟨by omega, by omega⟩ (by simp) fun _ _ hs27 => ?_); clear hs26
     refine sq rfl (st_load1 (o := (g * 1)) (off := 0) (v := .int .i64 ((wf b.all) g)) hs27 (Ev.t 0 rfl) rfl rfl isAgg3 (own_cellM hs27 hOw8 (mem_nth (i := 0) rfl) (arr_at (by omega))) rfl fun _ _ hs28 => ?_); clear hs27
     refine sq rfl (st_add (z := (sumTo b.all (right b) g) + ((wf b.all) g)) hs28 (Ev.t 4 rfl) (Ev.t 0 rfl) rfl rfl rfl (by omega) fun _ _ hs29 => ?_); clear hs28
     have hs30 := hs29.keep [0, 1, 2, 3, 4, 5, 6, 7, 8, 10, 11] [_, _, _, _, _, _, _, _, _, _, _] rfl; clear hs29
     refine sq rfl (st_assign hs30 (Ev.t 0 rfl) rfl rfl fun _ _ hs31 => ?_); clear hs30
     refine wpListIn_nil ?_
     have hs32 := hs31.keep [0, 8, 9, 10, 11] [_, _, _, _, _] rfl; clear hs31
     refine in_norm ?_
     refine th_norm (hK12 _ _ ?_)
     refine cd_region1 ?_
     refine sq rfl (st_move hs32 (Ev.t 1 rfl) rfl rfl fun _ _ hs33 => ?_); clear hs32
     refine sq rfl (st_add (z := (g : Int) + 1) hs33 (Ev.t 0 rfl) (.const _) rfl rfl rfl (by omega) fun _ _ hs34 => ?_); clear hs33
     have hs35 := hs34.keep [0, 1, 2, 4, 5, 6] [_, _, _, _, _, _] rfl; clear hs34
     refine sq rfl (st_assign hs35 (Ev.t 0 rfl) rfl rfl fun _ _ hs36 => ?_); clear hs35
     refine wpListIn_nil ?_
     have hs37 := hs36.keep [0, 3, 4, 5, 6] [_, _, _, _, _] rfl; clear hs36
     refine ⟨g + 1, ⟨?_, ?_⟩, by (show 60001 - (g + 1) < 60001 - g; omega)⟩
     · exact hgn
     exact Sx.keepE [0, 2, 1, 3, 4] _ ⟨⟨_, rfl, rfl⟩, ⟨_, rfl, rfl⟩, ⟨_, rfl, by rw [sumTo, if_pos hrt]⟩, ⟨_, rfl, rfl⟩, ⟨_, rfl, rfl⟩, trivial⟩ hs37
   · have hrt : ¬ right b (g : Int) = true := by simpa [right] using hc14
     refine cd_skip ?_
     refine in_norm ?_
     refine th_norm (hK12 _ _ ?_)
     refine cd_region1 ?_
     refine sq rfl (st_move hs23 (Ev.t 1 rfl) rfl rfl fun _ _ hs24 => ?_); clear hs23
     refine sq rfl (st_add (z := (g : Int) + 1) hs24 (Ev.t 0 rfl) (.const _) rfl rfl rfl (by omega) fun _ _ hs25 => ?_); clear hs24
     have hs26 := hs25.keep [0, 1, 2, 4, 5, 6, 7] [_, _, _, _, _, _, _] rfl; clear hs25
     refine sq rfl (st_assign hs26 (Ev.t 0 rfl) rfl rfl fun _ _ hs27 => ?_); clear hs26
     refine wpListIn_nil ?_
     have hs28 := hs27.keep [0, 4, 5, 6, 7] [_, _, _, _, _] rfl; clear hs27
     refine ⟨g + 1, ⟨?_, ?_⟩, by (show 60001 - (g + 1) < 60001 - g; omega)⟩
     · exact hgn
     exact Sx.keepE [0, 1, 2, 3, 4] _ ⟨⟨_, rfl, rfl⟩, ⟨_, rfl, rfl⟩, ⟨_, rfl, by rw [sumTo, if_neg hrt]⟩, ⟨_, rfl, rfl⟩, ⟨_, rfl, rfl⟩, trivial⟩ hs28
 · have hge : g = 60001 := by simp at hc11; omega
   have hs18 := Sx.keepE [0, 1, 2, 3, 4, 5] [(11, _), (5, _), (4, _), (3, .int .i64 (b.many : Int)), (2, _), (1, _)] ⟨⟨_, rfl, rfl⟩, ⟨_, rfl, rfl⟩, ⟨_, rfl, rfl⟩, ⟨_, rfl, (by rw [hge, sumTo_many hO])⟩, ⟨_, rfl, rfl⟩, ⟨_, rfl, rfl⟩, trivial⟩ hs17; clear hs17
   refine cd_exit ?_
   refine th_exit ?_
   refine th_exit ?_
   refine in_hit ?_
   refine th_norm (hK7 _ _ ?_)
   refine cd_region fun K15 hK15 => ?_
   refine sq rfl (st_move hs18 (Ev.t 3 rfl) rfl rfl fun _ _ hs19 => ?_); clear hs18
   have hs20 := hs19.keep [0, 1, 2, 3, 4, 6] [_, _, _, _, _, _] rfl; clear hs19
   refine sq rfl (st_assign hs20 (Ev.t 0 rfl) rfl rfl fun _ _ hs21 => ?_); clear hs20
   refine hK15 _ _ ?_; clear hK15
   have hs22 := hs21.keep [0] [_] rfl; clear hs21
   refine cd_retv (vs := [.int .i64 (b.many : Int)]) hs22 hQ0 rfl ⟨.tmp 0 rfl, trivial⟩ ?_
   clear hs22 hQ0 hN0
   rfl

theorem rasked_v (b : Bx) (A : Option Addr) (n cp : Nat) (A2 : Option Addr) (n2 c2 : Nat) (rt : Bool) (w : World) (hP : RollsAt w A n b.rolls) (hn : n ≤ 140737488351232) (hF : SpsAt w A2 n2 b.free) (hn2 : n2 ≤ 140737488351232) :
    CallsV Tryd.prog 65 [.agg ⟨(bxL b A n cp A2 n2 c2)⟩, .bool rt] w (.int .i64 (b.asked rt)) := by
 refine enter (N := 16) (M := []) w func65 rfl rfl rfl (fun Q0 a_0 hQ0 hN0 hs0 => ?_)
 refine cd_region fun K1 hK1 => ?_
 refine sq rfl (st_box hs0 (Ev.t 0 rfl) rfl rfl rfl fun b2 _ _ hs1 => ?_); clear hs0
 refine sq rfl (st_assign hs1 (.const _) rfl rfl fun _ _ hs2 => ?_); clear hs1
 refine hK1 _ _ ?_; clear hK1
 have hs3 := hs2.keep [0, 1, 3] [_, _, _] rfl; clear hs2
 refine cd_seq fun K3 hK3 => ?_
 refine cd_region fun K4 hK4 => ?_
 refine sq rfl (st_loadA (o := 0) (off := 0) (vs := (bxL b A n cp A2 n2 c2)) hs3 (Ev.t 1 rfl) rfl rfl isAgg25 sizeOf25 (hs3.cells 0 rfl) rfl fun _ _ hs4 => ?_); clear hs3
 refine sq rfl (st_callv (vs := [.agg ⟨(bxL b A n cp A2 n2 c2)⟩]) hs4 (.func _) ⟨(Ev.t 0 rfl), trivial⟩ rfl rfl call31 rfl (rcheck_v b A n cp A2 n2 c2 _ (hP.kp hs4.kp) hn (hF.kp hs4.kp) hn2) fun _ _ hs5 => ?_); clear hs4
 refine sq rfl (st_assign hs5 (Ev.t 0 rfl) rfl rfl fun _ _ hs6 => ?_); clear hs5
 refine hK4 _ _ ?_; clear hK4
 have hs7 := hs6.keep [0, 3, 4, 5] [_, _, _, _] rfl; clear hs6
 refine cd_region fun K5 hK5 => ?_
 refine sq rfl (st_move hs7 (Ev.t 0 rfl) rfl rfl fun _ _ hs8 => ?_); clear hs7
 refine sq rfl (st_cmp (c := (if b.ok then 0 else 90 : Int) != 0) hs8 (Ev.t 0 rfl) (.const _) rfl rfl rfl rfl fun _ _ hs9 => ?_); clear hs8
 refine hK5 _ _ ?_; clear hK5
 have hs10 := hs9.keep [0, 2, 3, 4, 5] [_, _, _, _, _] rfl; clear hs9
 refine cd_cond hs10 (Ev.t 0 rfl) (fun hc6 => ?_) (fun hc6 => ?_)
 · have hok : b.ok = false := by cases h : b.ok <;> simp [h] at hc6 ⊢
   refine cd_region fun K7 hK7 => ?_
   refine sq rfl (st_move hs10 (Ev.t 1 rfl) rfl rfl fun _ _ hs11 => ?_); clear hs10
   have hs12 := hs11.keep [0, 1, 2, 4, 5] [_, _, _, _, _] rfl; clear hs11
   refine sq rfl (st_assign hs12 (Ev.t 0 rfl) rfl rfl fun _ _ hs13 => ?_); clear hs12
   refine hK7 _ _ ?_; clear hK7
   have hs14 := hs13.keep [0] [_] rfl; clear hs13
   refine cd_retv (vs := [.int .i64 (if b.ok then 0 else 90)]) hs14 (fun a_ w_ h => th_ret (hQ0 a_ w_ h)) rfl ⟨.tmp 0 rfl, trivial⟩ ?_
   clear hs14 hQ0 hN0 hK3
   first | (simp [pack, Bx.asked, hok, hrt, hm0]; done) | (simp [pack, Bx.asked, hok, hrt]; done) | simp [pack, Bx.asked, hok]
 · have hok : b.ok = true := by cases h : b.ok <;> simp [h] at hc6 ⊢
   have hO := ok_iff.1 hok
   refine cd_skip ?_
   refine th_norm (hK3 _ _ ?_)
   refine cd_seq fun K8 hK8 => ?_
   refine cd_region fun K9 hK9 => ?_
   refine sq rfl (st_move hs10 (Ev.t 4 rfl) rfl rfl fun _ _ hs11 => ?_); clear hs10
   refine sq rfl (st_not hs11 (Ev.t 0 rfl) rfl rfl fun _ _ hs12 => ?_); clear hs11
   refine hK9 _ _ ?_; clear hK9
   have hs13 := hs12.keep [0, 4, 5] [_, _, _] rfl; clear hs12
   refine cd_cond hs13 (Ev.t 0 rfl) (fun hc10 => ?_) (fun hc10 => ?_)
   · have hrt : rt = false := by simpa using hc10
     refine cd_region fun K11 hK11 => ?_
     have hs14 := hs13.keep [0, 2] [_, _] rfl; clear hs13
     refine sq rfl (st_assign hs14 (.const _) rfl rfl fun _ _ hs15 => ?_); clear hs14
     refine hK11 _ _ ?_; clear hK11
     have hs16 := hs15.keep [0] [_] rfl; clear hs15
     refine cd_retv (vs := [.int .i64 91]) hs16 (fun a_ w_ h => th_ret (hQ0 a_ w_ h)) rfl ⟨.tmp 0 rfl, trivial⟩ ?_
     clear hs16 hQ0 hN0 hK8
     first | (simp [pack, Bx.asked, hok, hrt, hm0]; done) | (simp [pack, Bx.asked, hok, hrt]; done) | simp [pack, Bx.asked, hok]
   · have hrt : rt = true := by simpa using hc10
     refine cd_skip ?_
     refine th_norm (hK8 _ _ ?_)
     refine cd_seq fun K12 hK12 => ?_
     refine cd_region fun K13 hK13 => ?_
     refine sq rfl (st_loadA (o := 0) (off := 0) (vs := (bxL b A n cp A2 n2 c2)) hs13 (Ev.t 2 rfl) rfl rfl isAgg25 sizeOf25 (hs13.cells 0 rfl) rfl fun _ _ hs14 => ?_); clear hs13
     refine sq rfl (st_callv (vs := [.agg ⟨(bxL b A n cp A2 n2 c2)⟩]) hs14 (.func _) ⟨(Ev.t 0 rfl), trivial⟩ rfl rfl call63 rfl (rmany_v b A n cp A2 n2 c2 _ (hP.kp hs14.kp) hn (hF.kp hs14.kp) hn2 hO) fun _ _ hs15 => ?_); clear hs14
     refine sq rfl (st_cmp (c := ((b.many : Int) : Int) == 0) hs15 (Ev.t 0 rfl) (.const _) rfl rfl rfl rfl fun _ _ hs16 => ?_); clear hs15
     refine hK13 _ _ ?_; clear hK13
     have hs17 := hs16.keep [0, 4] [_, _] rfl; clear hs16
     refine cd_cond hs17 (Ev.t 0 rfl) (fun hc14 => ?_) (fun hc14 => ?_)
     · have hm0 : b.many = 0 := by have h := hc14; rw [beq_iff_eq] at h; omega
       refine cd_region fun K15 hK15 => ?_
       have hs18 := hs17.keep [0] [_] rfl; clear hs17
       refine sq rfl (st_assign hs18 (.const _) rfl rfl fun _ _ hs19 => ?_); clear hs18
       refine hK15 _ _ ?_; clear hK15
       have hs20 := hs19.keep [0] [_] rfl; clear hs19
       refine cd_retv (vs := [.int .i64 92]) hs20 (fun a_ w_ h => th_ret (hQ0 a_ w_ h)) rfl ⟨.tmp 0 rfl, trivial⟩ ?_
       clear hs20 hQ0 hN0 hK12
       first | (simp [pack, Bx.asked, hok, hrt, hm0]; done) | (simp [pack, Bx.asked, hok, hrt]; done) | simp [pack, Bx.asked, hok]
     · have hm0 : ¬ b.many = 0 := by have h := hc14; rw [beq_eq_false_iff_ne] at h; omega
       refine cd_skip ?_
       refine th_norm (hK12 _ _ ?_)
       refine cd_region fun K16 hK16 => ?_
       have hs18 := hs17.keep [0] [_] rfl; clear hs17
       refine sq rfl (st_assign hs18 (.const _) rfl rfl fun _ _ hs19 => ?_); clear hs18
       refine hK16 _ _ ?_; clear hK16
       have hs20 := hs19.keep [0] [_] rfl; clear hs19
       refine cd_retv (vs := [.int .i64 0]) hs20 hQ0 rfl ⟨.tmp 0 rfl, trivial⟩ ?_
       clear hs20 hQ0 hN0
       first | (simp [pack, Bx.asked, hok, hrt, hm0]; done) | (simp [pack, Bx.asked, hok, hrt]; done) | simp [pack, Bx.asked, hok]

theorem takp {b : Bx} (hO : Ok b) {xs : List Int} (hl : xs.length = b.rolls.length) (h : canB b b.sold xs = true) {g : Nat} (hg : g ≤ xs.length) : 0 ≤ tak b.rolls (xs.take g) ∧ tak b.rolls (xs.take g) ≤ 15000 * (g : Int) := by
  refine tak_bd hO.wf (xs := xs) g hg (by omega) (canB_iff.2 (fun i x s hx hs => canB_iff.1 h i x s ?_ hs))
  rw [List.getElem?_take] at hx
  split at hx
  · exact hx
  · cases hx

theorem rtak_v (b : Bx) (A : Option Addr) (n cp : Nat) (A2 : Option Addr) (n2 c2 : Nat) (A4 : Option Addr) (n4 c4 : Nat) (xs : List Int) (w : World) (hP : RollsAt w A n b.rolls) (hn : n ≤ 140737488351232) (hX : IntsAt w A4 n4 xs) (_hn4 : n4 ≤ 140737488351232) (hO : Ok b) (hxl : xs.length = b.rolls.length) (hcb : canB b b.sold xs = true) :
    CallsV Tryd.prog 61 [.agg ⟨(bxL b A n cp A2 n2 c2)⟩, .slice A4 n4 c4] w (.int .i64 (tak b.rolls xs)) := by
 have hl1 := hP.len; have hl4 := hX.len; have hn14 := hO.n
 refine enter (N := 27) (M := []) w func61 rfl rfl rfl (fun Q0 a_0 hQ0 hN0 hs0 => ?_)
 refine cd_region fun K1 hK1 => ?_
 refine sq rfl (st_box hs0 (Ev.t 0 rfl) rfl rfl rfl fun b2 _ _ hs1 => ?_); clear hs0
 refine sq rfl (st_assign hs1 (.const _) rfl rfl fun _ _ hs2 => ?_); clear hs1
 refine hK1 _ _ ?_; clear hK1
 have hs3 := hs2.keep [0, 1, 3] [_, _, _] rfl; clear hs2
 refine cd_region fun K3 hK3 => ?_
 refine sq rfl (st_assign hs3 (.const _) rfl rfl fun _ _ hs4 => ?_); clear hs3
 refine hK3 _ _ ?_; clear hK3
 refine cd_seq fun K4 hK4 => ?_
 refine cd_region fun K5 hK5 => ?_
 refine sq rfl (st_assign hs4 (.const _) rfl rfl fun _ _ hs5 => ?_); clear hs4
 refine hK5 _ _ ?_; clear hK5
 refine cd_block ?_
 have hs6 : Sx 27 [] [(6, .int .i64 (0 : Int)), (5, .int .i64 (tak b.rolls (xs.take 0))), (4, .int .i64 0), (2, .pointer (some ⟨b2, 0, none⟩)), (1, .slice A4 n4 c4)] [(b2, some (.cells ⟨(bxL b A n cp A2 n2 c2)⟩ 25 (0, 0)))] [] w _ _ := Sx.keepE [0, 1, 2, 3, 4] _ ⟨⟨_, rfl, rfl⟩, ⟨_, rfl, by cases b.rolls <;> rfl⟩, ⟨_, rfl, rfl⟩, ⟨_, rfl, rfl⟩, ⟨_, rfl, rfl⟩, trivial⟩ hs5; clear hs5
 refine cd_loop (X := Nat) (fun i a_ w_ => (i ≤ n4) ∧ Sx 27 [] [(6, .int .i64 (i : Int)), (5, .int .i64 (tak b.rolls (xs.take i))), (4, .int .i64 0), (2, .pointer (some ⟨b2, 0, none⟩)), (1, .slice A4 n4 c4)] [(b2, some (.cells ⟨(bxL b A n cp A2 n2 c2)⟩ 25 (0, 0)))] [] w a_ w_) (fun i => n4 - i) (0) ⟨?_, hs6⟩ ?_
 · first | omega | simp
 intro i a_7 w_7 ⟨hi, hs7⟩; clear hs6
 refine cd_seq fun K6 hK6 => ?_
 refine cd_region fun K7 hK7 => ?_
 refine sq rfl (st_move hs7 (Ev.t 0 rfl) rfl rfl fun _ _ hs8 => ?_); clear hs7
 refine sq rfl (st_move hs8 (Ev.t 5 rfl) rfl rfl fun _ _ hs9 => ?_); clear hs8
 refine sq rfl (st_len hs9 (Ev.t 0 rfl) rfl rfl runUnderlying33 fun _ _ hs10 => ?_); clear hs9
 refine sq rfl (st_cmp (c := decide (((i : Int) : Int) < (n4 : Int))) hs10 (Ev.t 2 rfl) (Ev.t 0 rfl) rfl rfl rfl rfl fun _ _ hs11 => ?_); clear hs10
 refine hK7 _ _ ?_; clear hK7
 have hs12 := hs11.keep [0, 4, 5, 6, 7, 8] [_, _, _, _, _, _] rfl; clear hs11
 refine cd_cond hs12 (Ev.t 0 rfl) (fun hc8 => ?_) (fun hc8 => ?_)
 · have hin : i < n4 := by simpa using hc8
   have hil : i < xs.length := by omega
   have hir : i < b.rolls.length := by omega
   obtain ⟨x9, hx9⟩ : ∃ x, xs[i]? = some x := ⟨_, List.getElem?_eq_getElem (by have := hX.len; omega)⟩
   obtain ⟨b10, o10, hA10, -, hc10⟩ := hX.el i x9 hx9
   obtain ⟨x11, hx11⟩ : ∃ x, b.rolls[i]? = some x := ⟨_, List.getElem?_eq_getElem (by have := hP.len; omega)⟩
   obtain ⟨b12, o12, hA12, -, hc12⟩ := hP.el i x11 hx11
   obtain ⟨s9, hs9⟩ : ∃ s, b.sold[i]? = some s := ⟨_, List.getElem?_eq_getElem (by rw [hO.wf.len]; exact hir)⟩
   have hcx := canB_iff.1 hcb i _ _ hx9 hs9
   have hspx := hO.wf.sp _ _ hs9; have hprx := hO.wf.price _ _ hx11
   have hmb := mul_bd (m := x9) (p := x11.price) (by omega) hprx
   rw [Int.mul_comm] at hmb
   have htp := takp hO (by omega) hcb (g := i) (by omega)
   refine cd_skip ?_
   refine th_norm (hK6 _ _ ?_)
   refine cd_seq fun K13 hK13 => ?_
   refine cd_block ?_
   refine cd_drawn1 mixed hs12 [⟨13, [], Is (.int .i64 (tak b.rolls (xs.take i)))⟩, ⟨14, [], Is (.pointer (some ⟨b2, 0, none⟩))⟩, ⟨15, [1], Is (.slice A n cp)⟩, ⟨16, [], Is (.int .i64 (i : Int))⟩, ⟨17, [2, 3], Is (.pointer (some ⟨b12, o12 + i * 5, none⟩))⟩, ⟨18, [4], Is (.pointer (some ⟨b12, o12 + i * 5, none⟩))⟩, ⟨19, [5], Is (.int .i64 x11.price)⟩, ⟨20, [], Is (.slice A4 n4 c4)⟩, ⟨21, [], Is (.int .i64 (i : Int))⟩, ⟨22, [7, 8], Is (.pointer (some ⟨b10, o10 + i * 1, none⟩))⟩, ⟨23, [9], Is (.int .i64 x9)⟩, ⟨24, [6, 10], Is (.int .i64 (x11.price * x9))⟩, ⟨25, [0, 11], Is (.int .i64 ((tak b.rolls (xs.take i)) + (x11.price * x9)))⟩] (by kernel_rfl) (by kernel_rfl) ⟨⟨?_, ?_, ?_, ?_, ?_, ?_, ?_, ?_, ?_, ?_, ?_, ?_, ?_, trivial⟩, ?_⟩
   · rintro T_ B_ a_ w_ K_ hT hB hf hsD hk
     exact ob rfl rfl (st_move hsD (evT hT 2 rfl) rfl hf fun _ _ => hk _ _ _ _ ⟨rfl, rfl⟩)
   · rintro T_ B_ a_ w_ K_ hT hB hf hsD hk
     exact ob rfl rfl (st_field (o' := 0) hsD (evT hT 4 rfl) rfl hf runUnderlying25 rfl sizeOf22 rfl rfl fun _ _ => hk _ _ _ _ ⟨rfl, rfl⟩)
   · rintro T_ B_ a_ w_ K_ hT hB _ _ ⟨rfl, rfl⟩ h14 - hf hsD hk
     exact ob rfl rfl (st_load1 (o := 0) (off := 0) (v := .slice A n cp) hsD (Ev.tmp h14) rfl hf isAgg22 (hsD.cellsM (inB hB 0 rfl)) rfl fun _ _ => hk _ _ _ _ ⟨rfl, rfl⟩)
   · rintro T_ B_ a_ w_ K_ hT hB hf hsD hk
     exact ob rfl rfl (st_move hsD (evT hT 1 rfl) rfl hf fun _ _ => hk _ _ _ _ ⟨rfl, rfl⟩)
   · rintro T_ B_ a_ w_ K_ hT hB _ _ ⟨rfl, rfl⟩ h15 - _ _ ⟨rfl, rfl⟩ h16 - hf hsD hk
     exact ob rfl rfl (st_indexM (o' := o12 + i * 5) hsD (Ev.tmp h15) (Ev.tmp h16) rfl hf hA12 runUnderlying22 sizeOf46 ⟨by omega, by have := hP.len; have := (List.getElem?_eq_some_iff.1 hx11).1; omega⟩ rfl fun _ _ => hk _ _ _ _ ⟨rfl, rfl⟩)
   · rintro T_ B_ a_ w_ K_ hT hB _ _ ⟨rfl, rfl⟩ h17 - hf hsD hk
     exact ob rfl rfl (st_field (o' := o12 + i * 5) hsD (Ev.tmp h17) rfl hf runUnderlying46 rfl sizeOf3 rfl rfl fun _ _ => hk _ _ _ _ ⟨rfl, rfl⟩)
   · rintro T_ B_ a_ w_ K_ hT hB _ _ ⟨rfl, rfl⟩ h18 - hf hsD hk
     exact ob rfl rfl (st_load1 (o := o12 + i * 5) (off := 0) (v := .int .i64 x11.price) hsD (Ev.tmp h18) rfl hf isAgg3 (hsD.old hc12 (by simp)) rfl fun _ _ => hk _ _ _ _ ⟨rfl, rfl⟩)
   · rintro T_ B_ a_ w_ K_ hT hB hf hsD hk
     exact ob rfl rfl (st_move hsD (evT hT 5 rfl) rfl hf fun _ _ => hk _ _ _ _ ⟨rfl, rfl⟩)
   · rintro T_ B_ a_ w_ K_ hT hB hf hsD hk
     exact ob rfl rfl (st_move hsD (evT hT 1 rfl) rfl hf fun _ _ => hk _ _ _ _ ⟨rfl, rfl⟩)
   · rintro T_ B_ a_ w_ K_ hT hB _ _ ⟨rfl, rfl⟩ h20 - _ _ ⟨rfl, rfl⟩ h21 - hf hsD hk
     exact ob rfl rfl (st_indexM (o' := o10 + i * 1) hsD (Ev.tmp h20) (Ev.tmp h21) rfl hf hA10 runUnderlying33 sizeOf3 ⟨by omega, by have := hX.len; have := (List.getElem?_eq_some_iff.1 hx9).1; omega⟩ rfl fun _ _ => hk _ _ _ _ ⟨rfl, rfl⟩)
   · rintro T_ B_ a_ w_ K_ hT hB _ _ ⟨rfl, rfl⟩ h22 - hf hsD hk
     exact ob rfl rfl (st_load1 (o := o10 + i * 1) (off := 0) (v := .int .i64 x9) hsD (Ev.tmp h22) rfl hf isAgg3 (hsD.old hc10 (by simp)) rfl fun _ _ => hk _ _ _ _ ⟨rfl, rfl⟩)
   · rintro T_ B_ a_ w_ K_ hT hB _ _ ⟨rfl, rfl⟩ h19 - _ _ ⟨rfl, rfl⟩ h23 - hf hsD hk
     exact ob rfl rfl (st_mul (z := x11.price * x9) hsD (Ev.tmp h19) (Ev.tmp h23) rfl hf rfl (by omega) fun _ _ => hk _ _ _ _ ⟨rfl, rfl⟩)
   · rintro T_ B_ a_ w_ K_ hT hB _ _ ⟨rfl, rfl⟩ h13 - _ _ ⟨rfl, rfl⟩ h24 - hf hsD hk
     exact ob rfl rfl (st_add (z := (tak b.rolls (xs.take i)) + (x11.price * x9)) hsD (Ev.tmp h13) (Ev.tmp h24) rfl hf rfl (by omega) fun _ _ => hk _ _ _ _ ⟨rfl, rfl⟩)
   rintro _ _ ⟨rfl, rfl⟩ _ _ ⟨rfl, rfl⟩ _ _ ⟨rfl, rfl⟩ _ _ ⟨rfl, rfl⟩ _ _ ⟨rfl, rfl⟩ _ _ ⟨rfl, rfl⟩ _ _ ⟨rfl, rfl⟩ _ _ ⟨rfl, rfl⟩ _ _ ⟨rfl, rfl⟩ _ _ ⟨rfl, rfl⟩ _ _ ⟨rfl, rfl⟩ _ _ ⟨rfl, rfl⟩ _ _ ⟨rfl, rfl⟩ a_13 w_13 hs13; clear hs12
   have hs14 := Sx.as (T' := [_, _, _, _, _, _, _, _, _, _, _, _, _, _, _, _, _, _, _]) (B' := [_]) rfl rfl hs13; clear hs13
   have hs15 := hs14.keep [0, 1, 2, 3, 4, 5, 6, 7, 8, 9, 10, 11, 12, 13, 14, 16, 17, 18] [_, _, _, _, _, _, _, _, _, _, _, _, _, _, _, _, _, _] rfl; clear hs14
   refine sq rfl (st_assign hs15 (Ev.t 12 rfl) rfl rfl fun _ _ hs16 => ?_); clear hs15
   refine wpListIn_nil ?_
   have hs17 := hs16.keep [0, 15, 16, 17, 18] [_, _, _, _, _] rfl; clear hs16
   refine in_norm ?_
   refine th_norm (hK13 _ _ ?_)
   refine cd_region1 ?_
   refine sq rfl (st_move hs17 (Ev.t 1 rfl) rfl rfl fun _ _ hs18 => ?_); clear hs17
   refine sq rfl (st_add (z := (i : Int) + 1) hs18 (Ev.t 0 rfl) (.const _) rfl rfl rfl (by omega) fun _ _ hs19 => ?_); clear hs18
   have hs20 := hs19.keep [0, 1, 2, 4, 5, 6] [_, _, _, _, _, _] rfl; clear hs19
   refine sq rfl (st_assign hs20 (Ev.t 0 rfl) rfl rfl fun _ _ hs21 => ?_); clear hs20
   refine wpListIn_nil ?_
   have hs22 := hs21.keep [0, 3, 4, 5, 6] [_, _, _, _, _] rfl; clear hs21
   refine ⟨i + 1, ⟨?_, ?_⟩, by omega⟩
   · first | omega | (simp; done) | (simp; omega)
   exact Sx.keepE [0, 1, 2, 3, 4] _ ⟨⟨_, rfl, rfl⟩, ⟨_, rfl, by rw [tak_snoc hx11 hx9, Int.mul_comm]⟩, ⟨_, rfl, rfl⟩, ⟨_, rfl, rfl⟩, ⟨_, rfl, rfl⟩, trivial⟩ hs22
 · have hie : i = n4 := by simp at hc8; omega
   have hs13 := Sx.keepE [0, 1, 2, 3, 4, 5] [(10, _), (6, _), (5, .int .i64 (tak b.rolls xs)), (4, _), (2, _), (1, _)] ⟨⟨_, rfl, rfl⟩, ⟨_, rfl, rfl⟩, ⟨_, rfl, (by rw [hie, List.take_of_length_le (by omega)])⟩, ⟨_, rfl, rfl⟩, ⟨_, rfl, rfl⟩, ⟨_, rfl, rfl⟩, trivial⟩ hs12; clear hs12
   refine cd_exit ?_
   refine th_exit ?_
   refine th_exit ?_
   refine in_hit ?_
   refine th_norm (hK4 _ _ ?_)
   refine cd_region fun K14 hK14 => ?_
   refine sq rfl (st_move hs13 (Ev.t 2 rfl) rfl rfl fun _ _ hs14 => ?_); clear hs13
   have hs15 := hs14.keep [0, 1, 2, 3, 5, 6] [_, _, _, _, _, _] rfl; clear hs14
   refine sq rfl (st_assign hs15 (Ev.t 0 rfl) rfl rfl fun _ _ hs16 => ?_); clear hs15
   refine hK14 _ _ ?_; clear hK14
   have hs17 := hs16.keep [0] [_] rfl; clear hs16
   refine cd_retv (vs := [.int .i64 (tak b.rolls xs)]) hs17 hQ0 rfl ⟨.tmp 0 rfl, trivial⟩ ?_
   clear hs17 hQ0 hN0
   rfl

theorem rIsTruth_v (b : Bx) (A : Option Addr) (n cp : Nat) (A2 : Option Addr) (n2 c2 : Nat) (A4 : Option Addr) (n4 c4 : Nat) (xs : List Int) (w : World) (hP : RollsAt w A n b.rolls) (hn : n ≤ 140737488351232) (hF : SpsAt w A2 n2 b.free) (hn2 : n2 ≤ 140737488351232) (hX : IntsAt w A4 n4 xs) (hn4 : n4 ≤ 140737488351232) :
    CallsV Tryd.prog 30 [.agg ⟨(bxL b A n cp A2 n2 c2)⟩, .slice A4 n4 c4] w (.tuple ⟨[.bool ((b.truthR xs).1), .int .i64 ((b.truthR xs).2)]⟩) := by
 refine enter (N := 41) (M := []) w func30 rfl rfl rfl (fun Q0 a_0 hQ0 hN0 hs0 => ?_)
 refine cd_region fun K1 hK1 => ?_
 refine sq rfl (st_box hs0 (Ev.t 0 rfl) rfl rfl rfl fun b2 _ _ hs1 => ?_); clear hs0
 refine sq rfl (st_assign hs1 (.const _) rfl rfl fun _ _ hs2 => ?_); clear hs1
 refine sq rfl (st_assign hs2 (.const _) rfl rfl fun _ _ hs3 => ?_); clear hs2
 refine hK1 _ _ ?_; clear hK1
 have hs4 := hs3.keep [0, 1, 2, 4] [_, _, _, _] rfl; clear hs3
 refine cd_seq fun K3 hK3 => ?_
 refine cd_region fun K4 hK4 => ?_
 refine sq rfl (st_loadA (o := 0) (off := 0) (vs := (bxL b A n cp A2 n2 c2)) hs4 (Ev.t 2 rfl) rfl rfl isAgg25 sizeOf25 (hs4.cells 0 rfl) rfl fun _ _ hs5 => ?_); clear hs4
 refine sq rfl (st_callv (vs := [.agg ⟨(bxL b A n cp A2 n2 c2)⟩]) hs5 (.func _) ⟨(Ev.t 0 rfl), trivial⟩ rfl rfl call31 rfl (rcheck_v b A n cp A2 n2 c2 _ (hP.kp hs5.kp) hn (hF.kp hs5.kp) hn2) fun _ _ hs6 => ?_); clear hs5
 refine sq rfl (st_assign hs6 (Ev.t 0 rfl) rfl rfl fun _ _ hs7 => ?_); clear hs6
 refine hK4 _ _ ?_; clear hK4
 have hs8 := hs7.keep [0, 3, 4, 5, 6] [_, _, _, _, _] rfl; clear hs7
 refine cd_region fun K5 hK5 => ?_
 refine sq rfl (st_move hs8 (Ev.t 0 rfl) rfl rfl fun _ _ hs9 => ?_); clear hs8
 refine sq rfl (st_cmp (c := (if b.ok then 0 else 90 : Int) != 0) hs9 (Ev.t 0 rfl) (.const _) rfl rfl rfl rfl fun _ _ hs10 => ?_); clear hs9
 refine hK5 _ _ ?_; clear hK5
 have hs11 := hs10.keep [0, 2, 3, 4, 5, 6] [_, _, _, _, _, _] rfl; clear hs10
 refine cd_cond hs11 (Ev.t 0 rfl) (fun hc6 => ?_) (fun hc6 => ?_)
 · have hok : b.ok = false := by cases h : b.ok <;> simp [h] at hc6 ⊢
   refine cd_region fun K7 hK7 => ?_
   refine sq rfl (st_move hs11 (Ev.t 1 rfl) rfl rfl fun _ _ hs12 => ?_); clear hs11
   have hs13 := hs12.keep [0, 1, 2, 3, 5, 6] [_, _, _, _, _, _] rfl; clear hs12
   refine sq rfl (st_assign hs13 (.const _) rfl rfl fun _ _ hs14 => ?_); clear hs13
   have hs15 := hs14.keep [0, 1, 2, 3, 5, 6] [_, _, _, _, _, _] rfl; clear hs14
   refine sq rfl (st_assign hs15 (Ev.t 1 rfl) rfl rfl fun _ _ hs16 => ?_); clear hs15
   refine hK7 _ _ ?_; clear hK7
   have hs17 := hs16.keep [0, 1] [_, _] rfl; clear hs16
   refine cd_retv (vs := [.bool false, .int .i64 (if b.ok then 0 else 90)]) hs17 (fun a_ w_ h => th_ret (hQ0 a_ w_ h)) rfl ⟨.tmp 1 rfl, .tmp 0 rfl, trivial⟩ ?_
   clear hs17 hQ0 hN0 hK3
   first | (simp [pack, Bx.truthR, hok]; done) | (simp [pack, Bx.truthR, hok, Bx.truth, hcf]; done) | (simp only [pack, Bx.truthR, hok, if_true, Bx.truth, hlx2, hcan2]; simp [right]; done) | (simp [pack, Bx.truthR, hok, Bx.truth, hlx]; done)
 · have hok : b.ok = true := by cases h : b.ok <;> simp [h] at hc6 ⊢
   have hO := ok_iff.1 hok
   have hl1 := hP.len; have hl2 := hF.len; have hl4 := hX.len; have hn14 := hO.n; have hlen := hO.len
   refine cd_skip ?_
   refine th_norm (hK3 _ _ ?_)
   refine cd_seq fun K8 hK8 => ?_
   refine cd_region fun K9 hK9 => ?_
   refine sq rfl (st_move hs11 (Ev.t 5 rfl) rfl rfl fun _ _ hs12 => ?_); clear hs11
   refine sq rfl (st_len hs12 (Ev.t 0 rfl) rfl rfl runUnderlying33 fun _ _ hs13 => ?_); clear hs12
   refine sq rfl (st_field (o' := 0) hs13 (Ev.t 6 rfl) rfl rfl runUnderlying25 rfl sizeOf22 rfl rfl fun _ _ hs14 => ?_); clear hs13
   refine sq rfl (st_load1 (o := 0) (off := 0) (v := .slice A n cp) hs14 (Ev.t 0 rfl) rfl rfl isAgg22 (hs14.cells 0 rfl) rfl fun _ _ hs15 => ?_); clear hs14
   refine sq rfl (st_len hs15 (Ev.t 0 rfl) rfl rfl runUnderlying22 fun _ _ hs16 => ?_); clear hs15
   refine sq rfl (st_cmp (c := ((n4 : Int) : Int) != (n : Int)) hs16 (Ev.t 3 rfl) (Ev.t 0 rfl) rfl rfl rfl rfl fun _ _ hs17 => ?_); clear hs16
   refine hK9 _ _ ?_; clear hK9
   have hs18 := hs17.keep [0, 8, 9, 10, 11] [_, _, _, _, _] rfl; clear hs17
   refine cd_cond hs18 (Ev.t 0 rfl) (fun hc10 => ?_) (fun hc10 => ?_)
   · have hlx : (xs.length == b.rolls.length) = false := by simp at hc10; rw [beq_eq_false_iff_ne]; omega
     refine cd_region fun K11 hK11 => ?_
     have hs19 := hs18.keep [0, 1, 3, 4] [_, _, _, _] rfl; clear hs18
     refine sq rfl (st_assign hs19 (.const _) rfl rfl fun _ _ hs20 => ?_); clear hs19
     have hs21 := hs20.keep [0, 1, 3, 4] [_, _, _, _] rfl; clear hs20
     refine sq rfl (st_assign hs21 (.const _) rfl rfl fun _ _ hs22 => ?_); clear hs21
     refine hK11 _ _ ?_; clear hK11
     have hs23 := hs22.keep [0, 1] [_, _] rfl; clear hs22
     refine cd_retv (vs := [.bool false, .int .i64 0]) hs23 (fun a_ w_ h => th_ret (hQ0 a_ w_ h)) rfl ⟨.tmp 1 rfl, .tmp 0 rfl, trivial⟩ ?_
     clear hs23 hQ0 hN0 hK8
     first | (simp [pack, Bx.truthR, hok]; done) | (simp [pack, Bx.truthR, hok, Bx.truth, hcf]; done) | (simp only [pack, Bx.truthR, hok, if_true, Bx.truth, hlx2, hcan2]; simp [right]; done) | (simp [pack, Bx.truthR, hok, Bx.truth, hlx]; done)
   · have hln : n4 = n := by simp at hc10; omega
     have hlx2 : (xs.length == b.rolls.length) = true := by rw [beq_iff_eq]; omega
     refine cd_skip ?_
     refine th_norm (hK8 _ _ ?_)
     refine cd_seq fun K12 hK12 => ?_
     refine cd_region fun K13 hK13 => ?_
     refine sq rfl (st_assign hs18 (.const _) rfl rfl fun _ _ hs19 => ?_); clear hs18
     refine hK13 _ _ ?_; clear hK13
     have hs20 := hs19.keep [0, 2, 3, 4, 5] [_, _, _, _, _] rfl; clear hs19
     refine cd_block ?_
     have hs21 : Sx 41 [] [(7, .int .i64 (0 : Int)), (5, .int .i64 0), (4, .bool false), (2, .pointer (some ⟨b2, 0, none⟩)), (1, .slice A4 n4 c4)] [(b2, some (.cells ⟨(bxL b A n cp A2 n2 c2)⟩ 25 (0, 0)))] [] w _ _ := Sx.keepE [0, 1, 2, 3, 4] _ ⟨⟨_, rfl, rfl⟩, ⟨_, rfl, rfl⟩, ⟨_, rfl, rfl⟩, ⟨_, rfl, rfl⟩, ⟨_, rfl, rfl⟩, trivial⟩ hs20; clear hs20
     refine cd_loop (X := Nat) (fun i a_ w_ => (i ≤ n4) ∧ (canB b b.sold (xs.take i) = true) ∧ Sx 41 [] [(7, .int .i64 (i : Int)), (5, .int .i64 0), (4, .bool false), (2, .pointer (some ⟨b2, 0, none⟩)), (1, .slice A4 n4 c4)] [(b2, some (.cells ⟨(bxL b A n cp A2 n2 c2)⟩ 25 (0, 0)))] [] w a_ w_) (fun i => n4 - i) (0) ⟨?_, ?_, hs21⟩ ?_
     · first | omega | simp
     · rfl
     intro i a_22 w_22 ⟨hi, hcan, hs22⟩; clear hs21
     refine cd_seq fun K14 hK14 => ?_
     refine cd_region fun K15 hK15 => ?_
     refine sq rfl (st_move hs22 (Ev.t 0 rfl) rfl rfl fun _ _ hs23 => ?_); clear hs22
     refine sq rfl (st_move hs23 (Ev.t 5 rfl) rfl rfl fun _ _ hs24 => ?_); clear hs23
     refine sq rfl (st_len hs24 (Ev.t 0 rfl) rfl rfl runUnderlying33 fun _ _ hs25 => ?_); clear hs24
     refine sq rfl (st_cmp (c := decide (((i : Int) : Int) < (n4 : Int))) hs25 (Ev.t 2 rfl) (Ev.t 0 rfl) rfl rfl rfl rfl fun _ _ hs26 => ?_); clear hs25
     refine hK15 _ _ ?_; clear hK15
     have hs27 := hs26.keep [0, 4, 5, 6, 7, 8] [_, _, _, _, _, _] rfl; clear hs26
     refine cd_cond hs27 (Ev.t 0 rfl) (fun hc16 => ?_) (fun hc16 => ?_)
     · have hin : i < n4 := by simpa using hc16
       have hil : i < xs.length := by omega
       have hir : i < b.rolls.length := by omega
       have hif : i < b.free.length := by omega
       obtain ⟨x17, hx17⟩ : ∃ x, xs[i]? = some x := ⟨_, List.getElem?_eq_getElem (by have := hX.len; omega)⟩
       obtain ⟨b18, o18, hA18, -, hc18⟩ := hX.el i x17 hx17
       obtain ⟨x19, hx19⟩ : ∃ x, b.rolls[i]? = some x := ⟨_, List.getElem?_eq_getElem (by have := hP.len; omega)⟩
       obtain ⟨b20, o20, hA20, -, hc20⟩ := hP.el i x19 hx19
       obtain ⟨x21, hx21⟩ : ∃ x, b.free[i]? = some x := ⟨_, List.getElem?_eq_getElem (by have := hF.len; omega)⟩
       obtain ⟨b22, o22, hA22, -, hc22⟩ := hF.el i x21 hx21
       have hs9 := sold_at hx19 hx21
       refine cd_skip ?_
       refine th_norm (hK14 _ _ ?_)
       refine cd_seq fun K23 hK23 => ?_
       refine cd_block ?_
       refine cd_drawn mixed hs27 [⟨25, [], Is (.agg ⟨(bxL b A n cp A2 n2 c2)⟩)⟩, ⟨26, [], Is (.int .i64 (i : Int))⟩, ⟨27, [0, 1], Is (.agg ⟨(spL (x19.sold x21))⟩)⟩, ⟨28, [], Is (.slice A4 n4 c4)⟩, ⟨29, [], Is (.int .i64 (i : Int))⟩, ⟨30, [3, 4], Is (.pointer (some ⟨b18, o18 + i * 1, none⟩))⟩, ⟨31, [5], Is (.int .i64 x17)⟩] (by kernel_rfl) (by kernel_rfl) fun K24 hK24 => ⟨⟨?_, ?_, ?_, ?_, ?_, ?_, ?_, trivial⟩, ?_⟩
       · rintro T_ B_ a_ w_ K_ hT hB hf hsD hk
         exact ob rfl rfl (st_loadA (o := 0) (off := 0) (vs := (bxL b A n cp A2 n2 c2)) hsD (evT hT 4 rfl) rfl hf isAgg25 sizeOf25 (hsD.cellsM (inB hB 0 rfl)) rfl fun _ _ => hk _ _ _ _ ⟨rfl, rfl⟩)
       · rintro T_ B_ a_ w_ K_ hT hB hf hsD hk
         exact ob rfl rfl (st_move hsD (evT hT 1 rfl) rfl hf fun _ _ => hk _ _ _ _ ⟨rfl, rfl⟩)
       · rintro T_ B_ a_ w_ K_ hT hB _ _ ⟨rfl, rfl⟩ h25 - _ _ ⟨rfl, rfl⟩ h26 - hf hsD hk
         exact ob rfl rfl (st_callv (vs := [.agg ⟨(bxL b A n cp A2 n2 c2)⟩, .int .i64 (i : Int)]) hsD (.func _) ⟨(Ev.tmp h25), (Ev.tmp h26), trivial⟩ rfl hf call59 rfl (rcan_v b A n cp A2 n2 c2 i x19 hx19 x21 hx21 _ (hP.kp hsD.kp) hn (hF.kp hsD.kp) hn2 (hO.roll _ _ hx19) (hO.free _ _ hx21)) fun _ _ => hk _ _ _ _ ⟨rfl, rfl⟩)
       · rintro T_ B_ a_ w_ K_ hT hB hf hsD hk
         exact ob rfl rfl (st_move hsD (evT hT 5 rfl) rfl hf fun _ _ => hk _ _ _ _ ⟨rfl, rfl⟩)
       · rintro T_ B_ a_ w_ K_ hT hB hf hsD hk
         exact ob rfl rfl (st_move hsD (evT hT 1 rfl) rfl hf fun _ _ => hk _ _ _ _ ⟨rfl, rfl⟩)
       · rintro T_ B_ a_ w_ K_ hT hB _ _ ⟨rfl, rfl⟩ h28 - _ _ ⟨rfl, rfl⟩ h29 - hf hsD hk
         exact ob rfl rfl (st_indexM (o' := o18 + i * 1) hsD (Ev.tmp h28) (Ev.tmp h29) rfl hf hA18 runUnderlying33 sizeOf3 ⟨by omega, by have := hX.len; have := (List.getElem?_eq_some_iff.1 hx17).1; omega⟩ rfl fun _ _ => hk _ _ _ _ ⟨rfl, rfl⟩)
       · rintro T_ B_ a_ w_ K_ hT hB _ _ ⟨rfl, rfl⟩ h30 - hf hsD hk
         exact ob rfl rfl (st_load1 (o := o18 + i * 1) (off := 0) (v := .int .i64 x17) hsD (Ev.tmp h30) rfl hf isAgg3 (hsD.old hc18 (by simp)) rfl fun _ _ => hk _ _ _ _ ⟨rfl, rfl⟩)
       rintro _ _ ⟨rfl, rfl⟩ _ _ ⟨rfl, rfl⟩ _ _ ⟨rfl, rfl⟩ _ _ ⟨rfl, rfl⟩ _ _ ⟨rfl, rfl⟩ _ _ ⟨rfl, rfl⟩ _ _ ⟨rfl, rfl⟩ a_28 w_28 hs28; clear hs27
       have hs29 := Sx.as (T' := [_, _, _, _, _, _, _, _, _, _, _, _, _]) (B' := [_]) rfl rfl hs28; clear hs28
       refine sq rfl (st_callv (vs := [.agg ⟨(spL (x19.sold x21))⟩, .int .i64 x17]) hs29 (.func _) ⟨(Ev.t 2 rfl), (Ev.t 6 rfl), trivial⟩ rfl rfl call41 rfl (holds_v ((x19.sold x21).lo) ((x19.sold x21).hi) x17 _) fun _ _ hs30 => ?_); clear hs29
       refine sq rfl (st_not hs30 (Ev.t 0 rfl) rfl rfl fun _ _ hs31 => ?_); clear hs30
       refine hK24 _ _ ?_; clear hK24
       have hs32 := hs31.keep [0, 10, 11, 12, 13, 14] [_, _, _, _, _, _] rfl; clear hs31
       refine cd_cond hs32 (Ev.t 0 rfl) (fun hc25 => ?_) (fun hc25 => ?_)
       · have hcf := canB_false (b := b) hx17 hs9 (by simpa using hc25)
         refine cd_region fun K26 hK26 => ?_
         have hs33 := hs32.keep [0, 1, 2, 4, 5] [_, _, _, _, _] rfl; clear hs32
         refine sq rfl (st_assign hs33 (.const _) rfl rfl fun _ _ hs34 => ?_); clear hs33
         have hs35 := hs34.keep [0, 1, 2, 4, 5] [_, _, _, _, _] rfl; clear hs34
         refine sq rfl (st_assign hs35 (.const _) rfl rfl fun _ _ hs36 => ?_); clear hs35
         refine hK26 _ _ ?_; clear hK26
         have hs37 := hs36.keep [0, 1] [_, _] rfl; clear hs36
         refine cd_retv (vs := [.bool false, .int .i64 0]) hs37 (fun a_ w_ h => in_ret (th_ret (th_ret (in_ret (th_ret (hQ0 a_ w_ h)))))) rfl ⟨.tmp 1 rfl, .tmp 0 rfl, trivial⟩ ?_
         clear hs37 hQ0 hN0 hK23 hK12
         first | (simp [pack, Bx.truthR, hok]; done) | (simp [pack, Bx.truthR, hok, Bx.truth, hcf]; done) | (simp only [pack, Bx.truthR, hok, if_true, Bx.truth, hlx2, hcan2]; simp [right]; done) | (simp [pack, Bx.truthR, hok, Bx.truth, hlx]; done)
       · have hw : within x17 (x19.sold x21).lo (x19.sold x21).hi = true := by simpa using hc25
         refine cd_skip ?_
         refine in_norm ?_
         refine th_norm (hK23 _ _ ?_)
         refine cd_region1 ?_
         refine sq rfl (st_move hs32 (Ev.t 1 rfl) rfl rfl fun _ _ hs33 => ?_); clear hs32
         refine sq rfl (st_add (z := (i : Int) + 1) hs33 (Ev.t 0 rfl) (.const _) rfl rfl rfl (by omega) fun _ _ hs34 => ?_); clear hs33
         have hs35 := hs34.keep [0, 1, 2, 4, 5, 6, 7] [_, _, _, _, _, _, _] rfl; clear hs34
         refine sq rfl (st_assign hs35 (Ev.t 0 rfl) rfl rfl fun _ _ hs36 => ?_); clear hs35
         refine wpListIn_nil ?_
         have hs37 := hs36.keep [0, 4, 5, 6, 7] [_, _, _, _, _] rfl; clear hs36
         refine ⟨i + 1, ⟨?_, ?_, ?_⟩, by omega⟩
         · first | omega | (simp; done) | (simp; omega)
         · rw [canB_snoc hx17 hs9, hcan, hw]; rfl
         exact Sx.keepE [0, 1, 2, 3, 4] _ ⟨⟨_, rfl, rfl⟩, ⟨_, rfl, rfl⟩, ⟨_, rfl, rfl⟩, ⟨_, rfl, rfl⟩, ⟨_, rfl, rfl⟩, trivial⟩ hs37
     · have hie : i = n4 := by simp at hc16; omega
       have hcan2 : canB b b.sold xs = true := by rw [hie, List.take_of_length_le (by omega)] at hcan; exact hcan
       have htr := tak_range hO (xs := xs) (by omega) hcan2
       refine cd_exit ?_
       refine th_exit ?_
       refine th_exit ?_
       refine in_hit ?_
       refine th_norm (hK12 _ _ ?_)
       refine cd_drawn mixed hs27 [⟨34, [], Is (.agg ⟨(bxL b A n cp A2 n2 c2)⟩)⟩, ⟨35, [], Is (.agg ⟨(bxL b A n cp A2 n2 c2)⟩)⟩, ⟨36, [], Is (.slice A4 n4 c4)⟩, ⟨37, [1, 2], Is (.int .i64 (tak b.rolls xs))⟩, ⟨38, [], Is (.pointer (some ⟨b2, 3, none⟩))⟩, ⟨39, [4], Is (.int .i64 b.err)⟩] (by kernel_rfl) (by kernel_rfl) fun K27 hK27 => ⟨⟨?_, ?_, ?_, ?_, ?_, ?_, trivial⟩, ?_⟩
       · rintro T_ B_ a_ w_ K_ hT hB hf hsD hk
         exact ob rfl rfl (st_loadA (o := 0) (off := 0) (vs := (bxL b A n cp A2 n2 c2)) hsD (evT hT 4 rfl) rfl hf isAgg25 sizeOf25 (hsD.cellsM (inB hB 0 rfl)) rfl fun _ _ => hk _ _ _ _ ⟨rfl, rfl⟩)
       · rintro T_ B_ a_ w_ K_ hT hB hf hsD hk
         exact ob rfl rfl (st_loadA (o := 0) (off := 0) (vs := (bxL b A n cp A2 n2 c2)) hsD (evT hT 4 rfl) rfl hf isAgg25 sizeOf25 (hsD.cellsM (inB hB 0 rfl)) rfl fun _ _ => hk _ _ _ _ ⟨rfl, rfl⟩)
       · rintro T_ B_ a_ w_ K_ hT hB hf hsD hk
         exact ob rfl rfl (st_move hsD (evT hT 5 rfl) rfl hf fun _ _ => hk _ _ _ _ ⟨rfl, rfl⟩)
       · rintro T_ B_ a_ w_ K_ hT hB _ _ ⟨rfl, rfl⟩ h35 - _ _ ⟨rfl, rfl⟩ h36 - hf hsD hk
         exact ob rfl rfl (st_callv (vs := [.agg ⟨(bxL b A n cp A2 n2 c2)⟩, .slice A4 n4 c4]) hsD (.func _) ⟨(Ev.tmp h35), (Ev.tmp h36), trivial⟩ rfl hf call61 rfl (rtak_v b A n cp A2 n2 c2 A4 n4 c4 xs _ (hP.kp hsD.kp) hn (hX.kp hsD.kp) hn4 hO (by omega) hcan2) fun _ _ => hk _ _ _ _ ⟨rfl, rfl⟩)
       · rintro T_ B_ a_ w_ K_ hT hB hf hsD hk
         exact ob rfl rfl (st_field (o' := 3) hsD (evT hT 4 rfl) rfl hf runUnderlying25 rfl sizeOf3 rfl rfl fun _ _ => hk _ _ _ _ ⟨rfl, rfl⟩)
       · rintro T_ B_ a_ w_ K_ hT hB _ _ ⟨rfl, rfl⟩ h38 - hf hsD hk
         exact ob rfl rfl (st_load1 (o := 0) (off := 3) (v := .int .i64 b.err) hsD (Ev.tmp h38) rfl hf isAgg3 (hsD.cellsM (inB hB 0 rfl)) rfl fun _ _ => hk _ _ _ _ ⟨rfl, rfl⟩)
       rintro _ _ ⟨rfl, rfl⟩ _ _ ⟨rfl, rfl⟩ _ _ ⟨rfl, rfl⟩ _ _ ⟨rfl, rfl⟩ _ _ ⟨rfl, rfl⟩ _ _ ⟨rfl, rfl⟩ a_28 w_28 hs28; clear hs27
       have hs29 := Sx.as (T' := [_, _, _, _, _, _, _, _, _, _, _, _]) (B' := [_]) rfl rfl hs28; clear hs28
       refine sq rfl (st_callv (vs := [.agg ⟨(bxL b A n cp A2 n2 c2)⟩, .int .i64 (tak b.rolls xs), .int .i64 b.err]) hs29 (.func _) ⟨(Ev.t 0 rfl), (Ev.t 3 rfl), (Ev.t 5 rfl), trivial⟩ rfl rfl call60 rfl (near_v b A n cp A2 n2 c2 (tak b.rolls xs) b.err _ hO.count (by have := hO.err; omega)) fun _ _ hs30 => ?_); clear hs29
       have hs31 := hs30.keep [0, 1, 2, 3, 4, 5, 6, 7, 8, 9, 11, 12] [_, _, _, _, _, _, _, _, _, _, _, _] rfl; clear hs30
       refine sq rfl (st_assign hs31 (Ev.t 0 rfl) rfl rfl fun _ _ hs32 => ?_); clear hs31
       have hs33 := hs32.keep [0, 1, 2, 3, 4, 5, 6, 7, 8, 9, 11, 12] [_, _, _, _, _, _, _, _, _, _, _, _] rfl; clear hs32
       refine sq rfl (st_assign hs33 (.const _) rfl rfl fun _ _ hs34 => ?_); clear hs33
       refine hK27 _ _ ?_; clear hK27
       have hs35 := hs34.keep [0, 1] [_, _] rfl; clear hs34
       refine cd_retv (vs := [.bool (within (tak b.rolls xs) (b.count - b.err) (b.count + b.err)), .int .i64 0]) hs35 hQ0 rfl ⟨.tmp 1 rfl, .tmp 0 rfl, trivial⟩ ?_
       clear hs35 hQ0 hN0
       first | (simp [pack, Bx.truthR, hok]; done) | (simp [pack, Bx.truthR, hok, Bx.truth, hcf]; done) | (simp only [pack, Bx.truthR, hok, if_true, Bx.truth, hlx2, hcan2]; simp [right]; done) | (simp [pack, Bx.truthR, hok, Bx.truth, hlx]; done)

theorem rMany_v (b : Bx) (A : Option Addr) (n cp : Nat) (A2 : Option Addr) (n2 c2 : Nat) (w : World) (hP : RollsAt w A n b.rolls) (hn : n ≤ 140737488351232) (hF : SpsAt w A2 n2 b.free) (hn2 : n2 ≤ 140737488351232) :
    CallsV Tryd.prog 32 [.agg ⟨(bxL b A n cp A2 n2 c2)⟩] w (.tuple ⟨[.int .i64 b.manyR.1, .int .i64 b.manyR.2]⟩) := by
 refine enter (N := 13) (M := []) w func32 rfl rfl rfl (fun Q0 a_0 hQ0 hN0 hs0 => ?_)
 refine cd_region fun K1 hK1 => ?_
 refine sq rfl (st_box hs0 (Ev.t 0 rfl) rfl rfl rfl fun b2 _ _ hs1 => ?_); clear hs0
 refine sq rfl (st_assign hs1 (.const _) rfl rfl fun _ _ hs2 => ?_); clear hs1
 refine sq rfl (st_assign hs2 (.const _) rfl rfl fun _ _ hs3 => ?_); clear hs2
 refine hK1 _ _ ?_; clear hK1
 have hs4 := hs3.keep [0, 1, 2] [_, _, _] rfl; clear hs3
 refine cd_seq fun K3 hK3 => ?_
 refine cd_region fun K4 hK4 => ?_
 refine sq rfl (st_loadA (o := 0) (off := 0) (vs := (bxL b A n cp A2 n2 c2)) hs4 (Ev.t 2 rfl) rfl rfl isAgg25 sizeOf25 (hs4.cells 0 rfl) rfl fun _ _ hs5 => ?_); clear hs4
 refine sq rfl (st_callv (vs := [.agg ⟨(bxL b A n cp A2 n2 c2)⟩]) hs5 (.func _) ⟨(Ev.t 0 rfl), trivial⟩ rfl rfl call31 rfl (rcheck_v b A n cp A2 n2 c2 _ (hP.kp hs5.kp) hn (hF.kp hs5.kp) hn2) fun _ _ hs6 => ?_); clear hs5
 refine sq rfl (st_assign hs6 (Ev.t 0 rfl) rfl rfl fun _ _ hs7 => ?_); clear hs6
 refine hK4 _ _ ?_; clear hK4
 have hs8 := hs7.keep [0, 3, 4, 5] [_, _, _, _] rfl; clear hs7
 refine cd_region fun K5 hK5 => ?_
 refine sq rfl (st_move hs8 (Ev.t 0 rfl) rfl rfl fun _ _ hs9 => ?_); clear hs8
 refine sq rfl (st_cmp (c := (if b.ok then 0 else 90 : Int) != 0) hs9 (Ev.t 0 rfl) (.const _) rfl rfl rfl rfl fun _ _ hs10 => ?_); clear hs9
 refine hK5 _ _ ?_; clear hK5
 have hs11 := hs10.keep [0, 2, 3, 4, 5] [_, _, _, _, _] rfl; clear hs10
 refine cd_cond hs11 (Ev.t 0 rfl) (fun hc6 => ?_) (fun hc6 => ?_)
 · have hok : b.ok = false := by cases h : b.ok <;> simp [h] at hc6 ⊢
   refine cd_region fun K7 hK7 => ?_
   refine sq rfl (st_move hs11 (Ev.t 1 rfl) rfl rfl fun _ _ hs12 => ?_); clear hs11
   have hs13 := hs12.keep [0, 1, 2, 3, 5] [_, _, _, _, _] rfl; clear hs12
   refine sq rfl (st_assign hs13 (.const _) rfl rfl fun _ _ hs14 => ?_); clear hs13
   have hs15 := hs14.keep [0, 1, 2, 3, 5] [_, _, _, _, _] rfl; clear hs14
   refine sq rfl (st_assign hs15 (Ev.t 1 rfl) rfl rfl fun _ _ hs16 => ?_); clear hs15
   refine hK7 _ _ ?_; clear hK7
   have hs17 := hs16.keep [0, 1] [_, _] rfl; clear hs16
   refine cd_retv (vs := [.int .i64 0, .int .i64 (if b.ok then 0 else 90)]) hs17 (fun a_ w_ h => th_ret (hQ0 a_ w_ h)) rfl ⟨.tmp 1 rfl, .tmp 0 rfl, trivial⟩ ?_
   clear hs17 hQ0 hN0 hK3
   first | (simp [pack, Bx.manyR, hok]; done) | simp [pack, Bx.manyR, hok, Int.min_comm]
 · have hok : b.ok = true := by cases h : b.ok <;> simp [h] at hc6 ⊢
   have hO := ok_iff.1 hok
   refine cd_skip ?_
   refine th_norm (hK3 _ _ ?_)
   refine cd_region fun K8 hK8 => ?_
   refine sq rfl (st_loadA (o := 0) (off := 0) (vs := (bxL b A n cp A2 n2 c2)) hs11 (Ev.t 4 rfl) rfl rfl isAgg25 sizeOf25 (hs11.cells 0 rfl) rfl fun _ _ hs12 => ?_); clear hs11
   refine sq rfl (st_callv (vs := [.agg ⟨(bxL b A n cp A2 n2 c2)⟩]) hs12 (.func _) ⟨(Ev.t 0 rfl), trivial⟩ rfl rfl call63 rfl (rmany_v b A n cp A2 n2 c2 _ (hP.kp hs12.kp) hn (hF.kp hs12.kp) hn2 hO) fun _ _ hs13 => ?_); clear hs12
   refine sq rfl (st_min hs13 (.const _) (Ev.t 0 rfl) rfl rfl fun _ _ hs14 => ?_); clear hs13
   have hs15 := hs14.keep [0, 1, 2, 3, 4, 5, 7] [_, _, _, _, _, _, _] rfl; clear hs14
   refine sq rfl (st_assign hs15 (Ev.t 0 rfl) rfl rfl fun _ _ hs16 => ?_); clear hs15
   have hs17 := hs16.keep [0, 1, 2, 3, 4, 5, 7] [_, _, _, _, _, _, _] rfl; clear hs16
   refine sq rfl (st_assign hs17 (.const _) rfl rfl fun _ _ hs18 => ?_); clear hs17
   refine hK8 _ _ ?_; clear hK8
   have hs19 := hs18.keep [0, 1] [_, _] rfl; clear hs18
   refine cd_retv (vs := [.int .i64 (min 1000000 (b.many : Int)), .int .i64 0]) hs19 hQ0 rfl ⟨.tmp 1 rfl, .tmp 0 rfl, trivial⟩ ?_
   clear hs19 hQ0 hN0
   first | (simp [pack, Bx.manyR, hok]; done) | simp [pack, Bx.manyR, hok, Int.min_comm]

theorem rWrong_v (b : Bx) (A : Option Addr) (n cp : Nat) (A2 : Option Addr) (n2 c2 : Nat) (w : World) (hP : RollsAt w A n b.rolls) (hn : n ≤ 140737488351232) (hF : SpsAt w A2 n2 b.free) (hn2 : n2 ≤ 140737488351232) :
    CallsV Tryd.prog 33 [.agg ⟨(bxL b A n cp A2 n2 c2)⟩] w (.tuple ⟨[.int .i64 b.wrongR.1, .int .i64 b.wrongR.2]⟩) := by
 refine enter (N := 40) (M := []) w func33 rfl rfl rfl (fun Q0 a_0 hQ0 hN0 hs0 => ?_)
 refine cd_region fun K1 hK1 => ?_
 refine sq rfl (st_box hs0 (Ev.t 0 rfl) rfl rfl rfl fun b2 _ _ hs1 => ?_); clear hs0
 refine sq rfl (st_assign hs1 (.const _) rfl rfl fun _ _ hs2 => ?_); clear hs1
 refine sq rfl (st_assign hs2 (.const _) rfl rfl fun _ _ hs3 => ?_); clear hs2
 refine hK1 _ _ ?_; clear hK1
 have hs4 := hs3.keep [0, 1, 2] [_, _, _] rfl; clear hs3
 refine cd_seq fun K3 hK3 => ?_
 refine cd_region fun K4 hK4 => ?_
 refine sq rfl (st_loadA (o := 0) (off := 0) (vs := (bxL b A n cp A2 n2 c2)) hs4 (Ev.t 2 rfl) rfl rfl isAgg25 sizeOf25 (hs4.cells 0 rfl) rfl fun _ _ hs5 => ?_); clear hs4
 refine sq rfl (st_callv (vs := [.agg ⟨(bxL b A n cp A2 n2 c2)⟩]) hs5 (.func _) ⟨(Ev.t 0 rfl), trivial⟩ rfl rfl call31 rfl (rcheck_v b A n cp A2 n2 c2 _ (hP.kp hs5.kp) hn (hF.kp hs5.kp) hn2) fun _ _ hs6 => ?_); clear hs5
 refine sq rfl (st_assign hs6 (Ev.t 0 rfl) rfl rfl fun _ _ hs7 => ?_); clear hs6
 refine hK4 _ _ ?_; clear hK4
 have hs8 := hs7.keep [0, 3, 4, 5] [_, _, _, _] rfl; clear hs7
 refine cd_region fun K5 hK5 => ?_
 refine sq rfl (st_move hs8 (Ev.t 0 rfl) rfl rfl fun _ _ hs9 => ?_); clear hs8
 refine sq rfl (st_cmp (c := (if b.ok then 0 else 90 : Int) != 0) hs9 (Ev.t 0 rfl) (.const _) rfl rfl rfl rfl fun _ _ hs10 => ?_); clear hs9
 refine hK5 _ _ ?_; clear hK5
 have hs11 := hs10.keep [0, 2, 3, 4, 5] [_, _, _, _, _] rfl; clear hs10
 refine cd_cond hs11 (Ev.t 0 rfl) (fun hc6 => ?_) (fun hc6 => ?_)
 · have hok : b.ok = false := by cases h : b.ok <;> simp [h] at hc6 ⊢
   refine cd_region fun K7 hK7 => ?_
   refine sq rfl (st_move hs11 (Ev.t 1 rfl) rfl rfl fun _ _ hs12 => ?_); clear hs11
   have hs13 := hs12.keep [0, 1, 2, 3, 5] [_, _, _, _, _] rfl; clear hs12
   refine sq rfl (st_assign hs13 (.const _) rfl rfl fun _ _ hs14 => ?_); clear hs13
   have hs15 := hs14.keep [0, 1, 2, 3, 5] [_, _, _, _, _] rfl; clear hs14
   refine sq rfl (st_assign hs15 (Ev.t 1 rfl) rfl rfl fun _ _ hs16 => ?_); clear hs15
   refine hK7 _ _ ?_; clear hK7
   have hs17 := hs16.keep [0, 1] [_, _] rfl; clear hs16
   refine cd_retv (vs := [.int .i64 0, .int .i64 (if b.ok then 0 else 90)]) hs17 (fun a_ w_ h => th_ret (hQ0 a_ w_ h)) rfl ⟨.tmp 1 rfl, .tmp 0 rfl, trivial⟩ ?_
   clear hs17 hQ0 hN0 hK3
   first | (simp [pack, Bx.wrongR, hok]; done) | (simp only [pack, Bx.wrongR, hok, if_true, hgr]; done) | (simp only [pack, Bx.wrongR, hok, if_true, hgr, if_false, hwi]; done)
 · have hok : b.ok = true := by cases h : b.ok <;> simp [h] at hc6 ⊢
   have hO := ok_iff.1 hok
   have hct := hO.count
   refine cd_skip ?_
   refine th_norm (hK3 _ _ ?_)
   refine cd_region fun K8 hK8 => ?_
   refine sq rfl (st_loadA (o := 0) (off := 0) (vs := (bxL b A n cp A2 n2 c2)) hs11 (Ev.t 4 rfl) rfl rfl isAgg25 sizeOf25 (hs11.cells 0 rfl) rfl fun _ _ hs12 => ?_); clear hs11
   refine sq rfl (st_call (vs := [.agg ⟨(bxL b A n cp A2 n2 c2)⟩, .int .i64 (-1)]) hs12 (.func _) ⟨(Ev.t 0 rfl), (.const _), trivial⟩ rfl rfl call64 rfl (way1_b b A n cp A2 n2 c2 _ (hP.kp hs12.kp) hn (hF.kp hs12.kp) hn2 hO) fun v9 bs10 a_13 w_13 hp13 hs13 => ?_); clear hs12
   obtain ⟨bw8, ow8, rfl, hOw8, rfl⟩ := hp13
   have hs14 := Sx.as (T' := [_, _, _, _, _, _, _]) (B' := [_, _]) rfl rfl hs13; clear hs13
   refine sq rfl (st_assign hs14 (Ev.t 0 rfl) rfl rfl fun _ _ hs15 => ?_); clear hs14
   refine hK8 _ _ ?_; clear hK8
   have hs16 := hs15.keep [0, 5, 6, 7] [_, _, _, _] rfl; clear hs15
   refine cd_region fun K11 hK11 => ?_
   refine sq rfl (st_assign hs16 (.const _) rfl rfl fun _ _ hs17 => ?_); clear hs16
   refine hK11 _ _ ?_; clear hK11
   refine cd_seq fun K12 hK12 => ?_
   refine cd_region fun K13 hK13 => ?_
   refine sq rfl (st_assign hs17 (.const _) rfl rfl fun _ _ hs18 => ?_); clear hs17
   refine hK13 _ _ ?_; clear hK13
   refine cd_block ?_
   have hs19 : Sx 40 [] [(7, .int .i64 (0 : Int)), (6, .int .i64 (b.wrongTo 0)), (5, .slice (some ⟨bw8, 0, none⟩) 60001 60001), (3, .int .i64 0), (2, .int .i64 0), (1, .pointer (some ⟨b2, 0, none⟩))] [(bw8, ow8), (b2, some (.cells ⟨(bxL b A n cp A2 n2 c2)⟩ 25 (0, 0)))] [] w _ _ := Sx.keepE [0, 1, 2, 3, 4, 5] _ ⟨⟨_, rfl, rfl⟩, ⟨_, rfl, rfl⟩, ⟨_, rfl, rfl⟩, ⟨_, rfl, rfl⟩, ⟨_, rfl, rfl⟩, ⟨_, rfl, rfl⟩, trivial⟩ hs18; clear hs18
   refine cd_loop (X := Nat) (fun g a_ w_ => (g ≤ 60001) ∧ Sx 40 [] [(7, .int .i64 (g : Int)), (6, .int .i64 (b.wrongTo g)), (5, .slice (some ⟨bw8, 0, none⟩) 60001 60001), (3, .int .i64 0), (2, .int .i64 0), (1, .pointer (some ⟨b2, 0, none⟩))] [(bw8, ow8), (b2, some (.cells ⟨(bxL b A n cp A2 n2 c2)⟩ 25 (0, 0)))] [] w a_ w_) (fun g => 60001 - g) (0) ⟨?_, hs19⟩ ?_
   · exact Nat.zero_le _
   intro g a_20 w_20 ⟨hj, hs20⟩; clear hs19
   refine cd_seq fun K14 hK14 => ?_
   refine cd_region fun K15 hK15 => ?_
   refine sq rfl (st_move hs20 (Ev.t 0 rfl) rfl rfl fun _ _ hs21 => ?_); clear hs20
   refine sq rfl (st_move hs21 (Ev.t 3 rfl) rfl rfl fun _ _ hs22 => ?_); clear hs21
   refine sq rfl (st_len hs22 (Ev.t 0 rfl) rfl rfl runUnderlying33 fun _ _ hs23 => ?_); clear hs22
   refine sq rfl (st_cmp (c := decide (((g : Int) : Int) < 60001)) hs23 (Ev.t 2 rfl) (Ev.t 0 rfl) rfl rfl rfl rfl fun _ _ hs24 => ?_); clear hs23
   refine hK15 _ _ ?_; clear hK15
   have hs25 := hs24.keep [0, 4, 5, 6, 7, 8, 9] [_, _, _, _, _, _, _] rfl; clear hs24
   refine cd_cond hs25 (Ev.t 0 rfl) (fun hc16 => ?_) (fun hc16 => ?_)
   · have hgn : g < 60001 := by simp at hc16; omega
     have hwb := wrong_bd (b := b) g (fun a _ => by omega)
     refine cd_skip ?_
     refine th_norm (hK14 _ _ ?_)
     refine cd_seq fun K17 hK17 => ?_
     refine cd_block ?_
     refine cd_region fun K18 hK18 => ?_
     refine sq rfl (st_move hs25 (Ev.t 3 rfl) rfl rfl fun _ _ hs26 => ?_); clear hs25
     refine sq rfl (st_move hs26 (Ev.t 2 rfl) rfl rfl fun _ _ hs27 => ?_); clear hs26
     refine sq rfl (st_indexSl (o' := g * 1) hs27 (Ev.t 1 rfl) (Ev.t 0 rfl) rfl rfl runUnderlying33 sizeOf3 ⟨by omega, by omega⟩ (by simp) fun _ _ hs28 => ?_); clear hs27
     refine sq rfl (st_load1 (o := (g * 1)) (off := 0) (v := .int .i64 ((wf b.all) g)) hs28 (Ev.t 0 rfl) rfl rfl isAgg3 (own_cellM hs28 hOw8 (mem_nth (i := 0) rfl) (arr_at (by omega))) rfl fun _ _ hs29 => ?_); clear hs28
     refine sq rfl (st_cmp (c := decide (((wf b.all) g : Int) > 0)) hs29 (Ev.t 0 rfl) (.const _) rfl rfl rfl rfl fun _ _ hs30 => ?_); clear hs29
     refine hK18 _ _ ?_; clear hK18
     have hs31 := hs30.keep [0, 6, 7, 8, 9, 10, 11] [_, _, _, _, _, _, _] rfl; clear hs30
     refine cd_cond hs31 (Ev.t 0 rfl) (fun hc19 => ?_) (fun hc19 => ?_)
     · have hwq : 0 < wf b.all g := of_decide_eq_true hc19
       have hstep : b.wrongTo (g + 1) = min (b.wrongTo g) (max ((g : Int) - b.count) (b.count - (g : Int))) := by rw [Bx.wrongTo, if_pos hwq]
       refine cd_region1 ?_
       refine sq rfl (st_move hs31 (Ev.t 2 rfl) rfl rfl fun _ _ hs32 => ?_); clear hs31
       refine sq rfl (st_move hs32 (Ev.t 2 rfl) rfl rfl fun _ _ hs33 => ?_); clear hs32
       refine sq rfl (st_field (o' := 2) hs33 (Ev.t 8 rfl) rfl rfl runUnderlying25 rfl sizeOf3 rfl rfl fun _ _ hs34 => ?_); clear hs33
       refine sq rfl (st_load1 (o := 0) (off := 2) (v := .int .i64 b.count) hs34 (Ev.t 0 rfl) rfl rfl isAgg3 (hs34.cells 1 rfl) rfl fun _ _ hs35 => ?_); clear hs34
       refine sq rfl (st_sub (z := (g : Int) - b.count) hs35 (Ev.t 2 rfl) (Ev.t 0 rfl) rfl rfl rfl (by omega) fun _ _ hs36 => ?_); clear hs35
       refine sq rfl (st_field (o' := 2) hs36 (Ev.t 11 rfl) rfl rfl runUnderlying25 rfl sizeOf3 rfl rfl fun _ _ hs37 => ?_); clear hs36
       refine sq rfl (st_load1 (o := 0) (off := 2) (v := .int .i64 b.count) hs37 (Ev.t 0 rfl) rfl rfl isAgg3 (hs37.cells 1 rfl) rfl fun _ _ hs38 => ?_); clear hs37
       refine sq rfl (st_move hs38 (Ev.t 8 rfl) rfl rfl fun _ _ hs39 => ?_); clear hs38
       refine sq rfl (st_sub (z := b.count - (g : Int)) hs39 (Ev.t 1 rfl) (Ev.t 0 rfl) rfl rfl rfl (by omega) fun _ _ hs40 => ?_); clear hs39
       refine sq rfl (st_max hs40 (Ev.t 4 rfl) (Ev.t 0 rfl) rfl rfl fun _ _ hs41 => ?_); clear hs40
       refine sq rfl (st_min hs41 (Ev.t 9 rfl) (Ev.t 0 rfl) rfl rfl fun _ _ hs42 => ?_); clear hs41
       have hs43 := hs42.keep [0, 1, 2, 3, 4, 5, 6, 7, 8, 9, 10, 11, 12, 14, 15, 16, 17] [_, _, _, _, _, _, _, _, _, _, _, _, _, _, _, _, _] rfl; clear hs42
       refine sq rfl (st_assign hs43 (Ev.t 0 rfl) rfl rfl fun _ _ hs44 => ?_); clear hs43
       refine wpListIn_nil ?_
       have hs45 := hs44.keep [0, 13, 14, 15, 16, 17] [_, _, _, _, _, _] rfl; clear hs44
       refine in_norm ?_
       refine th_norm (hK17 _ _ ?_)
       refine cd_region1 ?_
       refine sq rfl (st_move hs45 (Ev.t 1 rfl) rfl rfl fun _ _ hs46 => ?_); clear hs45
       refine sq rfl (st_add (z := (g : Int) + 1) hs46 (Ev.t 0 rfl) (.const _) rfl rfl rfl (by omega) fun _ _ hs47 => ?_); clear hs46
       have hs48 := hs47.keep [0, 1, 2, 4, 5, 6, 7] [_, _, _, _, _, _, _] rfl; clear hs47
       refine sq rfl (st_assign hs48 (Ev.t 0 rfl) rfl rfl fun _ _ hs49 => ?_); clear hs48
       refine wpListIn_nil ?_
       have hs50 := hs49.keep [0, 3, 4, 5, 6, 7] [_, _, _, _, _, _] rfl; clear hs49
       refine ⟨g + 1, ⟨?_, ?_⟩, by (show 60001 - (g + 1) < 60001 - g; omega)⟩
       · exact hgn
       exact Sx.keepE [0, 1, 2, 3, 4, 5] _ ⟨⟨_, rfl, rfl⟩, ⟨_, rfl, by rw [hstep]⟩, ⟨_, rfl, rfl⟩, ⟨_, rfl, rfl⟩, ⟨_, rfl, rfl⟩, ⟨_, rfl, rfl⟩, trivial⟩ hs50
     · have hwq : ¬ 0 < wf b.all g := of_decide_eq_false hc19
       have hstep : b.wrongTo (g + 1) = b.wrongTo g := by rw [Bx.wrongTo, if_neg hwq]
       refine cd_skip ?_
       refine in_norm ?_
       refine th_norm (hK17 _ _ ?_)
       refine cd_region1 ?_
       refine sq rfl (st_move hs31 (Ev.t 1 rfl) rfl rfl fun _ _ hs32 => ?_); clear hs31
       refine sq rfl (st_add (z := (g : Int) + 1) hs32 (Ev.t 0 rfl) (.const _) rfl rfl rfl (by omega) fun _ _ hs33 => ?_); clear hs32
       have hs34 := hs33.keep [0, 1, 2, 4, 5, 6, 7, 8] [_, _, _, _, _, _, _, _] rfl; clear hs33
       refine sq rfl (st_assign hs34 (Ev.t 0 rfl) rfl rfl fun _ _ hs35 => ?_); clear hs34
       refine wpListIn_nil ?_
       have hs36 := hs35.keep [0, 4, 5, 6, 7, 8] [_, _, _, _, _, _] rfl; clear hs35
       refine ⟨g + 1, ⟨?_, ?_⟩, by (show 60001 - (g + 1) < 60001 - g; omega)⟩
       · exact hgn
       exact Sx.keepE [0, 1, 2, 3, 4, 5] _ ⟨⟨_, rfl, rfl⟩, ⟨_, rfl, by rw [hstep]⟩, ⟨_, rfl, rfl⟩, ⟨_, rfl, rfl⟩, ⟨_, rfl, rfl⟩, ⟨_, rfl, rfl⟩, trivial⟩ hs36
   · have hge : g = 60001 := by simp at hc16; omega
     have hwi : b.wrongTo g = b.wrongI := by rw [hge]; rfl
     refine cd_exit ?_
     refine th_exit ?_
     refine th_exit ?_
     refine in_hit ?_
     refine th_norm (hK12 _ _ ?_)
     refine cd_seq fun K20 hK20 => ?_
     refine cd_region fun K21 hK21 => ?_
     refine sq rfl (st_move hs25 (Ev.t 2 rfl) rfl rfl fun _ _ hs26 => ?_); clear hs25
     refine sq rfl (st_cmp (c := decide ((b.wrongTo g : Int) > 200)) hs26 (Ev.t 0 rfl) (.const _) rfl rfl rfl rfl fun _ _ hs27 => ?_); clear hs26
     refine hK21 _ _ ?_; clear hK21
     have hs28 := hs27.keep [0, 4, 6, 7] [_, _, _, _] rfl; clear hs27
     refine cd_cond hs28 (Ev.t 0 rfl) (fun hc22 => ?_) (fun hc22 => ?_)
     · have hgr := of_decide_eq_true hc22
       rw [hwi] at hgr
       refine cd_region fun K23 hK23 => ?_
       have hs29 := hs28.keep [0, 1, 2] [_, _, _] rfl; clear hs28
       refine sq rfl (st_assign hs29 (.const _) rfl rfl fun _ _ hs30 => ?_); clear hs29
       have hs31 := hs30.keep [0, 1, 2] [_, _, _] rfl; clear hs30
       refine sq rfl (st_assign hs31 (.const _) rfl rfl fun _ _ hs32 => ?_); clear hs31
       refine hK23 _ _ ?_; clear hK23
       have hs33 := hs32.keep [0, 1] [_, _] rfl; clear hs32
       refine cd_retv (vs := [.int .i64 0, .int .i64 4]) hs33 (fun a_ w_ h => th_ret (hQ0 a_ w_ h)) rfl ⟨.tmp 1 rfl, .tmp 0 rfl, trivial⟩ ?_
       clear hs33 hQ0 hN0 hK20
       first | (simp [pack, Bx.wrongR, hok]; done) | (simp only [pack, Bx.wrongR, hok, if_true, hgr]; done) | (simp only [pack, Bx.wrongR, hok, if_true, hgr, if_false, hwi]; done)
     · have hgr := of_decide_eq_false hc22
       rw [hwi] at hgr
       refine cd_skip ?_
       refine th_norm (hK20 _ _ ?_)
       refine cd_region fun K24 hK24 => ?_
       refine sq rfl (st_move hs28 (Ev.t 1 rfl) rfl rfl fun _ _ hs29 => ?_); clear hs28
       have hs30 := hs29.keep [0, 1, 2, 3] [_, _, _, _] rfl; clear hs29
       refine sq rfl (st_assign hs30 (Ev.t 0 rfl) rfl rfl fun _ _ hs31 => ?_); clear hs30
       have hs32 := hs31.keep [0, 1, 2, 3] [_, _, _, _] rfl; clear hs31
       refine sq rfl (st_assign hs32 (.const _) rfl rfl fun _ _ hs33 => ?_); clear hs32
       refine hK24 _ _ ?_; clear hK24
       have hs34 := hs33.keep [0, 1] [_, _] rfl; clear hs33
       refine cd_retv (vs := [.int .i64 (b.wrongTo g), .int .i64 0]) hs34 hQ0 rfl ⟨.tmp 1 rfl, .tmp 0 rfl, trivial⟩ ?_
       clear hs34 hQ0 hN0
       first | (simp [pack, Bx.wrongR, hok]; done) | (simp only [pack, Bx.wrongR, hok, if_true, hgr]; done) | (simp only [pack, Bx.wrongR, hok, if_true, hgr, if_false, hwi]; done)
end Go.Proofs.YtcnndpedeofbmaaDoor
