/- The reference of the till: how many truths; what is asked first. -/
import Derived.Test.YtcnndpedeofbmaaDoorRa
set_option maxRecDepth 100000
namespace Go.Proofs.YtcnndpedeofbmaaDoor
open Go Go.Sx Go.Till Go.Proofs.Tryd
theorem all_lst {b : Bx} (hO : Ok b) : LstOk b.all b.rolls.length := by rw [← way_b hO]; exact way_ok hO _ (Nat.le_refl _)

theorem way1_b (b : Bx) (A : Option Addr) (n cp : Nat) (A2 : Option Addr) (n2 c2 : Nat) (w : World) (hP : RollsAt w A n b.rolls) (hn : n ≤ 140737488351232) (hF : SpsAt w A2 n2 b.free) (hn2 : n2 ≤ 140737488351232) (hO : Ok b) : CallsB Tryd.prog 64 [.agg ⟨bxL b A n cp A2 n2 c2⟩, .int .i64 (-1)] w (fun v bs => ∃ b7 o7, v = .slice (some ⟨b7, 0, none⟩) 60001 60001 ∧ Sx.Own intL1 1 3 (some ⟨b7, 0, none⟩) 60001 (arr (wf b.all)) b7 o7 ∧ bs = [(b7, o7)]) :=
  callsB_imp (ways_b b A n cp A2 n2 c2 (-1) w hP hn hF hn2 hO) (fun v bs ⟨b7, o7, h1, h2, h3⟩ => ⟨b7, o7, h1, by rw [way_b hO] at h2; exact h2, h3⟩)

theorem rmany_v (b : Bx) (A : Option Addr) (n cp : Nat) (A2 : Option Addr) (n2 c2 : Nat) (w : World) (hP : RollsAt w A n b.rolls) (hn : n ≤ 140737488351232) (hF : SpsAt w A2 n2 b.free) (hn2 : n2 ≤ 140737488351232) (hO : Ok b) :
    CallsV Tryd.prog 63 [.agg ⟨(bxL b A n cp A2 n2 c2)⟩] w (.int .i64 (b.many : Int)) := by
 have hn14 := hO.n
 have hL := all_lst hO
 refine enter (N := 26) (M := []) w func63 rfl rfl rfl (fun Q0 a_0 hQ0 hN0 hs0 => ?_)
 refine cd_region fun K1 hK1 => ?_
 refine sq rfl (st_box hs0 (Ev.t 0 rfl) rfl rfl rfl fun b2 _ _ hs1 => ?_); clear hs0
 refine sq rfl (st_assign hs1 (.const _) rfl rfl fun _ _ hs2 => ?_); clear hs1
 refine hK1 _ _ ?_; clear hK1
 have hs3 := hs2.keep [0, 1] [_, _] rfl; clear hs2
 refine cd_region fun K3 hK3 => ?_
 refine sq rfl (st_assign hs3 (.const _) rfl rfl fun _ _ hs4 => ?_); clear hs3
 refine hK3 _ _ ?_; clear hK3
 refine cd_region fun K4 hK4 => ?_
 refine sq rfl (st_loadA (o := 0) (off := 0) (vs := (bxL b A n cp A2 n2 c2)) hs4 (Ev.t 2 rfl) rfl rfl isAgg25 sizeOf25 (hs4.cells 0 rfl) rfl fun _ _ hs5 => ?_); clear hs4
 refine sq rfl (st_call (vs := [.agg ⟨(bxL b A n cp A2 n2 c2)⟩, .int .i64 (-1)]) hs5 (.func _) ⟨(Ev.t 0 rfl), (.const _), trivial⟩ rfl rfl call64 rfl (way1_b b A n cp A2 n2 c2 _ (hP.kp hs5.kp) hn (hF.kp hs5.kp) hn2 hO) fun v5 bs6 a_6 w_6 hp6 hs6 => ?_); clear hs5
 obtain ⟨bw8, ow8, rfl, hOw8, rfl⟩ := hp6
 have hs7 := Sx.as (T' := [_, _, _, _, _]) (B' := [_, _]) rfl rfl hs6; clear hs6
 refine sq rfl (st_assign hs7 (Ev.t 0 rfl) rfl rfl fun _ _ hs8 => ?_); clear hs7
 refine hK4 _ _ ?_; clear hK4
 have hs9 := hs8.keep [0, 3, 4, 5] [_, _, _, _] rfl; clear hs8
 refine cd_seq fun K7 hK7 => ?_
 refine cd_region fun K8 hK8 => ?_
 refine sq rfl (st_assign hs9 (.const _) rfl rfl fun _ _ hs10 => ?_); clear hs9
 refine hK8 _ _ ?_; clear hK8
 refine cd_block ?_
 have hs11 : Sx 26 [] [(5, .int .i64 (0 : Int)), (4, .slice (some ⟨bw8, 0, none⟩) 60001 60001), (3, .int .i64 (sumTo b.all (right b) 0)), (2, .int .i64 0), (1, .pointer (some ⟨b2, 0, none⟩))] [(bw8, ow8), (b2, some (.cells ⟨(bxL b A n cp A2 n2 c2)⟩ 25 (0, 0)))] [] w _ _ := Sx.keepE [0, 1, 2, 3, 4] _ ⟨⟨_, rfl, rfl⟩, ⟨_, rfl, rfl⟩, ⟨_, rfl, rfl⟩, ⟨_, rfl, rfl⟩, ⟨_, rfl, rfl⟩, trivial⟩ hs10; clear hs10
 refine cd_loop (X := Nat) (fun g a_ w_ => (g ≤ 60001) ∧ Sx 26 [] [(5, .int .i64 (g : Int)), (4, .slice (some ⟨bw8, 0, none⟩) 60001 60001), (3, .int .i64 (sumTo b.all (right b) g)), (2, .int .i64 0), (1, .pointer (some ⟨b2, 0, none⟩))] [(bw8, ow8), (b2, some (.cells ⟨(bxL b A n cp A2 n2 c2)⟩ 25 (0, 0)))] [] w a_ w_) (fun g => 60001 - g) (0) ⟨?_, hs11⟩ ?_
 · exact Nat.zero_le _
 intro g a_12 w_12 ⟨hj, hs12⟩; clear hs11
 refine cd_seq fun K9 hK9 => ?_
 refine cd_region fun K10 hK10 => ?_
 refine sq rfl (st_move hs12 (Ev.t 0 rfl) rfl rfl fun _ _ hs13 => ?_); clear hs12
 refine sq rfl (st_move hs13 (Ev.t 2 rfl) rfl rfl fun _ _ hs14 => ?_); clear hs13
 refine sq rfl (st_len hs14 (Ev.t 0 rfl) rfl rfl runUnderlying33 fun _ _ hs15 => ?_); clear hs14
 refine sq rfl (st_cmp (c := decide (((g : Int) : Int) < 60001)) hs15 (Ev.t 2 rfl) (Ev.t 0 rfl) rfl rfl rfl rfl fun _ _ hs16 => ?_); clear hs15
 refine hK10 _ _ ?_; clear hK10
 have hs17 := hs16.keep [0, 4, 5, 6, 7, 8] [_, _, _, _, _, _] rfl; clear hs16
 refine cd_cond hs17 (Ev.t 0 rfl) (fun hc11 => ?_) (fun hc11 => ?_)
 · have hgn : g < 60001 := by simp at hc11; omega
   have hs1 := sumTo_bd (g := right b) hL (by omega) g; have hw1 := lst_wf hL (by omega) g
   refine cd_skip ?_
   refine th_norm (hK9 _ _ ?_)
   refine cd_seq fun K12 hK12 => ?_
   refine cd_block ?_
   refine cd_region fun K13 hK13 => ?_
   refine sq rfl (st_loadA (o := 0) (off := 0) (vs := (bxL b A n cp A2 n2 c2)) hs17 (Ev.t 5 rfl) rfl rfl isAgg25 sizeOf25 (hs17.cells 1 rfl) rfl fun _ _ hs18 => ?_); clear hs17
   refine sq rfl (st_move hs18 (Ev.t 2 rfl) rfl rfl fun _ _ hs19 => ?_); clear hs18
   refine sq rfl (st_field (o' := 3) hs19 (Ev.t 7 rfl) rfl rfl runUnderlying25 rfl sizeOf3 rfl rfl fun _ _ hs20 => ?_); clear hs19
   refine sq rfl (st_load1 (o := 0) (off := 3) (v := .int .i64 b.err) hs20 (Ev.t 0 rfl) rfl rfl isAgg3 (hs20.cells 1 rfl) rfl fun _ _ hs21 => ?_); clear hs20
   refine sq rfl (st_callv (vs := [.agg ⟨(bxL b A n cp A2 n2 c2)⟩, .int .i64 (g : Int), .int .i64 b.err]) hs21 (.func _) ⟨(Ev.t 3 rfl), (Ev.t 2 rfl), (Ev.t 0 rfl), trivial⟩ rfl rfl call60 rfl (near_v b A n cp A2 n2 c2 (g : Int) b.err _ hO.count (by have := hO.err; omega)) fun _ _ hs22 => ?_); clear hs21
   refine hK13 _ _ ?_; clear hK13
   have hs23 := hs22.keep [0, 6, 7, 8, 9, 10] [_, _, _, _, _, _] rfl; clear hs22
   refine cd_cond hs23 (Ev.t 0 rfl) (fun hc14 => ?_) (fun hc14 => ?_)
   · have hrt : right b (g : Int) = true := by simpa [right] using hc14
     refine cd_region1 ?_
     refine sq rfl (st_move hs23 (Ev.t 3 rfl) rfl rfl fun _ _ hs24 => ?_); clear hs23
     refine sq rfl (st_move hs24 (Ev.t 3 rfl) rfl rfl fun _ _ hs25 => ?_); clear hs24
     refine sq rfl (st_move hs25 (Ev.t 3 rfl) rfl rfl fun _ _ hs26 => ?_); clear hs25
     refine sq rfl (st_indexSl (o' := g * 1) hs26 (Ev.t 1 rfl) (Ev.t 0 rfl) rfl rfl runUnderlying33 sizeOf3 ⟨by omega, by omega⟩ (by simp) fun _ _ hs27 => ?_); clear hs26
     refine sq rfl (st_load1 (o := (g * 1)) (off := 0) (v := .int .i64 ((wf b.all) g)) hs27 (Ev.t 0 rfl) rfl rfl isAgg3 (own_cellM hs27 hOw8 (mem_nth (i := 0) rfl) (arr_at (by omega))) rfl fun _ _ hs28 => ?_); clear hs27
     refine sq rfl (st_add (z := (sumTo b.all (right b) g) + ((wf b.all) g)) hs28 (Ev.t 4 rfl) (Ev.t 0 rfl) rfl rfl rfl (by omega) fun _ _ hs29 => ?_); clear hs28
     have hs30 := hs29.keep [0, 1, 2, 3, 4, 5, 6, 7, 8, 10, 11] [_, _, _, _, _, _, _, _, _, _, _] rfl; clear hs29
     refine sq rfl (st_assign hs30 (Ev.t 0 rfl) rfl rfl fun _ _ hs31 => ?_); clear hs30
     refine wpListIn_nil ?_
     have hs32 := hs31.keep [0, 8, 9, 10, 11] [_, _, _, _, _] rfl; clear hs31
     refine in_norm ?_
     refine th_norm (hK12 _ _ ?_)
     refine cd_region1 ?_
     refine sq rfl (st_move hs32 (Ev.t 1 rfl) rfl rfl fun _ _ hs33 => ?_); clear hs32
     refine sq rfl (st_add (z := (g : Int) + 1) hs33 (Ev.t 0 rfl) (.const _) rfl rfl rfl (by omega) fun _ _ hs34 => ?_); clear hs33
     have hs35 := hs34.keep [0, 1, 2, 4, 5, 6] [_, _, _, _, _, _] rfl; clear hs34
     refine sq rfl (st_assign hs35 (Ev.t 0 rfl) rfl rfl fun _ _ hs36 => ?_); clear hs35
     refine wpListIn_nil ?_
     have hs37 := hs36.keep [0, 3, 4, 5, 6] [_, _, _, _, _] rfl; clear hs36
     refine ⟨g + 1, ⟨?_, ?_⟩, by (show 60001 - (g + 1) < 60001 - g; omega)⟩
     · exact hgn
     exact Sx.keepE [0, 2, 1, 3, 4] _ ⟨⟨_, rfl, rfl⟩, ⟨_, rfl, rfl⟩, ⟨_, rfl, by rw [sumTo, if_pos hrt]⟩, ⟨_, rfl, rfl⟩, ⟨_, rfl, rfl⟩, trivial⟩ hs37
   · have hrt : ¬ right b (g : Int) = true := by simpa [right] using hc14
     refine cd_skip ?_
     refine in_norm ?_
     refine th_norm (hK12 _ _ ?_)
     refine cd_region1 ?_
     refine sq rfl (st_move hs23 (Ev.t 1 rfl) rfl rfl fun _ _ hs24 => ?_); clear hs23
     refine sq rfl (st_add (z := (g : Int) + 1) hs24 (Ev.t 0 rfl) (.const _) rfl rfl rfl (by omega) fun _ _ hs25 => ?_); clear hs24
     have hs26 := hs25.keep [0, 1, 2, 4, 5, 6, 7] [_, _, _, _, _, _, _] rfl; clear hs25
     refine sq rfl (st_assign hs26 (Ev.t 0 rfl) rfl rfl fun _ _ hs27 => ?_); clear hs26
     refine wpListIn_nil ?_
     have hs28 := hs27.keep [0, 4, 5, 6, 7] [_, _, _, _, _] rfl; clear hs27
     refine ⟨g + 1, ⟨?_, ?_⟩, by (show 60001 - (g + 1) < 60001 - g; omega)⟩
     · exact hgn
     exact Sx.keepE [0, 1, 2, 3, 4] _ ⟨⟨_, rfl, rfl⟩, ⟨_, rfl, rfl⟩, ⟨_, rfl, by rw [sumTo, if_neg hrt]⟩, ⟨_, rfl, rfl⟩, ⟨_, rfl, rfl⟩, trivial⟩ hs28
 · have hge : g = 60001 := by simp at hc11; omega
   have hs18 := Sx.keepE [0, 1, 2, 3, 4, 5] [(11, _), (5, _), (4, _), (3, .int .i64 (b.many : Int)), (2, _), (1, _)] ⟨⟨_, rfl, rfl⟩, ⟨_, rfl, rfl⟩, ⟨_, rfl, rfl⟩, ⟨_, rfl, (by rw [hge, sumTo_many hO])⟩, ⟨_, rfl, rfl⟩, ⟨_, rfl, rfl⟩, trivial⟩ hs17; clear hs17
   refine cd_exit ?_
   refine th_exit ?_
   refine th_exit ?_
   refine in_hit ?_
   refine th_norm (hK7 _ _ ?_)
   refine cd_region fun K15 hK15 => ?_
   refine sq rfl (st_move hs18 (Ev.t 3 rfl) rfl rfl fun _ _ hs19 => ?_); clear hs18
   have hs20 := hs19.keep [0, 1, 2, 3, 4, 6] [_, _, _, _, _, _] rfl; clear hs19
   refine sq rfl (st_assign hs20 (Ev.t 0 rfl) rfl rfl fun _ _ hs21 => ?_); clear hs20
   refine hK15 _ _ ?_; clear hK15
   have hs22 := hs21.keep [0] [_] rfl; clear hs21
   refine cd_retv (vs := [.int .i64 (b.many : Int)]) hs22 hQ0 rfl ⟨.tmp 0 rfl, trivial⟩ ?_
   clear hs22 hQ0 hN0
   rfl

theorem rasked_v (b : Bx) (A : Option Addr) (n cp : Nat) (A2 : Option Addr) (n2 c2 : Nat) (rt : Bool) (w : World) (hP : RollsAt w A n b.rolls) (hn : n ≤ 140737488351232) (hF : SpsAt w A2 n2 b.free) (hn2 : n2 ≤ 140737488351232) :
    CallsV Tryd.prog 65 [.agg ⟨(bxL b A n cp A2 n2 c2)⟩, .bool rt] w (.int .i64 (b.asked rt)) := by
 refine enter (N := 16) (M := []) w func65 rfl rfl rfl (fun Q0 a_0 hQ0 hN0 hs0 => ?_)
 refine cd_region fun K1 hK1 => ?_
 refine sq rfl (st_box hs0 (Ev.t 0 rfl) rfl rfl rfl fun b2 _ _ hs1 => ?_); clear hs0
 refine sq rfl (st_assign hs1 (.const _) rfl rfl fun _ _ hs2 => ?_); clear hs1
 refine hK1 _ _ ?_; clear hK1
 have hs3 := hs2.keep [0, 1, 3] [_, _, _] rfl; clear hs2
 refine cd_seq fun K3 hK3 => ?_
 refine cd_region fun K4 hK4 => ?_
 refine sq rfl (st_loadA (o := 0) (off := 0) (vs := (bxL b A n cp A2 n2 c2)) hs3 (Ev.t 1 rfl) rfl rfl isAgg25 sizeOf25 (hs3.cells 0 rfl) rfl fun _ _ hs4 => ?_); clear hs3
 refine sq rfl (st_callv (vs := [.agg ⟨(bxL b A n cp A2 n2 c2)⟩]) hs4 (.func _) ⟨(Ev.t 0 rfl), trivial⟩ rfl rfl call31 rfl (rcheck_v b A n cp A2 n2 c2 _ (hP.kp hs4.kp) hn (hF.kp hs4.kp) hn2) fun _ _ hs5 => ?_); clear hs4
 refine sq rfl (st_assign hs5 (Ev.t 0 rfl) rfl rfl fun _ _ hs6 => ?_); clear hs5
 refine hK4 _ _ ?_; clear hK4
 have hs7 := hs6.keep [0, 3, 4, 5] [_, _, _, _] rfl; clear hs6
 refine cd_region fun K5 hK5 => ?_
 refine sq rfl (st_move hs7 (Ev.t 0 rfl) rfl rfl fun _ _ hs8 => ?_); clear hs7
 refine sq rfl (st_cmp (c := (if b.ok then 0 else 90 : Int) != 0) hs8 (Ev.t 0 rfl) (.const _) rfl rfl rfl rfl fun _ _ hs9 => ?_); clear hs8
 refine hK5 _ _ ?_; clear hK5
 have hs10 := hs9.keep [0, 2, 3, 4, 5] [_, _, _, _, _] rfl; clear hs9
 refine cd_cond hs10 (Ev.t 0 rfl) (fun hc6 => ?_) (fun hc6 => ?_)
 · have hok : b.ok = false := by cases h : b.ok <;> simp [h] at hc6 ⊢
   refine cd_region fun K7 hK7 => ?_
   refine sq rfl (st_move hs10 (Ev.t 1 rfl) rfl rfl fun _ _ hs11 => ?_); clear hs10
   have hs12 := hs11.keep [0, 1, 2, 4, 5] [_, _, _, _, _] rfl; clear hs11
   refine sq rfl (st_assign hs12 (Ev.t 0 rfl) rfl rfl fun _ _ hs13 => ?_); clear hs12
   refine hK7 _ _ ?_; clear hK7
   have hs14 := hs13.keep [0] [_] rfl; clear hs13
   refine cd_retv (vs := [.int .i64 (if b.ok then 0 else 90)]) hs14 (fun a_ w_ h => th_ret (hQ0 a_ w_ h)) rfl ⟨.tmp 0 rfl, trivial⟩ ?_
   clear hs14 hQ0 hN0 hK3
   first | (simp [pack, Bx.asked, hok, hrt, hm0]; done) | (simp [pack, Bx.asked, hok, hrt]; done) | simp [pack, Bx.asked, hok]
 · have hok : b.ok = true := by cases h : b.ok <;> simp [h] at hc6 ⊢
   have hO := ok_iff.1 hok
   refine cd_skip ?_
   refine th_norm (hK3 _ _ ?_)
   refine cd_seq fun K8 hK8 => ?_
   refine cd_region fun K9 hK9 => ?_
   refine sq rfl (st_move hs10 (Ev.t 4 rfl) rfl rfl fun _ _ hs11 => ?_); clear hs10
   refine sq rfl (st_not hs11 (Ev.t 0 rfl) rfl rfl fun _ _ hs12 => ?_); clear hs11
   refine hK9 _ _ ?_; clear hK9
   have hs13 := hs12.keep [0, 4, 5] [_, _, _] rfl; clear hs12
   refine cd_cond hs13 (Ev.t 0 rfl) (fun hc10 => ?_) (fun hc10 => ?_)
   · have hrt : rt = false := by simpa using hc10
     refine cd_region fun K11 hK11 => ?_
     have hs14 := hs13.keep [0, 2] [_, _] rfl; clear hs13
     refine sq rfl (st_assign hs14 (.const _) rfl rfl fun _ _ hs15 => ?_); clear hs14
     refine hK11 _ _ ?_; clear hK11
     have hs16 := hs15.keep [0] [_] rfl; clear hs15
     refine cd_retv (vs := [.int .i64 91]) hs16 (fun a_ w_ h => th_ret (hQ0 a_ w_ h)) rfl ⟨.tmp 0 rfl, trivial⟩ ?_
     clear hs16 hQ0 hN0 hK8
     first | (simp [pack, Bx.asked, hok, hrt, hm0]; done) | (simp [pack, Bx.asked, hok, hrt]; done) | simp [pack, Bx.asked, hok]
   · have hrt : rt = true := by simpa using hc10
     refine cd_skip ?_
     refine th_norm (hK8 _ _ ?_)
     refine cd_seq fun K12 hK12 => ?_
     refine cd_region fun K13 hK13 => ?_
     refine sq rfl (st_loadA (o := 0) (off := 0) (vs := (bxL b A n cp A2 n2 c2)) hs13 (Ev.t 2 rfl) rfl rfl isAgg25 sizeOf25 (hs13.cells 0 rfl) rfl fun _ _ hs14 => ?_); clear hs13
     refine sq rfl (st_callv (vs := [.agg ⟨(bxL b A n cp A2 n2 c2)⟩]) hs14 (.func _) ⟨(Ev.t 0 rfl), trivial⟩ rfl rfl call63 rfl (rmany_v b A n cp A2 n2 c2 _ (hP.kp hs14.kp) hn (hF.kp hs14.kp) hn2 hO) fun _ _ hs15 => ?_); clear hs14
     refine sq rfl (st_cmp (c := ((b.many : Int) : Int) == 0) hs15 (Ev.t 0 rfl) (.const _) rfl rfl rfl rfl fun _ _ hs16 => ?_); clear hs15
     refine hK13 _ _ ?_; clear hK13
     have hs17 := hs16.keep [0, 4] [_, _] rfl; clear hs16
     refine cd_cond hs17 (Ev.t 0 rfl) (fun hc14 => ?_) (fun hc14 => ?_)
     · have hm0 : b.many = 0 := by have h := hc14; rw [beq_iff_eq] at h; omega
       refine cd_region fun K15 hK15 => ?_
       have hs18 := hs17.keep [0] [_] rfl; clear hs17
       refine sq rfl (st_assign hs18 (.const _) rfl rfl fun _ _ hs19 => ?_); clear hs18
       refine hK15 _ _ ?_; clear hK15
       have hs20 := hs19.keep [0] [_] rfl; clear hs19
       refine cd_retv (vs := [.int .i64 92]) hs20 (fun a_ w_ h => th_ret (hQ0 a_ w_ h)) rfl ⟨.tmp 0 rfl, trivial⟩ ?_
       clear hs20 hQ0 hN0 hK12
       first | (simp [pack, Bx.asked, hok, hrt, hm0]; done) | (simp [pack, Bx.asked, hok, hrt]; done) | simp [pack, Bx.asked, hok]
     · have hm0 : ¬ b.many = 0 := by have h := hc14; rw [beq_eq_false_iff_ne] at h; omega
       refine cd_skip ?_
       refine th_norm (hK12 _ _ ?_)
       refine cd_region fun K16 hK16 => ?_
       have hs18 := hs17.keep [0] [_] rfl; clear hs17
       refine sq rfl (st_assign hs18 (.const _) rfl rfl fun _ _ hs19 => ?_); clear hs18
       refine hK16 _ _ ?_; clear hK16
       have hs20 := hs19.keep [0] [_] rfl; clear hs19
       refine cd_retv (vs := [.int .i64 0]) hs20 hQ0 rfl ⟨.tmp 0 rfl, trivial⟩ ?_
       clear hs20 hQ0 hN0
       first | (simp [pack, Bx.asked, hok, hrt, hm0]; done) | (simp [pack, Bx.asked, hok, hrt]; done) | simp [pack, Bx.asked, hok]
end Go.Proofs.YtcnndpedeofbmaaDoor
