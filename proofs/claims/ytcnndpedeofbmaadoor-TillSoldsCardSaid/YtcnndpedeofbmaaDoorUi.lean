/- The till: the amounts that can be, by what was counted. -/
import Derived.Test.YtcnndpedeofbmaaDoorUh
set_option maxRecDepth 100000
namespace Go.Proofs.YtcnndpedeofbmaaDoor
open Go Go.Sx Go.Till Go.Proofs.Tryd
theorem amounts_b (b : Bx) (A : Option Addr) (n cp : Nat) (A2 : Option Addr) (n2 c2 : Nat) (A3 : Option Addr) (n3 c3 m : Nat) (ss : List Sp) (w : World) (hP : RollsAt w A n b.rolls) (hn : n ≤ 140737488351232) (hS : SpsAt w A3 n3 ss) (hwf : Wf b ss) :
    CallsB Tryd.prog 76 [.agg ⟨boxL b A n cp A2 n2 c2 A3 n3 c3 m⟩] w (fun v bs => ∃ b7 o7, v = .pointer (some ⟨b7, 0, none⟩) ∧ Sx.Own intL1 1 100 (some ⟨b7, 0, none⟩) 60001 (arr (cutA b (wf (sums [0] (its b.rolls ss))) 60001)) b7 o7 ∧ bs = [(b7, o7)]) := by
 refine enter (N := 20) (M := []) w func76 rfl rfl rfl (fun Q0 a_0 hQ0 hN0 hs0 => ?_)
 refine cd_region fun K1 hK1 => ?_
 refine sq rfl (st_box hs0 (Ev.t 0 rfl) rfl rfl rfl fun b2 _ _ hs1 => ?_); clear hs0
 refine sq rfl (st_assign hs1 (.const _) rfl rfl fun _ _ hs2 => ?_); clear hs1
 refine hK1 _ _ ?_; clear hK1
 have hs3 := hs2.keep [0, 1] [_, _] rfl; clear hs2
 refine cd_region fun K3 hK3 => ?_
 refine sq rfl (st_loadA (o := 0) (off := 0) (vs := (boxL b A n cp A2 n2 c2 A3 n3 c3 m)) hs3 (Ev.t 1 rfl) rfl rfl isAgg66 sizeOf66 (hs3.cells 0 rfl) rfl fun _ _ hs4 => ?_); clear hs3
 refine sq rfl (st_call (vs := [.agg ⟨(boxL b A n cp A2 n2 c2 A3 n3 c3 m)⟩]) hs4 (.func _) ⟨(Ev.t 0 rfl), trivial⟩ rfl rfl call56 rfl (all_b b A n cp A2 n2 c2 A3 n3 c3 m ss _ (hP.kp hs4.kp) hn (hS.kp hs4.kp) hwf) fun v4 bs5 a_5 w_5 hp5 hs5 => ?_); clear hs4
 obtain ⟨bw8, ow8, rfl, hOw8, rfl⟩ := hp5
 have hs6 := Sx.as (T' := [_, _, _, _]) (B' := [_, _]) rfl rfl hs5; clear hs5
 refine sq rfl (st_assign hs6 (Ev.t 0 rfl) rfl rfl fun _ _ hs7 => ?_); clear hs6
 refine hK3 _ _ ?_; clear hK3
 have hs8 := hs7.keep [0, 3, 4] [_, _, _] rfl; clear hs7
 refine cd_seq fun K6 hK6 => ?_
 refine cd_region fun K7 hK7 => ?_
 refine sq rfl (st_move hs8 (.const _) rfl rfl fun _ _ hs9 => ?_); clear hs8
 refine hK7 _ _ ?_; clear hK7
 refine cd_block ?_
 have hs10 : Sx 20 [] [(7, .int .i64 ((InG.mk 0 ow8 []).j : Int)), (3, .pointer (some ⟨bw8, 0, none⟩)), (2, .pointer none), (1, .pointer (some ⟨b2, 0, none⟩))] [(bw8, (InG.mk 0 ow8 []).o), (b2, some (.cells ⟨(boxL b A n cp A2 n2 c2 A3 n3 c3 m)⟩ 66 (0, 0)))] [] w _ _ := Sx.keepE [0, 1, 2, 3] _ ⟨⟨_, rfl, rfl⟩, ⟨_, rfl, rfl⟩, ⟨_, rfl, rfl⟩, ⟨_, rfl, rfl⟩, trivial⟩ hs9; clear hs9
 refine cd_loop (X := InG) (fun g a_ w_ => (g.j ≤ 60001) ∧ (Sx.Own intL1 1 100 (some ⟨bw8, 0, none⟩) 60001 (arr (cutA b (wf (sums [0] (its b.rolls ss))) g.j)) bw8 g.o) ∧ Sx 20 [] [(7, .int .i64 (g.j : Int)), (3, .pointer (some ⟨bw8, 0, none⟩)), (2, .pointer none), (1, .pointer (some ⟨b2, 0, none⟩))] [(bw8, g.o), (b2, some (.cells ⟨(boxL b A n cp A2 n2 c2 A3 n3 c3 m)⟩ 66 (0, 0)))] [] w a_ w_) (fun g => 60001 - g.j) ((InG.mk 0 ow8 [])) ⟨?_, ?_, hs10⟩ ?_
 · exact Nat.zero_le _
 · exact own_eq hOw8 (congrArg arr cutA_zero.symm)
 intro g a_11 w_11 ⟨hj, hown, hs11⟩; clear hs10
 refine cd_region fun K8 hK8 => ?_
 refine sq rfl (st_cmp (c := decide (((g.j : Int) : Int) < 60001)) hs11 (Ev.t 0 rfl) (.const _) rfl rfl rfl rfl fun _ _ hs12 => ?_); clear hs11
 refine hK8 _ _ ?_; clear hK8
 refine cd_seq fun K9 hK9 => ?_
 refine cd_cond hs12 (Ev.t 0 rfl) (fun hc10 => ?_) (fun hc10 => ?_)
 · have hjn : g.j < 60001 := by simp at hc10; omega
   refine cd_skip ?_
   refine th_norm (hK9 _ _ ?_)
   refine cd_seq fun K11 hK11 => ?_
   refine cd_block ?_
   refine cd_region fun K12 hK12 => ?_
   refine sq rfl (st_move hs12 (Ev.t 1 rfl) rfl rfl fun _ _ hs13 => ?_); clear hs12
   refine sq rfl (st_assign hs13 (Ev.t 0 rfl) rfl rfl fun _ _ hs14 => ?_); clear hs13
   refine hK12 _ _ ?_; clear hK12
   have hs15 := hs14.keep [0, 3, 4, 5, 6] [_, _, _, _, _] rfl; clear hs14
   refine cd_region fun K13 hK13 => ?_
   refine sq rfl (st_loadA (o := 0) (off := 0) (vs := (boxL b A n cp A2 n2 c2 A3 n3 c3 m)) hs15 (Ev.t 4 rfl) rfl rfl isAgg66 sizeOf66 (hs15.cells 1 rfl) rfl fun _ _ hs16 => ?_); clear hs15
   refine sq rfl (st_move hs16 (Ev.t 1 rfl) rfl rfl fun _ _ hs17 => ?_); clear hs16
   refine sq rfl (st_callv (vs := [.agg ⟨(boxL b A n cp A2 n2 c2 A3 n3 c3 m)⟩, .int .i64 (g.j : Int)]) hs17 (.func _) ⟨(Ev.t 1 rfl), (Ev.t 0 rfl), trivial⟩ rfl rfl call54 rfl (right_v b A n cp A2 n2 c2 A3 n3 c3 m (g.j : Int) _ ⟨hwf.count, hwf.err⟩) fun _ _ hs18 => ?_); clear hs17
   refine sq rfl (st_not hs18 (Ev.t 0 rfl) rfl rfl fun _ _ hs19 => ?_); clear hs18
   refine hK13 _ _ ?_; clear hK13
   have hs20 := hs19.keep [0, 4, 5, 6, 7, 8] [_, _, _, _, _, _] rfl; clear hs19
   refine cd_cond hs20 (Ev.t 0 rfl) (fun hc14 => ?_) (fun hc14 => ?_)
   · have hr : right b (g.j : Int) = false := by simpa using hc14
     refine cd_region1 ?_
     refine sq rfl (st_move hs20 (Ev.t 3 rfl) rfl rfl fun _ _ hs21 => ?_); clear hs20
     refine sq rfl (st_move hs21 (Ev.t 2 rfl) rfl rfl fun _ _ hs22 => ?_); clear hs21
     refine sq rfl (st_nilCheck hs22 (Ev.t 1 rfl) rfl rfl fun _ _ hs23 => ?_); clear hs22
     refine sq rfl (st_indexArr (o' := g.j * 1) hs23 (Ev.t 0 rfl) (Ev.t 1 rfl) rfl rfl runUnderlying100 sizeOf3 ⟨by omega, by omega⟩ (by simp) fun _ _ hs24 => ?_); clear hs23
     refine sq rfl (st_storeOwn (enc := intL1) (sz := 1) (off := 0) (kk := g.j) (i := 0) (u := (cutA b (wf (sums [0] (its b.rolls ss))) g.j) g.j) (u' := 0) hs24 (Ev.t 0 rfl) (.const _) sizeOf3 rfl hown (arr_at (by omega)) (fun _ => rfl) (by decide) rfl rfl rfl (fun o15 a_25 w_25 hO15 hs25 => ?_)); clear hs24
     rw [arr_set] at hO15
     have hs26 : Sx 20 [] [(17, .pointer (some ⟨bw8, g.j * 1, none⟩)), (16, .pointer (some ⟨bw8, 0, none⟩)), (15, .int .i64 (g.j : Int)), (14, .pointer (some ⟨bw8, 0, none⟩)), (13, .bool (!(right b (g.j : Int)))), (4, .int .i64 (g.j : Int)), (7, .int .i64 (g.j : Int)), (3, .pointer (some ⟨bw8, 0, none⟩)), (2, .pointer none), (1, .pointer (some ⟨b2, 0, none⟩))] [(bw8, o15), (b2, some (.cells ⟨(boxL b A n cp A2 n2 c2 A3 n3 c3 m)⟩ 66 (0, 0)))] [] w _ _ := hs25; clear hs25
     refine wpListIn_nil ?_
     have hs27 := hs26.keep [6, 7, 8, 9] [_, _, _, _] rfl; clear hs26
     have hO16 : Sx.Own intL1 1 100 _ _ (arr (cutA b (wf (sums [0] (its b.rolls ss))) (g.j + 1))) bw8 o15 := own_eq hO15 (congrArg arr (cutA_no hr))
     refine in_norm ?_
     refine th_norm (hK11 _ _ ?_)
     refine cd_region1 ?_
     refine sq rfl (st_add (z := (g.j : Int) + 1) hs27 (Ev.t 0 rfl) (.const _) rfl rfl rfl (by omega) fun _ _ hs28 => ?_); clear hs27
     have hs29 := hs28.keep [0, 2, 3, 4] [_, _, _, _] rfl; clear hs28
     refine sq rfl (st_move hs29 (Ev.t 0 rfl) rfl rfl fun _ _ hs30 => ?_); clear hs29
     refine wpListIn_nil ?_
     have hs31 := hs30.keep [0, 2, 3, 4] [_, _, _, _] rfl; clear hs30
     refine ⟨(InG.mk (g.j + 1) o15 []), ⟨?_, ?_, ?_⟩, by (show 60001 - (g.j + 1) < 60001 - g.j; omega)⟩
     · exact hjn
     · exact hO16
     exact Sx.keepE [0, 1, 2, 3] _ ⟨⟨_, rfl, rfl⟩, ⟨_, rfl, rfl⟩, ⟨_, rfl, rfl⟩, ⟨_, rfl, rfl⟩, trivial⟩ hs31
   · have hr : right b (g.j : Int) = true := by simpa using hc14
     have hO17 : Sx.Own intL1 1 100 _ _ (arr (cutA b (wf (sums [0] (its b.rolls ss))) (g.j + 1))) bw8 g.o := own_eq hown (congrArg arr (cutA_yes hr))
     refine cd_skip ?_
     refine in_norm ?_
     refine th_norm (hK11 _ _ ?_)
     refine cd_region1 ?_
     refine sq rfl (st_add (z := (g.j : Int) + 1) hs20 (Ev.t 2 rfl) (.const _) rfl rfl rfl (by omega) fun _ _ hs21 => ?_); clear hs20
     have hs22 := hs21.keep [0, 1, 2, 4, 5, 6] [_, _, _, _, _, _] rfl; clear hs21
     refine sq rfl (st_move hs22 (Ev.t 0 rfl) rfl rfl fun _ _ hs23 => ?_); clear hs22
     refine wpListIn_nil ?_
     have hs24 := hs23.keep [0, 4, 5, 6] [_, _, _, _] rfl; clear hs23
     refine ⟨(InG.mk (g.j + 1) g.o []), ⟨?_, ?_, ?_⟩, by (show 60001 - (g.j + 1) < 60001 - g.j; omega)⟩
     · exact hjn
     · exact hO17
     exact Sx.keepE [0, 1, 2, 3] _ ⟨⟨_, rfl, rfl⟩, ⟨_, rfl, rfl⟩, ⟨_, rfl, rfl⟩, ⟨_, rfl, rfl⟩, trivial⟩ hs24
 · have hje : g.j = 60001 := by simp at hc10; omega
   refine cd_exit ?_
   refine th_exit ?_
   refine th_exit ?_
   refine in_hit ?_
   refine th_norm (hK6 _ _ ?_)
   refine cd_region fun K18 hK18 => ?_
   refine sq rfl (st_move hs12 (Ev.t 2 rfl) rfl rfl fun _ _ hs13 => ?_); clear hs12
   have hs14 := hs13.keep [0, 1, 2, 3, 5] [_, _, _, _, _] rfl; clear hs13
   refine sq rfl (st_assign hs14 (Ev.t 0 rfl) rfl rfl fun _ _ hs15 => ?_); clear hs14
   refine hK18 _ _ ?_; clear hK18
   have hs16 := hs15.keep [0] [_] rfl; clear hs15
   have hfin : arr (cutA b (wf (sums [0] (its b.rolls ss))) g.j) = arr (cutA b (wf (sums [0] (its b.rolls ss))) 60001) := by rw [hje]
   exact cd_ret (vs := [.pointer (some ⟨bw8, 0, none⟩)]) (bs := [(bw8, g.o)]) hs16 hQ0 rfl ⟨.tmp 0 rfl, trivial⟩ (.cons_cons _ (List.nil_sublist _)) ⟨bw8, g.o, rfl, own_eq hown hfin, rfl⟩
end Go.Proofs.YtcnndpedeofbmaaDoor
