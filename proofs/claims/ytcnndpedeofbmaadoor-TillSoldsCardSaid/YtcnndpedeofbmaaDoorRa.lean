/- The reference of the till: in how many ways amounts come together; how many truths there are; what is asked first. -/
import Derived.Test.YtcnndpedeofbmaaDoorUe
import Derived.Test.YtcnndpedeofbmaaDoorTx
import Derived.Test.YtcnndpedeofbmaaDoorSo
import Derived.Test.YtcnndpedeofbmaaDoorSv
set_option maxRecDepth 100000
namespace Go.Proofs.YtcnndpedeofbmaaDoor
open Go Go.Sx Go.Till Go.Proofs.Tryd
set_option maxHeartbeats 4000000 in
theorem ways_b (b : Bx) (A : Option Addr) (n cp : Nat) (A2 : Option Addr) (n2 c2 : Nat) (but : Int) (w : World) (hP : RollsAt w A n b.rolls) (hn : n ≤ 140737488351232) (hF : SpsAt w A2 n2 b.free) (hn2 : n2 ≤ 140737488351232) (hO : Ok b) :
    CallsB Tryd.prog 64 [.agg ⟨bxL b A n cp A2 n2 c2⟩, .int .i64 but] w (fun v bs => ∃ b7 o7, v = .slice (some ⟨b7, 0, none⟩) 60001 60001 ∧ Sx.Own intL1 1 3 (some ⟨b7, 0, none⟩) 60001 (arr (wf (wayTo b but b.rolls.length))) b7 o7 ∧ bs = [(b7, o7)]) := by
 have hl1 := hP.len
 have hl2 := hF.len
 have hlen := hO.len
 have hn14 := hO.n
 refine enter (N := 70) (M := []) w func64 rfl rfl rfl (fun Q0 a_0 hQ0 hN0 hs0 => ?_)
 refine cd_region fun K1 hK1 => ?_
 refine sq rfl (st_box hs0 (Ev.t 0 rfl) rfl rfl rfl fun b2 _ _ hs1 => ?_); clear hs0
 refine sq rfl (st_assign hs1 (.const _) rfl rfl fun _ _ hs2 => ?_); clear hs1
 refine hK1 _ _ ?_; clear hK1
 have hs3 := hs2.keep [0, 1, 3] [_, _, _] rfl; clear hs2
 refine cd_region fun K3 hK3 => ?_
 refine sq rfl (st_makeInts (n := 60001) hs3 (.const _) (.const _) rfl rfl underlying33 (show (Tryd.prog.info? 3).map (fun i => (i.zero, i.size, i.bytes)) = some (some (.int .i64 0), 1, 8) by kernel_rfl) (by decide) (by decide) fun b4 _ _ hs4 => ?_); clear hs3
 refine sq rfl (st_assign hs4 (Ev.t 0 rfl) rfl rfl fun _ _ hs5 => ?_); clear hs4
 refine hK3 _ _ ?_; clear hK3
 have hs6 := hs5.keep [0, 2, 3, 4] [_, _, _, _] rfl; clear hs5
 obtain ⟨oa5, hoa5⟩ : ∃ o_, o_ = some (Obj.cells ⟨vals (List.replicate 60001 0)⟩ 3 (0, 0)) := ⟨_, rfl⟩
 have hO5 := own_rep 3 b4 60001; rw [← hoa5] at hO5
 have hs7 := hs6.asB [(b4, oa5), (b2, some (.cells ⟨(bxL b A n cp A2 n2 c2)⟩ 25 (0, 0)))] (by rw [hoa5]); clear hs6
 refine cd_region fun K6 hK6 => ?_
 refine sq rfl (st_move hs7 (Ev.t 0 rfl) rfl rfl fun _ _ hs8 => ?_); clear hs7
 refine sq rfl (st_indexSl (o' := 0 * 1) hs8 (Ev.t 0 rfl) (.const _) rfl rfl runUnderlying33 sizeOf3 ⟨by omega, by omega⟩ (by simp) fun _ _ hs9 => ?_); clear hs8
 refine sq rfl (st_storeOwn (enc := intL1) (sz := 1) (off := 0) (kk := 0) (i := 0) (u := (fun _ => 0) 0) (u' := 1) hs9 (Ev.t 0 rfl) (.const _) sizeOf3 rfl hO5 (arr_at (by omega)) (fun _ => rfl) (by decide) rfl rfl rfl (fun o7 a_10 w_10 hO7 hs10 => ?_)); clear hs9
 rw [arr_set] at hO7
 have hs11 : Sx 70 [] [(13, .pointer (some ⟨b4, 0 * 1, none⟩)), (12, .slice (some ⟨b4, 0, none⟩) 60001 60001), (5, .slice (some ⟨b4, 0, none⟩) 60001 60001), (4, .slice none 0 0), (2, .pointer (some ⟨b2, 0, none⟩)), (1, .int .i64 but)] [(b4, o7), (b2, some (.cells ⟨(bxL b A n cp A2 n2 c2)⟩ 25 (0, 0)))] [] w _ _ := hs10; clear hs10
 refine hK6 _ _ ?_; clear hK6
 have hs12 := hs11.keep [2, 3, 4, 5] [_, _, _, _] rfl; clear hs11
 refine cd_seq fun K8 hK8 => ?_
 refine cd_region fun K9 hK9 => ?_
 refine sq rfl (st_assign hs12 (.const _) rfl rfl fun _ _ hs13 => ?_); clear hs12
 refine hK9 _ _ ?_; clear hK9
 refine cd_block ?_
 have hs14 : Sx 70 [] [(6, .int .i64 ((AllG.mk 0 b4 o7 []).k : Int)), (5, .slice (some ⟨(AllG.mk 0 b4 o7 []).b, 0, none⟩) 60001 60001), (4, .slice none 0 0), (2, .pointer (some ⟨b2, 0, none⟩)), (1, .int .i64 but)] [((AllG.mk 0 b4 o7 []).b, (AllG.mk 0 b4 o7 []).o), (b2, some (.cells ⟨(bxL b A n cp A2 n2 c2)⟩ 25 (0, 0)))] [] w _ _ := Sx.keepE [0, 1, 2, 3, 4] _ ⟨⟨_, rfl, rfl⟩, ⟨_, rfl, rfl⟩, ⟨_, rfl, rfl⟩, ⟨_, rfl, rfl⟩, ⟨_, rfl, rfl⟩, trivial⟩ hs13; clear hs13
 refine cd_loop (X := AllG) (fun g a_ w_ => (g.k ≤ n) ∧ (Sx.Own intL1 1 3 (some ⟨g.b, 0, none⟩) 60001 (arr (wf (wayTo b but g.k))) g.b g.o) ∧ Sx 70 [] [(6, .int .i64 (g.k : Int)), (5, .slice (some ⟨g.b, 0, none⟩) 60001 60001), (4, .slice none 0 0), (2, .pointer (some ⟨b2, 0, none⟩)), (1, .int .i64 but)] [(g.b, g.o), (b2, some (.cells ⟨(bxL b A n cp A2 n2 c2)⟩ 25 (0, 0)))] [] w a_ w_) (fun g => n - g.k) ((AllG.mk 0 b4 o7 [])) ⟨?_, ?_, hs14⟩ ?_
 · exact Nat.zero_le _
 · exact own_eq hO7 arr_start
 intro g a_15 w_15 ⟨hk, hown, hs15⟩; clear hs14
 refine cd_seq fun K10 hK10 => ?_
 refine cd_region fun K11 hK11 => ?_
 refine sq rfl (st_move hs15 (Ev.t 0 rfl) rfl rfl fun _ _ hs16 => ?_); clear hs15
 refine sq rfl (st_field (o' := 0) hs16 (Ev.t 4 rfl) rfl rfl runUnderlying25 rfl sizeOf22 rfl rfl fun _ _ hs17 => ?_); clear hs16
 refine sq rfl (st_load1 (o := 0) (off := 0) (v := .slice A n cp) hs17 (Ev.t 0 rfl) rfl rfl isAgg22 (hs17.cells 1 rfl) rfl fun _ _ hs18 => ?_); clear hs17
 refine sq rfl (st_len hs18 (Ev.t 0 rfl) rfl rfl runUnderlying22 fun _ _ hs19 => ?_); clear hs18
 refine sq rfl (st_cmp (c := decide (((g.k : Int) : Int) < (n : Int))) hs19 (Ev.t 3 rfl) (Ev.t 0 rfl) rfl rfl rfl rfl fun _ _ hs20 => ?_); clear hs19
 refine hK11 _ _ ?_; clear hK11
 have hs21 := hs20.keep [0, 5, 6, 7, 8, 9] [_, _, _, _, _, _] rfl; clear hs20
 refine cd_cond hs21 (Ev.t 0 rfl) (fun hc12 => ?_) (fun hc12 => ?_)
 · have hin : g.k < n := by simpa using hc12
   have hir : g.k < b.rolls.length := by omega
   have hif : g.k < b.free.length := by omega
   obtain ⟨x13, hx13⟩ : ∃ x, b.rolls[g.k]? = some x := ⟨_, List.getElem?_eq_getElem (by have := hP.len; omega)⟩
   obtain ⟨b14, o14, hA14, -, hc14⟩ := hP.el g.k x13 hx13
   obtain ⟨x15, hx15⟩ : ∃ x, b.free[g.k]? = some x := ⟨_, List.getElem?_eq_getElem (by have := hF.len; omega)⟩
   obtain ⟨b16, o16, hA16, -, hc16⟩ := hF.el g.k x15 hx15
   have hs9 := sold_at hx13 hx15
   have hsp := hO.wf.sp _ _ hs9; have hpr := hO.wf.price _ _ hx13; have hL := way_ok hO (but := but) g.k (by omega)
   refine cd_skip ?_
   refine th_norm (hK10 _ _ ?_)
   refine cd_seq fun K17 hK17 => ?_
   refine cd_block ?_
   refine cd_seq fun K18 hK18 => ?_
   refine cd_region fun K19 hK19 => ?_
   refine sq rfl (st_move hs21 (Ev.t 1 rfl) rfl rfl fun _ _ hs22 => ?_); clear hs21
   refine sq rfl (st_move hs22 (Ev.t 6 rfl) rfl rfl fun _ _ hs23 => ?_); clear hs22
   refine sq rfl (st_cmp (c := ((g.k : Int) : Int) == but) hs23 (Ev.t 1 rfl) (Ev.t 0 rfl) rfl rfl rfl rfl fun _ _ hs24 => ?_); clear hs23
   refine hK19 _ _ ?_; clear hK19
   have hs25 := hs24.keep [0, 4, 5, 6, 7, 8] [_, _, _, _, _, _] rfl; clear hs24
   refine cd_cond hs25 (Ev.t 0 rfl) (fun hc20 => ?_) (fun hc20 => ?_)
   · have he : (g.k : Int) = but := by simpa using hc20
     have hO21 : Sx.Own intL1 1 3 _ _ (arr (wf (wayTo b but (g.k + 1)))) g.b g.o := own_eq hown (congrArg (fun L => arr (wf L)) (way_no hx13 hs9 he).symm)
     refine cd_exit ?_
     refine th_exit ?_
     refine in_hit ?_
     refine th_norm (hK17 _ _ ?_)
     refine cd_region1 ?_
     refine sq rfl (st_move hs25 (Ev.t 1 rfl) rfl rfl fun _ _ hs26 => ?_); clear hs25
     refine sq rfl (st_add (z := (g.k : Int) + 1) hs26 (Ev.t 0 rfl) (.const _) rfl rfl rfl (by omega) fun _ _ hs27 => ?_); clear hs26
     have hs28 := hs27.keep [0, 1, 2, 4, 5, 6, 7] [_, _, _, _, _, _, _] rfl; clear hs27
     refine sq rfl (st_assign hs28 (Ev.t 0 rfl) rfl rfl fun _ _ hs29 => ?_); clear hs28
     refine wpListIn_nil ?_
     have hs30 := hs29.keep [0, 4, 5, 6, 7] [_, _, _, _, _] rfl; clear hs29
     refine ⟨(AllG.mk (g.k + 1) g.b g.o []), ⟨?_, ?_, ?_⟩, by (show n - (g.k + 1) < n - g.k; omega)⟩
     · exact hin
     · exact hO21
     exact Sx.keepE [0, 1, 2, 3, 4] _ ⟨⟨_, rfl, rfl⟩, ⟨_, rfl, rfl⟩, ⟨_, rfl, rfl⟩, ⟨_, rfl, rfl⟩, ⟨_, rfl, rfl⟩, trivial⟩ hs30
   · have hnb : (g.k : Int) ≠ but := by simpa using hc20
     refine cd_skip ?_
     refine th_norm (hK18 _ _ ?_)
     refine cd_region fun K22 hK22 => ?_
     refine sq rfl (st_makeInts (n := 60001) hs25 (.const _) (.const _) rfl rfl underlying33 (show (Tryd.prog.info? 3).map (fun i => (i.zero, i.size, i.bytes)) = some (some (.int .i64 0), 1, 8) by kernel_rfl) (by decide) (by decide) fun b23 _ _ hs26 => ?_); clear hs25
     refine sq rfl (st_assign hs26 (Ev.t 0 rfl) rfl rfl fun _ _ hs27 => ?_); clear hs26
     refine hK22 _ _ ?_; clear hK22
     have hs28 := hs27.keep [0, 3, 4, 5, 6, 7] [_, _, _, _, _, _] rfl; clear hs27
     obtain ⟨oa24, hoa24⟩ : ∃ o_, o_ = some (Obj.cells ⟨vals (List.replicate 60001 0)⟩ 3 (0, 0)) := ⟨_, rfl⟩
     have hO24 := own_rep 3 b23 60001; rw [← hoa24] at hO24
     have hs29 := hs28.asB [(b23, oa24), (g.b, g.o), (b2, some (.cells ⟨(bxL b A n cp A2 n2 c2)⟩ 25 (0, 0)))] (by rw [hoa24]); clear hs28
     refine cd_region fun K25 hK25 => ?_
     refine sq rfl (st_loadA (o := 0) (off := 0) (vs := (bxL b A n cp A2 n2 c2)) hs29 (Ev.t 4 rfl) rfl rfl isAgg25 sizeOf25 (hs29.cells 2 rfl) rfl fun _ _ hs30 => ?_); clear hs29
     refine sq rfl (st_move hs30 (Ev.t 2 rfl) rfl rfl fun _ _ hs31 => ?_); clear hs30
     refine sq rfl (st_callv (vs := [.agg ⟨(bxL b A n cp A2 n2 c2)⟩, .int .i64 (g.k : Int)]) hs31 (.func _) ⟨(Ev.t 1 rfl), (Ev.t 0 rfl), trivial⟩ rfl rfl call59 rfl (rcan_v b A n cp A2 n2 c2 g.k x13 hx13 x15 hx15 _ (hP.kp hs31.kp) hn (hF.kp hs31.kp) hn2 (hO.roll _ _ hx13) (hO.free _ _ hx15)) fun _ _ hs32 => ?_); clear hs31
     refine sq rfl (st_alloc hs32 rfl rfl zeroValue35 rfl fun b26 _ _ hs33 => ?_); clear hs32
     refine sq rfl (st_store (l' := (spL (x13.sold x15))) (vs := (spL (x13.sold x15))) (i := 0) hs33 (Ev.t 0 rfl) (Ev.t 1 rfl) sizeOf35 rfl rfl rfl rfl rfl rfl fun _ _ hs34 => ?_); clear hs33
     have hs35 := hs34.asB [_, _, _, _] rfl; clear hs34
     refine hK25 _ _ ?_; clear hK25
     have hs36 := hs35.keep [0, 4, 5, 6, 7, 8, 9] [_, _, _, _, _, _, _] rfl; clear hs35
     refine cd_seq fun K27 hK27 => ?_
     refine cd_region fun K28 hK28 => ?_
     refine sq rfl (st_assign hs36 (.const _) rfl rfl fun _ _ hs37 => ?_); clear hs36
     refine hK28 _ _ ?_; clear hK28
     refine cd_block ?_
     have hs38 : Sx 70 [] [(9, .int .i64 ((InG.mk 0 oa24 []).j : Int)), (8, .pointer (some ⟨b26, 0, none⟩)), (7, .slice (some ⟨b23, 0, none⟩) 60001 60001), (6, .int .i64 (g.k : Int)), (5, .slice (some ⟨g.b, 0, none⟩) 60001 60001), (4, .slice none 0 0), (2, .pointer (some ⟨b2, 0, none⟩)), (1, .int .i64 but)] [(b26, some (.cells ⟨(spL (x13.sold x15))⟩ 35 (0, 0))), (b23, (InG.mk 0 oa24 []).o), (g.b, g.o), (b2, some (.cells ⟨(bxL b A n cp A2 n2 c2)⟩ 25 (0, 0)))] [] w _ _ := Sx.keepE [0, 1, 2, 3, 4, 5, 6, 7] _ ⟨⟨_, rfl, rfl⟩, ⟨_, rfl, rfl⟩, ⟨_, rfl, rfl⟩, ⟨_, rfl, rfl⟩, ⟨_, rfl, rfl⟩, ⟨_, rfl, rfl⟩, ⟨_, rfl, rfl⟩, ⟨_, rfl, rfl⟩, trivial⟩ hs37; clear hs37
     refine cd_loop (X := InG) (fun e a_ w_ => (e.j ≤ 60001) ∧ (Sx.Own intL1 1 3 (some ⟨b23, 0, none⟩) 60001 (arr (pour (wf (wayTo b but g.k)) x13.price (nums (x13.sold x15)) e.j)) b23 e.o) ∧ Sx 70 [] [(9, .int .i64 (e.j : Int)), (8, .pointer (some ⟨b26, 0, none⟩)), (7, .slice (some ⟨b23, 0, none⟩) 60001 60001), (6, .int .i64 (g.k : Int)), (5, .slice (some ⟨g.b, 0, none⟩) 60001 60001), (4, .slice none 0 0), (2, .pointer (some ⟨b2, 0, none⟩)), (1, .int .i64 but)] [(b26, some (.cells ⟨(spL (x13.sold x15))⟩ 35 (0, 0))), (b23, e.o), (g.b, g.o), (b2, some (.cells ⟨(bxL b A n cp A2 n2 c2)⟩ 25 (0, 0)))] [] w a_ w_) (fun e => 60001 - e.j) ((InG.mk 0 oa24 [])) ⟨?_, ?_, hs38⟩ ?_
     · exact Nat.zero_le _
     · exact hO24
     intro e a_39 w_39 ⟨hj, hnx, hs39⟩; clear hs38
     refine cd_seq fun K29 hK29 => ?_
     refine cd_region fun K30 hK30 => ?_
     refine sq rfl (st_move hs39 (Ev.t 0 rfl) rfl rfl fun _ _ hs40 => ?_); clear hs39
     refine sq rfl (st_move hs40 (Ev.t 5 rfl) rfl rfl fun _ _ hs41 => ?_); clear hs40
     refine sq rfl (st_len hs41 (Ev.t 0 rfl) rfl rfl runUnderlying33 fun _ _ hs42 => ?_); clear hs41
     refine sq rfl (st_cmp (c := decide (((e.j : Int) : Int) < 60001)) hs42 (Ev.t 2 rfl) (Ev.t 0 rfl) rfl rfl rfl rfl fun _ _ hs43 => ?_); clear hs42
     refine hK30 _ _ ?_; clear hK30
     have hs44 := hs43.keep [0, 4, 5, 6, 7, 8, 9, 10, 11] [_, _, _, _, _, _, _, _, _] rfl; clear hs43
     refine cd_cond hs44 (Ev.t 0 rfl) (fun hc31 => ?_) (fun hc31 => ?_)
     · have hjn : e.j < 60001 := by simp at hc31; omega
       refine cd_skip ?_
       refine th_norm (hK29 _ _ ?_)
       refine cd_seq fun K32 hK32 => ?_
       refine cd_block ?_
       refine cd_region fun K33 hK33 => ?_
       refine sq rfl (st_field (o' := 0) hs44 (Ev.t 2 rfl) rfl rfl runUnderlying35 rfl sizeOf3 rfl rfl fun _ _ hs45 => ?_); clear hs44
       refine sq rfl (st_load1 (o := 0) (off := 0) (v := .int .i64 ((x13.sold x15).lo)) hs45 (Ev.t 0 rfl) rfl rfl isAgg3 (hs45.cells 0 rfl) rfl fun _ _ hs46 => ?_); clear hs45
       refine sq rfl (st_assign hs46 (Ev.t 0 rfl) rfl rfl fun _ _ hs47 => ?_); clear hs46
       refine hK33 _ _ ?_; clear hK33
       have hs48 := hs47.keep [0, 4, 5, 6, 7, 8, 9, 10, 11] [_, _, _, _, _, _, _, _, _] rfl; clear hs47
       refine cd_block ?_
       have hs49 : Sx 70 [] [(10, .int .i64 ((x13.sold x15).lo + ((InG.mk 0 e.o []).j : Int))), (9, .int .i64 (e.j : Int)), (8, .pointer (some ⟨b26, 0, none⟩)), (7, .slice (some ⟨b23, 0, none⟩) 60001 60001), (6, .int .i64 (g.k : Int)), (5, .slice (some ⟨g.b, 0, none⟩) 60001 60001), (4, .slice none 0 0), (2, .pointer (some ⟨b2, 0, none⟩)), (1, .int .i64 but)] [(b26, some (.cells ⟨(spL (x13.sold x15))⟩ 35 (0, 0))), (b23, (InG.mk 0 e.o []).o), (g.b, g.o), (b2, some (.cells ⟨(bxL b A n cp A2 n2 c2)⟩ 25 (0, 0)))] [] w _ _ := Sx.keepE [0, 1, 2, 3, 4, 5, 6, 7, 8] _ ⟨⟨_, rfl, by simp⟩, ⟨_, rfl, rfl⟩, ⟨_, rfl, rfl⟩, ⟨_, rfl, rfl⟩, ⟨_, rfl, rfl⟩, ⟨_, rfl, rfl⟩, ⟨_, rfl, rfl⟩, ⟨_, rfl, rfl⟩, ⟨_, rfl, rfl⟩, trivial⟩ hs48; clear hs48
       refine cd_loop (X := InG) (fun q a_ w_ => (q.j ≤ (x13.sold x15).len) ∧ (Sx.Own intL1 1 3 (some ⟨b23, 0, none⟩) 60001 (arr (pourP (wf (wayTo b but g.k)) x13.price (nums (x13.sold x15)) e.j q.j)) b23 q.o) ∧ Sx 70 [] [(10, .int .i64 ((x13.sold x15).lo + (q.j : Int))), (9, .int .i64 (e.j : Int)), (8, .pointer (some ⟨b26, 0, none⟩)), (7, .slice (some ⟨b23, 0, none⟩) 60001 60001), (6, .int .i64 (g.k : Int)), (5, .slice (some ⟨g.b, 0, none⟩) 60001 60001), (4, .slice none 0 0), (2, .pointer (some ⟨b2, 0, none⟩)), (1, .int .i64 but)] [(b26, some (.cells ⟨(spL (x13.sold x15))⟩ 35 (0, 0))), (b23, q.o), (g.b, g.o), (b2, some (.cells ⟨(bxL b A n cp A2 n2 c2)⟩ 25 (0, 0)))] [] w a_ w_) (fun q => (x13.sold x15).len - q.j) ((InG.mk 0 e.o [])) ⟨?_, ?_, hs49⟩ ?_
       · exact Nat.zero_le _
       · exact own_eq hnx (congrArg arr pourP_zero.symm)
       intro q a_50 w_50 ⟨htl, hpp, hs50⟩; clear hs49
       refine cd_seq fun K34 hK34 => ?_
       refine cd_region fun K35 hK35 => ?_
       refine sq rfl (st_move hs50 (Ev.t 5 rfl) rfl rfl fun _ _ hs51 => ?_); clear hs50
       refine sq rfl (st_move hs51 (Ev.t 2 rfl) rfl rfl fun _ _ hs52 => ?_); clear hs51
       refine sq rfl (st_indexSl (o' := e.j * 1) hs52 (Ev.t 1 rfl) (Ev.t 0 rfl) rfl rfl runUnderlying33 sizeOf3 ⟨by omega, by omega⟩ (by simp) fun _ _ hs53 => ?_); clear hs52
       refine sq rfl (st_load1 (o := (e.j * 1)) (off := 0) (v := .int .i64 ((wf (wayTo b but g.k)) e.j)) hs53 (Ev.t 0 rfl) rfl rfl isAgg3 (own_cellM hs53 hown (mem_nth (i := 2) rfl) (arr_at (by omega))) rfl fun _ _ hs54 => ?_); clear hs53
       refine sq rfl (st_cmp (c := decide (((wf (wayTo b but g.k)) e.j : Int) > 0)) hs54 (Ev.t 0 rfl) (.const _) rfl rfl rfl rfl fun _ _ hs55 => ?_); clear hs54
       refine sq rfl (st_move hs55 (Ev.t 0 rfl) rfl rfl fun _ _ hs56 => ?_); clear hs55
       refine sq_gv hs56 (gg := decide (((wf (wayTo b but g.k)) e.j : Int) > 0)) (v := .int .i64 ((x13.sold x15).lo + (q.j : Int))) rfl rfl 0 rfl (ison_t _) rfl rfl rfl (fun hg36 K37 hK37 => st_move hs56 (Ev.t 6 rfl) rfl rfl hK37) fun _ _ hs57 => ?_; clear hs56
       refine sq_gv hs57 (gg := decide (((wf (wayTo b but g.k)) e.j : Int) > 0)) (v := .pointer (some ⟨b26, 1, none⟩)) rfl rfl 1 rfl (ison_t _) rfl rfl rfl (fun hg38 K39 hK39 => st_field (o' := 1) hs57 (Ev.t 9 rfl) rfl rfl runUnderlying35 rfl sizeOf3 rfl rfl hK39) fun _ _ hs58 => ?_; clear hs57
       refine sq_gv hs58 (gg := decide (((wf (wayTo b but g.k)) e.j : Int) > 0)) (v := .int .i64 ((x13.sold x15).hi)) rfl rfl 2 rfl (ison_t _) rfl rfl rfl (fun hg40 K41 hK41 => st_load1 (o := 0) (off := 1) (v := .int .i64 ((x13.sold x15).hi)) hs58 ((Ev.t 0 rfl).un hg40) rfl rfl isAgg3 (hs58.cells 0 rfl) rfl hK41) fun _ _ hs59 => ?_; clear hs58
       refine sq_gv hs59 (gg := decide (((wf (wayTo b but g.k)) e.j : Int) > 0)) (v := .bool (decide (((x13.sold x15).lo + (q.j : Int) : Int) ≤ ((x13.sold x15).hi)))) rfl rfl 3 rfl (ison_t _) rfl rfl rfl (fun hg42 K43 hK43 => st_cmp (c := decide (((x13.sold x15).lo + (q.j : Int) : Int) ≤ ((x13.sold x15).hi))) hs59 ((Ev.t 2 rfl).un hg42) ((Ev.t 0 rfl).un hg42) rfl rfl rfl rfl hK43) fun _ _ hs60 => ?_; clear hs59
       refine sq rfl (st_and hs60 (gx := true) (gy := decide (((wf (wayTo b but g.k)) e.j : Int) > 0)) (Ev.t 4 rfl) rfl (Ev.t 0 rfl) (fun h => h) rfl rfl fun _ _ hs61 => ?_); clear hs60
       refine hK35 _ _ ?_; clear hK35
       have hs62 := hs61.keep [0, 11, 12, 13, 14, 15, 16, 17, 18, 19] [_, _, _, _, _, _, _, _, _, _] rfl; clear hs61
       refine cd_cond hs62 (Ev.t 0 rfl) (fun hc44 => ?_) (fun hc44 => ?_)
       · have hcd : (wf (wayTo b but g.k)) e.j > 0 ∧ (x13.sold x15).lo + (q.j : Int) ≤ (x13.sold x15).hi := by simpa using hc44
         have hqt : q.j < (x13.sold x15).len := by unfold Sp.len; omega
         have hnt : (nums (x13.sold x15))[q.j]? = some ((x13.sold x15).lo + (q.j : Int)) := nums_get hqt
         have hix := lst_idx hL (by omega) hpr hsp (j := e.j) (x := (x13.sold x15).lo + (q.j : Int)) (by omega) (by omega)
         have hpb := lst_part hL (by omega) hpr hsp (j := e.j) (t := q.j) hjn ((e.j : Int) + ((x13.sold x15).lo + (q.j : Int)) * x13.price).toNat
         have hfb := lst_wf hL (by omega) e.j
         refine cd_skip ?_
         refine th_norm (hK34 _ _ ?_)
         refine cd_seq fun K45 hK45 => ?_
         refine cd_block ?_
         refine cd_drawn1 mixed hs62 [⟨49, [], Is (.slice (some ⟨b23, 0, none⟩) 60001 60001)⟩, ⟨50, [], Is (.int .i64 (e.j : Int))⟩, ⟨51, [], Is (.int .i64 ((x13.sold x15).lo + (q.j : Int)))⟩, ⟨52, [], Is (.pointer (some ⟨b2, 0, none⟩))⟩, ⟨53, [3], Is (.slice A n cp)⟩, ⟨54, [], Is (.int .i64 (g.k : Int))⟩, ⟨55, [4, 5], Is (.pointer (some ⟨b14, o14 + g.k * 5, none⟩))⟩, ⟨56, [6], Is (.pointer (some ⟨b14, o14 + g.k * 5, none⟩))⟩, ⟨57, [7], Is (.int .i64 x13.price)⟩, ⟨58, [2, 8], Is (.int .i64 (((x13.sold x15).lo + (q.j : Int)) * x13.price))⟩, ⟨59, [1, 9], Is (.int .i64 ((e.j : Int) + (((x13.sold x15).lo + (q.j : Int)) * x13.price)))⟩, ⟨60, [0, 10], Is (.pointer (some ⟨b23, (((e.j : Int) + (((x13.sold x15).lo + (q.j : Int)) * x13.price) : Int).toNat) * 1, none⟩))⟩, ⟨61, [11], Is (.int .i64 ((pourP (wf (wayTo b but g.k)) x13.price (nums (x13.sold x15)) e.j q.j) (((e.j : Int) + (((x13.sold x15).lo + (q.j : Int)) * x13.price) : Int).toNat)))⟩, ⟨62, [], Is (.slice (some ⟨g.b, 0, none⟩) 60001 60001)⟩, ⟨63, [], Is (.int .i64 (e.j : Int))⟩, ⟨64, [13, 14], Is (.pointer (some ⟨g.b, e.j * 1, none⟩))⟩, ⟨65, [15], Is (.int .i64 ((wf (wayTo b but g.k)) e.j))⟩, ⟨66, [12, 16], Is (.int .i64 (((pourP (wf (wayTo b but g.k)) x13.price (nums (x13.sold x15)) e.j q.j) (((e.j : Int) + (((x13.sold x15).lo + (q.j : Int)) * x13.price) : Int).toNat)) + ((wf (wayTo b but g.k)) e.j)))⟩] (by kernel_rfl) (by kernel_rfl) ⟨⟨?_, ?_, ?_, ?_, ?_, ?_, ?_, ?_, ?_, ?_, ?_, ?_, ?_, ?_, ?_, ?_, ?_, ?_, trivial⟩, ?_⟩
         · rintro T_ B_ a_ w_ K_ hT hB hf hsD hk
           exact ob rfl rfl (st_move hsD (evT hT 4 rfl) rfl hf fun _ _ => hk _ _ _ _ ⟨rfl, rfl⟩)
         · rintro T_ B_ a_ w_ K_ hT hB hf hsD hk
           exact ob rfl rfl (st_move hsD (evT hT 2 rfl) rfl hf fun _ _ => hk _ _ _ _ ⟨rfl, rfl⟩)
         · rintro T_ B_ a_ w_ K_ hT hB hf hsD hk
           exact ob rfl rfl (st_move hsD (evT hT 1 rfl) rfl hf fun _ _ => hk _ _ _ _ ⟨rfl, rfl⟩)
         · rintro T_ B_ a_ w_ K_ hT hB hf hsD hk
           exact ob rfl rfl (st_field (o' := 0) hsD (evT hT 8 rfl) rfl hf runUnderlying25 rfl sizeOf22 rfl rfl fun _ _ => hk _ _ _ _ ⟨rfl, rfl⟩)
         · rintro T_ B_ a_ w_ K_ hT hB _ _ ⟨rfl, rfl⟩ h52 - hf hsD hk
           exact ob rfl rfl (st_load1 (o := 0) (off := 0) (v := .slice A n cp) hsD (Ev.tmp h52) rfl hf isAgg22 (hsD.cellsM (inB hB 3 rfl)) rfl fun _ _ => hk _ _ _ _ ⟨rfl, rfl⟩)
         · rintro T_ B_ a_ w_ K_ hT hB hf hsD hk
           exact ob rfl rfl (st_move hsD (evT hT 5 rfl) rfl hf fun _ _ => hk _ _ _ _ ⟨rfl, rfl⟩)
         · rintro T_ B_ a_ w_ K_ hT hB _ _ ⟨rfl, rfl⟩ h53 - _ _ ⟨rfl, rfl⟩ h54 - hf hsD hk
           exact ob rfl rfl (st_indexM (o' := o14 + g.k * 5) hsD (Ev.tmp h53) (Ev.tmp h54) rfl hf hA14 runUnderlying22 sizeOf46 ⟨by omega, by have := hP.len; have := (List.getElem?_eq_some_iff.1 hx13).1; omega⟩ rfl fun _ _ => hk _ _ _ _ ⟨rfl, rfl⟩)
         · rintro T_ B_ a_ w_ K_ hT hB _ _ ⟨rfl, rfl⟩ h55 - hf hsD hk
           exact ob rfl rfl (st_field (o' := o14 + g.k * 5) hsD (Ev.tmp h55) rfl hf runUnderlying46 rfl sizeOf3 rfl rfl fun _ _ => hk _ _ _ _ ⟨rfl, rfl⟩)
         · rintro T_ B_ a_ w_ K_ hT hB _ _ ⟨rfl, rfl⟩ h56 - hf hsD hk
           exact ob rfl rfl (st_load1 (o := o14 + g.k * 5) (off := 0) (v := .int .i64 x13.price) hsD (Ev.tmp h56) rfl hf isAgg3 (hsD.old hc14 (by simp)) rfl fun _ _ => hk _ _ _ _ ⟨rfl, rfl⟩)
         · rintro T_ B_ a_ w_ K_ hT hB _ _ ⟨rfl, rfl⟩ h51 - _ _ ⟨rfl, rfl⟩ h57 - hf hsD hk
           exact ob rfl rfl (st_mul (z := ((x13.sold x15).lo + (q.j : Int)) * x13.price) hsD (Ev.tmp h51) (Ev.tmp h57) rfl hf rfl (by omega) fun _ _ => hk _ _ _ _ ⟨rfl, rfl⟩)
         · rintro T_ B_ a_ w_ K_ hT hB _ _ ⟨rfl, rfl⟩ h50 - _ _ ⟨rfl, rfl⟩ h58 - hf hsD hk
           exact ob rfl rfl (st_add (z := (e.j : Int) + (((x13.sold x15).lo + (q.j : Int)) * x13.price)) hsD (Ev.tmp h50) (Ev.tmp h58) rfl hf rfl (by omega) fun _ _ => hk _ _ _ _ ⟨rfl, rfl⟩)
         · rintro T_ B_ a_ w_ K_ hT hB _ _ ⟨rfl, rfl⟩ h49 - _ _ ⟨rfl, rfl⟩ h59 - hf hsD hk
           exact ob rfl rfl (st_indexSl (o' := (((e.j : Int) + (((x13.sold x15).lo + (q.j : Int)) * x13.price) : Int).toNat) * 1) hsD (Ev.tmp h49) (Ev.tmp h59) rfl hf runUnderlying33 sizeOf3 ⟨by omega, by omega⟩ (by simp) fun _ _ => hk _ _ _ _ ⟨rfl, rfl⟩)
         · rintro T_ B_ a_ w_ K_ hT hB _ _ ⟨rfl, rfl⟩ h60 - hf hsD hk
           exact ob rfl rfl (st_load1 (o := ((((e.j : Int) + (((x13.sold x15).lo + (q.j : Int)) * x13.price) : Int).toNat) * 1)) (off := 0) (v := .int .i64 ((pourP (wf (wayTo b but g.k)) x13.price (nums (x13.sold x15)) e.j q.j) (((e.j : Int) + (((x13.sold x15).lo + (q.j : Int)) * x13.price) : Int).toNat))) hsD (Ev.tmp h60) rfl hf isAgg3 (own_cellM hsD hpp (hB _ (mem_nth (i := 1) rfl)) (arr_at (by omega))) rfl fun _ _ => hk _ _ _ _ ⟨rfl, rfl⟩)
         · rintro T_ B_ a_ w_ K_ hT hB hf hsD hk
           exact ob rfl rfl (st_move hsD (evT hT 6 rfl) rfl hf fun _ _ => hk _ _ _ _ ⟨rfl, rfl⟩)
         · rintro T_ B_ a_ w_ K_ hT hB hf hsD hk
           exact ob rfl rfl (st_move hsD (evT hT 2 rfl) rfl hf fun _ _ => hk _ _ _ _ ⟨rfl, rfl⟩)
         · rintro T_ B_ a_ w_ K_ hT hB _ _ ⟨rfl, rfl⟩ h62 - _ _ ⟨rfl, rfl⟩ h63 - hf hsD hk
           exact ob rfl rfl (st_indexSl (o' := e.j * 1) hsD (Ev.tmp h62) (Ev.tmp h63) rfl hf runUnderlying33 sizeOf3 ⟨by omega, by omega⟩ (by simp) fun _ _ => hk _ _ _ _ ⟨rfl, rfl⟩)
         · rintro T_ B_ a_ w_ K_ hT hB _ _ ⟨rfl, rfl⟩ h64 - hf hsD hk
           exact ob rfl rfl (st_load1 (o := (e.j * 1)) (off := 0) (v := .int .i64 ((wf (wayTo b but g.k)) e.j)) hsD (Ev.tmp h64) rfl hf isAgg3 (own_cellM hsD hown (hB _ (mem_nth (i := 2) rfl)) (arr_at (by omega))) rfl fun _ _ => hk _ _ _ _ ⟨rfl, rfl⟩)
         · rintro T_ B_ a_ w_ K_ hT hB _ _ ⟨rfl, rfl⟩ h61 - _ _ ⟨rfl, rfl⟩ h65 - hf hsD hk
           exact ob rfl rfl (st_add (z := ((pourP (wf (wayTo b but g.k)) x13.price (nums (x13.sold x15)) e.j q.j) (((e.j : Int) + (((x13.sold x15).lo + (q.j : Int)) * x13.price) : Int).toNat)) + ((wf (wayTo b but g.k)) e.j)) hsD (Ev.tmp h61) (Ev.tmp h65) rfl hf rfl (by omega) fun _ _ => hk _ _ _ _ ⟨rfl, rfl⟩)
         rintro _ _ ⟨rfl, rfl⟩ _ _ ⟨rfl, rfl⟩ _ _ ⟨rfl, rfl⟩ _ _ ⟨rfl, rfl⟩ _ _ ⟨rfl, rfl⟩ _ _ ⟨rfl, rfl⟩ _ _ ⟨rfl, rfl⟩ _ _ ⟨rfl, rfl⟩ _ _ ⟨rfl, rfl⟩ _ _ ⟨rfl, rfl⟩ _ _ ⟨rfl, rfl⟩ _ _ ⟨rfl, rfl⟩ _ _ ⟨rfl, rfl⟩ _ _ ⟨rfl, rfl⟩ _ _ ⟨rfl, rfl⟩ _ _ ⟨rfl, rfl⟩ _ _ ⟨rfl, rfl⟩ _ _ ⟨rfl, rfl⟩ a_63 w_63 hs63; clear hs62
         have hs64 := Sx.as (T' := [_, _, _, _, _, _, _, _, _, _, _, _, _, _, _, _, _, _, _, _, _, _, _, _, _, _, _, _]) (B' := [_, _, _, _]) rfl rfl hs63; clear hs63
         refine sq rfl (st_indexSl (o' := (((e.j : Int) + (((x13.sold x15).lo + (q.j : Int)) * x13.price) : Int).toNat) * 1) hs64 (Ev.t 0 rfl) (Ev.t 10 rfl) rfl rfl runUnderlying33 sizeOf3 ⟨by omega, by omega⟩ (by simp) fun _ _ hs65 => ?_); clear hs64
         refine sq rfl (st_storeOwn (enc := intL1) (sz := 1) (off := 0) (kk := (((e.j : Int) + (((x13.sold x15).lo + (q.j : Int)) * x13.price) : Int).toNat)) (i := 1) (u := (pourP (wf (wayTo b but g.k)) x13.price (nums (x13.sold x15)) e.j q.j) (((e.j : Int) + (((x13.sold x15).lo + (q.j : Int)) * x13.price) : Int).toNat)) (u' := ((pourP (wf (wayTo b but g.k)) x13.price (nums (x13.sold x15)) e.j q.j) (((e.j : Int) + (((x13.sold x15).lo + (q.j : Int)) * x13.price) : Int).toNat)) + ((wf (wayTo b but g.k)) e.j)) hs65 (Ev.t 0 rfl) (Ev.t 18 rfl) sizeOf3 rfl hpp (arr_at (by omega)) (fun _ => rfl) (by decide) rfl rfl rfl (fun o46 a_66 w_66 hO46 hs66 => ?_)); clear hs65
         rw [arr_set] at hO46
         have hs67 : Sx 70 [] [(67, .pointer (some ⟨b23, (((e.j : Int) + (((x13.sold x15).lo + (q.j : Int)) * x13.price) : Int).toNat) * 1, none⟩)), (49, .slice (some ⟨b23, 0, none⟩) 60001 60001), (50, .int .i64 (e.j : Int)), (51, .int .i64 ((x13.sold x15).lo + (q.j : Int))), (52, .pointer (some ⟨b2, 0, none⟩)), (53, .slice A n cp), (54, .int .i64 (g.k : Int)), (55, .pointer (some ⟨b14, o14 + g.k * 5, none⟩)), (56, .pointer (some ⟨b14, o14 + g.k * 5, none⟩)), (57, .int .i64 x13.price), (58, .int .i64 (((x13.sold x15).lo + (q.j : Int)) * x13.price)), (59, .int .i64 ((e.j : Int) + (((x13.sold x15).lo + (q.j : Int)) * x13.price))), (60, .pointer (some ⟨b23, (((e.j : Int) + (((x13.sold x15).lo + (q.j : Int)) * x13.price) : Int).toNat) * 1, none⟩)), (61, .int .i64 ((pourP (wf (wayTo b but g.k)) x13.price (nums (x13.sold x15)) e.j q.j) (((e.j : Int) + (((x13.sold x15).lo + (q.j : Int)) * x13.price) : Int).toNat))), (62, .slice (some ⟨g.b, 0, none⟩) 60001 60001), (63, .int .i64 (e.j : Int)), (64, .pointer (some ⟨g.b, e.j * 1, none⟩)), (65, .int .i64 ((wf (wayTo b but g.k)) e.j)), (66, .int .i64 (((pourP (wf (wayTo b but g.k)) x13.price (nums (x13.sold x15)) e.j q.j) (((e.j : Int) + (((x13.sold x15).lo + (q.j : Int)) * x13.price) : Int).toNat)) + ((wf (wayTo b but g.k)) e.j))), (46, .bool ((decide (((wf (wayTo b but g.k)) e.j : Int) > 0)) && (decide (((x13.sold x15).lo + (q.j : Int) : Int) ≤ ((x13.sold x15).hi))))), (10, .int .i64 ((x13.sold x15).lo + (q.j : Int))), (9, .int .i64 (e.j : Int)), (8, .pointer (some ⟨b26, 0, none⟩)), (7, .slice (some ⟨b23, 0, none⟩) 60001 60001), (6, .int .i64 (g.k : Int)), (5, .slice (some ⟨g.b, 0, none⟩) 60001 60001), (4, .slice none 0 0), (2, .pointer (some ⟨b2, 0, none⟩)), (1, .int .i64 but)] [(b26, some (.cells ⟨(spL (x13.sold x15))⟩ 35 (0, 0))), (b23, o46), (g.b, g.o), (b2, some (.cells ⟨(bxL b A n cp A2 n2 c2)⟩ 25 (0, 0)))] [] w _ _ := hs66; clear hs66
         refine wpListIn_nil ?_
         have hs68 := hs67.keep [20, 21, 22, 23, 24, 25, 26, 27, 28] [_, _, _, _, _, _, _, _, _] rfl; clear hs67
         have hO47 : Sx.Own intL1 1 3 _ _ (arr (pourP (wf (wayTo b but g.k)) x13.price (nums (x13.sold x15)) e.j (q.j + 1))) b23 o46 := own_eq hO46 (congrArg arr (pourP_step hnt (by omega)))
         refine in_norm ?_
         refine th_norm (hK45 _ _ ?_)
         refine cd_region1 ?_
         refine sq rfl (st_move hs68 (Ev.t 0 rfl) rfl rfl fun _ _ hs69 => ?_); clear hs68
         refine sq rfl (st_add (z := ((x13.sold x15).lo + (q.j : Int)) + 1) hs69 (Ev.t 0 rfl) (.const _) rfl rfl rfl (by omega) fun _ _ hs70 => ?_); clear hs69
         have hs71 := hs70.keep [0, 1, 3, 4, 5, 6, 7, 8, 9, 10] [_, _, _, _, _, _, _, _, _, _] rfl; clear hs70
         refine sq rfl (st_assign hs71 (Ev.t 0 rfl) rfl rfl fun _ _ hs72 => ?_); clear hs71
         refine wpListIn_nil ?_
         have hs73 := hs72.keep [0, 3, 4, 5, 6, 7, 8, 9, 10] [_, _, _, _, _, _, _, _, _] rfl; clear hs72
         refine ⟨(InG.mk (q.j + 1) o46 []), ⟨?_, ?_, ?_⟩, by (show (x13.sold x15).len - (q.j + 1) < (x13.sold x15).len - q.j; omega)⟩
         · exact hqt
         · exact hO47
         exact Sx.keepE [0, 1, 2, 3, 4, 5, 6, 7, 8] _ ⟨⟨_, rfl, by rw [show (x13.sold x15).lo + (q.j : Int) + 1 = (x13.sold x15).lo + ((q.j + 1 : Nat) : Int) by omega]⟩, ⟨_, rfl, rfl⟩, ⟨_, rfl, rfl⟩, ⟨_, rfl, rfl⟩, ⟨_, rfl, rfl⟩, ⟨_, rfl, rfl⟩, ⟨_, rfl, rfl⟩, ⟨_, rfl, rfl⟩, ⟨_, rfl, rfl⟩, trivial⟩ hs73
       · have he13 : (wf (wayTo b but g.k)) e.j = 0 ∨ (nums (x13.sold x15)).length ≤ q.j := by have h9 := hc44; have := wf_nonneg (L := wayTo b but g.k) (a := e.j); simp only [Bool.and_eq_false_iff, decide_eq_false_iff_not] at h9; rw [nums_len]; unfold Sp.len; omega
         have hO48 : Sx.Own intL1 1 3 _ _ (arr (pour (wf (wayTo b but g.k)) x13.price (nums (x13.sold x15)) (e.j + 1))) b23 q.o := own_eq hpp (congrArg arr (pourP_end he13))
         refine cd_exit ?_
         refine th_exit ?_
         refine th_exit ?_
         refine in_hit ?_
         refine in_norm ?_
         refine th_norm (hK32 _ _ ?_)
         refine cd_region1 ?_
         refine sq rfl (st_move hs62 (Ev.t 2 rfl) rfl rfl fun _ _ hs63 => ?_); clear hs62
         refine sq rfl (st_add (z := (e.j : Int) + 1) hs63 (Ev.t 0 rfl) (.const _) rfl rfl rfl (by omega) fun _ _ hs64 => ?_); clear hs63
         have hs65 := hs64.keep [0, 1, 2, 3, 5, 6, 7, 8, 9, 10, 11] [_, _, _, _, _, _, _, _, _, _, _] rfl; clear hs64
         refine sq rfl (st_assign hs65 (Ev.t 0 rfl) rfl rfl fun _ _ hs66 => ?_); clear hs65
         refine wpListIn_nil ?_
         have hs67 := hs66.keep [0, 5, 6, 7, 8, 9, 10, 11] [_, _, _, _, _, _, _, _] rfl; clear hs66
         refine ⟨(InG.mk (e.j + 1) q.o []), ⟨?_, ?_, ?_⟩, by (show 60001 - (e.j + 1) < 60001 - e.j; omega)⟩
         · exact hjn
         · exact hO48
         exact Sx.keepE [0, 1, 2, 3, 4, 5, 6, 7] _ ⟨⟨_, rfl, rfl⟩, ⟨_, rfl, rfl⟩, ⟨_, rfl, rfl⟩, ⟨_, rfl, rfl⟩, ⟨_, rfl, rfl⟩, ⟨_, rfl, rfl⟩, ⟨_, rfl, rfl⟩, ⟨_, rfl, rfl⟩, trivial⟩ hs67
     · have hje : e.j = 60001 := by simp at hc31; omega
       have hO49 : Sx.Own intL1 1 3 _ _ (arr (wf (wayTo b but (g.k + 1)))) b23 e.o := own_eq hnx ((by rw [hje, lst_pour hL (by omega), way_yes hx13 hs9 hnb]))
       refine cd_exit ?_
       refine th_exit ?_
       refine th_exit ?_
       refine in_hit ?_
       refine th_norm (hK27 _ _ ?_)
       refine cd_region1 ?_
       refine sq rfl (st_move hs44 (Ev.t 3 rfl) rfl rfl fun _ _ hs45 => ?_); clear hs44
       have hs46 := hs45.keep [0, 1, 2, 3, 4, 5, 7, 8, 9] [_, _, _, _, _, _, _, _, _] rfl; clear hs45
       refine sq rfl (st_assign hs46 (Ev.t 0 rfl) rfl rfl fun _ _ hs47 => ?_); clear hs46
       refine wpListIn_nil ?_
       have hs48 := hs47.keep [0, 6, 7, 8, 9] [_, _, _, _, _] rfl; clear hs47
       refine in_norm ?_
       refine th_norm (hK17 _ _ ?_)
       refine cd_region1 ?_
       refine sq rfl (st_move hs48 (Ev.t 1 rfl) rfl rfl fun _ _ hs49 => ?_); clear hs48
       refine sq rfl (st_add (z := (g.k : Int) + 1) hs49 (Ev.t 0 rfl) (.const _) rfl rfl rfl (by omega) fun _ _ hs50 => ?_); clear hs49
       have hs51 := hs50.keep [0, 1, 2, 4, 5, 6] [_, _, _, _, _, _] rfl; clear hs50
       refine sq rfl (st_assign hs51 (Ev.t 0 rfl) rfl rfl fun _ _ hs52 => ?_); clear hs51
       refine wpListIn_nil ?_
       have hs53 := hs52.keep [0, 3, 4, 5, 6] [_, _, _, _, _] rfl; clear hs52
       refine ⟨(AllG.mk (g.k + 1) b23 e.o []), ⟨?_, ?_, ?_⟩, by (show n - (g.k + 1) < n - g.k; omega)⟩
       · exact hin
       · exact hO49
       have hs54 : Sx 70 [] [(6, .int .i64 ((g.k : Int) + 1)), (5, .slice (some ⟨b23, 0, none⟩) 60001 60001), (4, .slice none 0 0), (2, .pointer (some ⟨b2, 0, none⟩)), (1, .int .i64 but)] [(b23, e.o), (b2, some (.cells ⟨(bxL b A n cp A2 n2 c2)⟩ 25 (0, 0)))] [] w _ _ := Sx.blks hs53 ((List.Sublist.cons _ (List.Sublist.cons_cons _ (List.Sublist.cons _ (List.Sublist.cons_cons _ List.Sublist.slnil)))))
       exact Sx.keepE [0, 1, 2, 3, 4] _ ⟨⟨_, rfl, rfl⟩, ⟨_, rfl, rfl⟩, ⟨_, rfl, rfl⟩, ⟨_, rfl, rfl⟩, ⟨_, rfl, rfl⟩, trivial⟩ hs54
 · have hge : g.k = b.rolls.length := by simp at hc12; omega
   refine cd_exit ?_
   refine th_exit ?_
   refine th_exit ?_
   refine in_hit ?_
   refine th_norm (hK8 _ _ ?_)
   refine cd_region fun K50 hK50 => ?_
   refine sq rfl (st_move hs21 (Ev.t 2 rfl) rfl rfl fun _ _ hs22 => ?_); clear hs21
   have hs23 := hs22.keep [0, 1, 2, 3, 5, 6] [_, _, _, _, _, _] rfl; clear hs22
   refine sq rfl (st_assign hs23 (Ev.t 0 rfl) rfl rfl fun _ _ hs24 => ?_); clear hs23
   refine hK50 _ _ ?_; clear hK50
   have hs25 := hs24.keep [0] [_] rfl; clear hs24
   have hfin : arr (wf (wayTo b but g.k)) = arr (wf (wayTo b but b.rolls.length)) := by rw [hge]
   exact cd_ret (vs := [.slice (some ⟨g.b, 0, none⟩) 60001 60001]) (bs := [(g.b, g.o)]) hs25 hQ0 rfl ⟨.tmp 0 rfl, trivial⟩ (.cons_cons _ (List.nil_sublist _)) ⟨g.b, g.o, rfl, own_eq hown hfin, rfl⟩
end Go.Proofs.YtcnndpedeofbmaaDoor
