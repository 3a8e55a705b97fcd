/- The reference of the till: how many truths go with each number of a roll; Sold, Can, Ask. -/
import Derived.Test.YtcnndpedeofbmaaDoorRb
import Derived.Test.YtcnndpedeofbmaaDoorTz
set_option maxRecDepth 100000
namespace Go.Proofs.YtcnndpedeofbmaaDoor
open Go Go.Sx Go.Till Go.Proofs.Tryd
set_option maxHeartbeats 4000000 in
theorem rwith_b (b : Bx) (A : Option Addr) (n cp : Nat) (A2 : Option Addr) (n2 c2 : Nat) (k : Nat) (r : Roll) (hr : b.rolls[k]? = some r) (f : Sp) (hfk : b.free[k]? = some f) (w : World) (hP : RollsAt w A n b.rolls) (hn : n ≤ 140737488351232) (hF : SpsAt w A2 n2 b.free) (hn2 : n2 ≤ 140737488351232) (hO : Ok b) :
    CallsB Tryd.prog 67 [.agg ⟨bxL b A n cp A2 n2 c2⟩, .int .i64 (k : Int)] w (fun v bs => ∃ b7 o7, v = .slice (some ⟨b7, 0, none⟩) 301 301 ∧ Sx.Own intL1 1 3 (some ⟨b7, 0, none⟩) 301 (arrN 301 (wAll b k)) b7 o7 ∧ bs = [(b7, o7)]) := by
 have hl1 := hP.len
 have hl2 := hF.len
 have hlen := hO.len
 have hn14 := hO.n
 have her := hO.err; have hct := hO.count
 have hkl := (List.getElem?_eq_some_iff.1 hr).1
 have hsk := sold_at hr hfk
 have hsp := hO.wf.sp _ _ hsk; have hpr := hO.wf.price _ _ hr; have hL := way_ok hO (but := (k : Int)) b.rolls.length (Nat.le_refl _)
 refine enter (N := 67) (M := []) w func67 rfl rfl rfl (fun Q0 a_0 hQ0 hN0 hs0 => ?_)
 refine cd_region fun K1 hK1 => ?_
 refine sq rfl (st_box hs0 (Ev.t 0 rfl) rfl rfl rfl fun b2 _ _ hs1 => ?_); clear hs0
 refine sq rfl (st_assign hs1 (.const _) rfl rfl fun _ _ hs2 => ?_); clear hs1
 refine hK1 _ _ ?_; clear hK1
 have hs3 := hs2.keep [0, 1, 3] [_, _, _] rfl; clear hs2
 refine cd_region fun K3 hK3 => ?_
 refine sq rfl (st_makeInts (n := 301) hs3 (.const _) (.const _) rfl rfl underlying33 (show (Tryd.prog.info? 3).map (fun i => (i.zero, i.size, i.bytes)) = some (some (.int .i64 0), 1, 8) by kernel_rfl) (by decide) (by decide) fun b4 _ _ hs4 => ?_); clear hs3
 refine sq rfl (st_assign hs4 (Ev.t 0 rfl) rfl rfl fun _ _ hs5 => ?_); clear hs4
 refine hK3 _ _ ?_; clear hK3
 have hs6 := hs5.keep [0, 2, 3, 4] [_, _, _, _] rfl; clear hs5
 obtain ⟨oa5, hoa5⟩ : ∃ o_, o_ = some (Obj.cells ⟨vals (List.replicate 301 0)⟩ 3 (0, 0)) := ⟨_, rfl⟩
 have hO5 := own_rep 3 b4 301; rw [← hoa5] at hO5
 have hs7 := hs6.asB [(b4, oa5), (b2, some (.cells ⟨(bxL b A n cp A2 n2 c2)⟩ 25 (0, 0)))] (by rw [hoa5]); clear hs6
 obtain ⟨b6, o6, hA6, -, hc6⟩ := hP.el k r hr
 refine cd_region fun K7 hK7 => ?_
 refine sq rfl (st_loadA (o := 0) (off := 0) (vs := (bxL b A n cp A2 n2 c2)) hs7 (Ev.t 2 rfl) rfl rfl isAgg25 sizeOf25 (hs7.cells 1 rfl) rfl fun _ _ hs8 => ?_); clear hs7
 refine sq rfl (st_move hs8 (Ev.t 4 rfl) rfl rfl fun _ _ hs9 => ?_); clear hs8
 refine sq rfl (st_call (vs := [.agg ⟨(bxL b A n cp A2 n2 c2)⟩, .int .i64 (k : Int)]) hs9 (.func _) ⟨(Ev.t 1 rfl), (Ev.t 0 rfl), trivial⟩ rfl rfl call64 rfl ((ways_b b A n cp A2 n2 c2 (k : Int) _ (hP.kp hs9.kp) hn (hF.kp hs9.kp) hn2 hO)) fun v8 bs9 a_10 w_10 hp10 hs10 => ?_); clear hs9
 obtain ⟨bw8, ow8, rfl, hOw8, rfl⟩ := hp10
 have hs11 := Sx.as (T' := [_, _, _, _, _, _, _]) (B' := [_, _, _]) rfl rfl hs10; clear hs10
 refine sq rfl (st_assign hs11 (Ev.t 0 rfl) rfl rfl fun _ _ hs12 => ?_); clear hs11
 refine hK7 _ _ ?_; clear hK7
 have hs13 := hs12.keep [0, 4, 5, 6, 7] [_, _, _, _, _] rfl; clear hs12
 refine cd_region fun K10 hK10 => ?_
 refine sq rfl (st_loadA (o := 0) (off := 0) (vs := (bxL b A n cp A2 n2 c2)) hs13 (Ev.t 3 rfl) rfl rfl isAgg25 sizeOf25 (hs13.cells 2 rfl) rfl fun _ _ hs14 => ?_); clear hs13
 refine sq rfl (st_move hs14 (Ev.t 5 rfl) rfl rfl fun _ _ hs15 => ?_); clear hs14
 refine sq rfl (st_callv (vs := [.agg ⟨(bxL b A n cp A2 n2 c2)⟩, .int .i64 (k : Int)]) hs15 (.func _) ⟨(Ev.t 1 rfl), (Ev.t 0 rfl), trivial⟩ rfl rfl call59 rfl (rcan_v b A n cp A2 n2 c2 k r hr f hfk _ (hP.kp hs15.kp) hn (hF.kp hs15.kp) hn2 (hO.roll _ _ hr) (hO.free _ _ hfk)) fun _ _ hs16 => ?_); clear hs15
 refine sq rfl (st_alloc hs16 rfl rfl zeroValue35 rfl fun b11 _ _ hs17 => ?_); clear hs16
 refine sq rfl (st_store (l' := (spL (r.sold f))) (vs := (spL (r.sold f))) (i := 0) hs17 (Ev.t 0 rfl) (Ev.t 1 rfl) sizeOf35 rfl rfl rfl rfl rfl rfl fun _ _ hs18 => ?_); clear hs17
 have hs19 := hs18.asB [_, _, _, _] rfl; clear hs18
 refine hK10 _ _ ?_; clear hK10
 have hs20 := hs19.keep [0, 4, 5, 6, 7, 8] [_, _, _, _, _, _] rfl; clear hs19
 refine cd_seq fun K12 hK12 => ?_
 refine cd_region fun K13 hK13 => ?_
 refine sq rfl (st_field (o' := 0) hs20 (Ev.t 0 rfl) rfl rfl runUnderlying35 rfl sizeOf3 rfl rfl fun _ _ hs21 => ?_); clear hs20
 refine sq rfl (st_load1 (o := 0) (off := 0) (v := .int .i64 ((r.sold f).lo)) hs21 (Ev.t 0 rfl) rfl rfl isAgg3 (hs21.cells 0 rfl) rfl fun _ _ hs22 => ?_); clear hs21
 refine sq rfl (st_assign hs22 (Ev.t 0 rfl) rfl rfl fun _ _ hs23 => ?_); clear hs22
 refine hK13 _ _ ?_; clear hK13
 have hs24 := hs23.keep [0, 3, 4, 5, 6, 7, 8] [_, _, _, _, _, _, _] rfl; clear hs23
 refine cd_block ?_
 have hs25 : Sx 67 [] [(8, .int .i64 ((r.sold f).lo + ((InG.mk 0 oa5 []).j : Int))), (7, .pointer (some ⟨b11, 0, none⟩)), (6, .slice (some ⟨bw8, 0, none⟩) 60001 60001), (5, .slice (some ⟨b4, 0, none⟩) 301 301), (4, .slice none 0 0), (2, .pointer (some ⟨b2, 0, none⟩)), (1, .int .i64 (k : Int))] [(b11, some (.cells ⟨(spL (r.sold f))⟩ 35 (0, 0))), (bw8, ow8), (b4, (InG.mk 0 oa5 []).o), (b2, some (.cells ⟨(bxL b A n cp A2 n2 c2)⟩ 25 (0, 0)))] [] w _ _ := Sx.keepE [0, 1, 2, 3, 4, 5, 6] _ ⟨⟨_, rfl, by simp⟩, ⟨_, rfl, rfl⟩, ⟨_, rfl, rfl⟩, ⟨_, rfl, rfl⟩, ⟨_, rfl, rfl⟩, ⟨_, rfl, rfl⟩, ⟨_, rfl, rfl⟩, trivial⟩ hs24; clear hs24
 refine cd_loop (X := InG) (fun g a_ w_ => (g.j ≤ (r.sold f).len) ∧ (Sx.Own intL1 1 3 (some ⟨b4, 0, none⟩) 301 (arrN 301 (wArr b k (r.sold f) g.j)) b4 g.o) ∧ Sx 67 [] [(8, .int .i64 ((r.sold f).lo + (g.j : Int))), (7, .pointer (some ⟨b11, 0, none⟩)), (6, .slice (some ⟨bw8, 0, none⟩) 60001 60001), (5, .slice (some ⟨b4, 0, none⟩) 301 301), (4, .slice none 0 0), (2, .pointer (some ⟨b2, 0, none⟩)), (1, .int .i64 (k : Int))] [(b11, some (.cells ⟨(spL (r.sold f))⟩ 35 (0, 0))), (bw8, ow8), (b4, g.o), (b2, some (.cells ⟨(bxL b A n cp A2 n2 c2)⟩ 25 (0, 0)))] [] w a_ w_) (fun g => (r.sold f).len - g.j) ((InG.mk 0 oa5 [])) ⟨?_, ?_, hs25⟩ ?_
 · exact Nat.zero_le _
 · exact own_eq hO5 (by rw [wArr_zero])
 intro g a_26 w_26 ⟨hj, hown, hs26⟩; clear hs25
 refine cd_seq fun K14 hK14 => ?_
 refine cd_region fun K15 hK15 => ?_
 refine sq rfl (st_move hs26 (Ev.t 0 rfl) rfl rfl fun _ _ hs27 => ?_); clear hs26
 refine sq rfl (st_field (o' := 1) hs27 (Ev.t 2 rfl) rfl rfl runUnderlying35 rfl sizeOf3 rfl rfl fun _ _ hs28 => ?_); clear hs27
 refine sq rfl (st_load1 (o := 0) (off := 1) (v := .int .i64 ((r.sold f).hi)) hs28 (Ev.t 0 rfl) rfl rfl isAgg3 (hs28.cells 0 rfl) rfl fun _ _ hs29 => ?_); clear hs28
 refine sq rfl (st_cmp (c := decide (((r.sold f).lo + (g.j : Int) : Int) ≤ ((r.sold f).hi))) hs29 (Ev.t 2 rfl) (Ev.t 0 rfl) rfl rfl rfl rfl fun _ _ hs30 => ?_); clear hs29
 refine hK15 _ _ ?_; clear hK15
 have hs31 := hs30.keep [0, 4, 5, 6, 7, 8, 9, 10] [_, _, _, _, _, _, _, _] rfl; clear hs30
 refine cd_cond hs31 (Ev.t 0 rfl) (fun hc16 => ?_) (fun hc16 => ?_)
 · have hgm : (r.sold f).lo ≤ ((r.sold f).lo + (g.j : Int)) ∧ ((r.sold f).lo + (g.j : Int)) ≤ (r.sold f).hi := ⟨by omega, of_decide_eq_true hc16⟩
   have hgj : g.j < (r.sold f).len := by unfold Sp.len; omega
   have hmb := mul_bd (m := ((r.sold f).lo + (g.j : Int))) (p := r.price) (by omega) hpr
   refine cd_skip ?_
   refine th_norm (hK14 _ _ ?_)
   refine cd_seq fun K17 hK17 => ?_
   refine cd_block ?_
   refine cd_region fun K18 hK18 => ?_
   refine sq rfl (st_field (o' := 3) hs31 (Ev.t 6 rfl) rfl rfl runUnderlying25 rfl sizeOf3 rfl rfl fun _ _ hs32 => ?_); clear hs31
   refine sq rfl (st_load1 (o := 0) (off := 3) (v := .int .i64 b.err) hs32 (Ev.t 0 rfl) rfl rfl isAgg3 (hs32.cells 3 rfl) rfl fun _ _ hs33 => ?_); clear hs32
   refine sq rfl (st_neg hs33 (Ev.t 0 rfl) rfl rfl (by omega) fun _ _ hs34 => ?_); clear hs33
   refine sq rfl (st_assign hs34 (Ev.t 0 rfl) rfl rfl fun _ _ hs35 => ?_); clear hs34
   refine hK18 _ _ ?_; clear hK18
   have hs36 := hs35.keep [0, 5, 6, 7, 8, 9, 10, 11] [_, _, _, _, _, _, _, _] rfl; clear hs35
   refine cd_block ?_
   have hs37 : Sx 67 [] [(9, .int .i64 (-b.err + ((InG.mk 0 g.o []).j : Int))), (8, .int .i64 ((r.sold f).lo + (g.j : Int))), (7, .pointer (some ⟨b11, 0, none⟩)), (6, .slice (some ⟨bw8, 0, none⟩) 60001 60001), (5, .slice (some ⟨b4, 0, none⟩) 301 301), (4, .slice none 0 0), (2, .pointer (some ⟨b2, 0, none⟩)), (1, .int .i64 (k : Int))] [(b11, some (.cells ⟨(spL (r.sold f))⟩ 35 (0, 0))), (bw8, ow8), (b4, (InG.mk 0 g.o []).o), (b2, some (.cells ⟨(bxL b A n cp A2 n2 c2)⟩ 25 (0, 0)))] [] w _ _ := Sx.keepE [0, 1, 2, 3, 4, 5, 6, 7] _ ⟨⟨_, rfl, by simp⟩, ⟨_, rfl, rfl⟩, ⟨_, rfl, rfl⟩, ⟨_, rfl, rfl⟩, ⟨_, rfl, rfl⟩, ⟨_, rfl, rfl⟩, ⟨_, rfl, rfl⟩, ⟨_, rfl, rfl⟩, trivial⟩ hs36; clear hs36
   refine cd_loop (X := InG) (fun q a_ w_ => ((q.j : Int) ≤ 2 * b.err + 1) ∧ (Sx.Own intL1 1 3 (some ⟨b4, 0, none⟩) 301 (arrN 301 (upd (wArr b k (r.sold f) g.j) ((r.sold f).lo + (g.j : Int)).toNat (wsum b (wf (wayTo b (k : Int) b.rolls.length)) (((r.sold f).lo + (g.j : Int)) * r.price) q.j))) b4 q.o) ∧ Sx 67 [] [(9, .int .i64 (-b.err + (q.j : Int))), (8, .int .i64 ((r.sold f).lo + (g.j : Int))), (7, .pointer (some ⟨b11, 0, none⟩)), (6, .slice (some ⟨bw8, 0, none⟩) 60001 60001), (5, .slice (some ⟨b4, 0, none⟩) 301 301), (4, .slice none 0 0), (2, .pointer (some ⟨b2, 0, none⟩)), (1, .int .i64 (k : Int))] [(b11, some (.cells ⟨(spL (r.sold f))⟩ 35 (0, 0))), (bw8, ow8), (b4, q.o), (b2, some (.cells ⟨(bxL b A n cp A2 n2 c2)⟩ 25 (0, 0)))] [] w a_ w_) (fun q => (2 * b.err + 1).toNat - q.j) ((InG.mk 0 g.o [])) ⟨?_, ?_, hs37⟩ ?_
   · show ((0 : Nat) : Int) ≤ 2 * b.err + 1; omega
   · exact own_eq hown (congrArg (arrN 301) (wArr_start hsp.1).symm)
   intro q a_38 w_38 ⟨hu, hin, hs38⟩; clear hs37
   refine cd_seq fun K19 hK19 => ?_
   refine cd_region fun K20 hK20 => ?_
   refine sq rfl (st_move hs38 (Ev.t 0 rfl) rfl rfl fun _ _ hs39 => ?_); clear hs38
   refine sq rfl (st_field (o' := 3) hs39 (Ev.t 7 rfl) rfl rfl runUnderlying25 rfl sizeOf3 rfl rfl fun _ _ hs40 => ?_); clear hs39
   refine sq rfl (st_load1 (o := 0) (off := 3) (v := .int .i64 b.err) hs40 (Ev.t 0 rfl) rfl rfl isAgg3 (hs40.cells 3 rfl) rfl fun _ _ hs41 => ?_); clear hs40
   refine sq rfl (st_cmp (c := decide ((-b.err + (q.j : Int) : Int) ≤ b.err)) hs41 (Ev.t 2 rfl) (Ev.t 0 rfl) rfl rfl rfl rfl fun _ _ hs42 => ?_); clear hs41
   refine hK20 _ _ ?_; clear hK20
   have hs43 := hs42.keep [0, 4, 5, 6, 7, 8, 9, 10, 11] [_, _, _, _, _, _, _, _, _] rfl; clear hs42
   refine cd_cond hs43 (Ev.t 0 rfl) (fun hc21 => ?_) (fun hc21 => ?_)
   · have hul := of_decide_eq_true hc21
     refine cd_skip ?_
     refine th_norm (hK19 _ _ ?_)
     refine cd_seq fun K22 hK22 => ?_
     refine cd_block ?_
     refine cd_drawn mixed hs43 [⟨35, [], Is (.pointer (some ⟨b2, 2, none⟩))⟩, ⟨36, [0], Is (.int .i64 b.count)⟩, ⟨37, [], Is (.int .i64 (-b.err + (q.j : Int)))⟩, ⟨38, [1, 2], Is (.int .i64 (b.count + (-b.err + (q.j : Int))))⟩, ⟨39, [], Is (.int .i64 ((r.sold f).lo + (g.j : Int)))⟩, ⟨40, [], Is (.pointer (some ⟨b2, 0, none⟩))⟩, ⟨41, [5], Is (.slice A n cp)⟩, ⟨42, [], Is (.int .i64 (k : Int))⟩, ⟨43, [6, 7], Is (.pointer (some ⟨b6, o6 + k * 5, none⟩))⟩, ⟨44, [8], Is (.pointer (some ⟨b6, o6 + k * 5, none⟩))⟩, ⟨45, [9], Is (.int .i64 r.price)⟩, ⟨46, [4, 10], Is (.int .i64 (((r.sold f).lo + (g.j : Int)) * r.price))⟩, ⟨47, [3, 11], Is (.int .i64 ((b.count + (-b.err + (q.j : Int))) - (((r.sold f).lo + (g.j : Int)) * r.price)))⟩] (by kernel_rfl) (by kernel_rfl) fun K23 hK23 => ⟨⟨?_, ?_, ?_, ?_, ?_, ?_, ?_, ?_, ?_, ?_, ?_, ?_, ?_, trivial⟩, ?_⟩
     · rintro T_ B_ a_ w_ K_ hT hB hf hsD hk
       exact ob rfl rfl (st_field (o' := 2) hsD (evT hT 7 rfl) rfl hf runUnderlying25 rfl sizeOf3 rfl rfl fun _ _ => hk _ _ _ _ ⟨rfl, rfl⟩)
     · rintro T_ B_ a_ w_ K_ hT hB _ _ ⟨rfl, rfl⟩ h35 - hf hsD hk
       exact ob rfl rfl (st_load1 (o := 0) (off := 2) (v := .int .i64 b.count) hsD (Ev.tmp h35) rfl hf isAgg3 (hsD.cellsM (inB hB 3 rfl)) rfl fun _ _ => hk _ _ _ _ ⟨rfl, rfl⟩)
     · rintro T_ B_ a_ w_ K_ hT hB hf hsD hk
       exact ob rfl rfl (st_move hsD (evT hT 1 rfl) rfl hf fun _ _ => hk _ _ _ _ ⟨rfl, rfl⟩)
     · rintro T_ B_ a_ w_ K_ hT hB _ _ ⟨rfl, rfl⟩ h36 - _ _ ⟨rfl, rfl⟩ h37 - hf hsD hk
       exact ob rfl rfl (st_add (z := b.count + (-b.err + (q.j : Int))) hsD (Ev.tmp h36) (Ev.tmp h37) rfl hf rfl (by omega) fun _ _ => hk _ _ _ _ ⟨rfl, rfl⟩)
     · rintro T_ B_ a_ w_ K_ hT hB hf hsD hk
       exact ob rfl rfl (st_move hsD (evT hT 2 rfl) rfl hf fun _ _ => hk _ _ _ _ ⟨rfl, rfl⟩)
     · rintro T_ B_ a_ w_ K_ hT hB hf hsD hk
       exact ob rfl rfl (st_field (o' := 0) hsD (evT hT 7 rfl) rfl hf runUnderlying25 rfl sizeOf22 rfl rfl fun _ _ => hk _ _ _ _ ⟨rfl, rfl⟩)
     · rintro T_ B_ a_ w_ K_ hT hB _ _ ⟨rfl, rfl⟩ h40 - hf hsD hk
       exact ob rfl rfl (st_load1 (o := 0) (off := 0) (v := .slice A n cp) hsD (Ev.tmp h40) rfl hf isAgg22 (hsD.cellsM (inB hB 3 rfl)) rfl fun _ _ => hk _ _ _ _ ⟨rfl, rfl⟩)
     · rintro T_ B_ a_ w_ K_ hT hB hf hsD hk
       exact ob rfl rfl (st_move hsD (evT hT 8 rfl) rfl hf fun _ _ => hk _ _ _ _ ⟨rfl, rfl⟩)
     · rintro T_ B_ a_ w_ K_ hT hB _ _ ⟨rfl, rfl⟩ h41 - _ _ ⟨rfl, rfl⟩ h42 - hf hsD hk
       exact ob rfl rfl (st_indexM (o' := o6 + k * 5) hsD (Ev.tmp h41) (Ev.tmp h42) rfl hf hA6 runUnderlying22 sizeOf46 ⟨by omega, by have := hP.len; have := (List.getElem?_eq_some_iff.1 hr).1; omega⟩ rfl fun _ _ => hk _ _ _ _ ⟨rfl, rfl⟩)
     · rintro T_ B_ a_ w_ K_ hT hB _ _ ⟨rfl, rfl⟩ h43 - hf hsD hk
       exact ob rfl rfl (st_field (o' := o6 + k * 5) hsD (Ev.tmp h43) rfl hf runUnderlying46 rfl sizeOf3 rfl rfl fun _ _ => hk _ _ _ _ ⟨rfl, rfl⟩)
     · rintro T_ B_ a_ w_ K_ hT hB _ _ ⟨rfl, rfl⟩ h44 - hf hsD hk
       exact ob rfl rfl (st_load1 (o := o6 + k * 5) (off := 0) (v := .int .i64 r.price) hsD (Ev.tmp h44) rfl hf isAgg3 (hsD.old hc6 (by simp)) rfl fun _ _ => hk _ _ _ _ ⟨rfl, rfl⟩)
     · rintro T_ B_ a_ w_ K_ hT hB _ _ ⟨rfl, rfl⟩ h39 - _ _ ⟨rfl, rfl⟩ h45 - hf hsD hk
       exact ob rfl rfl (st_mul (z := ((r.sold f).lo + (g.j : Int)) * r.price) hsD (Ev.tmp h39) (Ev.tmp h45) rfl hf rfl (by omega) fun _ _ => hk _ _ _ _ ⟨rfl, rfl⟩)
     · rintro T_ B_ a_ w_ K_ hT hB _ _ ⟨rfl, rfl⟩ h38 - _ _ ⟨rfl, rfl⟩ h46 - hf hsD hk
       exact ob rfl rfl (st_sub (z := (b.count + (-b.err + (q.j : Int))) - (((r.sold f).lo + (g.j : Int)) * r.price)) hsD (Ev.tmp h38) (Ev.tmp h46) rfl hf rfl (by omega) fun _ _ => hk _ _ _ _ ⟨rfl, rfl⟩)
     rintro _ _ ⟨rfl, rfl⟩ _ _ ⟨rfl, rfl⟩ _ _ ⟨rfl, rfl⟩ _ _ ⟨rfl, rfl⟩ _ _ ⟨rfl, rfl⟩ _ _ ⟨rfl, rfl⟩ _ _ ⟨rfl, rfl⟩ _ _ ⟨rfl, rfl⟩ _ _ ⟨rfl, rfl⟩ _ _ ⟨rfl, rfl⟩ _ _ ⟨rfl, rfl⟩ _ _ ⟨rfl, rfl⟩ _ _ ⟨rfl, rfl⟩ a_44 w_44 hs44; clear hs43
     have hs45 := Sx.as (T' := [_, _, _, _, _, _, _, _, _, _, _, _, _, _, _, _, _, _, _, _, _, _]) (B' := [_, _, _, _]) rfl rfl hs44; clear hs44
     refine sq rfl (st_assign hs45 (Ev.t 12 rfl) rfl rfl fun _ _ hs46 => ?_); clear hs45
     refine hK23 _ _ ?_; clear hK23
     have hs47 := hs46.keep [0, 15, 16, 17, 18, 19, 20, 21, 22] [_, _, _, _, _, _, _, _, _] rfl; clear hs46
     refine cd_region fun K24 hK24 => ?_
     refine sq rfl (st_move hs47 (Ev.t 0 rfl) rfl rfl fun _ _ hs48 => ?_); clear hs47
     refine sq rfl (st_cmp (c := decide (((b.count + (-b.err + (q.j : Int))) - (((r.sold f).lo + (g.j : Int)) * r.price) : Int) ≥ 0)) hs48 (Ev.t 0 rfl) (.const _) rfl rfl rfl rfl fun _ _ hs49 => ?_); clear hs48
     refine sq rfl (st_move hs49 (Ev.t 0 rfl) rfl rfl fun _ _ hs50 => ?_); clear hs49
     refine sq_gv hs50 (gg := decide (((b.count + (-b.err + (q.j : Int))) - (((r.sold f).lo + (g.j : Int)) * r.price) : Int) ≥ 0)) (v := .int .i64 ((b.count + (-b.err + (q.j : Int))) - (((r.sold f).lo + (g.j : Int)) * r.price))) rfl rfl 0 rfl (ison_t _) rfl rfl rfl (fun hg25 K26 hK26 => st_move hs50 (Ev.t 3 rfl) rfl rfl hK26) fun _ _ hs51 => ?_; clear hs50
     refine sq_gv hs51 (gg := decide (((b.count + (-b.err + (q.j : Int))) - (((r.sold f).lo + (g.j : Int)) * r.price) : Int) ≥ 0)) (v := .slice (some ⟨bw8, 0, none⟩) 60001 60001) rfl rfl 1 rfl (ison_t _) rfl rfl rfl (fun hg27 K28 hK28 => st_move hs51 (Ev.t 8 rfl) rfl rfl hK28) fun _ _ hs52 => ?_; clear hs51
     refine sq_gv hs52 (gg := decide (((b.count + (-b.err + (q.j : Int))) - (((r.sold f).lo + (g.j : Int)) * r.price) : Int) ≥ 0)) (v := .int .i64 60001) rfl rfl 2 rfl (ison_t _) rfl rfl rfl (fun hg29 K30 hK30 => st_len hs52 ((Ev.t 0 rfl).un hg29) rfl rfl runUnderlying33 hK30) fun _ _ hs53 => ?_; clear hs52
     refine sq_gv hs53 (gg := decide (((b.count + (-b.err + (q.j : Int))) - (((r.sold f).lo + (g.j : Int)) * r.price) : Int) ≥ 0)) (v := .bool (decide (((b.count + (-b.err + (q.j : Int))) - (((r.sold f).lo + (g.j : Int)) * r.price) : Int) < 60001))) rfl rfl 3 rfl (ison_t _) rfl rfl rfl (fun hg31 K32 hK32 => st_cmp (c := decide (((b.count + (-b.err + (q.j : Int))) - (((r.sold f).lo + (g.j : Int)) * r.price) : Int) < 60001)) hs53 ((Ev.t 2 rfl).un hg31) ((Ev.t 0 rfl).un hg31) rfl rfl rfl rfl hK32) fun _ _ hs54 => ?_; clear hs53
     refine sq rfl (st_and hs54 (gx := true) (gy := decide (((b.count + (-b.err + (q.j : Int))) - (((r.sold f).lo + (g.j : Int)) * r.price) : Int) ≥ 0)) (Ev.t 4 rfl) rfl (Ev.t 0 rfl) (fun h => h) rfl rfl fun _ _ hs55 => ?_); clear hs54
     refine hK24 _ _ ?_; clear hK24
     have hs56 := hs55.keep [0, 8, 9, 10, 11, 12, 13, 14, 15, 16] [_, _, _, _, _, _, _, _, _, _] rfl; clear hs55
     refine cd_cond hs56 (Ev.t 0 rfl) (fun hc33 => ?_) (fun hc33 => ?_)
     · have hcd : 0 ≤ b.count + (-b.err + (q.j : Int)) - ((r.sold f).lo + (g.j : Int)) * r.price ∧ b.count + (-b.err + (q.j : Int)) - ((r.sold f).lo + (g.j : Int)) * r.price < 60001 := by simpa using hc33
       have hwx := lst_wf hL (by omega) (b.count + (-b.err + (q.j : Int)) - ((r.sold f).lo + (g.j : Int)) * r.price).toNat
       have hws := wsum_eq (lst_in hL (by omega)) (b := b) (c := ((r.sold f).lo + (g.j : Int)) * r.price) q.j; have hcl := cw_le (M := wayTo b (k : Int) b.rolls.length) (a := b.count - b.err - ((r.sold f).lo + (g.j : Int)) * r.price) q.j; have hp4 := pow46 hn14.2; have hll := hL.2
       have hat := upd_at (f := wArr b k (r.sold f) g.j) (i := ((r.sold f).lo + (g.j : Int)).toNat) (x := (wsum b (wf (wayTo b (k : Int) b.rolls.length)) (((r.sold f).lo + (g.j : Int)) * r.price) q.j))
       have hst : (wsum b (wf (wayTo b (k : Int) b.rolls.length)) (((r.sold f).lo + (g.j : Int)) * r.price) (q.j + 1)) = (wsum b (wf (wayTo b (k : Int) b.rolls.length)) (((r.sold f).lo + (g.j : Int)) * r.price) q.j) + (wf (wayTo b (k : Int) b.rolls.length)) (b.count + (-b.err + (q.j : Int)) - ((r.sold f).lo + (g.j : Int)) * r.price).toNat := by rw [wsum, if_pos hcd]
       refine cd_drawn1 mixed hs56 [⟨56, [], Is (.slice (some ⟨b4, 0, none⟩) 301 301)⟩, ⟨57, [], Is (.int .i64 ((r.sold f).lo + (g.j : Int)))⟩, ⟨58, [0, 1], Is (.pointer (some ⟨b4, (((r.sold f).lo + (g.j : Int) : Int).toNat) * 1, none⟩))⟩, ⟨59, [2], Is (.int .i64 ((upd (wArr b k (r.sold f) g.j) ((r.sold f).lo + (g.j : Int)).toNat (wsum b (wf (wayTo b (k : Int) b.rolls.length)) (((r.sold f).lo + (g.j : Int)) * r.price) q.j)) (((r.sold f).lo + (g.j : Int) : Int).toNat)))⟩, ⟨60, [], Is (.slice (some ⟨bw8, 0, none⟩) 60001 60001)⟩, ⟨61, [], Is (.int .i64 ((b.count + (-b.err + (q.j : Int))) - (((r.sold f).lo + (g.j : Int)) * r.price)))⟩, ⟨62, [4, 5], Is (.pointer (some ⟨bw8, (((b.count + (-b.err + (q.j : Int))) - (((r.sold f).lo + (g.j : Int)) * r.price) : Int).toNat) * 1, none⟩))⟩, ⟨63, [6], Is (.int .i64 ((wf (wayTo b (k : Int) b.rolls.length)) (((b.count + (-b.err + (q.j : Int))) - (((r.sold f).lo + (g.j : Int)) * r.price) : Int).toNat)))⟩] (by kernel_rfl) (by kernel_rfl) ⟨⟨?_, ?_, ?_, ?_, ?_, ?_, ?_, ?_, trivial⟩, ?_⟩
       · rintro T_ B_ a_ w_ K_ hT hB hf hsD hk
         exact ob rfl rfl (st_move hsD (evT hT 6 rfl) rfl hf fun _ _ => hk _ _ _ _ ⟨rfl, rfl⟩)
       · rintro T_ B_ a_ w_ K_ hT hB hf hsD hk
         exact ob rfl rfl (st_move hsD (evT hT 3 rfl) rfl hf fun _ _ => hk _ _ _ _ ⟨rfl, rfl⟩)
       · rintro T_ B_ a_ w_ K_ hT hB _ _ ⟨rfl, rfl⟩ h56 - _ _ ⟨rfl, rfl⟩ h57 - hf hsD hk
         exact ob rfl rfl (st_indexSl (o' := (((r.sold f).lo + (g.j : Int) : Int).toNat) * 1) hsD (Ev.tmp h56) (Ev.tmp h57) rfl hf runUnderlying33 sizeOf3 ⟨by omega, by omega⟩ (by simp) fun _ _ => hk _ _ _ _ ⟨rfl, rfl⟩)
       · rintro T_ B_ a_ w_ K_ hT hB _ _ ⟨rfl, rfl⟩ h58 - hf hsD hk
         exact ob rfl rfl (st_load1 (o := ((((r.sold f).lo + (g.j : Int) : Int).toNat) * 1)) (off := 0) (v := .int .i64 ((upd (wArr b k (r.sold f) g.j) ((r.sold f).lo + (g.j : Int)).toNat (wsum b (wf (wayTo b (k : Int) b.rolls.length)) (((r.sold f).lo + (g.j : Int)) * r.price) q.j)) (((r.sold f).lo + (g.j : Int) : Int).toNat))) hsD (Ev.tmp h58) rfl hf isAgg3 (own_cellM hsD hin (hB _ (mem_nth (i := 2) rfl)) (arr_at (by omega))) rfl fun _ _ => hk _ _ _ _ ⟨rfl, rfl⟩)
       · rintro T_ B_ a_ w_ K_ hT hB hf hsD hk
         exact ob rfl rfl (st_move hsD (evT hT 5 rfl) rfl hf fun _ _ => hk _ _ _ _ ⟨rfl, rfl⟩)
       · rintro T_ B_ a_ w_ K_ hT hB hf hsD hk
         exact ob rfl rfl (st_move hsD (evT hT 1 rfl) rfl hf fun _ _ => hk _ _ _ _ ⟨rfl, rfl⟩)
       · rintro T_ B_ a_ w_ K_ hT hB _ _ ⟨rfl, rfl⟩ h60 - _ _ ⟨rfl, rfl⟩ h61 - hf hsD hk
         exact ob rfl rfl (st_indexSl (o' := (((b.count + (-b.err + (q.j : Int))) - (((r.sold f).lo + (g.j : Int)) * r.price) : Int).toNat) * 1) hsD (Ev.tmp h60) (Ev.tmp h61) rfl hf runUnderlying33 sizeOf3 ⟨by omega, by omega⟩ (by simp) fun _ _ => hk _ _ _ _ ⟨rfl, rfl⟩)
       · rintro T_ B_ a_ w_ K_ hT hB _ _ ⟨rfl, rfl⟩ h62 - hf hsD hk
         exact ob rfl rfl (st_load1 (o := ((((b.count + (-b.err + (q.j : Int))) - (((r.sold f).lo + (g.j : Int)) * r.price) : Int).toNat) * 1)) (off := 0) (v := .int .i64 ((wf (wayTo b (k : Int) b.rolls.length)) (((b.count + (-b.err + (q.j : Int))) - (((r.sold f).lo + (g.j : Int)) * r.price) : Int).toNat))) hsD (Ev.tmp h62) rfl hf isAgg3 (own_cellM hsD hOw8 (hB _ (mem_nth (i := 1) rfl)) (arr_at (by omega))) rfl fun _ _ => hk _ _ _ _ ⟨rfl, rfl⟩)
       rintro _ _ ⟨rfl, rfl⟩ _ _ ⟨rfl, rfl⟩ _ _ ⟨rfl, rfl⟩ _ _ ⟨rfl, rfl⟩ _ _ ⟨rfl, rfl⟩ _ _ ⟨rfl, rfl⟩ _ _ ⟨rfl, rfl⟩ _ _ ⟨rfl, rfl⟩ a_57 w_57 hs57; clear hs56
       have hs58 := Sx.as (T' := [_, _, _, _, _, _, _, _, _, _, _, _, _, _, _, _, _, _]) (B' := [_, _, _, _]) rfl rfl hs57; clear hs57
       refine sq rfl (st_add (z := ((upd (wArr b k (r.sold f) g.j) ((r.sold f).lo + (g.j : Int)).toNat (wsum b (wf (wayTo b (k : Int) b.rolls.length)) (((r.sold f).lo + (g.j : Int)) * r.price) q.j)) (((r.sold f).lo + (g.j : Int) : Int).toNat)) + ((wf (wayTo b (k : Int) b.rolls.length)) (((b.count + (-b.err + (q.j : Int))) - (((r.sold f).lo + (g.j : Int)) * r.price) : Int).toNat))) hs58 (Ev.t 3 rfl) (Ev.t 7 rfl) rfl rfl rfl (by omega) fun _ _ hs59 => ?_); clear hs58
       refine sq rfl (st_indexSl (o' := (((r.sold f).lo + (g.j : Int) : Int).toNat) * 1) hs59 (Ev.t 1 rfl) (Ev.t 2 rfl) rfl rfl runUnderlying33 sizeOf3 ⟨by omega, by omega⟩ (by simp) fun _ _ hs60 => ?_); clear hs59
       refine sq rfl (st_storeOwn (enc := intL1) (sz := 1) (off := 0) (kk := (((r.sold f).lo + (g.j : Int) : Int).toNat)) (i := 2) (u := (upd (wArr b k (r.sold f) g.j) ((r.sold f).lo + (g.j : Int)).toNat (wsum b (wf (wayTo b (k : Int) b.rolls.length)) (((r.sold f).lo + (g.j : Int)) * r.price) q.j)) (((r.sold f).lo + (g.j : Int) : Int).toNat)) (u' := ((upd (wArr b k (r.sold f) g.j) ((r.sold f).lo + (g.j : Int)).toNat (wsum b (wf (wayTo b (k : Int) b.rolls.length)) (((r.sold f).lo + (g.j : Int)) * r.price) q.j)) (((r.sold f).lo + (g.j : Int) : Int).toNat)) + ((wf (wayTo b (k : Int) b.rolls.length)) (((b.count + (-b.err + (q.j : Int))) - (((r.sold f).lo + (g.j : Int)) * r.price) : Int).toNat))) hs60 (Ev.t 0 rfl) (Ev.t 1 rfl) sizeOf3 rfl hin (arr_at (by omega)) (fun _ => rfl) (by decide) rfl rfl rfl (fun o34 a_61 w_61 hO34 hs61 => ?_)); clear hs60
       rw [arr_set] at hO34
       have hs62 : Sx 67 [] [(65, .pointer (some ⟨b4, (((r.sold f).lo + (g.j : Int) : Int).toNat) * 1, none⟩)), (64, .int .i64 (((upd (wArr b k (r.sold f) g.j) ((r.sold f).lo + (g.j : Int)).toNat (wsum b (wf (wayTo b (k : Int) b.rolls.length)) (((r.sold f).lo + (g.j : Int)) * r.price) q.j)) (((r.sold f).lo + (g.j : Int) : Int).toNat)) + ((wf (wayTo b (k : Int) b.rolls.length)) (((b.count + (-b.err + (q.j : Int))) - (((r.sold f).lo + (g.j : Int)) * r.price) : Int).toNat)))), (56, .slice (some ⟨b4, 0, none⟩) 301 301), (57, .int .i64 ((r.sold f).lo + (g.j : Int))), (58, .pointer (some ⟨b4, (((r.sold f).lo + (g.j : Int) : Int).toNat) * 1, none⟩)), (59, .int .i64 ((upd (wArr b k (r.sold f) g.j) ((r.sold f).lo + (g.j : Int)).toNat (wsum b (wf (wayTo b (k : Int) b.rolls.length)) (((r.sold f).lo + (g.j : Int)) * r.price) q.j)) (((r.sold f).lo + (g.j : Int) : Int).toNat))), (60, .slice (some ⟨bw8, 0, none⟩) 60001 60001), (61, .int .i64 ((b.count + (-b.err + (q.j : Int))) - (((r.sold f).lo + (g.j : Int)) * r.price))), (62, .pointer (some ⟨bw8, (((b.count + (-b.err + (q.j : Int))) - (((r.sold f).lo + (g.j : Int)) * r.price) : Int).toNat) * 1, none⟩)), (63, .int .i64 ((wf (wayTo b (k : Int) b.rolls.length)) (((b.count + (-b.err + (q.j : Int))) - (((r.sold f).lo + (g.j : Int)) * r.price) : Int).toNat))), (55, .bool ((decide (((b.count + (-b.err + (q.j : Int))) - (((r.sold f).lo + (g.j : Int)) * r.price) : Int) ≥ 0)) && (decide (((b.count + (-b.err + (q.j : Int))) - (((r.sold f).lo + (g.j : Int)) * r.price) : Int) < 60001)))), (10, .int .i64 ((b.count + (-b.err + (q.j : Int))) - (((r.sold f).lo + (g.j : Int)) * r.price))), (9, .int .i64 (-b.err + (q.j : Int))), (8, .int .i64 ((r.sold f).lo + (g.j : Int))), (7, .pointer (some ⟨b11, 0, none⟩)), (6, .slice (some ⟨bw8, 0, none⟩) 60001 60001), (5, .slice (some ⟨b4, 0, none⟩) 301 301), (4, .slice none 0 0), (2, .pointer (some ⟨b2, 0, none⟩)), (1, .int .i64 (k : Int))] [(b11, some (.cells ⟨(spL (r.sold f))⟩ 35 (0, 0))), (bw8, ow8), (b4, o34), (b2, some (.cells ⟨(bxL b A n cp A2 n2 c2)⟩ 25 (0, 0)))] [] w _ _ := hs61; clear hs61
       refine wpListIn_nil ?_
       have hs63 := hs62.keep [12, 13, 14, 15, 16, 17, 18, 19] [_, _, _, _, _, _, _, _] rfl; clear hs62
       have hO35 : Sx.Own intL1 1 3 _ _ (arrN 301 (upd (wArr b k (r.sold f) g.j) ((r.sold f).lo + (g.j : Int)).toNat (wsum b (wf (wayTo b (k : Int) b.rolls.length)) (((r.sold f).lo + (g.j : Int)) * r.price) (q.j + 1)))) b4 o34 := own_eq hO34 (by rw [upd_upd, hat, hst])
       refine in_norm ?_
       refine th_norm (hK22 _ _ ?_)
       refine cd_region1 ?_
       refine sq rfl (st_move hs63 (Ev.t 0 rfl) rfl rfl fun _ _ hs64 => ?_); clear hs63
       refine sq rfl (st_add (z := (-b.err + (q.j : Int)) + 1) hs64 (Ev.t 0 rfl) (.const _) rfl rfl rfl (by omega) fun _ _ hs65 => ?_); clear hs64
       have hs66 := hs65.keep [0, 1, 3, 4, 5, 6, 7, 8, 9] [_, _, _, _, _, _, _, _, _] rfl; clear hs65
       refine sq rfl (st_assign hs66 (Ev.t 0 rfl) rfl rfl fun _ _ hs67 => ?_); clear hs66
       refine wpListIn_nil ?_
       have hs68 := hs67.keep [0, 3, 4, 5, 6, 7, 8, 9] [_, _, _, _, _, _, _, _] rfl; clear hs67
       refine ⟨(InG.mk (q.j + 1) o34 []), ⟨?_, ?_, ?_⟩, by (show (2 * b.err + 1).toNat - (q.j + 1) < (2 * b.err + 1).toNat - q.j; omega)⟩
       · show ((q.j + 1 : Nat) : Int) ≤ 2 * b.err + 1; omega
       · exact hO35
       exact Sx.keepE [0, 1, 2, 3, 4, 5, 6, 7] _ ⟨⟨_, rfl, by rw [show -b.err + (q.j : Int) + 1 = -b.err + ((q.j + 1 : Nat) : Int) by omega]⟩, ⟨_, rfl, rfl⟩, ⟨_, rfl, rfl⟩, ⟨_, rfl, rfl⟩, ⟨_, rfl, rfl⟩, ⟨_, rfl, rfl⟩, ⟨_, rfl, rfl⟩, ⟨_, rfl, rfl⟩, trivial⟩ hs68
     · have hcd : ¬ (0 ≤ b.count + (-b.err + (q.j : Int)) - ((r.sold f).lo + (g.j : Int)) * r.price ∧ b.count + (-b.err + (q.j : Int)) - ((r.sold f).lo + (g.j : Int)) * r.price < 60001) := by have h9 := hc33; simp only [Bool.and_eq_false_iff, decide_eq_false_iff_not, ge_iff_le] at h9; omega
       have hst : (wsum b (wf (wayTo b (k : Int) b.rolls.length)) (((r.sold f).lo + (g.j : Int)) * r.price) (q.j + 1)) = (wsum b (wf (wayTo b (k : Int) b.rolls.length)) (((r.sold f).lo + (g.j : Int)) * r.price) q.j) := by rw [wsum, if_neg hcd]
       have hO36 : Sx.Own intL1 1 3 _ _ (arrN 301 (upd (wArr b k (r.sold f) g.j) ((r.sold f).lo + (g.j : Int)).toNat (wsum b (wf (wayTo b (k : Int) b.rolls.length)) (((r.sold f).lo + (g.j : Int)) * r.price) (q.j + 1)))) b4 q.o := own_eq hin (by rw [hst])
       refine cd_skip ?_
       refine in_norm ?_
       refine th_norm (hK22 _ _ ?_)
       refine cd_region1 ?_
       refine sq rfl (st_move hs56 (Ev.t 2 rfl) rfl rfl fun _ _ hs57 => ?_); clear hs56
       refine sq rfl (st_add (z := (-b.err + (q.j : Int)) + 1) hs57 (Ev.t 0 rfl) (.const _) rfl rfl rfl (by omega) fun _ _ hs58 => ?_); clear hs57
       have hs59 := hs58.keep [0, 1, 2, 3, 5, 6, 7, 8, 9, 10, 11] [_, _, _, _, _, _, _, _, _, _, _] rfl; clear hs58
       refine sq rfl (st_assign hs59 (Ev.t 0 rfl) rfl rfl fun _ _ hs60 => ?_); clear hs59
       refine wpListIn_nil ?_
       have hs61 := hs60.keep [0, 5, 6, 7, 8, 9, 10, 11] [_, _, _, _, _, _, _, _] rfl; clear hs60
       refine ⟨(InG.mk (q.j + 1) q.o []), ⟨?_, ?_, ?_⟩, by (show (2 * b.err + 1).toNat - (q.j + 1) < (2 * b.err + 1).toNat - q.j; omega)⟩
       · show ((q.j + 1 : Nat) : Int) ≤ 2 * b.err + 1; omega
       · exact hO36
       exact Sx.keepE [0, 1, 2, 3, 4, 5, 6, 7] _ ⟨⟨_, rfl, by rw [show -b.err + (q.j : Int) + 1 = -b.err + ((q.j + 1 : Nat) : Int) by omega]⟩, ⟨_, rfl, rfl⟩, ⟨_, rfl, rfl⟩, ⟨_, rfl, rfl⟩, ⟨_, rfl, rfl⟩, ⟨_, rfl, rfl⟩, ⟨_, rfl, rfl⟩, ⟨_, rfl, rfl⟩, trivial⟩ hs61
   · have hue : q.j = (2 * b.err + 1).toNat := by have h9 := of_decide_eq_false hc21; omega
     have hO37 : Sx.Own intL1 1 3 _ _ (arrN 301 (wArr b k (r.sold f) (g.j + 1))) b4 q.o := own_eq hin (by rw [hue, wsum_eq (lst_in hL (by omega)), ← with_cw hO hr hsk hgm, wArr_end hsp.1])
     refine cd_exit ?_
     refine th_exit ?_
     refine th_exit ?_
     refine in_hit ?_
     refine in_norm ?_
     refine th_norm (hK17 _ _ ?_)
     refine cd_region1 ?_
     refine sq rfl (st_move hs43 (Ev.t 2 rfl) rfl rfl fun _ _ hs44 => ?_); clear hs43
     refine sq rfl (st_add (z := ((r.sold f).lo + (g.j : Int)) + 1) hs44 (Ev.t 0 rfl) (.const _) rfl rfl rfl (by omega) fun _ _ hs45 => ?_); clear hs44
     have hs46 := hs45.keep [0, 1, 2, 3, 5, 6, 7, 8, 9, 10] [_, _, _, _, _, _, _, _, _, _] rfl; clear hs45
     refine sq rfl (st_assign hs46 (Ev.t 0 rfl) rfl rfl fun _ _ hs47 => ?_); clear hs46
     refine wpListIn_nil ?_
     have hs48 := hs47.keep [0, 5, 6, 7, 8, 9, 10] [_, _, _, _, _, _, _] rfl; clear hs47
     refine ⟨(InG.mk (g.j + 1) q.o []), ⟨?_, ?_, ?_⟩, by (show (r.sold f).len - (g.j + 1) < (r.sold f).len - g.j; omega)⟩
     · exact hgj
     · exact hO37
     exact Sx.keepE [0, 1, 2, 3, 4, 5, 6] _ ⟨⟨_, rfl, by rw [show ((r.sold f).lo + (g.j : Int)) + 1 = (r.sold f).lo + ((g.j + 1 : Nat) : Int) by omega]⟩, ⟨_, rfl, rfl⟩, ⟨_, rfl, rfl⟩, ⟨_, rfl, rfl⟩, ⟨_, rfl, rfl⟩, ⟨_, rfl, rfl⟩, ⟨_, rfl, rfl⟩, trivial⟩ hs48
 · have hgo := of_decide_eq_false hc16
   refine cd_exit ?_
   refine th_exit ?_
   refine th_exit ?_
   refine in_hit ?_
   refine th_norm (hK12 _ _ ?_)
   refine cd_region fun K38 hK38 => ?_
   refine sq rfl (st_move hs31 (Ev.t 4 rfl) rfl rfl fun _ _ hs32 => ?_); clear hs31
   have hs33 := hs32.keep [0, 1, 2, 3, 4, 5, 7, 8] [_, _, _, _, _, _, _, _] rfl; clear hs32
   refine sq rfl (st_assign hs33 (Ev.t 0 rfl) rfl rfl fun _ _ hs34 => ?_); clear hs33
   refine hK38 _ _ ?_; clear hK38
   have hs35 := hs34.keep [0] [_] rfl; clear hs34
   have hfin : (arrN 301 (wArr b k (r.sold f) g.j)) = (arrN 301 (wAll b k)) := wArr_all hsk (by omega) (by unfold Sp.len at hj; omega)
   exact cd_ret (vs := [.slice (some ⟨b4, 0, none⟩) 301 301]) (bs := [(b4, g.o)]) hs35 hQ0 rfl ⟨.tmp 0 rfl, trivial⟩ (.cons _ (.cons _ (.cons_cons _ (List.nil_sublist _)))) ⟨b4, g.o, rfl, own_eq hown hfin, rfl⟩
end Go.Proofs.YtcnndpedeofbmaaDoor
