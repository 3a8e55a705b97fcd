/- The reference of the till: Sold, Can, Ask. -/
import Derived.Test.YtcnndpedeofbmaaDoorRd
import Derived.Test.YtcnndpedeofbmaaDoorUg
set_option maxRecDepth 100000
namespace Go.Proofs.YtcnndpedeofbmaaDoor
open Go Go.Sx Go.Till Go.Proofs.Tryd
/-- What is asked of a roll that is one. -/
theorem roll_at {b : Bx} {k : Int} (h : b.asked (isRoll b k) = 0) : b.ok = true ∧ b.many ≠ 0 ∧ ∃ (q : Nat) (r : Roll) (f : Sp), k = (q : Int) ∧ b.rolls[q]? = some r ∧ b.free[q]? = some f := by
  obtain ⟨hok, hrt, hm0⟩ := asked_zero.1 h
  have hr := Till.within_iff.1 hrt
  have hO := ok_iff.1 hok
  have hl := hO.len
  exact ⟨hok, hm0, k.toNat, _, _, by omega, List.getElem?_eq_getElem (by omega), List.getElem?_eq_getElem (by omega)⟩

theorem rSold_yes (b : Bx) (A : Option Addr) (n cp : Nat) (A2 : Option Addr) (n2 c2 : Nat) (k : Nat) (r : Roll) (hr : b.rolls[k]? = some r) (f : Sp) (hfk : b.free[k]? = some f) (hok : b.ok = true) (hm0 : b.many ≠ 0) (w : World) (hP : RollsAt w A n b.rolls) (hn : n ≤ 140737488351232) (hF : SpsAt w A2 n2 b.free) (hn2 : n2 ≤ 140737488351232) :
    CallsV Tryd.prog 34 [.agg ⟨(bxL b A n cp A2 n2 c2)⟩, .int .i64 (k : Int)] w (.tuple ⟨[.agg ⟨[.int .i64 ((b.soldR (k : Int)).1.lo), .int .i64 ((b.soldR (k : Int)).1.hi)]⟩, .int .i64 ((b.soldR (k : Int)).2)]⟩) := by
 have hO := ok_iff.1 hok
 have hl1 := hP.len; have hl2 := hF.len; have hn14 := hO.n; have hlen := hO.len
 have hkl := (List.getElem?_eq_some_iff.1 hr).1
 have hrt : isRoll b (k : Int) = true := by unfold isRoll; rw [Till.within_iff]; omega
 have hask : b.asked (isRoll b (k : Int)) = 0 := asked_zero.2 ⟨hok, hrt, hm0⟩
 have hsk := sold_at hr hfk
 have hsp := hO.wf.sp _ _ hsk
 refine enter (N := 42) (M := []) w func34 rfl rfl rfl (fun Q0 a_0 hQ0 hN0 hs0 => ?_)
 refine cd_region fun K1 hK1 => ?_
 refine sq rfl (st_box hs0 (Ev.t 0 rfl) rfl rfl rfl fun b2 _ _ hs1 => ?_); clear hs0
 refine sq rfl (st_alloc hs1 rfl rfl zeroValue35 rfl fun b3 _ _ hs2 => ?_); clear hs1
 refine sq rfl (st_assign hs2 (.const _) rfl rfl fun _ _ hs3 => ?_); clear hs2
 refine hK1 _ _ ?_; clear hK1
 have hs4 := hs3.keep [0, 1, 2, 4] [_, _, _, _] rfl; clear hs3
 refine cd_seq fun K4 hK4 => ?_
 refine cd_drawn mixed hs4 [⟨10, [], Is (.agg ⟨(bxL b A n cp A2 n2 c2)⟩)⟩, ⟨11, [], Is (.agg ⟨(bxL b A n cp A2 n2 c2)⟩)⟩, ⟨12, [], Is (.int .i64 (k : Int))⟩, ⟨13, [1, 2], Is (.bool (isRoll b (k : Int)))⟩] (by kernel_rfl) (by kernel_rfl) fun K5 hK5 => ⟨⟨?_, ?_, ?_, ?_, trivial⟩, ?_⟩
 · rintro T_ B_ a_ w_ K_ hT hB hf hsD hk
   exact ob rfl rfl (st_loadA (o := 0) (off := 0) (vs := (bxL b A n cp A2 n2 c2)) hsD (evT hT 2 rfl) rfl hf isAgg25 sizeOf25 (hsD.cellsM (inB hB 1 rfl)) rfl fun _ _ => hk _ _ _ _ ⟨rfl, rfl⟩)
 · rintro T_ B_ a_ w_ K_ hT hB hf hsD hk
   exact ob rfl rfl (st_loadA (o := 0) (off := 0) (vs := (bxL b A n cp A2 n2 c2)) hsD (evT hT 2 rfl) rfl hf isAgg25 sizeOf25 (hsD.cellsM (inB hB 1 rfl)) rfl fun _ _ => hk _ _ _ _ ⟨rfl, rfl⟩)
 · rintro T_ B_ a_ w_ K_ hT hB hf hsD hk
   exact ob rfl rfl (st_move hsD (evT hT 3 rfl) rfl hf fun _ _ => hk _ _ _ _ ⟨rfl, rfl⟩)
 · rintro T_ B_ a_ w_ K_ hT hB _ _ ⟨rfl, rfl⟩ h11 - _ _ ⟨rfl, rfl⟩ h12 - hf hsD hk
   exact ob rfl rfl (st_callv (vs := [.agg ⟨(bxL b A n cp A2 n2 c2)⟩, .int .i64 (k : Int)]) hsD (.func _) ⟨(Ev.tmp h11), (Ev.tmp h12), trivial⟩ rfl hf call66 rfl (risRoll_v b A n cp A2 n2 c2 (k : Int) _ hn hP.len) fun _ _ => hk _ _ _ _ ⟨rfl, rfl⟩)
 rintro _ _ ⟨rfl, rfl⟩ _ _ ⟨rfl, rfl⟩ _ _ ⟨rfl, rfl⟩ _ _ ⟨rfl, rfl⟩ a_5 w_5 hs5; clear hs4
 have hs6 := Sx.as (T' := [_, _, _, _, _, _, _, _]) (B' := [_, _]) rfl rfl hs5; clear hs5
 refine sq rfl (st_callv (vs := [.agg ⟨(bxL b A n cp A2 n2 c2)⟩, .bool (isRoll b (k : Int))]) hs6 (.func _) ⟨(Ev.t 0 rfl), (Ev.t 3 rfl), trivial⟩ rfl rfl call65 rfl (callsV_eq (v' := .int .i64 0) (rasked_v b A n cp A2 n2 c2 (isRoll b (k : Int)) _ (hP.kp hs6.kp) hn (hF.kp hs6.kp) hn2) (by rw [hask])) fun _ _ hs7 => ?_); clear hs6
 refine sq rfl (st_assign hs7 (Ev.t 0 rfl) rfl rfl fun _ _ hs8 => ?_); clear hs7
 refine hK5 _ _ ?_; clear hK5
 have hs9 := hs8.keep [0, 6, 7, 8, 9] [_, _, _, _, _] rfl; clear hs8
 refine cd_region fun K6 hK6 => ?_
 refine sq rfl (st_move hs9 (Ev.t 0 rfl) rfl rfl fun _ _ hs10 => ?_); clear hs9
 refine sq rfl (st_cmp (c := false) hs10 (Ev.t 0 rfl) (.const _) rfl rfl rfl rfl fun _ _ hs11 => ?_); clear hs10
 refine hK6 _ _ ?_; clear hK6
 have hs12 := hs11.keep [0, 2, 3, 4, 5, 6] [_, _, _, _, _, _] rfl; clear hs11
 have hc7 : false = false := rfl
 refine cd_cond hs12 (Ev.t 0 rfl) (fun h => absurd (hc7.symm.trans h) (by decide)) (fun _ => ?_)
 refine cd_skip ?_
 refine th_norm (hK4 _ _ ?_)
 refine cd_region fun K8 hK8 => ?_
 refine sq rfl (st_callv (vs := [.int .i64 (-1), .int .i64 (-1)]) hs12 (.func _) ⟨(.const _), (.const _), trivial⟩ rfl rfl call23 rfl (S_v (-1) (-1) _) fun _ _ hs13 => ?_); clear hs12
 refine sq rfl (st_alloc hs13 rfl rfl zeroValue35 rfl fun b9 _ _ hs14 => ?_); clear hs13
 refine sq rfl (st_store (l' := [.int .i64 (-1), .int .i64 (-1)]) (vs := [.int .i64 (-1), .int .i64 (-1)]) (i := 0) hs14 (Ev.t 0 rfl) (Ev.t 1 rfl) sizeOf35 rfl rfl rfl rfl rfl rfl fun _ _ hs15 => ?_); clear hs14
 have hs16 := hs15.asB [_, _, _] rfl; clear hs15
 refine hK8 _ _ ?_; clear hK8
 have hs17 := hs16.keep [0, 4, 5, 6, 7] [_, _, _, _, _] rfl; clear hs16
 refine cd_region fun K10 hK10 => ?_
 refine sq rfl (st_loadA (o := 0) (off := 0) (vs := (bxL b A n cp A2 n2 c2)) hs17 (Ev.t 3 rfl) rfl rfl isAgg25 sizeOf25 (hs17.cells 2 rfl) rfl fun _ _ hs18 => ?_); clear hs17
 refine sq rfl (st_move hs18 (Ev.t 5 rfl) rfl rfl fun _ _ hs19 => ?_); clear hs18
 refine sq rfl (st_call (vs := [.agg ⟨(bxL b A n cp A2 n2 c2)⟩, .int .i64 (k : Int)]) hs19 (.func _) ⟨(Ev.t 1 rfl), (Ev.t 0 rfl), trivial⟩ rfl rfl call67 rfl (rwith_b b A n cp A2 n2 c2 k r hr f hfk _ (hP.kp hs19.kp) hn (hF.kp hs19.kp) hn2 hO) fun v11 bs12 a_20 w_20 hp20 hs20 => ?_); clear hs19
 obtain ⟨bw8, ow8, rfl, hOw8, rfl⟩ := hp20
 have hs21 := Sx.as (T' := [_, _, _, _, _, _, _, _]) (B' := [_, _, _, _]) rfl rfl hs20; clear hs20
 refine sq rfl (st_assign hs21 (Ev.t 0 rfl) rfl rfl fun _ _ hs22 => ?_); clear hs21
 refine hK10 _ _ ?_; clear hK10
 have hs23 := hs22.keep [0, 4, 5, 6] [_, _, _, _] rfl; clear hs22
 refine cd_seq fun K13 hK13 => ?_
 refine cd_region fun K14 hK14 => ?_
 refine sq rfl (st_assign hs23 (.const _) rfl rfl fun _ _ hs24 => ?_); clear hs23
 refine hK14 _ _ ?_; clear hK14
 refine cd_block ?_
 have hs25 : Sx 42 [] [(9, .int .i64 (0 : Int)), (8, .slice (some ⟨bw8, 0, none⟩) 301 301), (7, .pointer (some ⟨b9, 0, none⟩)), (5, .int .i64 0), (4, .pointer (some ⟨b3, 0, none⟩))] [(bw8, ow8), (b9, some (.cells ⟨[.int .i64 ((rS (wAll b k) 0).lo), .int .i64 ((rS (wAll b k) 0).hi)]⟩ 35 (0, 0))), (b3, some (.cells ⟨[.int .i64 0, .int .i64 0]⟩ 35 (0, 0))), (b2, some (.cells ⟨(bxL b A n cp A2 n2 c2)⟩ 25 (0, 0)))] [] w _ _ := Sx.keepE [0, 1, 2, 3, 4] _ ⟨⟨_, rfl, rfl⟩, ⟨_, rfl, rfl⟩, ⟨_, rfl, rfl⟩, ⟨_, rfl, rfl⟩, ⟨_, rfl, rfl⟩, trivial⟩ hs24; clear hs24
 refine cd_loop (X := Nat) (fun g a_ w_ => (g ≤ 301) ∧ Sx 42 [] [(9, .int .i64 (g : Int)), (8, .slice (some ⟨bw8, 0, none⟩) 301 301), (7, .pointer (some ⟨b9, 0, none⟩)), (5, .int .i64 0), (4, .pointer (some ⟨b3, 0, none⟩))] [(bw8, ow8), (b9, some (.cells ⟨[.int .i64 ((rS (wAll b k) g).lo), .int .i64 ((rS (wAll b k) g).hi)]⟩ 35 (0, 0))), (b3, some (.cells ⟨[.int .i64 0, .int .i64 0]⟩ 35 (0, 0))), (b2, some (.cells ⟨(bxL b A n cp A2 n2 c2)⟩ 25 (0, 0)))] [] w a_ w_) (fun g => 301 - g) (0) ⟨?_, hs25⟩ ?_
 · exact Nat.zero_le _
 intro g a_26 w_26 ⟨hj, hs26⟩; clear hs25
 refine cd_seq fun K15 hK15 => ?_
 refine cd_region fun K16 hK16 => ?_
 refine sq rfl (st_move hs26 (Ev.t 0 rfl) rfl rfl fun _ _ hs27 => ?_); clear hs26
 refine sq rfl (st_move hs27 (Ev.t 2 rfl) rfl rfl fun _ _ hs28 => ?_); clear hs27
 refine sq rfl (st_len hs28 (Ev.t 0 rfl) rfl rfl runUnderlying33 fun _ _ hs29 => ?_); clear hs28
 refine sq rfl (st_cmp (c := decide (((g : Int) : Int) < 301)) hs29 (Ev.t 2 rfl) (Ev.t 0 rfl) rfl rfl rfl rfl fun _ _ hs30 => ?_); clear hs29
 refine hK16 _ _ ?_; clear hK16
 have hs31 := hs30.keep [0, 4, 5, 6, 7, 8] [_, _, _, _, _, _] rfl; clear hs30
 refine cd_cond hs31 (Ev.t 0 rfl) (fun hc17 => ?_) (fun hc17 => ?_)
 · have hgn : g < 301 := by simp at hc17; omega
   refine cd_skip ?_
   refine th_norm (hK15 _ _ ?_)
   refine cd_seq fun K18 hK18 => ?_
   refine cd_block ?_
   refine cd_region fun K19 hK19 => ?_
   refine sq rfl (st_move hs31 (Ev.t 2 rfl) rfl rfl fun _ _ hs32 => ?_); clear hs31
   refine sq rfl (st_move hs32 (Ev.t 2 rfl) rfl rfl fun _ _ hs33 => ?_); clear hs32
   refine sq rfl (st_indexSl (o' := g * 1) hs33 (Ev.t 1 rfl) (Ev.t 0 rfl) rfl rfl runUnderlying33 sizeOf3 ⟨by omega, by omega⟩ (by simp) fun _ _ hs34 => ?_); clear hs33
   refine sq rfl (st_load1 (o := (g * 1)) (off := 0) (v := .int .i64 ((wAll b k) g)) hs34 (Ev.t 0 rfl) rfl rfl isAgg3 (own_cellM hs34 hOw8 (mem_nth (i := 0) rfl) (arr_at (by omega))) rfl fun _ _ hs35 => ?_); clear hs34
   refine sq rfl (st_cmp (c := decide (((wAll b k) g : Int) > 0)) hs35 (Ev.t 0 rfl) (.const _) rfl rfl rfl rfl fun _ _ hs36 => ?_); clear hs35
   refine hK19 _ _ ?_; clear hK19
   have hs37 := hs36.keep [0, 6, 7, 8, 9, 10] [_, _, _, _, _, _] rfl; clear hs36
   refine cd_cond hs37 (Ev.t 0 rfl) (fun hc20 => ?_) (fun hc20 => ?_)
   · have hq : 0 < wAll b k g := of_decide_eq_true hc20
     refine cd_seq fun K21 hK21 => ?_
     refine cd_region fun K22 hK22 => ?_
     refine sq rfl (st_field (o' := 0) hs37 (Ev.t 3 rfl) rfl rfl runUnderlying35 rfl sizeOf3 rfl rfl fun _ _ hs38 => ?_); clear hs37
     refine sq rfl (st_load1 (o := 0) (off := 0) (v := .int .i64 ((rS (wAll b k) g).lo)) hs38 (Ev.t 0 rfl) rfl rfl isAgg3 (hs38.cells 1 rfl) rfl fun _ _ hs39 => ?_); clear hs38
     refine sq rfl (st_cmp (c := decide (((rS (wAll b k) g).lo : Int) < 0)) hs39 (Ev.t 0 rfl) (.const _) rfl rfl rfl rfl fun _ _ hs40 => ?_); clear hs39
     refine hK22 _ _ ?_; clear hK22
     have hs41 := hs40.keep [0, 4, 5, 6, 7, 8] [_, _, _, _, _, _] rfl; clear hs40
     refine cd_cond hs41 (Ev.t 0 rfl) (fun hc23 => ?_) (fun hc23 => ?_)
     · have hlo := of_decide_eq_true hc23
       refine cd_region1 ?_
       refine sq rfl (st_move hs41 (Ev.t 1 rfl) rfl rfl fun _ _ hs42 => ?_); clear hs41
       refine sq rfl (st_field (o' := 0) hs42 (Ev.t 4 rfl) rfl rfl runUnderlying35 rfl sizeOf3 rfl rfl fun _ _ hs43 => ?_); clear hs42
       refine sq rfl (st_store (l' := [.int .i64 (g : Int), .int .i64 ((rS (wAll b k) g).hi)]) (vs := [.int .i64 (g : Int)]) (i := 1) hs43 (Ev.t 0 rfl) (Ev.t 1 rfl) sizeOf3 rfl rfl rfl rfl rfl rfl fun _ _ hs44 => ?_); clear hs43
       have hs45 := hs44.asB [_, _, _, _] rfl; clear hs44
       refine wpListIn_nil ?_
       have hs46 := hs45.keep [3, 4, 5, 6, 7] [_, _, _, _, _] rfl; clear hs45
       refine th_norm (hK21 _ _ ?_)
       refine cd_region1 ?_
       refine sq rfl (st_move hs46 (Ev.t 0 rfl) rfl rfl fun _ _ hs47 => ?_); clear hs46
       refine sq rfl (st_field (o' := 1) hs47 (Ev.t 3 rfl) rfl rfl runUnderlying35 rfl sizeOf3 rfl rfl fun _ _ hs48 => ?_); clear hs47
       refine sq rfl (st_store (l' := [.int .i64 (g : Int), .int .i64 (g : Int)]) (vs := [.int .i64 (g : Int)]) (i := 1) hs48 (Ev.t 0 rfl) (Ev.t 1 rfl) sizeOf3 rfl rfl rfl rfl rfl rfl fun _ _ hs49 => ?_); clear hs48
       have hs50 := hs49.asB [_, _, _, _] rfl; clear hs49
       refine wpListIn_nil ?_
       have hs51 := hs50.keep [2, 3, 4, 5, 6] [_, _, _, _, _] rfl; clear hs50
       refine in_norm ?_
       refine th_norm (hK18 _ _ ?_)
       refine cd_region1 ?_
       refine sq rfl (st_move hs51 (Ev.t 0 rfl) rfl rfl fun _ _ hs52 => ?_); clear hs51
       refine sq rfl (st_add (z := (g : Int) + 1) hs52 (Ev.t 0 rfl) (.const _) rfl rfl rfl (by omega) fun _ _ hs53 => ?_); clear hs52
       have hs54 := hs53.keep [0, 1, 3, 4, 5, 6] [_, _, _, _, _, _] rfl; clear hs53
       refine sq rfl (st_assign hs54 (Ev.t 0 rfl) rfl rfl fun _ _ hs55 => ?_); clear hs54
       refine wpListIn_nil ?_
       have hs56 := hs55.keep [0, 3, 4, 5, 6] [_, _, _, _, _] rfl; clear hs55
       refine ⟨g + 1, ⟨?_, ?_⟩, by (show 301 - (g + 1) < 301 - g; omega)⟩
       · exact hgn
       have hs57 := hs56.asB [(bw8, ow8), (b9, some (.cells ⟨[.int .i64 ((rS (wAll b k) (g + 1)).lo), .int .i64 ((rS (wAll b k) (g + 1)).hi)]⟩ 35 (0, 0))), (b3, some (.cells ⟨[.int .i64 0, .int .i64 0]⟩ 35 (0, 0))), (b2, some (.cells ⟨(bxL b A n cp A2 n2 c2)⟩ 25 (0, 0)))] (by (rw [rS, if_pos hq, if_pos hlo]) <;> rfl); clear hs56
       exact Sx.keepE [0, 1, 2, 3, 4] _ ⟨⟨_, rfl, rfl⟩, ⟨_, rfl, rfl⟩, ⟨_, rfl, rfl⟩, ⟨_, rfl, rfl⟩, ⟨_, rfl, rfl⟩, trivial⟩ hs57
     · have hlo := of_decide_eq_false hc23
       refine cd_skip ?_
       refine th_norm (hK21 _ _ ?_)
       refine cd_region1 ?_
       refine sq rfl (st_move hs41 (Ev.t 1 rfl) rfl rfl fun _ _ hs42 => ?_); clear hs41
       refine sq rfl (st_field (o' := 1) hs42 (Ev.t 4 rfl) rfl rfl runUnderlying35 rfl sizeOf3 rfl rfl fun _ _ hs43 => ?_); clear hs42
       refine sq rfl (st_store (l' := [.int .i64 ((rS (wAll b k) g).lo), .int .i64 (g : Int)]) (vs := [.int .i64 (g : Int)]) (i := 1) hs43 (Ev.t 0 rfl) (Ev.t 1 rfl) sizeOf3 rfl rfl rfl rfl rfl rfl fun _ _ hs44 => ?_); clear hs43
       have hs45 := hs44.asB [_, _, _, _] rfl; clear hs44
       refine wpListIn_nil ?_
       have hs46 := hs45.keep [3, 4, 5, 6, 7] [_, _, _, _, _] rfl; clear hs45
       refine in_norm ?_
       refine th_norm (hK18 _ _ ?_)
       refine cd_region1 ?_
       refine sq rfl (st_move hs46 (Ev.t 0 rfl) rfl rfl fun _ _ hs47 => ?_); clear hs46
       refine sq rfl (st_add (z := (g : Int) + 1) hs47 (Ev.t 0 rfl) (.const _) rfl rfl rfl (by omega) fun _ _ hs48 => ?_); clear hs47
       have hs49 := hs48.keep [0, 1, 3, 4, 5, 6] [_, _, _, _, _, _] rfl; clear hs48
       refine sq rfl (st_assign hs49 (Ev.t 0 rfl) rfl rfl fun _ _ hs50 => ?_); clear hs49
       refine wpListIn_nil ?_
       have hs51 := hs50.keep [0, 3, 4, 5, 6] [_, _, _, _, _] rfl; clear hs50
       refine ⟨g + 1, ⟨?_, ?_⟩, by (show 301 - (g + 1) < 301 - g; omega)⟩
       · exact hgn
       have hs52 := hs51.asB [(bw8, ow8), (b9, some (.cells ⟨[.int .i64 ((rS (wAll b k) (g + 1)).lo), .int .i64 ((rS (wAll b k) (g + 1)).hi)]⟩ 35 (0, 0))), (b3, some (.cells ⟨[.int .i64 0, .int .i64 0]⟩ 35 (0, 0))), (b2, some (.cells ⟨(bxL b A n cp A2 n2 c2)⟩ 25 (0, 0)))] (by (rw [rS, if_pos hq, if_neg hlo]) <;> rfl); clear hs51
       exact Sx.keepE [0, 1, 2, 3, 4] _ ⟨⟨_, rfl, rfl⟩, ⟨_, rfl, rfl⟩, ⟨_, rfl, rfl⟩, ⟨_, rfl, rfl⟩, ⟨_, rfl, rfl⟩, trivial⟩ hs52
   · have hq : ¬ 0 < wAll b k g := of_decide_eq_false hc20
     refine cd_skip ?_
     refine in_norm ?_
     refine th_norm (hK18 _ _ ?_)
     refine cd_region1 ?_
     refine sq rfl (st_move hs37 (Ev.t 1 rfl) rfl rfl fun _ _ hs38 => ?_); clear hs37
     refine sq rfl (st_add (z := (g : Int) + 1) hs38 (Ev.t 0 rfl) (.const _) rfl rfl rfl (by omega) fun _ _ hs39 => ?_); clear hs38
     have hs40 := hs39.keep [0, 1, 2, 4, 5, 6, 7] [_, _, _, _, _, _, _] rfl; clear hs39
     refine sq rfl (st_assign hs40 (Ev.t 0 rfl) rfl rfl fun _ _ hs41 => ?_); clear hs40
     refine wpListIn_nil ?_
     have hs42 := hs41.keep [0, 4, 5, 6, 7] [_, _, _, _, _] rfl; clear hs41
     refine ⟨g + 1, ⟨?_, ?_⟩, by (show 301 - (g + 1) < 301 - g; omega)⟩
     · exact hgn
     have hs43 := hs42.asB [(bw8, ow8), (b9, some (.cells ⟨[.int .i64 ((rS (wAll b k) (g + 1)).lo), .int .i64 ((rS (wAll b k) (g + 1)).hi)]⟩ 35 (0, 0))), (b3, some (.cells ⟨[.int .i64 0, .int .i64 0]⟩ 35 (0, 0))), (b2, some (.cells ⟨(bxL b A n cp A2 n2 c2)⟩ 25 (0, 0)))] (by (rw [rS, if_neg hq]) <;> rfl); clear hs42
     exact Sx.keepE [0, 1, 2, 3, 4] _ ⟨⟨_, rfl, rfl⟩, ⟨_, rfl, rfl⟩, ⟨_, rfl, rfl⟩, ⟨_, rfl, rfl⟩, ⟨_, rfl, rfl⟩, trivial⟩ hs43
 · have hge : g = 301 := by simp at hc17; omega
   refine cd_exit ?_
   refine th_exit ?_
   refine th_exit ?_
   refine in_hit ?_
   refine th_norm (hK13 _ _ ?_)
   refine cd_region fun K24 hK24 => ?_
   refine sq rfl (st_loadA (o := 0) (off := 0) (vs := [.int .i64 ((rS (wAll b k) g).lo), .int .i64 ((rS (wAll b k) g).hi)]) hs31 (Ev.t 3 rfl) rfl rfl isAgg35 sizeOf35 (hs31.cells 1 rfl) rfl fun _ _ hs32 => ?_); clear hs31
   refine sq rfl (st_store (l' := [.int .i64 ((rS (wAll b k) g).lo), .int .i64 ((rS (wAll b k) g).hi)]) (vs := [.int .i64 ((rS (wAll b k) g).lo), .int .i64 ((rS (wAll b k) g).hi)]) (i := 2) hs32 (Ev.t 6 rfl) (Ev.t 0 rfl) sizeOf35 rfl rfl rfl rfl rfl rfl fun _ _ hs33 => ?_); clear hs32
   have hs34 := hs33.asB [_, _, _, _] rfl; clear hs33
   have hs35 := hs34.keep [0, 1, 2, 3, 4, 6] [_, _, _, _, _, _] rfl; clear hs34
   refine sq rfl (st_assign hs35 (.const _) rfl rfl fun _ _ hs36 => ?_); clear hs35
   refine hK24 _ _ ?_; clear hK24
   have hs37 := hs36.keep [0, 6] [_, _] rfl; clear hs36
   refine cd_retv (vs := [.agg ⟨[.int .i64 ((rS (wAll b k) g).lo), .int .i64 ((rS (wAll b k) g).hi)]⟩, .int .i64 0]) hs37 hQ0 rfl ⟨resA (o := 0) (off := 0) (vs := [.int .i64 ((rS (wAll b k) g).lo), .int .i64 ((rS (wAll b k) g).hi)]) 1 rfl isAgg35 sizeOf35 (hs37.cells 2 rfl) rfl, .tmp 0 rfl, trivial⟩ ?_
   clear hs37 hQ0 hN0
   rw [rS_sold hok hm0 hr hsk, hge]; rfl

theorem rSold_no (b : Bx) (A : Option Addr) (n cp : Nat) (A2 : Option Addr) (n2 c2 : Nat) (k : Int) (hne : b.asked (isRoll b k) ≠ 0) (w : World) (hP : RollsAt w A n b.rolls) (hn : n ≤ 140737488351232) (hF : SpsAt w A2 n2 b.free) (hn2 : n2 ≤ 140737488351232) (_hl1 : n = b.rolls.length) :
    CallsV Tryd.prog 34 [.agg ⟨(bxL b A n cp A2 n2 c2)⟩, .int .i64 k] w (.tuple ⟨[.agg ⟨[.int .i64 ((b.soldR k).1.lo), .int .i64 ((b.soldR k).1.hi)]⟩, .int .i64 ((b.soldR k).2)]⟩) := by
 refine enter (N := 42) (M := []) w func34 rfl rfl rfl (fun Q0 a_0 hQ0 hN0 hs0 => ?_)
 refine cd_region fun K1 hK1 => ?_
 refine sq rfl (st_box hs0 (Ev.t 0 rfl) rfl rfl rfl fun b2 _ _ hs1 => ?_); clear hs0
 refine sq rfl (st_alloc hs1 rfl rfl zeroValue35 rfl fun b3 _ _ hs2 => ?_); clear hs1
 refine sq rfl (st_assign hs2 (.const _) rfl rfl fun _ _ hs3 => ?_); clear hs2
 refine hK1 _ _ ?_; clear hK1
 have hs4 := hs3.keep [0, 1, 2, 4] [_, _, _, _] rfl; clear hs3
 refine cd_seq fun K4 hK4 => ?_
 refine cd_drawn mixed hs4 [⟨10, [], Is (.agg ⟨(bxL b A n cp A2 n2 c2)⟩)⟩, ⟨11, [], Is (.agg ⟨(bxL b A n cp A2 n2 c2)⟩)⟩, ⟨12, [], Is (.int .i64 k)⟩, ⟨13, [1, 2], Is (.bool (isRoll b k))⟩] (by kernel_rfl) (by kernel_rfl) fun K5 hK5 => ⟨⟨?_, ?_, ?_, ?_, trivial⟩, ?_⟩
 · rintro T_ B_ a_ w_ K_ hT hB hf hsD hk
   exact ob rfl rfl (st_loadA (o := 0) (off := 0) (vs := (bxL b A n cp A2 n2 c2)) hsD (evT hT 2 rfl) rfl hf isAgg25 sizeOf25 (hsD.cellsM (inB hB 1 rfl)) rfl fun _ _ => hk _ _ _ _ ⟨rfl, rfl⟩)
 · rintro T_ B_ a_ w_ K_ hT hB hf hsD hk
   exact ob rfl rfl (st_loadA (o := 0) (off := 0) (vs := (bxL b A n cp A2 n2 c2)) hsD (evT hT 2 rfl) rfl hf isAgg25 sizeOf25 (hsD.cellsM (inB hB 1 rfl)) rfl fun _ _ => hk _ _ _ _ ⟨rfl, rfl⟩)
 · rintro T_ B_ a_ w_ K_ hT hB hf hsD hk
   exact ob rfl rfl (st_move hsD (evT hT 3 rfl) rfl hf fun _ _ => hk _ _ _ _ ⟨rfl, rfl⟩)
 · rintro T_ B_ a_ w_ K_ hT hB _ _ ⟨rfl, rfl⟩ h11 - _ _ ⟨rfl, rfl⟩ h12 - hf hsD hk
   exact ob rfl rfl (st_callv (vs := [.agg ⟨(bxL b A n cp A2 n2 c2)⟩, .int .i64 k]) hsD (.func _) ⟨(Ev.tmp h11), (Ev.tmp h12), trivial⟩ rfl hf call66 rfl (risRoll_v b A n cp A2 n2 c2 k _ hn hP.len) fun _ _ => hk _ _ _ _ ⟨rfl, rfl⟩)
 rintro _ _ ⟨rfl, rfl⟩ _ _ ⟨rfl, rfl⟩ _ _ ⟨rfl, rfl⟩ _ _ ⟨rfl, rfl⟩ a_5 w_5 hs5; clear hs4
 have hs6 := Sx.as (T' := [_, _, _, _, _, _, _, _]) (B' := [_, _]) rfl rfl hs5; clear hs5
 refine sq rfl (st_callv (vs := [.agg ⟨(bxL b A n cp A2 n2 c2)⟩, .bool (isRoll b k)]) hs6 (.func _) ⟨(Ev.t 0 rfl), (Ev.t 3 rfl), trivial⟩ rfl rfl call65 rfl (rasked_v b A n cp A2 n2 c2 (isRoll b k) _ (hP.kp hs6.kp) hn (hF.kp hs6.kp) hn2) fun _ _ hs7 => ?_); clear hs6
 refine sq rfl (st_assign hs7 (Ev.t 0 rfl) rfl rfl fun _ _ hs8 => ?_); clear hs7
 refine hK5 _ _ ?_; clear hK5
 have hs9 := hs8.keep [0, 6, 7, 8, 9] [_, _, _, _, _] rfl; clear hs8
 refine cd_region fun K6 hK6 => ?_
 refine sq rfl (st_move hs9 (Ev.t 0 rfl) rfl rfl fun _ _ hs10 => ?_); clear hs9
 refine sq rfl (st_cmp (c := (b.asked (isRoll b k) : Int) != 0) hs10 (Ev.t 0 rfl) (.const _) rfl rfl rfl rfl fun _ _ hs11 => ?_); clear hs10
 refine hK6 _ _ ?_; clear hK6
 have hs12 := hs11.keep [0, 2, 3, 4, 5, 6] [_, _, _, _, _, _] rfl; clear hs11
 have hc7 : ((b.asked (isRoll b k) : Int) != 0) = true := by simpa using hne
 refine cd_cond hs12 (Ev.t 0 rfl) (fun _ => ?_) (fun h => absurd (hc7.symm.trans h) (by decide))
 refine cd_region fun K8 hK8 => ?_
 refine sq rfl (st_build hs12 (qs := []) (v := .agg ⟨[.int .i64 0, .int .i64 0]⟩) trivial rfl rfl rfl (fun _ => by kernel_rfl) fun _ _ hs13 => ?_); clear hs12
 refine sq rfl (st_move hs13 (Ev.t 2 rfl) rfl rfl fun _ _ hs14 => ?_); clear hs13
 refine sq rfl (st_store (l' := [.int .i64 0, .int .i64 0]) (vs := [.int .i64 0, .int .i64 0]) (i := 0) hs14 (Ev.t 5 rfl) (Ev.t 1 rfl) sizeOf35 rfl rfl rfl rfl rfl rfl fun _ _ hs15 => ?_); clear hs14
 have hs16 := hs15.asB [_, _] rfl; clear hs15
 have hs17 := hs16.keep [0, 1, 2, 3, 5, 6, 7] [_, _, _, _, _, _, _] rfl; clear hs16
 refine sq rfl (st_assign hs17 (Ev.t 0 rfl) rfl rfl fun _ _ hs18 => ?_); clear hs17
 refine hK8 _ _ ?_; clear hK8
 have hs19 := hs18.keep [0, 5] [_, _] rfl; clear hs18
 refine cd_retv (vs := [.agg ⟨[.int .i64 0, .int .i64 0]⟩, .int .i64 (b.asked (isRoll b k))]) hs19 (fun a_ w_ h => th_ret (hQ0 a_ w_ h)) rfl ⟨resA (o := 0) (off := 0) (vs := [.int .i64 0, .int .i64 0]) 1 rfl isAgg35 sizeOf35 (hs19.cells 0 rfl) rfl, .tmp 0 rfl, trivial⟩ ?_
 clear hs19 hQ0 hN0 hK4
 simp [pack, Bx.soldR, hne]

theorem rCan_yes (b : Bx) (A : Option Addr) (n cp : Nat) (A2 : Option Addr) (n2 c2 : Nat) (k : Nat) (r : Roll) (hr : b.rolls[k]? = some r) (f : Sp) (hfk : b.free[k]? = some f) (hok : b.ok = true) (hm0 : b.many ≠ 0) (x : Int) (w : World) (hP : RollsAt w A n b.rolls) (hn : n ≤ 140737488351232) (hF : SpsAt w A2 n2 b.free) (hn2 : n2 ≤ 140737488351232) :
    CallsV Tryd.prog 35 [.agg ⟨(bxL b A n cp A2 n2 c2)⟩, .int .i64 (k : Int), .int .i64 x] w (.tuple ⟨[.bool ((b.canR (k : Int) x).1), .int .i64 ((b.canR (k : Int) x).2)]⟩) := by
 have hO := ok_iff.1 hok
 have hl1 := hP.len; have hl2 := hF.len; have hn14 := hO.n; have hlen := hO.len
 have hkl := (List.getElem?_eq_some_iff.1 hr).1
 have hrt : isRoll b (k : Int) = true := by unfold isRoll; rw [Till.within_iff]; omega
 have hask : b.asked (isRoll b (k : Int)) = 0 := asked_zero.2 ⟨hok, hrt, hm0⟩
 have hsk := sold_at hr hfk
 have hsp := hO.wf.sp _ _ hsk
 refine enter (N := 28) (M := []) w func35 rfl rfl rfl (fun Q0 a_0 hQ0 hN0 hs0 => ?_)
 rcases hin : within x 0 300 with _ | _
 · skip
   refine cd_region fun K1 hK1 => ?_
   refine sq rfl (st_box hs0 (Ev.t 0 rfl) rfl rfl rfl fun b2 _ _ hs1 => ?_); clear hs0
   refine sq rfl (st_assign hs1 (.const _) rfl rfl fun _ _ hs2 => ?_); clear hs1
   refine sq rfl (st_assign hs2 (.const _) rfl rfl fun _ _ hs3 => ?_); clear hs2
   refine hK1 _ _ ?_; clear hK1
   have hs4 := hs3.keep [0, 1, 2, 4, 5] [_, _, _, _, _] rfl; clear hs3
   refine cd_seq fun K3 hK3 => ?_
   refine cd_drawn mixed hs4 [⟨9, [], Is (.agg ⟨(bxL b A n cp A2 n2 c2)⟩)⟩, ⟨10, [], Is (.agg ⟨(bxL b A n cp A2 n2 c2)⟩)⟩, ⟨11, [], Is (.int .i64 (k : Int))⟩, ⟨12, [1, 2], Is (.bool (isRoll b (k : Int)))⟩] (by kernel_rfl) (by kernel_rfl) fun K4 hK4 => ⟨⟨?_, ?_, ?_, ?_, trivial⟩, ?_⟩
   · rintro T_ B_ a_ w_ K_ hT hB hf hsD hk
     exact ob rfl rfl (st_loadA (o := 0) (off := 0) (vs := (bxL b A n cp A2 n2 c2)) hsD (evT hT 2 rfl) rfl hf isAgg25 sizeOf25 (hsD.cellsM (inB hB 0 rfl)) rfl fun _ _ => hk _ _ _ _ ⟨rfl, rfl⟩)
   · rintro T_ B_ a_ w_ K_ hT hB hf hsD hk
     exact ob rfl rfl (st_loadA (o := 0) (off := 0) (vs := (bxL b A n cp A2 n2 c2)) hsD (evT hT 2 rfl) rfl hf isAgg25 sizeOf25 (hsD.cellsM (inB hB 0 rfl)) rfl fun _ _ => hk _ _ _ _ ⟨rfl, rfl⟩)
   · rintro T_ B_ a_ w_ K_ hT hB hf hsD hk
     exact ob rfl rfl (st_move hsD (evT hT 3 rfl) rfl hf fun _ _ => hk _ _ _ _ ⟨rfl, rfl⟩)
   · rintro T_ B_ a_ w_ K_ hT hB _ _ ⟨rfl, rfl⟩ h10 - _ _ ⟨rfl, rfl⟩ h11 - hf hsD hk
     exact ob rfl rfl (st_callv (vs := [.agg ⟨(bxL b A n cp A2 n2 c2)⟩, .int .i64 (k : Int)]) hsD (.func _) ⟨(Ev.tmp h10), (Ev.tmp h11), trivial⟩ rfl hf call66 rfl (risRoll_v b A n cp A2 n2 c2 (k : Int) _ hn hP.len) fun _ _ => hk _ _ _ _ ⟨rfl, rfl⟩)
   rintro _ _ ⟨rfl, rfl⟩ _ _ ⟨rfl, rfl⟩ _ _ ⟨rfl, rfl⟩ _ _ ⟨rfl, rfl⟩ a_5 w_5 hs5; clear hs4
   have hs6 := Sx.as (T' := [_, _, _, _, _, _, _, _, _]) (B' := [_]) rfl rfl hs5; clear hs5
   refine sq rfl (st_callv (vs := [.agg ⟨(bxL b A n cp A2 n2 c2)⟩, .bool (isRoll b (k : Int))]) hs6 (.func _) ⟨(Ev.t 0 rfl), (Ev.t 3 rfl), trivial⟩ rfl rfl call65 rfl (callsV_eq (v' := .int .i64 0) (rasked_v b A n cp A2 n2 c2 (isRoll b (k : Int)) _ (hP.kp hs6.kp) hn (hF.kp hs6.kp) hn2) (by rw [hask])) fun _ _ hs7 => ?_); clear hs6
   refine sq rfl (st_assign hs7 (Ev.t 0 rfl) rfl rfl fun _ _ hs8 => ?_); clear hs7
   refine hK4 _ _ ?_; clear hK4
   have hs9 := hs8.keep [0, 6, 7, 8, 9, 10] [_, _, _, _, _, _] rfl; clear hs8
   refine cd_region fun K5 hK5 => ?_
   refine sq rfl (st_move hs9 (Ev.t 0 rfl) rfl rfl fun _ _ hs10 => ?_); clear hs9
   refine sq rfl (st_cmp (c := false) hs10 (Ev.t 0 rfl) (.const _) rfl rfl rfl rfl fun _ _ hs11 => ?_); clear hs10
   refine hK5 _ _ ?_; clear hK5
   have hs12 := hs11.keep [0, 2, 3, 4, 5, 6, 7] [_, _, _, _, _, _, _] rfl; clear hs11
   have hc6 : false = false := rfl
   refine cd_cond hs12 (Ev.t 0 rfl) (fun h => absurd (hc6.symm.trans h) (by decide)) (fun _ => ?_)
   refine cd_skip ?_
   refine th_norm (hK3 _ _ ?_)
   refine cd_region fun K7 hK7 => ?_
   refine sq rfl (st_move hs12 (Ev.t 6 rfl) rfl rfl fun _ _ hs13 => ?_); clear hs12
   refine sq rfl (st_callv (vs := [.int .i64 x, .int .i64 0, .int .i64 300]) hs13 (.func _) ⟨(Ev.t 0 rfl), (.const _), (.const _), trivial⟩ rfl rfl call16 rfl (callsV_eq (v' := .bool false) (amid_v x 0 300 _) (by rw [hin])) fun _ _ hs14 => ?_); clear hs13
   refine sq rfl (st_move hs14 (Ev.t 0 rfl) rfl rfl fun _ _ hs15 => ?_); clear hs14
   refine sq_off hs15 rfl rfl 0 rfl rfl rfl rfl rfl fun _ _ hs16 => ?_; clear hs15
   refine sq_off hs16 rfl rfl 1 rfl rfl rfl rfl rfl fun _ _ hs17 => ?_; clear hs16
   refine sq_off hs17 rfl rfl 2 rfl rfl rfl rfl rfl fun _ _ hs18 => ?_; clear hs17
   refine sq_off hs18 rfl rfl 3 rfl rfl rfl rfl rfl fun _ _ hs19 => ?_; clear hs18
   refine sq_off hs19 rfl rfl 4 rfl rfl rfl rfl rfl fun _ _ hs20 => ?_; clear hs19
   refine sq_off hs20 rfl rfl 5 rfl rfl rfl rfl rfl fun _ _ hs21 => ?_; clear hs20
   refine sq_off hs21 rfl rfl 6 rfl rfl rfl rfl rfl fun _ _ hs22 => ?_; clear hs21
   refine sq rfl (st_pick hs22 (Ev.t 7 rfl) rfl rfl (fun h => by cases h) (fun h => (.const _)) fun _ _ hs23 => ?_); clear hs22
   have hs24 := hs23.keep [0, 1, 2, 3, 4, 5, 6, 7, 8, 9, 10, 11, 12, 13, 15, 16, 17] [_, _, _, _, _, _, _, _, _, _, _, _, _, _, _, _, _] rfl; clear hs23
   refine sq rfl (st_assign hs24 (Ev.t 0 rfl) rfl rfl fun _ _ hs25 => ?_); clear hs24
   have hs26 := hs25.keep [0, 1, 2, 3, 4, 5, 6, 7, 8, 9, 10, 11, 12, 13, 15, 16, 17] [_, _, _, _, _, _, _, _, _, _, _, _, _, _, _, _, _] rfl; clear hs25
   refine sq rfl (st_assign hs26 (.const _) rfl rfl fun _ _ hs27 => ?_); clear hs26
   refine hK7 _ _ ?_; clear hK7
   have hs28 := hs27.keep [0, 1] [_, _] rfl; clear hs27
   refine cd_retv (vs := [.bool false, .int .i64 0]) hs28 hQ0 rfl ⟨.tmp 1 rfl, .tmp 0 rfl, trivial⟩ ?_
   clear hs28 hQ0 hN0
   first | (simp only [pack, Bx.canR, hask, if_true, Int.toNat_natCast, wAll, show ((x.toNat : Nat) : Int) = x from Int.toNat_of_nonneg (by omega)]; simp; done) | (have hz : withN b b.sold k x = 0 := (by apply Classical.byContradiction; intro e; have hw := withN_out hsk e; have h8 := Till.within_iff.2 (show 0 ≤ x ∧ x ≤ 300 by omega); rw [hin] at h8; cases h8); simp [pack, Bx.canR, hask, hz])
 · skip
   have hxb := Till.within_iff.1 hin
   refine cd_region fun K8 hK8 => ?_
   refine sq rfl (st_box hs0 (Ev.t 0 rfl) rfl rfl rfl fun b9 _ _ hs1 => ?_); clear hs0
   refine sq rfl (st_assign hs1 (.const _) rfl rfl fun _ _ hs2 => ?_); clear hs1
   refine sq rfl (st_assign hs2 (.const _) rfl rfl fun _ _ hs3 => ?_); clear hs2
   refine hK8 _ _ ?_; clear hK8
   have hs4 := hs3.keep [0, 1, 2, 4, 5] [_, _, _, _, _] rfl; clear hs3
   refine cd_seq fun K10 hK10 => ?_
   refine cd_drawn mixed hs4 [⟨9, [], Is (.agg ⟨(bxL b A n cp A2 n2 c2)⟩)⟩, ⟨10, [], Is (.agg ⟨(bxL b A n cp A2 n2 c2)⟩)⟩, ⟨11, [], Is (.int .i64 (k : Int))⟩, ⟨12, [1, 2], Is (.bool (isRoll b (k : Int)))⟩] (by kernel_rfl) (by kernel_rfl) fun K11 hK11 => ⟨⟨?_, ?_, ?_, ?_, trivial⟩, ?_⟩
   · rintro T_ B_ a_ w_ K_ hT hB hf hsD hk
     exact ob rfl rfl (st_loadA (o := 0) (off := 0) (vs := (bxL b A n cp A2 n2 c2)) hsD (evT hT 2 rfl) rfl hf isAgg25 sizeOf25 (hsD.cellsM (inB hB 0 rfl)) rfl fun _ _ => hk _ _ _ _ ⟨rfl, rfl⟩)
   · rintro T_ B_ a_ w_ K_ hT hB hf hsD hk
     exact ob rfl rfl (st_loadA (o := 0) (off := 0) (vs := (bxL b A n cp A2 n2 c2)) hsD (evT hT 2 rfl) rfl hf isAgg25 sizeOf25 (hsD.cellsM (inB hB 0 rfl)) rfl fun _ _ => hk _ _ _ _ ⟨rfl, rfl⟩)
   · rintro T_ B_ a_ w_ K_ hT hB hf hsD hk
     exact ob rfl rfl (st_move hsD (evT hT 3 rfl) rfl hf fun _ _ => hk _ _ _ _ ⟨rfl, rfl⟩)
   · rintro T_ B_ a_ w_ K_ hT hB _ _ ⟨rfl, rfl⟩ h10 - _ _ ⟨rfl, rfl⟩ h11 - hf hsD hk
     exact ob rfl rfl (st_callv (vs := [.agg ⟨(bxL b A n cp A2 n2 c2)⟩, .int .i64 (k : Int)]) hsD (.func _) ⟨(Ev.tmp h10), (Ev.tmp h11), trivial⟩ rfl hf call66 rfl (risRoll_v b A n cp A2 n2 c2 (k : Int) _ hn hP.len) fun _ _ => hk _ _ _ _ ⟨rfl, rfl⟩)
   rintro _ _ ⟨rfl, rfl⟩ _ _ ⟨rfl, rfl⟩ _ _ ⟨rfl, rfl⟩ _ _ ⟨rfl, rfl⟩ a_5 w_5 hs5; clear hs4
   have hs6 := Sx.as (T' := [_, _, _, _, _, _, _, _, _]) (B' := [_]) rfl rfl hs5; clear hs5
   refine sq rfl (st_callv (vs := [.agg ⟨(bxL b A n cp A2 n2 c2)⟩, .bool (isRoll b (k : Int))]) hs6 (.func _) ⟨(Ev.t 0 rfl), (Ev.t 3 rfl), trivial⟩ rfl rfl call65 rfl (callsV_eq (v' := .int .i64 0) (rasked_v b A n cp A2 n2 c2 (isRoll b (k : Int)) _ (hP.kp hs6.kp) hn (hF.kp hs6.kp) hn2) (by rw [hask])) fun _ _ hs7 => ?_); clear hs6
   refine sq rfl (st_assign hs7 (Ev.t 0 rfl) rfl rfl fun _ _ hs8 => ?_); clear hs7
   refine hK11 _ _ ?_; clear hK11
   have hs9 := hs8.keep [0, 6, 7, 8, 9, 10] [_, _, _, _, _, _] rfl; clear hs8
   refine cd_region fun K12 hK12 => ?_
   refine sq rfl (st_move hs9 (Ev.t 0 rfl) rfl rfl fun _ _ hs10 => ?_); clear hs9
   refine sq rfl (st_cmp (c := false) hs10 (Ev.t 0 rfl) (.const _) rfl rfl rfl rfl fun _ _ hs11 => ?_); clear hs10
   refine hK12 _ _ ?_; clear hK12
   have hs12 := hs11.keep [0, 2, 3, 4, 5, 6, 7] [_, _, _, _, _, _, _] rfl; clear hs11
   have hc13 : false = false := rfl
   refine cd_cond hs12 (Ev.t 0 rfl) (fun h => absurd (hc13.symm.trans h) (by decide)) (fun _ => ?_)
   refine cd_skip ?_
   refine th_norm (hK10 _ _ ?_)
   refine cd_region fun K14 hK14 => ?_
   refine sq rfl (st_move hs12 (Ev.t 6 rfl) rfl rfl fun _ _ hs13 => ?_); clear hs12
   refine sq rfl (st_callv (vs := [.int .i64 x, .int .i64 0, .int .i64 300]) hs13 (.func _) ⟨(Ev.t 0 rfl), (.const _), (.const _), trivial⟩ rfl rfl call16 rfl (callsV_eq (v' := .bool true) (amid_v x 0 300 _) (by rw [hin])) fun _ _ hs14 => ?_); clear hs13
   refine sq rfl (st_move hs14 (Ev.t 0 rfl) rfl rfl fun _ _ hs15 => ?_); clear hs14
   refine sq_on hs15 rfl rfl 0 rfl rfl (st_loadA (o := 0) (off := 0) (vs := (bxL b A n cp A2 n2 c2)) hs15 (Ev.t 7 rfl) rfl rfl isAgg25 sizeOf25 (hs15.cells 0 rfl) rfl fun _ _ hs16 => ?_); clear hs15
   refine sq_on hs16 rfl rfl 1 rfl rfl (st_move hs16 (Ev.t 9 rfl) rfl rfl fun _ _ hs17 => ?_); clear hs16
   refine sq_on hs17 rfl rfl 2 rfl rfl (st_call (vs := [.agg ⟨(bxL b A n cp A2 n2 c2)⟩, .int .i64 (k : Int)]) hs17 (.func _) ⟨(Ev.t 1 rfl), (Ev.t 0 rfl), trivial⟩ rfl rfl call67 rfl (rwith_b b A n cp A2 n2 c2 k r hr f hfk _ (hP.kp hs17.kp) hn (hF.kp hs17.kp) hn2 hO) fun v15 bs16 a_18 w_18 hp18 hs18 => ?_); clear hs17
   obtain ⟨bw8, ow8, rfl, hOw8, rfl⟩ := hp18
   have hs19 := Sx.as (T' := [_, _, _, _, _, _, _, _, _, _, _, _, _]) (B' := [_, _]) rfl rfl hs18; clear hs18
   refine sq_on hs19 rfl rfl 3 rfl rfl (st_move hs19 (Ev.t 12 rfl) rfl rfl fun _ _ hs20 => ?_); clear hs19
   refine sq_on hs20 rfl rfl 4 rfl rfl (st_indexSl (o' := ((x : Int).toNat) * 1) hs20 (Ev.t 1 rfl) (Ev.t 0 rfl) rfl rfl runUnderlying33 sizeOf3 ⟨by omega, by omega⟩ (by simp) fun _ _ hs21 => ?_); clear hs20
   refine sq_on hs21 rfl rfl 5 rfl rfl (st_load1 (o := (((x : Int).toNat) * 1)) (off := 0) (v := .int .i64 ((wAll b k) ((x : Int).toNat))) hs21 (Ev.t 0 rfl) rfl rfl isAgg3 (own_cellM hs21 hOw8 (mem_nth (i := 0) rfl) (arr_at (by omega))) rfl fun _ _ hs22 => ?_); clear hs21
   refine sq_on hs22 rfl rfl 6 rfl rfl (st_cmp (c := decide (((wAll b k) ((x : Int).toNat) : Int) > 0)) hs22 (Ev.t 0 rfl) (.const _) rfl rfl rfl rfl fun _ _ hs23 => ?_); clear hs22
   refine sq rfl (st_pick hs23 (Ev.t 7 rfl) rfl rfl (fun h => (Ev.t 0 rfl)) (fun h => by cases h) fun _ _ hs24 => ?_); clear hs23
   have hs25 := hs24.keep [0, 1, 2, 3, 4, 5, 6, 7, 8, 9, 10, 11, 12, 13, 15, 16, 17] [_, _, _, _, _, _, _, _, _, _, _, _, _, _, _, _, _] rfl; clear hs24
   refine sq rfl (st_assign hs25 (Ev.t 0 rfl) rfl rfl fun _ _ hs26 => ?_); clear hs25
   have hs27 := hs26.keep [0, 1, 2, 3, 4, 5, 6, 7, 8, 9, 10, 11, 12, 13, 15, 16, 17] [_, _, _, _, _, _, _, _, _, _, _, _, _, _, _, _, _] rfl; clear hs26
   refine sq rfl (st_assign hs27 (.const _) rfl rfl fun _ _ hs28 => ?_); clear hs27
   refine hK14 _ _ ?_; clear hK14
   have hs29 := hs28.keep [0, 1] [_, _] rfl; clear hs28
   refine cd_retv (vs := [.bool (decide (((wAll b k) ((x : Int).toNat) : Int) > 0)), .int .i64 0]) hs29 hQ0 rfl ⟨.tmp 1 rfl, .tmp 0 rfl, trivial⟩ ?_
   clear hs29 hQ0 hN0
   first | (simp only [pack, Bx.canR, hask, if_true, Int.toNat_natCast, wAll, show ((x.toNat : Nat) : Int) = x from Int.toNat_of_nonneg (by omega)]; simp; done) | (have hz : withN b b.sold k x = 0 := (by apply Classical.byContradiction; intro e; have hw := withN_out hsk e; have h8 := Till.within_iff.2 (show 0 ≤ x ∧ x ≤ 300 by omega); rw [hin] at h8; cases h8); simp [pack, Bx.canR, hask, hz])

theorem rCan_no (b : Bx) (A : Option Addr) (n cp : Nat) (A2 : Option Addr) (n2 c2 : Nat) (k x : Int) (hne : b.asked (isRoll b k) ≠ 0) (w : World) (hP : RollsAt w A n b.rolls) (hn : n ≤ 140737488351232) (hF : SpsAt w A2 n2 b.free) (hn2 : n2 ≤ 140737488351232) (_hl1 : n = b.rolls.length) :
    CallsV Tryd.prog 35 [.agg ⟨(bxL b A n cp A2 n2 c2)⟩, .int .i64 k, .int .i64 x] w (.tuple ⟨[.bool ((b.canR k x).1), .int .i64 ((b.canR k x).2)]⟩) := by
 refine enter (N := 28) (M := []) w func35 rfl rfl rfl (fun Q0 a_0 hQ0 hN0 hs0 => ?_)
 refine cd_region fun K1 hK1 => ?_
 refine sq rfl (st_box hs0 (Ev.t 0 rfl) rfl rfl rfl fun b2 _ _ hs1 => ?_); clear hs0
 refine sq rfl (st_assign hs1 (.const _) rfl rfl fun _ _ hs2 => ?_); clear hs1
 refine sq rfl (st_assign hs2 (.const _) rfl rfl fun _ _ hs3 => ?_); clear hs2
 refine hK1 _ _ ?_; clear hK1
 have hs4 := hs3.keep [0, 1, 2, 4, 5] [_, _, _, _, _] rfl; clear hs3
 refine cd_seq fun K3 hK3 => ?_
 refine cd_drawn mixed hs4 [⟨9, [], Is (.agg ⟨(bxL b A n cp A2 n2 c2)⟩)⟩, ⟨10, [], Is (.agg ⟨(bxL b A n cp A2 n2 c2)⟩)⟩, ⟨11, [], Is (.int .i64 k)⟩, ⟨12, [1, 2], Is (.bool (isRoll b k))⟩] (by kernel_rfl) (by kernel_rfl) fun K4 hK4 => ⟨⟨?_, ?_, ?_, ?_, trivial⟩, ?_⟩
 · rintro T_ B_ a_ w_ K_ hT hB hf hsD hk
   exact ob rfl rfl (st_loadA (o := 0) (off := 0) (vs := (bxL b A n cp A2 n2 c2)) hsD (evT hT 2 rfl) rfl hf isAgg25 sizeOf25 (hsD.cellsM (inB hB 0 rfl)) rfl fun _ _ => hk _ _ _ _ ⟨rfl, rfl⟩)
 · rintro T_ B_ a_ w_ K_ hT hB hf hsD hk
   exact ob rfl rfl (st_loadA (o := 0) (off := 0) (vs := (bxL b A n cp A2 n2 c2)) hsD (evT hT 2 rfl) rfl hf isAgg25 sizeOf25 (hsD.cellsM (inB hB 0 rfl)) rfl fun _ _ => hk _ _ _ _ ⟨rfl, rfl⟩)
 · rintro T_ B_ a_ w_ K_ hT hB hf hsD hk
   exact ob rfl rfl (st_move hsD (evT hT 3 rfl) rfl hf fun _ _ => hk _ _ _ _ ⟨rfl, rfl⟩)
 · rintro T_ B_ a_ w_ K_ hT hB _ _ ⟨rfl, rfl⟩ h10 - _ _ ⟨rfl, rfl⟩ h11 - hf hsD hk
   exact ob rfl rfl (st_callv (vs := [.agg ⟨(bxL b A n cp A2 n2 c2)⟩, .int .i64 k]) hsD (.func _) ⟨(Ev.tmp h10), (Ev.tmp h11), trivial⟩ rfl hf call66 rfl (risRoll_v b A n cp A2 n2 c2 k _ hn hP.len) fun _ _ => hk _ _ _ _ ⟨rfl, rfl⟩)
 rintro _ _ ⟨rfl, rfl⟩ _ _ ⟨rfl, rfl⟩ _ _ ⟨rfl, rfl⟩ _ _ ⟨rfl, rfl⟩ a_5 w_5 hs5; clear hs4
 have hs6 := Sx.as (T' := [_, _, _, _, _, _, _, _, _]) (B' := [_]) rfl rfl hs5; clear hs5
 refine sq rfl (st_callv (vs := [.agg ⟨(bxL b A n cp A2 n2 c2)⟩, .bool (isRoll b k)]) hs6 (.func _) ⟨(Ev.t 0 rfl), (Ev.t 3 rfl), trivial⟩ rfl rfl call65 rfl (rasked_v b A n cp A2 n2 c2 (isRoll b k) _ (hP.kp hs6.kp) hn (hF.kp hs6.kp) hn2) fun _ _ hs7 => ?_); clear hs6
 refine sq rfl (st_assign hs7 (Ev.t 0 rfl) rfl rfl fun _ _ hs8 => ?_); clear hs7
 refine hK4 _ _ ?_; clear hK4
 have hs9 := hs8.keep [0, 6, 7, 8, 9, 10] [_, _, _, _, _, _] rfl; clear hs8
 refine cd_region fun K5 hK5 => ?_
 refine sq rfl (st_move hs9 (Ev.t 0 rfl) rfl rfl fun _ _ hs10 => ?_); clear hs9
 refine sq rfl (st_cmp (c := (b.asked (isRoll b k) : Int) != 0) hs10 (Ev.t 0 rfl) (.const _) rfl rfl rfl rfl fun _ _ hs11 => ?_); clear hs10
 refine hK5 _ _ ?_; clear hK5
 have hs12 := hs11.keep [0, 2, 3, 4, 5, 6, 7] [_, _, _, _, _, _, _] rfl; clear hs11
 have hc6 : ((b.asked (isRoll b k) : Int) != 0) = true := by simpa using hne
 refine cd_cond hs12 (Ev.t 0 rfl) (fun _ => ?_) (fun h => absurd (hc6.symm.trans h) (by decide))
 refine cd_region fun K7 hK7 => ?_
 refine sq rfl (st_move hs12 (Ev.t 1 rfl) rfl rfl fun _ _ hs13 => ?_); clear hs12
 have hs14 := hs13.keep [0, 1, 2, 3, 5, 6, 7] [_, _, _, _, _, _, _] rfl; clear hs13
 refine sq rfl (st_assign hs14 (.const _) rfl rfl fun _ _ hs15 => ?_); clear hs14
 have hs16 := hs15.keep [0, 1, 2, 3, 5, 6, 7] [_, _, _, _, _, _, _] rfl; clear hs15
 refine sq rfl (st_assign hs16 (Ev.t 1 rfl) rfl rfl fun _ _ hs17 => ?_); clear hs16
 refine hK7 _ _ ?_; clear hK7
 have hs18 := hs17.keep [0, 1] [_, _] rfl; clear hs17
 refine cd_retv (vs := [.bool false, .int .i64 (b.asked (isRoll b k))]) hs18 (fun a_ w_ h => th_ret (hQ0 a_ w_ h)) rfl ⟨.tmp 1 rfl, .tmp 0 rfl, trivial⟩ ?_
 clear hs18 hQ0 hN0 hK3
 simp [pack, Bx.canR, hne]

theorem rSold_v (b : Bx) (A : Option Addr) (n cp : Nat) (A2 : Option Addr) (n2 c2 : Nat) (w : World) (hP : RollsAt w A n b.rolls) (hn : n ≤ 140737488351232) (hF : SpsAt w A2 n2 b.free) (hn2 : n2 ≤ 140737488351232) (k : Int) : CallsV Tryd.prog 34 [.agg ⟨bxL b A n cp A2 n2 c2⟩, .int .i64 k] w (.tuple ⟨[.agg ⟨[.int .i64 ((b.soldR k).1.lo), .int .i64 ((b.soldR k).1.hi)]⟩, .int .i64 ((b.soldR k).2)]⟩) := by
  by_cases h : b.asked (isRoll b k) = 0
  · obtain ⟨hok, hm0, q, r, f, rfl, hr, hf⟩ := roll_at h
    exact rSold_yes b A n cp A2 n2 c2 q r hr f hf hok hm0 w hP hn hF hn2
  · exact rSold_no b A n cp A2 n2 c2 k h w hP hn hF hn2 hP.len

theorem rCan_v (b : Bx) (A : Option Addr) (n cp : Nat) (A2 : Option Addr) (n2 c2 : Nat) (w : World) (hP : RollsAt w A n b.rolls) (hn : n ≤ 140737488351232) (hF : SpsAt w A2 n2 b.free) (hn2 : n2 ≤ 140737488351232) (k : Int) (x : Int) : CallsV Tryd.prog 35 [.agg ⟨bxL b A n cp A2 n2 c2⟩, .int .i64 k, .int .i64 x] w (.tuple ⟨[.bool ((b.canR k x).1), .int .i64 ((b.canR k x).2)]⟩) := by
  by_cases h : b.asked (isRoll b k) = 0
  · obtain ⟨hok, hm0, q, r, f, rfl, hr, hf⟩ := roll_at h
    exact rCan_yes b A n cp A2 n2 c2 q r hr f hf hok hm0 x w hP hn hF hn2
  · exact rCan_no b A n cp A2 n2 c2 k x h w hP hn hF hn2 hP.len

def rAsk (b : Bx) : Nat → Int × Int
  | 0 => (-1, 0)
  | n + 1 => if (rAsk b n).1 < 0 ∨ (b.worst n : Int) < (rAsk b n).2 then ((n : Int), (b.worst n : Int)) else rAsk b n
theorem rAsk_eq {b : Bx} : ∀ n : Nat, (rAsk b (n + 1)).1 = (b.askTo (n + 1)).1 ∧ (rAsk b (n + 1)).2 = ((b.askTo (n + 1)).2 : Int) := by
  intro n
  induction n with
  | zero => simp [rAsk, Bx.askTo]
  | succ n ih =>
    rw [rAsk, Bx.askTo, ih.1, ih.2]
    by_cases c : (b.askTo (n + 1)).1 < 0 ∨ b.worst (n + 1) < (b.askTo (n + 1)).2
    · rw [if_pos c, if_pos (by omega)]; exact ⟨rfl, rfl⟩
    · rw [if_neg c, if_neg (by omega)]; exact ⟨ih.1, ih.2⟩

theorem rAsk_yes (b : Bx) (A : Option Addr) (n cp : Nat) (A2 : Option Addr) (n2 c2 : Nat) (hok : b.ok = true) (hm0 : b.many ≠ 0) (w : World) (hP : RollsAt w A n b.rolls) (hn : n ≤ 140737488351232) (hF : SpsAt w A2 n2 b.free) (hn2 : n2 ≤ 140737488351232) :
    CallsV Tryd.prog 36 [.agg ⟨(bxL b A n cp A2 n2 c2)⟩] w (.tuple ⟨[.int .i64 b.askR.1, .int .i64 b.askR.2]⟩) := by
 have hO := ok_iff.1 hok
 have hask : b.asked true = 0 := asked_zero.2 ⟨hok, rfl, hm0⟩
 have hl1 := hP.len; have hl2 := hF.len; have hlen := hO.len; have hn14 := hO.n
 refine enter (N := 51) (M := []) w func36 rfl rfl rfl (fun Q0 a_0 hQ0 hN0 hs0 => ?_)
 refine cd_region fun K1 hK1 => ?_
 refine sq rfl (st_box hs0 (Ev.t 0 rfl) rfl rfl rfl fun b2 _ _ hs1 => ?_); clear hs0
 refine sq rfl (st_assign hs1 (.const _) rfl rfl fun _ _ hs2 => ?_); clear hs1
 refine sq rfl (st_assign hs2 (.const _) rfl rfl fun _ _ hs3 => ?_); clear hs2
 refine hK1 _ _ ?_; clear hK1
 have hs4 := hs3.keep [0, 1, 2] [_, _, _] rfl; clear hs3
 refine cd_seq fun K3 hK3 => ?_
 refine cd_region fun K4 hK4 => ?_
 refine sq rfl (st_loadA (o := 0) (off := 0) (vs := (bxL b A n cp A2 n2 c2)) hs4 (Ev.t 2 rfl) rfl rfl isAgg25 sizeOf25 (hs4.cells 0 rfl) rfl fun _ _ hs5 => ?_); clear hs4
 refine sq rfl (st_callv (vs := [.agg ⟨(bxL b A n cp A2 n2 c2)⟩, .bool true]) hs5 (.func _) ⟨(Ev.t 0 rfl), (.const _), trivial⟩ rfl rfl call65 rfl (callsV_eq (v' := .int .i64 0) (rasked_v b A n cp A2 n2 c2 true _ (hP.kp hs5.kp) hn (hF.kp hs5.kp) hn2) (by rw [hask])) fun _ _ hs6 => ?_); clear hs5
 refine sq rfl (st_assign hs6 (Ev.t 0 rfl) rfl rfl fun _ _ hs7 => ?_); clear hs6
 refine hK4 _ _ ?_; clear hK4
 have hs8 := hs7.keep [0, 3, 4, 5] [_, _, _, _] rfl; clear hs7
 refine cd_region fun K5 hK5 => ?_
 refine sq rfl (st_move hs8 (Ev.t 0 rfl) rfl rfl fun _ _ hs9 => ?_); clear hs8
 refine sq rfl (st_cmp (c := false) hs9 (Ev.t 0 rfl) (.const _) rfl rfl rfl rfl fun _ _ hs10 => ?_); clear hs9
 refine hK5 _ _ ?_; clear hK5
 have hs11 := hs10.keep [0, 2, 3, 4, 5] [_, _, _, _, _] rfl; clear hs10
 have hc6 : false = false := rfl
 refine cd_cond hs11 (Ev.t 0 rfl) (fun h => absurd (hc6.symm.trans h) (by decide)) (fun _ => ?_)
 refine cd_skip ?_
 refine th_norm (hK3 _ _ ?_)
 refine cd_seq fun K7 hK7 => ?_
 refine cd_region fun K8 hK8 => ?_
 refine sq rfl (st_loadA (o := 0) (off := 0) (vs := (bxL b A n cp A2 n2 c2)) hs11 (Ev.t 4 rfl) rfl rfl isAgg25 sizeOf25 (hs11.cells 0 rfl) rfl fun _ _ hs12 => ?_); clear hs11
 refine sq rfl (st_callv (vs := [.agg ⟨(bxL b A n cp A2 n2 c2)⟩]) hs12 (.func _) ⟨(Ev.t 0 rfl), trivial⟩ rfl rfl call63 rfl (rmany_v b A n cp A2 n2 c2 _ (hP.kp hs12.kp) hn (hF.kp hs12.kp) hn2 hO) fun _ _ hs13 => ?_); clear hs12
 refine sq rfl (st_cmp (c := ((b.many : Int) : Int) == 1) hs13 (Ev.t 0 rfl) (.const _) rfl rfl rfl rfl fun _ _ hs14 => ?_); clear hs13
 refine hK8 _ _ ?_; clear hK8
 have hs15 := hs14.keep [0, 5, 6, 7] [_, _, _, _] rfl; clear hs14
 refine cd_cond hs15 (Ev.t 0 rfl) (fun hc9 => ?_) (fun hc9 => ?_)
 · have hm1 : b.many = 1 := by have h := hc9; rw [beq_iff_eq] at h; omega
   refine cd_region fun K10 hK10 => ?_
   have hs16 := hs15.keep [0, 1, 3] [_, _, _] rfl; clear hs15
   refine sq rfl (st_assign hs16 (.const _) rfl rfl fun _ _ hs17 => ?_); clear hs16
   have hs18 := hs17.keep [0, 1, 3] [_, _, _] rfl; clear hs17
   refine sq rfl (st_assign hs18 (.const _) rfl rfl fun _ _ hs19 => ?_); clear hs18
   refine hK10 _ _ ?_; clear hK10
   have hs20 := hs19.keep [0, 1] [_, _] rfl; clear hs19
   refine cd_retv (vs := [.int .i64 0, .int .i64 4]) hs20 (fun a_ w_ h => th_ret (hQ0 a_ w_ h)) rfl ⟨.tmp 1 rfl, .tmp 0 rfl, trivial⟩ ?_
   clear hs20 hQ0 hN0 hK7
   first | (simp [pack, Bx.askR, hask, hm1]; done) | simp [pack, Bx.askR, hask, hm1, hra]
 · have hm1 : ¬ b.many = 1 := by have h := hc9; rw [beq_eq_false_iff_ne] at h; omega
   refine cd_skip ?_
   refine th_norm (hK7 _ _ ?_)
   refine cd_region fun K11 hK11 => ?_
   refine sq rfl (st_assign hs15 (.const _) rfl rfl fun _ _ hs16 => ?_); clear hs15
   refine sq rfl (st_assign hs16 (.const _) rfl rfl fun _ _ hs17 => ?_); clear hs16
   refine hK11 _ _ ?_; clear hK11
   have hs18 := hs17.keep [0, 1, 3, 4, 5] [_, _, _, _, _] rfl; clear hs17
   refine cd_seq fun K12 hK12 => ?_
   refine cd_region fun K13 hK13 => ?_
   refine sq rfl (st_assign hs18 (.const _) rfl rfl fun _ _ hs19 => ?_); clear hs18
   refine hK13 _ _ ?_; clear hK13
   refine cd_block ?_
   have hs20 : Sx 51 [] [(7, .int .i64 (0 : Int)), (6, .int .i64 ((rAsk b 0).1)), (5, .int .i64 ((rAsk b 0).2)), (3, .int .i64 0), (2, .int .i64 0), (1, .pointer (some ⟨b2, 0, none⟩))] [(b2, some (.cells ⟨(bxL b A n cp A2 n2 c2)⟩ 25 (0, 0)))] [] w _ _ := Sx.keepE [0, 1, 2, 3, 4, 5] _ ⟨⟨_, rfl, rfl⟩, ⟨_, rfl, rfl⟩, ⟨_, rfl, rfl⟩, ⟨_, rfl, rfl⟩, ⟨_, rfl, rfl⟩, ⟨_, rfl, rfl⟩, trivial⟩ hs19; clear hs19
   refine cd_loop (X := Nat) (fun g a_ w_ => (g ≤ n) ∧ Sx 51 [] [(7, .int .i64 (g : Int)), (6, .int .i64 ((rAsk b g).1)), (5, .int .i64 ((rAsk b g).2)), (3, .int .i64 0), (2, .int .i64 0), (1, .pointer (some ⟨b2, 0, none⟩))] [(b2, some (.cells ⟨(bxL b A n cp A2 n2 c2)⟩ 25 (0, 0)))] [] w a_ w_) (fun g => n - g) (0) ⟨?_, hs20⟩ ?_
   · exact Nat.zero_le _
   intro g a_21 w_21 ⟨hk, hs21⟩; clear hs20
   refine cd_seq fun K14 hK14 => ?_
   refine cd_region fun K15 hK15 => ?_
   refine sq rfl (st_move hs21 (Ev.t 0 rfl) rfl rfl fun _ _ hs22 => ?_); clear hs21
   refine sq rfl (st_field (o' := 0) hs22 (Ev.t 6 rfl) rfl rfl runUnderlying25 rfl sizeOf22 rfl rfl fun _ _ hs23 => ?_); clear hs22
   refine sq rfl (st_load1 (o := 0) (off := 0) (v := .slice A n cp) hs23 (Ev.t 0 rfl) rfl rfl isAgg22 (hs23.cells 0 rfl) rfl fun _ _ hs24 => ?_); clear hs23
   refine sq rfl (st_len hs24 (Ev.t 0 rfl) rfl rfl runUnderlying22 fun _ _ hs25 => ?_); clear hs24
   refine sq rfl (st_cmp (c := decide (((g : Int) : Int) < (n : Int))) hs25 (Ev.t 3 rfl) (Ev.t 0 rfl) rfl rfl rfl rfl fun _ _ hs26 => ?_); clear hs25
   refine hK15 _ _ ?_; clear hK15
   have hs27 := hs26.keep [0, 5, 6, 7, 8, 9, 10] [_, _, _, _, _, _, _] rfl; clear hs26
   refine cd_cond hs27 (Ev.t 0 rfl) (fun hc16 => ?_) (fun hc16 => ?_)
   · have hin : g < n := by simpa using hc16
     have hir : g < b.rolls.length := by omega
     have hif : g < b.free.length := by omega
     obtain ⟨x17, hx17⟩ : ∃ x, b.rolls[g]? = some x := ⟨_, List.getElem?_eq_getElem (hir)⟩
     obtain ⟨x18, hx18⟩ : ∃ x, b.free[g]? = some x := ⟨_, List.getElem?_eq_getElem (hif)⟩
     have hs9 := sold_at hx17 hx18
     refine cd_skip ?_
     refine th_norm (hK14 _ _ ?_)
     refine cd_seq fun K19 hK19 => ?_
     refine cd_block ?_
     refine cd_region fun K20 hK20 => ?_
     refine sq rfl (st_loadA (o := 0) (off := 0) (vs := (bxL b A n cp A2 n2 c2)) hs27 (Ev.t 6 rfl) rfl rfl isAgg25 sizeOf25 (hs27.cells 0 rfl) rfl fun _ _ hs28 => ?_); clear hs27
     refine sq rfl (st_move hs28 (Ev.t 2 rfl) rfl rfl fun _ _ hs29 => ?_); clear hs28
     refine sq rfl (st_call (vs := [.agg ⟨(bxL b A n cp A2 n2 c2)⟩, .int .i64 (g : Int)]) hs29 (.func _) ⟨(Ev.t 1 rfl), (Ev.t 0 rfl), trivial⟩ rfl rfl call67 rfl (rwith_b b A n cp A2 n2 c2 g x17 hx17 x18 hx18 _ (hP.kp hs29.kp) hn (hF.kp hs29.kp) hn2 hO) fun v21 bs22 a_30 w_30 hp30 hs30 => ?_); clear hs29
     obtain ⟨bw8, ow8, rfl, hOw8, rfl⟩ := hp30
     have hs31 := Sx.as (T' := [_, _, _, _, _, _, _, _, _, _]) (B' := [_, _]) rfl rfl hs30; clear hs30
     refine sq rfl (st_assign hs31 (Ev.t 0 rfl) rfl rfl fun _ _ hs32 => ?_); clear hs31
     refine hK20 _ _ ?_; clear hK20
     have hs33 := hs32.keep [0, 5, 6, 7, 8, 9, 10] [_, _, _, _, _, _, _] rfl; clear hs32
     refine cd_region fun K23 hK23 => ?_
     refine sq rfl (st_assign hs33 (.const _) rfl rfl fun _ _ hs34 => ?_); clear hs33
     refine hK23 _ _ ?_; clear hK23
     refine cd_seq fun K24 hK24 => ?_
     refine cd_region fun K25 hK25 => ?_
     refine sq rfl (st_assign hs34 (.const _) rfl rfl fun _ _ hs35 => ?_); clear hs34
     refine hK25 _ _ ?_; clear hK25
     refine cd_block ?_
     have hs36 : Sx 51 [] [(10, .int .i64 (0 : Int)), (9, .int .i64 (rMx (wAll b g) 0)), (8, .slice (some ⟨bw8, 0, none⟩) 301 301), (7, .int .i64 (g : Int)), (6, .int .i64 ((rAsk b g).1)), (5, .int .i64 ((rAsk b g).2)), (3, .int .i64 0), (2, .int .i64 0), (1, .pointer (some ⟨b2, 0, none⟩))] [(bw8, ow8), (b2, some (.cells ⟨(bxL b A n cp A2 n2 c2)⟩ 25 (0, 0)))] [] w _ _ := Sx.keepE [0, 1, 2, 3, 4, 5, 6, 7, 8] _ ⟨⟨_, rfl, rfl⟩, ⟨_, rfl, rfl⟩, ⟨_, rfl, rfl⟩, ⟨_, rfl, rfl⟩, ⟨_, rfl, rfl⟩, ⟨_, rfl, rfl⟩, ⟨_, rfl, rfl⟩, ⟨_, rfl, rfl⟩, ⟨_, rfl, rfl⟩, trivial⟩ hs35; clear hs35
     refine cd_loop (X := Nat) (fun q a_ w_ => (q ≤ 301) ∧ Sx 51 [] [(10, .int .i64 (q : Int)), (9, .int .i64 (rMx (wAll b g) q)), (8, .slice (some ⟨bw8, 0, none⟩) 301 301), (7, .int .i64 (g : Int)), (6, .int .i64 ((rAsk b g).1)), (5, .int .i64 ((rAsk b g).2)), (3, .int .i64 0), (2, .int .i64 0), (1, .pointer (some ⟨b2, 0, none⟩))] [(bw8, ow8), (b2, some (.cells ⟨(bxL b A n cp A2 n2 c2)⟩ 25 (0, 0)))] [] w a_ w_) (fun q => 301 - q) (0) ⟨?_, hs36⟩ ?_
     · exact Nat.zero_le _
     intro q a_37 w_37 ⟨hq, hs37⟩; clear hs36
     refine cd_seq fun K26 hK26 => ?_
     refine cd_region fun K27 hK27 => ?_
     refine sq rfl (st_move hs37 (Ev.t 0 rfl) rfl rfl fun _ _ hs38 => ?_); clear hs37
     refine sq rfl (st_move hs38 (Ev.t 3 rfl) rfl rfl fun _ _ hs39 => ?_); clear hs38
     refine sq rfl (st_len hs39 (Ev.t 0 rfl) rfl rfl runUnderlying33 fun _ _ hs40 => ?_); clear hs39
     refine sq rfl (st_cmp (c := decide (((q : Int) : Int) < 301)) hs40 (Ev.t 2 rfl) (Ev.t 0 rfl) rfl rfl rfl rfl fun _ _ hs41 => ?_); clear hs40
     refine hK27 _ _ ?_; clear hK27
     have hs42 := hs41.keep [0, 4, 5, 6, 7, 8, 9, 10, 11, 12] [_, _, _, _, _, _, _, _, _, _] rfl; clear hs41
     refine cd_cond hs42 (Ev.t 0 rfl) (fun hc28 => ?_) (fun hc28 => ?_)
     · have hqn : q < 301 := by simp at hc28; omega
       refine cd_skip ?_
       refine th_norm (hK26 _ _ ?_)
       refine cd_seq fun K29 hK29 => ?_
       refine cd_block ?_
       refine cd_region1 ?_
       refine sq rfl (st_move hs42 (Ev.t 2 rfl) rfl rfl fun _ _ hs43 => ?_); clear hs42
       refine sq rfl (st_move hs43 (Ev.t 4 rfl) rfl rfl fun _ _ hs44 => ?_); clear hs43
       refine sq rfl (st_move hs44 (Ev.t 3 rfl) rfl rfl fun _ _ hs45 => ?_); clear hs44
       refine sq rfl (st_indexSl (o' := q * 1) hs45 (Ev.t 1 rfl) (Ev.t 0 rfl) rfl rfl runUnderlying33 sizeOf3 ⟨by omega, by omega⟩ (by simp) fun _ _ hs46 => ?_); clear hs45
       refine sq rfl (st_load1 (o := (q * 1)) (off := 0) (v := .int .i64 ((wAll b g) q)) hs46 (Ev.t 0 rfl) rfl rfl isAgg3 (own_cellM hs46 hOw8 (mem_nth (i := 0) rfl) (arr_at (by omega))) rfl fun _ _ hs47 => ?_); clear hs46
       refine sq rfl (st_max hs47 (Ev.t 4 rfl) (Ev.t 0 rfl) rfl rfl fun _ _ hs48 => ?_); clear hs47
       have hs49 := hs48.keep [0, 1, 2, 3, 4, 5, 6, 7, 9, 10, 11, 12, 13, 14, 15] [_, _, _, _, _, _, _, _, _, _, _, _, _, _, _] rfl; clear hs48
       refine sq rfl (st_assign hs49 (Ev.t 0 rfl) rfl rfl fun _ _ hs50 => ?_); clear hs49
       refine wpListIn_nil ?_
       have hs51 := hs50.keep [0, 8, 9, 10, 11, 12, 13, 14, 15] [_, _, _, _, _, _, _, _, _] rfl; clear hs50
       refine in_norm ?_
       refine th_norm (hK29 _ _ ?_)
       refine cd_region1 ?_
       refine sq rfl (st_move hs51 (Ev.t 1 rfl) rfl rfl fun _ _ hs52 => ?_); clear hs51
       refine sq rfl (st_add (z := (q : Int) + 1) hs52 (Ev.t 0 rfl) (.const _) rfl rfl rfl (by omega) fun _ _ hs53 => ?_); clear hs52
       have hs54 := hs53.keep [0, 1, 2, 4, 5, 6, 7, 8, 9, 10] [_, _, _, _, _, _, _, _, _, _] rfl; clear hs53
       refine sq rfl (st_assign hs54 (Ev.t 0 rfl) rfl rfl fun _ _ hs55 => ?_); clear hs54
       refine wpListIn_nil ?_
       have hs56 := hs55.keep [0, 3, 4, 5, 6, 7, 8, 9, 10] [_, _, _, _, _, _, _, _, _] rfl; clear hs55
       refine ⟨q + 1, ⟨?_, ?_⟩, by (show 301 - (q + 1) < 301 - q; omega)⟩
       · exact hqn
       exact Sx.keepE [0, 1, 2, 3, 4, 5, 6, 7, 8] _ ⟨⟨_, rfl, rfl⟩, ⟨_, rfl, rfl⟩, ⟨_, rfl, rfl⟩, ⟨_, rfl, rfl⟩, ⟨_, rfl, rfl⟩, ⟨_, rfl, rfl⟩, ⟨_, rfl, rfl⟩, ⟨_, rfl, rfl⟩, ⟨_, rfl, rfl⟩, trivial⟩ hs56
     · have hqe : q = 301 := by simp at hc28; omega
       have hs43 := Sx.keepE [0, 1, 2, 3, 4, 5, 6, 7, 8, 9] [(32, _), (10, _), (9, .int .i64 (b.worst g : Int)), (8, _), (7, _), (6, _), (5, _), (3, _), (2, _), (1, _)] ⟨⟨_, rfl, rfl⟩, ⟨_, rfl, rfl⟩, ⟨_, rfl, (by rw [hqe, rMx_worst hO hs9])⟩, ⟨_, rfl, rfl⟩, ⟨_, rfl, rfl⟩, ⟨_, rfl, rfl⟩, ⟨_, rfl, rfl⟩, ⟨_, rfl, rfl⟩, ⟨_, rfl, rfl⟩, ⟨_, rfl, rfl⟩, trivial⟩ hs42; clear hs42
       refine cd_exit ?_
       refine th_exit ?_
       refine th_exit ?_
       refine in_hit ?_
       refine th_norm (hK24 _ _ ?_)
       refine cd_region fun K30 hK30 => ?_
       refine sq rfl (st_move hs43 (Ev.t 5 rfl) rfl rfl fun _ _ hs44 => ?_); clear hs43
       refine sq rfl (st_cmp (c := decide (((rAsk b g).1 : Int) < 0)) hs44 (Ev.t 0 rfl) (.const _) rfl rfl rfl rfl fun _ _ hs45 => ?_); clear hs44
       refine sq rfl (st_move hs45 (Ev.t 0 rfl) rfl rfl fun _ _ hs46 => ?_); clear hs45
       refine sq_gv hs46 (gg := !(decide (((rAsk b g).1 : Int) < 0))) (v := .int .i64 (b.worst g : Int)) rfl rfl 0 rfl (ison_f _) rfl rfl rfl (fun hg31 K32 hK32 => st_move hs46 (Ev.t 5 rfl) rfl rfl hK32) fun _ _ hs47 => ?_; clear hs46
       refine sq_gv hs47 (gg := !(decide (((rAsk b g).1 : Int) < 0))) (v := .int .i64 ((rAsk b g).2)) rfl rfl 1 rfl (ison_f _) rfl rfl rfl (fun hg33 K34 hK34 => st_move hs47 (Ev.t 10 rfl) rfl rfl hK34) fun _ _ hs48 => ?_; clear hs47
       refine sq_gv hs48 (gg := !(decide (((rAsk b g).1 : Int) < 0))) (v := .bool (decide (((b.worst g : Int) : Int) < ((rAsk b g).2)))) rfl rfl 2 rfl (ison_f _) rfl rfl rfl (fun hg35 K36 hK36 => st_cmp (c := decide (((b.worst g : Int) : Int) < ((rAsk b g).2))) hs48 ((Ev.t 1 rfl).un hg35) ((Ev.t 0 rfl).un hg35) rfl rfl rfl rfl hK36) fun _ _ hs49 => ?_; clear hs48
       refine sq rfl (st_or hs49 (gx := true) (gy := !(decide (((rAsk b g).1 : Int) < 0))) (Ev.t 3 rfl) rfl (Ev.t 0 rfl) (fun h => (by first | exact absurd h (by decide) | (rw [h]; rfl))) rfl rfl fun _ _ hs50 => ?_); clear hs49
       refine hK30 _ _ ?_; clear hK30
       have hs51 := hs50.keep [0, 9, 11, 12, 13, 14, 15, 16] [_, _, _, _, _, _, _, _] rfl; clear hs50
       refine cd_cond hs51 (Ev.t 0 rfl) (fun hc37 => ?_) (fun hc37 => ?_)
       · have hstep : rAsk b (g + 1) = ((g : Int), (b.worst g : Int)) := by rw [rAsk, if_pos (by have h := hc37; simp only [Bool.or_eq_true, decide_eq_true_eq] at h; omega)]
         refine cd_region1 ?_
         refine sq rfl (st_move hs51 (Ev.t 1 rfl) rfl rfl fun _ _ hs52 => ?_); clear hs51
         refine sq rfl (st_move hs52 (Ev.t 3 rfl) rfl rfl fun _ _ hs53 => ?_); clear hs52
         have hs54 := hs53.keep [0, 1, 2, 3, 4, 5, 7, 8, 9] [_, _, _, _, _, _, _, _, _] rfl; clear hs53
         refine sq rfl (st_assign hs54 (Ev.t 1 rfl) rfl rfl fun _ _ hs55 => ?_); clear hs54
         have hs56 := hs55.keep [0, 1, 2, 3, 4, 5, 7, 8, 9] [_, _, _, _, _, _, _, _, _] rfl; clear hs55
         refine sq rfl (st_assign hs56 (Ev.t 1 rfl) rfl rfl fun _ _ hs57 => ?_); clear hs56
         refine wpListIn_nil ?_
         have hs58 := hs57.keep [0, 1, 6, 7, 8, 9] [_, _, _, _, _, _] rfl; clear hs57
         refine in_norm ?_
         refine th_norm (hK19 _ _ ?_)
         refine cd_region1 ?_
         refine sq rfl (st_move hs58 (Ev.t 2 rfl) rfl rfl fun _ _ hs59 => ?_); clear hs58
         refine sq rfl (st_add (z := (g : Int) + 1) hs59 (Ev.t 0 rfl) (.const _) rfl rfl rfl (by omega) fun _ _ hs60 => ?_); clear hs59
         have hs61 := hs60.keep [0, 1, 2, 3, 5, 6, 7] [_, _, _, _, _, _, _] rfl; clear hs60
         refine sq rfl (st_assign hs61 (Ev.t 0 rfl) rfl rfl fun _ _ hs62 => ?_); clear hs61
         refine wpListIn_nil ?_
         have hs63 := hs62.keep [0, 3, 4, 5, 6, 7] [_, _, _, _, _, _] rfl; clear hs62
         refine ⟨g + 1, ⟨?_, ?_⟩, by (show n - (g + 1) < n - g; omega)⟩
         · exact hin
         have hs64 : Sx 51 [] [(7, .int .i64 ((g : Int) + 1)), (6, .int .i64 (g : Int)), (5, .int .i64 (b.worst g : Int)), (3, .int .i64 0), (2, .int .i64 0), (1, .pointer (some ⟨b2, 0, none⟩))] [(b2, some (.cells ⟨(bxL b A n cp A2 n2 c2)⟩ 25 (0, 0)))] [] w _ _ := Sx.blks hs63 ((List.Sublist.cons _ (List.Sublist.cons_cons _ List.Sublist.slnil)))
         exact Sx.keepE [0, 1, 2, 3, 4, 5] _ ⟨⟨_, rfl, rfl⟩, ⟨_, rfl, by simp only [hstep]⟩, ⟨_, rfl, by simp only [hstep]⟩, ⟨_, rfl, rfl⟩, ⟨_, rfl, rfl⟩, ⟨_, rfl, rfl⟩, trivial⟩ hs64
       · have hstep : rAsk b (g + 1) = rAsk b g := by rw [rAsk, if_neg (by have h := hc37; simp only [Bool.or_eq_false_iff, decide_eq_false_iff_not] at h; omega)]
         refine cd_skip ?_
         refine in_norm ?_
         refine th_norm (hK19 _ _ ?_)
         refine cd_region1 ?_
         refine sq rfl (st_move hs51 (Ev.t 2 rfl) rfl rfl fun _ _ hs52 => ?_); clear hs51
         refine sq rfl (st_add (z := (g : Int) + 1) hs52 (Ev.t 0 rfl) (.const _) rfl rfl rfl (by omega) fun _ _ hs53 => ?_); clear hs52
         have hs54 := hs53.keep [0, 1, 2, 3, 5, 6, 7, 8, 9] [_, _, _, _, _, _, _, _, _] rfl; clear hs53
         refine sq rfl (st_assign hs54 (Ev.t 0 rfl) rfl rfl fun _ _ hs55 => ?_); clear hs54
         refine wpListIn_nil ?_
         have hs56 := hs55.keep [0, 5, 6, 7, 8, 9] [_, _, _, _, _, _] rfl; clear hs55
         refine ⟨g + 1, ⟨?_, ?_⟩, by (show n - (g + 1) < n - g; omega)⟩
         · exact hin
         have hs57 : Sx 51 [] [(7, .int .i64 ((g : Int) + 1)), (6, .int .i64 ((rAsk b g).1)), (5, .int .i64 ((rAsk b g).2)), (3, .int .i64 0), (2, .int .i64 0), (1, .pointer (some ⟨b2, 0, none⟩))] [(b2, some (.cells ⟨(bxL b A n cp A2 n2 c2)⟩ 25 (0, 0)))] [] w _ _ := Sx.blks hs56 ((List.Sublist.cons _ (List.Sublist.cons_cons _ List.Sublist.slnil)))
         exact Sx.keepE [0, 1, 2, 3, 4, 5] _ ⟨⟨_, rfl, rfl⟩, ⟨_, rfl, by simp only [hstep]⟩, ⟨_, rfl, by simp only [hstep]⟩, ⟨_, rfl, rfl⟩, ⟨_, rfl, rfl⟩, ⟨_, rfl, rfl⟩, trivial⟩ hs57
   · have hge : g = b.rolls.length := by simp at hc16; omega
     obtain ⟨L, hLL⟩ : ∃ L, b.rolls.length = L + 1 := ⟨b.rolls.length - 1, by omega⟩
     have hra : (rAsk b g).1 = (b.askTo b.rolls.length).1 := by rw [hge, hLL]; exact (rAsk_eq L).1
     refine cd_exit ?_
     refine th_exit ?_
     refine th_exit ?_
     refine in_hit ?_
     refine th_norm (hK12 _ _ ?_)
     refine cd_region fun K38 hK38 => ?_
     refine sq rfl (st_move hs27 (Ev.t 2 rfl) rfl rfl fun _ _ hs28 => ?_); clear hs27
     have hs29 := hs28.keep [0, 1, 2, 3, 4, 5, 7] [_, _, _, _, _, _, _] rfl; clear hs28
     refine sq rfl (st_assign hs29 (Ev.t 0 rfl) rfl rfl fun _ _ hs30 => ?_); clear hs29
     have hs31 := hs30.keep [0, 1, 2, 3, 4, 5, 7] [_, _, _, _, _, _, _] rfl; clear hs30
     refine sq rfl (st_assign hs31 (.const _) rfl rfl fun _ _ hs32 => ?_); clear hs31
     refine hK38 _ _ ?_; clear hK38
     have hs33 := hs32.keep [0, 1] [_, _] rfl; clear hs32
     refine cd_retv (vs := [.int .i64 ((rAsk b g).1), .int .i64 0]) hs33 hQ0 rfl ⟨.tmp 1 rfl, .tmp 0 rfl, trivial⟩ ?_
     clear hs33 hQ0 hN0
     first | (simp [pack, Bx.askR, hask, hm1]; done) | simp [pack, Bx.askR, hask, hm1, hra]

theorem rAsk_no (b : Bx) (A : Option Addr) (n cp : Nat) (A2 : Option Addr) (n2 c2 : Nat) (hne : b.asked true ≠ 0) (w : World) (hP : RollsAt w A n b.rolls) (hn : n ≤ 140737488351232) (hF : SpsAt w A2 n2 b.free) (hn2 : n2 ≤ 140737488351232) :
    CallsV Tryd.prog 36 [.agg ⟨(bxL b A n cp A2 n2 c2)⟩] w (.tuple ⟨[.int .i64 b.askR.1, .int .i64 b.askR.2]⟩) := by
 refine enter (N := 51) (M := []) w func36 rfl rfl rfl (fun Q0 a_0 hQ0 hN0 hs0 => ?_)
 refine cd_region fun K1 hK1 => ?_
 refine sq rfl (st_box hs0 (Ev.t 0 rfl) rfl rfl rfl fun b2 _ _ hs1 => ?_); clear hs0
 refine sq rfl (st_assign hs1 (.const _) rfl rfl fun _ _ hs2 => ?_); clear hs1
 refine sq rfl (st_assign hs2 (.const _) rfl rfl fun _ _ hs3 => ?_); clear hs2
 refine hK1 _ _ ?_; clear hK1
 have hs4 := hs3.keep [0, 1, 2] [_, _, _] rfl; clear hs3
 refine cd_seq fun K3 hK3 => ?_
 refine cd_region fun K4 hK4 => ?_
 refine sq rfl (st_loadA (o := 0) (off := 0) (vs := (bxL b A n cp A2 n2 c2)) hs4 (Ev.t 2 rfl) rfl rfl isAgg25 sizeOf25 (hs4.cells 0 rfl) rfl fun _ _ hs5 => ?_); clear hs4
 refine sq rfl (st_callv (vs := [.agg ⟨(bxL b A n cp A2 n2 c2)⟩, .bool true]) hs5 (.func _) ⟨(Ev.t 0 rfl), (.const _), trivial⟩ rfl rfl call65 rfl (rasked_v b A n cp A2 n2 c2 true _ (hP.kp hs5.kp) hn (hF.kp hs5.kp) hn2) fun _ _ hs6 => ?_); clear hs5
 refine sq rfl (st_assign hs6 (Ev.t 0 rfl) rfl rfl fun _ _ hs7 => ?_); clear hs6
 refine hK4 _ _ ?_; clear hK4
 have hs8 := hs7.keep [0, 3, 4, 5] [_, _, _, _] rfl; clear hs7
 refine cd_region fun K5 hK5 => ?_
 refine sq rfl (st_move hs8 (Ev.t 0 rfl) rfl rfl fun _ _ hs9 => ?_); clear hs8
 refine sq rfl (st_cmp (c := (b.asked true : Int) != 0) hs9 (Ev.t 0 rfl) (.const _) rfl rfl rfl rfl fun _ _ hs10 => ?_); clear hs9
 refine hK5 _ _ ?_; clear hK5
 have hs11 := hs10.keep [0, 2, 3, 4, 5] [_, _, _, _, _] rfl; clear hs10
 have hc6 : ((b.asked true : Int) != 0) = true := by simpa using hne
 refine cd_cond hs11 (Ev.t 0 rfl) (fun _ => ?_) (fun h => absurd (hc6.symm.trans h) (by decide))
 refine cd_region fun K7 hK7 => ?_
 refine sq rfl (st_move hs11 (Ev.t 1 rfl) rfl rfl fun _ _ hs12 => ?_); clear hs11
 have hs13 := hs12.keep [0, 1, 2, 3, 5] [_, _, _, _, _] rfl; clear hs12
 refine sq rfl (st_assign hs13 (.const _) rfl rfl fun _ _ hs14 => ?_); clear hs13
 have hs15 := hs14.keep [0, 1, 2, 3, 5] [_, _, _, _, _] rfl; clear hs14
 refine sq rfl (st_assign hs15 (Ev.t 1 rfl) rfl rfl fun _ _ hs16 => ?_); clear hs15
 refine hK7 _ _ ?_; clear hK7
 have hs17 := hs16.keep [0, 1] [_, _] rfl; clear hs16
 refine cd_retv (vs := [.int .i64 0, .int .i64 (b.asked true)]) hs17 (fun a_ w_ h => th_ret (hQ0 a_ w_ h)) rfl ⟨.tmp 1 rfl, .tmp 0 rfl, trivial⟩ ?_
 clear hs17 hQ0 hN0 hK3
 simp [pack, Bx.askR, hne]

theorem rAsk_v (b : Bx) (A : Option Addr) (n cp : Nat) (A2 : Option Addr) (n2 c2 : Nat) (w : World) (hP : RollsAt w A n b.rolls) (hn : n ≤ 140737488351232) (hF : SpsAt w A2 n2 b.free) (hn2 : n2 ≤ 140737488351232) : CallsV Tryd.prog 36 [.agg ⟨bxL b A n cp A2 n2 c2⟩] w (.tuple ⟨[.int .i64 b.askR.1, .int .i64 b.askR.2]⟩) := by
  by_cases h : b.asked true = 0
  · obtain ⟨hok, -, hm0⟩ := asked_zero.1 h
    exact rAsk_yes b A n cp A2 n2 c2 hok hm0 w hP hn hF hn2
  · exact rAsk_no b A n cp A2 n2 c2 h w hP hn hF hn2
end Go.Proofs.YtcnndpedeofbmaaDoor
