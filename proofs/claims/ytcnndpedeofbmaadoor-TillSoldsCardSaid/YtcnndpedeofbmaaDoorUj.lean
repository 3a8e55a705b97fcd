/- The till: between what lie takings, hire, what is left. -/
import Derived.Test.YtcnndpedeofbmaaDoorUi
set_option maxRecDepth 100000
namespace Go.Proofs.YtcnndpedeofbmaaDoor
open Go Go.Sx Go.Till Go.Proofs.Tryd
def wholeI (_ : Bx) (t : Int) : Int := t
theorem span_more {l : List Int} {x : Int} (h : l ≠ []) : spanOf (l ++ [x]) = ⟨-max (-(spanOf l).lo) (-x), max (spanOf l).hi x⟩ := by
  rw [spanOf_snoc h]; simp only [widen]
  rw [show min (spanOf l).lo x = -max (-(spanOf l).lo) (-x) by omega]
theorem span_one {x : Int} : spanOf ([] ++ [x]) = ⟨-max (-x) (-x), max x x⟩ := by
  simp only [List.nil_append, spanOf, List.foldl_nil]
  rw [show -max (-x) (-x) = x by omega, show max x x = x by omega]
theorem snoc_ne {l : List Int} {x : Int} : (l ++ [x]).isEmpty = false := by cases l <;> rfl
theorem left_bd {b : Bx} {t : Int} (ht : 0 ≤ t ∧ t ≤ 60000) (hd : 0 ≤ b.duty ∧ b.duty ≤ 100) (hsh : 0 ≤ b.share ∧ b.share ≤ 100) (hg : 0 ≤ b.guar ∧ b.guar ≤ 60000) : -60000 ≤ leftI b t ∧ leftI b t ≤ 60000 := by
  have h1 := duty_bd ht hd
  have h2 := hire_bd ht hd hsh hg
  unfold leftI
  omega

theorem between95_yes (b : Bx) (A : Option Addr) (n cp : Nat) (A2 : Option Addr) (n2 c2 : Nat) (hok : b.ok = true) (hm0 : b.many ≠ 0) (w : World) (hP : RollsAt w A n b.rolls) (hn : n ≤ 140737488351232) (hF : SpsAt w A2 n2 b.free) (hn2 : n2 ≤ 140737488351232) :
    CallsV Tryd.prog 55 [.agg ⟨(bxL b A n cp A2 n2 c2)⟩, .agg ⟨[.func (.func 95) ⟨[]⟩ ⟨[]⟩]⟩] w (.tuple ⟨[.agg ⟨[.int .i64 ((b.betweenR wholeI).1.lo), .int .i64 ((b.betweenR wholeI).1.hi)]⟩, .int .i64 ((b.betweenR wholeI).2)]⟩) := by
 have hO := ok_iff.1 hok
 have hask : b.asked true = 0 := asked_zero.2 ⟨hok, rfl, hm0⟩
 have hl1 := hP.len
 have hd := hO.duty; have hsh := hO.share; have hg := hO.guar
 have hcut : (List.range 60001).all (fun i => (cutA b (wf (sums [0] (its b.rolls b.sold))) 60001) i == (fun _ => 0) i) = false := by have h := cut_ne hO hm0; rw [show b.all = sums [0] (its b.rolls b.sold) from rfl] at h; exact h
 have hFb : ∀ t : Int, 0 ≤ t → t ≤ 60000 → -60000 ≤ (wholeI b) t ∧ (wholeI b) t ≤ 60000 := fun t h1 h2 => by unfold wholeI; omega
 refine enter (N := 66) (M := []) w func55 rfl rfl rfl (fun Q0 a_0 hQ0 hN0 hs0 => ?_)
 refine cd_region fun K1 hK1 => ?_
 refine sq rfl (st_box hs0 (Ev.t 0 rfl) rfl rfl rfl fun b2 _ _ hs1 => ?_); clear hs0
 refine sq rfl (st_box hs1 (Ev.t 2 rfl) rfl rfl rfl fun b3 _ _ hs2 => ?_); clear hs1
 refine sq rfl (st_alloc hs2 rfl rfl zeroValue35 rfl fun b4 _ _ hs3 => ?_); clear hs2
 refine sq rfl (st_assign hs3 (.const _) rfl rfl fun _ _ hs4 => ?_); clear hs3
 refine hK1 _ _ ?_; clear hK1
 have hs5 := hs4.keep [0, 1, 2, 3] [_, _, _, _] rfl; clear hs4
 refine cd_region fun K5 hK5 => ?_
 refine sq rfl (st_loadA (o := 0) (off := 0) (vs := (bxL b A n cp A2 n2 c2)) hs5 (Ev.t 3 rfl) rfl rfl isAgg25 sizeOf25 (hs5.cells 2 rfl) rfl fun _ _ hs6 => ?_); clear hs5
 refine sq rfl (st_call (vs := [.agg ⟨(bxL b A n cp A2 n2 c2)⟩, .bool true]) hs6 (.func _) ⟨(Ev.t 0 rfl), (.const _), trivial⟩ rfl rfl call45 rfl (asked_4 b A n cp A2 n2 c2 _ (hP.kp hs6.kp) hn (hF.kp hs6.kp) hn2 true hok rfl hm0) fun v6 bs7 a_7 w_7 hp7 hs7 => ?_); clear hs6
 obtain ⟨A7, c7, b7, o7, m7, es7, clk7, rfl, hO7, hE7, rfl⟩ := hp7
 have hs8 := Sx.as (T' := [_, _, _, _, _, _]) (B' := [_, _, _, _, _]) rfl rfl hs7; clear hs7
 refine sq rfl (st_move hs8 (Ev.t 0 rfl) rfl rfl fun _ _ hs9 => ?_); clear hs8
 refine sq rfl (st_extract hs9 (Ev.t 0 rfl) rfl rfl rfl fun _ _ hs10 => ?_); clear hs9
 refine sq rfl (st_extract hs10 (Ev.t 1 rfl) rfl rfl rfl fun _ _ hs11 => ?_); clear hs10
 refine sq rfl (st_alloc hs11 rfl rfl zeroValue66 rfl fun b8 _ _ hs12 => ?_); clear hs11
 refine sq rfl (st_store (l' := (boxL b A n cp A2 n2 c2 A7 n c7 m7)) (vs := (boxL b A n cp A2 n2 c2 A7 n c7 m7)) (i := 0) hs12 (Ev.t 0 rfl) (Ev.t 2 rfl) sizeOf66 rfl rfl rfl rfl rfl rfl fun _ _ hs13 => ?_); clear hs12
 have hs14 := hs13.asB [_, _, _, _, _, _] rfl; clear hs13
 refine sq rfl (st_assign hs14 (Ev.t 1 rfl) rfl rfl fun _ _ hs15 => ?_); clear hs14
 refine hK5 _ _ ?_; clear hK5
 have hs16 := hs15.keep [0, 1, 7, 8, 9] [_, _, _, _, _] rfl; clear hs15
 refine cd_seq fun K9 hK9 => ?_
 refine cd_region fun K10 hK10 => ?_
 refine sq rfl (st_move hs16 (Ev.t 0 rfl) rfl rfl fun _ _ hs17 => ?_); clear hs16
 refine sq rfl (st_cmp (c := false) hs17 (Ev.t 0 rfl) (.const _) rfl rfl rfl rfl fun _ _ hs18 => ?_); clear hs17
 refine hK10 _ _ ?_; clear hK10
 have hs19 := hs18.keep [0, 2, 3, 4, 5, 6] [_, _, _, _, _, _] rfl; clear hs18
 have hc11 : false = false := rfl
 refine cd_cond hs19 (Ev.t 0 rfl) (fun h => absurd (hc11.symm.trans h) (by decide)) (fun _ => ?_)
 refine cd_skip ?_
 refine th_norm (hK9 _ _ ?_)
 refine cd_region fun K12 hK12 => ?_
 refine sq rfl (st_loadA (o := 0) (off := 0) (vs := (boxL b A n cp A2 n2 c2 A7 n c7 m7)) hs19 (Ev.t 2 rfl) rfl rfl isAgg66 sizeOf66 (hs19.cells 0 rfl) rfl fun _ _ hs20 => ?_); clear hs19
 refine sq rfl (st_call (vs := [.agg ⟨(boxL b A n cp A2 n2 c2 A7 n c7 m7)⟩]) hs20 (.func _) ⟨(Ev.t 0 rfl), trivial⟩ rfl rfl call76 rfl (amounts_b b A n cp A2 n2 c2 A7 n c7 m7 b.sold _ (hP.kp hs20.kp) hn (by have h := hO7.at hs20 2 rfl; rw [soldlen hO, ← hP.len] at h; exact h) hO.wf) fun v13 bs14 a_21 w_21 hp21 hs21 => ?_); clear hs20
 obtain ⟨bw8, ow8, rfl, hOw8, rfl⟩ := hp21
 have hs22 := Sx.as (T' := [_, _, _, _, _, _, _, _]) (B' := [_, _, _, _, _, _, _]) rfl rfl hs21; clear hs21
 refine sq rfl (st_assign hs22 (Ev.t 0 rfl) rfl rfl fun _ _ hs23 => ?_); clear hs22
 refine hK12 _ _ ?_; clear hK12
 have hs24 := hs23.keep [0, 5, 6, 7, 8] [_, _, _, _, _] rfl; clear hs23
 refine cd_seq fun K15 hK15 => ?_
 refine cd_region fun K16 hK16 => ?_
 refine sq rfl (st_move hs24 (Ev.t 0 rfl) rfl rfl fun _ _ hs25 => ?_); clear hs24
 refine sq rfl (st_nilCheck hs25 (Ev.t 0 rfl) rfl rfl fun _ _ hs26 => ?_); clear hs25
 refine sq rfl (st_loadW (i := 0) hs26 (Ev.t 0 rfl) rfl rfl isAgg100 sizeOf100 hOw8 rfl arr_len fun _ _ hs27 => ?_); clear hs26
 refine sq rfl (st_build hs27 (qs := []) (v := .agg ⟨vals (arr (fun _ => 0))⟩) trivial rfl rfl rfl build100_nil fun _ _ hs28 => ?_); clear hs27
 refine sq rfl (st_bin (z := .bool false) hs28 (Ev.t 1 rfl) (Ev.t 0 rfl) (fun w_ => (run_eql_100 _ _ (cutA b (wf (sums [0] (its b.rolls b.sold))) 60001) (fun _ => 0) w_).trans (by rw [hcut])) rfl rfl fun _ _ hs29 => ?_); clear hs28
 refine hK16 _ _ ?_; clear hK16
 have hs30 := hs29.keep [0, 5, 6, 7, 8, 9] [_, _, _, _, _, _] rfl; clear hs29
 have hc17 : false = false := rfl
 refine cd_cond hs30 (Ev.t 0 rfl) (fun h => absurd (hc17.symm.trans h) (by decide)) (fun _ => ?_)
 refine cd_skip ?_
 refine th_norm (hK15 _ _ ?_)
 refine cd_region fun K18 hK18 => ?_
 refine sq rfl (st_alloc hs30 rfl rfl zeroValue35 rfl fun b19 _ _ hs31 => ?_); clear hs30
 refine hK18 _ _ ?_; clear hK18
 have hs32 := hs31.keep [0, 2, 3, 4, 5, 6] [_, _, _, _, _, _] rfl; clear hs31
 refine cd_region fun K20 hK20 => ?_
 refine sq rfl (st_assign hs32 (.const _) rfl rfl fun _ _ hs33 => ?_); clear hs32
 refine hK20 _ _ ?_; clear hK20
 refine cd_seq fun K21 hK21 => ?_
 refine cd_region fun K22 hK22 => ?_
 refine sq rfl (st_move hs33 (Ev.t 2 rfl) rfl rfl fun _ _ hs34 => ?_); clear hs33
 refine sq rfl (st_move hs34 (.const _) rfl rfl fun _ _ hs35 => ?_); clear hs34
 refine hK22 _ _ ?_; clear hK22
 have hs36 := hs35.keep [0, 1, 2, 3, 5, 6, 7, 8] [_, _, _, _, _, _, _, _] rfl; clear hs35
 refine cd_block ?_
 have hs37 : Sx 66 [] [(32, .int .i64 (0 : Int)), (31, .pointer (some ⟨bw8, 0, none⟩)), (10, .bool (!(b.amtsTo 0).isEmpty)), (9, .pointer (some ⟨b19, 0, none⟩)), (6, .pointer (some ⟨b8, 0, none⟩)), (5, .int .i64 0), (4, .pointer (some ⟨b4, 0, none⟩)), (3, .pointer (some ⟨b3, 0, none⟩))] [(b19, some (.cells ⟨[.int .i64 ((spanOf ((b.amtsTo 0).map (wholeI b))).lo), .int .i64 ((spanOf ((b.amtsTo 0).map (wholeI b))).hi)]⟩ 35 (0, 0))), (bw8, ow8), (b8, some (.cells ⟨(boxL b A n cp A2 n2 c2 A7 n c7 m7)⟩ 66 (0, 0))), (m7, some (.map es7 clk7)), (b7, o7), (b4, some (.cells ⟨[.int .i64 0, .int .i64 0]⟩ 35 (0, 0))), (b3, some (.cells ⟨[.func (.func 95) ⟨[]⟩ ⟨[]⟩]⟩ 83 (0, 0))), (b2, some (.cells ⟨(bxL b A n cp A2 n2 c2)⟩ 25 (0, 0)))] [] w _ _ := Sx.keepE [0, 1, 2, 3, 4, 5, 6, 7] _ ⟨⟨_, rfl, rfl⟩, ⟨_, rfl, rfl⟩, ⟨_, rfl, rfl⟩, ⟨_, rfl, rfl⟩, ⟨_, rfl, rfl⟩, ⟨_, rfl, rfl⟩, ⟨_, rfl, rfl⟩, ⟨_, rfl, rfl⟩, trivial⟩ hs36; clear hs36
 refine cd_loop (X := Nat) (fun g a_ w_ => (g ≤ 60001) ∧ Sx 66 [] [(32, .int .i64 (g : Int)), (31, .pointer (some ⟨bw8, 0, none⟩)), (10, .bool (!(b.amtsTo g).isEmpty)), (9, .pointer (some ⟨b19, 0, none⟩)), (6, .pointer (some ⟨b8, 0, none⟩)), (5, .int .i64 0), (4, .pointer (some ⟨b4, 0, none⟩)), (3, .pointer (some ⟨b3, 0, none⟩))] [(b19, some (.cells ⟨[.int .i64 ((spanOf ((b.amtsTo g).map (wholeI b))).lo), .int .i64 ((spanOf ((b.amtsTo g).map (wholeI b))).hi)]⟩ 35 (0, 0))), (bw8, ow8), (b8, some (.cells ⟨(boxL b A n cp A2 n2 c2 A7 n c7 m7)⟩ 66 (0, 0))), (m7, some (.map es7 clk7)), (b7, o7), (b4, some (.cells ⟨[.int .i64 0, .int .i64 0]⟩ 35 (0, 0))), (b3, some (.cells ⟨[.func (.func 95) ⟨[]⟩ ⟨[]⟩]⟩ 83 (0, 0))), (b2, some (.cells ⟨(bxL b A n cp A2 n2 c2)⟩ 25 (0, 0)))] [] w a_ w_) (fun g => 60001 - g) (0) ⟨?_, hs37⟩ ?_
 · exact Nat.zero_le _
 intro g a_38 w_38 ⟨hj, hs38⟩; clear hs37
 refine cd_region fun K23 hK23 => ?_
 refine sq rfl (st_cmp (c := decide (((g : Int) : Int) < 60001)) hs38 (Ev.t 0 rfl) (.const _) rfl rfl rfl rfl fun _ _ hs39 => ?_); clear hs38
 refine hK23 _ _ ?_; clear hK23
 refine cd_seq fun K24 hK24 => ?_
 refine cd_cond hs39 (Ev.t 0 rfl) (fun hc25 => ?_) (fun hc25 => ?_)
 · have hjn : g < 60001 := by simp at hc25; omega
   have ht : 0 ≤ (g : Int) ∧ (g : Int) ≤ 60000 := by omega
   have hFg := hFb g ht.1 ht.2
   have hsb := spanOf_bd (l := (b.amtsTo g).map (wholeI b)) (c := 60000) (by omega) (fun x hx => by obtain ⟨y, hy, rfl⟩ := List.mem_map.1 hx; have h7 := amts_at hy; exact hFb y h7.1 (by omega))
   refine cd_skip ?_
   refine th_norm (hK24 _ _ ?_)
   refine cd_seq fun K26 hK26 => ?_
   refine cd_block ?_
   refine cd_drawn mixed hs39 [⟨34, [], Is (.int .i64 (g : Int))⟩, ⟨35, [], Is (.pointer (some ⟨bw8, 0, none⟩))⟩, ⟨36, [1], Is (.pointer (some ⟨bw8, g * 1, none⟩))⟩, ⟨37, [2], Is (.int .i64 ((cutA b (wf (sums [0] (its b.rolls b.sold))) 60001) g))⟩, ⟨11, [0], Is (.int .i64 (g : Int))⟩] (by kernel_rfl) (by kernel_rfl) fun K27 hK27 => ⟨⟨?_, ?_, ?_, ?_, ?_, trivial⟩, ?_⟩
   · rintro T_ B_ a_ w_ K_ hT hB hf hsD hk
     exact ob rfl rfl (st_move hsD (evT hT 1 rfl) rfl hf fun _ _ => hk _ _ _ _ ⟨rfl, rfl⟩)
   · rintro T_ B_ a_ w_ K_ hT hB hf hsD hk
     exact ob rfl rfl (st_nilCheck hsD (evT hT 2 rfl) rfl hf fun _ _ => hk _ _ _ _ ⟨rfl, rfl⟩)
   · rintro T_ B_ a_ w_ K_ hT hB _ _ ⟨rfl, rfl⟩ h35 - hf hsD hk
     exact ob rfl rfl (st_indexArr (o' := g * 1) hsD (Ev.tmp h35) (evT hT 1 rfl) rfl hf runUnderlying100 sizeOf3 ⟨by omega, by omega⟩ (by simp) fun _ _ => hk _ _ _ _ ⟨rfl, rfl⟩)
   · rintro T_ B_ a_ w_ K_ hT hB _ _ ⟨rfl, rfl⟩ h36 - hf hsD hk
     exact ob rfl rfl (st_load1 (o := (g * 1)) (off := 0) (v := .int .i64 ((cutA b (wf (sums [0] (its b.rolls b.sold))) 60001) g)) hsD (Ev.tmp h36) rfl hf isAgg3 (own_cellM hsD hOw8 (hB _ (mem_nth (i := 1) rfl)) (arr_at (by omega))) rfl fun _ _ => hk _ _ _ _ ⟨rfl, rfl⟩)
   · rintro T_ B_ a_ w_ K_ hT hB _ _ ⟨rfl, rfl⟩ h34 - hf hsD hk
     exact ob rfl rfl (st_assign hsD (Ev.tmp h34) rfl hf fun _ _ => hk _ _ _ _ ⟨rfl, rfl⟩)
   rintro _ _ ⟨rfl, rfl⟩ _ _ ⟨rfl, rfl⟩ _ _ ⟨rfl, rfl⟩ _ _ ⟨rfl, rfl⟩ _ _ ⟨rfl, rfl⟩ a_40 w_40 hs40; clear hs39
   have hs41 := Sx.as (T' := [_, _, _, _, _, _, _, _, _, _, _, _, _, _]) (B' := [_, _, _, _, _, _, _, _]) rfl rfl hs40; clear hs40
   refine sq rfl (st_assign hs41 (Ev.t 3 rfl) rfl rfl fun _ _ hs42 => ?_); clear hs41
   refine hK27 _ _ ?_; clear hK27
   have hs43 := hs42.keep [0, 5, 7, 8, 9, 10, 11, 12, 13, 14] [_, _, _, _, _, _, _, _, _, _] rfl; clear hs42
   refine cd_seq fun K28 hK28 => ?_
   refine cd_region fun K29 hK29 => ?_
   refine sq rfl (st_move hs43 (Ev.t 0 rfl) rfl rfl fun _ _ hs44 => ?_); clear hs43
   refine sq rfl (st_cmp (c := ((cutA b (wf (sums [0] (its b.rolls b.sold))) 60001) g : Int) == 0) hs44 (Ev.t 0 rfl) (.const _) rfl rfl rfl rfl fun _ _ hs45 => ?_); clear hs44
   refine hK29 _ _ ?_; clear hK29
   have hs46 := hs45.keep [0, 3, 4, 5, 6, 7, 8, 9, 10, 11] [_, _, _, _, _, _, _, _, _, _] rfl; clear hs45
   refine cd_cond hs46 (Ev.t 0 rfl) (fun hc30 => ?_) (fun hc30 => ?_)
   · have hsk : b.amtsTo (g + 1) = b.amtsTo g := amts_skip (fun h => (cutA_pos (L := b.all) hjn).2 h (by have h9 := hc30; rw [beq_iff_eq] at h9; exact h9))
     refine cd_exit ?_
     refine th_exit ?_
     refine in_hit ?_
     refine th_norm (hK26 _ _ ?_)
     refine cd_region1 ?_
     refine sq rfl (st_add (z := (g : Int) + 1) hs46 (Ev.t 2 rfl) (.const _) rfl rfl rfl (by omega) fun _ _ hs47 => ?_); clear hs46
     have hs48 := hs47.keep [0, 1, 2, 4, 5, 6, 7, 8, 9, 10] [_, _, _, _, _, _, _, _, _, _] rfl; clear hs47
     refine sq rfl (st_move hs48 (Ev.t 0 rfl) rfl rfl fun _ _ hs49 => ?_); clear hs48
     refine wpListIn_nil ?_
     have hs50 := hs49.keep [0, 4, 5, 6, 7, 8, 9, 10] [_, _, _, _, _, _, _, _] rfl; clear hs49
     refine ⟨g + 1, ⟨?_, ?_⟩, by (show 60001 - (g + 1) < 60001 - g; omega)⟩
     · exact hjn
     have hs51 := hs50.asB [(b19, some (.cells ⟨[.int .i64 ((spanOf ((b.amtsTo (g + 1)).map (wholeI b))).lo), .int .i64 ((spanOf ((b.amtsTo (g + 1)).map (wholeI b))).hi)]⟩ 35 (0, 0))), (bw8, ow8), (b8, some (.cells ⟨(boxL b A n cp A2 n2 c2 A7 n c7 m7)⟩ 66 (0, 0))), (m7, some (.map es7 clk7)), (b7, o7), (b4, some (.cells ⟨[.int .i64 0, .int .i64 0]⟩ 35 (0, 0))), (b3, some (.cells ⟨[.func (.func 95) ⟨[]⟩ ⟨[]⟩]⟩ 83 (0, 0))), (b2, some (.cells ⟨(bxL b A n cp A2 n2 c2)⟩ 25 (0, 0)))] (by (rw [hsk]) <;> rfl); clear hs50
     exact Sx.keepE [0, 1, 2, 3, 4, 5, 6, 7] _ ⟨⟨_, rfl, rfl⟩, ⟨_, rfl, rfl⟩, ⟨_, rfl, by rw [hsk]⟩, ⟨_, rfl, rfl⟩, ⟨_, rfl, rfl⟩, ⟨_, rfl, rfl⟩, ⟨_, rfl, rfl⟩, ⟨_, rfl, rfl⟩, trivial⟩ hs51
   · have hsn := amts_snoc ((cutA_pos (b := b) (L := b.all) hjn).1 (by have h9 := hc30; rw [beq_eq_false_iff_ne] at h9; exact h9))
     refine cd_skip ?_
     refine th_norm (hK28 _ _ ?_)
     refine cd_region fun K31 hK31 => ?_
     refine sq rfl (st_field (o' := 0) hs46 (Ev.t 9 rfl) rfl rfl runUnderlying83 rfl sizeOf80 rfl rfl fun _ _ hs47 => ?_); clear hs46
     refine sq rfl (st_load1 (o := 0) (off := 0) (v := .func (.func 95) ⟨[]⟩ ⟨[]⟩) hs47 (Ev.t 0 rfl) rfl rfl isAgg80 (hs47.cells 6 rfl) rfl fun _ _ hs48 => ?_); clear hs47
     refine sq rfl (st_loadA (o := 0) (off := 0) (vs := (boxL b A n cp A2 n2 c2 A7 n c7 m7)) hs48 (Ev.t 8 rfl) rfl rfl isAgg66 sizeOf66 (hs48.cells 2 rfl) rfl fun _ _ hs49 => ?_); clear hs48
     refine sq rfl (st_move hs49 (Ev.t 4 rfl) rfl rfl fun _ _ hs50 => ?_); clear hs49
     refine sq rfl (st_callv (vs := [.agg ⟨(boxL b A n cp A2 n2 c2 A7 n c7 m7)⟩, .int .i64 (g : Int)]) hs50 (Ev.t 2 rfl) ⟨(Ev.t 1 rfl), (Ev.t 0 rfl), trivial⟩ rfl rfl call95 rfl (whole_v b A n cp A2 n2 c2 A7 n c7 m7 (g : Int) _) fun _ _ hs51 => ?_); clear hs50
     refine sq rfl (st_assign hs51 (Ev.t 0 rfl) rfl rfl fun _ _ hs52 => ?_); clear hs51
     refine hK31 _ _ ?_; clear hK31
     have hs53 := hs52.keep [0, 8, 9, 10, 11, 12, 13, 14, 15] [_, _, _, _, _, _, _, _, _] rfl; clear hs52
     refine cd_seq fun K32 hK32 => ?_
     refine cd_region fun K33 hK33 => ?_
     refine sq rfl (st_move hs53 (Ev.t 3 rfl) rfl rfl fun _ _ hs54 => ?_); clear hs53
     refine sq rfl (st_not hs54 (Ev.t 0 rfl) rfl rfl fun _ _ hs55 => ?_); clear hs54
     refine hK33 _ _ ?_; clear hK33
     have hs56 := hs55.keep [0, 2, 3, 4, 5, 6, 7, 8, 9, 10] [_, _, _, _, _, _, _, _, _, _] rfl; clear hs55
     refine cd_cond hs56 (Ev.t 0 rfl) (fun hc34 => ?_) (fun hc34 => ?_)
     · have h0 : b.amtsTo g = [] := by simpa using hc34
       refine cd_region1 ?_
       refine sq rfl (st_move hs56 (Ev.t 1 rfl) rfl rfl fun _ _ hs57 => ?_); clear hs56
       refine sq rfl (st_move hs57 (Ev.t 2 rfl) rfl rfl fun _ _ hs58 => ?_); clear hs57
       refine sq rfl (st_build hs58 (qs := [(0, .int .i64 (wholeI b (g : Int))), (1, .int .i64 (wholeI b (g : Int)))]) (v := .agg ⟨[.int .i64 (wholeI b (g : Int)), .int .i64 (wholeI b (g : Int))]⟩) ⟨(Ev.t 1 rfl), (Ev.t 0 rfl), trivial⟩ rfl rfl rfl (fun _ => by kernel_rfl) fun _ _ hs59 => ?_); clear hs58
       refine sq rfl (st_store (l' := [.int .i64 (wholeI b (g : Int)), .int .i64 (wholeI b (g : Int))]) (vs := [.int .i64 (wholeI b (g : Int)), .int .i64 (wholeI b (g : Int))]) (i := 0) hs59 (Ev.t 8 rfl) (Ev.t 0 rfl) sizeOf35 rfl rfl rfl rfl rfl rfl fun _ _ hs60 => ?_); clear hs59
       have hs61 := hs60.asB [_, _, _, _, _, _, _, _] rfl; clear hs60
       have hs62 := hs61.keep [0, 1, 2, 3, 4, 5, 6, 8, 9, 10, 11, 12] [_, _, _, _, _, _, _, _, _, _, _, _] rfl; clear hs61
       refine sq rfl (st_assign hs62 (.const _) rfl rfl fun _ _ hs63 => ?_); clear hs62
       refine wpListIn_nil ?_
       have hs64 := hs63.keep [0, 5, 6, 7, 8, 9, 10, 11, 12] [_, _, _, _, _, _, _, _, _] rfl; clear hs63
       refine th_norm (hK32 _ _ ?_)
       refine cd_drawn1 mixed hs64 [⟨50, [], Is (.pointer (some ⟨b19, 0, none⟩))⟩, ⟨51, [0], Is (.int .i64 (wholeI b (g : Int)))⟩, ⟨52, [1], Is (.int .i64 (-(wholeI b (g : Int))))⟩, ⟨53, [], Is (.int .i64 (wholeI b (g : Int)))⟩, ⟨54, [3], Is (.int .i64 (-(wholeI b (g : Int))))⟩, ⟨55, [4], fun v_ bs_ => ∃ b35, v_ = .slice (some ⟨b35, 0, none⟩) 1 1 ∧ bs_ = [(b35, some (.cells ⟨[.int .i64 (-(wholeI b (g : Int)))]⟩ 3 (0, 0)))]⟩, ⟨56, [2, 5], Is (.int .i64 (max (-(wholeI b (g : Int))) (-(wholeI b (g : Int)))))⟩, ⟨57, [6], Is (.int .i64 (-(max (-(wholeI b (g : Int))) (-(wholeI b (g : Int))))))⟩, ⟨58, [], Is (.pointer (some ⟨b19, 1, none⟩))⟩, ⟨59, [8], Is (.int .i64 (wholeI b (g : Int)))⟩, ⟨60, [], Is (.int .i64 (wholeI b (g : Int)))⟩, ⟨61, [10], fun v_ bs_ => ∃ b36, v_ = .slice (some ⟨b36, 0, none⟩) 1 1 ∧ bs_ = [(b36, some (.cells ⟨[.int .i64 (wholeI b (g : Int))]⟩ 3 (0, 0)))]⟩, ⟨62, [9, 11], Is (.int .i64 (max (wholeI b (g : Int)) (wholeI b (g : Int))))⟩] (by kernel_rfl) (by kernel_rfl) ⟨⟨?_, ?_, ?_, ?_, ?_, ?_, ?_, ?_, ?_, ?_, ?_, ?_, ?_, trivial⟩, ?_⟩
       · rintro T_ B_ a_ w_ K_ hT hB hf hsD hk
         exact ob rfl rfl (st_field (o' := 0) hsD (evT hT 4 rfl) rfl hf runUnderlying35 rfl sizeOf3 rfl rfl fun _ _ => hk _ _ _ _ ⟨rfl, rfl⟩)
       · rintro T_ B_ a_ w_ K_ hT hB _ _ ⟨rfl, rfl⟩ h50 - hf hsD hk
         exact ob rfl rfl (st_load1 (o := 0) (off := 0) (v := .int .i64 (wholeI b (g : Int))) hsD (Ev.tmp h50) rfl hf isAgg3 (hsD.cellsM (inB hB 0 rfl)) rfl fun _ _ => hk _ _ _ _ ⟨rfl, rfl⟩)
       · rintro T_ B_ a_ w_ K_ hT hB _ _ ⟨rfl, rfl⟩ h51 - hf hsD hk
         exact ob rfl rfl (st_neg hsD (Ev.tmp h51) rfl hf (by omega) fun _ _ => hk _ _ _ _ ⟨rfl, rfl⟩)
       · rintro T_ B_ a_ w_ K_ hT hB hf hsD hk
         exact ob rfl rfl (st_move hsD (evT hT 1 rfl) rfl hf fun _ _ => hk _ _ _ _ ⟨rfl, rfl⟩)
       · rintro T_ B_ a_ w_ K_ hT hB _ _ ⟨rfl, rfl⟩ h53 - hf hsD hk
         exact ob rfl rfl (st_neg hsD (Ev.tmp h53) rfl hf (by omega) fun _ _ => hk _ _ _ _ ⟨rfl, rfl⟩)
       · rintro T_ B_ a_ w_ K_ hT hB _ _ ⟨rfl, rfl⟩ h54 - hf hsD hk
         exact ob rfl rfl (st_buildSlice hsD (qs := [(0, .int .i64 (-(wholeI b (g : Int))))]) (e := 3) (l := [.int .i64 (-(wholeI b (g : Int)))]) ⟨(Ev.tmp h54), trivial⟩ rfl hf rfl (fun _ => by kernel_rfl) fun b35 _ _ => hk _ _ _ _ ⟨b35, rfl, rfl⟩)
       · rintro T_ B_ a_ w_ K_ hT hB _ _ ⟨rfl, rfl⟩ h52 - _ _ ⟨b35, rfl, rfl⟩ h55 hB55 hf hsD hk
         exact ob rfl rfl (st_callv (vs := [.int .i64 (-(wholeI b (g : Int))), .slice (some ⟨b35, 0, none⟩) 1 1]) hsD (.func _) ⟨(Ev.tmp h52), (Ev.tmp h55), trivial⟩ rfl hf call49 rfl (great_v (-(wholeI b (g : Int))) (-(wholeI b (g : Int))) b35 _ (hsD.cellsM (hB55 _ List.mem_cons_self))) fun _ _ => hk _ _ _ _ ⟨rfl, rfl⟩)
       · rintro T_ B_ a_ w_ K_ hT hB _ _ ⟨rfl, rfl⟩ h56 - hf hsD hk
         exact ob rfl rfl (st_neg hsD (Ev.tmp h56) rfl hf (by omega) fun _ _ => hk _ _ _ _ ⟨rfl, rfl⟩)
       · rintro T_ B_ a_ w_ K_ hT hB hf hsD hk
         exact ob rfl rfl (st_field (o' := 1) hsD (evT hT 4 rfl) rfl hf runUnderlying35 rfl sizeOf3 rfl rfl fun _ _ => hk _ _ _ _ ⟨rfl, rfl⟩)
       · rintro T_ B_ a_ w_ K_ hT hB _ _ ⟨rfl, rfl⟩ h58 - hf hsD hk
         exact ob rfl rfl (st_load1 (o := 0) (off := 1) (v := .int .i64 (wholeI b (g : Int))) hsD (Ev.tmp h58) rfl hf isAgg3 (hsD.cellsM (inB hB 0 rfl)) rfl fun _ _ => hk _ _ _ _ ⟨rfl, rfl⟩)
       · rintro T_ B_ a_ w_ K_ hT hB hf hsD hk
         exact ob rfl rfl (st_move hsD (evT hT 1 rfl) rfl hf fun _ _ => hk _ _ _ _ ⟨rfl, rfl⟩)
       · rintro T_ B_ a_ w_ K_ hT hB _ _ ⟨rfl, rfl⟩ h60 - hf hsD hk
         exact ob rfl rfl (st_buildSlice hsD (qs := [(0, .int .i64 (wholeI b (g : Int)))]) (e := 3) (l := [.int .i64 (wholeI b (g : Int))]) ⟨(Ev.tmp h60), trivial⟩ rfl hf rfl (fun _ => by kernel_rfl) fun b36 _ _ => hk _ _ _ _ ⟨b36, rfl, rfl⟩)
       · rintro T_ B_ a_ w_ K_ hT hB _ _ ⟨rfl, rfl⟩ h59 - _ _ ⟨b36, rfl, rfl⟩ h61 hB61 hf hsD hk
         exact ob rfl rfl (st_callv (vs := [.int .i64 (wholeI b (g : Int)), .slice (some ⟨b36, 0, none⟩) 1 1]) hsD (.func _) ⟨(Ev.tmp h59), (Ev.tmp h61), trivial⟩ rfl hf call49 rfl (great_v (wholeI b (g : Int)) (wholeI b (g : Int)) b36 _ (hsD.cellsM (hB61 _ List.mem_cons_self))) fun _ _ => hk _ _ _ _ ⟨rfl, rfl⟩)
       rintro _ _ ⟨rfl, rfl⟩ _ _ ⟨rfl, rfl⟩ _ _ ⟨rfl, rfl⟩ _ _ ⟨rfl, rfl⟩ _ _ ⟨rfl, rfl⟩ _ _ ⟨b35, rfl, rfl⟩ _ _ ⟨rfl, rfl⟩ _ _ ⟨rfl, rfl⟩ _ _ ⟨rfl, rfl⟩ _ _ ⟨rfl, rfl⟩ _ _ ⟨rfl, rfl⟩ _ _ ⟨b36, rfl, rfl⟩ _ _ ⟨rfl, rfl⟩ a_65 w_65 hs65; clear hs64
       have hs66 := Sx.as (T' := [_, _, _, _, _, _, _, _, _, _, _, _, _, _, _, _, _, _, _, _, _, _]) (B' := [_, _, _, _, _, _, _, _, _, _]) rfl rfl hs65; clear hs65
       refine sq rfl (st_build hs66 (qs := [(0, .int .i64 (-(max (-(wholeI b (g : Int))) (-(wholeI b (g : Int)))))), (1, .int .i64 (max (wholeI b (g : Int)) (wholeI b (g : Int))))]) (v := .agg ⟨[.int .i64 (-(max (-(wholeI b (g : Int))) (-(wholeI b (g : Int))))), .int .i64 (max (wholeI b (g : Int)) (wholeI b (g : Int)))]⟩) ⟨(Ev.t 7 rfl), (Ev.t 12 rfl), trivial⟩ rfl rfl rfl (fun _ => by kernel_rfl) fun _ _ hs67 => ?_); clear hs66
       refine sq rfl (st_store (l' := [.int .i64 (-(max (-(wholeI b (g : Int))) (-(wholeI b (g : Int))))), .int .i64 (max (wholeI b (g : Int)) (wholeI b (g : Int)))]) (vs := [.int .i64 (-(max (-(wholeI b (g : Int))) (-(wholeI b (g : Int))))), .int .i64 (max (wholeI b (g : Int)) (wholeI b (g : Int)))]) (i := 2) hs67 (Ev.t 18 rfl) (Ev.t 0 rfl) sizeOf35 rfl rfl rfl rfl rfl rfl fun _ _ hs68 => ?_); clear hs67
       have hs69 := hs68.asB [_, _, _, _, _, _, _, _, _, _] rfl; clear hs68
       refine wpListIn_nil ?_
       have hs70 := hs69.keep [14, 16, 17, 18, 19, 20, 21, 22] [_, _, _, _, _, _, _, _] rfl; clear hs69
       refine in_norm ?_
       refine th_norm (hK26 _ _ ?_)
       refine cd_region1 ?_
       refine sq rfl (st_add (z := (g : Int) + 1) hs70 (Ev.t 1 rfl) (.const _) rfl rfl rfl (by omega) fun _ _ hs71 => ?_); clear hs70
       have hs72 := hs71.keep [0, 1, 3, 4, 5, 6, 7, 8] [_, _, _, _, _, _, _, _] rfl; clear hs71
       refine sq rfl (st_move hs72 (Ev.t 0 rfl) rfl rfl fun _ _ hs73 => ?_); clear hs72
       refine wpListIn_nil ?_
       have hs74 := hs73.keep [0, 2, 3, 4, 5, 6, 7, 8] [_, _, _, _, _, _, _, _] rfl; clear hs73
       refine ⟨g + 1, ⟨?_, ?_⟩, by (show 60001 - (g + 1) < 60001 - g; omega)⟩
       · exact hjn
       have hs75 : Sx 66 [] [(32, .int .i64 ((g : Int) + 1)), (10, .bool true), (31, .pointer (some ⟨bw8, 0, none⟩)), (9, .pointer (some ⟨b19, 0, none⟩)), (6, .pointer (some ⟨b8, 0, none⟩)), (5, .int .i64 0), (4, .pointer (some ⟨b4, 0, none⟩)), (3, .pointer (some ⟨b3, 0, none⟩))] [(b19, some (.cells ⟨[.int .i64 (-(max (-(wholeI b (g : Int))) (-(wholeI b (g : Int))))), .int .i64 (max (wholeI b (g : Int)) (wholeI b (g : Int)))]⟩ 35 (0, 0))), (bw8, ow8), (b8, some (.cells ⟨(boxL b A n cp A2 n2 c2 A7 n c7 m7)⟩ 66 (0, 0))), (m7, some (.map es7 clk7)), (b7, o7), (b4, some (.cells ⟨[.int .i64 0, .int .i64 0]⟩ 35 (0, 0))), (b3, some (.cells ⟨[.func (.func 95) ⟨[]⟩ ⟨[]⟩]⟩ 83 (0, 0))), (b2, some (.cells ⟨(bxL b A n cp A2 n2 c2)⟩ 25 (0, 0)))] [] w _ _ := Sx.blks hs74 ((List.Sublist.cons _ (List.Sublist.cons _ (List.Sublist.cons_cons _ (List.Sublist.cons_cons _ (List.Sublist.cons_cons _ (List.Sublist.cons_cons _ (List.Sublist.cons_cons _ (List.Sublist.cons_cons _ (List.Sublist.cons_cons _ (List.Sublist.cons_cons _ List.Sublist.slnil)))))))))))
       have hsp : spanOf ((b.amtsTo (g + 1)).map (wholeI b)) = ⟨-max (-((wholeI b) (g : Int))) (-((wholeI b) (g : Int))), max ((wholeI b) (g : Int)) ((wholeI b) (g : Int))⟩ := by
         rw [hsn, List.map_append, List.map_singleton, h0, List.map_nil]; exact span_one
       have hs76 := hs75.asB [(b19, some (.cells ⟨[.int .i64 ((spanOf ((b.amtsTo (g + 1)).map (wholeI b))).lo), .int .i64 ((spanOf ((b.amtsTo (g + 1)).map (wholeI b))).hi)]⟩ 35 (0, 0))), (bw8, ow8), (b8, some (.cells ⟨(boxL b A n cp A2 n2 c2 A7 n c7 m7)⟩ 66 (0, 0))), (m7, some (.map es7 clk7)), (b7, o7), (b4, some (.cells ⟨[.int .i64 0, .int .i64 0]⟩ 35 (0, 0))), (b3, some (.cells ⟨[.func (.func 95) ⟨[]⟩ ⟨[]⟩]⟩ 83 (0, 0))), (b2, some (.cells ⟨(bxL b A n cp A2 n2 c2)⟩ 25 (0, 0)))] (by (rw [hsp]) <;> rfl); clear hs75
       exact Sx.keepE [0, 2, 1, 3, 4, 5, 6, 7] _ ⟨⟨_, rfl, rfl⟩, ⟨_, rfl, rfl⟩, ⟨_, rfl, by rw [hsn]; simp⟩, ⟨_, rfl, rfl⟩, ⟨_, rfl, rfl⟩, ⟨_, rfl, rfl⟩, ⟨_, rfl, rfl⟩, ⟨_, rfl, rfl⟩, trivial⟩ hs76
     · have hne : b.amtsTo g ≠ [] := by simpa using hc34
       refine cd_skip ?_
       refine th_norm (hK32 _ _ ?_)
       refine cd_drawn1 mixed hs56 [⟨50, [], Is (.pointer (some ⟨b19, 0, none⟩))⟩, ⟨51, [0], Is (.int .i64 ((spanOf ((b.amtsTo g).map (wholeI b))).lo))⟩, ⟨52, [1], Is (.int .i64 (-((spanOf ((b.amtsTo g).map (wholeI b))).lo)))⟩, ⟨53, [], Is (.int .i64 (wholeI b (g : Int)))⟩, ⟨54, [3], Is (.int .i64 (-(wholeI b (g : Int))))⟩, ⟨55, [4], fun v_ bs_ => ∃ b37, v_ = .slice (some ⟨b37, 0, none⟩) 1 1 ∧ bs_ = [(b37, some (.cells ⟨[.int .i64 (-(wholeI b (g : Int)))]⟩ 3 (0, 0)))]⟩, ⟨56, [2, 5], Is (.int .i64 (max (-((spanOf ((b.amtsTo g).map (wholeI b))).lo)) (-(wholeI b (g : Int)))))⟩, ⟨57, [6], Is (.int .i64 (-(max (-((spanOf ((b.amtsTo g).map (wholeI b))).lo)) (-(wholeI b (g : Int))))))⟩, ⟨58, [], Is (.pointer (some ⟨b19, 1, none⟩))⟩, ⟨59, [8], Is (.int .i64 ((spanOf ((b.amtsTo g).map (wholeI b))).hi))⟩, ⟨60, [], Is (.int .i64 (wholeI b (g : Int)))⟩, ⟨61, [10], fun v_ bs_ => ∃ b38, v_ = .slice (some ⟨b38, 0, none⟩) 1 1 ∧ bs_ = [(b38, some (.cells ⟨[.int .i64 (wholeI b (g : Int))]⟩ 3 (0, 0)))]⟩, ⟨62, [9, 11], Is (.int .i64 (max ((spanOf ((b.amtsTo g).map (wholeI b))).hi) (wholeI b (g : Int))))⟩] (by kernel_rfl) (by kernel_rfl) ⟨⟨?_, ?_, ?_, ?_, ?_, ?_, ?_, ?_, ?_, ?_, ?_, ?_, ?_, trivial⟩, ?_⟩
       · rintro T_ B_ a_ w_ K_ hT hB hf hsD hk
         exact ob rfl rfl (st_field (o' := 0) hsD (evT hT 5 rfl) rfl hf runUnderlying35 rfl sizeOf3 rfl rfl fun _ _ => hk _ _ _ _ ⟨rfl, rfl⟩)
       · rintro T_ B_ a_ w_ K_ hT hB _ _ ⟨rfl, rfl⟩ h50 - hf hsD hk
         exact ob rfl rfl (st_load1 (o := 0) (off := 0) (v := .int .i64 ((spanOf ((b.amtsTo g).map (wholeI b))).lo)) hsD (Ev.tmp h50) rfl hf isAgg3 (hsD.cellsM (inB hB 0 rfl)) rfl fun _ _ => hk _ _ _ _ ⟨rfl, rfl⟩)
       · rintro T_ B_ a_ w_ K_ hT hB _ _ ⟨rfl, rfl⟩ h51 - hf hsD hk
         exact ob rfl rfl (st_neg hsD (Ev.tmp h51) rfl hf (by omega) fun _ _ => hk _ _ _ _ ⟨rfl, rfl⟩)
       · rintro T_ B_ a_ w_ K_ hT hB hf hsD hk
         exact ob rfl rfl (st_move hsD (evT hT 1 rfl) rfl hf fun _ _ => hk _ _ _ _ ⟨rfl, rfl⟩)
       · rintro T_ B_ a_ w_ K_ hT hB _ _ ⟨rfl, rfl⟩ h53 - hf hsD hk
         exact ob rfl rfl (st_neg hsD (Ev.tmp h53) rfl hf (by omega) fun _ _ => hk _ _ _ _ ⟨rfl, rfl⟩)
       · rintro T_ B_ a_ w_ K_ hT hB _ _ ⟨rfl, rfl⟩ h54 - hf hsD hk
         exact ob rfl rfl (st_buildSlice hsD (qs := [(0, .int .i64 (-(wholeI b (g : Int))))]) (e := 3) (l := [.int .i64 (-(wholeI b (g : Int)))]) ⟨(Ev.tmp h54), trivial⟩ rfl hf rfl (fun _ => by kernel_rfl) fun b37 _ _ => hk _ _ _ _ ⟨b37, rfl, rfl⟩)
       · rintro T_ B_ a_ w_ K_ hT hB _ _ ⟨rfl, rfl⟩ h52 - _ _ ⟨b37, rfl, rfl⟩ h55 hB55 hf hsD hk
         exact ob rfl rfl (st_callv (vs := [.int .i64 (-((spanOf ((b.amtsTo g).map (wholeI b))).lo)), .slice (some ⟨b37, 0, none⟩) 1 1]) hsD (.func _) ⟨(Ev.tmp h52), (Ev.tmp h55), trivial⟩ rfl hf call49 rfl (great_v (-((spanOf ((b.amtsTo g).map (wholeI b))).lo)) (-(wholeI b (g : Int))) b37 _ (hsD.cellsM (hB55 _ List.mem_cons_self))) fun _ _ => hk _ _ _ _ ⟨rfl, rfl⟩)
       · rintro T_ B_ a_ w_ K_ hT hB _ _ ⟨rfl, rfl⟩ h56 - hf hsD hk
         exact ob rfl rfl (st_neg hsD (Ev.tmp h56) rfl hf (by omega) fun _ _ => hk _ _ _ _ ⟨rfl, rfl⟩)
       · rintro T_ B_ a_ w_ K_ hT hB hf hsD hk
         exact ob rfl rfl (st_field (o' := 1) hsD (evT hT 5 rfl) rfl hf runUnderlying35 rfl sizeOf3 rfl rfl fun _ _ => hk _ _ _ _ ⟨rfl, rfl⟩)
       · rintro T_ B_ a_ w_ K_ hT hB _ _ ⟨rfl, rfl⟩ h58 - hf hsD hk
         exact ob rfl rfl (st_load1 (o := 0) (off := 1) (v := .int .i64 ((spanOf ((b.amtsTo g).map (wholeI b))).hi)) hsD (Ev.tmp h58) rfl hf isAgg3 (hsD.cellsM (inB hB 0 rfl)) rfl fun _ _ => hk _ _ _ _ ⟨rfl, rfl⟩)
       · rintro T_ B_ a_ w_ K_ hT hB hf hsD hk
         exact ob rfl rfl (st_move hsD (evT hT 1 rfl) rfl hf fun _ _ => hk _ _ _ _ ⟨rfl, rfl⟩)
       · rintro T_ B_ a_ w_ K_ hT hB _ _ ⟨rfl, rfl⟩ h60 - hf hsD hk
         exact ob rfl rfl (st_buildSlice hsD (qs := [(0, .int .i64 (wholeI b (g : Int)))]) (e := 3) (l := [.int .i64 (wholeI b (g : Int))]) ⟨(Ev.tmp h60), trivial⟩ rfl hf rfl (fun _ => by kernel_rfl) fun b38 _ _ => hk _ _ _ _ ⟨b38, rfl, rfl⟩)
       · rintro T_ B_ a_ w_ K_ hT hB _ _ ⟨rfl, rfl⟩ h59 - _ _ ⟨b38, rfl, rfl⟩ h61 hB61 hf hsD hk
         exact ob rfl rfl (st_callv (vs := [.int .i64 ((spanOf ((b.amtsTo g).map (wholeI b))).hi), .slice (some ⟨b38, 0, none⟩) 1 1]) hsD (.func _) ⟨(Ev.tmp h59), (Ev.tmp h61), trivial⟩ rfl hf call49 rfl (great_v ((spanOf ((b.amtsTo g).map (wholeI b))).hi) (wholeI b (g : Int)) b38 _ (hsD.cellsM (hB61 _ List.mem_cons_self))) fun _ _ => hk _ _ _ _ ⟨rfl, rfl⟩)
       rintro _ _ ⟨rfl, rfl⟩ _ _ ⟨rfl, rfl⟩ _ _ ⟨rfl, rfl⟩ _ _ ⟨rfl, rfl⟩ _ _ ⟨rfl, rfl⟩ _ _ ⟨b37, rfl, rfl⟩ _ _ ⟨rfl, rfl⟩ _ _ ⟨rfl, rfl⟩ _ _ ⟨rfl, rfl⟩ _ _ ⟨rfl, rfl⟩ _ _ ⟨rfl, rfl⟩ _ _ ⟨b38, rfl, rfl⟩ _ _ ⟨rfl, rfl⟩ a_57 w_57 hs57; clear hs56
       have hs58 := Sx.as (T' := [_, _, _, _, _, _, _, _, _, _, _, _, _, _, _, _, _, _, _, _, _, _, _]) (B' := [_, _, _, _, _, _, _, _, _, _]) rfl rfl hs57; clear hs57
       refine sq rfl (st_build hs58 (qs := [(0, .int .i64 (-(max (-((spanOf ((b.amtsTo g).map (wholeI b))).lo)) (-(wholeI b (g : Int)))))), (1, .int .i64 (max ((spanOf ((b.amtsTo g).map (wholeI b))).hi) (wholeI b (g : Int))))]) (v := .agg ⟨[.int .i64 (-(max (-((spanOf ((b.amtsTo g).map (wholeI b))).lo)) (-(wholeI b (g : Int))))), .int .i64 (max ((spanOf ((b.amtsTo g).map (wholeI b))).hi) (wholeI b (g : Int)))]⟩) ⟨(Ev.t 7 rfl), (Ev.t 12 rfl), trivial⟩ rfl rfl rfl (fun _ => by kernel_rfl) fun _ _ hs59 => ?_); clear hs58
       refine sq rfl (st_store (l' := [.int .i64 (-(max (-((spanOf ((b.amtsTo g).map (wholeI b))).lo)) (-(wholeI b (g : Int))))), .int .i64 (max ((spanOf ((b.amtsTo g).map (wholeI b))).hi) (wholeI b (g : Int)))]) (vs := [.int .i64 (-(max (-((spanOf ((b.amtsTo g).map (wholeI b))).lo)) (-(wholeI b (g : Int))))), .int .i64 (max ((spanOf ((b.amtsTo g).map (wholeI b))).hi) (wholeI b (g : Int)))]) (i := 2) hs59 (Ev.t 19 rfl) (Ev.t 0 rfl) sizeOf35 rfl rfl rfl rfl rfl rfl fun _ _ hs60 => ?_); clear hs59
       have hs61 := hs60.asB [_, _, _, _, _, _, _, _, _, _] rfl; clear hs60
       refine wpListIn_nil ?_
       have hs62 := hs61.keep [16, 17, 18, 19, 20, 21, 22, 23] [_, _, _, _, _, _, _, _] rfl; clear hs61
       refine in_norm ?_
       refine th_norm (hK26 _ _ ?_)
       refine cd_region1 ?_
       refine sq rfl (st_add (z := (g : Int) + 1) hs62 (Ev.t 0 rfl) (.const _) rfl rfl rfl (by omega) fun _ _ hs63 => ?_); clear hs62
       have hs64 := hs63.keep [0, 2, 3, 4, 5, 6, 7, 8] [_, _, _, _, _, _, _, _] rfl; clear hs63
       refine sq rfl (st_move hs64 (Ev.t 0 rfl) rfl rfl fun _ _ hs65 => ?_); clear hs64
       refine wpListIn_nil ?_
       have hs66 := hs65.keep [0, 2, 3, 4, 5, 6, 7, 8] [_, _, _, _, _, _, _, _] rfl; clear hs65
       refine ⟨g + 1, ⟨?_, ?_⟩, by (show 60001 - (g + 1) < 60001 - g; omega)⟩
       · exact hjn
       have hs67 : Sx 66 [] [(32, .int .i64 ((g : Int) + 1)), (31, .pointer (some ⟨bw8, 0, none⟩)), (10, .bool (!(b.amtsTo g).isEmpty)), (9, .pointer (some ⟨b19, 0, none⟩)), (6, .pointer (some ⟨b8, 0, none⟩)), (5, .int .i64 0), (4, .pointer (some ⟨b4, 0, none⟩)), (3, .pointer (some ⟨b3, 0, none⟩))] [(b19, some (.cells ⟨[.int .i64 (-(max (-((spanOf ((b.amtsTo g).map (wholeI b))).lo)) (-(wholeI b (g : Int))))), .int .i64 (max ((spanOf ((b.amtsTo g).map (wholeI b))).hi) (wholeI b (g : Int)))]⟩ 35 (0, 0))), (bw8, ow8), (b8, some (.cells ⟨(boxL b A n cp A2 n2 c2 A7 n c7 m7)⟩ 66 (0, 0))), (m7, some (.map es7 clk7)), (b7, o7), (b4, some (.cells ⟨[.int .i64 0, .int .i64 0]⟩ 35 (0, 0))), (b3, some (.cells ⟨[.func (.func 95) ⟨[]⟩ ⟨[]⟩]⟩ 83 (0, 0))), (b2, some (.cells ⟨(bxL b A n cp A2 n2 c2)⟩ 25 (0, 0)))] [] w _ _ := Sx.blks hs66 ((List.Sublist.cons _ (List.Sublist.cons _ (List.Sublist.cons_cons _ (List.Sublist.cons_cons _ (List.Sublist.cons_cons _ (List.Sublist.cons_cons _ (List.Sublist.cons_cons _ (List.Sublist.cons_cons _ (List.Sublist.cons_cons _ (List.Sublist.cons_cons _ List.Sublist.slnil)))))))))))
       have hsp : spanOf ((b.amtsTo (g + 1)).map (wholeI b)) = ⟨-max (-(spanOf ((b.amtsTo g).map (wholeI b))).lo) (-((wholeI b) (g : Int))), max (spanOf ((b.amtsTo g).map (wholeI b))).hi ((wholeI b) (g : Int))⟩ := by
         rw [hsn, List.map_append, List.map_singleton]; exact span_more (by simpa using hne)
       have hs68 := hs67.asB [(b19, some (.cells ⟨[.int .i64 ((spanOf ((b.amtsTo (g + 1)).map (wholeI b))).lo), .int .i64 ((spanOf ((b.amtsTo (g + 1)).map (wholeI b))).hi)]⟩ 35 (0, 0))), (bw8, ow8), (b8, some (.cells ⟨(boxL b A n cp A2 n2 c2 A7 n c7 m7)⟩ 66 (0, 0))), (m7, some (.map es7 clk7)), (b7, o7), (b4, some (.cells ⟨[.int .i64 0, .int .i64 0]⟩ 35 (0, 0))), (b3, some (.cells ⟨[.func (.func 95) ⟨[]⟩ ⟨[]⟩]⟩ 83 (0, 0))), (b2, some (.cells ⟨(bxL b A n cp A2 n2 c2)⟩ 25 (0, 0)))] (by (rw [hsp]) <;> rfl); clear hs67
       exact Sx.keepE [0, 1, 2, 3, 4, 5, 6, 7] _ ⟨⟨_, rfl, rfl⟩, ⟨_, rfl, rfl⟩, ⟨_, rfl, by rw [hsn, List.isEmpty_eq_false_iff.2 hne, snoc_ne]⟩, ⟨_, rfl, rfl⟩, ⟨_, rfl, rfl⟩, ⟨_, rfl, rfl⟩, ⟨_, rfl, rfl⟩, ⟨_, rfl, rfl⟩, trivial⟩ hs68
 · have hge : g = 60001 := by simp at hc25; omega
   refine cd_exit ?_
   refine th_exit ?_
   refine th_exit ?_
   refine in_hit ?_
   refine th_norm (hK21 _ _ ?_)
   refine cd_region fun K39 hK39 => ?_
   refine sq rfl (st_loadA (o := 0) (off := 0) (vs := [.int .i64 ((spanOf ((b.amtsTo g).map (wholeI b))).lo), .int .i64 ((spanOf ((b.amtsTo g).map (wholeI b))).hi)]) hs39 (Ev.t 4 rfl) rfl rfl isAgg35 sizeOf35 (hs39.cells 0 rfl) rfl fun _ _ hs40 => ?_); clear hs39
   refine sq rfl (st_store (l' := [.int .i64 ((spanOf ((b.amtsTo g).map (wholeI b))).lo), .int .i64 ((spanOf ((b.amtsTo g).map (wholeI b))).hi)]) (vs := [.int .i64 ((spanOf ((b.amtsTo g).map (wholeI b))).lo), .int .i64 ((spanOf ((b.amtsTo g).map (wholeI b))).hi)]) (i := 5) hs40 (Ev.t 8 rfl) (Ev.t 0 rfl) sizeOf35 rfl rfl rfl rfl rfl rfl fun _ _ hs41 => ?_); clear hs40
   have hs42 := hs41.asB [_, _, _, _, _, _, _, _] rfl; clear hs41
   have hs43 := hs42.keep [0, 1, 2, 3, 4, 5, 6, 8, 9] [_, _, _, _, _, _, _, _, _] rfl; clear hs42
   refine sq rfl (st_assign hs43 (.const _) rfl rfl fun _ _ hs44 => ?_); clear hs43
   refine hK39 _ _ ?_; clear hK39
   have hs45 := hs44.keep [0, 8] [_, _] rfl; clear hs44
   refine cd_retv (vs := [.agg ⟨[.int .i64 ((spanOf ((b.amtsTo g).map (wholeI b))).lo), .int .i64 ((spanOf ((b.amtsTo g).map (wholeI b))).hi)]⟩, .int .i64 0]) hs45 hQ0 rfl ⟨resA (o := 0) (off := 0) (vs := [.int .i64 ((spanOf ((b.amtsTo g).map (wholeI b))).lo), .int .i64 ((spanOf ((b.amtsTo g).map (wholeI b))).hi)]) 1 rfl isAgg35 sizeOf35 (hs45.cells 5 rfl) rfl, .tmp 0 rfl, trivial⟩ ?_
   clear hs45 hQ0 hN0
   simp [pack, Bx.betweenR, hask, hge, Bx.amts]

theorem between95_no (b : Bx) (A : Option Addr) (n cp : Nat) (A2 : Option Addr) (n2 c2 : Nat) (hne : b.asked true ≠ 0) (w : World) (hP : RollsAt w A n b.rolls) (hn : n ≤ 140737488351232) (hF : SpsAt w A2 n2 b.free) (hn2 : n2 ≤ 140737488351232) :
    CallsV Tryd.prog 55 [.agg ⟨(bxL b A n cp A2 n2 c2)⟩, .agg ⟨[.func (.func 95) ⟨[]⟩ ⟨[]⟩]⟩] w (.tuple ⟨[.agg ⟨[.int .i64 ((b.betweenR wholeI).1.lo), .int .i64 ((b.betweenR wholeI).1.hi)]⟩, .int .i64 ((b.betweenR wholeI).2)]⟩) := by
 refine enter (N := 66) (M := []) w func55 rfl rfl rfl (fun Q0 a_0 hQ0 hN0 hs0 => ?_)
 rcases asked_cases2 hne with hok | ⟨hok, hm0⟩
 · skip
   refine cd_region fun K1 hK1 => ?_
   refine sq rfl (st_box hs0 (Ev.t 0 rfl) rfl rfl rfl fun b2 _ _ hs1 => ?_); clear hs0
   refine sq rfl (st_box hs1 (Ev.t 2 rfl) rfl rfl rfl fun b3 _ _ hs2 => ?_); clear hs1
   refine sq rfl (st_alloc hs2 rfl rfl zeroValue35 rfl fun b4 _ _ hs3 => ?_); clear hs2
   refine sq rfl (st_assign hs3 (.const _) rfl rfl fun _ _ hs4 => ?_); clear hs3
   refine hK1 _ _ ?_; clear hK1
   have hs5 := hs4.keep [0, 1, 2, 3] [_, _, _, _] rfl; clear hs4
   refine cd_region fun K5 hK5 => ?_
   refine sq rfl (st_loadA (o := 0) (off := 0) (vs := (bxL b A n cp A2 n2 c2)) hs5 (Ev.t 3 rfl) rfl rfl isAgg25 sizeOf25 (hs5.cells 2 rfl) rfl fun _ _ hs6 => ?_); clear hs5
   refine sq rfl (st_callv (vs := [.agg ⟨(bxL b A n cp A2 n2 c2)⟩, .bool true]) hs6 (.func _) ⟨(Ev.t 0 rfl), (.const _), trivial⟩ rfl rfl call45 rfl (asked_1 b A n cp A2 n2 c2 _ (hP.kp hs6.kp) hn (hF.kp hs6.kp) hn2 true hok) fun _ _ hs7 => ?_); clear hs6
   refine sq rfl (st_move hs7 (Ev.t 0 rfl) rfl rfl fun _ _ hs8 => ?_); clear hs7
   refine sq rfl (st_extract hs8 (Ev.t 0 rfl) rfl rfl rfl fun _ _ hs9 => ?_); clear hs8
   refine sq rfl (st_extract hs9 (Ev.t 1 rfl) rfl rfl rfl fun _ _ hs10 => ?_); clear hs9
   refine sq rfl (st_alloc hs10 rfl rfl zeroValue66 rfl fun b6 _ _ hs11 => ?_); clear hs10
   refine sq rfl (st_store (l' := [.slice none 0 0, .slice none 0 0, .int .i64 0, .int .i64 0, .int .i64 0, .int .i64 0, .int .i64 0, .slice none 0 0, .map none]) (vs := [.slice none 0 0, .slice none 0 0, .int .i64 0, .int .i64 0, .int .i64 0, .int .i64 0, .int .i64 0, .slice none 0 0, .map none]) (i := 0) hs11 (Ev.t 0 rfl) (Ev.t 2 rfl) sizeOf66 rfl rfl rfl rfl rfl rfl fun _ _ hs12 => ?_); clear hs11
   have hs13 := hs12.asB [_, _, _, _] rfl; clear hs12
   refine sq rfl (st_assign hs13 (Ev.t 1 rfl) rfl rfl fun _ _ hs14 => ?_); clear hs13
   refine hK5 _ _ ?_; clear hK5
   have hs15 := hs14.keep [0, 1, 7, 8, 9] [_, _, _, _, _] rfl; clear hs14
   refine cd_seq fun K7 hK7 => ?_
   refine cd_region fun K8 hK8 => ?_
   refine sq rfl (st_move hs15 (Ev.t 0 rfl) rfl rfl fun _ _ hs16 => ?_); clear hs15
   refine sq rfl (st_cmp (c := true) hs16 (Ev.t 0 rfl) (.const _) rfl rfl rfl rfl fun _ _ hs17 => ?_); clear hs16
   refine hK8 _ _ ?_; clear hK8
   have hs18 := hs17.keep [0, 2, 3, 4, 5, 6] [_, _, _, _, _, _] rfl; clear hs17
   have hc9 : true = true := rfl
   refine cd_cond hs18 (Ev.t 0 rfl) (fun _ => ?_) (fun h => absurd (hc9.symm.trans h) (by decide))
   refine cd_region fun K10 hK10 => ?_
   refine sq rfl (st_build hs18 (qs := []) (v := .agg ⟨[.int .i64 0, .int .i64 0]⟩) trivial rfl rfl rfl (fun _ => by kernel_rfl) fun _ _ hs19 => ?_); clear hs18
   refine sq rfl (st_move hs19 (Ev.t 2 rfl) rfl rfl fun _ _ hs20 => ?_); clear hs19
   refine sq rfl (st_store (l' := [.int .i64 0, .int .i64 0]) (vs := [.int .i64 0, .int .i64 0]) (i := 1) hs20 (Ev.t 6 rfl) (Ev.t 1 rfl) sizeOf35 rfl rfl rfl rfl rfl rfl fun _ _ hs21 => ?_); clear hs20
   have hs22 := hs21.asB [_, _, _, _] rfl; clear hs21
   have hs23 := hs22.keep [0, 1, 2, 3, 4, 6, 7] [_, _, _, _, _, _, _] rfl; clear hs22
   refine sq rfl (st_assign hs23 (Ev.t 0 rfl) rfl rfl fun _ _ hs24 => ?_); clear hs23
   refine hK10 _ _ ?_; clear hK10
   have hs25 := hs24.keep [0, 6] [_, _] rfl; clear hs24
   refine cd_retv (vs := [.agg ⟨[.int .i64 0, .int .i64 0]⟩, .int .i64 90]) hs25 (fun a_ w_ h => th_ret (hQ0 a_ w_ h)) rfl ⟨resA (o := 0) (off := 0) (vs := [.int .i64 0, .int .i64 0]) 1 rfl isAgg35 sizeOf35 (hs25.cells 1 rfl) rfl, .tmp 0 rfl, trivial⟩ ?_
   clear hs25 hQ0 hN0 hK7
   first | (simp [pack, Bx.betweenR, Bx.asked, hok, hm0]; done) | simp [pack, Bx.betweenR, Bx.asked, hok]
 · skip
   refine cd_region fun K11 hK11 => ?_
   refine sq rfl (st_box hs0 (Ev.t 0 rfl) rfl rfl rfl fun b12 _ _ hs1 => ?_); clear hs0
   refine sq rfl (st_box hs1 (Ev.t 2 rfl) rfl rfl rfl fun b13 _ _ hs2 => ?_); clear hs1
   refine sq rfl (st_alloc hs2 rfl rfl zeroValue35 rfl fun b14 _ _ hs3 => ?_); clear hs2
   refine sq rfl (st_assign hs3 (.const _) rfl rfl fun _ _ hs4 => ?_); clear hs3
   refine hK11 _ _ ?_; clear hK11
   have hs5 := hs4.keep [0, 1, 2, 3] [_, _, _, _] rfl; clear hs4
   refine cd_region fun K15 hK15 => ?_
   refine sq rfl (st_loadA (o := 0) (off := 0) (vs := (bxL b A n cp A2 n2 c2)) hs5 (Ev.t 3 rfl) rfl rfl isAgg25 sizeOf25 (hs5.cells 2 rfl) rfl fun _ _ hs6 => ?_); clear hs5
   refine sq rfl (st_call (vs := [.agg ⟨(bxL b A n cp A2 n2 c2)⟩, .bool true]) hs6 (.func _) ⟨(Ev.t 0 rfl), (.const _), trivial⟩ rfl rfl call45 rfl (asked_3 b A n cp A2 n2 c2 _ (hP.kp hs6.kp) hn (hF.kp hs6.kp) hn2 true hok rfl hm0) fun v16 bs17 a_7 w_7 hp7 hs7 => ?_); clear hs6
   obtain ⟨A7, c7, m7, rfl, rfl⟩ := hp7
   have hs8 := Sx.as (T' := [_, _, _, _, _, _]) (B' := [_, _, _]) rfl rfl hs7; clear hs7
   refine sq rfl (st_move hs8 (Ev.t 0 rfl) rfl rfl fun _ _ hs9 => ?_); clear hs8
   refine sq rfl (st_extract hs9 (Ev.t 0 rfl) rfl rfl rfl fun _ _ hs10 => ?_); clear hs9
   refine sq rfl (st_extract hs10 (Ev.t 1 rfl) rfl rfl rfl fun _ _ hs11 => ?_); clear hs10
   refine sq rfl (st_alloc hs11 rfl rfl zeroValue66 rfl fun b18 _ _ hs12 => ?_); clear hs11
   refine sq rfl (st_store (l' := (boxL b A n cp A2 n2 c2 A7 n c7 m7)) (vs := (boxL b A n cp A2 n2 c2 A7 n c7 m7)) (i := 0) hs12 (Ev.t 0 rfl) (Ev.t 2 rfl) sizeOf66 rfl rfl rfl rfl rfl rfl fun _ _ hs13 => ?_); clear hs12
   have hs14 := hs13.asB [_, _, _, _] rfl; clear hs13
   refine sq rfl (st_assign hs14 (Ev.t 1 rfl) rfl rfl fun _ _ hs15 => ?_); clear hs14
   refine hK15 _ _ ?_; clear hK15
   have hs16 := hs15.keep [0, 1, 7, 8, 9] [_, _, _, _, _] rfl; clear hs15
   refine cd_seq fun K19 hK19 => ?_
   refine cd_region fun K20 hK20 => ?_
   refine sq rfl (st_move hs16 (Ev.t 0 rfl) rfl rfl fun _ _ hs17 => ?_); clear hs16
   refine sq rfl (st_cmp (c := true) hs17 (Ev.t 0 rfl) (.const _) rfl rfl rfl rfl fun _ _ hs18 => ?_); clear hs17
   refine hK20 _ _ ?_; clear hK20
   have hs19 := hs18.keep [0, 2, 3, 4, 5, 6] [_, _, _, _, _, _] rfl; clear hs18
   have hc21 : true = true := rfl
   refine cd_cond hs19 (Ev.t 0 rfl) (fun _ => ?_) (fun h => absurd (hc21.symm.trans h) (by decide))
   refine cd_region fun K22 hK22 => ?_
   refine sq rfl (st_build hs19 (qs := []) (v := .agg ⟨[.int .i64 0, .int .i64 0]⟩) trivial rfl rfl rfl (fun _ => by kernel_rfl) fun _ _ hs20 => ?_); clear hs19
   refine sq rfl (st_move hs20 (Ev.t 2 rfl) rfl rfl fun _ _ hs21 => ?_); clear hs20
   refine sq rfl (st_store (l' := [.int .i64 0, .int .i64 0]) (vs := [.int .i64 0, .int .i64 0]) (i := 1) hs21 (Ev.t 6 rfl) (Ev.t 1 rfl) sizeOf35 rfl rfl rfl rfl rfl rfl fun _ _ hs22 => ?_); clear hs21
   have hs23 := hs22.asB [_, _, _, _] rfl; clear hs22
   have hs24 := hs23.keep [0, 1, 2, 3, 4, 6, 7] [_, _, _, _, _, _, _] rfl; clear hs23
   refine sq rfl (st_assign hs24 (Ev.t 0 rfl) rfl rfl fun _ _ hs25 => ?_); clear hs24
   refine hK22 _ _ ?_; clear hK22
   have hs26 := hs25.keep [0, 6] [_, _] rfl; clear hs25
   refine cd_retv (vs := [.agg ⟨[.int .i64 0, .int .i64 0]⟩, .int .i64 92]) hs26 (fun a_ w_ h => th_ret (hQ0 a_ w_ h)) rfl ⟨resA (o := 0) (off := 0) (vs := [.int .i64 0, .int .i64 0]) 1 rfl isAgg35 sizeOf35 (hs26.cells 1 rfl) rfl, .tmp 0 rfl, trivial⟩ ?_
   clear hs26 hQ0 hN0 hK19
   first | (simp [pack, Bx.betweenR, Bx.asked, hok, hm0]; done) | simp [pack, Bx.betweenR, Bx.asked, hok]

theorem between95_v (b : Bx) (A : Option Addr) (n cp : Nat) (A2 : Option Addr) (n2 c2 : Nat) (w : World) (hP : RollsAt w A n b.rolls) (hn : n ≤ 140737488351232) (hF : SpsAt w A2 n2 b.free) (hn2 : n2 ≤ 140737488351232) : CallsV Tryd.prog 55 [.agg ⟨bxL b A n cp A2 n2 c2⟩, .agg ⟨[.func (.func 95) ⟨[]⟩ ⟨[]⟩]⟩] w (.tuple ⟨[.agg ⟨[.int .i64 ((b.betweenR wholeI).1.lo), .int .i64 ((b.betweenR wholeI).1.hi)]⟩, .int .i64 ((b.betweenR wholeI).2)]⟩) := by
  by_cases h : b.asked true = 0
  · obtain ⟨hok, -, hm0⟩ := asked_zero.1 h
    exact between95_yes b A n cp A2 n2 c2 hok hm0 w hP hn hF hn2
  · exact between95_no b A n cp A2 n2 c2 h w hP hn hF hn2

theorem between96_yes (b : Bx) (A : Option Addr) (n cp : Nat) (A2 : Option Addr) (n2 c2 : Nat) (hok : b.ok = true) (hm0 : b.many ≠ 0) (w : World) (hP : RollsAt w A n b.rolls) (hn : n ≤ 140737488351232) (hF : SpsAt w A2 n2 b.free) (hn2 : n2 ≤ 140737488351232) :
    CallsV Tryd.prog 55 [.agg ⟨(bxL b A n cp A2 n2 c2)⟩, .agg ⟨[.func (.func 96) ⟨[]⟩ ⟨[]⟩]⟩] w (.tuple ⟨[.agg ⟨[.int .i64 ((b.betweenR hireI).1.lo), .int .i64 ((b.betweenR hireI).1.hi)]⟩, .int .i64 ((b.betweenR hireI).2)]⟩) := by
 have hO := ok_iff.1 hok
 have hask : b.asked true = 0 := asked_zero.2 ⟨hok, rfl, hm0⟩
 have hl1 := hP.len
 have hd := hO.duty; have hsh := hO.share; have hg := hO.guar
 have hcut : (List.range 60001).all (fun i => (cutA b (wf (sums [0] (its b.rolls b.sold))) 60001) i == (fun _ => 0) i) = false := by have h := cut_ne hO hm0; rw [show b.all = sums [0] (its b.rolls b.sold) from rfl] at h; exact h
 have hFb : ∀ t : Int, 0 ≤ t → t ≤ 60000 → -60000 ≤ (hireI b) t ∧ (hireI b) t ≤ 60000 := fun t h1 h2 => by have := hire_bd ⟨h1, h2⟩ hd hsh hg; omega
 refine enter (N := 66) (M := []) w func55 rfl rfl rfl (fun Q0 a_0 hQ0 hN0 hs0 => ?_)
 refine cd_region fun K1 hK1 => ?_
 refine sq rfl (st_box hs0 (Ev.t 0 rfl) rfl rfl rfl fun b2 _ _ hs1 => ?_); clear hs0
 refine sq rfl (st_box hs1 (Ev.t 2 rfl) rfl rfl rfl fun b3 _ _ hs2 => ?_); clear hs1
 refine sq rfl (st_alloc hs2 rfl rfl zeroValue35 rfl fun b4 _ _ hs3 => ?_); clear hs2
 refine sq rfl (st_assign hs3 (.const _) rfl rfl fun _ _ hs4 => ?_); clear hs3
 refine hK1 _ _ ?_; clear hK1
 have hs5 := hs4.keep [0, 1, 2, 3] [_, _, _, _] rfl; clear hs4
 refine cd_region fun K5 hK5 => ?_
 refine sq rfl (st_loadA (o := 0) (off := 0) (vs := (bxL b A n cp A2 n2 c2)) hs5 (Ev.t 3 rfl) rfl rfl isAgg25 sizeOf25 (hs5.cells 2 rfl) rfl fun _ _ hs6 => ?_); clear hs5
 refine sq rfl (st_call (vs := [.agg ⟨(bxL b A n cp A2 n2 c2)⟩, .bool true]) hs6 (.func _) ⟨(Ev.t 0 rfl), (.const _), trivial⟩ rfl rfl call45 rfl (asked_4 b A n cp A2 n2 c2 _ (hP.kp hs6.kp) hn (hF.kp hs6.kp) hn2 true hok rfl hm0) fun v6 bs7 a_7 w_7 hp7 hs7 => ?_); clear hs6
 obtain ⟨A7, c7, b7, o7, m7, es7, clk7, rfl, hO7, hE7, rfl⟩ := hp7
 have hs8 := Sx.as (T' := [_, _, _, _, _, _]) (B' := [_, _, _, _, _]) rfl rfl hs7; clear hs7
 refine sq rfl (st_move hs8 (Ev.t 0 rfl) rfl rfl fun _ _ hs9 => ?_); clear hs8
 refine sq rfl (st_extract hs9 (Ev.t 0 rfl) rfl rfl rfl fun _ _ hs10 => ?_); clear hs9
 refine sq rfl (st_extract hs10 (Ev.t 1 rfl) rfl rfl rfl fun _ _ hs11 => ?_); clear hs10
 refine sq rfl (st_alloc hs11 rfl rfl zeroValue66 rfl fun b8 _ _ hs12 => ?_); clear hs11
 refine sq rfl (st_store (l' := (boxL b A n cp A2 n2 c2 A7 n c7 m7)) (vs := (boxL b A n cp A2 n2 c2 A7 n c7 m7)) (i := 0) hs12 (Ev.t 0 rfl) (Ev.t 2 rfl) sizeOf66 rfl rfl rfl rfl rfl rfl fun _ _ hs13 => ?_); clear hs12
 have hs14 := hs13.asB [_, _, _, _, _, _] rfl; clear hs13
 refine sq rfl (st_assign hs14 (Ev.t 1 rfl) rfl rfl fun _ _ hs15 => ?_); clear hs14
 refine hK5 _ _ ?_; clear hK5
 have hs16 := hs15.keep [0, 1, 7, 8, 9] [_, _, _, _, _] rfl; clear hs15
 refine cd_seq fun K9 hK9 => ?_
 refine cd_region fun K10 hK10 => ?_
 refine sq rfl (st_move hs16 (Ev.t 0 rfl) rfl rfl fun _ _ hs17 => ?_); clear hs16
 refine sq rfl (st_cmp (c := false) hs17 (Ev.t 0 rfl) (.const _) rfl rfl rfl rfl fun _ _ hs18 => ?_); clear hs17
 refine hK10 _ _ ?_; clear hK10
 have hs19 := hs18.keep [0, 2, 3, 4, 5, 6] [_, _, _, _, _, _] rfl; clear hs18
 have hc11 : false = false := rfl
 refine cd_cond hs19 (Ev.t 0 rfl) (fun h => absurd (hc11.symm.trans h) (by decide)) (fun _ => ?_)
 refine cd_skip ?_
 refine th_norm (hK9 _ _ ?_)
 refine cd_region fun K12 hK12 => ?_
 refine sq rfl (st_loadA (o := 0) (off := 0) (vs := (boxL b A n cp A2 n2 c2 A7 n c7 m7)) hs19 (Ev.t 2 rfl) rfl rfl isAgg66 sizeOf66 (hs19.cells 0 rfl) rfl fun _ _ hs20 => ?_); clear hs19
 refine sq rfl (st_call (vs := [.agg ⟨(boxL b A n cp A2 n2 c2 A7 n c7 m7)⟩]) hs20 (.func _) ⟨(Ev.t 0 rfl), trivial⟩ rfl rfl call76 rfl (amounts_b b A n cp A2 n2 c2 A7 n c7 m7 b.sold _ (hP.kp hs20.kp) hn (by have h := hO7.at hs20 2 rfl; rw [soldlen hO, ← hP.len] at h; exact h) hO.wf) fun v13 bs14 a_21 w_21 hp21 hs21 => ?_); clear hs20
 obtain ⟨bw8, ow8, rfl, hOw8, rfl⟩ := hp21
 have hs22 := Sx.as (T' := [_, _, _, _, _, _, _, _]) (B' := [_, _, _, _, _, _, _]) rfl rfl hs21; clear hs21
 refine sq rfl (st_assign hs22 (Ev.t 0 rfl) rfl rfl fun _ _ hs23 => ?_); clear hs22
 refine hK12 _ _ ?_; clear hK12
 have hs24 := hs23.keep [0, 5, 6, 7, 8] [_, _, _, _, _] rfl; clear hs23
 refine cd_seq fun K15 hK15 => ?_
 refine cd_region fun K16 hK16 => ?_
 refine sq rfl (st_move hs24 (Ev.t 0 rfl) rfl rfl fun _ _ hs25 => ?_); clear hs24
 refine sq rfl (st_nilCheck hs25 (Ev.t 0 rfl) rfl rfl fun _ _ hs26 => ?_); clear hs25
 refine sq rfl (st_loadW (i := 0) hs26 (Ev.t 0 rfl) rfl rfl isAgg100 sizeOf100 hOw8 rfl arr_len fun _ _ hs27 => ?_); clear hs26
 refine sq rfl (st_build hs27 (qs := []) (v := .agg ⟨vals (arr (fun _ => 0))⟩) trivial rfl rfl rfl build100_nil fun _ _ hs28 => ?_); clear hs27
 refine sq rfl (st_bin (z := .bool false) hs28 (Ev.t 1 rfl) (Ev.t 0 rfl) (fun w_ => (run_eql_100 _ _ (cutA b (wf (sums [0] (its b.rolls b.sold))) 60001) (fun _ => 0) w_).trans (by rw [hcut])) rfl rfl fun _ _ hs29 => ?_); clear hs28
 refine hK16 _ _ ?_; clear hK16
 have hs30 := hs29.keep [0, 5, 6, 7, 8, 9] [_, _, _, _, _, _] rfl; clear hs29
 have hc17 : false = false := rfl
 refine cd_cond hs30 (Ev.t 0 rfl) (fun h => absurd (hc17.symm.trans h) (by decide)) (fun _ => ?_)
 refine cd_skip ?_
 refine th_norm (hK15 _ _ ?_)
 refine cd_region fun K18 hK18 => ?_
 refine sq rfl (st_alloc hs30 rfl rfl zeroValue35 rfl fun b19 _ _ hs31 => ?_); clear hs30
 refine hK18 _ _ ?_; clear hK18
 have hs32 := hs31.keep [0, 2, 3, 4, 5, 6] [_, _, _, _, _, _] rfl; clear hs31
 refine cd_region fun K20 hK20 => ?_
 refine sq rfl (st_assign hs32 (.const _) rfl rfl fun _ _ hs33 => ?_); clear hs32
 refine hK20 _ _ ?_; clear hK20
 refine cd_seq fun K21 hK21 => ?_
 refine cd_region fun K22 hK22 => ?_
 refine sq rfl (st_move hs33 (Ev.t 2 rfl) rfl rfl fun _ _ hs34 => ?_); clear hs33
 refine sq rfl (st_move hs34 (.const _) rfl rfl fun _ _ hs35 => ?_); clear hs34
 refine hK22 _ _ ?_; clear hK22
 have hs36 := hs35.keep [0, 1, 2, 3, 5, 6, 7, 8] [_, _, _, _, _, _, _, _] rfl; clear hs35
 refine cd_block ?_
 have hs37 : Sx 66 [] [(32, .int .i64 (0 : Int)), (31, .pointer (some ⟨bw8, 0, none⟩)), (10, .bool (!(b.amtsTo 0).isEmpty)), (9, .pointer (some ⟨b19, 0, none⟩)), (6, .pointer (some ⟨b8, 0, none⟩)), (5, .int .i64 0), (4, .pointer (some ⟨b4, 0, none⟩)), (3, .pointer (some ⟨b3, 0, none⟩))] [(b19, some (.cells ⟨[.int .i64 ((spanOf ((b.amtsTo 0).map (hireI b))).lo), .int .i64 ((spanOf ((b.amtsTo 0).map (hireI b))).hi)]⟩ 35 (0, 0))), (bw8, ow8), (b8, some (.cells ⟨(boxL b A n cp A2 n2 c2 A7 n c7 m7)⟩ 66 (0, 0))), (m7, some (.map es7 clk7)), (b7, o7), (b4, some (.cells ⟨[.int .i64 0, .int .i64 0]⟩ 35 (0, 0))), (b3, some (.cells ⟨[.func (.func 96) ⟨[]⟩ ⟨[]⟩]⟩ 83 (0, 0))), (b2, some (.cells ⟨(bxL b A n cp A2 n2 c2)⟩ 25 (0, 0)))] [] w _ _ := Sx.keepE [0, 1, 2, 3, 4, 5, 6, 7] _ ⟨⟨_, rfl, rfl⟩, ⟨_, rfl, rfl⟩, ⟨_, rfl, rfl⟩, ⟨_, rfl, rfl⟩, ⟨_, rfl, rfl⟩, ⟨_, rfl, rfl⟩, ⟨_, rfl, rfl⟩, ⟨_, rfl, rfl⟩, trivial⟩ hs36; clear hs36
 refine cd_loop (X := Nat) (fun g a_ w_ => (g ≤ 60001) ∧ Sx 66 [] [(32, .int .i64 (g : Int)), (31, .pointer (some ⟨bw8, 0, none⟩)), (10, .bool (!(b.amtsTo g).isEmpty)), (9, .pointer (some ⟨b19, 0, none⟩)), (6, .pointer (some ⟨b8, 0, none⟩)), (5, .int .i64 0), (4, .pointer (some ⟨b4, 0, none⟩)), (3, .pointer (some ⟨b3, 0, none⟩))] [(b19, some (.cells ⟨[.int .i64 ((spanOf ((b.amtsTo g).map (hireI b))).lo), .int .i64 ((spanOf ((b.amtsTo g).map (hireI b))).hi)]⟩ 35 (0, 0))), (bw8, ow8), (b8, some (.cells ⟨(boxL b A n cp A2 n2 c2 A7 n c7 m7)⟩ 66 (0, 0))), (m7, some (.map es7 clk7)), (b7, o7), (b4, some (.cells ⟨[.int .i64 0, .int .i64 0]⟩ 35 (0, 0))), (b3, some (.cells ⟨[.func (.func 96) ⟨[]⟩ ⟨[]⟩]⟩ 83 (0, 0))), (b2, some (.cells ⟨(bxL b A n cp A2 n2 c2)⟩ 25 (0, 0)))] [] w a_ w_) (fun g => 60001 - g) (0) ⟨?_, hs37⟩ ?_
 · exact Nat.zero_le _
 intro g a_38 w_38 ⟨hj, hs38⟩; clear hs37
 refine cd_region fun K23 hK23 => ?_
 refine sq rfl (st_cmp (c := decide (((g : Int) : Int) < 60001)) hs38 (Ev.t 0 rfl) (.const _) rfl rfl rfl rfl fun _ _ hs39 => ?_); clear hs38
 refine hK23 _ _ ?_; clear hK23
 refine cd_seq fun K24 hK24 => ?_
 refine cd_cond hs39 (Ev.t 0 rfl) (fun hc25 => ?_) (fun hc25 => ?_)
 · have hjn : g < 60001 := by simp at hc25; omega
   have ht : 0 ≤ (g : Int) ∧ (g : Int) ≤ 60000 := by omega
   have hFg := hFb g ht.1 ht.2
   have hsb := spanOf_bd (l := (b.amtsTo g).map (hireI b)) (c := 60000) (by omega) (fun x hx => by obtain ⟨y, hy, rfl⟩ := List.mem_map.1 hx; have h7 := amts_at hy; exact hFb y h7.1 (by omega))
   refine cd_skip ?_
   refine th_norm (hK24 _ _ ?_)
   refine cd_seq fun K26 hK26 => ?_
   refine cd_block ?_
   refine cd_drawn mixed hs39 [⟨34, [], Is (.int .i64 (g : Int))⟩, ⟨35, [], Is (.pointer (some ⟨bw8, 0, none⟩))⟩, ⟨36, [1], Is (.pointer (some ⟨bw8, g * 1, none⟩))⟩, ⟨37, [2], Is (.int .i64 ((cutA b (wf (sums [0] (its b.rolls b.sold))) 60001) g))⟩, ⟨11, [0], Is (.int .i64 (g : Int))⟩] (by kernel_rfl) (by kernel_rfl) fun K27 hK27 => ⟨⟨?_, ?_, ?_, ?_, ?_, trivial⟩, ?_⟩
   · rintro T_ B_ a_ w_ K_ hT hB hf hsD hk
     exact ob rfl rfl (st_move hsD (evT hT 1 rfl) rfl hf fun _ _ => hk _ _ _ _ ⟨rfl, rfl⟩)
   · rintro T_ B_ a_ w_ K_ hT hB hf hsD hk
     exact ob rfl rfl (st_nilCheck hsD (evT hT 2 rfl) rfl hf fun _ _ => hk _ _ _ _ ⟨rfl, rfl⟩)
   · rintro T_ B_ a_ w_ K_ hT hB _ _ ⟨rfl, rfl⟩ h35 - hf hsD hk
     exact ob rfl rfl (st_indexArr (o' := g * 1) hsD (Ev.tmp h35) (evT hT 1 rfl) rfl hf runUnderlying100 sizeOf3 ⟨by omega, by omega⟩ (by simp) fun _ _ => hk _ _ _ _ ⟨rfl, rfl⟩)
   · rintro T_ B_ a_ w_ K_ hT hB _ _ ⟨rfl, rfl⟩ h36 - hf hsD hk
     exact ob rfl rfl (st_load1 (o := (g * 1)) (off := 0) (v := .int .i64 ((cutA b (wf (sums [0] (its b.rolls b.sold))) 60001) g)) hsD (Ev.tmp h36) rfl hf isAgg3 (own_cellM hsD hOw8 (hB _ (mem_nth (i := 1) rfl)) (arr_at (by omega))) rfl fun _ _ => hk _ _ _ _ ⟨rfl, rfl⟩)
   · rintro T_ B_ a_ w_ K_ hT hB _ _ ⟨rfl, rfl⟩ h34 - hf hsD hk
     exact ob rfl rfl (st_assign hsD (Ev.tmp h34) rfl hf fun _ _ => hk _ _ _ _ ⟨rfl, rfl⟩)
   rintro _ _ ⟨rfl, rfl⟩ _ _ ⟨rfl, rfl⟩ _ _ ⟨rfl, rfl⟩ _ _ ⟨rfl, rfl⟩ _ _ ⟨rfl, rfl⟩ a_40 w_40 hs40; clear hs39
   have hs41 := Sx.as (T' := [_, _, _, _, _, _, _, _, _, _, _, _, _, _]) (B' := [_, _, _, _, _, _, _, _]) rfl rfl hs40; clear hs40
   refine sq rfl (st_assign hs41 (Ev.t 3 rfl) rfl rfl fun _ _ hs42 => ?_); clear hs41
   refine hK27 _ _ ?_; clear hK27
   have hs43 := hs42.keep [0, 5, 7, 8, 9, 10, 11, 12, 13, 14] [_, _, _, _, _, _, _, _, _, _] rfl; clear hs42
   refine cd_seq fun K28 hK28 => ?_
   refine cd_region fun K29 hK29 => ?_
   refine sq rfl (st_move hs43 (Ev.t 0 rfl) rfl rfl fun _ _ hs44 => ?_); clear hs43
   refine sq rfl (st_cmp (c := ((cutA b (wf (sums [0] (its b.rolls b.sold))) 60001) g : Int) == 0) hs44 (Ev.t 0 rfl) (.const _) rfl rfl rfl rfl fun _ _ hs45 => ?_); clear hs44
   refine hK29 _ _ ?_; clear hK29
   have hs46 := hs45.keep [0, 3, 4, 5, 6, 7, 8, 9, 10, 11] [_, _, _, _, _, _, _, _, _, _] rfl; clear hs45
   refine cd_cond hs46 (Ev.t 0 rfl) (fun hc30 => ?_) (fun hc30 => ?_)
   · have hsk : b.amtsTo (g + 1) = b.amtsTo g := amts_skip (fun h => (cutA_pos (L := b.all) hjn).2 h (by have h9 := hc30; rw [beq_iff_eq] at h9; exact h9))
     refine cd_exit ?_
     refine th_exit ?_
     refine in_hit ?_
     refine th_norm (hK26 _ _ ?_)
     refine cd_region1 ?_
     refine sq rfl (st_add (z := (g : Int) + 1) hs46 (Ev.t 2 rfl) (.const _) rfl rfl rfl (by omega) fun _ _ hs47 => ?_); clear hs46
     have hs48 := hs47.keep [0, 1, 2, 4, 5, 6, 7, 8, 9, 10] [_, _, _, _, _, _, _, _, _, _] rfl; clear hs47
     refine sq rfl (st_move hs48 (Ev.t 0 rfl) rfl rfl fun _ _ hs49 => ?_); clear hs48
     refine wpListIn_nil ?_
     have hs50 := hs49.keep [0, 4, 5, 6, 7, 8, 9, 10] [_, _, _, _, _, _, _, _] rfl; clear hs49
     refine ⟨g + 1, ⟨?_, ?_⟩, by (show 60001 - (g + 1) < 60001 - g; omega)⟩
     · exact hjn
     have hs51 := hs50.asB [(b19, some (.cells ⟨[.int .i64 ((spanOf ((b.amtsTo (g + 1)).map (hireI b))).lo), .int .i64 ((spanOf ((b.amtsTo (g + 1)).map (hireI b))).hi)]⟩ 35 (0, 0))), (bw8, ow8), (b8, some (.cells ⟨(boxL b A n cp A2 n2 c2 A7 n c7 m7)⟩ 66 (0, 0))), (m7, some (.map es7 clk7)), (b7, o7), (b4, some (.cells ⟨[.int .i64 0, .int .i64 0]⟩ 35 (0, 0))), (b3, some (.cells ⟨[.func (.func 96) ⟨[]⟩ ⟨[]⟩]⟩ 83 (0, 0))), (b2, some (.cells ⟨(bxL b A n cp A2 n2 c2)⟩ 25 (0, 0)))] (by (rw [hsk]) <;> rfl); clear hs50
     exact Sx.keepE [0, 1, 2, 3, 4, 5, 6, 7] _ ⟨⟨_, rfl, rfl⟩, ⟨_, rfl, rfl⟩, ⟨_, rfl, by rw [hsk]⟩, ⟨_, rfl, rfl⟩, ⟨_, rfl, rfl⟩, ⟨_, rfl, rfl⟩, ⟨_, rfl, rfl⟩, ⟨_, rfl, rfl⟩, trivial⟩ hs51
   · have hsn := amts_snoc ((cutA_pos (b := b) (L := b.all) hjn).1 (by have h9 := hc30; rw [beq_eq_false_iff_ne] at h9; exact h9))
     refine cd_skip ?_
     refine th_norm (hK28 _ _ ?_)
     refine cd_region fun K31 hK31 => ?_
     refine sq rfl (st_field (o' := 0) hs46 (Ev.t 9 rfl) rfl rfl runUnderlying83 rfl sizeOf80 rfl rfl fun _ _ hs47 => ?_); clear hs46
     refine sq rfl (st_load1 (o := 0) (off := 0) (v := .func (.func 96) ⟨[]⟩ ⟨[]⟩) hs47 (Ev.t 0 rfl) rfl rfl isAgg80 (hs47.cells 6 rfl) rfl fun _ _ hs48 => ?_); clear hs47
     refine sq rfl (st_loadA (o := 0) (off := 0) (vs := (boxL b A n cp A2 n2 c2 A7 n c7 m7)) hs48 (Ev.t 8 rfl) rfl rfl isAgg66 sizeOf66 (hs48.cells 2 rfl) rfl fun _ _ hs49 => ?_); clear hs48
     refine sq rfl (st_move hs49 (Ev.t 4 rfl) rfl rfl fun _ _ hs50 => ?_); clear hs49
     refine sq rfl (st_callv (vs := [.agg ⟨(boxL b A n cp A2 n2 c2 A7 n c7 m7)⟩, .int .i64 (g : Int)]) hs50 (Ev.t 2 rfl) ⟨(Ev.t 1 rfl), (Ev.t 0 rfl), trivial⟩ rfl rfl call96 rfl (hire_v b A n cp A2 n2 c2 A7 n c7 m7 (g : Int) _ ht hd hsh hg) fun _ _ hs51 => ?_); clear hs50
     refine sq rfl (st_assign hs51 (Ev.t 0 rfl) rfl rfl fun _ _ hs52 => ?_); clear hs51
     refine hK31 _ _ ?_; clear hK31
     have hs53 := hs52.keep [0, 8, 9, 10, 11, 12, 13, 14, 15] [_, _, _, _, _, _, _, _, _] rfl; clear hs52
     refine cd_seq fun K32 hK32 => ?_
     refine cd_region fun K33 hK33 => ?_
     refine sq rfl (st_move hs53 (Ev.t 3 rfl) rfl rfl fun _ _ hs54 => ?_); clear hs53
     refine sq rfl (st_not hs54 (Ev.t 0 rfl) rfl rfl fun _ _ hs55 => ?_); clear hs54
     refine hK33 _ _ ?_; clear hK33
     have hs56 := hs55.keep [0, 2, 3, 4, 5, 6, 7, 8, 9, 10] [_, _, _, _, _, _, _, _, _, _] rfl; clear hs55
     refine cd_cond hs56 (Ev.t 0 rfl) (fun hc34 => ?_) (fun hc34 => ?_)
     · have h0 : b.amtsTo g = [] := by simpa using hc34
       refine cd_region1 ?_
       refine sq rfl (st_move hs56 (Ev.t 1 rfl) rfl rfl fun _ _ hs57 => ?_); clear hs56
       refine sq rfl (st_move hs57 (Ev.t 2 rfl) rfl rfl fun _ _ hs58 => ?_); clear hs57
       refine sq rfl (st_build hs58 (qs := [(0, .int .i64 (hireI b (g : Int))), (1, .int .i64 (hireI b (g : Int)))]) (v := .agg ⟨[.int .i64 (hireI b (g : Int)), .int .i64 (hireI b (g : Int))]⟩) ⟨(Ev.t 1 rfl), (Ev.t 0 rfl), trivial⟩ rfl rfl rfl (fun _ => by kernel_rfl) fun _ _ hs59 => ?_); clear hs58
       refine sq rfl (st_store (l' := [.int .i64 (hireI b (g : Int)), .int .i64 (hireI b (g : Int))]) (vs := [.int .i64 (hireI b (g : Int)), .int .i64 (hireI b (g : Int))]) (i := 0) hs59 (Ev.t 8 rfl) (Ev.t 0 rfl) sizeOf35 rfl rfl rfl rfl rfl rfl fun _ _ hs60 => ?_); clear hs59
       have hs61 := hs60.asB [_, _, _, _, _, _, _, _] rfl; clear hs60
       have hs62 := hs61.keep [0, 1, 2, 3, 4, 5, 6, 8, 9, 10, 11, 12] [_, _, _, _, _, _, _, _, _, _, _, _] rfl; clear hs61
       refine sq rfl (st_assign hs62 (.const _) rfl rfl fun _ _ hs63 => ?_); clear hs62
       refine wpListIn_nil ?_
       have hs64 := hs63.keep [0, 5, 6, 7, 8, 9, 10, 11, 12] [_, _, _, _, _, _, _, _, _] rfl; clear hs63
       refine th_norm (hK32 _ _ ?_)
       refine cd_drawn1 mixed hs64 [⟨50, [], Is (.pointer (some ⟨b19, 0, none⟩))⟩, ⟨51, [0], Is (.int .i64 (hireI b (g : Int)))⟩, ⟨52, [1], Is (.int .i64 (-(hireI b (g : Int))))⟩, ⟨53, [], Is (.int .i64 (hireI b (g : Int)))⟩, ⟨54, [3], Is (.int .i64 (-(hireI b (g : Int))))⟩, ⟨55, [4], fun v_ bs_ => ∃ b35, v_ = .slice (some ⟨b35, 0, none⟩) 1 1 ∧ bs_ = [(b35, some (.cells ⟨[.int .i64 (-(hireI b (g : Int)))]⟩ 3 (0, 0)))]⟩, ⟨56, [2, 5], Is (.int .i64 (max (-(hireI b (g : Int))) (-(hireI b (g : Int)))))⟩, ⟨57, [6], Is (.int .i64 (-(max (-(hireI b (g : Int))) (-(hireI b (g : Int))))))⟩, ⟨58, [], Is (.pointer (some ⟨b19, 1, none⟩))⟩, ⟨59, [8], Is (.int .i64 (hireI b (g : Int)))⟩, ⟨60, [], Is (.int .i64 (hireI b (g : Int)))⟩, ⟨61, [10], fun v_ bs_ => ∃ b36, v_ = .slice (some ⟨b36, 0, none⟩) 1 1 ∧ bs_ = [(b36, some (.cells ⟨[.int .i64 (hireI b (g : Int))]⟩ 3 (0, 0)))]⟩, ⟨62, [9, 11], Is (.int .i64 (max (hireI b (g : Int)) (hireI b (g : Int))))⟩] (by kernel_rfl) (by kernel_rfl) ⟨⟨?_, ?_, ?_, ?_, ?_, ?_, ?_, ?_, ?_, ?_, ?_, ?_, ?_, trivial⟩, ?_⟩
       · rintro T_ B_ a_ w_ K_ hT hB hf hsD hk
         exact ob rfl rfl (st_field (o' := 0) hsD (evT hT 4 rfl) rfl hf runUnderlying35 rfl sizeOf3 rfl rfl fun _ _ => hk _ _ _ _ ⟨rfl, rfl⟩)
       · rintro T_ B_ a_ w_ K_ hT hB _ _ ⟨rfl, rfl⟩ h50 - hf hsD hk
         exact ob rfl rfl (st_load1 (o := 0) (off := 0) (v := .int .i64 (hireI b (g : Int))) hsD (Ev.tmp h50) rfl hf isAgg3 (hsD.cellsM (inB hB 0 rfl)) rfl fun _ _ => hk _ _ _ _ ⟨rfl, rfl⟩)
       · rintro T_ B_ a_ w_ K_ hT hB _ _ ⟨rfl, rfl⟩ h51 - hf hsD hk
         exact ob rfl rfl (st_neg hsD (Ev.tmp h51) rfl hf (by omega) fun _ _ => hk _ _ _ _ ⟨rfl, rfl⟩)
       · rintro T_ B_ a_ w_ K_ hT hB hf hsD hk
         exact ob rfl rfl (st_move hsD (evT hT 1 rfl) rfl hf fun _ _ => hk _ _ _ _ ⟨rfl, rfl⟩)
       · rintro T_ B_ a_ w_ K_ hT hB _ _ ⟨rfl, rfl⟩ h53 - hf hsD hk
         exact ob rfl rfl (st_neg hsD (Ev.tmp h53) rfl hf (by omega) fun _ _ => hk _ _ _ _ ⟨rfl, rfl⟩)
       · rintro T_ B_ a_ w_ K_ hT hB _ _ ⟨rfl, rfl⟩ h54 - hf hsD hk
         exact ob rfl rfl (st_buildSlice hsD (qs := [(0, .int .i64 (-(hireI b (g : Int))))]) (e := 3) (l := [.int .i64 (-(hireI b (g : Int)))]) ⟨(Ev.tmp h54), trivial⟩ rfl hf rfl (fun _ => by kernel_rfl) fun b35 _ _ => hk _ _ _ _ ⟨b35, rfl, rfl⟩)
       · rintro T_ B_ a_ w_ K_ hT hB _ _ ⟨rfl, rfl⟩ h52 - _ _ ⟨b35, rfl, rfl⟩ h55 hB55 hf hsD hk
         exact ob rfl rfl (st_callv (vs := [.int .i64 (-(hireI b (g : Int))), .slice (some ⟨b35, 0, none⟩) 1 1]) hsD (.func _) ⟨(Ev.tmp h52), (Ev.tmp h55), trivial⟩ rfl hf call49 rfl (great_v (-(hireI b (g : Int))) (-(hireI b (g : Int))) b35 _ (hsD.cellsM (hB55 _ List.mem_cons_self))) fun _ _ => hk _ _ _ _ ⟨rfl, rfl⟩)
       · rintro T_ B_ a_ w_ K_ hT hB _ _ ⟨rfl, rfl⟩ h56 - hf hsD hk
         exact ob rfl rfl (st_neg hsD (Ev.tmp h56) rfl hf (by omega) fun _ _ => hk _ _ _ _ ⟨rfl, rfl⟩)
       · rintro T_ B_ a_ w_ K_ hT hB hf hsD hk
         exact ob rfl rfl (st_field (o' := 1) hsD (evT hT 4 rfl) rfl hf runUnderlying35 rfl sizeOf3 rfl rfl fun _ _ => hk _ _ _ _ ⟨rfl, rfl⟩)
       · rintro T_ B_ a_ w_ K_ hT hB _ _ ⟨rfl, rfl⟩ h58 - hf hsD hk
         exact ob rfl rfl (st_load1 (o := 0) (off := 1) (v := .int .i64 (hireI b (g : Int))) hsD (Ev.tmp h58) rfl hf isAgg3 (hsD.cellsM (inB hB 0 rfl)) rfl fun _ _ => hk _ _ _ _ ⟨rfl, rfl⟩)
       · rintro T_ B_ a_ w_ K_ hT hB hf hsD hk
         exact ob rfl rfl (st_move hsD (evT hT 1 rfl) rfl hf fun _ _ => hk _ _ _ _ ⟨rfl, rfl⟩)
       · rintro T_ B_ a_ w_ K_ hT hB _ _ ⟨rfl, rfl⟩ h60 - hf hsD hk
         exact ob rfl rfl (st_buildSlice hsD (qs := [(0, .int .i64 (hireI b (g : Int)))]) (e := 3) (l := [.int .i64 (hireI b (g : Int))]) ⟨(Ev.tmp h60), trivial⟩ rfl hf rfl (fun _ => by kernel_rfl) fun b36 _ _ => hk _ _ _ _ ⟨b36, rfl, rfl⟩)
       · rintro T_ B_ a_ w_ K_ hT hB _ _ ⟨rfl, rfl⟩ h59 - _ _ ⟨b36, rfl, rfl⟩ h61 hB61 hf hsD hk
         exact ob rfl rfl (st_callv (vs := [.int .i64 (hireI b (g : Int)), .slice (some ⟨b36, 0, none⟩) 1 1]) hsD (.func _) ⟨(Ev.tmp h59), (Ev.tmp h61), trivial⟩ rfl hf call49 rfl (great_v (hireI b (g : Int)) (hireI b (g : Int)) b36 _ (hsD.cellsM (hB61 _ List.mem_cons_self))) fun _ _ => hk _ _ _ _ ⟨rfl, rfl⟩)
       rintro _ _ ⟨rfl, rfl⟩ _ _ ⟨rfl, rfl⟩ _ _ ⟨rfl, rfl⟩ _ _ ⟨rfl, rfl⟩ _ _ ⟨rfl, rfl⟩ _ _ ⟨b35, rfl, rfl⟩ _ _ ⟨rfl, rfl⟩ _ _ ⟨rfl, rfl⟩ _ _ ⟨rfl, rfl⟩ _ _ ⟨rfl, rfl⟩ _ _ ⟨rfl, rfl⟩ _ _ ⟨b36, rfl, rfl⟩ _ _ ⟨rfl, rfl⟩ a_65 w_65 hs65; clear hs64
       have hs66 := Sx.as (T' := [_, _, _, _, _, _, _, _, _, _, _, _, _, _, _, _, _, _, _, _, _, _]) (B' := [_, _, _, _, _, _, _, _, _, _]) rfl rfl hs65; clear hs65
       refine sq rfl (st_build hs66 (qs := [(0, .int .i64 (-(max (-(hireI b (g : Int))) (-(hireI b (g : Int)))))), (1, .int .i64 (max (hireI b (g : Int)) (hireI b (g : Int))))]) (v := .agg ⟨[.int .i64 (-(max (-(hireI b (g : Int))) (-(hireI b (g : Int))))), .int .i64 (max (hireI b (g : Int)) (hireI b (g : Int)))]⟩) ⟨(Ev.t 7 rfl), (Ev.t 12 rfl), trivial⟩ rfl rfl rfl (fun _ => by kernel_rfl) fun _ _ hs67 => ?_); clear hs66
       refine sq rfl (st_store (l' := [.int .i64 (-(max (-(hireI b (g : Int))) (-(hireI b (g : Int))))), .int .i64 (max (hireI b (g : Int)) (hireI b (g : Int)))]) (vs := [.int .i64 (-(max (-(hireI b (g : Int))) (-(hireI b (g : Int))))), .int .i64 (max (hireI b (g : Int)) (hireI b (g : Int)))]) (i := 2) hs67 (Ev.t 18 rfl) (Ev.t 0 rfl) sizeOf35 rfl rfl rfl rfl rfl rfl fun _ _ hs68 => ?_); clear hs67
       have hs69 := hs68.asB [_, _, _, _, _, _, _, _, _, _] rfl; clear hs68
       refine wpListIn_nil ?_
       have hs70 := hs69.keep [14, 16, 17, 18, 19, 20, 21, 22] [_, _, _, _, _, _, _, _] rfl; clear hs69
       refine in_norm ?_
       refine th_norm (hK26 _ _ ?_)
       refine cd_region1 ?_
       refine sq rfl (st_add (z := (g : Int) + 1) hs70 (Ev.t 1 rfl) (.const _) rfl rfl rfl (by omega) fun _ _ hs71 => ?_); clear hs70
       have hs72 := hs71.keep [0, 1, 3, 4, 5, 6, 7, 8] [_, _, _, _, _, _, _, _] rfl; clear hs71
       refine sq rfl (st_move hs72 (Ev.t 0 rfl) rfl rfl fun _ _ hs73 => ?_); clear hs72
       refine wpListIn_nil ?_
       have hs74 := hs73.keep [0, 2, 3, 4, 5, 6, 7, 8] [_, _, _, _, _, _, _, _] rfl; clear hs73
       refine ⟨g + 1, ⟨?_, ?_⟩, by (show 60001 - (g + 1) < 60001 - g; omega)⟩
       · exact hjn
       have hs75 : Sx 66 [] [(32, .int .i64 ((g : Int) + 1)), (10, .bool true), (31, .pointer (some ⟨bw8, 0, none⟩)), (9, .pointer (some ⟨b19, 0, none⟩)), (6, .pointer (some ⟨b8, 0, none⟩)), (5, .int .i64 0), (4, .pointer (some ⟨b4, 0, none⟩)), (3, .pointer (some ⟨b3, 0, none⟩))] [(b19, some (.cells ⟨[.int .i64 (-(max (-(hireI b (g : Int))) (-(hireI b (g : Int))))), .int .i64 (max (hireI b (g : Int)) (hireI b (g : Int)))]⟩ 35 (0, 0))), (bw8, ow8), (b8, some (.cells ⟨(boxL b A n cp A2 n2 c2 A7 n c7 m7)⟩ 66 (0, 0))), (m7, some (.map es7 clk7)), (b7, o7), (b4, some (.cells ⟨[.int .i64 0, .int .i64 0]⟩ 35 (0, 0))), (b3, some (.cells ⟨[.func (.func 96) ⟨[]⟩ ⟨[]⟩]⟩ 83 (0, 0))), (b2, some (.cells ⟨(bxL b A n cp A2 n2 c2)⟩ 25 (0, 0)))] [] w _ _ := Sx.blks hs74 ((List.Sublist.cons _ (List.Sublist.cons _ (List.Sublist.cons_cons _ (List.Sublist.cons_cons _ (List.Sublist.cons_cons _ (List.Sublist.cons_cons _ (List.Sublist.cons_cons _ (List.Sublist.cons_cons _ (List.Sublist.cons_cons _ (List.Sublist.cons_cons _ List.Sublist.slnil)))))))))))
       have hsp : spanOf ((b.amtsTo (g + 1)).map (hireI b)) = ⟨-max (-((hireI b) (g : Int))) (-((hireI b) (g : Int))), max ((hireI b) (g : Int)) ((hireI b) (g : Int))⟩ := by
         rw [hsn, List.map_append, List.map_singleton, h0, List.map_nil]; exact span_one
       have hs76 := hs75.asB [(b19, some (.cells ⟨[.int .i64 ((spanOf ((b.amtsTo (g + 1)).map (hireI b))).lo), .int .i64 ((spanOf ((b.amtsTo (g + 1)).map (hireI b))).hi)]⟩ 35 (0, 0))), (bw8, ow8), (b8, some (.cells ⟨(boxL b A n cp A2 n2 c2 A7 n c7 m7)⟩ 66 (0, 0))), (m7, some (.map es7 clk7)), (b7, o7), (b4, some (.cells ⟨[.int .i64 0, .int .i64 0]⟩ 35 (0, 0))), (b3, some (.cells ⟨[.func (.func 96) ⟨[]⟩ ⟨[]⟩]⟩ 83 (0, 0))), (b2, some (.cells ⟨(bxL b A n cp A2 n2 c2)⟩ 25 (0, 0)))] (by (rw [hsp]) <;> rfl); clear hs75
       exact Sx.keepE [0, 2, 1, 3, 4, 5, 6, 7] _ ⟨⟨_, rfl, rfl⟩, ⟨_, rfl, rfl⟩, ⟨_, rfl, by rw [hsn]; simp⟩, ⟨_, rfl, rfl⟩, ⟨_, rfl, rfl⟩, ⟨_, rfl, rfl⟩, ⟨_, rfl, rfl⟩, ⟨_, rfl, rfl⟩, trivial⟩ hs76
     · have hne : b.amtsTo g ≠ [] := by simpa using hc34
       refine cd_skip ?_
       refine th_norm (hK32 _ _ ?_)
       refine cd_drawn1 mixed hs56 [⟨50, [], Is (.pointer (some ⟨b19, 0, none⟩))⟩, ⟨51, [0], Is (.int .i64 ((spanOf ((b.amtsTo g).map (hireI b))).lo))⟩, ⟨52, [1], Is (.int .i64 (-((spanOf ((b.amtsTo g).map (hireI b))).lo)))⟩, ⟨53, [], Is (.int .i64 (hireI b (g : Int)))⟩, ⟨54, [3], Is (.int .i64 (-(hireI b (g : Int))))⟩, ⟨55, [4], fun v_ bs_ => ∃ b37, v_ = .slice (some ⟨b37, 0, none⟩) 1 1 ∧ bs_ = [(b37, some (.cells ⟨[.int .i64 (-(hireI b (g : Int)))]⟩ 3 (0, 0)))]⟩, ⟨56, [2, 5], Is (.int .i64 (max (-((spanOf ((b.amtsTo g).map (hireI b))).lo)) (-(hireI b (g : Int)))))⟩, ⟨57, [6], Is (.int .i64 (-(max (-((spanOf ((b.amtsTo g).map (hireI b))).lo)) (-(hireI b (g : Int))))))⟩, ⟨58, [], Is (.pointer (some ⟨b19, 1, none⟩))⟩, ⟨59, [8], Is (.int .i64 ((spanOf ((b.amtsTo g).map (hireI b))).hi))⟩, ⟨60, [], Is (.int .i64 (hireI b (g : Int)))⟩, ⟨61, [10], fun v_ bs_ => ∃ b38, v_ = .slice (some ⟨b38, 0, none⟩) 1 1 ∧ bs_ = [(b38, some (.cells ⟨[.int .i64 (hireI b (g : Int))]⟩ 3 (0, 0)))]⟩, ⟨62, [9, 11], Is (.int .i64 (max ((spanOf ((b.amtsTo g).map (hireI b))).hi) (hireI b (g : Int))))⟩] (by kernel_rfl) (by kernel_rfl) ⟨⟨?_, ?_, ?_, ?_, ?_, ?_, ?_, ?_, ?_, ?_, ?_, ?_, ?_, trivial⟩, ?_⟩
       · rintro T_ B_ a_ w_ K_ hT hB hf hsD hk
         exact ob rfl rfl (st_field (o' := 0) hsD (evT hT 5 rfl) rfl hf runUnderlying35 rfl sizeOf3 rfl rfl fun _ _ => hk _ _ _ _ ⟨rfl, rfl⟩)
       · rintro T_ B_ a_ w_ K_ hT hB _ _ ⟨rfl, rfl⟩ h50 - hf hsD hk
         exact ob rfl rfl (st_load1 (o := 0) (off := 0) (v := .int .i64 ((spanOf ((b.amtsTo g).map (hireI b))).lo)) hsD (Ev.tmp h50) rfl hf isAgg3 (hsD.cellsM (inB hB 0 rfl)) rfl fun _ _ => hk _ _ _ _ ⟨rfl, rfl⟩)
       · rintro T_ B_ a_ w_ K_ hT hB _ _ ⟨rfl, rfl⟩ h51 - hf hsD hk
         exact ob rfl rfl (st_neg hsD (Ev.tmp h51) rfl hf (by omega) fun _ _ => hk _ _ _ _ ⟨rfl, rfl⟩)
       · rintro T_ B_ a_ w_ K_ hT hB hf hsD hk
         exact ob rfl rfl (st_move hsD (evT hT 1 rfl) rfl hf fun _ _ => hk _ _ _ _ ⟨rfl, rfl⟩)
       · rintro T_ B_ a_ w_ K_ hT hB _ _ ⟨rfl, rfl⟩ h53 - hf hsD hk
         exact ob rfl rfl (st_neg hsD (Ev.tmp h53) rfl hf (by omega) fun _ _ => hk _ _ _ _ ⟨rfl, rfl⟩)
       · rintro T_ B_ a_ w_ K_ hT hB _ _ ⟨rfl, rfl⟩ h54 - hf hsD hk
         exact ob rfl rfl (st_buildSlice hsD (qs := [(0, .int .i64 (-(hireI b (g : Int))))]) (e := 3) (l := [.int .i64 (-(hireI b (g : Int)))]) ⟨(Ev.tmp h54), trivial⟩ rfl hf rfl (fun _ => by kernel_rfl) fun b37 _ _ => hk _ _ _ _ ⟨b37, rfl, rfl⟩)
       · rintro T_ B_ a_ w_ K_ hT hB _ _ ⟨rfl, rfl⟩ h52 - _ _ ⟨b37, rfl, rfl⟩ h55 hB55 hf hsD hk
         exact ob rfl rfl (st_callv (vs := [.int .i64 (-((spanOf ((b.amtsTo g).map (hireI b))).lo)), .slice (some ⟨b37, 0, none⟩) 1 1]) hsD (.func _) ⟨(Ev.tmp h52), (Ev.tmp h55), trivial⟩ rfl hf call49 rfl (great_v (-((spanOf ((b.amtsTo g).map (hireI b))).lo)) (-(hireI b (g : Int))) b37 _ (hsD.cellsM (hB55 _ List.mem_cons_self))) fun _ _ => hk _ _ _ _ ⟨rfl, rfl⟩)
       · rintro T_ B_ a_ w_ K_ hT hB _ _ ⟨rfl, rfl⟩ h56 - hf hsD hk
         exact ob rfl rfl (st_neg hsD (Ev.tmp h56) rfl hf (by omega) fun _ _ => hk _ _ _ _ ⟨rfl, rfl⟩)
       · rintro T_ B_ a_ w_ K_ hT hB hf hsD hk
         exact ob rfl rfl (st_field (o' := 1) hsD (evT hT 5 rfl) rfl hf runUnderlying35 rfl sizeOf3 rfl rfl fun _ _ => hk _ _ _ _ ⟨rfl, rfl⟩)
       · rintro T_ B_ a_ w_ K_ hT hB _ _ ⟨rfl, rfl⟩ h58 - hf hsD hk
         exact ob rfl rfl (st_load1 (o := 0) (off := 1) (v := .int .i64 ((spanOf ((b.amtsTo g).map (hireI b))).hi)) hsD (Ev.tmp h58) rfl hf isAgg3 (hsD.cellsM (inB hB 0 rfl)) rfl fun _ _ => hk _ _ _ _ ⟨rfl, rfl⟩)
       · rintro T_ B_ a_ w_ K_ hT hB hf hsD hk
         exact ob rfl rfl (st_move hsD (evT hT 1 rfl) rfl hf fun _ _ => hk _ _ _ _ ⟨rfl, rfl⟩)
       · rintro T_ B_ a_ w_ K_ hT hB _ _ ⟨rfl, rfl⟩ h60 - hf hsD hk
         exact ob rfl rfl (st_buildSlice hsD (qs := [(0, .int .i64 (hireI b (g : Int)))]) (e := 3) (l := [.int .i64 (hireI b (g : Int))]) ⟨(Ev.tmp h60), trivial⟩ rfl hf rfl (fun _ => by kernel_rfl) fun b38 _ _ => hk _ _ _ _ ⟨b38, rfl, rfl⟩)
       · rintro T_ B_ a_ w_ K_ hT hB _ _ ⟨rfl, rfl⟩ h59 - _ _ ⟨b38, rfl, rfl⟩ h61 hB61 hf hsD hk
         exact ob rfl rfl (st_callv (vs := [.int .i64 ((spanOf ((b.amtsTo g).map (hireI b))).hi), .slice (some ⟨b38, 0, none⟩) 1 1]) hsD (.func _) ⟨(Ev.tmp h59), (Ev.tmp h61), trivial⟩ rfl hf call49 rfl (great_v ((spanOf ((b.amtsTo g).map (hireI b))).hi) (hireI b (g : Int)) b38 _ (hsD.cellsM (hB61 _ List.mem_cons_self))) fun _ _ => hk _ _ _ _ ⟨rfl, rfl⟩)
       rintro _ _ ⟨rfl, rfl⟩ _ _ ⟨rfl, rfl⟩ _ _ ⟨rfl, rfl⟩ _ _ ⟨rfl, rfl⟩ _ _ ⟨rfl, rfl⟩ _ _ ⟨b37, rfl, rfl⟩ _ _ ⟨rfl, rfl⟩ _ _ ⟨rfl, rfl⟩ _ _ ⟨rfl, rfl⟩ _ _ ⟨rfl, rfl⟩ _ _ ⟨rfl, rfl⟩ _ _ ⟨b38, rfl, rfl⟩ _ _ ⟨rfl, rfl⟩ a_57 w_57 hs57; clear hs56
       have hs58 := Sx.as (T' := [_, _, _, _, _, _, _, _, _, _, _, _, _, _, _, _, _, _, _, _, _, _, _]) (B' := [_, _, _, _, _, _, _, _, _, _]) rfl rfl hs57; clear hs57
       refine sq rfl (st_build hs58 (qs := [(0, .int .i64 (-(max (-((spanOf ((b.amtsTo g).map (hireI b))).lo)) (-(hireI b (g : Int)))))), (1, .int .i64 (max ((spanOf ((b.amtsTo g).map (hireI b))).hi) (hireI b (g : Int))))]) (v := .agg ⟨[.int .i64 (-(max (-((spanOf ((b.amtsTo g).map (hireI b))).lo)) (-(hireI b (g : Int))))), .int .i64 (max ((spanOf ((b.amtsTo g).map (hireI b))).hi) (hireI b (g : Int)))]⟩) ⟨(Ev.t 7 rfl), (Ev.t 12 rfl), trivial⟩ rfl rfl rfl (fun _ => by kernel_rfl) fun _ _ hs59 => ?_); clear hs58
       refine sq rfl (st_store (l' := [.int .i64 (-(max (-((spanOf ((b.amtsTo g).map (hireI b))).lo)) (-(hireI b (g : Int))))), .int .i64 (max ((spanOf ((b.amtsTo g).map (hireI b))).hi) (hireI b (g : Int)))]) (vs := [.int .i64 (-(max (-((spanOf ((b.amtsTo g).map (hireI b))).lo)) (-(hireI b (g : Int))))), .int .i64 (max ((spanOf ((b.amtsTo g).map (hireI b))).hi) (hireI b (g : Int)))]) (i := 2) hs59 (Ev.t 19 rfl) (Ev.t 0 rfl) sizeOf35 rfl rfl rfl rfl rfl rfl fun _ _ hs60 => ?_); clear hs59
       have hs61 := hs60.asB [_, _, _, _, _, _, _, _, _, _] rfl; clear hs60
       refine wpListIn_nil ?_
       have hs62 := hs61.keep [16, 17, 18, 19, 20, 21, 22, 23] [_, _, _, _, _, _, _, _] rfl; clear hs61
       refine in_norm ?_
       refine th_norm (hK26 _ _ ?_)
       refine cd_region1 ?_
       refine sq rfl (st_add (z := (g : Int) + 1) hs62 (Ev.t 0 rfl) (.const _) rfl rfl rfl (by omega) fun _ _ hs63 => ?_); clear hs62
       have hs64 := hs63.keep [0, 2, 3, 4, 5, 6, 7, 8] [_, _, _, _, _, _, _, _] rfl; clear hs63
       refine sq rfl (st_move hs64 (Ev.t 0 rfl) rfl rfl fun _ _ hs65 => ?_); clear hs64
       refine wpListIn_nil ?_
       have hs66 := hs65.keep [0, 2, 3, 4, 5, 6, 7, 8] [_, _, _, _, _, _, _, _] rfl; clear hs65
       refine ⟨g + 1, ⟨?_, ?_⟩, by (show 60001 - (g + 1) < 60001 - g; omega)⟩
       · exact hjn
       have hs67 : Sx 66 [] [(32, .int .i64 ((g : Int) + 1)), (31, .pointer (some ⟨bw8, 0, none⟩)), (10, .bool (!(b.amtsTo g).isEmpty)), (9, .pointer (some ⟨b19, 0, none⟩)), (6, .pointer (some ⟨b8, 0, none⟩)), (5, .int .i64 0), (4, .pointer (some ⟨b4, 0, none⟩)), (3, .pointer (some ⟨b3, 0, none⟩))] [(b19, some (.cells ⟨[.int .i64 (-(max (-((spanOf ((b.amtsTo g).map (hireI b))).lo)) (-(hireI b (g : Int))))), .int .i64 (max ((spanOf ((b.amtsTo g).map (hireI b))).hi) (hireI b (g : Int)))]⟩ 35 (0, 0))), (bw8, ow8), (b8, some (.cells ⟨(boxL b A n cp A2 n2 c2 A7 n c7 m7)⟩ 66 (0, 0))), (m7, some (.map es7 clk7)), (b7, o7), (b4, some (.cells ⟨[.int .i64 0, .int .i64 0]⟩ 35 (0, 0))), (b3, some (.cells ⟨[.func (.func 96) ⟨[]⟩ ⟨[]⟩]⟩ 83 (0, 0))), (b2, some (.cells ⟨(bxL b A n cp A2 n2 c2)⟩ 25 (0, 0)))] [] w _ _ := Sx.blks hs66 ((List.Sublist.cons _ (List.Sublist.cons _ (List.Sublist.cons_cons _ (List.Sublist.cons_cons _ (List.Sublist.cons_cons _ (List.Sublist.cons_cons _ (List.Sublist.cons_cons _ (List.Sublist.cons_cons _ (List.Sublist.cons_cons _ (List.Sublist.cons_cons _ List.Sublist.slnil)))))))))))
       have hsp : spanOf ((b.amtsTo (g + 1)).map (hireI b)) = ⟨-max (-(spanOf ((b.amtsTo g).map (hireI b))).lo) (-((hireI b) (g : Int))), max (spanOf ((b.amtsTo g).map (hireI b))).hi ((hireI b) (g : Int))⟩ := by
         rw [hsn, List.map_append, List.map_singleton]; exact span_more (by simpa using hne)
       have hs68 := hs67.asB [(b19, some (.cells ⟨[.int .i64 ((spanOf ((b.amtsTo (g + 1)).map (hireI b))).lo), .int .i64 ((spanOf ((b.amtsTo (g + 1)).map (hireI b))).hi)]⟩ 35 (0, 0))), (bw8, ow8), (b8, some (.cells ⟨(boxL b A n cp A2 n2 c2 A7 n c7 m7)⟩ 66 (0, 0))), (m7, some (.map es7 clk7)), (b7, o7), (b4, some (.cells ⟨[.int .i64 0, .int .i64 0]⟩ 35 (0, 0))), (b3, some (.cells ⟨[.func (.func 96) ⟨[]⟩ ⟨[]⟩]⟩ 83 (0, 0))), (b2, some (.cells ⟨(bxL b A n cp A2 n2 c2)⟩ 25 (0, 0)))] (by (rw [hsp]) <;> rfl); clear hs67
       exact Sx.keepE [0, 1, 2, 3, 4, 5, 6, 7] _ ⟨⟨_, rfl, rfl⟩, ⟨_, rfl, rfl⟩, ⟨_, rfl, by rw [hsn, List.isEmpty_eq_false_iff.2 hne, snoc_ne]⟩, ⟨_, rfl, rfl⟩, ⟨_, rfl, rfl⟩, ⟨_, rfl, rfl⟩, ⟨_, rfl, rfl⟩, ⟨_, rfl, rfl⟩, trivial⟩ hs68
 · have hge : g = 60001 := by simp at hc25; omega
   refine cd_exit ?_
   refine th_exit ?_
   refine th_exit ?_
   refine in_hit ?_
   refine th_norm (hK21 _ _ ?_)
   refine cd_region fun K39 hK39 => ?_
   refine sq rfl (st_loadA (o := 0) (off := 0) (vs := [.int .i64 ((spanOf ((b.amtsTo g).map (hireI b))).lo), .int .i64 ((spanOf ((b.amtsTo g).map (hireI b))).hi)]) hs39 (Ev.t 4 rfl) rfl rfl isAgg35 sizeOf35 (hs39.cells 0 rfl) rfl fun _ _ hs40 => ?_); clear hs39
   refine sq rfl (st_store (l' := [.int .i64 ((spanOf ((b.amtsTo g).map (hireI b))).lo), .int .i64 ((spanOf ((b.amtsTo g).map (hireI b))).hi)]) (vs := [.int .i64 ((spanOf ((b.amtsTo g).map (hireI b))).lo), .int .i64 ((spanOf ((b.amtsTo g).map (hireI b))).hi)]) (i := 5) hs40 (Ev.t 8 rfl) (Ev.t 0 rfl) sizeOf35 rfl rfl rfl rfl rfl rfl fun _ _ hs41 => ?_); clear hs40
   have hs42 := hs41.asB [_, _, _, _, _, _, _, _] rfl; clear hs41
   have hs43 := hs42.keep [0, 1, 2, 3, 4, 5, 6, 8, 9] [_, _, _, _, _, _, _, _, _] rfl; clear hs42
   refine sq rfl (st_assign hs43 (.const _) rfl rfl fun _ _ hs44 => ?_); clear hs43
   refine hK39 _ _ ?_; clear hK39
   have hs45 := hs44.keep [0, 8] [_, _] rfl; clear hs44
   refine cd_retv (vs := [.agg ⟨[.int .i64 ((spanOf ((b.amtsTo g).map (hireI b))).lo), .int .i64 ((spanOf ((b.amtsTo g).map (hireI b))).hi)]⟩, .int .i64 0]) hs45 hQ0 rfl ⟨resA (o := 0) (off := 0) (vs := [.int .i64 ((spanOf ((b.amtsTo g).map (hireI b))).lo), .int .i64 ((spanOf ((b.amtsTo g).map (hireI b))).hi)]) 1 rfl isAgg35 sizeOf35 (hs45.cells 5 rfl) rfl, .tmp 0 rfl, trivial⟩ ?_
   clear hs45 hQ0 hN0
   simp [pack, Bx.betweenR, hask, hge, Bx.amts]

theorem between96_no (b : Bx) (A : Option Addr) (n cp : Nat) (A2 : Option Addr) (n2 c2 : Nat) (hne : b.asked true ≠ 0) (w : World) (hP : RollsAt w A n b.rolls) (hn : n ≤ 140737488351232) (hF : SpsAt w A2 n2 b.free) (hn2 : n2 ≤ 140737488351232) :
    CallsV Tryd.prog 55 [.agg ⟨(bxL b A n cp A2 n2 c2)⟩, .agg ⟨[.func (.func 96) ⟨[]⟩ ⟨[]⟩]⟩] w (.tuple ⟨[.agg ⟨[.int .i64 ((b.betweenR hireI).1.lo), .int .i64 ((b.betweenR hireI).1.hi)]⟩, .int .i64 ((b.betweenR hireI).2)]⟩) := by
 refine enter (N := 66) (M := []) w func55 rfl rfl rfl (fun Q0 a_0 hQ0 hN0 hs0 => ?_)
 rcases asked_cases2 hne with hok | ⟨hok, hm0⟩
 · skip
   refine cd_region fun K1 hK1 => ?_
   refine sq rfl (st_box hs0 (Ev.t 0 rfl) rfl rfl rfl fun b2 _ _ hs1 => ?_); clear hs0
   refine sq rfl (st_box hs1 (Ev.t 2 rfl) rfl rfl rfl fun b3 _ _ hs2 => ?_); clear hs1
   refine sq rfl (st_alloc hs2 rfl rfl zeroValue35 rfl fun b4 _ _ hs3 => ?_); clear hs2
   refine sq rfl (st_assign hs3 (.const _) rfl rfl fun _ _ hs4 => ?_); clear hs3
   refine hK1 _ _ ?_; clear hK1
   have hs5 := hs4.keep [0, 1, 2, 3] [_, _, _, _] rfl; clear hs4
   refine cd_region fun K5 hK5 => ?_
   refine sq rfl (st_loadA (o := 0) (off := 0) (vs := (bxL b A n cp A2 n2 c2)) hs5 (Ev.t 3 rfl) rfl rfl isAgg25 sizeOf25 (hs5.cells 2 rfl) rfl fun _ _ hs6 => ?_); clear hs5
   refine sq rfl (st_callv (vs := [.agg ⟨(bxL b A n cp A2 n2 c2)⟩, .bool true]) hs6 (.func _) ⟨(Ev.t 0 rfl), (.const _), trivial⟩ rfl rfl call45 rfl (asked_1 b A n cp A2 n2 c2 _ (hP.kp hs6.kp) hn (hF.kp hs6.kp) hn2 true hok) fun _ _ hs7 => ?_); clear hs6
   refine sq rfl (st_move hs7 (Ev.t 0 rfl) rfl rfl fun _ _ hs8 => ?_); clear hs7
   refine sq rfl (st_extract hs8 (Ev.t 0 rfl) rfl rfl rfl fun _ _ hs9 => ?_); clear hs8
   refine sq rfl (st_extract hs9 (Ev.t 1 rfl) rfl rfl rfl fun _ _ hs10 => ?_); clear hs9
   refine sq rfl (st_alloc hs10 rfl rfl zeroValue66 rfl fun b6 _ _ hs11 => ?_); clear hs10
   refine sq rfl (st_store (l' := [.slice none 0 0, .slice none 0 0, .int .i64 0, .int .i64 0, .int .i64 0, .int .i64 0, .int .i64 0, .slice none 0 0, .map none]) (vs := [.slice none 0 0, .slice none 0 0, .int .i64 0, .int .i64 0, .int .i64 0, .int .i64 0, .int .i64 0, .slice none 0 0, .map none]) (i := 0) hs11 (Ev.t 0 rfl) (Ev.t 2 rfl) sizeOf66 rfl rfl rfl rfl rfl rfl fun _ _ hs12 => ?_); clear hs11
   have hs13 := hs12.asB [_, _, _, _] rfl; clear hs12
   refine sq rfl (st_assign hs13 (Ev.t 1 rfl) rfl rfl fun _ _ hs14 => ?_); clear hs13
   refine hK5 _ _ ?_; clear hK5
   have hs15 := hs14.keep [0, 1, 7, 8, 9] [_, _, _, _, _] rfl; clear hs14
   refine cd_seq fun K7 hK7 => ?_
   refine cd_region fun K8 hK8 => ?_
   refine sq rfl (st_move hs15 (Ev.t 0 rfl) rfl rfl fun _ _ hs16 => ?_); clear hs15
   refine sq rfl (st_cmp (c := true) hs16 (Ev.t 0 rfl) (.const _) rfl rfl rfl rfl fun _ _ hs17 => ?_); clear hs16
   refine hK8 _ _ ?_; clear hK8
   have hs18 := hs17.keep [0, 2, 3, 4, 5, 6] [_, _, _, _, _, _] rfl; clear hs17
   have hc9 : true = true := rfl
   refine cd_cond hs18 (Ev.t 0 rfl) (fun _ => ?_) (fun h => absurd (hc9.symm.trans h) (by decide))
   refine cd_region fun K10 hK10 => ?_
   refine sq rfl (st_build hs18 (qs := []) (v := .agg ⟨[.int .i64 0, .int .i64 0]⟩) trivial rfl rfl rfl (fun _ => by kernel_rfl) fun _ _ hs19 => ?_); clear hs18
   refine sq rfl (st_move hs19 (Ev.t 2 rfl) rfl rfl fun _ _ hs20 => ?_); clear hs19
   refine sq rfl (st_store (l' := [.int .i64 0, .int .i64 0]) (vs := [.int .i64 0, .int .i64 0]) (i := 1) hs20 (Ev.t 6 rfl) (Ev.t 1 rfl) sizeOf35 rfl rfl rfl rfl rfl rfl fun _ _ hs21 => ?_); clear hs20
   have hs22 := hs21.asB [_, _, _, _] rfl; clear hs21
   have hs23 := hs22.keep [0, 1, 2, 3, 4, 6, 7] [_, _, _, _, _, _, _] rfl; clear hs22
   refine sq rfl (st_assign hs23 (Ev.t 0 rfl) rfl rfl fun _ _ hs24 => ?_); clear hs23
   refine hK10 _ _ ?_; clear hK10
   have hs25 := hs24.keep [0, 6] [_, _] rfl; clear hs24
   refine cd_retv (vs := [.agg ⟨[.int .i64 0, .int .i64 0]⟩, .int .i64 90]) hs25 (fun a_ w_ h => th_ret (hQ0 a_ w_ h)) rfl ⟨resA (o := 0) (off := 0) (vs := [.int .i64 0, .int .i64 0]) 1 rfl isAgg35 sizeOf35 (hs25.cells 1 rfl) rfl, .tmp 0 rfl, trivial⟩ ?_
   clear hs25 hQ0 hN0 hK7
   first | (simp [pack, Bx.betweenR, Bx.asked, hok, hm0]; done) | simp [pack, Bx.betweenR, Bx.asked, hok]
 · skip
   refine cd_region fun K11 hK11 => ?_
   refine sq rfl (st_box hs0 (Ev.t 0 rfl) rfl rfl rfl fun b12 _ _ hs1 => ?_); clear hs0
   refine sq rfl (st_box hs1 (Ev.t 2 rfl) rfl rfl rfl fun b13 _ _ hs2 => ?_); clear hs1
   refine sq rfl (st_alloc hs2 rfl rfl zeroValue35 rfl fun b14 _ _ hs3 => ?_); clear hs2
   refine sq rfl (st_assign hs3 (.const _) rfl rfl fun _ _ hs4 => ?_); clear hs3
   refine hK11 _ _ ?_; clear hK11
   have hs5 := hs4.keep [0, 1, 2, 3] [_, _, _, _] rfl; clear hs4
   refine cd_region fun K15 hK15 => ?_
   refine sq rfl (st_loadA (o := 0) (off := 0) (vs := (bxL b A n cp A2 n2 c2)) hs5 (Ev.t 3 rfl) rfl rfl isAgg25 sizeOf25 (hs5.cells 2 rfl) rfl fun _ _ hs6 => ?_); clear hs5
   refine sq rfl (st_call (vs := [.agg ⟨(bxL b A n cp A2 n2 c2)⟩, .bool true]) hs6 (.func _) ⟨(Ev.t 0 rfl), (.const _), trivial⟩ rfl rfl call45 rfl (asked_3 b A n cp A2 n2 c2 _ (hP.kp hs6.kp) hn (hF.kp hs6.kp) hn2 true hok rfl hm0) fun v16 bs17 a_7 w_7 hp7 hs7 => ?_); clear hs6
   obtain ⟨A7, c7, m7, rfl, rfl⟩ := hp7
   have hs8 := Sx.as (T' := [_, _, _, _, _, _]) (B' := [_, _, _]) rfl rfl hs7; clear hs7
   refine sq rfl (st_move hs8 (Ev.t 0 rfl) rfl rfl fun _ _ hs9 => ?_); clear hs8
   refine sq rfl (st_extract hs9 (Ev.t 0 rfl) rfl rfl rfl fun _ _ hs10 => ?_); clear hs9
   refine sq rfl (st_extract hs10 (Ev.t 1 rfl) rfl rfl rfl fun _ _ hs11 => ?_); clear hs10
   refine sq rfl (st_alloc hs11 rfl rfl zeroValue66 rfl fun b18 _ _ hs12 => ?_); clear hs11
   refine sq rfl (st_store (l' := (boxL b A n cp A2 n2 c2 A7 n c7 m7)) (vs := (boxL b A n cp A2 n2 c2 A7 n c7 m7)) (i := 0) hs12 (Ev.t 0 rfl) (Ev.t 2 rfl) sizeOf66 rfl rfl rfl rfl rfl rfl fun _ _ hs13 => ?_); clear hs12
   have hs14 := hs13.asB [_, _, _, _] rfl; clear hs13
   refine sq rfl (st_assign hs14 (Ev.t 1 rfl) rfl rfl fun _ _ hs15 => ?_); clear hs14
   refine hK15 _ _ ?_; clear hK15
   have hs16 := hs15.keep [0, 1, 7, 8, 9] [_, _, _, _, _] rfl; clear hs15
   refine cd_seq fun K19 hK19 => ?_
   refine cd_region fun K20 hK20 => ?_
   refine sq rfl (st_move hs16 (Ev.t 0 rfl) rfl rfl fun _ _ hs17 => ?_); clear hs16
   refine sq rfl (st_cmp (c := true) hs17 (Ev.t 0 rfl) (.const _) rfl rfl rfl rfl fun _ _ hs18 => ?_); clear hs17
   refine hK20 _ _ ?_; clear hK20
   have hs19 := hs18.keep [0, 2, 3, 4, 5, 6] [_, _, _, _, _, _] rfl; clear hs18
   have hc21 : true = true := rfl
   refine cd_cond hs19 (Ev.t 0 rfl) (fun _ => ?_) (fun h => absurd (hc21.symm.trans h) (by decide))
   refine cd_region fun K22 hK22 => ?_
   refine sq rfl (st_build hs19 (qs := []) (v := .agg ⟨[.int .i64 0, .int .i64 0]⟩) trivial rfl rfl rfl (fun _ => by kernel_rfl) fun _ _ hs20 => ?_); clear hs19
   refine sq rfl (st_move hs20 (Ev.t 2 rfl) rfl rfl fun _ _ hs21 => ?_); clear hs20
   refine sq rfl (st_store (l' := [.int .i64 0, .int .i64 0]) (vs := [.int .i64 0, .int .i64 0]) (i := 1) hs21 (Ev.t 6 rfl) (Ev.t 1 rfl) sizeOf35 rfl rfl rfl rfl rfl rfl fun _ _ hs22 => ?_); clear hs21
   have hs23 := hs22.asB [_, _, _, _] rfl; clear hs22
   have hs24 := hs23.keep [0, 1, 2, 3, 4, 6, 7] [_, _, _, _, _, _, _] rfl; clear hs23
   refine sq rfl (st_assign hs24 (Ev.t 0 rfl) rfl rfl fun _ _ hs25 => ?_); clear hs24
   refine hK22 _ _ ?_; clear hK22
   have hs26 := hs25.keep [0, 6] [_, _] rfl; clear hs25
   refine cd_retv (vs := [.agg ⟨[.int .i64 0, .int .i64 0]⟩, .int .i64 92]) hs26 (fun a_ w_ h => th_ret (hQ0 a_ w_ h)) rfl ⟨resA (o := 0) (off := 0) (vs := [.int .i64 0, .int .i64 0]) 1 rfl isAgg35 sizeOf35 (hs26.cells 1 rfl) rfl, .tmp 0 rfl, trivial⟩ ?_
   clear hs26 hQ0 hN0 hK19
   first | (simp [pack, Bx.betweenR, Bx.asked, hok, hm0]; done) | simp [pack, Bx.betweenR, Bx.asked, hok]

theorem between96_v (b : Bx) (A : Option Addr) (n cp : Nat) (A2 : Option Addr) (n2 c2 : Nat) (w : World) (hP : RollsAt w A n b.rolls) (hn : n ≤ 140737488351232) (hF : SpsAt w A2 n2 b.free) (hn2 : n2 ≤ 140737488351232) : CallsV Tryd.prog 55 [.agg ⟨bxL b A n cp A2 n2 c2⟩, .agg ⟨[.func (.func 96) ⟨[]⟩ ⟨[]⟩]⟩] w (.tuple ⟨[.agg ⟨[.int .i64 ((b.betweenR hireI).1.lo), .int .i64 ((b.betweenR hireI).1.hi)]⟩, .int .i64 ((b.betweenR hireI).2)]⟩) := by
  by_cases h : b.asked true = 0
  · obtain ⟨hok, -, hm0⟩ := asked_zero.1 h
    exact between96_yes b A n cp A2 n2 c2 hok hm0 w hP hn hF hn2
  · exact between96_no b A n cp A2 n2 c2 h w hP hn hF hn2

theorem between97_yes (b : Bx) (A : Option Addr) (n cp : Nat) (A2 : Option Addr) (n2 c2 : Nat) (hok : b.ok = true) (hm0 : b.many ≠ 0) (w : World) (hP : RollsAt w A n b.rolls) (hn : n ≤ 140737488351232) (hF : SpsAt w A2 n2 b.free) (hn2 : n2 ≤ 140737488351232) :
    CallsV Tryd.prog 55 [.agg ⟨(bxL b A n cp A2 n2 c2)⟩, .agg ⟨[.func (.func 97) ⟨[]⟩ ⟨[]⟩]⟩] w (.tuple ⟨[.agg ⟨[.int .i64 ((b.betweenR leftI).1.lo), .int .i64 ((b.betweenR leftI).1.hi)]⟩, .int .i64 ((b.betweenR leftI).2)]⟩) := by
 have hO := ok_iff.1 hok
 have hask : b.asked true = 0 := asked_zero.2 ⟨hok, rfl, hm0⟩
 have hl1 := hP.len
 have hd := hO.duty; have hsh := hO.share; have hg := hO.guar
 have hcut : (List.range 60001).all (fun i => (cutA b (wf (sums [0] (its b.rolls b.sold))) 60001) i == (fun _ => 0) i) = false := by have h := cut_ne hO hm0; rw [show b.all = sums [0] (its b.rolls b.sold) from rfl] at h; exact h
 have hFb : ∀ t : Int, 0 ≤ t → t ≤ 60000 → -60000 ≤ (leftI b) t ∧ (leftI b) t ≤ 60000 := fun t h1 h2 => left_bd ⟨h1, h2⟩ hd hsh hg
 refine enter (N := 66) (M := []) w func55 rfl rfl rfl (fun Q0 a_0 hQ0 hN0 hs0 => ?_)
 refine cd_region fun K1 hK1 => ?_
 refine sq rfl (st_box hs0 (Ev.t 0 rfl) rfl rfl rfl fun b2 _ _ hs1 => ?_); clear hs0
 refine sq rfl (st_box hs1 (Ev.t 2 rfl) rfl rfl rfl fun b3 _ _ hs2 => ?_); clear hs1
 refine sq rfl (st_alloc hs2 rfl rfl zeroValue35 rfl fun b4 _ _ hs3 => ?_); clear hs2
 refine sq rfl (st_assign hs3 (.const _) rfl rfl fun _ _ hs4 => ?_); clear hs3
 refine hK1 _ _ ?_; clear hK1
 have hs5 := hs4.keep [0, 1, 2, 3] [_, _, _, _] rfl; clear hs4
 refine cd_region fun K5 hK5 => ?_
 refine sq rfl (st_loadA (o := 0) (off := 0) (vs := (bxL b A n cp A2 n2 c2)) hs5 (Ev.t 3 rfl) rfl rfl isAgg25 sizeOf25 (hs5.cells 2 rfl) rfl fun _ _ hs6 => ?_); clear hs5
 refine sq rfl (st_call (vs := [.agg ⟨(bxL b A n cp A2 n2 c2)⟩, .bool true]) hs6 (.func _) ⟨(Ev.t 0 rfl), (.const _), trivial⟩ rfl rfl call45 rfl (asked_4 b A n cp A2 n2 c2 _ (hP.kp hs6.kp) hn (hF.kp hs6.kp) hn2 true hok rfl hm0) fun v6 bs7 a_7 w_7 hp7 hs7 => ?_); clear hs6
 obtain ⟨A7, c7, b7, o7, m7, es7, clk7, rfl, hO7, hE7, rfl⟩ := hp7
 have hs8 := Sx.as (T' := [_, _, _, _, _, _]) (B' := [_, _, _, _, _]) rfl rfl hs7; clear hs7
 refine sq rfl (st_move hs8 (Ev.t 0 rfl) rfl rfl fun _ _ hs9 => ?_); clear hs8
 refine sq rfl (st_extract hs9 (Ev.t 0 rfl) rfl rfl rfl fun _ _ hs10 => ?_); clear hs9
 refine sq rfl (st_extract hs10 (Ev.t 1 rfl) rfl rfl rfl fun _ _ hs11 => ?_); clear hs10
 refine sq rfl (st_alloc hs11 rfl rfl zeroValue66 rfl fun b8 _ _ hs12 => ?_); clear hs11
 refine sq rfl (st_store (l' := (boxL b A n cp A2 n2 c2 A7 n c7 m7)) (vs := (boxL b A n cp A2 n2 c2 A7 n c7 m7)) (i := 0) hs12 (Ev.t 0 rfl) (Ev.t 2 rfl) sizeOf66 rfl rfl rfl rfl rfl rfl fun _ _ hs13 => ?_); clear hs12
 have hs14 := hs13.asB [_, _, _, _, _, _] rfl; clear hs13
 refine sq rfl (st_assign hs14 (Ev.t 1 rfl) rfl rfl fun _ _ hs15 => ?_); clear hs14
 refine hK5 _ _ ?_; clear hK5
 have hs16 := hs15.keep [0, 1, 7, 8, 9] [_, _, _, _, _] rfl; clear hs15
 refine cd_seq fun K9 hK9 => ?_
 refine cd_region fun K10 hK10 => ?_
 refine sq rfl (st_move hs16 (Ev.t 0 rfl) rfl rfl fun _ _ hs17 => ?_); clear hs16
 refine sq rfl (st_cmp (c := false) hs17 (Ev.t 0 rfl) (.const _) rfl rfl rfl rfl fun _ _ hs18 => ?_); clear hs17
 refine hK10 _ _ ?_; clear hK10
 have hs19 := hs18.keep [0, 2, 3, 4, 5, 6] [_, _, _, _, _, _] rfl; clear hs18
 have hc11 : false = false := rfl
 refine cd_cond hs19 (Ev.t 0 rfl) (fun h => absurd (hc11.symm.trans h) (by decide)) (fun _ => ?_)
 refine cd_skip ?_
 refine th_norm (hK9 _ _ ?_)
 refine cd_region fun K12 hK12 => ?_
 refine sq rfl (st_loadA (o := 0) (off := 0) (vs := (boxL b A n cp A2 n2 c2 A7 n c7 m7)) hs19 (Ev.t 2 rfl) rfl rfl isAgg66 sizeOf66 (hs19.cells 0 rfl) rfl fun _ _ hs20 => ?_); clear hs19
 refine sq rfl (st_call (vs := [.agg ⟨(boxL b A n cp A2 n2 c2 A7 n c7 m7)⟩]) hs20 (.func _) ⟨(Ev.t 0 rfl), trivial⟩ rfl rfl call76 rfl (amounts_b b A n cp A2 n2 c2 A7 n c7 m7 b.sold _ (hP.kp hs20.kp) hn (by have h := hO7.at hs20 2 rfl; rw [soldlen hO, ← hP.len] at h; exact h) hO.wf) fun v13 bs14 a_21 w_21 hp21 hs21 => ?_); clear hs20
 obtain ⟨bw8, ow8, rfl, hOw8, rfl⟩ := hp21
 have hs22 := Sx.as (T' := [_, _, _, _, _, _, _, _]) (B' := [_, _, _, _, _, _, _]) rfl rfl hs21; clear hs21
 refine sq rfl (st_assign hs22 (Ev.t 0 rfl) rfl rfl fun _ _ hs23 => ?_); clear hs22
 refine hK12 _ _ ?_; clear hK12
 have hs24 := hs23.keep [0, 5, 6, 7, 8] [_, _, _, _, _] rfl; clear hs23
 refine cd_seq fun K15 hK15 => ?_
 refine cd_region fun K16 hK16 => ?_
 refine sq rfl (st_move hs24 (Ev.t 0 rfl) rfl rfl fun _ _ hs25 => ?_); clear hs24
 refine sq rfl (st_nilCheck hs25 (Ev.t 0 rfl) rfl rfl fun _ _ hs26 => ?_); clear hs25
 refine sq rfl (st_loadW (i := 0) hs26 (Ev.t 0 rfl) rfl rfl isAgg100 sizeOf100 hOw8 rfl arr_len fun _ _ hs27 => ?_); clear hs26
 refine sq rfl (st_build hs27 (qs := []) (v := .agg ⟨vals (arr (fun _ => 0))⟩) trivial rfl rfl rfl build100_nil fun _ _ hs28 => ?_); clear hs27
 refine sq rfl (st_bin (z := .bool false) hs28 (Ev.t 1 rfl) (Ev.t 0 rfl) (fun w_ => (run_eql_100 _ _ (cutA b (wf (sums [0] (its b.rolls b.sold))) 60001) (fun _ => 0) w_).trans (by rw [hcut])) rfl rfl fun _ _ hs29 => ?_); clear hs28
 refine hK16 _ _ ?_; clear hK16
 have hs30 := hs29.keep [0, 5, 6, 7, 8, 9] [_, _, _, _, _, _] rfl; clear hs29
 have hc17 : false = false := rfl
 refine cd_cond hs30 (Ev.t 0 rfl) (fun h => absurd (hc17.symm.trans h) (by decide)) (fun _ => ?_)
 refine cd_skip ?_
 refine th_norm (hK15 _ _ ?_)
 refine cd_region fun K18 hK18 => ?_
 refine sq rfl (st_alloc hs30 rfl rfl zeroValue35 rfl fun b19 _ _ hs31 => ?_); clear hs30
 refine hK18 _ _ ?_; clear hK18
 have hs32 := hs31.keep [0, 2, 3, 4, 5, 6] [_, _, _, _, _, _] rfl; clear hs31
 refine cd_region fun K20 hK20 => ?_
 refine sq rfl (st_assign hs32 (.const _) rfl rfl fun _ _ hs33 => ?_); clear hs32
 refine hK20 _ _ ?_; clear hK20
 refine cd_seq fun K21 hK21 => ?_
 refine cd_region fun K22 hK22 => ?_
 refine sq rfl (st_move hs33 (Ev.t 2 rfl) rfl rfl fun _ _ hs34 => ?_); clear hs33
 refine sq rfl (st_move hs34 (.const _) rfl rfl fun _ _ hs35 => ?_); clear hs34
 refine hK22 _ _ ?_; clear hK22
 have hs36 := hs35.keep [0, 1, 2, 3, 5, 6, 7, 8] [_, _, _, _, _, _, _, _] rfl; clear hs35
 refine cd_block ?_
 have hs37 : Sx 66 [] [(32, .int .i64 (0 : Int)), (31, .pointer (some ⟨bw8, 0, none⟩)), (10, .bool (!(b.amtsTo 0).isEmpty)), (9, .pointer (some ⟨b19, 0, none⟩)), (6, .pointer (some ⟨b8, 0, none⟩)), (5, .int .i64 0), (4, .pointer (some ⟨b4, 0, none⟩)), (3, .pointer (some ⟨b3, 0, none⟩))] [(b19, some (.cells ⟨[.int .i64 ((spanOf ((b.amtsTo 0).map (leftI b))).lo), .int .i64 ((spanOf ((b.amtsTo 0).map (leftI b))).hi)]⟩ 35 (0, 0))), (bw8, ow8), (b8, some (.cells ⟨(boxL b A n cp A2 n2 c2 A7 n c7 m7)⟩ 66 (0, 0))), (m7, some (.map es7 clk7)), (b7, o7), (b4, some (.cells ⟨[.int .i64 0, .int .i64 0]⟩ 35 (0, 0))), (b3, some (.cells ⟨[.func (.func 97) ⟨[]⟩ ⟨[]⟩]⟩ 83 (0, 0))), (b2, some (.cells ⟨(bxL b A n cp A2 n2 c2)⟩ 25 (0, 0)))] [] w _ _ := Sx.keepE [0, 1, 2, 3, 4, 5, 6, 7] _ ⟨⟨_, rfl, rfl⟩, ⟨_, rfl, rfl⟩, ⟨_, rfl, rfl⟩, ⟨_, rfl, rfl⟩, ⟨_, rfl, rfl⟩, ⟨_, rfl, rfl⟩, ⟨_, rfl, rfl⟩, ⟨_, rfl, rfl⟩, trivial⟩ hs36; clear hs36
 refine cd_loop (X := Nat) (fun g a_ w_ => (g ≤ 60001) ∧ Sx 66 [] [(32, .int .i64 (g : Int)), (31, .pointer (some ⟨bw8, 0, none⟩)), (10, .bool (!(b.amtsTo g).isEmpty)), (9, .pointer (some ⟨b19, 0, none⟩)), (6, .pointer (some ⟨b8, 0, none⟩)), (5, .int .i64 0), (4, .pointer (some ⟨b4, 0, none⟩)), (3, .pointer (some ⟨b3, 0, none⟩))] [(b19, some (.cells ⟨[.int .i64 ((spanOf ((b.amtsTo g).map (leftI b))).lo), .int .i64 ((spanOf ((b.amtsTo g).map (leftI b))).hi)]⟩ 35 (0, 0))), (bw8, ow8), (b8, some (.cells ⟨(boxL b A n cp A2 n2 c2 A7 n c7 m7)⟩ 66 (0, 0))), (m7, some (.map es7 clk7)), (b7, o7), (b4, some (.cells ⟨[.int .i64 0, .int .i64 0]⟩ 35 (0, 0))), (b3, some (.cells ⟨[.func (.func 97) ⟨[]⟩ ⟨[]⟩]⟩ 83 (0, 0))), (b2, some (.cells ⟨(bxL b A n cp A2 n2 c2)⟩ 25 (0, 0)))] [] w a_ w_) (fun g => 60001 - g) (0) ⟨?_, hs37⟩ ?_
 · exact Nat.zero_le _
 intro g a_38 w_38 ⟨hj, hs38⟩; clear hs37
 refine cd_region fun K23 hK23 => ?_
 refine sq rfl (st_cmp (c := decide (((g : Int) : Int) < 60001)) hs38 (Ev.t 0 rfl) (.const _) rfl rfl rfl rfl fun _ _ hs39 => ?_); clear hs38
 refine hK23 _ _ ?_; clear hK23
 refine cd_seq fun K24 hK24 => ?_
 refine cd_cond hs39 (Ev.t 0 rfl) (fun hc25 => ?_) (fun hc25 => ?_)
 · have hjn : g < 60001 := by simp at hc25; omega
   have ht : 0 ≤ (g : Int) ∧ (g : Int) ≤ 60000 := by omega
   have hFg := hFb g ht.1 ht.2
   have hsb := spanOf_bd (l := (b.amtsTo g).map (leftI b)) (c := 60000) (by omega) (fun x hx => by obtain ⟨y, hy, rfl⟩ := List.mem_map.1 hx; have h7 := amts_at hy; exact hFb y h7.1 (by omega))
   refine cd_skip ?_
   refine th_norm (hK24 _ _ ?_)
   refine cd_seq fun K26 hK26 => ?_
   refine cd_block ?_
   refine cd_drawn mixed hs39 [⟨34, [], Is (.int .i64 (g : Int))⟩, ⟨35, [], Is (.pointer (some ⟨bw8, 0, none⟩))⟩, ⟨36, [1], Is (.pointer (some ⟨bw8, g * 1, none⟩))⟩, ⟨37, [2], Is (.int .i64 ((cutA b (wf (sums [0] (its b.rolls b.sold))) 60001) g))⟩, ⟨11, [0], Is (.int .i64 (g : Int))⟩] (by kernel_rfl) (by kernel_rfl) fun K27 hK27 => ⟨⟨?_, ?_, ?_, ?_, ?_, trivial⟩, ?_⟩
   · rintro T_ B_ a_ w_ K_ hT hB hf hsD hk
     exact ob rfl rfl (st_move hsD (evT hT 1 rfl) rfl hf fun _ _ => hk _ _ _ _ ⟨rfl, rfl⟩)
   · rintro T_ B_ a_ w_ K_ hT hB hf hsD hk
     exact ob rfl rfl (st_nilCheck hsD (evT hT 2 rfl) rfl hf fun _ _ => hk _ _ _ _ ⟨rfl, rfl⟩)
   · rintro T_ B_ a_ w_ K_ hT hB _ _ ⟨rfl, rfl⟩ h35 - hf hsD hk
     exact ob rfl rfl (st_indexArr (o' := g * 1) hsD (Ev.tmp h35) (evT hT 1 rfl) rfl hf runUnderlying100 sizeOf3 ⟨by omega, by omega⟩ (by simp) fun _ _ => hk _ _ _ _ ⟨rfl, rfl⟩)
   · rintro T_ B_ a_ w_ K_ hT hB _ _ ⟨rfl, rfl⟩ h36 - hf hsD hk
     exact ob rfl rfl (st_load1 (o := (g * 1)) (off := 0) (v := .int .i64 ((cutA b (wf (sums [0] (its b.rolls b.sold))) 60001) g)) hsD (Ev.tmp h36) rfl hf isAgg3 (own_cellM hsD hOw8 (hB _ (mem_nth (i := 1) rfl)) (arr_at (by omega))) rfl fun _ _ => hk _ _ _ _ ⟨rfl, rfl⟩)
   · rintro T_ B_ a_ w_ K_ hT hB _ _ ⟨rfl, rfl⟩ h34 - hf hsD hk
     exact ob rfl rfl (st_assign hsD (Ev.tmp h34) rfl hf fun _ _ => hk _ _ _ _ ⟨rfl, rfl⟩)
   rintro _ _ ⟨rfl, rfl⟩ _ _ ⟨rfl, rfl⟩ _ _ ⟨rfl, rfl⟩ _ _ ⟨rfl, rfl⟩ _ _ ⟨rfl, rfl⟩ a_40 w_40 hs40; clear hs39
   have hs41 := Sx.as (T' := [_, _, _, _, _, _, _, _, _, _, _, _, _, _]) (B' := [_, _, _, _, _, _, _, _]) rfl rfl hs40; clear hs40
   refine sq rfl (st_assign hs41 (Ev.t 3 rfl) rfl rfl fun _ _ hs42 => ?_); clear hs41
   refine hK27 _ _ ?_; clear hK27
   have hs43 := hs42.keep [0, 5, 7, 8, 9, 10, 11, 12, 13, 14] [_, _, _, _, _, _, _, _, _, _] rfl; clear hs42
   refine cd_seq fun K28 hK28 => ?_
   refine cd_region fun K29 hK29 => ?_
   refine sq rfl (st_move hs43 (Ev.t 0 rfl) rfl rfl fun _ _ hs44 => ?_); clear hs43
   refine sq rfl (st_cmp (c := ((cutA b (wf (sums [0] (its b.rolls b.sold))) 60001) g : Int) == 0) hs44 (Ev.t 0 rfl) (.const _) rfl rfl rfl rfl fun _ _ hs45 => ?_); clear hs44
   refine hK29 _ _ ?_; clear hK29
   have hs46 := hs45.keep [0, 3, 4, 5, 6, 7, 8, 9, 10, 11] [_, _, _, _, _, _, _, _, _, _] rfl; clear hs45
   refine cd_cond hs46 (Ev.t 0 rfl) (fun hc30 => ?_) (fun hc30 => ?_)
   · have hsk : b.amtsTo (g + 1) = b.amtsTo g := amts_skip (fun h => (cutA_pos (L := b.all) hjn).2 h (by have h9 := hc30; rw [beq_iff_eq] at h9; exact h9))
     refine cd_exit ?_
     refine th_exit ?_
     refine in_hit ?_
     refine th_norm (hK26 _ _ ?_)
     refine cd_region1 ?_
     refine sq rfl (st_add (z := (g : Int) + 1) hs46 (Ev.t 2 rfl) (.const _) rfl rfl rfl (by omega) fun _ _ hs47 => ?_); clear hs46
     have hs48 := hs47.keep [0, 1, 2, 4, 5, 6, 7, 8, 9, 10] [_, _, _, _, _, _, _, _, _, _] rfl; clear hs47
     refine sq rfl (st_move hs48 (Ev.t 0 rfl) rfl rfl fun _ _ hs49 => ?_); clear hs48
     refine wpListIn_nil ?_
     have hs50 := hs49.keep [0, 4, 5, 6, 7, 8, 9, 10] [_, _, _, _, _, _, _, _] rfl; clear hs49
     refine ⟨g + 1, ⟨?_, ?_⟩, by (show 60001 - (g + 1) < 60001 - g; omega)⟩
     · exact hjn
     have hs51 := hs50.asB [(b19, some (.cells ⟨[.int .i64 ((spanOf ((b.amtsTo (g + 1)).map (leftI b))).lo), .int .i64 ((spanOf ((b.amtsTo (g + 1)).map (leftI b))).hi)]⟩ 35 (0, 0))), (bw8, ow8), (b8, some (.cells ⟨(boxL b A n cp A2 n2 c2 A7 n c7 m7)⟩ 66 (0, 0))), (m7, some (.map es7 clk7)), (b7, o7), (b4, some (.cells ⟨[.int .i64 0, .int .i64 0]⟩ 35 (0, 0))), (b3, some (.cells ⟨[.func (.func 97) ⟨[]⟩ ⟨[]⟩]⟩ 83 (0, 0))), (b2, some (.cells ⟨(bxL b A n cp A2 n2 c2)⟩ 25 (0, 0)))] (by (rw [hsk]) <;> rfl); clear hs50
     exact Sx.keepE [0, 1, 2, 3, 4, 5, 6, 7] _ ⟨⟨_, rfl, rfl⟩, ⟨_, rfl, rfl⟩, ⟨_, rfl, by rw [hsk]⟩, ⟨_, rfl, rfl⟩, ⟨_, rfl, rfl⟩, ⟨_, rfl, rfl⟩, ⟨_, rfl, rfl⟩, ⟨_, rfl, rfl⟩, trivial⟩ hs51
   · have hsn := amts_snoc ((cutA_pos (b := b) (L := b.all) hjn).1 (by have h9 := hc30; rw [beq_eq_false_iff_ne] at h9; exact h9))
     refine cd_skip ?_
     refine th_norm (hK28 _ _ ?_)
     refine cd_region fun K31 hK31 => ?_
     refine sq rfl (st_field (o' := 0) hs46 (Ev.t 9 rfl) rfl rfl runUnderlying83 rfl sizeOf80 rfl rfl fun _ _ hs47 => ?_); clear hs46
     refine sq rfl (st_load1 (o := 0) (off := 0) (v := .func (.func 97) ⟨[]⟩ ⟨[]⟩) hs47 (Ev.t 0 rfl) rfl rfl isAgg80 (hs47.cells 6 rfl) rfl fun _ _ hs48 => ?_); clear hs47
     refine sq rfl (st_loadA (o := 0) (off := 0) (vs := (boxL b A n cp A2 n2 c2 A7 n c7 m7)) hs48 (Ev.t 8 rfl) rfl rfl isAgg66 sizeOf66 (hs48.cells 2 rfl) rfl fun _ _ hs49 => ?_); clear hs48
     refine sq rfl (st_move hs49 (Ev.t 4 rfl) rfl rfl fun _ _ hs50 => ?_); clear hs49
     refine sq rfl (st_callv (vs := [.agg ⟨(boxL b A n cp A2 n2 c2 A7 n c7 m7)⟩, .int .i64 (g : Int)]) hs50 (Ev.t 2 rfl) ⟨(Ev.t 1 rfl), (Ev.t 0 rfl), trivial⟩ rfl rfl call97 rfl (left_v b A n cp A2 n2 c2 A7 n c7 m7 (g : Int) _ ht hd hsh hg) fun _ _ hs51 => ?_); clear hs50
     refine sq rfl (st_assign hs51 (Ev.t 0 rfl) rfl rfl fun _ _ hs52 => ?_); clear hs51
     refine hK31 _ _ ?_; clear hK31
     have hs53 := hs52.keep [0, 8, 9, 10, 11, 12, 13, 14, 15] [_, _, _, _, _, _, _, _, _] rfl; clear hs52
     refine cd_seq fun K32 hK32 => ?_
     refine cd_region fun K33 hK33 => ?_
     refine sq rfl (st_move hs53 (Ev.t 3 rfl) rfl rfl fun _ _ hs54 => ?_); clear hs53
     refine sq rfl (st_not hs54 (Ev.t 0 rfl) rfl rfl fun _ _ hs55 => ?_); clear hs54
     refine hK33 _ _ ?_; clear hK33
     have hs56 := hs55.keep [0, 2, 3, 4, 5, 6, 7, 8, 9, 10] [_, _, _, _, _, _, _, _, _, _] rfl; clear hs55
     refine cd_cond hs56 (Ev.t 0 rfl) (fun hc34 => ?_) (fun hc34 => ?_)
     · have h0 : b.amtsTo g = [] := by simpa using hc34
       refine cd_region1 ?_
       refine sq rfl (st_move hs56 (Ev.t 1 rfl) rfl rfl fun _ _ hs57 => ?_); clear hs56
       refine sq rfl (st_move hs57 (Ev.t 2 rfl) rfl rfl fun _ _ hs58 => ?_); clear hs57
       refine sq rfl (st_build hs58 (qs := [(0, .int .i64 (leftI b (g : Int))), (1, .int .i64 (leftI b (g : Int)))]) (v := .agg ⟨[.int .i64 (leftI b (g : Int)), .int .i64 (leftI b (g : Int))]⟩) ⟨(Ev.t 1 rfl), (Ev.t 0 rfl), trivial⟩ rfl rfl rfl (fun _ => by kernel_rfl) fun _ _ hs59 => ?_); clear hs58
       refine sq rfl (st_store (l' := [.int .i64 (leftI b (g : Int)), .int .i64 (leftI b (g : Int))]) (vs := [.int .i64 (leftI b (g : Int)), .int .i64 (leftI b (g : Int))]) (i := 0) hs59 (Ev.t 8 rfl) (Ev.t 0 rfl) sizeOf35 rfl rfl rfl rfl rfl rfl fun _ _ hs60 => ?_); clear hs59
       have hs61 := hs60.asB [_, _, _, _, _, _, _, _] rfl; clear hs60
       have hs62 := hs61.keep [0, 1, 2, 3, 4, 5, 6, 8, 9, 10, 11, 12] [_, _, _, _, _, _, _, _, _, _, _, _] rfl; clear hs61
       refine sq rfl (st_assign hs62 (.const _) rfl rfl fun _ _ hs63 => ?_); clear hs62
       refine wpListIn_nil ?_
       have hs64 := hs63.keep [0, 5, 6, 7, 8, 9, 10, 11, 12] [_, _, _, _, _, _, _, _, _] rfl; clear hs63
       refine th_norm (hK32 _ _ ?_)
       refine cd_drawn1 mixed hs64 [⟨50, [], Is (.pointer (some ⟨b19, 0, none⟩))⟩, ⟨51, [0], Is (.int .i64 (leftI b (g : Int)))⟩, ⟨52, [1], Is (.int .i64 (-(leftI b (g : Int))))⟩, ⟨53, [], Is (.int .i64 (leftI b (g : Int)))⟩, ⟨54, [3], Is (.int .i64 (-(leftI b (g : Int))))⟩, ⟨55, [4], fun v_ bs_ => ∃ b35, v_ = .slice (some ⟨b35, 0, none⟩) 1 1 ∧ bs_ = [(b35, some (.cells ⟨[.int .i64 (-(leftI b (g : Int)))]⟩ 3 (0, 0)))]⟩, ⟨56, [2, 5], Is (.int .i64 (max (-(leftI b (g : Int))) (-(leftI b (g : Int)))))⟩, ⟨57, [6], Is (.int .i64 (-(max (-(leftI b (g : Int))) (-(leftI b (g : Int))))))⟩, ⟨58, [], Is (.pointer (some ⟨b19, 1, none⟩))⟩, ⟨59, [8], Is (.int .i64 (leftI b (g : Int)))⟩, ⟨60, [], Is (.int .i64 (leftI b (g : Int)))⟩, ⟨61, [10], fun v_ bs_ => ∃ b36, v_ = .slice (some ⟨b36, 0, none⟩) 1 1 ∧ bs_ = [(b36, some (.cells ⟨[.int .i64 (leftI b (g : Int))]⟩ 3 (0, 0)))]⟩, ⟨62, [9, 11], Is (.int .i64 (max (leftI b (g : Int)) (leftI b (g : Int))))⟩] (by kernel_rfl) (by kernel_rfl) ⟨⟨?_, ?_, ?_, ?_, ?_, ?_, ?_, ?_, ?_, ?_, ?_, ?_, ?_, trivial⟩, ?_⟩
       · rintro T_ B_ a_ w_ K_ hT hB hf hsD hk
         exact ob rfl rfl (st_field (o' := 0) hsD (evT hT 4 rfl) rfl hf runUnderlying35 rfl sizeOf3 rfl rfl fun _ _ => hk _ _ _ _ ⟨rfl, rfl⟩)
       · rintro T_ B_ a_ w_ K_ hT hB _ _ ⟨rfl, rfl⟩ h50 - hf hsD hk
         exact ob rfl rfl (st_load1 (o := 0) (off := 0) (v := .int .i64 (leftI b (g : Int))) hsD (Ev.tmp h50) rfl hf isAgg3 (hsD.cellsM (inB hB 0 rfl)) rfl fun _ _ => hk _ _ _ _ ⟨rfl, rfl⟩)
       · rintro T_ B_ a_ w_ K_ hT hB _ _ ⟨rfl, rfl⟩ h51 - hf hsD hk
         exact ob rfl rfl (st_neg hsD (Ev.tmp h51) rfl hf (by omega) fun _ _ => hk _ _ _ _ ⟨rfl, rfl⟩)
       · rintro T_ B_ a_ w_ K_ hT hB hf hsD hk
         exact ob rfl rfl (st_move hsD (evT hT 1 rfl) rfl hf fun _ _ => hk _ _ _ _ ⟨rfl, rfl⟩)
       · rintro T_ B_ a_ w_ K_ hT hB _ _ ⟨rfl, rfl⟩ h53 - hf hsD hk
         exact ob rfl rfl (st_neg hsD (Ev.tmp h53) rfl hf (by omega) fun _ _ => hk _ _ _ _ ⟨rfl, rfl⟩)
       · rintro T_ B_ a_ w_ K_ hT hB _ _ ⟨rfl, rfl⟩ h54 - hf hsD hk
         exact ob rfl rfl (st_buildSlice hsD (qs := [(0, .int .i64 (-(leftI b (g : Int))))]) (e := 3) (l := [.int .i64 (-(leftI b (g : Int)))]) ⟨(Ev.tmp h54), trivial⟩ rfl hf rfl (fun _ => by kernel_rfl) fun b35 _ _ => hk _ _ _ _ ⟨b35, rfl, rfl⟩)
       · rintro T_ B_ a_ w_ K_ hT hB _ _ ⟨rfl, rfl⟩ h52 - _ _ ⟨b35, rfl, rfl⟩ h55 hB55 hf hsD hk
         exact ob rfl rfl (st_callv (vs := [.int .i64 (-(leftI b (g : Int))), .slice (some ⟨b35, 0, none⟩) 1 1]) hsD (.func _) ⟨(Ev.tmp h52), (Ev.tmp h55), trivial⟩ rfl hf call49 rfl (great_v (-(leftI b (g : Int))) (-(leftI b (g : Int))) b35 _ (hsD.cellsM (hB55 _ List.mem_cons_self))) fun _ _ => hk _ _ _ _ ⟨rfl, rfl⟩)
       · rintro T_ B_ a_ w_ K_ hT hB _ _ ⟨rfl, rfl⟩ h56 - hf hsD hk
         exact ob rfl rfl (st_neg hsD (Ev.tmp h56) rfl hf (by omega) fun _ _ => hk _ _ _ _ ⟨rfl, rfl⟩)
       · rintro T_ B_ a_ w_ K_ hT hB hf hsD hk
         exact ob rfl rfl (st_field (o' := 1) hsD (evT hT 4 rfl) rfl hf runUnderlying35 rfl sizeOf3 rfl rfl fun _ _ => hk _ _ _ _ ⟨rfl, rfl⟩)
       · rintro T_ B_ a_ w_ K_ hT hB _ _ ⟨rfl, rfl⟩ h58 - hf hsD hk
         exact ob rfl rfl (st_load1 (o := 0) (off := 1) (v := .int .i64 (leftI b (g : Int))) hsD (Ev.tmp h58) rfl hf isAgg3 (hsD.cellsM (inB hB 0 rfl)) rfl fun _ _ => hk _ _ _ _ ⟨rfl, rfl⟩)
       · rintro T_ B_ a_ w_ K_ hT hB hf hsD hk
         exact ob rfl rfl (st_move hsD (evT hT 1 rfl) rfl hf fun _ _ => hk _ _ _ _ ⟨rfl, rfl⟩)
       · rintro T_ B_ a_ w_ K_ hT hB _ _ ⟨rfl, rfl⟩ h60 - hf hsD hk
         exact ob rfl rfl (st_buildSlice hsD (qs := [(0, .int .i64 (leftI b (g : Int)))]) (e := 3) (l := [.int .i64 (leftI b (g : Int))]) ⟨(Ev.tmp h60), trivial⟩ rfl hf rfl (fun _ => by kernel_rfl) fun b36 _ _ => hk _ _ _ _ ⟨b36, rfl, rfl⟩)
       · rintro T_ B_ a_ w_ K_ hT hB _ _ ⟨rfl, rfl⟩ h59 - _ _ ⟨b36, rfl, rfl⟩ h61 hB61 hf hsD hk
         exact ob rfl rfl (st_callv (vs := [.int .i64 (leftI b (g : Int)), .slice (some ⟨b36, 0, none⟩) 1 1]) hsD (.func _) ⟨(Ev.tmp h59), (Ev.tmp h61), trivial⟩ rfl hf call49 rfl (great_v (leftI b (g : Int)) (leftI b (g : Int)) b36 _ (hsD.cellsM (hB61 _ List.mem_cons_self))) fun _ _ => hk _ _ _ _ ⟨rfl, rfl⟩)
       rintro _ _ ⟨rfl, rfl⟩ _ _ ⟨rfl, rfl⟩ _ _ ⟨rfl, rfl⟩ _ _ ⟨rfl, rfl⟩ _ _ ⟨rfl, rfl⟩ _ _ ⟨b35, rfl, rfl⟩ _ _ ⟨rfl, rfl⟩ _ _ ⟨rfl, rfl⟩ _ _ ⟨rfl, rfl⟩ _ _ ⟨rfl, rfl⟩ _ _ ⟨rfl, rfl⟩ _ _ ⟨b36, rfl, rfl⟩ _ _ ⟨rfl, rfl⟩ a_65 w_65 hs65; clear hs64
       have hs66 := Sx.as (T' := [_, _, _, _, _, _, _, _, _, _, _, _, _, _, _, _, _, _, _, _, _, _]) (B' := [_, _, _, _, _, _, _, _, _, _]) rfl rfl hs65; clear hs65
       refine sq rfl (st_build hs66 (qs := [(0, .int .i64 (-(max (-(leftI b (g : Int))) (-(leftI b (g : Int)))))), (1, .int .i64 (max (leftI b (g : Int)) (leftI b (g : Int))))]) (v := .agg ⟨[.int .i64 (-(max (-(leftI b (g : Int))) (-(leftI b (g : Int))))), .int .i64 (max (leftI b (g : Int)) (leftI b (g : Int)))]⟩) ⟨(Ev.t 7 rfl), (Ev.t 12 rfl), trivial⟩ rfl rfl rfl (fun _ => by kernel_rfl) fun _ _ hs67 => ?_); clear hs66
       refine sq rfl (st_store (l' := [.int .i64 (-(max (-(leftI b (g : Int))) (-(leftI b (g : Int))))), .int .i64 (max (leftI b (g : Int)) (leftI b (g : Int)))]) (vs := [.int .i64 (-(max (-(leftI b (g : Int))) (-(leftI b (g : Int))))), .int .i64 (max (leftI b (g : Int)) (leftI b (g : Int)))]) (i := 2) hs67 (Ev.t 18 rfl) (Ev.t 0 rfl) sizeOf35 rfl rfl rfl rfl rfl rfl fun _ _ hs68 => ?_); clear hs67
       have hs69 := hs68.asB [_, _, _, _, _, _, _, _, _, _] rfl; clear hs68
       refine wpListIn_nil ?_
       have hs70 := hs69.keep [14, 16, 17, 18, 19, 20, 21, 22] [_, _, _, _, _, _, _, _] rfl; clear hs69
       refine in_norm ?_
       refine th_norm (hK26 _ _ ?_)
       refine cd_region1 ?_
       refine sq rfl (st_add (z := (g : Int) + 1) hs70 (Ev.t 1 rfl) (.const _) rfl rfl rfl (by omega) fun _ _ hs71 => ?_); clear hs70
       have hs72 := hs71.keep [0, 1, 3, 4, 5, 6, 7, 8] [_, _, _, _, _, _, _, _] rfl; clear hs71
       refine sq rfl (st_move hs72 (Ev.t 0 rfl) rfl rfl fun _ _ hs73 => ?_); clear hs72
       refine wpListIn_nil ?_
       have hs74 := hs73.keep [0, 2, 3, 4, 5, 6, 7, 8] [_, _, _, _, _, _, _, _] rfl; clear hs73
       refine ⟨g + 1, ⟨?_, ?_⟩, by (show 60001 - (g + 1) < 60001 - g; omega)⟩
       · exact hjn
       have hs75 : Sx 66 [] [(32, .int .i64 ((g : Int) + 1)), (10, .bool true), (31, .pointer (some ⟨bw8, 0, none⟩)), (9, .pointer (some ⟨b19, 0, none⟩)), (6, .pointer (some ⟨b8, 0, none⟩)), (5, .int .i64 0), (4, .pointer (some ⟨b4, 0, none⟩)), (3, .pointer (some ⟨b3, 0, none⟩))] [(b19, some (.cells ⟨[.int .i64 (-(max (-(leftI b (g : Int))) (-(leftI b (g : Int))))), .int .i64 (max (leftI b (g : Int)) (leftI b (g : Int)))]⟩ 35 (0, 0))), (bw8, ow8), (b8, some (.cells ⟨(boxL b A n cp A2 n2 c2 A7 n c7 m7)⟩ 66 (0, 0))), (m7, some (.map es7 clk7)), (b7, o7), (b4, some (.cells ⟨[.int .i64 0, .int .i64 0]⟩ 35 (0, 0))), (b3, some (.cells ⟨[.func (.func 97) ⟨[]⟩ ⟨[]⟩]⟩ 83 (0, 0))), (b2, some (.cells ⟨(bxL b A n cp A2 n2 c2)⟩ 25 (0, 0)))] [] w _ _ := Sx.blks hs74 ((List.Sublist.cons _ (List.Sublist.cons _ (List.Sublist.cons_cons _ (List.Sublist.cons_cons _ (List.Sublist.cons_cons _ (List.Sublist.cons_cons _ (List.Sublist.cons_cons _ (List.Sublist.cons_cons _ (List.Sublist.cons_cons _ (List.Sublist.cons_cons _ List.Sublist.slnil)))))))))))
       have hsp : spanOf ((b.amtsTo (g + 1)).map (leftI b)) = ⟨-max (-((leftI b) (g : Int))) (-((leftI b) (g : Int))), max ((leftI b) (g : Int)) ((leftI b) (g : Int))⟩ := by
         rw [hsn, List.map_append, List.map_singleton, h0, List.map_nil]; exact span_one
       have hs76 := hs75.asB [(b19, some (.cells ⟨[.int .i64 ((spanOf ((b.amtsTo (g + 1)).map (leftI b))).lo), .int .i64 ((spanOf ((b.amtsTo (g + 1)).map (leftI b))).hi)]⟩ 35 (0, 0))), (bw8, ow8), (b8, some (.cells ⟨(boxL b A n cp A2 n2 c2 A7 n c7 m7)⟩ 66 (0, 0))), (m7, some (.map es7 clk7)), (b7, o7), (b4, some (.cells ⟨[.int .i64 0, .int .i64 0]⟩ 35 (0, 0))), (b3, some (.cells ⟨[.func (.func 97) ⟨[]⟩ ⟨[]⟩]⟩ 83 (0, 0))), (b2, some (.cells ⟨(bxL b A n cp A2 n2 c2)⟩ 25 (0, 0)))] (by (rw [hsp]) <;> rfl); clear hs75
       exact Sx.keepE [0, 2, 1, 3, 4, 5, 6, 7] _ ⟨⟨_, rfl, rfl⟩, ⟨_, rfl, rfl⟩, ⟨_, rfl, by rw [hsn]; simp⟩, ⟨_, rfl, rfl⟩, ⟨_, rfl, rfl⟩, ⟨_, rfl, rfl⟩, ⟨_, rfl, rfl⟩, ⟨_, rfl, rfl⟩, trivial⟩ hs76
     · have hne : b.amtsTo g ≠ [] := by simpa using hc34
       refine cd_skip ?_
       refine th_norm (hK32 _ _ ?_)
       refine cd_drawn1 mixed hs56 [⟨50, [], Is (.pointer (some ⟨b19, 0, none⟩))⟩, ⟨51, [0], Is (.int .i64 ((spanOf ((b.amtsTo g).map (leftI b))).lo))⟩, ⟨52, [1], Is (.int .i64 (-((spanOf ((b.amtsTo g).map (leftI b))).lo)))⟩, ⟨53, [], Is (.int .i64 (leftI b (g : Int)))⟩, ⟨54, [3], Is (.int .i64 (-(leftI b (g : Int))))⟩, ⟨55, [4], fun v_ bs_ => ∃ b37, v_ = .slice (some ⟨b37, 0, none⟩) 1 1 ∧ bs_ = [(b37, some (.cells ⟨[.int .i64 (-(leftI b (g : Int)))]⟩ 3 (0, 0)))]⟩, ⟨56, [2, 5], Is (.int .i64 (max (-((spanOf ((b.amtsTo g).map (leftI b))).lo)) (-(leftI b (g : Int)))))⟩, ⟨57, [6], Is (.int .i64 (-(max (-((spanOf ((b.amtsTo g).map (leftI b))).lo)) (-(leftI b (g : Int))))))⟩, ⟨58, [], Is (.pointer (some ⟨b19, 1, none⟩))⟩, ⟨59, [8], Is (.int .i64 ((spanOf ((b.amtsTo g).map (leftI b))).hi))⟩, ⟨60, [], Is (.int .i64 (leftI b (g : Int)))⟩, ⟨61, [10], fun v_ bs_ => ∃ b38, v_ = .slice (some ⟨b38, 0, none⟩) 1 1 ∧ bs_ = [(b38, some (.cells ⟨[.int .i64 (leftI b (g : Int))]⟩ 3 (0, 0)))]⟩, ⟨62, [9, 11], Is (.int .i64 (max ((spanOf ((b.amtsTo g).map (leftI b))).hi) (leftI b (g : Int))))⟩] (by kernel_rfl) (by kernel_rfl) ⟨⟨?_, ?_, ?_, ?_, ?_, ?_, ?_, ?_, ?_, ?_, ?_, ?_, ?_, trivial⟩, ?_⟩
       · rintro T_ B_ a_ w_ K_ hT hB hf hsD hk
         exact ob rfl rfl (st_field (o' := 0) hsD (evT hT 5 rfl) rfl hf runUnderlying35 rfl sizeOf3 rfl rfl fun _ _ => hk _ _ _ _ ⟨rfl, rfl⟩)
       · rintro T_ B_ a_ w_ K_ hT hB _ _ ⟨rfl, rfl⟩ h50 - hf hsD hk
         exact ob rfl rfl (st_load1 (o := 0) (off := 0) (v := .int .i64 ((spanOf ((b.amtsTo g).map (leftI b))).lo)) hsD (Ev.tmp h50) rfl hf isAgg3 (hsD.cellsM (inB hB 0 rfl)) rfl fun _ _ => hk _ _ _ _ ⟨rfl, rfl⟩)
       · rintro T_ B_ a_ w_ K_ hT hB _ _ ⟨rfl, rfl⟩ h51 - hf hsD hk
         exact ob rfl rfl (st_neg hsD (Ev.tmp h51) rfl hf (by omega) fun _ _ => hk _ _ _ _ ⟨rfl, rfl⟩)
       · rintro T_ B_ a_ w_ K_ hT hB hf hsD hk
         exact ob rfl rfl (st_move hsD (evT hT 1 rfl) rfl hf fun _ _ => hk _ _ _ _ ⟨rfl, rfl⟩)
       · rintro T_ B_ a_ w_ K_ hT hB _ _ ⟨rfl, rfl⟩ h53 - hf hsD hk
         exact ob rfl rfl (st_neg hsD (Ev.tmp h53) rfl hf (by omega) fun _ _ => hk _ _ _ _ ⟨rfl, rfl⟩)
       · rintro T_ B_ a_ w_ K_ hT hB _ _ ⟨rfl, rfl⟩ h54 - hf hsD hk
         exact ob rfl rfl (st_buildSlice hsD (qs := [(0, .int .i64 (-(leftI b (g : Int))))]) (e := 3) (l := [.int .i64 (-(leftI b (g : Int)))]) ⟨(Ev.tmp h54), trivial⟩ rfl hf rfl (fun _ => by kernel_rfl) fun b37 _ _ => hk _ _ _ _ ⟨b37, rfl, rfl⟩)
       · rintro T_ B_ a_ w_ K_ hT hB _ _ ⟨rfl, rfl⟩ h52 - _ _ ⟨b37, rfl, rfl⟩ h55 hB55 hf hsD hk
         exact ob rfl rfl (st_callv (vs := [.int .i64 (-((spanOf ((b.amtsTo g).map (leftI b))).lo)), .slice (some ⟨b37, 0, none⟩) 1 1]) hsD (.func _) ⟨(Ev.tmp h52), (Ev.tmp h55), trivial⟩ rfl hf call49 rfl (great_v (-((spanOf ((b.amtsTo g).map (leftI b))).lo)) (-(leftI b (g : Int))) b37 _ (hsD.cellsM (hB55 _ List.mem_cons_self))) fun _ _ => hk _ _ _ _ ⟨rfl, rfl⟩)
       · rintro T_ B_ a_ w_ K_ hT hB _ _ ⟨rfl, rfl⟩ h56 - hf hsD hk
         exact ob rfl rfl (st_neg hsD (Ev.tmp h56) rfl hf (by omega) fun _ _ => hk _ _ _ _ ⟨rfl, rfl⟩)
       · rintro T_ B_ a_ w_ K_ hT hB hf hsD hk
         exact ob rfl rfl (st_field (o' := 1) hsD (evT hT 5 rfl) rfl hf runUnderlying35 rfl sizeOf3 rfl rfl fun _ _ => hk _ _ _ _ ⟨rfl, rfl⟩)
       · rintro T_ B_ a_ w_ K_ hT hB _ _ ⟨rfl, rfl⟩ h58 - hf hsD hk
         exact ob rfl rfl (st_load1 (o := 0) (off := 1) (v := .int .i64 ((spanOf ((b.amtsTo g).map (leftI b))).hi)) hsD (Ev.tmp h58) rfl hf isAgg3 (hsD.cellsM (inB hB 0 rfl)) rfl fun _ _ => hk _ _ _ _ ⟨rfl, rfl⟩)
       · rintro T_ B_ a_ w_ K_ hT hB hf hsD hk
         exact ob rfl rfl (st_move hsD (evT hT 1 rfl) rfl hf fun _ _ => hk _ _ _ _ ⟨rfl, rfl⟩)
       · rintro T_ B_ a_ w_ K_ hT hB _ _ ⟨rfl, rfl⟩ h60 - hf hsD hk
         exact ob rfl rfl (st_buildSlice hsD (qs := [(0, .int .i64 (leftI b (g : Int)))]) (e := 3) (l := [.int .i64 (leftI b (g : Int))]) ⟨(Ev.tmp h60), trivial⟩ rfl hf rfl (fun _ => by kernel_rfl) fun b38 _ _ => hk _ _ _ _ ⟨b38, rfl, rfl⟩)
       · rintro T_ B_ a_ w_ K_ hT hB _ _ ⟨rfl, rfl⟩ h59 - _ _ ⟨b38, rfl, rfl⟩ h61 hB61 hf hsD hk
         exact ob rfl rfl (st_callv (vs := [.int .i64 ((spanOf ((b.amtsTo g).map (leftI b))).hi), .slice (some ⟨b38, 0, none⟩) 1 1]) hsD (.func _) ⟨(Ev.tmp h59), (Ev.tmp h61), trivial⟩ rfl hf call49 rfl (great_v ((spanOf ((b.amtsTo g).map (leftI b))).hi) (leftI b (g : Int)) b38 _ (hsD.cellsM (hB61 _ List.mem_cons_self))) fun _ _ => hk _ _ _ _ ⟨rfl, rfl⟩)
       rintro _ _ ⟨rfl, rfl⟩ _ _ ⟨rfl, rfl⟩ _ _ ⟨rfl, rfl⟩ _ _ ⟨rfl, rfl⟩ _ _ ⟨rfl, rfl⟩ _ _ ⟨b37, rfl, rfl⟩ _ _ ⟨rfl, rfl⟩ _ _ ⟨rfl, rfl⟩ _ _ ⟨rfl, rfl⟩ _ _ ⟨rfl, rfl⟩ _ _ ⟨rfl, rfl⟩ _ _ ⟨b38, rfl, rfl⟩ _ _ ⟨rfl, rfl⟩ a_57 w_57 hs57; clear hs56
       have hs58 := Sx.as (T' := [_, _, _, _, _, _, _, _, _, _, _, _, _, _, _, _, _, _, _, _, _, _, _]) (B' := [_, _, _, _, _, _, _, _, _, _]) rfl rfl hs57; clear hs57
       refine sq rfl (st_build hs58 (qs := [(0, .int .i64 (-(max (-((spanOf ((b.amtsTo g).map (leftI b))).lo)) (-(leftI b (g : Int)))))), (1, .int .i64 (max ((spanOf ((b.amtsTo g).map (leftI b))).hi) (leftI b (g : Int))))]) (v := .agg ⟨[.int .i64 (-(max (-((spanOf ((b.amtsTo g).map (leftI b))).lo)) (-(leftI b (g : Int))))), .int .i64 (max ((spanOf ((b.amtsTo g).map (leftI b))).hi) (leftI b (g : Int)))]⟩) ⟨(Ev.t 7 rfl), (Ev.t 12 rfl), trivial⟩ rfl rfl rfl (fun _ => by kernel_rfl) fun _ _ hs59 => ?_); clear hs58
       refine sq rfl (st_store (l' := [.int .i64 (-(max (-((spanOf ((b.amtsTo g).map (leftI b))).lo)) (-(leftI b (g : Int))))), .int .i64 (max ((spanOf ((b.amtsTo g).map (leftI b))).hi) (leftI b (g : Int)))]) (vs := [.int .i64 (-(max (-((spanOf ((b.amtsTo g).map (leftI b))).lo)) (-(leftI b (g : Int))))), .int .i64 (max ((spanOf ((b.amtsTo g).map (leftI b))).hi) (leftI b (g : Int)))]) (i := 2) hs59 (Ev.t 19 rfl) (Ev.t 0 rfl) sizeOf35 rfl rfl rfl rfl rfl rfl fun _ _ hs60 => ?_); clear hs59
       have hs61 := hs60.asB [_, _, _, _, _, _, _, _, _, _] rfl; clear hs60
       refine wpListIn_nil ?_
       have hs62 := hs61.keep [16, 17, 18, 19, 20, 21, 22, 23] [_, _, _, _, _, _, _, _] rfl; clear hs61
       refine in_norm ?_
       refine th_norm (hK26 _ _ ?_)
       refine cd_region1 ?_
       refine sq rfl (st_add (z := (g : Int) + 1) hs62 (Ev.t 0 rfl) (.const _) rfl rfl rfl (by omega) fun _ _ hs63 => ?_); clear hs62
       have hs64 := hs63.keep [0, 2, 3, 4, 5, 6, 7, 8] [_, _, _, _, _, _, _, _] rfl; clear hs63
       refine sq rfl (st_move hs64 (Ev.t 0 rfl) rfl rfl fun _ _ hs65 => ?_); clear hs64
       refine wpListIn_nil ?_
       have hs66 := hs65.keep [0, 2, 3, 4, 5, 6, 7, 8] [_, _, _, _, _, _, _, _] rfl; clear hs65
       refine ⟨g + 1, ⟨?_, ?_⟩, by (show 60001 - (g + 1) < 60001 - g; omega)⟩
       · exact hjn
       have hs67 : Sx 66 [] [(32, .int .i64 ((g : Int) + 1)), (31, .pointer (some ⟨bw8, 0, none⟩)), (10, .bool (!(b.amtsTo g).isEmpty)), (9, .pointer (some ⟨b19, 0, none⟩)), (6, .pointer (some ⟨b8, 0, none⟩)), (5, .int .i64 0), (4, .pointer (some ⟨b4, 0, none⟩)), (3, .pointer (some ⟨b3, 0, none⟩))] [(b19, some (.cells ⟨[.int .i64 (-(max (-((spanOf ((b.amtsTo g).map (leftI b))).lo)) (-(leftI b (g : Int))))), .int .i64 (max ((spanOf ((b.amtsTo g).map (leftI b))).hi) (leftI b (g : Int)))]⟩ 35 (0, 0))), (bw8, ow8), (b8, some (.cells ⟨(boxL b A n cp A2 n2 c2 A7 n c7 m7)⟩ 66 (0, 0))), (m7, some (.map es7 clk7)), (b7, o7), (b4, some (.cells ⟨[.int .i64 0, .int .i64 0]⟩ 35 (0, 0))), (b3, some (.cells ⟨[.func (.func 97) ⟨[]⟩ ⟨[]⟩]⟩ 83 (0, 0))), (b2, some (.cells ⟨(bxL b A n cp A2 n2 c2)⟩ 25 (0, 0)))] [] w _ _ := Sx.blks hs66 ((List.Sublist.cons _ (List.Sublist.cons _ (List.Sublist.cons_cons _ (List.Sublist.cons_cons _ (List.Sublist.cons_cons _ (List.Sublist.cons_cons _ (List.Sublist.cons_cons _ (List.Sublist.cons_cons _ (List.Sublist.cons_cons _ (List.Sublist.cons_cons _ List.Sublist.slnil)))))))))))
       have hsp : spanOf ((b.amtsTo (g + 1)).map (leftI b)) = ⟨-max (-(spanOf ((b.amtsTo g).map (leftI b))).lo) (-((leftI b) (g : Int))), max (spanOf ((b.amtsTo g).map (leftI b))).hi ((leftI b) (g : Int))⟩ := by
         rw [hsn, List.map_append, List.map_singleton]; exact span_more (by simpa using hne)
       have hs68 := hs67.asB [(b19, some (.cells ⟨[.int .i64 ((spanOf ((b.amtsTo (g + 1)).map (leftI b))).lo), .int .i64 ((spanOf ((b.amtsTo (g + 1)).map (leftI b))).hi)]⟩ 35 (0, 0))), (bw8, ow8), (b8, some (.cells ⟨(boxL b A n cp A2 n2 c2 A7 n c7 m7)⟩ 66 (0, 0))), (m7, some (.map es7 clk7)), (b7, o7), (b4, some (.cells ⟨[.int .i64 0, .int .i64 0]⟩ 35 (0, 0))), (b3, some (.cells ⟨[.func (.func 97) ⟨[]⟩ ⟨[]⟩]⟩ 83 (0, 0))), (b2, some (.cells ⟨(bxL b A n cp A2 n2 c2)⟩ 25 (0, 0)))] (by (rw [hsp]) <;> rfl); clear hs67
       exact Sx.keepE [0, 1, 2, 3, 4, 5, 6, 7] _ ⟨⟨_, rfl, rfl⟩, ⟨_, rfl, rfl⟩, ⟨_, rfl, by rw [hsn, List.isEmpty_eq_false_iff.2 hne, snoc_ne]⟩, ⟨_, rfl, rfl⟩, ⟨_, rfl, rfl⟩, ⟨_, rfl, rfl⟩, ⟨_, rfl, rfl⟩, ⟨_, rfl, rfl⟩, trivial⟩ hs68
 · have hge : g = 60001 := by simp at hc25; omega
   refine cd_exit ?_
   refine th_exit ?_
   refine th_exit ?_
   refine in_hit ?_
   refine th_norm (hK21 _ _ ?_)
   refine cd_region fun K39 hK39 => ?_
   refine sq rfl (st_loadA (o := 0) (off := 0) (vs := [.int .i64 ((spanOf ((b.amtsTo g).map (leftI b))).lo), .int .i64 ((spanOf ((b.amtsTo g).map (leftI b))).hi)]) hs39 (Ev.t 4 rfl) rfl rfl isAgg35 sizeOf35 (hs39.cells 0 rfl) rfl fun _ _ hs40 => ?_); clear hs39
   refine sq rfl (st_store (l' := [.int .i64 ((spanOf ((b.amtsTo g).map (leftI b))).lo), .int .i64 ((spanOf ((b.amtsTo g).map (leftI b))).hi)]) (vs := [.int .i64 ((spanOf ((b.amtsTo g).map (leftI b))).lo), .int .i64 ((spanOf ((b.amtsTo g).map (leftI b))).hi)]) (i := 5) hs40 (Ev.t 8 rfl) (Ev.t 0 rfl) sizeOf35 rfl rfl rfl rfl rfl rfl fun _ _ hs41 => ?_); clear hs40
   have hs42 := hs41.asB [_, _, _, _, _, _, _, _] rfl; clear hs41
   have hs43 := hs42.keep [0, 1, 2, 3, 4, 5, 6, 8, 9] [_, _, _, _, _, _, _, _, _] rfl; clear hs42
   refine sq rfl (st_assign hs43 (.const _) rfl rfl fun _ _ hs44 => ?_); clear hs43
   refine hK39 _ _ ?_; clear hK39
   have hs45 := hs44.keep [0, 8] [_, _] rfl; clear hs44
   refine cd_retv (vs := [.agg ⟨[.int .i64 ((spanOf ((b.amtsTo g).map (leftI b))).lo), .int .i64 ((spanOf ((b.amtsTo g).map (leftI b))).hi)]⟩, .int .i64 0]) hs45 hQ0 rfl ⟨resA (o := 0) (off := 0) (vs := [.int .i64 ((spanOf ((b.amtsTo g).map (leftI b))).lo), .int .i64 ((spanOf ((b.amtsTo g).map (leftI b))).hi)]) 1 rfl isAgg35 sizeOf35 (hs45.cells 5 rfl) rfl, .tmp 0 rfl, trivial⟩ ?_
   clear hs45 hQ0 hN0
   simp [pack, Bx.betweenR, hask, hge, Bx.amts]

theorem between97_no (b : Bx) (A : Option Addr) (n cp : Nat) (A2 : Option Addr) (n2 c2 : Nat) (hne : b.asked true ≠ 0) (w : World) (hP : RollsAt w A n b.rolls) (hn : n ≤ 140737488351232) (hF : SpsAt w A2 n2 b.free) (hn2 : n2 ≤ 140737488351232) :
    CallsV Tryd.prog 55 [.agg ⟨(bxL b A n cp A2 n2 c2)⟩, .agg ⟨[.func (.func 97) ⟨[]⟩ ⟨[]⟩]⟩] w (.tuple ⟨[.agg ⟨[.int .i64 ((b.betweenR leftI).1.lo), .int .i64 ((b.betweenR leftI).1.hi)]⟩, .int .i64 ((b.betweenR leftI).2)]⟩) := by
 refine enter (N := 66) (M := []) w func55 rfl rfl rfl (fun Q0 a_0 hQ0 hN0 hs0 => ?_)
 rcases asked_cases2 hne with hok | ⟨hok, hm0⟩
 · skip
   refine cd_region fun K1 hK1 => ?_
   refine sq rfl (st_box hs0 (Ev.t 0 rfl) rfl rfl rfl fun b2 _ _ hs1 => ?_); clear hs0
   refine sq rfl (st_box hs1 (Ev.t 2 rfl) rfl rfl rfl fun b3 _ _ hs2 => ?_); clear hs1
   refine sq rfl (st_alloc hs2 rfl rfl zeroValue35 rfl fun b4 _ _ hs3 => ?_); clear hs2
   refine sq rfl (st_assign hs3 (.const _) rfl rfl fun _ _ hs4 => ?_); clear hs3
   refine hK1 _ _ ?_; clear hK1
   have hs5 := hs4.keep [0, 1, 2, 3] [_, _, _, _] rfl; clear hs4
   refine cd_region fun K5 hK5 => ?_
   refine sq rfl (st_loadA (o := 0) (off := 0) (vs := (bxL b A n cp A2 n2 c2)) hs5 (Ev.t 3 rfl) rfl rfl isAgg25 sizeOf25 (hs5.cells 2 rfl) rfl fun _ _ hs6 => ?_); clear hs5
   refine sq rfl (st_callv (vs := [.agg ⟨(bxL b A n cp A2 n2 c2)⟩, .bool true]) hs6 (.func _) ⟨(Ev.t 0 rfl), (.const _), trivial⟩ rfl rfl call45 rfl (asked_1 b A n cp A2 n2 c2 _ (hP.kp hs6.kp) hn (hF.kp hs6.kp) hn2 true hok) fun _ _ hs7 => ?_); clear hs6
   refine sq rfl (st_move hs7 (Ev.t 0 rfl) rfl rfl fun _ _ hs8 => ?_); clear hs7
   refine sq rfl (st_extract hs8 (Ev.t 0 rfl) rfl rfl rfl fun _ _ hs9 => ?_); clear hs8
   refine sq rfl (st_extract hs9 (Ev.t 1 rfl) rfl rfl rfl fun _ _ hs10 => ?_); clear hs9
   refine sq rfl (st_alloc hs10 rfl rfl zeroValue66 rfl fun b6 _ _ hs11 => ?_); clear hs10
   refine sq rfl (st_store (l' := [.slice none 0 0, .slice none 0 0, .int .i64 0, .int .i64 0, .int .i64 0, .int .i64 0, .int .i64 0, .slice none 0 0, .map none]) (vs := [.slice none 0 0, .slice none 0 0, .int .i64 0, .int .i64 0, .int .i64 0, .int .i64 0, .int .i64 0, .slice none 0 0, .map none]) (i := 0) hs11 (Ev.t 0 rfl) (Ev.t 2 rfl) sizeOf66 rfl rfl rfl rfl rfl rfl fun _ _ hs12 => ?_); clear hs11
   have hs13 := hs12.asB [_, _, _, _] rfl; clear hs12
   refine sq rfl (st_assign hs13 (Ev.t 1 rfl) rfl rfl fun _ _ hs14 => ?_); clear hs13
   refine hK5 _ _ ?_; clear hK5
   have hs15 := hs14.keep [0, 1, 7, 8, 9] [_, _, _, _, _] rfl; clear hs14
   refine cd_seq fun K7 hK7 => ?_
   refine cd_region fun K8 hK8 => ?_
   refine sq rfl (st_move hs15 (Ev.t 0 rfl) rfl rfl fun _ _ hs16 => ?_); clear hs15
   refine sq rfl (st_cmp (c := true) hs16 (Ev.t 0 rfl) (.const _) rfl rfl rfl rfl fun _ _ hs17 => ?_); clear hs16
   refine hK8 _ _ ?_; clear hK8
   have hs18 := hs17.keep [0, 2, 3, 4, 5, 6] [_, _, _, _, _, _] rfl; clear hs17
   have hc9 : true = true := rfl
   refine cd_cond hs18 (Ev.t 0 rfl) (fun _ => ?_) (fun h => absurd (hc9.symm.trans h) (by decide))
   refine cd_region fun K10 hK10 => ?_
   refine sq rfl (st_build hs18 (qs := []) (v := .agg ⟨[.int .i64 0, .int .i64 0]⟩) trivial rfl rfl rfl (fun _ => by kernel_rfl) fun _ _ hs19 => ?_); clear hs18
   refine sq rfl (st_move hs19 (Ev.t 2 rfl) rfl rfl fun _ _ hs20 => ?_); clear hs19
   refine sq rfl (st_store (l' := [.int .i64 0, .int .i64 0]) (vs := [.int .i64 0, .int .i64 0]) (i := 1) hs20 (Ev.t 6 rfl) (Ev.t 1 rfl) sizeOf35 rfl rfl rfl rfl rfl rfl fun _ _ hs21 => ?_); clear hs20
   have hs22 := hs21.asB [_, _, _, _] rfl; clear hs21
   have hs23 := hs22.keep [0, 1, 2, 3, 4, 6, 7] [_, _, _, _, _, _, _] rfl; clear hs22
   refine sq rfl (st_assign hs23 (Ev.t 0 rfl) rfl rfl fun _ _ hs24 => ?_); clear hs23
   refine hK10 _ _ ?_; clear hK10
   have hs25 := hs24.keep [0, 6] [_, _] rfl; clear hs24
   refine cd_retv (vs := [.agg ⟨[.int .i64 0, .int .i64 0]⟩, .int .i64 90]) hs25 (fun a_ w_ h => th_ret (hQ0 a_ w_ h)) rfl ⟨resA (o := 0) (off := 0) (vs := [.int .i64 0, .int .i64 0]) 1 rfl isAgg35 sizeOf35 (hs25.cells 1 rfl) rfl, .tmp 0 rfl, trivial⟩ ?_
   clear hs25 hQ0 hN0 hK7
   first | (simp [pack, Bx.betweenR, Bx.asked, hok, hm0]; done) | simp [pack, Bx.betweenR, Bx.asked, hok]
 · skip
   refine cd_region fun K11 hK11 => ?_
   refine sq rfl (st_box hs0 (Ev.t 0 rfl) rfl rfl rfl fun b12 _ _ hs1 => ?_); clear hs0
   refine sq rfl (st_box hs1 (Ev.t 2 rfl) rfl rfl rfl fun b13 _ _ hs2 => ?_); clear hs1
   refine sq rfl (st_alloc hs2 rfl rfl zeroValue35 rfl fun b14 _ _ hs3 => ?_); clear hs2
   refine sq rfl (st_assign hs3 (.const _) rfl rfl fun _ _ hs4 => ?_); clear hs3
   refine hK11 _ _ ?_; clear hK11
   have hs5 := hs4.keep [0, 1, 2, 3] [_, _, _, _] rfl; clear hs4
   refine cd_region fun K15 hK15 => ?_
   refine sq rfl (st_loadA (o := 0) (off := 0) (vs := (bxL b A n cp A2 n2 c2)) hs5 (Ev.t 3 rfl) rfl rfl isAgg25 sizeOf25 (hs5.cells 2 rfl) rfl fun _ _ hs6 => ?_); clear hs5
   refine sq rfl (st_call (vs := [.agg ⟨(bxL b A n cp A2 n2 c2)⟩, .bool true]) hs6 (.func _) ⟨(Ev.t 0 rfl), (.const _), trivial⟩ rfl rfl call45 rfl (asked_3 b A n cp A2 n2 c2 _ (hP.kp hs6.kp) hn (hF.kp hs6.kp) hn2 true hok rfl hm0) fun v16 bs17 a_7 w_7 hp7 hs7 => ?_); clear hs6
   obtain ⟨A7, c7, m7, rfl, rfl⟩ := hp7
   have hs8 := Sx.as (T' := [_, _, _, _, _, _]) (B' := [_, _, _]) rfl rfl hs7; clear hs7
   refine sq rfl (st_move hs8 (Ev.t 0 rfl) rfl rfl fun _ _ hs9 => ?_); clear hs8
   refine sq rfl (st_extract hs9 (Ev.t 0 rfl) rfl rfl rfl fun _ _ hs10 => ?_); clear hs9
   refine sq rfl (st_extract hs10 (Ev.t 1 rfl) rfl rfl rfl fun _ _ hs11 => ?_); clear hs10
   refine sq rfl (st_alloc hs11 rfl rfl zeroValue66 rfl fun b18 _ _ hs12 => ?_); clear hs11
   refine sq rfl (st_store (l' := (boxL b A n cp A2 n2 c2 A7 n c7 m7)) (vs := (boxL b A n cp A2 n2 c2 A7 n c7 m7)) (i := 0) hs12 (Ev.t 0 rfl) (Ev.t 2 rfl) sizeOf66 rfl rfl rfl rfl rfl rfl fun _ _ hs13 => ?_); clear hs12
   have hs14 := hs13.asB [_, _, _, _] rfl; clear hs13
   refine sq rfl (st_assign hs14 (Ev.t 1 rfl) rfl rfl fun _ _ hs15 => ?_); clear hs14
   refine hK15 _ _ ?_; clear hK15
   have hs16 := hs15.keep [0, 1, 7, 8, 9] [_, _, _, _, _] rfl; clear hs15
   refine cd_seq fun K19 hK19 => ?_
   refine cd_region fun K20 hK20 => ?_
   refine sq rfl (st_move hs16 (Ev.t 0 rfl) rfl rfl fun _ _ hs17 => ?_); clear hs16
   refine sq rfl (st_cmp (c := true) hs17 (Ev.t 0 rfl) (.const _) rfl rfl rfl rfl fun _ _ hs18 => ?_); clear hs17
   refine hK20 _ _ ?_; clear hK20
   have hs19 := hs18.keep [0, 2, 3, 4, 5, 6] [_, _, _, _, _, _] rfl; clear hs18
   have hc21 : true = true := rfl
   refine cd_cond hs19 (Ev.t 0 rfl) (fun _ => ?_) (fun h => absurd (hc21.symm.trans h) (by decide))
   refine cd_region fun K22 hK22 => ?_
   refine sq rfl (st_build hs19 (qs := []) (v := .agg ⟨[.int .i64 0, .int .i64 0]⟩) trivial rfl rfl rfl (fun _ => by kernel_rfl) fun _ _ hs20 => ?_); clear hs19
   refine sq rfl (st_move hs20 (Ev.t 2 rfl) rfl rfl fun _ _ hs21 => ?_); clear hs20
   refine sq rfl (st_store (l' := [.int .i64 0, .int .i64 0]) (vs := [.int .i64 0, .int .i64 0]) (i := 1) hs21 (Ev.t 6 rfl) (Ev.t 1 rfl) sizeOf35 rfl rfl rfl rfl rfl rfl fun _ _ hs22 => ?_); clear hs21
   have hs23 := hs22.asB [_, _, _, _] rfl; clear hs22
   have hs24 := hs23.keep [0, 1, 2, 3, 4, 6, 7] [_, _, _, _, _, _, _] rfl; clear hs23
   refine sq rfl (st_assign hs24 (Ev.t 0 rfl) rfl rfl fun _ _ hs25 => ?_); clear hs24
   refine hK22 _ _ ?_; clear hK22
   have hs26 := hs25.keep [0, 6] [_, _] rfl; clear hs25
   refine cd_retv (vs := [.agg ⟨[.int .i64 0, .int .i64 0]⟩, .int .i64 92]) hs26 (fun a_ w_ h => th_ret (hQ0 a_ w_ h)) rfl ⟨resA (o := 0) (off := 0) (vs := [.int .i64 0, .int .i64 0]) 1 rfl isAgg35 sizeOf35 (hs26.cells 1 rfl) rfl, .tmp 0 rfl, trivial⟩ ?_
   clear hs26 hQ0 hN0 hK19
   first | (simp [pack, Bx.betweenR, Bx.asked, hok, hm0]; done) | simp [pack, Bx.betweenR, Bx.asked, hok]

theorem between97_v (b : Bx) (A : Option Addr) (n cp : Nat) (A2 : Option Addr) (n2 c2 : Nat) (w : World) (hP : RollsAt w A n b.rolls) (hn : n ≤ 140737488351232) (hF : SpsAt w A2 n2 b.free) (hn2 : n2 ≤ 140737488351232) : CallsV Tryd.prog 55 [.agg ⟨bxL b A n cp A2 n2 c2⟩, .agg ⟨[.func (.func 97) ⟨[]⟩ ⟨[]⟩]⟩] w (.tuple ⟨[.agg ⟨[.int .i64 ((b.betweenR leftI).1.lo), .int .i64 ((b.betweenR leftI).1.hi)]⟩, .int .i64 ((b.betweenR leftI).2)]⟩) := by
  by_cases h : b.asked true = 0
  · obtain ⟨hok, -, hm0⟩ := asked_zero.1 h
    exact between97_yes b A n cp A2 n2 c2 hok hm0 w hP hn hF hn2
  · exact between97_no b A n cp A2 n2 c2 h w hP hn hF hn2
end Go.Proofs.YtcnndpedeofbmaaDoor
