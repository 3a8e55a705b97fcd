/- The reference of the till: all takings of truths; Takings, Hire, Left. -/
import Derived.Test.YtcnndpedeofbmaaDoorRb
import Derived.Test.YtcnndpedeofbmaaDoorUj
set_option maxRecDepth 100000
namespace Go.Proofs.YtcnndpedeofbmaaDoor
open Go Go.Sx Go.Till Go.Proofs.Tryd
theorem amts_len {b : Bx} (n : Nat) : (b.amtsTo n).length ≤ n := by
  unfold Bx.amtsTo
  rw [List.length_map]
  exact Nat.le_trans (List.length_filter_le _ _) (by rw [List.length_range]; exact Nat.le_refl _)
theorem amts_lt {b : Bx} (n : Nat) : (b.amtsTo n).Pairwise (· < ·) := by
  unfold Bx.amtsTo
  rw [List.pairwise_map]
  exact (List.pairwise_lt_range.filter _).imp (fun h => by omega)
theorem amts_le {b : Bx} {i j : Nat} {x y : Int} (hij : i ≤ j) (hx : b.amts[i]? = some x) (hy : b.amts[j]? = some y) : x ≤ y := by
  rcases Nat.lt_or_ge i j with h | h
  · obtain ⟨h1, e1⟩ := List.getElem?_eq_some_iff.1 hx
    obtain ⟨h2, e2⟩ := List.getElem?_eq_some_iff.1 hy
    have := List.pairwise_iff_getElem.1 (amts_lt (b := b) 60001) i j h1 h2 h
    rw [← e1, ← e2]; exact Int.le_of_lt this
  · obtain rfl : i = j := by omega
    rw [hx] at hy; cases hy; exact Int.le_refl _
theorem amts_span {b : Bx} {L : Nat} {x y : Int} (hL : b.amts.length = L + 1) (hx : b.amts[0]? = some x) (hy : b.amts[L]? = some y) : spanOf (b.amts.map (wholeI b)) = ⟨x, y⟩ := by
  rw [show b.amts.map (wholeI b) = b.amts from List.map_id'' (fun _ => rfl) _]
  refine spanOf_eq (List.mem_of_getElem? hx) (List.mem_of_getElem? hy) (fun z hz => ?_)
  obtain ⟨i, hi⟩ := List.mem_iff_getElem?.1 hz
  have := (List.getElem?_eq_some_iff.1 hi).1
  exact ⟨amts_le (Nat.zero_le _) hx hi, amts_le (by omega) hi hy⟩
/-- Once more from the first on. -/
def foldW (f : Int → Int) (x0 : Int) (l : List Int) : Sp := (l.map f).foldl widen ⟨f x0, f x0⟩
theorem foldW_snoc {f : Int → Int} {x0 : Int} {l : List Int} {i : Nat} {x : Int} (hx : l[i]? = some x) : foldW f x0 (l.take (i + 1)) = ⟨min (foldW f x0 (l.take i)).lo (f x), max (foldW f x0 (l.take i)).hi (f x)⟩ := by
  unfold foldW
  rw [List.take_add_one, hx]; simp [widen]
theorem foldW_all {f : Int → Int} {x0 : Int} {l : List Int} (hx : l[0]? = some x0) : foldW f x0 l = spanOf (l.map f) := by
  cases l with
  | nil => simp at hx
  | cons x l =>
    simp at hx; subst hx
    simp only [foldW, List.map_cons, List.foldl_cons, spanOf]
    congr 1
    simp only [widen]
    rw [show min (f x) (f x) = f x by omega, show max (f x) (f x) = f x by omega]
theorem amts_at0 {b : Bx} {i : Nat} {x : Int} (hx : b.amts[i]? = some x) : 0 ≤ x ∧ x ≤ 60000 := by
  have := amts_at (List.mem_of_getElem? hx); omega

theorem ramounts_b (b : Bx) (A : Option Addr) (n cp : Nat) (A2 : Option Addr) (n2 c2 : Nat) (w : World) (hP : RollsAt w A n b.rolls) (hn : n ≤ 140737488351232) (hF : SpsAt w A2 n2 b.free) (hn2 : n2 ≤ 140737488351232) (hO : Ok b) :
    CallsB Tryd.prog 68 [.agg ⟨bxL b A n cp A2 n2 c2⟩] w (fun v bs => ∃ A7 c7 b7 o7, v = .slice A7 b.amts.length c7 ∧ Sx.Own intL1 1 3 A7 c7 b.amts b7 o7 ∧ bs = [(b7, o7)]) := by
 refine enter (N := 31) (M := []) w func68 rfl rfl rfl (fun Q0 a_0 hQ0 hN0 hs0 => ?_)
 refine cd_region fun K1 hK1 => ?_
 refine sq rfl (st_box hs0 (Ev.t 0 rfl) rfl rfl rfl fun b2 _ _ hs1 => ?_); clear hs0
 refine sq rfl (st_assign hs1 (.const _) rfl rfl fun _ _ hs2 => ?_); clear hs1
 refine hK1 _ _ ?_; clear hK1
 have hs3 := hs2.keep [0, 1] [_, _] rfl; clear hs2
 have hs4 := hs3.hide 0; clear hs3
 refine cd_region fun K3 hK3 => ?_
 refine sq rfl (st_assign hs4 (.const _) rfl rfl fun _ _ hs5 => ?_); clear hs4
 refine hK3 _ _ ?_; clear hK3
 refine cd_region fun K4 hK4 => ?_
 refine sq rfl (st_loadA (o := 0) (off := 0) (vs := (bxL b A n cp A2 n2 c2)) hs5 (Ev.t 2 rfl) rfl rfl isAgg25 sizeOf25 (hs5.cells 1 rfl) rfl fun _ _ hs6 => ?_); clear hs5
 refine sq rfl (st_call (vs := [.agg ⟨(bxL b A n cp A2 n2 c2)⟩, .int .i64 (-1)]) hs6 (.func _) ⟨(Ev.t 0 rfl), (.const _), trivial⟩ rfl rfl call64 rfl (way1_b b A n cp A2 n2 c2 _ (hP.kp hs6.kp) hn (hF.kp hs6.kp) hn2 hO) fun v5 bs6 a_7 w_7 hp7 hs7 => ?_); clear hs6
 obtain ⟨bw8, ow8, rfl, hOw8, rfl⟩ := hp7
 have hs8 := Sx.as (T' := [_, _, _, _, _]) (B' := [_, _, _]) rfl rfl hs7; clear hs7
 refine sq rfl (st_assign hs8 (Ev.t 0 rfl) rfl rfl fun _ _ hs9 => ?_); clear hs8
 refine hK4 _ _ ?_; clear hK4
 have hs10 := hs9.keep [0, 3, 4, 5] [_, _, _, _] rfl; clear hs9
 refine cd_seq fun K7 hK7 => ?_
 refine cd_region fun K8 hK8 => ?_
 refine sq rfl (st_assign hs10 (.const _) rfl rfl fun _ _ hs11 => ?_); clear hs10
 refine hK8 _ _ ?_; clear hK8
 refine cd_block ?_
 have hs12 : Sx 31 [] [(5, .int .i64 ((OwG.mk 0 none 0 ([] : List Int) 0 none).k : Int)), (4, .slice (some ⟨bw8, 0, none⟩) 60001 60001), (3, .slice ((OwG.mk 0 none 0 ([] : List Int) 0 none).A) ((OwG.mk 0 none 0 ([] : List Int) 0 none).l.length) ((OwG.mk 0 none 0 ([] : List Int) 0 none).c)), (2, .slice none 0 0), (1, .pointer (some ⟨b2, 0, none⟩))] [(bw8, ow8), ((OwG.mk 0 none 0 ([] : List Int) 0 none).b, (OwG.mk 0 none 0 ([] : List Int) 0 none).o), (b2, some (.cells ⟨(bxL b A n cp A2 n2 c2)⟩ 25 (0, 0)))] [] w _ _ := Sx.keepE [0, 1, 2, 3, 4] _ ⟨⟨_, rfl, rfl⟩, ⟨_, rfl, rfl⟩, ⟨_, rfl, rfl⟩, ⟨_, rfl, rfl⟩, ⟨_, rfl, rfl⟩, trivial⟩ hs11; clear hs11
 refine cd_loop (X := OwG Int) (fun g a_ w_ => (g.k ≤ 60001) ∧ (g.l = b.amtsTo g.k) ∧ (Sx.Own intL1 1 3 g.A g.c g.l g.b g.o) ∧ Sx 31 [] [(5, .int .i64 (g.k : Int)), (4, .slice (some ⟨bw8, 0, none⟩) 60001 60001), (3, .slice g.A g.l.length g.c), (2, .slice none 0 0), (1, .pointer (some ⟨b2, 0, none⟩))] [(bw8, ow8), (g.b, g.o), (b2, some (.cells ⟨(bxL b A n cp A2 n2 c2)⟩ 25 (0, 0)))] [] w a_ w_) (fun g => 60001 - g.k) ((OwG.mk 0 none 0 ([] : List Int) 0 none)) ⟨?_, ?_, ?_, hs12⟩ ?_
 · exact Nat.zero_le _
 · rfl
 · exact .inl ⟨rfl, rfl⟩
 intro g a_13 w_13 ⟨hk, hgl, hown, hs13⟩; clear hs12
 refine cd_seq fun K9 hK9 => ?_
 refine cd_region fun K10 hK10 => ?_
 refine sq rfl (st_move hs13 (Ev.t 0 rfl) rfl rfl fun _ _ hs14 => ?_); clear hs13
 refine sq rfl (st_move hs14 (Ev.t 2 rfl) rfl rfl fun _ _ hs15 => ?_); clear hs14
 refine sq rfl (st_len hs15 (Ev.t 0 rfl) rfl rfl runUnderlying33 fun _ _ hs16 => ?_); clear hs15
 refine sq rfl (st_cmp (c := decide (((g.k : Int) : Int) < 60001)) hs16 (Ev.t 2 rfl) (Ev.t 0 rfl) rfl rfl rfl rfl fun _ _ hs17 => ?_); clear hs16
 refine hK10 _ _ ?_; clear hK10
 have hs18 := hs17.keep [0, 4, 5, 6, 7, 8] [_, _, _, _, _, _] rfl; clear hs17
 refine cd_cond hs18 (Ev.t 0 rfl) (fun hc11 => ?_) (fun hc11 => ?_)
 · have hgn : g.k < 60001 := by simp at hc11; omega
   have hgl9 : g.l.length ≤ 60001 := by rw [hgl]; have := amts_len (b := b) g.k; omega
   refine cd_skip ?_
   refine th_norm (hK9 _ _ ?_)
   refine cd_seq fun K12 hK12 => ?_
   refine cd_block ?_
   refine cd_region fun K13 hK13 => ?_
   refine sq rfl (st_move hs18 (Ev.t 2 rfl) rfl rfl fun _ _ hs19 => ?_); clear hs18
   refine sq rfl (st_move hs19 (Ev.t 2 rfl) rfl rfl fun _ _ hs20 => ?_); clear hs19
   refine sq rfl (st_indexSl (o' := g.k * 1) hs20 (Ev.t 1 rfl) (Ev.t 0 rfl) rfl rfl runUnderlying33 sizeOf3 ⟨by omega, by omega⟩ (by simp) fun _ _ hs21 => ?_); clear hs20
   refine sq rfl (st_load1 (o := (g.k * 1)) (off := 0) (v := .int .i64 ((wf b.all) g.k)) hs21 (Ev.t 0 rfl) rfl rfl isAgg3 (own_cellM hs21 hOw8 (mem_nth (i := 0) rfl) (arr_at (by omega))) rfl fun _ _ hs22 => ?_); clear hs21
   refine sq rfl (st_cmp (c := decide (((wf b.all) g.k : Int) > 0)) hs22 (Ev.t 0 rfl) (.const _) rfl rfl rfl rfl fun _ _ hs23 => ?_); clear hs22
   refine sq rfl (st_move hs23 (Ev.t 0 rfl) rfl rfl fun _ _ hs24 => ?_); clear hs23
   refine sq_gv hs24 (gg := decide (((wf b.all) g.k : Int) > 0)) (v := .agg ⟨(bxL b A n cp A2 n2 c2)⟩) rfl rfl 0 rfl (ison_t _) rfl rfl rfl (fun hg14 K15 hK15 => st_loadA (o := 0) (off := 0) (vs := (bxL b A n cp A2 n2 c2)) hs24 (Ev.t 11 rfl) rfl rfl isAgg25 sizeOf25 (hs24.cells 2 rfl) rfl hK15) fun _ _ hs25 => ?_; clear hs24
   refine sq_gv hs25 (gg := decide (((wf b.all) g.k : Int) > 0)) (v := .int .i64 (g.k : Int)) rfl rfl 1 rfl (ison_t _) rfl rfl rfl (fun hg16 K17 hK17 => st_move hs25 (Ev.t 8 rfl) rfl rfl hK17) fun _ _ hs26 => ?_; clear hs25
   refine sq_gv hs26 (gg := decide (((wf b.all) g.k : Int) > 0)) (v := .pointer (some ⟨b2, 3, none⟩)) rfl rfl 2 rfl (ison_t _) rfl rfl rfl (fun hg18 K19 hK19 => st_field (o' := 3) hs26 (Ev.t 13 rfl) rfl rfl runUnderlying25 rfl sizeOf3 rfl rfl hK19) fun _ _ hs27 => ?_; clear hs26
   refine sq_gv hs27 (gg := decide (((wf b.all) g.k : Int) > 0)) (v := .int .i64 b.err) rfl rfl 3 rfl (ison_t _) rfl rfl rfl (fun hg20 K21 hK21 => st_load1 (o := 0) (off := 3) (v := .int .i64 b.err) hs27 ((Ev.t 0 rfl).un hg20) rfl rfl isAgg3 (hs27.cells 2 rfl) rfl hK21) fun _ _ hs28 => ?_; clear hs27
   refine sq_gv hs28 (gg := decide (((wf b.all) g.k : Int) > 0)) (v := .bool (within (g.k : Int) (b.count - b.err) (b.count + b.err))) rfl rfl 4 rfl (ison_t _) rfl rfl rfl (fun hg22 K23 hK23 => st_callv (vs := [.agg ⟨(bxL b A n cp A2 n2 c2)⟩, .int .i64 (g.k : Int), .int .i64 b.err]) hs28 (.func _) ⟨((Ev.t 3 rfl).un hg22), ((Ev.t 2 rfl).un hg22), ((Ev.t 0 rfl).un hg22), trivial⟩ rfl rfl call60 rfl (near_v b A n cp A2 n2 c2 (g.k : Int) b.err _ hO.count (by have := hO.err; omega)) hK23) fun _ _ hs29 => ?_; clear hs28
   refine sq rfl (st_and hs29 (gx := true) (gy := decide (((wf b.all) g.k : Int) > 0)) (Ev.t 5 rfl) rfl (Ev.t 0 rfl) (fun h => h) rfl rfl fun _ _ hs30 => ?_); clear hs29
   refine hK13 _ _ ?_; clear hK13
   have hs31 := hs30.keep [0, 13, 14, 15, 16, 17] [_, _, _, _, _, _] rfl; clear hs30
   refine cd_cond hs31 (Ev.t 0 rfl) (fun hc24 => ?_) (fun hc24 => ?_)
   · have hq : (right b (g.k : Int) && decide (0 < wf b.all g.k)) = true := by have h := hc24; simp only [Bool.and_eq_true, decide_eq_true_eq, right] at h ⊢; exact ⟨h.2, h.1⟩
     refine cd_region1 ?_
     refine sq rfl (st_move hs31 (Ev.t 3 rfl) rfl rfl fun _ _ hs32 => ?_); clear hs31
     refine sq rfl (st_move hs32 (Ev.t 2 rfl) rfl rfl fun _ _ hs33 => ?_); clear hs32
     refine sq rfl (st_buildSlice hs33 (qs := [(0, .int .i64 (g.k : Int))]) (e := 3) (l := [.int .i64 (g.k : Int)]) ⟨(Ev.t 0 rfl), trivial⟩ rfl rfl rfl (fun _ => by kernel_rfl) fun b25 _ _ hs34 => ?_); clear hs33
     refine sq rfl (st_append (enc := intL1) (zs := g.l) (ys := [(g.k : Int)]) (c := g.c) (i := 2) hs34 (Ev.t 2 rfl) (Ev.t 0 rfl) rfl rfl underlying33 (show (Tryd.prog.info? 3).map (fun i => (i.zero, i.size, i.bytes)) = some (some (.int .i64 0), 1, 8) by kernel_rfl) rfl (fun _ => rfl) (fun _ u hu => by simp only [intL1, List.mem_cons, List.not_mem_nil, or_false] at hu; subst hu; rfl) hown rfl (sl_at (enc := intL1) (sz := 1) (ys := [(g.k : Int)]) (fun _ => rfl) (by decide) (hs34.cells 0 rfl)) (by omega) (by omega) (fun A7 c7 b7 o7 _ _ hown7 hs35 => ?_)); clear hs34
     have hs36 := Sx.as (T' := [_, _, _, _, _, _, _, _, _, _]) (B' := [_, _, _, _]) rfl rfl hs35; clear hs35
     have hs37 := hs36.keep [0, 1, 2, 3, 4, 5, 6, 8, 9] [_, _, _, _, _, _, _, _, _] rfl; clear hs36
     refine sq rfl (st_assign hs37 (Ev.t 0 rfl) rfl rfl fun _ _ hs38 => ?_); clear hs37
     refine wpListIn_nil ?_
     have hs39 := hs38.keep [0, 6, 7, 8, 9] [_, _, _, _, _] rfl; clear hs38
     refine in_norm ?_
     refine th_norm (hK12 _ _ ?_)
     refine cd_region1 ?_
     refine sq rfl (st_move hs39 (Ev.t 1 rfl) rfl rfl fun _ _ hs40 => ?_); clear hs39
     refine sq rfl (st_add (z := (g.k : Int) + 1) hs40 (Ev.t 0 rfl) (.const _) rfl rfl rfl (by omega) fun _ _ hs41 => ?_); clear hs40
     have hs42 := hs41.keep [0, 1, 2, 4, 5, 6] [_, _, _, _, _, _] rfl; clear hs41
     refine sq rfl (st_assign hs42 (Ev.t 0 rfl) rfl rfl fun _ _ hs43 => ?_); clear hs42
     refine wpListIn_nil ?_
     have hs44 := hs43.keep [0, 3, 4, 5, 6] [_, _, _, _, _] rfl; clear hs43
     refine ⟨(OwG.mk (g.k + 1) A7 c7 (g.l ++ [(g.k : Int)]) b7 o7), ⟨?_, ?_, ?_, ?_⟩, by (show 60001 - (g.k + 1) < 60001 - g.k; omega)⟩
     · exact hgn
     · show (g.l ++ [(g.k : Int)]) = b.amtsTo (g.k + 1)
       rw [amts_snoc hq, hgl]
     · exact hown7
     have hs45 : Sx 31 [] [(5, .int .i64 ((g.k : Int) + 1)), (3, .slice A7 (g.l.length + 1) c7), (4, .slice (some ⟨bw8, 0, none⟩) 60001 60001), (2, .slice none 0 0), (1, .pointer (some ⟨b2, 0, none⟩))] [(bw8, ow8), (b7, o7), (b2, some (.cells ⟨(bxL b A n cp A2 n2 c2)⟩ 25 (0, 0)))] [] w _ _ := Sx.blks hs44 ((List.Sublist.cons _ (List.Sublist.cons_cons _ (List.Sublist.cons_cons _ (List.Sublist.cons_cons _ List.Sublist.slnil)))))
     exact Sx.keepE [0, 2, 1, 3, 4] _ ⟨⟨_, rfl, rfl⟩, ⟨_, rfl, rfl⟩, ⟨_, rfl, by simp⟩, ⟨_, rfl, rfl⟩, ⟨_, rfl, rfl⟩, trivial⟩ hs45
   · have hq : ¬ (right b (g.k : Int) && decide (0 < wf b.all g.k)) = true := by have h9 := hc24; intro h; simp only [Bool.and_eq_true, decide_eq_true_eq, right] at h; simp [h.1, h.2] at h9
     refine cd_skip ?_
     refine in_norm ?_
     refine th_norm (hK12 _ _ ?_)
     refine cd_region1 ?_
     refine sq rfl (st_move hs31 (Ev.t 1 rfl) rfl rfl fun _ _ hs32 => ?_); clear hs31
     refine sq rfl (st_add (z := (g.k : Int) + 1) hs32 (Ev.t 0 rfl) (.const _) rfl rfl rfl (by omega) fun _ _ hs33 => ?_); clear hs32
     have hs34 := hs33.keep [0, 1, 2, 4, 5, 6, 7] [_, _, _, _, _, _, _] rfl; clear hs33
     refine sq rfl (st_assign hs34 (Ev.t 0 rfl) rfl rfl fun _ _ hs35 => ?_); clear hs34
     refine wpListIn_nil ?_
     have hs36 := hs35.keep [0, 4, 5, 6, 7] [_, _, _, _, _] rfl; clear hs35
     refine ⟨(OwG.mk (g.k + 1) g.A g.c g.l g.b g.o), ⟨?_, ?_, ?_, ?_⟩, by (show 60001 - (g.k + 1) < 60001 - g.k; omega)⟩
     · exact hgn
     · show g.l = b.amtsTo (g.k + 1)
       rw [amts_skip hq, hgl]
     · exact hown
     exact Sx.keepE [0, 1, 2, 3, 4] _ ⟨⟨_, rfl, rfl⟩, ⟨_, rfl, rfl⟩, ⟨_, rfl, rfl⟩, ⟨_, rfl, rfl⟩, ⟨_, rfl, rfl⟩, trivial⟩ hs36
 · have hge : g.k = 60001 := by simp at hc11; omega
   refine cd_exit ?_
   refine th_exit ?_
   refine th_exit ?_
   refine in_hit ?_
   refine th_norm (hK7 _ _ ?_)
   refine cd_region fun K26 hK26 => ?_
   refine sq rfl (st_move hs18 (Ev.t 3 rfl) rfl rfl fun _ _ hs19 => ?_); clear hs18
   have hs20 := hs19.keep [0, 1, 2, 3, 4, 6] [_, _, _, _, _, _] rfl; clear hs19
   refine sq rfl (st_assign hs20 (Ev.t 0 rfl) rfl rfl fun _ _ hs21 => ?_); clear hs20
   refine hK26 _ _ ?_; clear hK26
   have hs22 := hs21.keep [0] [_] rfl; clear hs21
   have hfin : g.l = b.amts := by rw [hgl, hge]; rfl
   exact cd_ret (vs := [.slice g.A g.l.length g.c]) (bs := [(g.b, g.o)]) hs22 hQ0 rfl ⟨.tmp 0 rfl, trivial⟩ (.cons _ (.cons_cons _ (List.nil_sublist _))) ⟨g.A, g.c, g.b, g.o, by rw [← hfin]; rfl, hfin ▸ hown, rfl⟩

theorem between_no2 {b : Bx} (h : b.asked true ≠ 0) {f : Bx → Int → Int} : b.betweenR f = (⟨0, 0⟩, b.asked true) := by rw [Bx.betweenR, if_neg h]

theorem rTakings_v (b : Bx) (A : Option Addr) (n cp : Nat) (A2 : Option Addr) (n2 c2 : Nat) (w : World) (hP : RollsAt w A n b.rolls) (hn : n ≤ 140737488351232) (hF : SpsAt w A2 n2 b.free) (hn2 : n2 ≤ 140737488351232) :
    CallsV Tryd.prog 37 [.agg ⟨(bxL b A n cp A2 n2 c2)⟩] w (.tuple ⟨[.agg ⟨[.int .i64 ((b.betweenR wholeI).1.lo), .int .i64 ((b.betweenR wholeI).1.hi)]⟩, .int .i64 ((b.betweenR wholeI).2)]⟩) := by
 refine enter (N := 24) (M := []) w func37 rfl rfl rfl (fun Q0 a_0 hQ0 hN0 hs0 => ?_)
 refine cd_region fun K1 hK1 => ?_
 refine sq rfl (st_box hs0 (Ev.t 0 rfl) rfl rfl rfl fun b2 _ _ hs1 => ?_); clear hs0
 refine sq rfl (st_alloc hs1 rfl rfl zeroValue35 rfl fun b3 _ _ hs2 => ?_); clear hs1
 refine sq rfl (st_assign hs2 (.const _) rfl rfl fun _ _ hs3 => ?_); clear hs2
 refine hK1 _ _ ?_; clear hK1
 have hs4 := hs3.keep [0, 1, 2] [_, _, _] rfl; clear hs3
 refine cd_seq fun K4 hK4 => ?_
 refine cd_region fun K5 hK5 => ?_
 refine sq rfl (st_loadA (o := 0) (off := 0) (vs := (bxL b A n cp A2 n2 c2)) hs4 (Ev.t 2 rfl) rfl rfl isAgg25 sizeOf25 (hs4.cells 1 rfl) rfl fun _ _ hs5 => ?_); clear hs4
 refine sq rfl (st_callv (vs := [.agg ⟨(bxL b A n cp A2 n2 c2)⟩, .bool true]) hs5 (.func _) ⟨(Ev.t 0 rfl), (.const _), trivial⟩ rfl rfl call65 rfl (rasked_v b A n cp A2 n2 c2 true _ (hP.kp hs5.kp) hn (hF.kp hs5.kp) hn2) fun _ _ hs6 => ?_); clear hs5
 refine sq rfl (st_assign hs6 (Ev.t 0 rfl) rfl rfl fun _ _ hs7 => ?_); clear hs6
 refine hK5 _ _ ?_; clear hK5
 have hs8 := hs7.keep [0, 3, 4, 5] [_, _, _, _] rfl; clear hs7
 refine cd_region fun K6 hK6 => ?_
 refine sq rfl (st_move hs8 (Ev.t 0 rfl) rfl rfl fun _ _ hs9 => ?_); clear hs8
 refine sq rfl (st_cmp (c := (b.asked true : Int) != 0) hs9 (Ev.t 0 rfl) (.const _) rfl rfl rfl rfl fun _ _ hs10 => ?_); clear hs9
 refine hK6 _ _ ?_; clear hK6
 have hs11 := hs10.keep [0, 2, 3, 4, 5] [_, _, _, _, _] rfl; clear hs10
 refine cd_cond hs11 (Ev.t 0 rfl) (fun hc7 => ?_) (fun hc7 => ?_)
 · have hne : b.asked true ≠ 0 := by simpa using hc7
   refine cd_region fun K8 hK8 => ?_
   refine sq rfl (st_build hs11 (qs := []) (v := .agg ⟨[.int .i64 0, .int .i64 0]⟩) trivial rfl rfl rfl (fun _ => by kernel_rfl) fun _ _ hs12 => ?_); clear hs11
   refine sq rfl (st_move hs12 (Ev.t 2 rfl) rfl rfl fun _ _ hs13 => ?_); clear hs12
   refine sq rfl (st_store (l' := [.int .i64 0, .int .i64 0]) (vs := [.int .i64 0, .int .i64 0]) (i := 0) hs13 (Ev.t 5 rfl) (Ev.t 1 rfl) sizeOf35 rfl rfl rfl rfl rfl rfl fun _ _ hs14 => ?_); clear hs13
   have hs15 := hs14.asB [_, _] rfl; clear hs14
   have hs16 := hs15.keep [0, 1, 2, 3, 5, 6] [_, _, _, _, _, _] rfl; clear hs15
   refine sq rfl (st_assign hs16 (Ev.t 0 rfl) rfl rfl fun _ _ hs17 => ?_); clear hs16
   refine hK8 _ _ ?_; clear hK8
   have hs18 := hs17.keep [0, 5] [_, _] rfl; clear hs17
   refine cd_retv (vs := [.agg ⟨[.int .i64 0, .int .i64 0]⟩, .int .i64 (b.asked true)]) hs18 (fun a_ w_ h => th_ret (hQ0 a_ w_ h)) rfl ⟨resA (o := 0) (off := 0) (vs := [.int .i64 0, .int .i64 0]) 1 rfl isAgg35 sizeOf35 (hs18.cells 0 rfl) rfl, .tmp 0 rfl, trivial⟩ ?_
   clear hs18 hQ0 hN0 hK4
   first | (simp [pack, between_no2 hne]; done) | (simp only [pack, Bx.betweenR, h0, if_true, amts_span hLL (by assumption) (by assumption)]; done)
 · have h0 : b.asked true = 0 := by simpa using hc7
   obtain ⟨hok, -, hm0⟩ := asked_zero.1 h0
   have hO := ok_iff.1 hok
   have hd := hO.duty; have hsh := hO.share; have hg := hO.guar
   have hnz := amts_ne hO hm0
   obtain ⟨L, hLL⟩ : ∃ L, b.amts.length = L + 1 := ⟨b.amts.length - 1, by have := List.length_pos_iff.2 hnz; omega⟩
   have hL6 := amts_len (b := b) 60001; rw [show b.amtsTo 60001 = b.amts from rfl] at hL6
   refine cd_skip ?_
   refine th_norm (hK4 _ _ ?_)
   refine cd_region fun K9 hK9 => ?_
   refine sq rfl (st_loadA (o := 0) (off := 0) (vs := (bxL b A n cp A2 n2 c2)) hs11 (Ev.t 4 rfl) rfl rfl isAgg25 sizeOf25 (hs11.cells 1 rfl) rfl fun _ _ hs12 => ?_); clear hs11
   refine sq rfl (st_call (vs := [.agg ⟨(bxL b A n cp A2 n2 c2)⟩]) hs12 (.func _) ⟨(Ev.t 0 rfl), trivial⟩ rfl rfl call68 rfl (ramounts_b b A n cp A2 n2 c2 _ (hP.kp hs12.kp) hn (hF.kp hs12.kp) hn2 hO) fun v10 bs11 a_13 w_13 hp13 hs13 => ?_); clear hs12
   obtain ⟨A9, c9, b9, o9, rfl, hO9, rfl⟩ := hp13
   have hs14 := Sx.as (T' := [_, _, _, _, _, _, _]) (B' := [_, _, _]) rfl rfl hs13; clear hs13
   refine sq rfl (st_assign hs14 (Ev.t 0 rfl) rfl rfl fun _ _ hs15 => ?_); clear hs14
   refine hK9 _ _ ?_; clear hK9
   have hs16 := hs15.keep [0, 5, 6] [_, _, _] rfl; clear hs15
   obtain ⟨x12, hx12⟩ : ∃ x, b.amts[0]? = some x := ⟨_, List.getElem?_eq_getElem (by omega)⟩
   obtain ⟨hA13, l13, ho13, hr13⟩ := hO9.open hx12
   have ha0 := amts_at0 hx12
   obtain ⟨x14, hx14⟩ : ∃ x, b.amts[L]? = some x := ⟨_, List.getElem?_eq_getElem (by omega)⟩
   obtain ⟨hA15, l15, ho15, hr15⟩ := hO9.open hx14
   have haL := amts_at0 hx14
   refine cd_drawn mixed hs16 [⟨14, [], Is (.slice A9 b.amts.length c9)⟩, ⟨15, [0], Is (.pointer (some ⟨b9, 0 * 1, none⟩))⟩, ⟨16, [1], Is (.int .i64 x12)⟩, ⟨17, [], Is (.slice A9 b.amts.length c9)⟩, ⟨18, [], Is (.slice A9 b.amts.length c9)⟩, ⟨19, [4], Is (.int .i64 (b.amts.length : Int))⟩, ⟨20, [5], Is (.int .i64 (L : Int))⟩, ⟨21, [3, 6], Is (.pointer (some ⟨b9, L * 1, none⟩))⟩, ⟨22, [7], Is (.int .i64 x14)⟩] (by kernel_rfl) (by kernel_rfl) fun K16 hK16 => ⟨⟨?_, ?_, ?_, ?_, ?_, ?_, ?_, ?_, ?_, trivial⟩, ?_⟩
   · rintro T_ B_ a_ w_ K_ hT hB hf hsD hk
     exact ob rfl rfl (st_move hsD (evT hT 0 rfl) rfl hf fun _ _ => hk _ _ _ _ ⟨rfl, rfl⟩)
   · rintro T_ B_ a_ w_ K_ hT hB _ _ ⟨rfl, rfl⟩ h14 - hf hsD hk
     exact ob rfl rfl (st_indexM (o' := 0 * 1) hsD (Ev.tmp h14) (.const _) rfl hf hA13 runUnderlying33 sizeOf3 ⟨by omega, by have := (List.getElem?_eq_some_iff.1 hx12).1; omega⟩ (by simp) fun _ _ => hk _ _ _ _ ⟨rfl, rfl⟩)
   · rintro T_ B_ a_ w_ K_ hT hB _ _ ⟨rfl, rfl⟩ h15 - hf hsD hk
     exact ob rfl rfl (st_load1 (o := (0 * 1)) (off := 0) (v := .int .i64 x12) hsD (Ev.tmp h15) rfl hf isAgg3 (hr13.at (hsD.cellsM (by rw [← ho13]; exact hB _ (mem_nth (i := 0) rfl))) hx12) rfl fun _ _ => hk _ _ _ _ ⟨rfl, rfl⟩)
   · rintro T_ B_ a_ w_ K_ hT hB hf hsD hk
     exact ob rfl rfl (st_move hsD (evT hT 0 rfl) rfl hf fun _ _ => hk _ _ _ _ ⟨rfl, rfl⟩)
   · rintro T_ B_ a_ w_ K_ hT hB hf hsD hk
     exact ob rfl rfl (st_move hsD (evT hT 0 rfl) rfl hf fun _ _ => hk _ _ _ _ ⟨rfl, rfl⟩)
   · rintro T_ B_ a_ w_ K_ hT hB _ _ ⟨rfl, rfl⟩ h18 - hf hsD hk
     exact ob rfl rfl (st_len hsD (Ev.tmp h18) rfl hf runUnderlying33 fun _ _ => hk _ _ _ _ ⟨rfl, rfl⟩)
   · rintro T_ B_ a_ w_ K_ hT hB _ _ ⟨rfl, rfl⟩ h19 - hf hsD hk
     exact ob rfl rfl (st_sub (z := (L : Int)) hsD (Ev.tmp h19) (.const _) rfl hf (by omega) (by omega) fun _ _ => hk _ _ _ _ ⟨rfl, rfl⟩)
   · rintro T_ B_ a_ w_ K_ hT hB _ _ ⟨rfl, rfl⟩ h17 - _ _ ⟨rfl, rfl⟩ h20 - hf hsD hk
     exact ob rfl rfl (st_indexM (o' := L * 1) hsD (Ev.tmp h17) (Ev.tmp h20) rfl hf hA15 runUnderlying33 sizeOf3 ⟨by omega, by have := (List.getElem?_eq_some_iff.1 hx14).1; omega⟩ (by simp) fun _ _ => hk _ _ _ _ ⟨rfl, rfl⟩)
   · rintro T_ B_ a_ w_ K_ hT hB _ _ ⟨rfl, rfl⟩ h21 - hf hsD hk
     exact ob rfl rfl (st_load1 (o := (L * 1)) (off := 0) (v := .int .i64 x14) hsD (Ev.tmp h21) rfl hf isAgg3 (hr15.at (hsD.cellsM (by rw [← ho15]; exact hB _ (mem_nth (i := 0) rfl))) hx14) rfl fun _ _ => hk _ _ _ _ ⟨rfl, rfl⟩)
   rintro _ _ ⟨rfl, rfl⟩ _ _ ⟨rfl, rfl⟩ _ _ ⟨rfl, rfl⟩ _ _ ⟨rfl, rfl⟩ _ _ ⟨rfl, rfl⟩ _ _ ⟨rfl, rfl⟩ _ _ ⟨rfl, rfl⟩ _ _ ⟨rfl, rfl⟩ _ _ ⟨rfl, rfl⟩ a_17 w_17 hs17; clear hs16
   have hs18 := Sx.as (T' := [_, _, _, _, _, _, _, _, _, _, _, _]) (B' := [_, _, _]) rfl rfl hs17; clear hs17
   refine sq rfl (st_callv (vs := [.int .i64 x12, .int .i64 x14]) hs18 (.func _) ⟨(Ev.t 2 rfl), (Ev.t 8 rfl), trivial⟩ rfl rfl call23 rfl (S_v x12 x14 _) fun _ _ hs19 => ?_); clear hs18
   refine sq rfl (st_store (l' := [.int .i64 x12, .int .i64 x14]) (vs := [.int .i64 x12, .int .i64 x14]) (i := 1) hs19 (Ev.t 12 rfl) (Ev.t 0 rfl) sizeOf35 rfl rfl rfl rfl rfl rfl fun _ _ hs20 => ?_); clear hs19
   have hs21 := hs20.asB [_, _, _] rfl; clear hs20
   have hs22 := hs21.keep [0, 1, 2, 3, 4, 5, 6, 7, 8, 9, 10, 12] [_, _, _, _, _, _, _, _, _, _, _, _] rfl; clear hs21
   refine sq rfl (st_assign hs22 (.const _) rfl rfl fun _ _ hs23 => ?_); clear hs22
   refine hK16 _ _ ?_; clear hK16
   have hs24 := hs23.keep [0, 12] [_, _] rfl; clear hs23
   refine cd_retv (vs := [.agg ⟨[.int .i64 x12, .int .i64 x14]⟩, .int .i64 0]) hs24 hQ0 rfl ⟨resA (o := 0) (off := 0) (vs := [.int .i64 x12, .int .i64 x14]) 1 rfl isAgg35 sizeOf35 (hs24.cells 1 rfl) rfl, .tmp 0 rfl, trivial⟩ ?_
   clear hs24 hQ0 hN0
   first | (simp [pack, between_no2 hne]; done) | (simp only [pack, Bx.betweenR, h0, if_true, amts_span hLL (by assumption) (by assumption)]; done)

theorem rHire_v (b : Bx) (A : Option Addr) (n cp : Nat) (A2 : Option Addr) (n2 c2 : Nat) (w : World) (hP : RollsAt w A n b.rolls) (hn : n ≤ 140737488351232) (hF : SpsAt w A2 n2 b.free) (hn2 : n2 ≤ 140737488351232) :
    CallsV Tryd.prog 38 [.agg ⟨(bxL b A n cp A2 n2 c2)⟩] w (.tuple ⟨[.agg ⟨[.int .i64 ((b.betweenR hireI).1.lo), .int .i64 ((b.betweenR hireI).1.hi)]⟩, .int .i64 ((b.betweenR hireI).2)]⟩) := by
 refine enter (N := 53) (M := []) w func38 rfl rfl rfl (fun Q0 a_0 hQ0 hN0 hs0 => ?_)
 refine cd_region fun K1 hK1 => ?_
 refine sq rfl (st_box hs0 (Ev.t 0 rfl) rfl rfl rfl fun b2 _ _ hs1 => ?_); clear hs0
 refine sq rfl (st_alloc hs1 rfl rfl zeroValue35 rfl fun b3 _ _ hs2 => ?_); clear hs1
 refine sq rfl (st_assign hs2 (.const _) rfl rfl fun _ _ hs3 => ?_); clear hs2
 refine hK1 _ _ ?_; clear hK1
 have hs4 := hs3.keep [0, 1, 2] [_, _, _] rfl; clear hs3
 refine cd_seq fun K4 hK4 => ?_
 refine cd_region fun K5 hK5 => ?_
 refine sq rfl (st_loadA (o := 0) (off := 0) (vs := (bxL b A n cp A2 n2 c2)) hs4 (Ev.t 2 rfl) rfl rfl isAgg25 sizeOf25 (hs4.cells 1 rfl) rfl fun _ _ hs5 => ?_); clear hs4
 refine sq rfl (st_callv (vs := [.agg ⟨(bxL b A n cp A2 n2 c2)⟩, .bool true]) hs5 (.func _) ⟨(Ev.t 0 rfl), (.const _), trivial⟩ rfl rfl call65 rfl (rasked_v b A n cp A2 n2 c2 true _ (hP.kp hs5.kp) hn (hF.kp hs5.kp) hn2) fun _ _ hs6 => ?_); clear hs5
 refine sq rfl (st_assign hs6 (Ev.t 0 rfl) rfl rfl fun _ _ hs7 => ?_); clear hs6
 refine hK5 _ _ ?_; clear hK5
 have hs8 := hs7.keep [0, 3, 4, 5] [_, _, _, _] rfl; clear hs7
 refine cd_region fun K6 hK6 => ?_
 refine sq rfl (st_move hs8 (Ev.t 0 rfl) rfl rfl fun _ _ hs9 => ?_); clear hs8
 refine sq rfl (st_cmp (c := (b.asked true : Int) != 0) hs9 (Ev.t 0 rfl) (.const _) rfl rfl rfl rfl fun _ _ hs10 => ?_); clear hs9
 refine hK6 _ _ ?_; clear hK6
 have hs11 := hs10.keep [0, 2, 3, 4, 5] [_, _, _, _, _] rfl; clear hs10
 refine cd_cond hs11 (Ev.t 0 rfl) (fun hc7 => ?_) (fun hc7 => ?_)
 · have hne : b.asked true ≠ 0 := by simpa using hc7
   refine cd_region fun K8 hK8 => ?_
   refine sq rfl (st_build hs11 (qs := []) (v := .agg ⟨[.int .i64 0, .int .i64 0]⟩) trivial rfl rfl rfl (fun _ => by kernel_rfl) fun _ _ hs12 => ?_); clear hs11
   refine sq rfl (st_move hs12 (Ev.t 2 rfl) rfl rfl fun _ _ hs13 => ?_); clear hs12
   refine sq rfl (st_store (l' := [.int .i64 0, .int .i64 0]) (vs := [.int .i64 0, .int .i64 0]) (i := 0) hs13 (Ev.t 5 rfl) (Ev.t 1 rfl) sizeOf35 rfl rfl rfl rfl rfl rfl fun _ _ hs14 => ?_); clear hs13
   have hs15 := hs14.asB [_, _] rfl; clear hs14
   have hs16 := hs15.keep [0, 1, 2, 3, 5, 6] [_, _, _, _, _, _] rfl; clear hs15
   refine sq rfl (st_assign hs16 (Ev.t 0 rfl) rfl rfl fun _ _ hs17 => ?_); clear hs16
   refine hK8 _ _ ?_; clear hK8
   have hs18 := hs17.keep [0, 5] [_, _] rfl; clear hs17
   refine cd_retv (vs := [.agg ⟨[.int .i64 0, .int .i64 0]⟩, .int .i64 (b.asked true)]) hs18 (fun a_ w_ h => th_ret (hQ0 a_ w_ h)) rfl ⟨resA (o := 0) (off := 0) (vs := [.int .i64 0, .int .i64 0]) 1 rfl isAgg35 sizeOf35 (hs18.cells 0 rfl) rfl, .tmp 0 rfl, trivial⟩ ?_
   clear hs18 hQ0 hN0 hK4
   first | (simp [pack, between_no2 hne]; done) | (simp only [pack, Bx.betweenR, h0, if_true, hfa]; done)
 · have h0 : b.asked true = 0 := by simpa using hc7
   obtain ⟨hok, -, hm0⟩ := asked_zero.1 h0
   have hO := ok_iff.1 hok
   have hd := hO.duty; have hsh := hO.share; have hg := hO.guar
   have hnz := amts_ne hO hm0
   obtain ⟨L, hLL⟩ : ∃ L, b.amts.length = L + 1 := ⟨b.amts.length - 1, by have := List.length_pos_iff.2 hnz; omega⟩
   have hL6 := amts_len (b := b) 60001; rw [show b.amtsTo 60001 = b.amts from rfl] at hL6
   refine cd_skip ?_
   refine th_norm (hK4 _ _ ?_)
   refine cd_region fun K9 hK9 => ?_
   refine sq rfl (st_loadA (o := 0) (off := 0) (vs := (bxL b A n cp A2 n2 c2)) hs11 (Ev.t 4 rfl) rfl rfl isAgg25 sizeOf25 (hs11.cells 1 rfl) rfl fun _ _ hs12 => ?_); clear hs11
   refine sq rfl (st_call (vs := [.agg ⟨(bxL b A n cp A2 n2 c2)⟩]) hs12 (.func _) ⟨(Ev.t 0 rfl), trivial⟩ rfl rfl call68 rfl (ramounts_b b A n cp A2 n2 c2 _ (hP.kp hs12.kp) hn (hF.kp hs12.kp) hn2 hO) fun v10 bs11 a_13 w_13 hp13 hs13 => ?_); clear hs12
   obtain ⟨A9, c9, b9, o9, rfl, hO9, rfl⟩ := hp13
   have hs14 := Sx.as (T' := [_, _, _, _, _, _, _]) (B' := [_, _, _]) rfl rfl hs13; clear hs13
   refine sq rfl (st_assign hs14 (Ev.t 0 rfl) rfl rfl fun _ _ hs15 => ?_); clear hs14
   refine hK9 _ _ ?_; clear hK9
   have hs16 := hs15.keep [0, 5, 6, 7] [_, _, _, _] rfl; clear hs15
   obtain ⟨x12, hx12⟩ : ∃ x, b.amts[0]? = some x := ⟨_, List.getElem?_eq_getElem (by omega)⟩
   obtain ⟨hA13, l13, ho13, hr13⟩ := hO9.open hx12
   have ha0 := amts_at0 hx12
   refine cd_drawn mixed hs16 [⟨16, [], Is (.agg ⟨(bxL b A n cp A2 n2 c2)⟩)⟩, ⟨17, [], Is (.slice A9 b.amts.length c9)⟩, ⟨18, [1], Is (.pointer (some ⟨b9, 0 * 1, none⟩))⟩, ⟨19, [2], Is (.int .i64 x12)⟩, ⟨20, [0, 3], Is (.int .i64 (hireI b x12))⟩, ⟨21, [], Is (.agg ⟨(bxL b A n cp A2 n2 c2)⟩)⟩, ⟨22, [], Is (.slice A9 b.amts.length c9)⟩, ⟨23, [6], Is (.pointer (some ⟨b9, 0 * 1, none⟩))⟩, ⟨24, [7], Is (.int .i64 x12)⟩, ⟨25, [5, 8], Is (.int .i64 (hireI b x12))⟩, ⟨26, [4, 9], Is (.agg ⟨[.int .i64 (hireI b x12), .int .i64 (hireI b x12)]⟩)⟩, ⟨6, [], fun v_ bs_ => ∃ b15, v_ = .pointer (some ⟨b15, 0, none⟩) ∧ bs_ = [(b15, some (.cells ⟨[.int .i64 0, .int .i64 0]⟩ 35 (0, 0)))]⟩] (by kernel_rfl) (by kernel_rfl) fun K14 hK14 => ⟨⟨?_, ?_, ?_, ?_, ?_, ?_, ?_, ?_, ?_, ?_, ?_, ?_, trivial⟩, ?_⟩
   · rintro T_ B_ a_ w_ K_ hT hB hf hsD hk
     exact ob rfl rfl (st_loadA (o := 0) (off := 0) (vs := (bxL b A n cp A2 n2 c2)) hsD (evT hT 3 rfl) rfl hf isAgg25 sizeOf25 (hsD.cellsM (inB hB 2 rfl)) rfl fun _ _ => hk _ _ _ _ ⟨rfl, rfl⟩)
   · rintro T_ B_ a_ w_ K_ hT hB hf hsD hk
     exact ob rfl rfl (st_move hsD (evT hT 0 rfl) rfl hf fun _ _ => hk _ _ _ _ ⟨rfl, rfl⟩)
   · rintro T_ B_ a_ w_ K_ hT hB _ _ ⟨rfl, rfl⟩ h17 - hf hsD hk
     exact ob rfl rfl (st_indexM (o' := 0 * 1) hsD (Ev.tmp h17) (.const _) rfl hf hA13 runUnderlying33 sizeOf3 ⟨by omega, by have := (List.getElem?_eq_some_iff.1 hx12).1; omega⟩ (by simp) fun _ _ => hk _ _ _ _ ⟨rfl, rfl⟩)
   · rintro T_ B_ a_ w_ K_ hT hB _ _ ⟨rfl, rfl⟩ h18 - hf hsD hk
     exact ob rfl rfl (st_load1 (o := (0 * 1)) (off := 0) (v := .int .i64 x12) hsD (Ev.tmp h18) rfl hf isAgg3 (hr13.at (hsD.cellsM (by rw [← ho13]; exact hB _ (mem_nth (i := 0) rfl))) hx12) rfl fun _ _ => hk _ _ _ _ ⟨rfl, rfl⟩)
   · rintro T_ B_ a_ w_ K_ hT hB _ _ ⟨rfl, rfl⟩ h16 - _ _ ⟨rfl, rfl⟩ h19 - hf hsD hk
     exact ob rfl rfl (st_callv (vs := [.agg ⟨(bxL b A n cp A2 n2 c2)⟩, .int .i64 x12]) hsD (.func _) ⟨(Ev.tmp h16), (Ev.tmp h19), trivial⟩ rfl hf call69 rfl (rhire_v b A n cp A2 n2 c2 x12 _ (by omega) hd hsh hg) fun _ _ => hk _ _ _ _ ⟨rfl, rfl⟩)
   · rintro T_ B_ a_ w_ K_ hT hB hf hsD hk
     exact ob rfl rfl (st_loadA (o := 0) (off := 0) (vs := (bxL b A n cp A2 n2 c2)) hsD (evT hT 3 rfl) rfl hf isAgg25 sizeOf25 (hsD.cellsM (inB hB 2 rfl)) rfl fun _ _ => hk _ _ _ _ ⟨rfl, rfl⟩)
   · rintro T_ B_ a_ w_ K_ hT hB hf hsD hk
     exact ob rfl rfl (st_move hsD (evT hT 0 rfl) rfl hf fun _ _ => hk _ _ _ _ ⟨rfl, rfl⟩)
   · rintro T_ B_ a_ w_ K_ hT hB _ _ ⟨rfl, rfl⟩ h22 - hf hsD hk
     exact ob rfl rfl (st_indexM (o' := 0 * 1) hsD (Ev.tmp h22) (.const _) rfl hf hA13 runUnderlying33 sizeOf3 ⟨by omega, by have := (List.getElem?_eq_some_iff.1 hx12).1; omega⟩ (by simp) fun _ _ => hk _ _ _ _ ⟨rfl, rfl⟩)
   · rintro T_ B_ a_ w_ K_ hT hB _ _ ⟨rfl, rfl⟩ h23 - hf hsD hk
     exact ob rfl rfl (st_load1 (o := (0 * 1)) (off := 0) (v := .int .i64 x12) hsD (Ev.tmp h23) rfl hf isAgg3 (hr13.at (hsD.cellsM (by rw [← ho13]; exact hB _ (mem_nth (i := 0) rfl))) hx12) rfl fun _ _ => hk _ _ _ _ ⟨rfl, rfl⟩)
   · rintro T_ B_ a_ w_ K_ hT hB _ _ ⟨rfl, rfl⟩ h21 - _ _ ⟨rfl, rfl⟩ h24 - hf hsD hk
     exact ob rfl rfl (st_callv (vs := [.agg ⟨(bxL b A n cp A2 n2 c2)⟩, .int .i64 x12]) hsD (.func _) ⟨(Ev.tmp h21), (Ev.tmp h24), trivial⟩ rfl hf call69 rfl (rhire_v b A n cp A2 n2 c2 x12 _ (by omega) hd hsh hg) fun _ _ => hk _ _ _ _ ⟨rfl, rfl⟩)
   · rintro T_ B_ a_ w_ K_ hT hB _ _ ⟨rfl, rfl⟩ h20 - _ _ ⟨rfl, rfl⟩ h25 - hf hsD hk
     exact ob rfl rfl (st_callv (vs := [.int .i64 (hireI b x12), .int .i64 (hireI b x12)]) hsD (.func _) ⟨(Ev.tmp h20), (Ev.tmp h25), trivial⟩ rfl hf call23 rfl (S_v (hireI b x12) (hireI b x12) _) fun _ _ => hk _ _ _ _ ⟨rfl, rfl⟩)
   · rintro T_ B_ a_ w_ K_ hT hB hf hsD hk
     exact ob rfl rfl (st_alloc hsD rfl hf zeroValue35 rfl fun b15 _ _ => hk _ _ _ _ ⟨b15, rfl, rfl⟩)
   rintro _ _ ⟨rfl, rfl⟩ _ _ ⟨rfl, rfl⟩ _ _ ⟨rfl, rfl⟩ _ _ ⟨rfl, rfl⟩ _ _ ⟨rfl, rfl⟩ _ _ ⟨rfl, rfl⟩ _ _ ⟨rfl, rfl⟩ _ _ ⟨rfl, rfl⟩ _ _ ⟨rfl, rfl⟩ _ _ ⟨rfl, rfl⟩ _ _ ⟨rfl, rfl⟩ _ _ ⟨b15, rfl, rfl⟩ a_17 w_17 hs17; clear hs16
   have hs18 := Sx.as (T' := [_, _, _, _, _, _, _, _, _, _, _, _, _, _, _, _]) (B' := [_, _, _, _]) rfl rfl hs17; clear hs17
   refine sq rfl (st_store (l' := [.int .i64 (hireI b x12), .int .i64 (hireI b x12)]) (vs := [.int .i64 (hireI b x12), .int .i64 (hireI b x12)]) (i := 0) hs18 (Ev.t 11 rfl) (Ev.t 10 rfl) sizeOf35 rfl rfl rfl rfl rfl rfl fun _ _ hs19 => ?_); clear hs18
   have hs20 := hs19.asB [_, _, _, _] rfl; clear hs19
   refine hK14 _ _ ?_; clear hK14
   have hs21 := hs20.keep [11, 12, 13, 14, 15] [_, _, _, _, _] rfl; clear hs20
   refine cd_seq fun K16 hK16 => ?_
   refine cd_region fun K17 hK17 => ?_
   refine sq rfl (st_assign hs21 (.const _) rfl rfl fun _ _ hs22 => ?_); clear hs21
   refine hK17 _ _ ?_; clear hK17
   refine cd_block ?_
   have hs23 : Sx 53 [] [(7, .int .i64 (0 : Int)), (6, .pointer (some ⟨b15, 0, none⟩)), (5, .slice A9 b.amts.length c9), (3, .int .i64 0), (2, .pointer (some ⟨b3, 0, none⟩)), (1, .pointer (some ⟨b2, 0, none⟩))] [(b15, some (.cells ⟨[.int .i64 ((foldW (hireI b) x12 (b.amts.take 0)).lo), .int .i64 ((foldW (hireI b) x12 (b.amts.take 0)).hi)]⟩ 35 (0, 0))), (b9, o9), (b3, some (.cells ⟨[.int .i64 0, .int .i64 0]⟩ 35 (0, 0))), (b2, some (.cells ⟨(bxL b A n cp A2 n2 c2)⟩ 25 (0, 0)))] [] w _ _ := Sx.keepE [0, 1, 2, 3, 4, 5] _ ⟨⟨_, rfl, rfl⟩, ⟨_, rfl, rfl⟩, ⟨_, rfl, rfl⟩, ⟨_, rfl, rfl⟩, ⟨_, rfl, rfl⟩, ⟨_, rfl, rfl⟩, trivial⟩ hs22; clear hs22
   refine cd_loop (X := Nat) (fun g a_ w_ => (g ≤ b.amts.length) ∧ Sx 53 [] [(7, .int .i64 (g : Int)), (6, .pointer (some ⟨b15, 0, none⟩)), (5, .slice A9 b.amts.length c9), (3, .int .i64 0), (2, .pointer (some ⟨b3, 0, none⟩)), (1, .pointer (some ⟨b2, 0, none⟩))] [(b15, some (.cells ⟨[.int .i64 ((foldW (hireI b) x12 (b.amts.take g)).lo), .int .i64 ((foldW (hireI b) x12 (b.amts.take g)).hi)]⟩ 35 (0, 0))), (b9, o9), (b3, some (.cells ⟨[.int .i64 0, .int .i64 0]⟩ 35 (0, 0))), (b2, some (.cells ⟨(bxL b A n cp A2 n2 c2)⟩ 25 (0, 0)))] [] w a_ w_) (fun g => b.amts.length - g) (0) ⟨?_, hs23⟩ ?_
   · exact Nat.zero_le _
   intro g a_24 w_24 ⟨hj, hs24⟩; clear hs23
   refine cd_seq fun K18 hK18 => ?_
   refine cd_region fun K19 hK19 => ?_
   refine sq rfl (st_move hs24 (Ev.t 0 rfl) rfl rfl fun _ _ hs25 => ?_); clear hs24
   refine sq rfl (st_move hs25 (Ev.t 3 rfl) rfl rfl fun _ _ hs26 => ?_); clear hs25
   refine sq rfl (st_len hs26 (Ev.t 0 rfl) rfl rfl runUnderlying33 fun _ _ hs27 => ?_); clear hs26
   refine sq rfl (st_cmp (c := decide (((g : Int) : Int) < (b.amts.length : Int))) hs27 (Ev.t 2 rfl) (Ev.t 0 rfl) rfl rfl rfl rfl fun _ _ hs28 => ?_); clear hs27
   refine hK19 _ _ ?_; clear hK19
   have hs29 := hs28.keep [0, 4, 5, 6, 7, 8, 9] [_, _, _, _, _, _, _] rfl; clear hs28
   refine cd_cond hs29 (Ev.t 0 rfl) (fun hc20 => ?_) (fun hc20 => ?_)
   · have hgi : g < b.amts.length := by simp at hc20; omega
     obtain ⟨x21, hx21⟩ : ∃ x, b.amts[g]? = some x := ⟨_, List.getElem?_eq_getElem (hgi)⟩
     obtain ⟨hA22, l22, ho22, hr22⟩ := hO9.open hx21
     have hag := amts_at0 hx21
     have hfw := foldW_snoc (f := hireI b) (x0 := x12) hx21
     refine cd_skip ?_
     refine th_norm (hK18 _ _ ?_)
     refine cd_seq fun K23 hK23 => ?_
     refine cd_block ?_
     refine cd_drawn1 mixed hs29 [⟨33, [], Is (.pointer (some ⟨b15, 0, none⟩))⟩, ⟨34, [0], Is (.int .i64 ((foldW (hireI b) x12 (b.amts.take g)).lo))⟩, ⟨35, [], Is (.agg ⟨(bxL b A n cp A2 n2 c2)⟩)⟩, ⟨36, [], Is (.slice A9 b.amts.length c9)⟩, ⟨37, [], Is (.int .i64 (g : Int))⟩, ⟨38, [3, 4], Is (.pointer (some ⟨b9, g * 1, none⟩))⟩, ⟨39, [5], Is (.int .i64 x21)⟩, ⟨40, [2, 6], Is (.int .i64 (hireI b x21))⟩, ⟨41, [1, 7], Is (.int .i64 (min ((foldW (hireI b) x12 (b.amts.take g)).lo) (hireI b x21)))⟩, ⟨42, [], Is (.pointer (some ⟨b15, 1, none⟩))⟩, ⟨43, [9], Is (.int .i64 ((foldW (hireI b) x12 (b.amts.take g)).hi))⟩, ⟨44, [], Is (.agg ⟨(bxL b A n cp A2 n2 c2)⟩)⟩, ⟨45, [], Is (.slice A9 b.amts.length c9)⟩, ⟨46, [], Is (.int .i64 (g : Int))⟩, ⟨47, [12, 13], Is (.pointer (some ⟨b9, g * 1, none⟩))⟩, ⟨48, [14], Is (.int .i64 x21)⟩, ⟨49, [11, 15], Is (.int .i64 (hireI b x21))⟩, ⟨50, [10, 16], Is (.int .i64 (max ((foldW (hireI b) x12 (b.amts.take g)).hi) (hireI b x21)))⟩] (by kernel_rfl) (by kernel_rfl) ⟨⟨?_, ?_, ?_, ?_, ?_, ?_, ?_, ?_, ?_, ?_, ?_, ?_, ?_, ?_, ?_, ?_, ?_, ?_, trivial⟩, ?_⟩
     · rintro T_ B_ a_ w_ K_ hT hB hf hsD hk
       exact ob rfl rfl (st_field (o' := 0) hsD (evT hT 2 rfl) rfl hf runUnderlying35 rfl sizeOf3 rfl rfl fun _ _ => hk _ _ _ _ ⟨rfl, rfl⟩)
     · rintro T_ B_ a_ w_ K_ hT hB _ _ ⟨rfl, rfl⟩ h33 - hf hsD hk
       exact ob rfl rfl (st_load1 (o := 0) (off := 0) (v := .int .i64 ((foldW (hireI b) x12 (b.amts.take g)).lo)) hsD (Ev.tmp h33) rfl hf isAgg3 (hsD.cellsM (inB hB 0 rfl)) rfl fun _ _ => hk _ _ _ _ ⟨rfl, rfl⟩)
     · rintro T_ B_ a_ w_ K_ hT hB hf hsD hk
       exact ob rfl rfl (st_loadA (o := 0) (off := 0) (vs := (bxL b A n cp A2 n2 c2)) hsD (evT hT 6 rfl) rfl hf isAgg25 sizeOf25 (hsD.cellsM (inB hB 3 rfl)) rfl fun _ _ => hk _ _ _ _ ⟨rfl, rfl⟩)
     · rintro T_ B_ a_ w_ K_ hT hB hf hsD hk
       exact ob rfl rfl (st_move hsD (evT hT 3 rfl) rfl hf fun _ _ => hk _ _ _ _ ⟨rfl, rfl⟩)
     · rintro T_ B_ a_ w_ K_ hT hB hf hsD hk
       exact ob rfl rfl (st_move hsD (evT hT 1 rfl) rfl hf fun _ _ => hk _ _ _ _ ⟨rfl, rfl⟩)
     · rintro T_ B_ a_ w_ K_ hT hB _ _ ⟨rfl, rfl⟩ h36 - _ _ ⟨rfl, rfl⟩ h37 - hf hsD hk
       exact ob rfl rfl (st_indexM (o' := g * 1) hsD (Ev.tmp h36) (Ev.tmp h37) rfl hf hA22 runUnderlying33 sizeOf3 ⟨by omega, by have := (List.getElem?_eq_some_iff.1 hx21).1; omega⟩ (by simp) fun _ _ => hk _ _ _ _ ⟨rfl, rfl⟩)
     · rintro T_ B_ a_ w_ K_ hT hB _ _ ⟨rfl, rfl⟩ h38 - hf hsD hk
       exact ob rfl rfl (st_load1 (o := (g * 1)) (off := 0) (v := .int .i64 x21) hsD (Ev.tmp h38) rfl hf isAgg3 (hr22.at (hsD.cellsM (by rw [← ho22]; exact hB _ (mem_nth (i := 1) rfl))) hx21) rfl fun _ _ => hk _ _ _ _ ⟨rfl, rfl⟩)
     · rintro T_ B_ a_ w_ K_ hT hB _ _ ⟨rfl, rfl⟩ h35 - _ _ ⟨rfl, rfl⟩ h39 - hf hsD hk
       exact ob rfl rfl (st_callv (vs := [.agg ⟨(bxL b A n cp A2 n2 c2)⟩, .int .i64 x21]) hsD (.func _) ⟨(Ev.tmp h35), (Ev.tmp h39), trivial⟩ rfl hf call69 rfl (rhire_v b A n cp A2 n2 c2 x21 _ (by omega) hd hsh hg) fun _ _ => hk _ _ _ _ ⟨rfl, rfl⟩)
     · rintro T_ B_ a_ w_ K_ hT hB _ _ ⟨rfl, rfl⟩ h34 - _ _ ⟨rfl, rfl⟩ h40 - hf hsD hk
       exact ob rfl rfl (st_min hsD (Ev.tmp h34) (Ev.tmp h40) rfl hf fun _ _ => hk _ _ _ _ ⟨rfl, rfl⟩)
     · rintro T_ B_ a_ w_ K_ hT hB hf hsD hk
       exact ob rfl rfl (st_field (o' := 1) hsD (evT hT 2 rfl) rfl hf runUnderlying35 rfl sizeOf3 rfl rfl fun _ _ => hk _ _ _ _ ⟨rfl, rfl⟩)
     · rintro T_ B_ a_ w_ K_ hT hB _ _ ⟨rfl, rfl⟩ h42 - hf hsD hk
       exact ob rfl rfl (st_load1 (o := 0) (off := 1) (v := .int .i64 ((foldW (hireI b) x12 (b.amts.take g)).hi)) hsD (Ev.tmp h42) rfl hf isAgg3 (hsD.cellsM (inB hB 0 rfl)) rfl fun _ _ => hk _ _ _ _ ⟨rfl, rfl⟩)
     · rintro T_ B_ a_ w_ K_ hT hB hf hsD hk
       exact ob rfl rfl (st_loadA (o := 0) (off := 0) (vs := (bxL b A n cp A2 n2 c2)) hsD (evT hT 6 rfl) rfl hf isAgg25 sizeOf25 (hsD.cellsM (inB hB 3 rfl)) rfl fun _ _ => hk _ _ _ _ ⟨rfl, rfl⟩)
     · rintro T_ B_ a_ w_ K_ hT hB hf hsD hk
       exact ob rfl rfl (st_move hsD (evT hT 3 rfl) rfl hf fun _ _ => hk _ _ _ _ ⟨rfl, rfl⟩)
     · rintro T_ B_ a_ w_ K_ hT hB hf hsD hk
       exact ob rfl rfl (st_move hsD (evT hT 1 rfl) rfl hf fun _ _ => hk _ _ _ _ ⟨rfl, rfl⟩)
     · rintro T_ B_ a_ w_ K_ hT hB _ _ ⟨rfl, rfl⟩ h45 - _ _ ⟨rfl, rfl⟩ h46 - hf hsD hk
       exact ob rfl rfl (st_indexM (o' := g * 1) hsD (Ev.tmp h45) (Ev.tmp h46) rfl hf hA22 runUnderlying33 sizeOf3 ⟨by omega, by have := (List.getElem?_eq_some_iff.1 hx21).1; omega⟩ (by simp) fun _ _ => hk _ _ _ _ ⟨rfl, rfl⟩)
     · rintro T_ B_ a_ w_ K_ hT hB _ _ ⟨rfl, rfl⟩ h47 - hf hsD hk
       exact ob rfl rfl (st_load1 (o := (g * 1)) (off := 0) (v := .int .i64 x21) hsD (Ev.tmp h47) rfl hf isAgg3 (hr22.at (hsD.cellsM (by rw [← ho22]; exact hB _ (mem_nth (i := 1) rfl))) hx21) rfl fun _ _ => hk _ _ _ _ ⟨rfl, rfl⟩)
     · rintro T_ B_ a_ w_ K_ hT hB _ _ ⟨rfl, rfl⟩ h44 - _ _ ⟨rfl, rfl⟩ h48 - hf hsD hk
       exact ob rfl rfl (st_callv (vs := [.agg ⟨(bxL b A n cp A2 n2 c2)⟩, .int .i64 x21]) hsD (.func _) ⟨(Ev.tmp h44), (Ev.tmp h48), trivial⟩ rfl hf call69 rfl (rhire_v b A n cp A2 n2 c2 x21 _ (by omega) hd hsh hg) fun _ _ => hk _ _ _ _ ⟨rfl, rfl⟩)
     · rintro T_ B_ a_ w_ K_ hT hB _ _ ⟨rfl, rfl⟩ h43 - _ _ ⟨rfl, rfl⟩ h49 - hf hsD hk
       exact ob rfl rfl (st_max hsD (Ev.tmp h43) (Ev.tmp h49) rfl hf fun _ _ => hk _ _ _ _ ⟨rfl, rfl⟩)
     rintro _ _ ⟨rfl, rfl⟩ _ _ ⟨rfl, rfl⟩ _ _ ⟨rfl, rfl⟩ _ _ ⟨rfl, rfl⟩ _ _ ⟨rfl, rfl⟩ _ _ ⟨rfl, rfl⟩ _ _ ⟨rfl, rfl⟩ _ _ ⟨rfl, rfl⟩ _ _ ⟨rfl, rfl⟩ _ _ ⟨rfl, rfl⟩ _ _ ⟨rfl, rfl⟩ _ _ ⟨rfl, rfl⟩ _ _ ⟨rfl, rfl⟩ _ _ ⟨rfl, rfl⟩ _ _ ⟨rfl, rfl⟩ _ _ ⟨rfl, rfl⟩ _ _ ⟨rfl, rfl⟩ _ _ ⟨rfl, rfl⟩ a_30 w_30 hs30; clear hs29
     have hs31 := Sx.as (T' := [_, _, _, _, _, _, _, _, _, _, _, _, _, _, _, _, _, _, _, _, _, _, _, _, _]) (B' := [_, _, _, _]) rfl rfl hs30; clear hs30
     refine sq rfl (st_callv (vs := [.int .i64 (min ((foldW (hireI b) x12 (b.amts.take g)).lo) (hireI b x21)), .int .i64 (max ((foldW (hireI b) x12 (b.amts.take g)).hi) (hireI b x21))]) hs31 (.func _) ⟨(Ev.t 8 rfl), (Ev.t 17 rfl), trivial⟩ rfl rfl call23 rfl (S_v (min ((foldW (hireI b) x12 (b.amts.take g)).lo) (hireI b x21)) (max ((foldW (hireI b) x12 (b.amts.take g)).hi) (hireI b x21)) _) fun _ _ hs32 => ?_); clear hs31
     refine sq rfl (st_store (l' := [.int .i64 (min ((foldW (hireI b) x12 (b.amts.take g)).lo) (hireI b x21)), .int .i64 (max ((foldW (hireI b) x12 (b.amts.take g)).hi) (hireI b x21))]) (vs := [.int .i64 (min ((foldW (hireI b) x12 (b.amts.take g)).lo) (hireI b x21)), .int .i64 (max ((foldW (hireI b) x12 (b.amts.take g)).hi) (hireI b x21))]) (i := 0) hs32 (Ev.t 21 rfl) (Ev.t 0 rfl) sizeOf35 rfl rfl rfl rfl rfl rfl fun _ _ hs33 => ?_); clear hs32
     have hs34 := hs33.asB [_, _, _, _] rfl; clear hs33
     refine wpListIn_nil ?_
     have hs35 := hs34.keep [20, 21, 22, 23, 24, 25] [_, _, _, _, _, _] rfl; clear hs34
     refine in_norm ?_
     refine th_norm (hK23 _ _ ?_)
     refine cd_region1 ?_
     refine sq rfl (st_move hs35 (Ev.t 0 rfl) rfl rfl fun _ _ hs36 => ?_); clear hs35
     refine sq rfl (st_add (z := (g : Int) + 1) hs36 (Ev.t 0 rfl) (.const _) rfl rfl rfl (by omega) fun _ _ hs37 => ?_); clear hs36
     have hs38 := hs37.keep [0, 1, 3, 4, 5, 6, 7] [_, _, _, _, _, _, _] rfl; clear hs37
     refine sq rfl (st_assign hs38 (Ev.t 0 rfl) rfl rfl fun _ _ hs39 => ?_); clear hs38
     refine wpListIn_nil ?_
     have hs40 := hs39.keep [0, 3, 4, 5, 6, 7] [_, _, _, _, _, _] rfl; clear hs39
     refine ⟨g + 1, ⟨?_, ?_⟩, by (show b.amts.length - (g + 1) < b.amts.length - g; omega)⟩
     · exact hgi
     have hs41 := hs40.asB [(b15, some (.cells ⟨[.int .i64 ((foldW (hireI b) x12 (b.amts.take (g + 1))).lo), .int .i64 ((foldW (hireI b) x12 (b.amts.take (g + 1))).hi)]⟩ 35 (0, 0))), (b9, o9), (b3, some (.cells ⟨[.int .i64 0, .int .i64 0]⟩ 35 (0, 0))), (b2, some (.cells ⟨(bxL b A n cp A2 n2 c2)⟩ 25 (0, 0)))] (by (rw [hfw]) <;> rfl); clear hs40
     exact Sx.keepE [0, 1, 2, 3, 4, 5] _ ⟨⟨_, rfl, rfl⟩, ⟨_, rfl, rfl⟩, ⟨_, rfl, rfl⟩, ⟨_, rfl, rfl⟩, ⟨_, rfl, rfl⟩, ⟨_, rfl, rfl⟩, trivial⟩ hs41
   · have hge : g = b.amts.length := by simp at hc20; omega
     have hfa : (foldW (hireI b) x12 (b.amts.take g)) = spanOf (b.amts.map (hireI b)) := by rw [hge, List.take_length]; exact foldW_all hx12
     refine cd_exit ?_
     refine th_exit ?_
     refine th_exit ?_
     refine in_hit ?_
     refine th_norm (hK16 _ _ ?_)
     refine cd_region fun K24 hK24 => ?_
     refine sq rfl (st_loadA (o := 0) (off := 0) (vs := [.int .i64 ((foldW (hireI b) x12 (b.amts.take g)).lo), .int .i64 ((foldW (hireI b) x12 (b.amts.take g)).hi)]) hs29 (Ev.t 2 rfl) rfl rfl isAgg35 sizeOf35 (hs29.cells 0 rfl) rfl fun _ _ hs30 => ?_); clear hs29
     refine sq rfl (st_store (l' := [.int .i64 ((foldW (hireI b) x12 (b.amts.take g)).lo), .int .i64 ((foldW (hireI b) x12 (b.amts.take g)).hi)]) (vs := [.int .i64 ((foldW (hireI b) x12 (b.amts.take g)).lo), .int .i64 ((foldW (hireI b) x12 (b.amts.take g)).hi)]) (i := 2) hs30 (Ev.t 6 rfl) (Ev.t 0 rfl) sizeOf35 rfl rfl rfl rfl rfl rfl fun _ _ hs31 => ?_); clear hs30
     have hs32 := hs31.asB [_, _, _, _] rfl; clear hs31
     have hs33 := hs32.keep [0, 1, 2, 3, 4, 6, 7] [_, _, _, _, _, _, _] rfl; clear hs32
     refine sq rfl (st_assign hs33 (.const _) rfl rfl fun _ _ hs34 => ?_); clear hs33
     refine hK24 _ _ ?_; clear hK24
     have hs35 := hs34.keep [0, 6] [_, _] rfl; clear hs34
     refine cd_retv (vs := [.agg ⟨[.int .i64 ((foldW (hireI b) x12 (b.amts.take g)).lo), .int .i64 ((foldW (hireI b) x12 (b.amts.take g)).hi)]⟩, .int .i64 0]) hs35 hQ0 rfl ⟨resA (o := 0) (off := 0) (vs := [.int .i64 ((foldW (hireI b) x12 (b.amts.take g)).lo), .int .i64 ((foldW (hireI b) x12 (b.amts.take g)).hi)]) 1 rfl isAgg35 sizeOf35 (hs35.cells 2 rfl) rfl, .tmp 0 rfl, trivial⟩ ?_
     clear hs35 hQ0 hN0
     first | (simp [pack, between_no2 hne]; done) | (simp only [pack, Bx.betweenR, h0, if_true, hfa]; done)

theorem rLeft_v (b : Bx) (A : Option Addr) (n cp : Nat) (A2 : Option Addr) (n2 c2 : Nat) (w : World) (hP : RollsAt w A n b.rolls) (hn : n ≤ 140737488351232) (hF : SpsAt w A2 n2 b.free) (hn2 : n2 ≤ 140737488351232) :
    CallsV Tryd.prog 39 [.agg ⟨(bxL b A n cp A2 n2 c2)⟩] w (.tuple ⟨[.agg ⟨[.int .i64 ((b.betweenR leftI).1.lo), .int .i64 ((b.betweenR leftI).1.hi)]⟩, .int .i64 ((b.betweenR leftI).2)]⟩) := by
 refine enter (N := 53) (M := []) w func39 rfl rfl rfl (fun Q0 a_0 hQ0 hN0 hs0 => ?_)
 refine cd_region fun K1 hK1 => ?_
 refine sq rfl (st_box hs0 (Ev.t 0 rfl) rfl rfl rfl fun b2 _ _ hs1 => ?_); clear hs0
 refine sq rfl (st_alloc hs1 rfl rfl zeroValue35 rfl fun b3 _ _ hs2 => ?_); clear hs1
 refine sq rfl (st_assign hs2 (.const _) rfl rfl fun _ _ hs3 => ?_); clear hs2
 refine hK1 _ _ ?_; clear hK1
 have hs4 := hs3.keep [0, 1, 2] [_, _, _] rfl; clear hs3
 refine cd_seq fun K4 hK4 => ?_
 refine cd_region fun K5 hK5 => ?_
 refine sq rfl (st_loadA (o := 0) (off := 0) (vs := (bxL b A n cp A2 n2 c2)) hs4 (Ev.t 2 rfl) rfl rfl isAgg25 sizeOf25 (hs4.cells 1 rfl) rfl fun _ _ hs5 => ?_); clear hs4
 refine sq rfl (st_callv (vs := [.agg ⟨(bxL b A n cp A2 n2 c2)⟩, .bool true]) hs5 (.func _) ⟨(Ev.t 0 rfl), (.const _), trivial⟩ rfl rfl call65 rfl (rasked_v b A n cp A2 n2 c2 true _ (hP.kp hs5.kp) hn (hF.kp hs5.kp) hn2) fun _ _ hs6 => ?_); clear hs5
 refine sq rfl (st_assign hs6 (Ev.t 0 rfl) rfl rfl fun _ _ hs7 => ?_); clear hs6
 refine hK5 _ _ ?_; clear hK5
 have hs8 := hs7.keep [0, 3, 4, 5] [_, _, _, _] rfl; clear hs7
 refine cd_region fun K6 hK6 => ?_
 refine sq rfl (st_move hs8 (Ev.t 0 rfl) rfl rfl fun _ _ hs9 => ?_); clear hs8
 refine sq rfl (st_cmp (c := (b.asked true : Int) != 0) hs9 (Ev.t 0 rfl) (.const _) rfl rfl rfl rfl fun _ _ hs10 => ?_); clear hs9
 refine hK6 _ _ ?_; clear hK6
 have hs11 := hs10.keep [0, 2, 3, 4, 5] [_, _, _, _, _] rfl; clear hs10
 refine cd_cond hs11 (Ev.t 0 rfl) (fun hc7 => ?_) (fun hc7 => ?_)
 · have hne : b.asked true ≠ 0 := by simpa using hc7
   refine cd_region fun K8 hK8 => ?_
   refine sq rfl (st_build hs11 (qs := []) (v := .agg ⟨[.int .i64 0, .int .i64 0]⟩) trivial rfl rfl rfl (fun _ => by kernel_rfl) fun _ _ hs12 => ?_); clear hs11
   refine sq rfl (st_move hs12 (Ev.t 2 rfl) rfl rfl fun _ _ hs13 => ?_); clear hs12
   refine sq rfl (st_store (l' := [.int .i64 0, .int .i64 0]) (vs := [.int .i64 0, .int .i64 0]) (i := 0) hs13 (Ev.t 5 rfl) (Ev.t 1 rfl) sizeOf35 rfl rfl rfl rfl rfl rfl fun _ _ hs14 => ?_); clear hs13
   have hs15 := hs14.asB [_, _] rfl; clear hs14
   have hs16 := hs15.keep [0, 1, 2, 3, 5, 6] [_, _, _, _, _, _] rfl; clear hs15
   refine sq rfl (st_assign hs16 (Ev.t 0 rfl) rfl rfl fun _ _ hs17 => ?_); clear hs16
   refine hK8 _ _ ?_; clear hK8
   have hs18 := hs17.keep [0, 5] [_, _] rfl; clear hs17
   refine cd_retv (vs := [.agg ⟨[.int .i64 0, .int .i64 0]⟩, .int .i64 (b.asked true)]) hs18 (fun a_ w_ h => th_ret (hQ0 a_ w_ h)) rfl ⟨resA (o := 0) (off := 0) (vs := [.int .i64 0, .int .i64 0]) 1 rfl isAgg35 sizeOf35 (hs18.cells 0 rfl) rfl, .tmp 0 rfl, trivial⟩ ?_
   clear hs18 hQ0 hN0 hK4
   first | (simp [pack, between_no2 hne]; done) | (simp only [pack, Bx.betweenR, h0, if_true, hfa]; done)
 · have h0 : b.asked true = 0 := by simpa using hc7
   obtain ⟨hok, -, hm0⟩ := asked_zero.1 h0
   have hO := ok_iff.1 hok
   have hd := hO.duty; have hsh := hO.share; have hg := hO.guar
   have hnz := amts_ne hO hm0
   obtain ⟨L, hLL⟩ : ∃ L, b.amts.length = L + 1 := ⟨b.amts.length - 1, by have := List.length_pos_iff.2 hnz; omega⟩
   have hL6 := amts_len (b := b) 60001; rw [show b.amtsTo 60001 = b.amts from rfl] at hL6
   refine cd_skip ?_
   refine th_norm (hK4 _ _ ?_)
   refine cd_region fun K9 hK9 => ?_
   refine sq rfl (st_loadA (o := 0) (off := 0) (vs := (bxL b A n cp A2 n2 c2)) hs11 (Ev.t 4 rfl) rfl rfl isAgg25 sizeOf25 (hs11.cells 1 rfl) rfl fun _ _ hs12 => ?_); clear hs11
   refine sq rfl (st_call (vs := [.agg ⟨(bxL b A n cp A2 n2 c2)⟩]) hs12 (.func _) ⟨(Ev.t 0 rfl), trivial⟩ rfl rfl call68 rfl (ramounts_b b A n cp A2 n2 c2 _ (hP.kp hs12.kp) hn (hF.kp hs12.kp) hn2 hO) fun v10 bs11 a_13 w_13 hp13 hs13 => ?_); clear hs12
   obtain ⟨A9, c9, b9, o9, rfl, hO9, rfl⟩ := hp13
   have hs14 := Sx.as (T' := [_, _, _, _, _, _, _]) (B' := [_, _, _]) rfl rfl hs13; clear hs13
   refine sq rfl (st_assign hs14 (Ev.t 0 rfl) rfl rfl fun _ _ hs15 => ?_); clear hs14
   refine hK9 _ _ ?_; clear hK9
   have hs16 := hs15.keep [0, 5, 6, 7] [_, _, _, _] rfl; clear hs15
   obtain ⟨x12, hx12⟩ : ∃ x, b.amts[0]? = some x := ⟨_, List.getElem?_eq_getElem (by omega)⟩
   obtain ⟨hA13, l13, ho13, hr13⟩ := hO9.open hx12
   have ha0 := amts_at0 hx12
   refine cd_drawn mixed hs16 [⟨16, [], Is (.agg ⟨(bxL b A n cp A2 n2 c2)⟩)⟩, ⟨17, [], Is (.slice A9 b.amts.length c9)⟩, ⟨18, [1], Is (.pointer (some ⟨b9, 0 * 1, none⟩))⟩, ⟨19, [2], Is (.int .i64 x12)⟩, ⟨20, [0, 3], Is (.int .i64 (leftI b x12))⟩, ⟨21, [], Is (.agg ⟨(bxL b A n cp A2 n2 c2)⟩)⟩, ⟨22, [], Is (.slice A9 b.amts.length c9)⟩, ⟨23, [6], Is (.pointer (some ⟨b9, 0 * 1, none⟩))⟩, ⟨24, [7], Is (.int .i64 x12)⟩, ⟨25, [5, 8], Is (.int .i64 (leftI b x12))⟩, ⟨26, [4, 9], Is (.agg ⟨[.int .i64 (leftI b x12), .int .i64 (leftI b x12)]⟩)⟩, ⟨6, [], fun v_ bs_ => ∃ b15, v_ = .pointer (some ⟨b15, 0, none⟩) ∧ bs_ = [(b15, some (.cells ⟨[.int .i64 0, .int .i64 0]⟩ 35 (0, 0)))]⟩] (by kernel_rfl) (by kernel_rfl) fun K14 hK14 => ⟨⟨?_, ?_, ?_, ?_, ?_, ?_, ?_, ?_, ?_, ?_, ?_, ?_, trivial⟩, ?_⟩
   · rintro T_ B_ a_ w_ K_ hT hB hf hsD hk
     exact ob rfl rfl (st_loadA (o := 0) (off := 0) (vs := (bxL b A n cp A2 n2 c2)) hsD (evT hT 3 rfl) rfl hf isAgg25 sizeOf25 (hsD.cellsM (inB hB 2 rfl)) rfl fun _ _ => hk _ _ _ _ ⟨rfl, rfl⟩)
   · rintro T_ B_ a_ w_ K_ hT hB hf hsD hk
     exact ob rfl rfl (st_move hsD (evT hT 0 rfl) rfl hf fun _ _ => hk _ _ _ _ ⟨rfl, rfl⟩)
   · rintro T_ B_ a_ w_ K_ hT hB _ _ ⟨rfl, rfl⟩ h17 - hf hsD hk
     exact ob rfl rfl (st_indexM (o' := 0 * 1) hsD (Ev.tmp h17) (.const _) rfl hf hA13 runUnderlying33 sizeOf3 ⟨by omega, by have := (List.getElem?_eq_some_iff.1 hx12).1; omega⟩ (by simp) fun _ _ => hk _ _ _ _ ⟨rfl, rfl⟩)
   · rintro T_ B_ a_ w_ K_ hT hB _ _ ⟨rfl, rfl⟩ h18 - hf hsD hk
     exact ob rfl rfl (st_load1 (o := (0 * 1)) (off := 0) (v := .int .i64 x12) hsD (Ev.tmp h18) rfl hf isAgg3 (hr13.at (hsD.cellsM (by rw [← ho13]; exact hB _ (mem_nth (i := 0) rfl))) hx12) rfl fun _ _ => hk _ _ _ _ ⟨rfl, rfl⟩)
   · rintro T_ B_ a_ w_ K_ hT hB _ _ ⟨rfl, rfl⟩ h16 - _ _ ⟨rfl, rfl⟩ h19 - hf hsD hk
     exact ob rfl rfl (st_callv (vs := [.agg ⟨(bxL b A n cp A2 n2 c2)⟩, .int .i64 x12]) hsD (.func _) ⟨(Ev.tmp h16), (Ev.tmp h19), trivial⟩ rfl hf call70 rfl (rleft_v b A n cp A2 n2 c2 x12 _ (by omega) hd hsh hg) fun _ _ => hk _ _ _ _ ⟨rfl, rfl⟩)
   · rintro T_ B_ a_ w_ K_ hT hB hf hsD hk
     exact ob rfl rfl (st_loadA (o := 0) (off := 0) (vs := (bxL b A n cp A2 n2 c2)) hsD (evT hT 3 rfl) rfl hf isAgg25 sizeOf25 (hsD.cellsM (inB hB 2 rfl)) rfl fun _ _ => hk _ _ _ _ ⟨rfl, rfl⟩)
   · rintro T_ B_ a_ w_ K_ hT hB hf hsD hk
     exact ob rfl rfl (st_move hsD (evT hT 0 rfl) rfl hf fun _ _ => hk _ _ _ _ ⟨rfl, rfl⟩)
   · rintro T_ B_ a_ w_ K_ hT hB _ _ ⟨rfl, rfl⟩ h22 - hf hsD hk
     exact ob rfl rfl (st_indexM (o' := 0 * 1) hsD (Ev.tmp h22) (.const _) rfl hf hA13 runUnderlying33 sizeOf3 ⟨by omega, by have := (List.getElem?_eq_some_iff.1 hx12).1; omega⟩ (by simp) fun _ _ => hk _ _ _ _ ⟨rfl, rfl⟩)
   · rintro T_ B_ a_ w_ K_ hT hB _ _ ⟨rfl, rfl⟩ h23 - hf hsD hk
     exact ob rfl rfl (st_load1 (o := (0 * 1)) (off := 0) (v := .int .i64 x12) hsD (Ev.tmp h23) rfl hf isAgg3 (hr13.at (hsD.cellsM (by rw [← ho13]; exact hB _ (mem_nth (i := 0) rfl))) hx12) rfl fun _ _ => hk _ _ _ _ ⟨rfl, rfl⟩)
   · rintro T_ B_ a_ w_ K_ hT hB _ _ ⟨rfl, rfl⟩ h21 - _ _ ⟨rfl, rfl⟩ h24 - hf hsD hk
     exact ob rfl rfl (st_callv (vs := [.agg ⟨(bxL b A n cp A2 n2 c2)⟩, .int .i64 x12]) hsD (.func _) ⟨(Ev.tmp h21), (Ev.tmp h24), trivial⟩ rfl hf call70 rfl (rleft_v b A n cp A2 n2 c2 x12 _ (by omega) hd hsh hg) fun _ _ => hk _ _ _ _ ⟨rfl, rfl⟩)
   · rintro T_ B_ a_ w_ K_ hT hB _ _ ⟨rfl, rfl⟩ h20 - _ _ ⟨rfl, rfl⟩ h25 - hf hsD hk
     exact ob rfl rfl (st_callv (vs := [.int .i64 (leftI b x12), .int .i64 (leftI b x12)]) hsD (.func _) ⟨(Ev.tmp h20), (Ev.tmp h25), trivial⟩ rfl hf call23 rfl (S_v (leftI b x12) (leftI b x12) _) fun _ _ => hk _ _ _ _ ⟨rfl, rfl⟩)
   · rintro T_ B_ a_ w_ K_ hT hB hf hsD hk
     exact ob rfl rfl (st_alloc hsD rfl hf zeroValue35 rfl fun b15 _ _ => hk _ _ _ _ ⟨b15, rfl, rfl⟩)
   rintro _ _ ⟨rfl, rfl⟩ _ _ ⟨rfl, rfl⟩ _ _ ⟨rfl, rfl⟩ _ _ ⟨rfl, rfl⟩ _ _ ⟨rfl, rfl⟩ _ _ ⟨rfl, rfl⟩ _ _ ⟨rfl, rfl⟩ _ _ ⟨rfl, rfl⟩ _ _ ⟨rfl, rfl⟩ _ _ ⟨rfl, rfl⟩ _ _ ⟨rfl, rfl⟩ _ _ ⟨b15, rfl, rfl⟩ a_17 w_17 hs17; clear hs16
   have hs18 := Sx.as (T' := [_, _, _, _, _, _, _, _, _, _, _, _, _, _, _, _]) (B' := [_, _, _, _]) rfl rfl hs17; clear hs17
   refine sq rfl (st_store (l' := [.int .i64 (leftI b x12), .int .i64 (leftI b x12)]) (vs := [.int .i64 (leftI b x12), .int .i64 (leftI b x12)]) (i := 0) hs18 (Ev.t 11 rfl) (Ev.t 10 rfl) sizeOf35 rfl rfl rfl rfl rfl rfl fun _ _ hs19 => ?_); clear hs18
   have hs20 := hs19.asB [_, _, _, _] rfl; clear hs19
   refine hK14 _ _ ?_; clear hK14
   have hs21 := hs20.keep [11, 12, 13, 14, 15] [_, _, _, _, _] rfl; clear hs20
   refine cd_seq fun K16 hK16 => ?_
   refine cd_region fun K17 hK17 => ?_
   refine sq rfl (st_assign hs21 (.const _) rfl rfl fun _ _ hs22 => ?_); clear hs21
   refine hK17 _ _ ?_; clear hK17
   refine cd_block ?_
   have hs23 : Sx 53 [] [(7, .int .i64 (0 : Int)), (6, .pointer (some ⟨b15, 0, none⟩)), (5, .slice A9 b.amts.length c9), (3, .int .i64 0), (2, .pointer (some ⟨b3, 0, none⟩)), (1, .pointer (some ⟨b2, 0, none⟩))] [(b15, some (.cells ⟨[.int .i64 ((foldW (leftI b) x12 (b.amts.take 0)).lo), .int .i64 ((foldW (leftI b) x12 (b.amts.take 0)).hi)]⟩ 35 (0, 0))), (b9, o9), (b3, some (.cells ⟨[.int .i64 0, .int .i64 0]⟩ 35 (0, 0))), (b2, some (.cells ⟨(bxL b A n cp A2 n2 c2)⟩ 25 (0, 0)))] [] w _ _ := Sx.keepE [0, 1, 2, 3, 4, 5] _ ⟨⟨_, rfl, rfl⟩, ⟨_, rfl, rfl⟩, ⟨_, rfl, rfl⟩, ⟨_, rfl, rfl⟩, ⟨_, rfl, rfl⟩, ⟨_, rfl, rfl⟩, trivial⟩ hs22; clear hs22
   refine cd_loop (X := Nat) (fun g a_ w_ => (g ≤ b.amts.length) ∧ Sx 53 [] [(7, .int .i64 (g : Int)), (6, .pointer (some ⟨b15, 0, none⟩)), (5, .slice A9 b.amts.length c9), (3, .int .i64 0), (2, .pointer (some ⟨b3, 0, none⟩)), (1, .pointer (some ⟨b2, 0, none⟩))] [(b15, some (.cells ⟨[.int .i64 ((foldW (leftI b) x12 (b.amts.take g)).lo), .int .i64 ((foldW (leftI b) x12 (b.amts.take g)).hi)]⟩ 35 (0, 0))), (b9, o9), (b3, some (.cells ⟨[.int .i64 0, .int .i64 0]⟩ 35 (0, 0))), (b2, some (.cells ⟨(bxL b A n cp A2 n2 c2)⟩ 25 (0, 0)))] [] w a_ w_) (fun g => b.amts.length - g) (0) ⟨?_, hs23⟩ ?_
   · exact Nat.zero_le _
   intro g a_24 w_24 ⟨hj, hs24⟩; clear hs23
   refine cd_seq fun K18 hK18 => ?_
   refine cd_region fun K19 hK19 => ?_
   refine sq rfl (st_move hs24 (Ev.t 0 rfl) rfl rfl fun _ _ hs25 => ?_); clear hs24
   refine sq rfl (st_move hs25 (Ev.t 3 rfl) rfl rfl fun _ _ hs26 => ?_); clear hs25
   refine sq rfl (st_len hs26 (Ev.t 0 rfl) rfl rfl runUnderlying33 fun _ _ hs27 => ?_); clear hs26
   refine sq rfl (st_cmp (c := decide (((g : Int) : Int) < (b.amts.length : Int))) hs27 (Ev.t 2 rfl) (Ev.t 0 rfl) rfl rfl rfl rfl fun _ _ hs28 => ?_); clear hs27
   refine hK19 _ _ ?_; clear hK19
   have hs29 := hs28.keep [0, 4, 5, 6, 7, 8, 9] [_, _, _, _, _, _, _] rfl; clear hs28
   refine cd_cond hs29 (Ev.t 0 rfl) (fun hc20 => ?_) (fun hc20 => ?_)
   · have hgi : g < b.amts.length := by simp at hc20; omega
     obtain ⟨x21, hx21⟩ : ∃ x, b.amts[g]? = some x := ⟨_, List.getElem?_eq_getElem (hgi)⟩
     obtain ⟨hA22, l22, ho22, hr22⟩ := hO9.open hx21
     have hag := amts_at0 hx21
     have hfw := foldW_snoc (f := leftI b) (x0 := x12) hx21
     refine cd_skip ?_
     refine th_norm (hK18 _ _ ?_)
     refine cd_seq fun K23 hK23 => ?_
     refine cd_block ?_
     refine cd_drawn1 mixed hs29 [⟨33, [], Is (.pointer (some ⟨b15, 0, none⟩))⟩, ⟨34, [0], Is (.int .i64 ((foldW (leftI b) x12 (b.amts.take g)).lo))⟩, ⟨35, [], Is (.agg ⟨(bxL b A n cp A2 n2 c2)⟩)⟩, ⟨36, [], Is (.slice A9 b.amts.length c9)⟩, ⟨37, [], Is (.int .i64 (g : Int))⟩, ⟨38, [3, 4], Is (.pointer (some ⟨b9, g * 1, none⟩))⟩, ⟨39, [5], Is (.int .i64 x21)⟩, ⟨40, [2, 6], Is (.int .i64 (leftI b x21))⟩, ⟨41, [1, 7], Is (.int .i64 (min ((foldW (leftI b) x12 (b.amts.take g)).lo) (leftI b x21)))⟩, ⟨42, [], Is (.pointer (some ⟨b15, 1, none⟩))⟩, ⟨43, [9], Is (.int .i64 ((foldW (leftI b) x12 (b.amts.take g)).hi))⟩, ⟨44, [], Is (.agg ⟨(bxL b A n cp A2 n2 c2)⟩)⟩, ⟨45, [], Is (.slice A9 b.amts.length c9)⟩, ⟨46, [], Is (.int .i64 (g : Int))⟩, ⟨47, [12, 13], Is (.pointer (some ⟨b9, g * 1, none⟩))⟩, ⟨48, [14], Is (.int .i64 x21)⟩, ⟨49, [11, 15], Is (.int .i64 (leftI b x21))⟩, ⟨50, [10, 16], Is (.int .i64 (max ((foldW (leftI b) x12 (b.amts.take g)).hi) (leftI b x21)))⟩] (by kernel_rfl) (by kernel_rfl) ⟨⟨?_, ?_, ?_, ?_, ?_, ?_, ?_, ?_, ?_, ?_, ?_, ?_, ?_, ?_, ?_, ?_, ?_, ?_, trivial⟩, ?_⟩
     · rintro T_ B_ a_ w_ K_ hT hB hf hsD hk
       exact ob rfl rfl (st_field (o' := 0) hsD (evT hT 2 rfl) rfl hf runUnderlying35 rfl sizeOf3 rfl rfl fun _ _ => hk _ _ _ _ ⟨rfl, rfl⟩)
     · rintro T_ B_ a_ w_ K_ hT hB _ _ ⟨rfl, rfl⟩ h33 - hf hsD hk
       exact ob rfl rfl (st_load1 (o := 0) (off := 0) (v := .int .i64 ((foldW (leftI b) x12 (b.amts.take g)).lo)) hsD (Ev.tmp h33) rfl hf isAgg3 (hsD.cellsM (inB hB 0 rfl)) rfl fun _ _ => hk _ _ _ _ ⟨rfl, rfl⟩)
     · rintro T_ B_ a_ w_ K_ hT hB hf hsD hk
       exact ob rfl rfl (st_loadA (o := 0) (off := 0) (vs := (bxL b A n cp A2 n2 c2)) hsD (evT hT 6 rfl) rfl hf isAgg25 sizeOf25 (hsD.cellsM (inB hB 3 rfl)) rfl fun _ _ => hk _ _ _ _ ⟨rfl, rfl⟩)
     · rintro T_ B_ a_ w_ K_ hT hB hf hsD hk
       exact ob rfl rfl (st_move hsD (evT hT 3 rfl) rfl hf fun _ _ => hk _ _ _ _ ⟨rfl, rfl⟩)
     · rintro T_ B_ a_ w_ K_ hT hB hf hsD hk
       exact ob rfl rfl (st_move hsD (evT hT 1 rfl) rfl hf fun _ _ => hk _ _ _ _ ⟨rfl, rfl⟩)
     · rintro T_ B_ a_ w_ K_ hT hB _ _ ⟨rfl, rfl⟩ h36 - _ _ ⟨rfl, rfl⟩ h37 - hf hsD hk
       exact ob rfl rfl (st_indexM (o' := g * 1) hsD (Ev.tmp h36) (Ev.tmp h37) rfl hf hA22 runUnderlying33 sizeOf3 ⟨by omega, by have := (List.getElem?_eq_some_iff.1 hx21).1; omega⟩ (by simp) fun _ _ => hk _ _ _ _ ⟨rfl, rfl⟩)
     · rintro T_ B_ a_ w_ K_ hT hB _ _ ⟨rfl, rfl⟩ h38 - hf hsD hk
       exact ob rfl rfl (st_load1 (o := (g * 1)) (off := 0) (v := .int .i64 x21) hsD (Ev.tmp h38) rfl hf isAgg3 (hr22.at (hsD.cellsM (by rw [← ho22]; exact hB _ (mem_nth (i := 1) rfl))) hx21) rfl fun _ _ => hk _ _ _ _ ⟨rfl, rfl⟩)
     · rintro T_ B_ a_ w_ K_ hT hB _ _ ⟨rfl, rfl⟩ h35 - _ _ ⟨rfl, rfl⟩ h39 - hf hsD hk
       exact ob rfl rfl (st_callv (vs := [.agg ⟨(bxL b A n cp A2 n2 c2)⟩, .int .i64 x21]) hsD (.func _) ⟨(Ev.tmp h35), (Ev.tmp h39), trivial⟩ rfl hf call70 rfl (rleft_v b A n cp A2 n2 c2 x21 _ (by omega) hd hsh hg) fun _ _ => hk _ _ _ _ ⟨rfl, rfl⟩)
     · rintro T_ B_ a_ w_ K_ hT hB _ _ ⟨rfl, rfl⟩ h34 - _ _ ⟨rfl, rfl⟩ h40 - hf hsD hk
       exact ob rfl rfl (st_min hsD (Ev.tmp h34) (Ev.tmp h40) rfl hf fun _ _ => hk _ _ _ _ ⟨rfl, rfl⟩)
     · rintro T_ B_ a_ w_ K_ hT hB hf hsD hk
       exact ob rfl rfl (st_field (o' := 1) hsD (evT hT 2 rfl) rfl hf runUnderlying35 rfl sizeOf3 rfl rfl fun _ _ => hk _ _ _ _ ⟨rfl, rfl⟩)
     · rintro T_ B_ a_ w_ K_ hT hB _ _ ⟨rfl, rfl⟩ h42 - hf hsD hk
       exact ob rfl rfl (st_load1 (o := 0) (off := 1) (v := .int .i64 ((foldW (leftI b) x12 (b.amts.take g)).hi)) hsD (Ev.tmp h42) rfl hf isAgg3 (hsD.cellsM (inB hB 0 rfl)) rfl fun _ _ => hk _ _ _ _ ⟨rfl, rfl⟩)
     · rintro T_ B_ a_ w_ K_ hT hB hf hsD hk
       exact ob rfl rfl (st_loadA (o := 0) (off := 0) (vs := (bxL b A n cp A2 n2 c2)) hsD (evT hT 6 rfl) rfl hf isAgg25 sizeOf25 (hsD.cellsM (inB hB 3 rfl)) rfl fun _ _ => hk _ _ _ _ ⟨rfl, rfl⟩)
     · rintro T_ B_ a_ w_ K_ hT hB hf hsD hk
       exact ob rfl rfl (st_move hsD (evT hT 3 rfl) rfl hf fun _ _ => hk _ _ _ _ ⟨rfl, rfl⟩)
     · rintro T_ B_ a_ w_ K_ hT hB hf hsD hk
       exact ob rfl rfl (st_move hsD (evT hT 1 rfl) rfl hf fun _ _ => hk _ _ _ _ ⟨rfl, rfl⟩)
     · rintro T_ B_ a_ w_ K_ hT hB _ _ ⟨rfl, rfl⟩ h45 - _ _ ⟨rfl, rfl⟩ h46 - hf hsD hk
       exact ob rfl rfl (st_indexM (o' := g * 1) hsD (Ev.tmp h45) (Ev.tmp h46) rfl hf hA22 runUnderlying33 sizeOf3 ⟨by omega, by have := (List.getElem?_eq_some_iff.1 hx21).1; omega⟩ (by simp) fun _ _ => hk _ _ _ _ ⟨rfl, rfl⟩)
     · rintro T_ B_ a_ w_ K_ hT hB _ _ ⟨rfl, rfl⟩ h47 - hf hsD hk
       exact ob rfl rfl (st_load1 (o := (g * 1)) (off := 0) (v := .int .i64 x21) hsD (Ev.tmp h47) rfl hf isAgg3 (hr22.at (hsD.cellsM (by rw [← ho22]; exact hB _ (mem_nth (i := 1) rfl))) hx21) rfl fun _ _ => hk _ _ _ _ ⟨rfl, rfl⟩)
     · rintro T_ B_ a_ w_ K_ hT hB _ _ ⟨rfl, rfl⟩ h44 - _ _ ⟨rfl, rfl⟩ h48 - hf hsD hk
       exact ob rfl rfl (st_callv (vs := [.agg ⟨(bxL b A n cp A2 n2 c2)⟩, .int .i64 x21]) hsD (.func _) ⟨(Ev.tmp h44), (Ev.tmp h48), trivial⟩ rfl hf call70 rfl (rleft_v b A n cp A2 n2 c2 x21 _ (by omega) hd hsh hg) fun _ _ => hk _ _ _ _ ⟨rfl, rfl⟩)
     · rintro T_ B_ a_ w_ K_ hT hB _ _ ⟨rfl, rfl⟩ h43 - _ _ ⟨rfl, rfl⟩ h49 - hf hsD hk
       exact ob rfl rfl (st_max hsD (Ev.tmp h43) (Ev.tmp h49) rfl hf fun _ _ => hk _ _ _ _ ⟨rfl, rfl⟩)
     rintro _ _ ⟨rfl, rfl⟩ _ _ ⟨rfl, rfl⟩ _ _ ⟨rfl, rfl⟩ _ _ ⟨rfl, rfl⟩ _ _ ⟨rfl, rfl⟩ _ _ ⟨rfl, rfl⟩ _ _ ⟨rfl, rfl⟩ _ _ ⟨rfl, rfl⟩ _ _ ⟨rfl, rfl⟩ _ _ ⟨rfl, rfl⟩ _ _ ⟨rfl, rfl⟩ _ _ ⟨rfl, rfl⟩ _ _ ⟨rfl, rfl⟩ _ _ ⟨rfl, rfl⟩ _ _ ⟨rfl, rfl⟩ _ _ ⟨rfl, rfl⟩ _ _ ⟨rfl, rfl⟩ _ _ ⟨rfl, rfl⟩ a_30 w_30 hs30; clear hs29
     have hs31 := Sx.as (T' := [_, _, _, _, _, _, _, _, _, _, _, _, _, _, _, _, _, _, _, _, _, _, _, _, _]) (B' := [_, _, _, _]) rfl rfl hs30; clear hs30
     refine sq rfl (st_callv (vs := [.int .i64 (min ((foldW (leftI b) x12 (b.amts.take g)).lo) (leftI b x21)), .int .i64 (max ((foldW (leftI b) x12 (b.amts.take g)).hi) (leftI b x21))]) hs31 (.func _) ⟨(Ev.t 8 rfl), (Ev.t 17 rfl), trivial⟩ rfl rfl call23 rfl (S_v (min ((foldW (leftI b) x12 (b.amts.take g)).lo) (leftI b x21)) (max ((foldW (leftI b) x12 (b.amts.take g)).hi) (leftI b x21)) _) fun _ _ hs32 => ?_); clear hs31
     refine sq rfl (st_store (l' := [.int .i64 (min ((foldW (leftI b) x12 (b.amts.take g)).lo) (leftI b x21)), .int .i64 (max ((foldW (leftI b) x12 (b.amts.take g)).hi) (leftI b x21))]) (vs := [.int .i64 (min ((foldW (leftI b) x12 (b.amts.take g)).lo) (leftI b x21)), .int .i64 (max ((foldW (leftI b) x12 (b.amts.take g)).hi) (leftI b x21))]) (i := 0) hs32 (Ev.t 21 rfl) (Ev.t 0 rfl) sizeOf35 rfl rfl rfl rfl rfl rfl fun _ _ hs33 => ?_); clear hs32
     have hs34 := hs33.asB [_, _, _, _] rfl; clear hs33
     refine wpListIn_nil ?_
     have hs35 := hs34.keep [20, 21, 22, 23, 24, 25] [_, _, _, _, _, _] rfl; clear hs34
     refine in_norm ?_
     refine th_norm (hK23 _ _ ?_)
     refine cd_region1 ?_
     refine sq rfl (st_move hs35 (Ev.t 0 rfl) rfl rfl fun _ _ hs36 => ?_); clear hs35
     refine sq rfl (st_add (z := (g : Int) + 1) hs36 (Ev.t 0 rfl) (.const _) rfl rfl rfl (by omega) fun _ _ hs37 => ?_); clear hs36
     have hs38 := hs37.keep [0, 1, 3, 4, 5, 6, 7] [_, _, _, _, _, _, _] rfl; clear hs37
     refine sq rfl (st_assign hs38 (Ev.t 0 rfl) rfl rfl fun _ _ hs39 => ?_); clear hs38
     refine wpListIn_nil ?_
     have hs40 := hs39.keep [0, 3, 4, 5, 6, 7] [_, _, _, _, _, _] rfl; clear hs39
     refine ⟨g + 1, ⟨?_, ?_⟩, by (show b.amts.length - (g + 1) < b.amts.length - g; omega)⟩
     · exact hgi
     have hs41 := hs40.asB [(b15, some (.cells ⟨[.int .i64 ((foldW (leftI b) x12 (b.amts.take (g + 1))).lo), .int .i64 ((foldW (leftI b) x12 (b.amts.take (g + 1))).hi)]⟩ 35 (0, 0))), (b9, o9), (b3, some (.cells ⟨[.int .i64 0, .int .i64 0]⟩ 35 (0, 0))), (b2, some (.cells ⟨(bxL b A n cp A2 n2 c2)⟩ 25 (0, 0)))] (by (rw [hfw]) <;> rfl); clear hs40
     exact Sx.keepE [0, 1, 2, 3, 4, 5] _ ⟨⟨_, rfl, rfl⟩, ⟨_, rfl, rfl⟩, ⟨_, rfl, rfl⟩, ⟨_, rfl, rfl⟩, ⟨_, rfl, rfl⟩, ⟨_, rfl, rfl⟩, trivial⟩ hs41
   · have hge : g = b.amts.length := by simp at hc20; omega
     have hfa : (foldW (leftI b) x12 (b.amts.take g)) = spanOf (b.amts.map (leftI b)) := by rw [hge, List.take_length]; exact foldW_all hx12
     refine cd_exit ?_
     refine th_exit ?_
     refine th_exit ?_
     refine in_hit ?_
     refine th_norm (hK16 _ _ ?_)
     refine cd_region fun K24 hK24 => ?_
     refine sq rfl (st_loadA (o := 0) (off := 0) (vs := [.int .i64 ((foldW (leftI b) x12 (b.amts.take g)).lo), .int .i64 ((foldW (leftI b) x12 (b.amts.take g)).hi)]) hs29 (Ev.t 2 rfl) rfl rfl isAgg35 sizeOf35 (hs29.cells 0 rfl) rfl fun _ _ hs30 => ?_); clear hs29
     refine sq rfl (st_store (l' := [.int .i64 ((foldW (leftI b) x12 (b.amts.take g)).lo), .int .i64 ((foldW (leftI b) x12 (b.amts.take g)).hi)]) (vs := [.int .i64 ((foldW (leftI b) x12 (b.amts.take g)).lo), .int .i64 ((foldW (leftI b) x12 (b.amts.take g)).hi)]) (i := 2) hs30 (Ev.t 6 rfl) (Ev.t 0 rfl) sizeOf35 rfl rfl rfl rfl rfl rfl fun _ _ hs31 => ?_); clear hs30
     have hs32 := hs31.asB [_, _, _, _] rfl; clear hs31
     have hs33 := hs32.keep [0, 1, 2, 3, 4, 6, 7] [_, _, _, _, _, _, _] rfl; clear hs32
     refine sq rfl (st_assign hs33 (.const _) rfl rfl fun _ _ hs34 => ?_); clear hs33
     refine hK24 _ _ ?_; clear hK24
     have hs35 := hs34.keep [0, 6] [_, _] rfl; clear hs34
     refine cd_retv (vs := [.agg ⟨[.int .i64 ((foldW (leftI b) x12 (b.amts.take g)).lo), .int .i64 ((foldW (leftI b) x12 (b.amts.take g)).hi)]⟩, .int .i64 0]) hs35 hQ0 rfl ⟨resA (o := 0) (off := 0) (vs := [.int .i64 ((foldW (leftI b) x12 (b.amts.take g)).lo), .int .i64 ((foldW (leftI b) x12 (b.amts.take g)).hi)]) 1 rfl isAgg35 sizeOf35 (hs35.cells 2 rfl) rfl, .tmp 0 rfl, trivial⟩ ?_
     clear hs35 hQ0 hN0
     first | (simp [pack, between_no2 hne]; done) | (simp only [pack, Bx.betweenR, h0, if_true, hfa]; done)
end Go.Proofs.YtcnndpedeofbmaaDoor
