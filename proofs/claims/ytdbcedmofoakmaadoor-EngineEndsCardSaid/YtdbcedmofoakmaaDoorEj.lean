/- The engine: plan, Plan. -/
import Derived.Test.YtdbcedmofoakmaaDoorEi
set_option maxRecDepth 100000
namespace Go.Proofs.YtdbcedmofoakmaaDoor
open Go Go.Sx Go.Eng Go.Proofs.Tryd
theorem plan1_all (b : Book) (A : Option Addr) (n cp m t1 t2 t3 : Nat) (hn : n ≤ 140737488351232) (hb : Bd b) (W : World) (hP : PartsAt W A n b.parts) (hG : CellsAt W 0 0 stuffsL) : ∀ j i : Nat, i + j = b.parts.length → planOk b A n cp m t1 t2 t3 W i := by
  intro j
  induction j with
  | zero => intro i h; exact plan1_step b A n cp m t1 t2 t3 hn hb W hP hG i (by omega) (fun h' => by omega)
  | succ j ih => intro i h; exact plan1_step b A n cp m t1 t2 t3 hn hb W hP hG i (by omega) (fun _ => ih (i + 1) (by omega))

/-- What 'plan' hands back. -/
def planRet (res : Option (List Walks × Int)) (v : Value) (bs : List (Nat × Option Obj)) : Prop :=
  (res = none ∧ v = .agg ⟨[.slice none 0 0, .int .i64 (-1)]⟩ ∧ bs = []) ∨
  ∃ pl kk A c bb o, res = some (pl, kk) ∧ v = .agg ⟨[.slice A pl.length c, .int .i64 kk]⟩ ∧ Sx.Own walksL 2 64 A c pl bb o ∧ bs = [(bb, o)] ∧ 0 ≤ kk ∧ pl ≠ []

theorem plan_b (b : Book) (A : Option Addr) (n cp : Nat) (w : World) (hP : PartsAt w A n b.parts) (hn : n ≤ 140737488351232) (hG : CellsAt w 0 0 stuffsL) (hb : Bd b) (hne : 0 < b.parts.length) :
    CallsB Tryd.prog 61 [.agg ⟨bookL b A n cp⟩] w (planRet (b.best b.parts b.coal.lo b.water.lo)) := by
 refine enter (N := 13) (M := []) w func61 rfl rfl rfl (fun Q0 a_0 hQ0 hN0 hs0 => ?_)
 refine cd_region fun K1 hK1 => ?_
 refine sq rfl (st_box hs0 (Ev.t 0 rfl) rfl rfl rfl fun b2 _ _ hs1 => ?_); clear hs0
 refine sq rfl (st_alloc hs1 rfl rfl zeroValue89 rfl fun b3 _ _ hs2 => ?_); clear hs1
 refine hK1 _ _ ?_; clear hK1
 have hs3 := hs2.keep [0, 1] [_, _] rfl; clear hs2
 refine cd_region fun K4 hK4 => ?_
 refine sq rfl (st_makeMap hs3 rfl rfl (fun b5 a_4 w_4 hs4 => ?_)); clear hs3
 have hs5 : Sx 13 [] [(5, .map (some b5)), (2, .pointer (some ⟨b3, 0, none⟩)), (1, .pointer (some ⟨b2, 0, none⟩))] [(b5, some (.map #[] 0)), (b3, some (.cells ⟨[.slice none 0 0, .int .i64 0]⟩ 89 (0, 0))), (b2, some (.cells ⟨(bookL b A n cp)⟩ 75 (0, 0)))] [] w _ _ := hs4; clear hs4
 refine sq rfl (st_alloc hs5 rfl rfl zeroValue113 rfl fun b6 _ _ hs6 => ?_); clear hs5
 refine sq rfl (st_store (l' := [.map (some b5)]) (vs := [.map (some b5)]) (i := 0) hs6 (Ev.t 0 rfl) (Ev.t 1 rfl) sizeOf113 rfl rfl rfl rfl rfl rfl fun _ _ hs7 => ?_); clear hs6
 have hs8 := hs7.asB [_, _, _, _] rfl; clear hs7
 refine hK4 _ _ ?_; clear hK4
 have hs9 := hs8.keep [0, 2, 3] [_, _, _] rfl; clear hs8
 refine cd_region fun K7 hK7 => ?_
 refine sq rfl (st_alloc hs9 rfl rfl zeroValue114 rfl fun b8 _ _ hs10 => ?_); clear hs9
 refine hK7 _ _ ?_; clear hK7
 refine cd_region fun K9 hK9 => ?_
 refine sq rfl (st_makeFunc (us := []) (vs := [.pointer (some ⟨b2, 0, none⟩), .pointer (some ⟨b6, 0, none⟩), .pointer (some ⟨b8, 0, none⟩)]) hs10 trivial ⟨(Ev.t 3 rfl), (Ev.t 1 rfl), (Ev.t 0 rfl), trivial⟩ rfl rfl fun _ _ hs11 => ?_); clear hs10
 refine sq rfl (st_store (l' := [.func (.func 78) ⟨[]⟩ ⟨[.pointer (some ⟨b2, 0, none⟩), .pointer (some ⟨b6, 0, none⟩), .pointer (some ⟨b8, 0, none⟩)]⟩]) (vs := [.func (.func 78) ⟨[]⟩ ⟨[.pointer (some ⟨b2, 0, none⟩), .pointer (some ⟨b6, 0, none⟩), .pointer (some ⟨b8, 0, none⟩)]⟩]) (i := 0) hs11 (Ev.t 1 rfl) (Ev.t 0 rfl) sizeOf114 rfl rfl rfl rfl rfl rfl fun _ _ hs12 => ?_); clear hs11
 have hs13 := hs12.asB [_, _, _, _, _] rfl; clear hs12
 refine hK9 _ _ ?_; clear hK9
 have hs14 := hs13.keep [1, 3, 4] [_, _, _] rfl; clear hs13
 refine cd_drawn mixed hs14 [⟨7, [], Is (.func (.func 78) ⟨[]⟩ ⟨[.pointer (some ⟨b2, 0, none⟩), .pointer (some ⟨b6, 0, none⟩), .pointer (some ⟨b8, 0, none⟩)]⟩)⟩, ⟨8, [], Is (.agg ⟨(bookL b A n cp)⟩)⟩, ⟨9, [], Is (.agg ⟨[.func (.func 81) ⟨[]⟩ ⟨[]⟩]⟩)⟩, ⟨10, [1, 2], Is (.agg ⟨[.int .i64 b.coal.lo, .int .i64 b.water.lo]⟩)⟩, ⟨11, [3], Is (.agg ⟨[.int .i64 0, .int .i64 b.coal.lo, .int .i64 b.water.lo]⟩)⟩] (by kernel_rfl) (by kernel_rfl) fun K10 hK10 => ⟨⟨?_, ?_, ?_, ?_, ?_, trivial⟩, ?_⟩
 · rintro T_ B_ a_ w_ K_ hT hB hf hsD hk
   exact ob rfl rfl (st_load1 (o := 0) (off := 0) (v := .func (.func 78) ⟨[]⟩ ⟨[.pointer (some ⟨b2, 0, none⟩), .pointer (some ⟨b6, 0, none⟩), .pointer (some ⟨b8, 0, none⟩)]⟩) hsD (evT hT 0 rfl) rfl hf isAgg114 (hsD.cellsM (inB hB 0 rfl)) rfl fun _ _ => hk _ _ _ _ ⟨rfl, rfl⟩)
 · rintro T_ B_ a_ w_ K_ hT hB hf hsD hk
   exact ob rfl rfl (st_loadA (o := 0) (off := 0) (vs := (bookL b A n cp)) hsD (evT hT 2 rfl) rfl hf isAgg75 sizeOf75 (hsD.cellsM (inB hB 4 rfl)) rfl fun _ _ => hk _ _ _ _ ⟨rfl, rfl⟩)
 · rintro T_ B_ a_ w_ K_ hT hB hf hsD hk
   exact ob rfl rfl (st_callv (vs := []) hsD (.func _) trivial rfl hf call72 rfl (low_v  _) fun _ _ => hk _ _ _ _ ⟨rfl, rfl⟩)
 · rintro T_ B_ a_ w_ K_ hT hB _ _ ⟨rfl, rfl⟩ h8 - _ _ ⟨rfl, rfl⟩ h9 - hf hsD hk
   exact ob rfl rfl (st_callv (vs := [.agg ⟨(bookL b A n cp)⟩, .agg ⟨[.func (.func 81) ⟨[]⟩ ⟨[]⟩]⟩]) hsD (.func _) ⟨(Ev.tmp h8), (Ev.tmp h9), trivial⟩ rfl hf call71 rfl (at0_v b A n cp _) fun _ _ => hk _ _ _ _ ⟨rfl, rfl⟩)
 · rintro T_ B_ a_ w_ K_ hT hB _ _ ⟨rfl, rfl⟩ h10 - hf hsD hk
   exact ob rfl rfl (st_build hsD (qs := [(0, .int .i64 0), (1, .agg ⟨[.int .i64 b.coal.lo, .int .i64 b.water.lo]⟩)]) (v := .agg ⟨[.int .i64 0, .int .i64 b.coal.lo, .int .i64 b.water.lo]⟩) ⟨(.const _), (Ev.tmp h10), trivial⟩ rfl hf rfl (fun _ => by kernel_rfl) fun _ _ => hk _ _ _ _ ⟨rfl, rfl⟩)
 rintro _ _ ⟨rfl, rfl⟩ _ _ ⟨rfl, rfl⟩ _ _ ⟨rfl, rfl⟩ _ _ ⟨rfl, rfl⟩ _ _ ⟨rfl, rfl⟩ a_15 w_15 hs15; clear hs14
 have hs16 := Sx.as (T' := [_, _, _, _, _, _, _, _]) (B' := [_, _, _, _, _]) rfl rfl hs15; clear hs15
 have hp11 := Sx.front hs16 0 rfl; clear hs16
 have hp12 := Sx.front hp11 1 rfl; clear hp11
 have hp13 := Sx.front hp12 4 rfl; clear hp12
 have hp14 := Sx.front hp13 3 rfl; clear hp13
 have hp15 := Sx.front hp14 4 rfl; clear hp14
 have hs17 : Sx 13 [] [(7, .func (.func 78) ⟨[]⟩ ⟨[.pointer (some ⟨b2, 0, none⟩), .pointer (some ⟨b6, 0, none⟩), .pointer (some ⟨b8, 0, none⟩)]⟩), (8, .agg ⟨(bookL b A n cp)⟩), (9, .agg ⟨[.func (.func 81) ⟨[]⟩ ⟨[]⟩]⟩), (10, .agg ⟨[.int .i64 b.coal.lo, .int .i64 b.water.lo]⟩), (11, .agg ⟨[.int .i64 0, .int .i64 b.coal.lo, .int .i64 b.water.lo]⟩), (4, .pointer (some ⟨b8, 0, none⟩)), (2, .pointer (some ⟨b3, 0, none⟩)), (1, .pointer (some ⟨b2, 0, none⟩))] [(b3, some (.cells ⟨[.slice none 0 0, .int .i64 0]⟩ 89 (0, 0))), (b5, some (.map #[] 0)), (b2, some (.cells ⟨(bookL b A n cp)⟩ 75 (0, 0))), (b6, some (.cells ⟨[.map (some b5)]⟩ 113 (0, 0))), (b8, some (.cells ⟨[.func (.func 78) ⟨[]⟩ ⟨[.pointer (some ⟨b2, 0, none⟩), .pointer (some ⟨b6, 0, none⟩), .pointer (some ⟨b8, 0, none⟩)]⟩]⟩ 114 (0, 0)))] [] w _ _ := hp15; clear hp15
 have hloC : ∀ p ∈ planC b A n cp b5 b2 b6 b8 #[] 0 [], w.heap.size ≤ p.1 := by
   have h0 := (hs17.blk _ (mem_nth (i := 1) rfl) _ rfl).1.resolve_left (by simp)
   have h1 := (hs17.blk _ (mem_nth (i := 2) rfl) _ rfl).1.resolve_left (by simp)
   have h2 := (hs17.blk _ (mem_nth (i := 3) rfl) _ rfl).1.resolve_left (by simp)
   have h3 := (hs17.blk _ (mem_nth (i := 4) rfl) _ rfl).1.resolve_left (by simp)
   intro p hp; simp only [planC, List.mem_cons, List.not_mem_nil, or_false] at hp; rcases hp with rfl | rfl | rfl | rfl; exact h0; exact h1; exact h2; exact h3
 have hcb := hb.coal; have hvb := hb.water
 refine sq rfl (st_callG (B1 := [(b3, some (.cells ⟨[.slice none 0 0, .int .i64 0]⟩ 89 (0, 0)))]) (C := planC b A n cp b5 b2 b6 b8 #[] 0 []) (vs := [.agg ⟨[.int .i64 0, .int .i64 b.coal.lo, .int .i64 b.water.lo]⟩]) hs17 (Ev.t 0 rfl) ⟨(Ev.t 4 rfl), trivial⟩ rfl rfl call78 rfl (planC_some (fun p hp => by cases hp)) (plan1_all b A n cp b5 b2 b6 b8 hn hb w hP hG b.parts.length 0 (by omega) b.coal.lo b.water.lo #[] 0 [] _ (by simp; omega) hs17.kp hloC (fun p hp => by cases hp) (fun e he => by cases he)) (fun v_ B_ a_18 w_18 hp9 hso9 hs18 => ?_)); clear hs17
 obtain ⟨es2, clk2, G2, rfl, hsub2, hGs2, hGlo2, hE2, A9, n9, c9, t9, rfl, hB9⟩ := hp9
 have hs19 : Sx 13 [] [(12, .agg ⟨[.slice A9 n9 c9, .int .i64 t9]⟩), (7, .func (.func 78) ⟨[]⟩ ⟨[.pointer (some ⟨b2, 0, none⟩), .pointer (some ⟨b6, 0, none⟩), .pointer (some ⟨b8, 0, none⟩)]⟩), (8, .agg ⟨(bookL b A n cp)⟩), (9, .agg ⟨[.func (.func 81) ⟨[]⟩ ⟨[]⟩]⟩), (10, .agg ⟨[.int .i64 b.coal.lo, .int .i64 b.water.lo]⟩), (11, .agg ⟨[.int .i64 0, .int .i64 b.coal.lo, .int .i64 b.water.lo]⟩), (4, .pointer (some ⟨b8, 0, none⟩)), (2, .pointer (some ⟨b3, 0, none⟩)), (1, .pointer (some ⟨b2, 0, none⟩))] ((b3, some (.cells ⟨[.slice none 0 0, .int .i64 0]⟩ 89 (0, 0))) :: (b5, some (.map es2 clk2)) :: (b2, some (.cells ⟨(bookL b A n cp)⟩ 75 (0, 0))) :: (b6, some (.cells ⟨[.map (some b5)]⟩ 113 (0, 0))) :: (b8, some (.cells ⟨[.func (.func 78) ⟨[]⟩ ⟨[.pointer (some ⟨b2, 0, none⟩), .pointer (some ⟨b6, 0, none⟩), .pointer (some ⟨b8, 0, none⟩)]⟩]⟩ 114 (0, 0))) :: G2) [] w _ _ := hs18; clear hs18
 refine sq rfl (st_store (l' := [.slice A9 n9 c9, .int .i64 t9]) (vs := [.slice A9 n9 c9, .int .i64 t9]) (i := 0) hs19 (Ev.t 7 rfl) (Ev.t 0 rfl) sizeOf89 rfl rfl rfl rfl rfl rfl fun _ _ hs20 => ?_); clear hs19
 have hs21 := hs20.asB (_ :: _ :: _ :: _ :: _ :: _) rfl; clear hs20
 refine hK10 _ _ ?_; clear hK10
 have hs22 := hs21.keep [7] [_] rfl; clear hs21
 rw [List.drop_zero] at hB9
 cases hbst : b.best b.parts b.coal.lo b.water.lo with
 | none => rw [hbst] at hB9; obtain ⟨e1, e2, e3, e4⟩ := hB9; exact cd_ret (vs := [.agg ⟨[.slice A9 n9 c9, .int .i64 t9]⟩]) (bs := []) hs22 hQ0 rfl ⟨resA (o := 0) (off := 0) (vs := [.slice A9 n9 c9, .int .i64 t9]) 0 rfl isAgg89 sizeOf89 (hs22.cells 0 rfl) rfl, trivial⟩ (List.nil_sublist _) (.inl ⟨hbst, by rw [e1, e2, e3, e4]; rfl, rfl⟩)
 | some q =>
   obtain ⟨pl, kk⟩ := q
   rw [hbst] at hB9; obtain ⟨e1, e2, hk0, hk1, bb, oo, hown, hin⟩ := hB9
   have hpl : pl ≠ [] := fun e => by have := best_len _ _ _ _ _ hbst; rw [e, List.length_nil] at this; omega
   exact cd_ret (vs := [.agg ⟨[.slice A9 n9 c9, .int .i64 t9]⟩]) (bs := [(bb, oo)]) hs22 hQ0 rfl ⟨resA (o := 0) (off := 0) (vs := [.slice A9 n9 c9, .int .i64 t9]) 0 rfl isAgg89 sizeOf89 (hs22.cells 0 rfl) rfl, trivial⟩ (.cons _ (.cons _ (.cons _ (.cons _ (.cons _ (List.singleton_sublist.2 (hin hpl).1)))))) (.inr ⟨pl, kk, A9, c9, bb, oo, hbst, by rw [e1, e2]; rfl, hown, rfl, hk0, hpl⟩)

theorem Plan_b (b : Book) (A : Option Addr) (n cp : Nat) (w : World) (hP : PartsAt w A n b.parts) (hn : n ≤ 140737488351232) (hG : CellsAt w 0 0 stuffsL) :
    CallsB Tryd.prog 23 [.agg ⟨bookL b A n cp⟩] w (plansV b.planR) := by
 refine enter (N := 26) (M := []) w func23 rfl rfl rfl (fun Q0 a_0 hQ0 hN0 hs0 => ?_)
 refine cd_region fun K1 hK1 => ?_
 refine sq rfl (st_box hs0 (Ev.t 0 rfl) rfl rfl rfl fun b2 _ _ hs1 => ?_); clear hs0
 refine sq rfl (st_assign hs1 (.const _) rfl rfl fun _ _ hs2 => ?_); clear hs1
 refine sq rfl (st_assign hs2 (.const _) rfl rfl fun _ _ hs3 => ?_); clear hs2
 refine hK1 _ _ ?_; clear hK1
 have hs4 := hs3.keep [0, 1, 2] [_, _, _] rfl; clear hs3
 refine cd_seq fun K3 hK3 => ?_
 refine cd_region fun K4 hK4 => ?_
 refine sq rfl (st_loadA (o := 0) (off := 0) (vs := (bookL b A n cp)) hs4 (Ev.t 2 rfl) rfl rfl isAgg27 sizeOf27 (hs4.cells 0 rfl) rfl fun _ _ hs5 => ?_); clear hs4
 refine sq rfl (st_callv (vs := [.agg ⟨(bookL b A n cp)⟩]) hs5 (.func _) ⟨(Ev.t 0 rfl), trivial⟩ rfl rfl call16 rfl (check_v b A n cp _ (hP.kp hs5.kp) hn) fun _ _ hs6 => ?_); clear hs5
 refine sq rfl (st_assign hs6 (Ev.t 0 rfl) rfl rfl fun _ _ hs7 => ?_); clear hs6
 refine hK4 _ _ ?_; clear hK4
 have hs8 := hs7.keep [0, 3, 4, 5] [_, _, _, _] rfl; clear hs7
 refine cd_region fun K5 hK5 => ?_
 refine sq rfl (st_move hs8 (Ev.t 0 rfl) rfl rfl fun _ _ hs9 => ?_); clear hs8
 refine sq rfl (st_cmp (c := (if b.ok then 0 else 40 : Int) != 0) hs9 (Ev.t 0 rfl) (.const _) rfl rfl rfl rfl fun _ _ hs10 => ?_); clear hs9
 refine hK5 _ _ ?_; clear hK5
 have hs11 := hs10.keep [0, 2, 3, 4, 5] [_, _, _, _, _] rfl; clear hs10
 refine cd_cond hs11 (Ev.t 0 rfl) (fun hc6 => ?_) (fun hc6 => ?_)
 · have hok : b.ok = false := by cases h : b.ok <;> simp [h] at hc6 ⊢
   refine cd_region fun K7 hK7 => ?_
   refine sq rfl (st_move hs11 (Ev.t 1 rfl) rfl rfl fun _ _ hs12 => ?_); clear hs11
   have hs13 := hs12.keep [0, 1, 2, 3, 5] [_, _, _, _, _] rfl; clear hs12
   refine sq rfl (st_assign hs13 (.const _) rfl rfl fun _ _ hs14 => ?_); clear hs13
   have hs15 := hs14.keep [0, 1, 2, 3, 5] [_, _, _, _, _] rfl; clear hs14
   refine sq rfl (st_assign hs15 (Ev.t 1 rfl) rfl rfl fun _ _ hs16 => ?_); clear hs15
   refine hK7 _ _ ?_; clear hK7
   have hs17 := hs16.keep [0, 1] [_, _] rfl; clear hs16
   have hR : b.planR = (none, 40) := by simp [Book.planR, hok]
   skip
   refine cd_ret (vs := [.slice none 0 0, .int .i64 (if b.ok then 0 else 40)]) (bs := []) hs17 (fun a_ w_ h => th_ret (hQ0 a_ w_ h)) rfl ⟨.tmp 1 rfl, .tmp 0 rfl, trivial⟩ (List.nil_sublist _) ?_
   rw [hR]
   first | exact ⟨rfl, rfl⟩ | (simp [pack, plansV, hok])
 · have hok : b.ok = true := by cases h : b.ok <;> simp [h] at hc6 ⊢
   have hb := ok_bd hok
   refine cd_skip ?_
   refine th_norm (hK3 _ _ ?_)
   refine cd_region fun K8 hK8 => ?_
   refine sq rfl (st_loadA (o := 0) (off := 0) (vs := (bookL b A n cp)) hs11 (Ev.t 4 rfl) rfl rfl isAgg27 sizeOf27 (hs11.cells 0 rfl) rfl fun _ _ hs12 => ?_); clear hs11
   refine sq rfl (st_build hs12 (qs := [(0, .agg ⟨(bookL b A n cp)⟩)]) (v := .agg ⟨(bookL b A n cp)⟩) ⟨(Ev.t 0 rfl), trivial⟩ rfl rfl rfl (fun _ => by kernel_rfl) fun _ _ hs13 => ?_); clear hs12
   refine sq rfl (st_call (vs := [.agg ⟨(bookL b A n cp)⟩]) hs13 (.func _) ⟨(Ev.t 0 rfl), trivial⟩ rfl rfl call61 rfl (plan_b b A n cp _ (hP.kp hs13.kp) hn (hG.kp hs13.kp (by simp)) hb (ok_ne hok)) (fun v_ bs_ a_14 w_14 hp9 hs14 => ?_)); clear hs13
   rcases hp9 with ⟨hres, rfl, rfl⟩ | ⟨pl, kk, A9, c9, bb, oo, hres, rfl, hown9, rfl, hk9, hpl9⟩
   · skip
     have hs15 : Sx 26 [] [(13, .agg ⟨[.slice none 0 0, .int .i64 (-1)]⟩), (12, .agg ⟨(bookL b A n cp)⟩), (11, .agg ⟨(bookL b A n cp)⟩), (9, .bool ((if b.ok then 0 else 40 : Int) != 0)), (4, .int .i64 (if b.ok then 0 else 40)), (3, .int .i64 0), (2, .slice none 0 0), (1, .pointer (some ⟨b2, 0, none⟩))] [(b2, some (.cells ⟨(bookL b A n cp)⟩ 27 (0, 0)))] [] w _ _ := hs14; clear hs14
     refine sq rfl (st_alloc hs15 rfl rfl zeroValue89 rfl fun b9 _ _ hs16 => ?_); clear hs15
     refine sq rfl (st_store (l' := [.slice none 0 0, .int .i64 (-1)]) (vs := [.slice none 0 0, .int .i64 (-1)]) (i := 0) hs16 (Ev.t 0 rfl) (Ev.t 1 rfl) sizeOf89 rfl rfl rfl rfl rfl rfl fun _ _ hs17 => ?_); clear hs16
     have hs18 := hs17.asB [_, _] rfl; clear hs17
     refine hK8 _ _ ?_; clear hK8
     have hs19 := hs18.keep [0, 6, 7] [_, _, _] rfl; clear hs18
     refine cd_seq fun K10 hK10 => ?_
     refine cd_region fun K11 hK11 => ?_
     refine sq rfl (st_field (o' := 1) hs19 (Ev.t 0 rfl) rfl rfl runUnderlying89 rfl sizeOf3 rfl rfl fun _ _ hs20 => ?_); clear hs19
     refine sq rfl (st_load1 (o := 0) (off := 1) (v := .int .i64 (-1)) hs20 (Ev.t 0 rfl) rfl rfl isAgg3 (hs20.cells 0 rfl) rfl fun _ _ hs21 => ?_); clear hs20
     refine sq rfl (st_cmp (c := (-1 : Int) == (-1)) hs21 (Ev.t 0 rfl) (.const _) rfl rfl rfl rfl fun _ _ hs22 => ?_); clear hs21
     refine hK11 _ _ ?_; clear hK11
     have hs23 := hs22.keep [0, 3, 4, 5] [_, _, _, _] rfl; clear hs22
     have hc12 : ((-1 : Int) == (-1)) = true := rfl
     refine cd_cond hs23 (Ev.t 0 rfl) (fun _ => ?_) (fun h => absurd (hc12.symm.trans h) (by decide))
     refine cd_region fun K13 hK13 => ?_
     have hs24 := hs23.keep [0, 1, 2] [_, _, _] rfl; clear hs23
     refine sq rfl (st_assign hs24 (.const _) rfl rfl fun _ _ hs25 => ?_); clear hs24
     have hs26 := hs25.keep [0, 1, 2] [_, _, _] rfl; clear hs25
     refine sq rfl (st_assign hs26 (.const _) rfl rfl fun _ _ hs27 => ?_); clear hs26
     refine hK13 _ _ ?_; clear hK13
     have hs28 := hs27.keep [0, 1] [_, _] rfl; clear hs27
     have hR : b.planR = (none, 4) := by simp [Book.planR, hok, hres]
     skip
     refine cd_ret (vs := [.slice none 0 0, .int .i64 4]) (bs := []) hs28 (fun a_ w_ h => th_ret (hQ0 a_ w_ h)) rfl ⟨.tmp 1 rfl, .tmp 0 rfl, trivial⟩ (List.nil_sublist _) ?_
     rw [hR]
     first | exact ⟨rfl, rfl⟩ | (simp [pack, plansV, hok])
   · skip
     have hs15 : Sx 26 [] [(13, .agg ⟨[.slice A9 pl.length c9, .int .i64 kk]⟩), (12, .agg ⟨(bookL b A n cp)⟩), (11, .agg ⟨(bookL b A n cp)⟩), (9, .bool ((if b.ok then 0 else 40 : Int) != 0)), (4, .int .i64 (if b.ok then 0 else 40)), (3, .int .i64 0), (2, .slice none 0 0), (1, .pointer (some ⟨b2, 0, none⟩))] [(bb, oo), (b2, some (.cells ⟨(bookL b A n cp)⟩ 27 (0, 0)))] [] w _ _ := hs14; clear hs14
     refine sq rfl (st_alloc hs15 rfl rfl zeroValue89 rfl fun b14 _ _ hs16 => ?_); clear hs15
     refine sq rfl (st_store (l' := [.slice A9 pl.length c9, .int .i64 kk]) (vs := [.slice A9 pl.length c9, .int .i64 kk]) (i := 0) hs16 (Ev.t 0 rfl) (Ev.t 1 rfl) sizeOf89 rfl rfl rfl rfl rfl rfl fun _ _ hs17 => ?_); clear hs16
     have hs18 := hs17.asB [_, _, _] rfl; clear hs17
     refine hK8 _ _ ?_; clear hK8
     have hs19 := hs18.keep [0, 6, 7] [_, _, _] rfl; clear hs18
     refine cd_seq fun K15 hK15 => ?_
     refine cd_region fun K16 hK16 => ?_
     refine sq rfl (st_field (o' := 1) hs19 (Ev.t 0 rfl) rfl rfl runUnderlying89 rfl sizeOf3 rfl rfl fun _ _ hs20 => ?_); clear hs19
     refine sq rfl (st_load1 (o := 0) (off := 1) (v := .int .i64 kk) hs20 (Ev.t 0 rfl) rfl rfl isAgg3 (hs20.cells 0 rfl) rfl fun _ _ hs21 => ?_); clear hs20
     refine sq rfl (st_cmp (c := (kk : Int) == (-1)) hs21 (Ev.t 0 rfl) (.const _) rfl rfl rfl rfl fun _ _ hs22 => ?_); clear hs21
     refine hK16 _ _ ?_; clear hK16
     have hs23 := hs22.keep [0, 3, 4, 5] [_, _, _, _] rfl; clear hs22
     have hc17 : ((kk : Int) == (-1)) = false := by simp; omega
     refine cd_cond hs23 (Ev.t 0 rfl) (fun h => absurd (hc17.symm.trans h) (by decide)) (fun _ => ?_)
     refine cd_skip ?_
     refine th_norm (hK15 _ _ ?_)
     refine cd_region fun K18 hK18 => ?_
     refine sq rfl (st_field (o' := 0) hs23 (Ev.t 1 rfl) rfl rfl runUnderlying89 rfl sizeOf28 rfl rfl fun _ _ hs24 => ?_); clear hs23
     refine sq rfl (st_load1 (o := 0) (off := 0) (v := .slice A9 pl.length c9) hs24 (Ev.t 0 rfl) rfl rfl isAgg28 (hs24.cells 0 rfl) rfl fun _ _ hs25 => ?_); clear hs24
     refine sq rfl (st_field (o' := 0) hs25 (Ev.t 3 rfl) rfl rfl runUnderlying89 rfl sizeOf28 rfl rfl fun _ _ hs26 => ?_); clear hs25
     refine sq rfl (st_load1 (o := 0) (off := 0) (v := .slice A9 pl.length c9) hs26 (Ev.t 0 rfl) rfl rfl isAgg28 (hs26.cells 0 rfl) rfl fun _ _ hs27 => ?_); clear hs26
     refine sq rfl (st_len hs27 (Ev.t 0 rfl) rfl rfl runUnderlying28 fun _ _ hs28 => ?_); clear hs27
     refine sq rfl (st_field (o' := 0) hs28 (Ev.t 6 rfl) rfl rfl runUnderlying89 rfl sizeOf28 rfl rfl fun _ _ hs29 => ?_); clear hs28
     refine sq rfl (st_load1 (o := 0) (off := 0) (v := .slice A9 pl.length c9) hs29 (Ev.t 0 rfl) rfl rfl isAgg28 (hs29.cells 0 rfl) rfl fun _ _ hs30 => ?_); clear hs29
     refine sq rfl (st_len hs30 (Ev.t 0 rfl) rfl rfl runUnderlying28 fun _ _ hs31 => ?_); clear hs30
     refine sq rfl (st_slice3 (h := pl.length) hs31 (Ev.t 6 rfl) (Ev.t 3 rfl) (Ev.t 0 rfl) rfl rfl runUnderlying28 sizeOf64 (by rcases hown9 with ⟨h, _⟩ | ⟨_, h, _⟩; exact absurd h hpl9; exact h) (fun A8 a_32 w_32 hA8 hs32 => ?_)); clear hs31
     have hs33 : Sx 26 [] [(25, .slice A8 pl.length pl.length), (24, .int .i64 (pl.length : Int)), (23, .slice A9 pl.length c9), (22, .pointer (some ⟨b14, 0, none⟩)), (21, .int .i64 (pl.length : Int)), (20, .slice A9 pl.length c9), (19, .pointer (some ⟨b14, 0, none⟩)), (18, .slice A9 pl.length c9), (17, .pointer (some ⟨b14, 0, none⟩)), (16, .bool ((kk : Int) == (-1))), (5, .pointer (some ⟨b14, 0, none⟩)), (3, .int .i64 0), (2, .slice none 0 0)] [(b14, some (.cells ⟨[.slice A9 pl.length c9, .int .i64 kk]⟩ 89 (0, 0))), (bb, oo), (b2, some (.cells ⟨(bookL b A n cp)⟩ 27 (0, 0)))] [] w _ _ := hs32; clear hs32
     have hs34 := hs33.keep [0, 1, 2, 3, 4, 5, 6, 7, 8, 9, 10, 11] [_, _, _, _, _, _, _, _, _, _, _, _] rfl; clear hs33
     refine sq rfl (st_assign hs34 (Ev.t 0 rfl) rfl rfl fun _ _ hs35 => ?_); clear hs34
     have hs36 := hs35.keep [0, 1, 2, 3, 4, 5, 6, 7, 8, 9, 10, 11] [_, _, _, _, _, _, _, _, _, _, _, _] rfl; clear hs35
     refine sq rfl (st_assign hs36 (.const _) rfl rfl fun _ _ hs37 => ?_); clear hs36
     refine hK18 _ _ ?_; clear hK18
     have hs38 := hs37.keep [0, 1] [_, _] rfl; clear hs37
     have hR : b.planR = (some pl, 0) := by simp [Book.planR, hok, hres]
     have hown8 : Sx.Own walksL 2 64 A8 pl.length pl bb oo := by
       rcases hown9 with ⟨h, _⟩ | ⟨h1, h2, l, h3, h4, h5⟩
       · exact absurd h hpl9
       · exact .inr ⟨by rw [hA8 (List.length_pos_iff.2 hpl9)]; exact h1, Nat.le_refl _, l, h3, h4, Nat.le_trans (Nat.mul_le_mul_right _ h2) h5⟩
     exact cd_ret (vs := [.slice A8 pl.length pl.length, .int .i64 0]) (bs := [(bb, oo)]) hs38 hQ0 rfl ⟨.tmp 1 rfl, .tmp 0 rfl, trivial⟩ (.cons _ (.cons_cons _ (List.nil_sublist _))) (by rw [hR]; exact ⟨A8, pl.length, bb, oo, rfl, hown8, rfl⟩)
end Go.Proofs.YtdbcedmofoakmaaDoor
