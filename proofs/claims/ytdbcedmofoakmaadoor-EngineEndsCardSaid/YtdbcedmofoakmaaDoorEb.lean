/- The engine: what a part leaves, whether it may fail, plans. -/
import Derived.Test.YtdbcedmofoakmaaDoorEa
set_option maxRecDepth 100000
namespace Go.Proofs.YtdbcedmofoakmaaDoor
open Go Go.Sx Go.Eng Go.Proofs.Tryd
theorem kind_v (b : Book) (A : Option Addr) (n cp : Nat) (k : Nat) (x : Part) (hx : b.parts[k]? = some x) (w : World) (hP : PartsAt w A n b.parts) (_hn : n ≤ 140737488351232) :
    CallsV Tryd.prog 83 [.agg ⟨(bookL b A n cp)⟩, .int .i64 (k : Int)] w (.int .i64 (if x.light then 1 else 0)) := by
 refine enter (N := 12) (M := []) w func83 rfl rfl rfl (fun Q0 a_0 hQ0 hN0 hs0 => ?_)
 refine cd_region fun K1 hK1 => ?_
 refine sq rfl (st_box hs0 (Ev.t 0 rfl) rfl rfl rfl fun b2 _ _ hs1 => ?_); clear hs0
 refine sq rfl (st_assign hs1 (.const _) rfl rfl fun _ _ hs2 => ?_); clear hs1
 refine hK1 _ _ ?_; clear hK1
 have hs3 := hs2.keep [0, 1, 3] [_, _, _] rfl; clear hs2
 refine cd_seq fun K3 hK3 => ?_
 refine cd_region fun K4 hK4 => ?_
 refine sq rfl (st_field (o' := 0) hs3 (Ev.t 1 rfl) rfl rfl runUnderlying75 rfl sizeOf27 rfl rfl fun _ _ hs4 => ?_); clear hs3
 refine sq rfl (st_field (o' := 22) hs4 (Ev.t 0 rfl) rfl rfl runUnderlying27 rfl sizeOf25 rfl rfl fun _ _ hs5 => ?_); clear hs4
 refine sq rfl (st_load1 (o := 0) (off := 22) (v := .slice A n cp) hs5 (Ev.t 0 rfl) rfl rfl isAgg25 (hs5.cells 0 rfl) rfl fun _ _ hs6 => ?_); clear hs5
 refine sq rfl (st_move hs6 (Ev.t 5 rfl) rfl rfl fun _ _ hs7 => ?_); clear hs6
 obtain ⟨b5, o5, hA5, -, hc5⟩ := hP.el k x hx
 refine sq rfl (st_indexM (o' := o5 + k * 4) hs7 (Ev.t 1 rfl) (Ev.t 0 rfl) rfl rfl hA5 runUnderlying25 sizeOf66 ⟨by omega, by have := hP.len; have := (List.getElem?_eq_some_iff.1 hx).1; omega⟩ rfl fun _ _ hs8 => ?_); clear hs7
 refine sq rfl (st_field (o' := o5 + k * 4 + 2) hs8 (Ev.t 0 rfl) rfl rfl runUnderlying66 rfl sizeOf4 rfl rfl fun _ _ hs9 => ?_); clear hs8
 refine sq rfl (st_load1 (o := o5 + k * 4) (off := 2) (v := .bool x.light) hs9 (Ev.t 0 rfl) rfl rfl isAgg4 (hs9.old hc5 (by simp)) rfl fun _ _ hs10 => ?_); clear hs9
 refine hK4 _ _ ?_; clear hK4
 have hs11 := hs10.keep [0, 7] [_, _] rfl; clear hs10
 refine cd_cond hs11 (Ev.t 0 rfl) (fun hc6 => ?_) (fun hc6 => ?_)
 · refine cd_region fun K7 hK7 => ?_
   have hs12 := hs11.keep [0] [_] rfl; clear hs11
   refine sq rfl (st_assign hs12 (.const _) rfl rfl fun _ _ hs13 => ?_); clear hs12
   refine hK7 _ _ ?_; clear hK7
   have hs14 := hs13.keep [0] [_] rfl; clear hs13
   refine cd_retv (vs := [.int .i64 1]) hs14 (fun a_ w_ h => th_ret (hQ0 a_ w_ h)) rfl ⟨.tmp 0 rfl, trivial⟩ ?_
   clear hs14 hQ0 hN0 hK3
   simp_all [pack]
 · refine cd_skip ?_
   refine th_norm (hK3 _ _ ?_)
   refine cd_region fun K8 hK8 => ?_
   have hs12 := hs11.keep [0] [_] rfl; clear hs11
   refine sq rfl (st_assign hs12 (.const _) rfl rfl fun _ _ hs13 => ?_); clear hs12
   refine hK8 _ _ ?_; clear hK8
   have hs14 := hs13.keep [0] [_] rfl; clear hs13
   refine cd_retv (vs := [.int .i64 0]) hs14 hQ0 rfl ⟨.tmp 0 rfl, trivial⟩ ?_
   clear hs14 hQ0 hN0
   simp_all [pack]

theorem rkind_v (x : Part) (w : World)  :
    CallsV Tryd.prog 76 [.agg ⟨(partL x)⟩] w (.int .i64 (if x.light then 1 else 0)) := by
 refine enter (N := 5) (M := []) w func76 rfl rfl rfl (fun Q0 a_0 hQ0 hN0 hs0 => ?_)
 refine cd_region fun K1 hK1 => ?_
 refine sq rfl (st_box hs0 (Ev.t 0 rfl) rfl rfl rfl fun b2 _ _ hs1 => ?_); clear hs0
 refine sq rfl (st_assign hs1 (.const _) rfl rfl fun _ _ hs2 => ?_); clear hs1
 refine hK1 _ _ ?_; clear hK1
 have hs3 := hs2.keep [0, 1] [_, _] rfl; clear hs2
 refine cd_seq fun K3 hK3 => ?_
 refine cd_region fun K4 hK4 => ?_
 refine sq rfl (st_field (o' := 2) hs3 (Ev.t 1 rfl) rfl rfl runUnderlying66 rfl sizeOf4 rfl rfl fun _ _ hs4 => ?_); clear hs3
 refine sq rfl (st_load1 (o := 0) (off := 2) (v := .bool x.light) hs4 (Ev.t 0 rfl) rfl rfl isAgg4 (hs4.cells 0 rfl) rfl fun _ _ hs5 => ?_); clear hs4
 refine hK4 _ _ ?_; clear hK4
 have hs6 := hs5.keep [0, 2] [_, _] rfl; clear hs5
 refine cd_cond hs6 (Ev.t 0 rfl) (fun hc5 => ?_) (fun hc5 => ?_)
 · refine cd_region fun K6 hK6 => ?_
   have hs7 := hs6.keep [0] [_] rfl; clear hs6
   refine sq rfl (st_assign hs7 (.const _) rfl rfl fun _ _ hs8 => ?_); clear hs7
   refine hK6 _ _ ?_; clear hK6
   have hs9 := hs8.keep [0] [_] rfl; clear hs8
   refine cd_retv (vs := [.int .i64 1]) hs9 (fun a_ w_ h => th_ret (hQ0 a_ w_ h)) rfl ⟨.tmp 0 rfl, trivial⟩ ?_
   clear hs9 hQ0 hN0 hK3
   simp_all [pack]
 · refine cd_skip ?_
   refine th_norm (hK3 _ _ ?_)
   refine cd_region fun K7 hK7 => ?_
   have hs7 := hs6.keep [0] [_] rfl; clear hs6
   refine sq rfl (st_assign hs7 (.const _) rfl rfl fun _ _ hs8 => ?_); clear hs7
   refine hK7 _ _ ?_; clear hK7
   have hs9 := hs8.keep [0] [_] rfl; clear hs8
   refine cd_retv (vs := [.int .i64 0]) hs9 hQ0 rfl ⟨.tmp 0 rfl, trivial⟩ ?_
   clear hs9 hQ0 hN0
   simp_all [pack]

theorem least_v (f y : Int) (bb oo : Nat) (w : World) (hC : CellsAt w bb oo [.int .i64 y]) :
    CallsV Tryd.prog 84 [.int .i64 f, .slice (some ⟨bb, oo, none⟩) 1 1] w (.int .i64 (min f y)) := by
 refine enter (N := 18) (M := []) w func84 rfl rfl rfl (fun Q0 a_0 hQ0 hN0 hs0 => ?_)
 refine cd_region fun K1 hK1 => ?_
 refine sq rfl (st_assign hs0 (.const _) rfl rfl fun _ _ hs1 => ?_); clear hs0
 refine hK1 _ _ ?_; clear hK1
 refine cd_seq fun K2 hK2 => ?_
 refine cd_region fun K3 hK3 => ?_
 refine sq rfl (st_move hs1 (Ev.t 2 rfl) rfl rfl fun _ _ hs2 => ?_); clear hs1
 refine sq rfl (st_len hs2 (Ev.t 0 rfl) rfl rfl runUnderlying47 fun _ _ hs3 => ?_); clear hs2
 refine sq rfl (st_move hs3 (.const _) rfl rfl fun _ _ hs4 => ?_); clear hs3
 refine hK3 _ _ ?_; clear hK3
 have hs5 := hs4.keep [0, 1, 2, 3, 4] [_, _, _, _, _] rfl; clear hs4
 refine cd_block ?_
 refine cd_rounds 2 ?_
 refine cd_round fun K4 hK4 => ?_
 refine cd_region fun K5 hK5 => ?_
 refine sq rfl (st_cmp (c := decide ((0 : Int) < 1)) hs5 (Ev.t 0 rfl) (Ev.t 1 rfl) rfl rfl rfl rfl fun _ _ hs6 => ?_); clear hs5
 refine hK5 _ _ ?_; clear hK5
 refine cd_seq fun K6 hK6 => ?_
 have hc7 : (decide ((0 : Int) < 1)) = true := by decide
 refine cd_cond hs6 (Ev.t 0 rfl) (fun _ => ?_) (fun h => absurd (hc7.symm.trans h) (by decide))
 refine cd_skip ?_
 refine th_norm (hK6 _ _ ?_)
 refine cd_seq fun K8 hK8 => ?_
 refine cd_block ?_
 refine cd_region fun K9 hK9 => ?_
 refine sq rfl (st_indexSl (o' := oo) hs6 (Ev.t 3 rfl) (Ev.t 1 rfl) rfl rfl runUnderlying47 sizeOf3 (by decide) rfl fun _ _ hs7 => ?_); clear hs6
 refine sq rfl (st_load1 (o := oo) (off := 0) (v := .int .i64 y) hs7 (Ev.t 0 rfl) rfl rfl isAgg3 (hs7.old hC (by simp)) rfl fun _ _ hs8 => ?_); clear hs7
 refine sq rfl (st_assign hs8 (Ev.t 0 rfl) rfl rfl fun _ _ hs9 => ?_); clear hs8
 refine hK9 _ _ ?_; clear hK9
 have hs10 := hs9.keep [0, 4, 5, 6, 7, 8] [_, _, _, _, _, _] rfl; clear hs9
 refine cd_region1 ?_
 refine sq rfl (st_move hs10 (Ev.t 5 rfl) rfl rfl fun _ _ hs11 => ?_); clear hs10
 refine sq rfl (st_move hs11 (Ev.t 1 rfl) rfl rfl fun _ _ hs12 => ?_); clear hs11
 refine sq rfl (st_min hs12 (Ev.t 1 rfl) (Ev.t 0 rfl) rfl rfl fun _ _ hs13 => ?_); clear hs12
 have hs14 := hs13.keep [0, 1, 2, 3, 4, 5, 6, 7] [_, _, _, _, _, _, _, _] rfl; clear hs13
 refine sq rfl (st_assign hs14 (Ev.t 0 rfl) rfl rfl fun _ _ hs15 => ?_); clear hs14
 refine wpListIn_nil ?_
 have hs16 := hs15.keep [0, 5, 6, 7, 8] [_, _, _, _, _] rfl; clear hs15
 refine in_norm ?_
 refine th_norm (hK8 _ _ ?_)
 refine cd_region1 ?_
 refine sq rfl (st_add (z := 1) hs16 (Ev.t 1 rfl) (.const _) rfl rfl rfl (by omega) fun _ _ hs17 => ?_); clear hs16
 have hs18 := hs17.keep [0, 1, 3, 4, 5] [_, _, _, _, _] rfl; clear hs17
 refine sq rfl (st_move hs18 (Ev.t 0 rfl) rfl rfl fun _ _ hs19 => ?_); clear hs18
 refine wpListIn_nil ?_
 have hs20 := hs19.keep [0, 2, 3, 4, 5] [_, _, _, _, _] rfl; clear hs19
 refine th_norm (hK4 _ _ ?_); clear hK4
 refine cd_round fun K10 hK10 => ?_
 refine cd_region fun K11 hK11 => ?_
 refine sq rfl (st_cmp (c := decide ((1 : Int) < 1)) hs20 (Ev.t 0 rfl) (Ev.t 2 rfl) rfl rfl rfl rfl fun _ _ hs21 => ?_); clear hs20
 refine hK11 _ _ ?_; clear hK11
 refine cd_seq fun K12 hK12 => ?_
 have hc13 : (decide ((1 : Int) < 1)) = false := by decide
 refine cd_cond hs21 (Ev.t 0 rfl) (fun h => absurd (hc13.symm.trans h) (by decide)) (fun _ => ?_)
 refine cd_exit ?_
 refine th_exit ?_
 refine th_exit ?_
 refine in_hit ?_
 refine th_norm (hK2 _ _ ?_)
 refine cd_region fun K14 hK14 => ?_
 refine sq rfl (st_move hs21 (Ev.t 2 rfl) rfl rfl fun _ _ hs22 => ?_); clear hs21
 have hs23 := hs22.keep [0, 1, 2, 3, 4, 5] [_, _, _, _, _, _] rfl; clear hs22
 refine sq rfl (st_assign hs23 (Ev.t 0 rfl) rfl rfl fun _ _ hs24 => ?_); clear hs23
 refine hK14 _ _ ?_; clear hK14
 have hs25 := hs24.keep [0] [_] rfl; clear hs24
 refine cd_retv (vs := [.int .i64 (min f y)]) hs25 hQ0 rfl ⟨.tmp 0 rfl, trivial⟩ ?_
 clear hs25 hQ0 hN0
 rfl

theorem after0_v (b : Book) (A : Option Addr) (n cp : Nat) (k : Nat) (x : Part) (hx : b.parts[k]? = some x) (y : Walks) (c v : Int) (w : World) (hP : PartsAt w A n b.parts) (hn : n ≤ 140737488351232) (hG : CellsAt w 0 0 stuffsL) (hb : Bd b) (hw : 0 ≤ y.c ∧ y.c ≤ 1000 ∧ 0 ≤ y.w ∧ y.w ≤ 1000) (hc : -1000000000 ≤ c ∧ c ≤ 1000000000 ∧ -1000000000 ≤ v ∧ v ≤ 1000000000) :
    CallsV Tryd.prog 74 [.agg ⟨(bookL b A n cp)⟩, .int .i64 (k : Int), .agg ⟨[.int .i64 c, .int .i64 v]⟩, .agg ⟨(walksL y)⟩, .agg ⟨[.func (.func 81) ⟨[]⟩ ⟨[]⟩]⟩] w (.agg ⟨[.int .i64 (b.afterC false x y.c c), .int .i64 (b.afterW false x y.w v)]⟩) := by
 have m1 := mulbd ⟨hw.1, hw.2.1⟩ ⟨hb.load.1, hb.load.2.1⟩
 have m2 := mulbd ⟨hw.2.2.1, hw.2.2.2⟩ hb.load.2.2
 have m3 := fun l h => mulbd ((hb.parts k x hx).1 h) (hb.burn l h)
 have m4 := fun l h => mulbd ((hb.parts k x hx).1 h) (hb.drink l h)
 have hr := hb.room
 have m3t := m3 true true
 have m3f := m3 false true
 have m4t := m4 true true
 have m4f := m4 false true
 simp only [Book.burn, Book.drink, Span.end, if_true, if_false, Bool.false_eq_true] at m3t m3f m4t m4f
 clear m3 m4
 refine enter (N := 79) (M := []) w func74 rfl rfl rfl (fun Q0 a_0 hQ0 hN0 hs0 => ?_)
 rcases hl : x.light with _ | _
 · skip
   refine cd_region fun K1 hK1 => ?_
   refine sq rfl (st_box hs0 (Ev.t 0 rfl) rfl rfl rfl fun b2 _ _ hs1 => ?_); clear hs0
   refine sq rfl (st_box hs1 (Ev.t 3 rfl) rfl rfl rfl fun b3 _ _ hs2 => ?_); clear hs1
   refine sq rfl (st_box hs2 (Ev.t 5 rfl) rfl rfl rfl fun b4 _ _ hs3 => ?_); clear hs2
   refine sq rfl (st_box hs3 (Ev.t 7 rfl) rfl rfl rfl fun b5 _ _ hs4 => ?_); clear hs3
   refine sq rfl (st_alloc hs4 rfl rfl zeroValue103 rfl fun b6 _ _ hs5 => ?_); clear hs4
   refine hK1 _ _ ?_; clear hK1
   have hs6 := hs5.keep [0, 1, 2, 3, 4, 6] [_, _, _, _, _, _] rfl; clear hs5
   refine cd_region fun K7 hK7 => ?_
   refine sq rfl (st_field (o' := 0) hs6 (Ev.t 2 rfl) rfl rfl runUnderlying64 rfl sizeOf3 rfl rfl fun _ _ hs7 => ?_); clear hs6
   refine sq rfl (st_load1 (o := 0) (off := 0) (v := .int .i64 y.c) hs7 (Ev.t 0 rfl) rfl rfl isAgg3 (hs7.cells 2 rfl) rfl fun _ _ hs8 => ?_); clear hs7
   refine sq rfl (st_field (o' := 1) hs8 (Ev.t 4 rfl) rfl rfl runUnderlying64 rfl sizeOf3 rfl rfl fun _ _ hs9 => ?_); clear hs8
   refine sq rfl (st_load1 (o := 0) (off := 1) (v := .int .i64 y.w) hs9 (Ev.t 0 rfl) rfl rfl isAgg3 (hs9.cells 2 rfl) rfl fun _ _ hs10 => ?_); clear hs9
   refine sq rfl (st_build hs10 (qs := [(0, .int .i64 y.c), (1, .int .i64 y.w)]) (v := .agg ⟨[.int .i64 y.c, .int .i64 y.w]⟩) ⟨(Ev.t 2 rfl), (Ev.t 0 rfl), trivial⟩ rfl rfl rfl (fun _ => by kernel_rfl) fun _ _ hs11 => ?_); clear hs10
   refine sq rfl (st_alloc hs11 rfl rfl zeroValue103 rfl fun b8 _ _ hs12 => ?_); clear hs11
   refine sq rfl (st_store (l' := [.int .i64 y.c, .int .i64 y.w]) (vs := [.int .i64 y.c, .int .i64 y.w]) (i := 0) hs12 (Ev.t 0 rfl) (Ev.t 1 rfl) sizeOf103 rfl rfl rfl rfl rfl rfl fun _ _ hs13 => ?_); clear hs12
   have hs14 := hs13.asB [_, _, _, _, _, _] rfl; clear hs13
   refine hK7 _ _ ?_; clear hK7
   have hs15 := hs14.keep [0, 6, 7, 9, 10, 11] [_, _, _, _, _, _] rfl; clear hs14
   obtain ⟨b9, o9, hA9, -, hc9⟩ := hP.el k x hx
   refine cd_drawn mixed hs15 [⟨25, [], Is (.pointer (some ⟨b5, 0, none⟩))⟩, ⟨26, [0], Is (.func (.func 81) ⟨[]⟩ ⟨[]⟩)⟩, ⟨27, [], Is (.pointer (some ⟨b2, 0, none⟩))⟩, ⟨28, [2], Is (.pointer (some ⟨b2, 22, none⟩))⟩, ⟨29, [3], Is (.slice A n cp)⟩, ⟨30, [], Is (.int .i64 (k : Int))⟩, ⟨31, [4, 5], Is (.pointer (some ⟨b9, o9 + k * 4, none⟩))⟩, ⟨32, [6], Is (.pointer (some ⟨b9, o9 + k * 4, none⟩))⟩, ⟨33, [7], Is (.agg ⟨[.int .i64 x.mi.lo, .int .i64 x.mi.hi]⟩)⟩, ⟨34, [1, 8], Is (.tuple ⟨[.int .i64 x.mi.lo, .int .i64 x.mi.hi]⟩)⟩, ⟨24, [9], Is (.tuple ⟨[.int .i64 x.mi.lo, .int .i64 x.mi.hi]⟩)⟩, ⟨35, [10], Is (.int .i64 x.mi.lo)⟩, ⟨36, [10], Is (.int .i64 x.mi.hi)⟩, ⟨12, [11], Is (.int .i64 x.mi.lo)⟩] (by kernel_rfl) (by kernel_rfl) fun K10 hK10 => ⟨⟨?_, ?_, ?_, ?_, ?_, ?_, ?_, ?_, ?_, ?_, ?_, ?_, ?_, ?_, trivial⟩, ?_⟩
   · rintro T_ B_ a_ w_ K_ hT hB hf hsD hk
     exact ob rfl rfl (st_field (o' := 0) hsD (evT hT 2 rfl) rfl hf runUnderlying107 rfl sizeOf105 rfl rfl fun _ _ => hk _ _ _ _ ⟨rfl, rfl⟩)
   · rintro T_ B_ a_ w_ K_ hT hB _ _ ⟨rfl, rfl⟩ h25 - hf hsD hk
     exact ob rfl rfl (st_load1 (o := 0) (off := 0) (v := .func (.func 81) ⟨[]⟩ ⟨[]⟩) hsD (Ev.tmp h25) rfl hf isAgg105 (hsD.cellsM (inB hB 2 rfl)) rfl fun _ _ => hk _ _ _ _ ⟨rfl, rfl⟩)
   · rintro T_ B_ a_ w_ K_ hT hB hf hsD hk
     exact ob rfl rfl (st_field (o' := 0) hsD (evT hT 4 rfl) rfl hf runUnderlying75 rfl sizeOf27 rfl rfl fun _ _ => hk _ _ _ _ ⟨rfl, rfl⟩)
   · rintro T_ B_ a_ w_ K_ hT hB _ _ ⟨rfl, rfl⟩ h27 - hf hsD hk
     exact ob rfl rfl (st_field (o' := 22) hsD (Ev.tmp h27) rfl hf runUnderlying27 rfl sizeOf25 rfl rfl fun _ _ => hk _ _ _ _ ⟨rfl, rfl⟩)
   · rintro T_ B_ a_ w_ K_ hT hB _ _ ⟨rfl, rfl⟩ h28 - hf hsD hk
     exact ob rfl rfl (st_load1 (o := 0) (off := 22) (v := .slice A n cp) hsD (Ev.tmp h28) rfl hf isAgg25 (hsD.cellsM (inB hB 5 rfl)) rfl fun _ _ => hk _ _ _ _ ⟨rfl, rfl⟩)
   · rintro T_ B_ a_ w_ K_ hT hB hf hsD hk
     exact ob rfl rfl (st_move hsD (evT hT 5 rfl) rfl hf fun _ _ => hk _ _ _ _ ⟨rfl, rfl⟩)
   · rintro T_ B_ a_ w_ K_ hT hB _ _ ⟨rfl, rfl⟩ h29 - _ _ ⟨rfl, rfl⟩ h30 - hf hsD hk
     exact ob rfl rfl (st_indexM (o' := o9 + k * 4) hsD (Ev.tmp h29) (Ev.tmp h30) rfl hf hA9 runUnderlying25 sizeOf66 ⟨by omega, by have := hP.len; have := (List.getElem?_eq_some_iff.1 hx).1; omega⟩ rfl fun _ _ => hk _ _ _ _ ⟨rfl, rfl⟩)
   · rintro T_ B_ a_ w_ K_ hT hB _ _ ⟨rfl, rfl⟩ h31 - hf hsD hk
     exact ob rfl rfl (st_field (o' := o9 + k * 4) hsD (Ev.tmp h31) rfl hf runUnderlying66 rfl sizeOf23 rfl rfl fun _ _ => hk _ _ _ _ ⟨rfl, rfl⟩)
   · rintro T_ B_ a_ w_ K_ hT hB _ _ ⟨rfl, rfl⟩ h32 - hf hsD hk
     exact ob rfl rfl (st_loadA (o := o9 + k * 4) (off := 0) (vs := [.int .i64 x.mi.lo, .int .i64 x.mi.hi]) hsD (Ev.tmp h32) rfl hf isAgg23 sizeOf23 (hsD.old hc9 (by simp)) rfl fun _ _ => hk _ _ _ _ ⟨rfl, rfl⟩)
   · rintro T_ B_ a_ w_ K_ hT hB _ _ ⟨rfl, rfl⟩ h26 - _ _ ⟨rfl, rfl⟩ h33 - hf hsD hk
     exact ob rfl rfl (st_callv (vs := [.agg ⟨[.int .i64 x.mi.lo, .int .i64 x.mi.hi]⟩]) hsD (Ev.tmp h26) ⟨(Ev.tmp h33), trivial⟩ rfl hf call81 rfl (low1_v x.mi.lo x.mi.hi _) fun _ _ => hk _ _ _ _ ⟨rfl, rfl⟩)
   · rintro T_ B_ a_ w_ K_ hT hB _ _ ⟨rfl, rfl⟩ h34 - hf hsD hk
     exact ob rfl rfl (st_move hsD (Ev.tmp h34) rfl hf fun _ _ => hk _ _ _ _ ⟨rfl, rfl⟩)
   · rintro T_ B_ a_ w_ K_ hT hB _ _ ⟨rfl, rfl⟩ h24 - hf hsD hk
     exact ob rfl rfl (st_extract hsD (Ev.tmp h24) rfl hf rfl fun _ _ => hk _ _ _ _ ⟨rfl, rfl⟩)
   · rintro T_ B_ a_ w_ K_ hT hB _ _ ⟨rfl, rfl⟩ h24 - hf hsD hk
     exact ob rfl rfl (st_extract hsD (Ev.tmp h24) rfl hf rfl fun _ _ => hk _ _ _ _ ⟨rfl, rfl⟩)
   · rintro T_ B_ a_ w_ K_ hT hB _ _ ⟨rfl, rfl⟩ h35 - hf hsD hk
     exact ob rfl rfl (st_assign hsD (Ev.tmp h35) rfl hf fun _ _ => hk _ _ _ _ ⟨rfl, rfl⟩)
   rintro _ _ ⟨rfl, rfl⟩ _ _ ⟨rfl, rfl⟩ _ _ ⟨rfl, rfl⟩ _ _ ⟨rfl, rfl⟩ _ _ ⟨rfl, rfl⟩ _ _ ⟨rfl, rfl⟩ _ _ ⟨rfl, rfl⟩ _ _ ⟨rfl, rfl⟩ _ _ ⟨rfl, rfl⟩ _ _ ⟨rfl, rfl⟩ _ _ ⟨rfl, rfl⟩ _ _ ⟨rfl, rfl⟩ _ _ ⟨rfl, rfl⟩ _ _ ⟨rfl, rfl⟩ a_16 w_16 hs16; clear hs15
   have hs17 := Sx.as (T' := [_, _, _, _, _, _, _, _, _, _, _, _, _, _, _, _, _, _, _, _]) (B' := [_, _, _, _, _, _]) rfl rfl hs16; clear hs16
   refine sq rfl (st_assign hs17 (Ev.t 12 rfl) rfl rfl fun _ _ hs18 => ?_); clear hs17
   refine hK10 _ _ ?_; clear hK10
   have hs19 := hs18.keep [0, 15, 16, 17, 18, 19, 20] [_, _, _, _, _, _, _] rfl; clear hs18
   refine cd_seq fun K11 hK11 => ?_
   refine cd_region fun K12 hK12 => ?_
   refine sq rfl (st_loadA (o := 0) (off := 0) (vs := stuffsL) hs19 (.global _) rfl rfl isAgg121 sizeOf121 (hs19.old hG (by simp)) rfl fun _ _ hs20 => ?_); clear hs19
   refine sq rfl (st_move hs20 (.const _) rfl rfl fun _ _ hs21 => ?_); clear hs20
   refine hK12 _ _ ?_; clear hK12
   refine cd_block ?_
   refine cd_rounds 3 ?_
   refine cd_round fun K13 hK13 => ?_
   refine cd_region fun K14 hK14 => ?_
   refine sq rfl (st_cmp (c := decide ((0 : Int) < 2)) hs21 (Ev.t 0 rfl) (.const _) rfl rfl rfl rfl fun _ _ hs22 => ?_); clear hs21
   refine hK14 _ _ ?_; clear hK14
   refine cd_seq fun K15 hK15 => ?_
   have hc16 : (decide ((0 : Int) < 2)) = true := by decide
   refine cd_cond hs22 (Ev.t 0 rfl) (fun _ => ?_) (fun h => absurd (hc16.symm.trans h) (by decide))
   refine cd_skip ?_
   refine th_norm (hK15 _ _ ?_)
   refine cd_seq fun K17 hK17 => ?_
   refine cd_block ?_
   refine cd_region fun K18 hK18 => ?_
   refine sq rfl (st_move hs22 (Ev.t 1 rfl) rfl rfl fun _ _ hs23 => ?_); clear hs22
   refine sq rfl (st_index1 (v := .func (.func 103) ⟨[]⟩ ⟨[]⟩) hs23 (Ev.t 3 rfl) (Ev.t 2 rfl) rfl rfl runUnderlying121 isAgg120 sizeOf120 (by decide) rfl fun _ _ hs24 => ?_); clear hs23
   refine sq rfl (st_assign hs24 (Ev.t 1 rfl) rfl rfl fun _ _ hs25 => ?_); clear hs24
   refine sq rfl (st_assign hs25 (Ev.t 1 rfl) rfl rfl fun _ _ hs26 => ?_); clear hs25
   refine hK18 _ _ ?_; clear hK18
   have hs27 := hs26.keep [0, 1, 5, 6, 7, 8, 9, 10, 11, 12, 13] [_, _, _, _, _, _, _, _, _, _, _] rfl; clear hs26
   refine cd_region fun K19 hK19 => ?_
   refine sq rfl (st_move hs27 (Ev.t 0 rfl) rfl rfl fun _ _ hs28 => ?_); clear hs27
   refine sq rfl (st_loadA (o := 0) (off := 0) (vs := (bookL b A n cp)) hs28 (Ev.t 10 rfl) rfl rfl isAgg75 sizeOf75 (hs28.cells 5 rfl) rfl fun _ _ hs29 => ?_); clear hs28
   refine sq rfl (st_callv (vs := [.agg ⟨(bookL b A n cp)⟩]) hs29 (Ev.t 1 rfl) ⟨(Ev.t 0 rfl), trivial⟩ rfl rfl call103 rfl (coal_v b A n cp _) fun _ _ hs30 => ?_); clear hs29
   refine sq rfl (st_alloc hs30 rfl rfl zeroValue123 rfl fun b20 _ _ hs31 => ?_); clear hs30
   refine sq rfl (st_store (l' := [.int .i64 b.bunker, .int .i64 b.scoop, .int .i64 b.burn0.lo, .int .i64 b.burn0.hi, .int .i64 b.burn1.lo, .int .i64 b.burn1.hi]) (vs := [.int .i64 b.bunker, .int .i64 b.scoop, .int .i64 b.burn0.lo, .int .i64 b.burn0.hi, .int .i64 b.burn1.lo, .int .i64 b.burn1.hi]) (i := 0) hs31 (Ev.t 0 rfl) (Ev.t 1 rfl) sizeOf123 rfl rfl rfl rfl rfl rfl fun _ _ hs32 => ?_); clear hs31
   have hs33 := hs32.asB [_, _, _, _, _, _, _] rfl; clear hs32
   refine hK19 _ _ ?_; clear hK19
   have hs34 := hs33.keep [0, 5, 6, 7, 8, 9, 10, 11, 12, 13, 14] [_, _, _, _, _, _, _, _, _, _, _] rfl; clear hs33
   refine cd_drawn mixed hs34 [⟨46, [], Is (.pointer (some ⟨b5, 0, none⟩))⟩, ⟨47, [0], Is (.func (.func 81) ⟨[]⟩ ⟨[]⟩)⟩, ⟨48, [], Is (.agg ⟨(bookL b A n cp)⟩)⟩, ⟨49, [], Is (.int .i64 (k : Int))⟩, ⟨50, [2, 3], Is (.int .i64 0)⟩, ⟨51, [], Is (.pointer (some ⟨b20, 2, none⟩))⟩, ⟨52, [4, 5], Is (.pointer (some ⟨b20, 2, none⟩))⟩, ⟨53, [6], Is (.agg ⟨[.int .i64 b.burn0.lo, .int .i64 b.burn0.hi]⟩)⟩, ⟨54, [1, 7], Is (.tuple ⟨[.int .i64 b.burn0.lo, .int .i64 b.burn0.hi]⟩)⟩, ⟨45, [8], Is (.tuple ⟨[.int .i64 b.burn0.lo, .int .i64 b.burn0.hi]⟩)⟩, ⟨55, [9], Is (.int .i64 b.burn0.lo)⟩, ⟨56, [9], Is (.int .i64 b.burn0.hi)⟩, ⟨17, [10], Is (.int .i64 b.burn0.lo)⟩] (by kernel_rfl) (by kernel_rfl) fun K21 hK21 => ⟨⟨?_, ?_, ?_, ?_, ?_, ?_, ?_, ?_, ?_, ?_, ?_, ?_, ?_, trivial⟩, ?_⟩
   · rintro T_ B_ a_ w_ K_ hT hB hf hsD hk
     exact ob rfl rfl (st_field (o' := 0) hsD (evT hT 7 rfl) rfl hf runUnderlying107 rfl sizeOf105 rfl rfl fun _ _ => hk _ _ _ _ ⟨rfl, rfl⟩)
   · rintro T_ B_ a_ w_ K_ hT hB _ _ ⟨rfl, rfl⟩ h46 - hf hsD hk
     exact ob rfl rfl (st_load1 (o := 0) (off := 0) (v := .func (.func 81) ⟨[]⟩ ⟨[]⟩) hsD (Ev.tmp h46) rfl hf isAgg105 (hsD.cellsM (inB hB 3 rfl)) rfl fun _ _ => hk _ _ _ _ ⟨rfl, rfl⟩)
   · rintro T_ B_ a_ w_ K_ hT hB hf hsD hk
     exact ob rfl rfl (st_loadA (o := 0) (off := 0) (vs := (bookL b A n cp)) hsD (evT hT 9 rfl) rfl hf isAgg75 sizeOf75 (hsD.cellsM (inB hB 6 rfl)) rfl fun _ _ => hk _ _ _ _ ⟨rfl, rfl⟩)
   · rintro T_ B_ a_ w_ K_ hT hB hf hsD hk
     exact ob rfl rfl (st_move hsD (evT hT 10 rfl) rfl hf fun _ _ => hk _ _ _ _ ⟨rfl, rfl⟩)
   · rintro T_ B_ a_ w_ K_ hT hB _ _ ⟨rfl, rfl⟩ h48 - _ _ ⟨rfl, rfl⟩ h49 - hf hsD hk
     exact ob rfl rfl (st_callv (vs := [.agg ⟨(bookL b A n cp)⟩, .int .i64 (k : Int)]) (v := .int .i64 0) hsD (.func _) ⟨(Ev.tmp h48), (Ev.tmp h49), trivial⟩ rfl hf call83 rfl (by have h := kind_v b A n cp k x hx _ (hP.kp hsD.kp) hn; rw [hl] at h; exact h) fun _ _ => hk _ _ _ _ ⟨rfl, rfl⟩)
   · rintro T_ B_ a_ w_ K_ hT hB hf hsD hk
     exact ob rfl rfl (st_field (o' := 2) hsD (evT hT 0 rfl) rfl hf runUnderlying123 rfl sizeOf24 rfl rfl fun _ _ => hk _ _ _ _ ⟨rfl, rfl⟩)
   · rintro T_ B_ a_ w_ K_ hT hB _ _ ⟨rfl, rfl⟩ h50 - _ _ ⟨rfl, rfl⟩ h51 - hf hsD hk
     exact ob rfl rfl (st_indexArr (o' := 2) hsD (Ev.tmp h51) (Ev.tmp h50) rfl hf runUnderlying24 sizeOf23 (by decide) rfl fun _ _ => hk _ _ _ _ ⟨rfl, rfl⟩)
   · rintro T_ B_ a_ w_ K_ hT hB _ _ ⟨rfl, rfl⟩ h52 - hf hsD hk
     exact ob rfl rfl (st_loadA (o := 0) (off := 2) (vs := [.int .i64 b.burn0.lo, .int .i64 b.burn0.hi]) hsD (Ev.tmp h52) rfl hf isAgg23 sizeOf23 (hsD.cellsM (inB hB 0 rfl)) rfl fun _ _ => hk _ _ _ _ ⟨rfl, rfl⟩)
   · rintro T_ B_ a_ w_ K_ hT hB _ _ ⟨rfl, rfl⟩ h47 - _ _ ⟨rfl, rfl⟩ h53 - hf hsD hk
     exact ob rfl rfl (st_callv (vs := [.agg ⟨[.int .i64 b.burn0.lo, .int .i64 b.burn0.hi]⟩]) hsD (Ev.tmp h47) ⟨(Ev.tmp h53), trivial⟩ rfl hf call81 rfl (low1_v b.burn0.lo b.burn0.hi _) fun _ _ => hk _ _ _ _ ⟨rfl, rfl⟩)
   · rintro T_ B_ a_ w_ K_ hT hB _ _ ⟨rfl, rfl⟩ h54 - hf hsD hk
     exact ob rfl rfl (st_move hsD (Ev.tmp h54) rfl hf fun _ _ => hk _ _ _ _ ⟨rfl, rfl⟩)
   · rintro T_ B_ a_ w_ K_ hT hB _ _ ⟨rfl, rfl⟩ h45 - hf hsD hk
     exact ob rfl rfl (st_extract hsD (Ev.tmp h45) rfl hf rfl fun _ _ => hk _ _ _ _ ⟨rfl, rfl⟩)
   · rintro T_ B_ a_ w_ K_ hT hB _ _ ⟨rfl, rfl⟩ h45 - hf hsD hk
     exact ob rfl rfl (st_extract hsD (Ev.tmp h45) rfl hf rfl fun _ _ => hk _ _ _ _ ⟨rfl, rfl⟩)
   · rintro T_ B_ a_ w_ K_ hT hB _ _ ⟨rfl, rfl⟩ h55 - hf hsD hk
     exact ob rfl rfl (st_assign hsD (Ev.tmp h55) rfl hf fun _ _ => hk _ _ _ _ ⟨rfl, rfl⟩)
   rintro _ _ ⟨rfl, rfl⟩ _ _ ⟨rfl, rfl⟩ _ _ ⟨rfl, rfl⟩ _ _ ⟨rfl, rfl⟩ _ _ ⟨rfl, rfl⟩ _ _ ⟨rfl, rfl⟩ _ _ ⟨rfl, rfl⟩ _ _ ⟨rfl, rfl⟩ _ _ ⟨rfl, rfl⟩ _ _ ⟨rfl, rfl⟩ _ _ ⟨rfl, rfl⟩ _ _ ⟨rfl, rfl⟩ _ _ ⟨rfl, rfl⟩ a_35 w_35 hs35; clear hs34
   have hs36 := Sx.as (T' := [_, _, _, _, _, _, _, _, _, _, _, _, _, _, _, _, _, _, _, _, _, _, _, _]) (B' := [_, _, _, _, _, _, _]) rfl rfl hs35; clear hs35
   refine sq rfl (st_assign hs36 (Ev.t 11 rfl) rfl rfl fun _ _ hs37 => ?_); clear hs36
   refine hK21 _ _ ?_; clear hK21
   have hs38 := hs37.keep [0, 14, 15, 16, 17, 18, 19, 20, 21, 22, 23, 24] [_, _, _, _, _, _, _, _, _, _, _, _] rfl; clear hs37
   refine cd_drawn1 mixed hs38 [⟨57, [], Is (.int .i64 0)⟩, ⟨58, [], Is (.pointer (some ⟨b20, 0, none⟩))⟩, ⟨59, [1], Is (.int .i64 b.bunker)⟩, ⟨60, [], Is (.int .i64 0)⟩, ⟨61, [3], Is (.pointer (some ⟨b3, 0, none⟩))⟩, ⟨62, [4], Is (.int .i64 c)⟩, ⟨63, [], Is (.int .i64 0)⟩, ⟨64, [6], Is (.pointer (some ⟨b8, 0, none⟩))⟩, ⟨65, [7], Is (.int .i64 y.c)⟩, ⟨66, [], Is (.pointer (some ⟨b20, 1, none⟩))⟩, ⟨67, [9], Is (.int .i64 b.scoop)⟩, ⟨68, [8, 10], Is (.int .i64 (y.c * b.scoop))⟩, ⟨69, [5, 11], Is (.int .i64 (c + (y.c * b.scoop)))⟩, ⟨70, [12], fun v_ bs_ => ∃ b22, v_ = .slice (some ⟨b22, 0, none⟩) 1 1 ∧ bs_ = [(b22, some (.cells ⟨[.int .i64 (c + (y.c * b.scoop))]⟩ 3 (0, 0)))]⟩, ⟨71, [2, 13], Is (.int .i64 (min b.bunker (c + (y.c * b.scoop))))⟩, ⟨72, [], Is (.int .i64 x.mi.hi)⟩, ⟨73, [], Is (.int .i64 b.burn0.hi)⟩, ⟨74, [15, 16], Is (.int .i64 (x.mi.hi * b.burn0.hi))⟩, ⟨75, [14, 17], Is (.int .i64 ((min b.bunker (c + (y.c * b.scoop))) - (x.mi.hi * b.burn0.hi)))⟩] (by kernel_rfl) (by kernel_rfl) ⟨⟨?_, ?_, ?_, ?_, ?_, ?_, ?_, ?_, ?_, ?_, ?_, ?_, ?_, ?_, ?_, ?_, ?_, ?_, ?_, trivial⟩, ?_⟩
   · rintro T_ B_ a_ w_ K_ hT hB hf hsD hk
     exact ob rfl rfl (st_move hsD (evT hT 2 rfl) rfl hf fun _ _ => hk _ _ _ _ ⟨rfl, rfl⟩)
   · rintro T_ B_ a_ w_ K_ hT hB hf hsD hk
     exact ob rfl rfl (st_field (o' := 0) hsD (evT hT 1 rfl) rfl hf runUnderlying123 rfl sizeOf3 rfl rfl fun _ _ => hk _ _ _ _ ⟨rfl, rfl⟩)
   · rintro T_ B_ a_ w_ K_ hT hB _ _ ⟨rfl, rfl⟩ h58 - hf hsD hk
     exact ob rfl rfl (st_load1 (o := 0) (off := 0) (v := .int .i64 b.bunker) hsD (Ev.tmp h58) rfl hf isAgg3 (hsD.cellsM (inB hB 0 rfl)) rfl fun _ _ => hk _ _ _ _ ⟨rfl, rfl⟩)
   · rintro T_ B_ a_ w_ K_ hT hB hf hsD hk
     exact ob rfl rfl (st_move hsD (evT hT 2 rfl) rfl hf fun _ _ => hk _ _ _ _ ⟨rfl, rfl⟩)
   · rintro T_ B_ a_ w_ K_ hT hB _ _ ⟨rfl, rfl⟩ h60 - hf hsD hk
     exact ob rfl rfl (st_indexArr (o' := 0) hsD (evT hT 9 rfl) (Ev.tmp h60) rfl hf runUnderlying103 sizeOf3 (by decide) rfl fun _ _ => hk _ _ _ _ ⟨rfl, rfl⟩)
   · rintro T_ B_ a_ w_ K_ hT hB _ _ ⟨rfl, rfl⟩ h61 - hf hsD hk
     exact ob rfl rfl (st_load1 (o := 0) (off := 0) (v := .int .i64 c) hsD (Ev.tmp h61) rfl hf isAgg3 (hsD.cellsM (inB hB 5 rfl)) rfl fun _ _ => hk _ _ _ _ ⟨rfl, rfl⟩)
   · rintro T_ B_ a_ w_ K_ hT hB hf hsD hk
     exact ob rfl rfl (st_move hsD (evT hT 2 rfl) rfl hf fun _ _ => hk _ _ _ _ ⟨rfl, rfl⟩)
   · rintro T_ B_ a_ w_ K_ hT hB _ _ ⟨rfl, rfl⟩ h63 - hf hsD hk
     exact ob rfl rfl (st_indexArr (o' := 0) hsD (evT hT 6 rfl) (Ev.tmp h63) rfl hf runUnderlying103 sizeOf3 (by decide) rfl fun _ _ => hk _ _ _ _ ⟨rfl, rfl⟩)
   · rintro T_ B_ a_ w_ K_ hT hB _ _ ⟨rfl, rfl⟩ h64 - hf hsD hk
     exact ob rfl rfl (st_load1 (o := 0) (off := 0) (v := .int .i64 y.c) hsD (Ev.tmp h64) rfl hf isAgg3 (hsD.cellsM (inB hB 1 rfl)) rfl fun _ _ => hk _ _ _ _ ⟨rfl, rfl⟩)
   · rintro T_ B_ a_ w_ K_ hT hB hf hsD hk
     exact ob rfl rfl (st_field (o' := 1) hsD (evT hT 1 rfl) rfl hf runUnderlying123 rfl sizeOf3 rfl rfl fun _ _ => hk _ _ _ _ ⟨rfl, rfl⟩)
   · rintro T_ B_ a_ w_ K_ hT hB _ _ ⟨rfl, rfl⟩ h66 - hf hsD hk
     exact ob rfl rfl (st_load1 (o := 0) (off := 1) (v := .int .i64 b.scoop) hsD (Ev.tmp h66) rfl hf isAgg3 (hsD.cellsM (inB hB 0 rfl)) rfl fun _ _ => hk _ _ _ _ ⟨rfl, rfl⟩)
   · rintro T_ B_ a_ w_ K_ hT hB _ _ ⟨rfl, rfl⟩ h65 - _ _ ⟨rfl, rfl⟩ h67 - hf hsD hk
     exact ob rfl rfl (st_mul (z := y.c * b.scoop) hsD (Ev.tmp h65) (Ev.tmp h67) rfl hf rfl (by omega) fun _ _ => hk _ _ _ _ ⟨rfl, rfl⟩)
   · rintro T_ B_ a_ w_ K_ hT hB _ _ ⟨rfl, rfl⟩ h62 - _ _ ⟨rfl, rfl⟩ h68 - hf hsD hk
     exact ob rfl rfl (st_add (z := c + (y.c * b.scoop)) hsD (Ev.tmp h62) (Ev.tmp h68) rfl hf rfl (by omega) fun _ _ => hk _ _ _ _ ⟨rfl, rfl⟩)
   · rintro T_ B_ a_ w_ K_ hT hB _ _ ⟨rfl, rfl⟩ h69 - hf hsD hk
     exact ob rfl rfl (st_buildSlice hsD (qs := [(0, .int .i64 (c + (y.c * b.scoop)))]) (e := 3) (l := [.int .i64 (c + (y.c * b.scoop))]) ⟨(Ev.tmp h69), trivial⟩ rfl hf rfl (fun _ => by kernel_rfl) fun b22 _ _ => hk _ _ _ _ ⟨b22, rfl, rfl⟩)
   · rintro T_ B_ a_ w_ K_ hT hB _ _ ⟨rfl, rfl⟩ h59 - _ _ ⟨b22, rfl, rfl⟩ h70 hB70 hf hsD hk
     exact ob rfl rfl (st_callv (vs := [.int .i64 b.bunker, .slice (some ⟨b22, 0, none⟩) 1 1]) hsD (.func _) ⟨(Ev.tmp h59), (Ev.tmp h70), trivial⟩ rfl hf call84 rfl (least_v b.bunker (c + (y.c * b.scoop)) b22 0 _ (hsD.cellsM (hB70 _ List.mem_cons_self))) fun _ _ => hk _ _ _ _ ⟨rfl, rfl⟩)
   · rintro T_ B_ a_ w_ K_ hT hB hf hsD hk
     exact ob rfl rfl (st_move hsD (evT hT 5 rfl) rfl hf fun _ _ => hk _ _ _ _ ⟨rfl, rfl⟩)
   · rintro T_ B_ a_ w_ K_ hT hB hf hsD hk
     exact ob rfl rfl (st_move hsD (evT hT 0 rfl) rfl hf fun _ _ => hk _ _ _ _ ⟨rfl, rfl⟩)
   · rintro T_ B_ a_ w_ K_ hT hB _ _ ⟨rfl, rfl⟩ h72 - _ _ ⟨rfl, rfl⟩ h73 - hf hsD hk
     exact ob rfl rfl (st_mul (z := x.mi.hi * b.burn0.hi) hsD (Ev.tmp h72) (Ev.tmp h73) rfl hf rfl (by omega) fun _ _ => hk _ _ _ _ ⟨rfl, rfl⟩)
   · rintro T_ B_ a_ w_ K_ hT hB _ _ ⟨rfl, rfl⟩ h71 - _ _ ⟨rfl, rfl⟩ h74 - hf hsD hk
     exact ob rfl rfl (st_sub (z := (min b.bunker (c + (y.c * b.scoop))) - (x.mi.hi * b.burn0.hi)) hsD (Ev.tmp h71) (Ev.tmp h74) rfl hf rfl (by omega) fun _ _ => hk _ _ _ _ ⟨rfl, rfl⟩)
   rintro _ _ ⟨rfl, rfl⟩ _ _ ⟨rfl, rfl⟩ _ _ ⟨rfl, rfl⟩ _ _ ⟨rfl, rfl⟩ _ _ ⟨rfl, rfl⟩ _ _ ⟨rfl, rfl⟩ _ _ ⟨rfl, rfl⟩ _ _ ⟨rfl, rfl⟩ _ _ ⟨rfl, rfl⟩ _ _ ⟨rfl, rfl⟩ _ _ ⟨rfl, rfl⟩ _ _ ⟨rfl, rfl⟩ _ _ ⟨rfl, rfl⟩ _ _ ⟨b22, rfl, rfl⟩ _ _ ⟨rfl, rfl⟩ _ _ ⟨rfl, rfl⟩ _ _ ⟨rfl, rfl⟩ _ _ ⟨rfl, rfl⟩ _ _ ⟨rfl, rfl⟩ a_39 w_39 hs39; clear hs38
   have hs40 := Sx.as (T' := [_, _, _, _, _, _, _, _, _, _, _, _, _, _, _, _, _, _, _, _, _, _, _, _, _, _, _, _, _, _, _]) (B' := [_, _, _, _, _, _, _, _]) rfl rfl hs39; clear hs39
   refine sq rfl (st_indexArr (o' := 0) hs40 (Ev.t 28 rfl) (Ev.t 0 rfl) rfl rfl runUnderlying103 sizeOf3 (by decide) rfl fun _ _ hs41 => ?_); clear hs40
   refine sq rfl (st_store (l' := [.int .i64 ((min b.bunker (c + (y.c * b.scoop))) - (x.mi.hi * b.burn0.hi)), .int .i64 v]) (vs := [.int .i64 ((min b.bunker (c + (y.c * b.scoop))) - (x.mi.hi * b.burn0.hi))]) (i := 6) hs41 (Ev.t 0 rfl) (Ev.t 19 rfl) sizeOf3 rfl rfl rfl rfl rfl rfl fun _ _ hs42 => ?_); clear hs41
   have hs43 := hs42.asB [_, _, _, _, _, _, _, _] rfl; clear hs42
   refine wpListIn_nil ?_
   have hs44 := hs43.keep [23, 24, 25, 26, 27, 28, 29, 30, 31] [_, _, _, _, _, _, _, _, _] rfl; clear hs43
   refine in_norm ?_
   refine th_norm (hK17 _ _ ?_)
   refine cd_region1 ?_
   refine sq rfl (st_add (z := 1) hs44 (Ev.t 0 rfl) (.const _) rfl rfl rfl (by omega) fun _ _ hs45 => ?_); clear hs44
   have hs46 := hs45.keep [0, 2, 3, 4, 5, 6, 7, 8, 9] [_, _, _, _, _, _, _, _, _] rfl; clear hs45
   refine sq rfl (st_move hs46 (Ev.t 0 rfl) rfl rfl fun _ _ hs47 => ?_); clear hs46
   refine wpListIn_nil ?_
   have hs48 := hs47.keep [0, 2, 3, 4, 5, 6, 7, 8, 9] [_, _, _, _, _, _, _, _, _] rfl; clear hs47
   refine th_norm (hK13 _ _ ?_); clear hK13
   refine cd_round fun K23 hK23 => ?_
   refine cd_region fun K24 hK24 => ?_
   refine sq rfl (st_cmp (c := decide ((1 : Int) < 2)) hs48 (Ev.t 0 rfl) (.const _) rfl rfl rfl rfl fun _ _ hs49 => ?_); clear hs48
   refine hK24 _ _ ?_; clear hK24
   refine cd_seq fun K25 hK25 => ?_
   have hc26 : (decide ((1 : Int) < 2)) = true := by decide
   refine cd_cond hs49 (Ev.t 0 rfl) (fun _ => ?_) (fun h => absurd (hc26.symm.trans h) (by decide))
   refine cd_skip ?_
   refine th_norm (hK25 _ _ ?_)
   refine cd_seq fun K27 hK27 => ?_
   refine cd_block ?_
   refine cd_region fun K28 hK28 => ?_
   refine sq rfl (st_move hs49 (Ev.t 1 rfl) rfl rfl fun _ _ hs50 => ?_); clear hs49
   refine sq rfl (st_index1 (v := .func (.func 104) ⟨[]⟩ ⟨[]⟩) hs50 (Ev.t 3 rfl) (Ev.t 2 rfl) rfl rfl runUnderlying121 isAgg120 sizeOf120 (by decide) rfl fun _ _ hs51 => ?_); clear hs50
   refine sq rfl (st_assign hs51 (Ev.t 1 rfl) rfl rfl fun _ _ hs52 => ?_); clear hs51
   refine sq rfl (st_assign hs52 (Ev.t 1 rfl) rfl rfl fun _ _ hs53 => ?_); clear hs52
   refine hK28 _ _ ?_; clear hK28
   have hs54 := hs53.keep [0, 1, 5, 6, 7, 8, 9, 10, 11, 12, 13] [_, _, _, _, _, _, _, _, _, _, _] rfl; clear hs53
   refine cd_region fun K29 hK29 => ?_
   refine sq rfl (st_move hs54 (Ev.t 0 rfl) rfl rfl fun _ _ hs55 => ?_); clear hs54
   refine sq rfl (st_loadA (o := 0) (off := 0) (vs := (bookL b A n cp)) hs55 (Ev.t 10 rfl) rfl rfl isAgg75 sizeOf75 (hs55.cells 7 rfl) rfl fun _ _ hs56 => ?_); clear hs55
   refine sq rfl (st_callv (vs := [.agg ⟨(bookL b A n cp)⟩]) hs56 (Ev.t 1 rfl) ⟨(Ev.t 0 rfl), trivial⟩ rfl rfl call104 rfl (water_v b A n cp _) fun _ _ hs57 => ?_); clear hs56
   refine sq rfl (st_alloc hs57 rfl rfl zeroValue123 rfl fun b30 _ _ hs58 => ?_); clear hs57
   refine sq rfl (st_store (l' := [.int .i64 b.tank, .int .i64 b.pail, .int .i64 b.drink0.lo, .int .i64 b.drink0.hi, .int .i64 b.drink1.lo, .int .i64 b.drink1.hi]) (vs := [.int .i64 b.tank, .int .i64 b.pail, .int .i64 b.drink0.lo, .int .i64 b.drink0.hi, .int .i64 b.drink1.lo, .int .i64 b.drink1.hi]) (i := 0) hs58 (Ev.t 0 rfl) (Ev.t 1 rfl) sizeOf123 rfl rfl rfl rfl rfl rfl fun _ _ hs59 => ?_); clear hs58
   have hs60 := hs59.asB [_, _, _, _, _, _, _, _, _] rfl; clear hs59
   refine hK29 _ _ ?_; clear hK29
   have hs61 := hs60.keep [0, 5, 6, 7, 8, 9, 10, 11, 12, 13, 14] [_, _, _, _, _, _, _, _, _, _, _] rfl; clear hs60
   refine cd_drawn mixed hs61 [⟨46, [], Is (.pointer (some ⟨b5, 0, none⟩))⟩, ⟨47, [0], Is (.func (.func 81) ⟨[]⟩ ⟨[]⟩)⟩, ⟨48, [], Is (.agg ⟨(bookL b A n cp)⟩)⟩, ⟨49, [], Is (.int .i64 (k : Int))⟩, ⟨50, [2, 3], Is (.int .i64 0)⟩, ⟨51, [], Is (.pointer (some ⟨b30, 2, none⟩))⟩, ⟨52, [4, 5], Is (.pointer (some ⟨b30, 2, none⟩))⟩, ⟨53, [6], Is (.agg ⟨[.int .i64 b.drink0.lo, .int .i64 b.drink0.hi]⟩)⟩, ⟨54, [1, 7], Is (.tuple ⟨[.int .i64 b.drink0.lo, .int .i64 b.drink0.hi]⟩)⟩, ⟨45, [8], Is (.tuple ⟨[.int .i64 b.drink0.lo, .int .i64 b.drink0.hi]⟩)⟩, ⟨55, [9], Is (.int .i64 b.drink0.lo)⟩, ⟨56, [9], Is (.int .i64 b.drink0.hi)⟩, ⟨17, [10], Is (.int .i64 b.drink0.lo)⟩] (by kernel_rfl) (by kernel_rfl) fun K31 hK31 => ⟨⟨?_, ?_, ?_, ?_, ?_, ?_, ?_, ?_, ?_, ?_, ?_, ?_, ?_, trivial⟩, ?_⟩
   · rintro T_ B_ a_ w_ K_ hT hB hf hsD hk
     exact ob rfl rfl (st_field (o' := 0) hsD (evT hT 7 rfl) rfl hf runUnderlying107 rfl sizeOf105 rfl rfl fun _ _ => hk _ _ _ _ ⟨rfl, rfl⟩)
   · rintro T_ B_ a_ w_ K_ hT hB _ _ ⟨rfl, rfl⟩ h46 - hf hsD hk
     exact ob rfl rfl (st_load1 (o := 0) (off := 0) (v := .func (.func 81) ⟨[]⟩ ⟨[]⟩) hsD (Ev.tmp h46) rfl hf isAgg105 (hsD.cellsM (inB hB 5 rfl)) rfl fun _ _ => hk _ _ _ _ ⟨rfl, rfl⟩)
   · rintro T_ B_ a_ w_ K_ hT hB hf hsD hk
     exact ob rfl rfl (st_loadA (o := 0) (off := 0) (vs := (bookL b A n cp)) hsD (evT hT 9 rfl) rfl hf isAgg75 sizeOf75 (hsD.cellsM (inB hB 8 rfl)) rfl fun _ _ => hk _ _ _ _ ⟨rfl, rfl⟩)
   · rintro T_ B_ a_ w_ K_ hT hB hf hsD hk
     exact ob rfl rfl (st_move hsD (evT hT 10 rfl) rfl hf fun _ _ => hk _ _ _ _ ⟨rfl, rfl⟩)
   · rintro T_ B_ a_ w_ K_ hT hB _ _ ⟨rfl, rfl⟩ h48 - _ _ ⟨rfl, rfl⟩ h49 - hf hsD hk
     exact ob rfl rfl (st_callv (vs := [.agg ⟨(bookL b A n cp)⟩, .int .i64 (k : Int)]) (v := .int .i64 0) hsD (.func _) ⟨(Ev.tmp h48), (Ev.tmp h49), trivial⟩ rfl hf call83 rfl (by have h := kind_v b A n cp k x hx _ (hP.kp hsD.kp) hn; rw [hl] at h; exact h) fun _ _ => hk _ _ _ _ ⟨rfl, rfl⟩)
   · rintro T_ B_ a_ w_ K_ hT hB hf hsD hk
     exact ob rfl rfl (st_field (o' := 2) hsD (evT hT 0 rfl) rfl hf runUnderlying123 rfl sizeOf24 rfl rfl fun _ _ => hk _ _ _ _ ⟨rfl, rfl⟩)
   · rintro T_ B_ a_ w_ K_ hT hB _ _ ⟨rfl, rfl⟩ h50 - _ _ ⟨rfl, rfl⟩ h51 - hf hsD hk
     exact ob rfl rfl (st_indexArr (o' := 2) hsD (Ev.tmp h51) (Ev.tmp h50) rfl hf runUnderlying24 sizeOf23 (by decide) rfl fun _ _ => hk _ _ _ _ ⟨rfl, rfl⟩)
   · rintro T_ B_ a_ w_ K_ hT hB _ _ ⟨rfl, rfl⟩ h52 - hf hsD hk
     exact ob rfl rfl (st_loadA (o := 0) (off := 2) (vs := [.int .i64 b.drink0.lo, .int .i64 b.drink0.hi]) hsD (Ev.tmp h52) rfl hf isAgg23 sizeOf23 (hsD.cellsM (inB hB 0 rfl)) rfl fun _ _ => hk _ _ _ _ ⟨rfl, rfl⟩)
   · rintro T_ B_ a_ w_ K_ hT hB _ _ ⟨rfl, rfl⟩ h47 - _ _ ⟨rfl, rfl⟩ h53 - hf hsD hk
     exact ob rfl rfl (st_callv (vs := [.agg ⟨[.int .i64 b.drink0.lo, .int .i64 b.drink0.hi]⟩]) hsD (Ev.tmp h47) ⟨(Ev.tmp h53), trivial⟩ rfl hf call81 rfl (low1_v b.drink0.lo b.drink0.hi _) fun _ _ => hk _ _ _ _ ⟨rfl, rfl⟩)
   · rintro T_ B_ a_ w_ K_ hT hB _ _ ⟨rfl, rfl⟩ h54 - hf hsD hk
     exact ob rfl rfl (st_move hsD (Ev.tmp h54) rfl hf fun _ _ => hk _ _ _ _ ⟨rfl, rfl⟩)
   · rintro T_ B_ a_ w_ K_ hT hB _ _ ⟨rfl, rfl⟩ h45 - hf hsD hk
     exact ob rfl rfl (st_extract hsD (Ev.tmp h45) rfl hf rfl fun _ _ => hk _ _ _ _ ⟨rfl, rfl⟩)
   · rintro T_ B_ a_ w_ K_ hT hB _ _ ⟨rfl, rfl⟩ h45 - hf hsD hk
     exact ob rfl rfl (st_extract hsD (Ev.tmp h45) rfl hf rfl fun _ _ => hk _ _ _ _ ⟨rfl, rfl⟩)
   · rintro T_ B_ a_ w_ K_ hT hB _ _ ⟨rfl, rfl⟩ h55 - hf hsD hk
     exact ob rfl rfl (st_assign hsD (Ev.tmp h55) rfl hf fun _ _ => hk _ _ _ _ ⟨rfl, rfl⟩)
   rintro _ _ ⟨rfl, rfl⟩ _ _ ⟨rfl, rfl⟩ _ _ ⟨rfl, rfl⟩ _ _ ⟨rfl, rfl⟩ _ _ ⟨rfl, rfl⟩ _ _ ⟨rfl, rfl⟩ _ _ ⟨rfl, rfl⟩ _ _ ⟨rfl, rfl⟩ _ _ ⟨rfl, rfl⟩ _ _ ⟨rfl, rfl⟩ _ _ ⟨rfl, rfl⟩ _ _ ⟨rfl, rfl⟩ _ _ ⟨rfl, rfl⟩ a_62 w_62 hs62; clear hs61
   have hs63 := Sx.as (T' := [_, _, _, _, _, _, _, _, _, _, _, _, _, _, _, _, _, _, _, _, _, _, _, _]) (B' := [_, _, _, _, _, _, _, _, _]) rfl rfl hs62; clear hs62
   refine sq rfl (st_assign hs63 (Ev.t 11 rfl) rfl rfl fun _ _ hs64 => ?_); clear hs63
   refine hK31 _ _ ?_; clear hK31
   have hs65 := hs64.keep [0, 14, 15, 16, 17, 18, 19, 20, 21, 22, 23, 24] [_, _, _, _, _, _, _, _, _, _, _, _] rfl; clear hs64
   refine cd_drawn1 mixed hs65 [⟨57, [], Is (.int .i64 1)⟩, ⟨58, [], Is (.pointer (some ⟨b30, 0, none⟩))⟩, ⟨59, [1], Is (.int .i64 b.tank)⟩, ⟨60, [], Is (.int .i64 1)⟩, ⟨61, [3], Is (.pointer (some ⟨b3, 1, none⟩))⟩, ⟨62, [4], Is (.int .i64 v)⟩, ⟨63, [], Is (.int .i64 1)⟩, ⟨64, [6], Is (.pointer (some ⟨b8, 1, none⟩))⟩, ⟨65, [7], Is (.int .i64 y.w)⟩, ⟨66, [], Is (.pointer (some ⟨b30, 1, none⟩))⟩, ⟨67, [9], Is (.int .i64 b.pail)⟩, ⟨68, [8, 10], Is (.int .i64 (y.w * b.pail))⟩, ⟨69, [5, 11], Is (.int .i64 (v + (y.w * b.pail)))⟩, ⟨70, [12], fun v_ bs_ => ∃ b32, v_ = .slice (some ⟨b32, 0, none⟩) 1 1 ∧ bs_ = [(b32, some (.cells ⟨[.int .i64 (v + (y.w * b.pail))]⟩ 3 (0, 0)))]⟩, ⟨71, [2, 13], Is (.int .i64 (min b.tank (v + (y.w * b.pail))))⟩, ⟨72, [], Is (.int .i64 x.mi.hi)⟩, ⟨73, [], Is (.int .i64 b.drink0.hi)⟩, ⟨74, [15, 16], Is (.int .i64 (x.mi.hi * b.drink0.hi))⟩, ⟨75, [14, 17], Is (.int .i64 ((min b.tank (v + (y.w * b.pail))) - (x.mi.hi * b.drink0.hi)))⟩] (by kernel_rfl) (by kernel_rfl) ⟨⟨?_, ?_, ?_, ?_, ?_, ?_, ?_, ?_, ?_, ?_, ?_, ?_, ?_, ?_, ?_, ?_, ?_, ?_, ?_, trivial⟩, ?_⟩
   · rintro T_ B_ a_ w_ K_ hT hB hf hsD hk
     exact ob rfl rfl (st_move hsD (evT hT 2 rfl) rfl hf fun _ _ => hk _ _ _ _ ⟨rfl, rfl⟩)
   · rintro T_ B_ a_ w_ K_ hT hB hf hsD hk
     exact ob rfl rfl (st_field (o' := 0) hsD (evT hT 1 rfl) rfl hf runUnderlying123 rfl sizeOf3 rfl rfl fun _ _ => hk _ _ _ _ ⟨rfl, rfl⟩)
   · rintro T_ B_ a_ w_ K_ hT hB _ _ ⟨rfl, rfl⟩ h58 - hf hsD hk
     exact ob rfl rfl (st_load1 (o := 0) (off := 0) (v := .int .i64 b.tank) hsD (Ev.tmp h58) rfl hf isAgg3 (hsD.cellsM (inB hB 0 rfl)) rfl fun _ _ => hk _ _ _ _ ⟨rfl, rfl⟩)
   · rintro T_ B_ a_ w_ K_ hT hB hf hsD hk
     exact ob rfl rfl (st_move hsD (evT hT 2 rfl) rfl hf fun _ _ => hk _ _ _ _ ⟨rfl, rfl⟩)
   · rintro T_ B_ a_ w_ K_ hT hB _ _ ⟨rfl, rfl⟩ h60 - hf hsD hk
     exact ob rfl rfl (st_indexArr (o' := 1) hsD (evT hT 9 rfl) (Ev.tmp h60) rfl hf runUnderlying103 sizeOf3 (by decide) rfl fun _ _ => hk _ _ _ _ ⟨rfl, rfl⟩)
   · rintro T_ B_ a_ w_ K_ hT hB _ _ ⟨rfl, rfl⟩ h61 - hf hsD hk
     exact ob rfl rfl (st_load1 (o := 0) (off := 1) (v := .int .i64 v) hsD (Ev.tmp h61) rfl hf isAgg3 (hsD.cellsM (inB hB 7 rfl)) rfl fun _ _ => hk _ _ _ _ ⟨rfl, rfl⟩)
   · rintro T_ B_ a_ w_ K_ hT hB hf hsD hk
     exact ob rfl rfl (st_move hsD (evT hT 2 rfl) rfl hf fun _ _ => hk _ _ _ _ ⟨rfl, rfl⟩)
   · rintro T_ B_ a_ w_ K_ hT hB _ _ ⟨rfl, rfl⟩ h63 - hf hsD hk
     exact ob rfl rfl (st_indexArr (o' := 1) hsD (evT hT 6 rfl) (Ev.tmp h63) rfl hf runUnderlying103 sizeOf3 (by decide) rfl fun _ _ => hk _ _ _ _ ⟨rfl, rfl⟩)
   · rintro T_ B_ a_ w_ K_ hT hB _ _ ⟨rfl, rfl⟩ h64 - hf hsD hk
     exact ob rfl rfl (st_load1 (o := 0) (off := 1) (v := .int .i64 y.w) hsD (Ev.tmp h64) rfl hf isAgg3 (hsD.cellsM (inB hB 3 rfl)) rfl fun _ _ => hk _ _ _ _ ⟨rfl, rfl⟩)
   · rintro T_ B_ a_ w_ K_ hT hB hf hsD hk
     exact ob rfl rfl (st_field (o' := 1) hsD (evT hT 1 rfl) rfl hf runUnderlying123 rfl sizeOf3 rfl rfl fun _ _ => hk _ _ _ _ ⟨rfl, rfl⟩)
   · rintro T_ B_ a_ w_ K_ hT hB _ _ ⟨rfl, rfl⟩ h66 - hf hsD hk
     exact ob rfl rfl (st_load1 (o := 0) (off := 1) (v := .int .i64 b.pail) hsD (Ev.tmp h66) rfl hf isAgg3 (hsD.cellsM (inB hB 0 rfl)) rfl fun _ _ => hk _ _ _ _ ⟨rfl, rfl⟩)
   · rintro T_ B_ a_ w_ K_ hT hB _ _ ⟨rfl, rfl⟩ h65 - _ _ ⟨rfl, rfl⟩ h67 - hf hsD hk
     exact ob rfl rfl (st_mul (z := y.w * b.pail) hsD (Ev.tmp h65) (Ev.tmp h67) rfl hf rfl (by omega) fun _ _ => hk _ _ _ _ ⟨rfl, rfl⟩)
   · rintro T_ B_ a_ w_ K_ hT hB _ _ ⟨rfl, rfl⟩ h62 - _ _ ⟨rfl, rfl⟩ h68 - hf hsD hk
     exact ob rfl rfl (st_add (z := v + (y.w * b.pail)) hsD (Ev.tmp h62) (Ev.tmp h68) rfl hf rfl (by omega) fun _ _ => hk _ _ _ _ ⟨rfl, rfl⟩)
   · rintro T_ B_ a_ w_ K_ hT hB _ _ ⟨rfl, rfl⟩ h69 - hf hsD hk
     exact ob rfl rfl (st_buildSlice hsD (qs := [(0, .int .i64 (v + (y.w * b.pail)))]) (e := 3) (l := [.int .i64 (v + (y.w * b.pail))]) ⟨(Ev.tmp h69), trivial⟩ rfl hf rfl (fun _ => by kernel_rfl) fun b32 _ _ => hk _ _ _ _ ⟨b32, rfl, rfl⟩)
   · rintro T_ B_ a_ w_ K_ hT hB _ _ ⟨rfl, rfl⟩ h59 - _ _ ⟨b32, rfl, rfl⟩ h70 hB70 hf hsD hk
     exact ob rfl rfl (st_callv (vs := [.int .i64 b.tank, .slice (some ⟨b32, 0, none⟩) 1 1]) hsD (.func _) ⟨(Ev.tmp h59), (Ev.tmp h70), trivial⟩ rfl hf call84 rfl (least_v b.tank (v + (y.w * b.pail)) b32 0 _ (hsD.cellsM (hB70 _ List.mem_cons_self))) fun _ _ => hk _ _ _ _ ⟨rfl, rfl⟩)
   · rintro T_ B_ a_ w_ K_ hT hB hf hsD hk
     exact ob rfl rfl (st_move hsD (evT hT 5 rfl) rfl hf fun _ _ => hk _ _ _ _ ⟨rfl, rfl⟩)
   · rintro T_ B_ a_ w_ K_ hT hB hf hsD hk
     exact ob rfl rfl (st_move hsD (evT hT 0 rfl) rfl hf fun _ _ => hk _ _ _ _ ⟨rfl, rfl⟩)
   · rintro T_ B_ a_ w_ K_ hT hB _ _ ⟨rfl, rfl⟩ h72 - _ _ ⟨rfl, rfl⟩ h73 - hf hsD hk
     exact ob rfl rfl (st_mul (z := x.mi.hi * b.drink0.hi) hsD (Ev.tmp h72) (Ev.tmp h73) rfl hf rfl (by omega) fun _ _ => hk _ _ _ _ ⟨rfl, rfl⟩)
   · rintro T_ B_ a_ w_ K_ hT hB _ _ ⟨rfl, rfl⟩ h71 - _ _ ⟨rfl, rfl⟩ h74 - hf hsD hk
     exact ob rfl rfl (st_sub (z := (min b.tank (v + (y.w * b.pail))) - (x.mi.hi * b.drink0.hi)) hsD (Ev.tmp h71) (Ev.tmp h74) rfl hf rfl (by omega) fun _ _ => hk _ _ _ _ ⟨rfl, rfl⟩)
   rintro _ _ ⟨rfl, rfl⟩ _ _ ⟨rfl, rfl⟩ _ _ ⟨rfl, rfl⟩ _ _ ⟨rfl, rfl⟩ _ _ ⟨rfl, rfl⟩ _ _ ⟨rfl, rfl⟩ _ _ ⟨rfl, rfl⟩ _ _ ⟨rfl, rfl⟩ _ _ ⟨rfl, rfl⟩ _ _ ⟨rfl, rfl⟩ _ _ ⟨rfl, rfl⟩ _ _ ⟨rfl, rfl⟩ _ _ ⟨rfl, rfl⟩ _ _ ⟨b32, rfl, rfl⟩ _ _ ⟨rfl, rfl⟩ _ _ ⟨rfl, rfl⟩ _ _ ⟨rfl, rfl⟩ _ _ ⟨rfl, rfl⟩ _ _ ⟨rfl, rfl⟩ a_66 w_66 hs66; clear hs65
   have hs67 := Sx.as (T' := [_, _, _, _, _, _, _, _, _, _, _, _, _, _, _, _, _, _, _, _, _, _, _, _, _, _, _, _, _, _, _]) (B' := [_, _, _, _, _, _, _, _, _, _]) rfl rfl hs66; clear hs66
   refine sq rfl (st_indexArr (o' := 1) hs67 (Ev.t 28 rfl) (Ev.t 0 rfl) rfl rfl runUnderlying103 sizeOf3 (by decide) rfl fun _ _ hs68 => ?_); clear hs67
   refine sq rfl (st_store (l' := [.int .i64 ((min b.bunker (c + (y.c * b.scoop))) - (x.mi.hi * b.burn0.hi)), .int .i64 ((min b.tank (v + (y.w * b.pail))) - (x.mi.hi * b.drink0.hi))]) (vs := [.int .i64 ((min b.tank (v + (y.w * b.pail))) - (x.mi.hi * b.drink0.hi))]) (i := 8) hs68 (Ev.t 0 rfl) (Ev.t 19 rfl) sizeOf3 rfl rfl rfl rfl rfl rfl fun _ _ hs69 => ?_); clear hs68
   have hs70 := hs69.asB [_, _, _, _, _, _, _, _, _, _] rfl; clear hs69
   refine wpListIn_nil ?_
   have hs71 := hs70.keep [23, 24, 25, 26, 27, 28, 29, 30, 31] [_, _, _, _, _, _, _, _, _] rfl; clear hs70
   refine in_norm ?_
   refine th_norm (hK27 _ _ ?_)
   refine cd_region1 ?_
   refine sq rfl (st_add (z := 2) hs71 (Ev.t 0 rfl) (.const _) rfl rfl rfl (by omega) fun _ _ hs72 => ?_); clear hs71
   have hs73 := hs72.keep [0, 2, 3, 4, 5, 6, 7, 8, 9] [_, _, _, _, _, _, _, _, _] rfl; clear hs72
   refine sq rfl (st_move hs73 (Ev.t 0 rfl) rfl rfl fun _ _ hs74 => ?_); clear hs73
   refine wpListIn_nil ?_
   have hs75 := hs74.keep [0, 2, 3, 4, 5, 6, 7, 8, 9] [_, _, _, _, _, _, _, _, _] rfl; clear hs74
   refine th_norm (hK23 _ _ ?_); clear hK23
   refine cd_round fun K33 hK33 => ?_
   refine cd_region fun K34 hK34 => ?_
   refine sq rfl (st_cmp (c := decide ((2 : Int) < 2)) hs75 (Ev.t 0 rfl) (.const _) rfl rfl rfl rfl fun _ _ hs76 => ?_); clear hs75
   refine hK34 _ _ ?_; clear hK34
   refine cd_seq fun K35 hK35 => ?_
   have hc36 : (decide ((2 : Int) < 2)) = false := by decide
   refine cd_cond hs76 (Ev.t 0 rfl) (fun h => absurd (hc36.symm.trans h) (by decide)) (fun _ => ?_)
   refine cd_exit ?_
   refine th_exit ?_
   refine th_exit ?_
   refine in_hit ?_
   refine th_norm (hK11 _ _ ?_)
   refine cd_region fun K37 hK37 => ?_
   refine sq rfl (st_loadA (o := 0) (off := 0) (vs := [.int .i64 ((min b.bunker (c + (y.c * b.scoop))) - (x.mi.hi * b.burn0.hi)), .int .i64 ((min b.tank (v + (y.w * b.pail))) - (x.mi.hi * b.drink0.hi))]) hs76 (Ev.t 7 rfl) rfl rfl isAgg103 sizeOf103 (hs76.cells 8 rfl) rfl fun _ _ hs77 => ?_); clear hs76
   refine sq rfl (st_store (l' := [.int .i64 ((min b.bunker (c + (y.c * b.scoop))) - (x.mi.hi * b.burn0.hi)), .int .i64 ((min b.tank (v + (y.w * b.pail))) - (x.mi.hi * b.drink0.hi))]) (vs := [.int .i64 ((min b.bunker (c + (y.c * b.scoop))) - (x.mi.hi * b.burn0.hi)), .int .i64 ((min b.tank (v + (y.w * b.pail))) - (x.mi.hi * b.drink0.hi))]) (i := 5) hs77 (Ev.t 6 rfl) (Ev.t 0 rfl) sizeOf103 rfl rfl rfl rfl rfl rfl fun _ _ hs78 => ?_); clear hs77
   have hs79 := hs78.asB [_, _, _, _, _, _, _, _, _, _] rfl; clear hs78
   refine hK37 _ _ ?_; clear hK37
   have hs80 := hs79.keep [6] [_] rfl; clear hs79
   refine cd_retv (vs := [.agg ⟨[.int .i64 ((min b.bunker (c + (y.c * b.scoop))) - (x.mi.hi * b.burn0.hi)), .int .i64 ((min b.tank (v + (y.w * b.pail))) - (x.mi.hi * b.drink0.hi))]⟩]) hs80 hQ0 rfl ⟨resA (o := 0) (off := 0) (vs := [.int .i64 ((min b.bunker (c + (y.c * b.scoop))) - (x.mi.hi * b.burn0.hi)), .int .i64 ((min b.tank (v + (y.w * b.pail))) - (x.mi.hi * b.drink0.hi))]) 0 rfl isAgg103 sizeOf103 (hs80.cells 5 rfl) rfl, trivial⟩ ?_
   clear hs80 hQ0 hN0
   simp [pack, Book.afterC, Book.afterW, Book.burn, Book.drink, Span.end, hl]
 · skip
   refine cd_region fun K38 hK38 => ?_
   refine sq rfl (st_box hs0 (Ev.t 0 rfl) rfl rfl rfl fun b39 _ _ hs1 => ?_); clear hs0
   refine sq rfl (st_box hs1 (Ev.t 3 rfl) rfl rfl rfl fun b40 _ _ hs2 => ?_); clear hs1
   refine sq rfl (st_box hs2 (Ev.t 5 rfl) rfl rfl rfl fun b41 _ _ hs3 => ?_); clear hs2
   refine sq rfl (st_box hs3 (Ev.t 7 rfl) rfl rfl rfl fun b42 _ _ hs4 => ?_); clear hs3
   refine sq rfl (st_alloc hs4 rfl rfl zeroValue103 rfl fun b43 _ _ hs5 => ?_); clear hs4
   refine hK38 _ _ ?_; clear hK38
   have hs6 := hs5.keep [0, 1, 2, 3, 4, 6] [_, _, _, _, _, _] rfl; clear hs5
   refine cd_region fun K44 hK44 => ?_
   refine sq rfl (st_field (o' := 0) hs6 (Ev.t 2 rfl) rfl rfl runUnderlying64 rfl sizeOf3 rfl rfl fun _ _ hs7 => ?_); clear hs6
   refine sq rfl (st_load1 (o := 0) (off := 0) (v := .int .i64 y.c) hs7 (Ev.t 0 rfl) rfl rfl isAgg3 (hs7.cells 2 rfl) rfl fun _ _ hs8 => ?_); clear hs7
   refine sq rfl (st_field (o' := 1) hs8 (Ev.t 4 rfl) rfl rfl runUnderlying64 rfl sizeOf3 rfl rfl fun _ _ hs9 => ?_); clear hs8
   refine sq rfl (st_load1 (o := 0) (off := 1) (v := .int .i64 y.w) hs9 (Ev.t 0 rfl) rfl rfl isAgg3 (hs9.cells 2 rfl) rfl fun _ _ hs10 => ?_); clear hs9
   refine sq rfl (st_build hs10 (qs := [(0, .int .i64 y.c), (1, .int .i64 y.w)]) (v := .agg ⟨[.int .i64 y.c, .int .i64 y.w]⟩) ⟨(Ev.t 2 rfl), (Ev.t 0 rfl), trivial⟩ rfl rfl rfl (fun _ => by kernel_rfl) fun _ _ hs11 => ?_); clear hs10
   refine sq rfl (st_alloc hs11 rfl rfl zeroValue103 rfl fun b45 _ _ hs12 => ?_); clear hs11
   refine sq rfl (st_store (l' := [.int .i64 y.c, .int .i64 y.w]) (vs := [.int .i64 y.c, .int .i64 y.w]) (i := 0) hs12 (Ev.t 0 rfl) (Ev.t 1 rfl) sizeOf103 rfl rfl rfl rfl rfl rfl fun _ _ hs13 => ?_); clear hs12
   have hs14 := hs13.asB [_, _, _, _, _, _] rfl; clear hs13
   refine hK44 _ _ ?_; clear hK44
   have hs15 := hs14.keep [0, 6, 7, 9, 10, 11] [_, _, _, _, _, _] rfl; clear hs14
   obtain ⟨b46, o46, hA46, -, hc46⟩ := hP.el k x hx
   refine cd_drawn mixed hs15 [⟨25, [], Is (.pointer (some ⟨b42, 0, none⟩))⟩, ⟨26, [0], Is (.func (.func 81) ⟨[]⟩ ⟨[]⟩)⟩, ⟨27, [], Is (.pointer (some ⟨b39, 0, none⟩))⟩, ⟨28, [2], Is (.pointer (some ⟨b39, 22, none⟩))⟩, ⟨29, [3], Is (.slice A n cp)⟩, ⟨30, [], Is (.int .i64 (k : Int))⟩, ⟨31, [4, 5], Is (.pointer (some ⟨b46, o46 + k * 4, none⟩))⟩, ⟨32, [6], Is (.pointer (some ⟨b46, o46 + k * 4, none⟩))⟩, ⟨33, [7], Is (.agg ⟨[.int .i64 x.mi.lo, .int .i64 x.mi.hi]⟩)⟩, ⟨34, [1, 8], Is (.tuple ⟨[.int .i64 x.mi.lo, .int .i64 x.mi.hi]⟩)⟩, ⟨24, [9], Is (.tuple ⟨[.int .i64 x.mi.lo, .int .i64 x.mi.hi]⟩)⟩, ⟨35, [10], Is (.int .i64 x.mi.lo)⟩, ⟨36, [10], Is (.int .i64 x.mi.hi)⟩, ⟨12, [11], Is (.int .i64 x.mi.lo)⟩] (by kernel_rfl) (by kernel_rfl) fun K47 hK47 => ⟨⟨?_, ?_, ?_, ?_, ?_, ?_, ?_, ?_, ?_, ?_, ?_, ?_, ?_, ?_, trivial⟩, ?_⟩
   · rintro T_ B_ a_ w_ K_ hT hB hf hsD hk
     exact ob rfl rfl (st_field (o' := 0) hsD (evT hT 2 rfl) rfl hf runUnderlying107 rfl sizeOf105 rfl rfl fun _ _ => hk _ _ _ _ ⟨rfl, rfl⟩)
   · rintro T_ B_ a_ w_ K_ hT hB _ _ ⟨rfl, rfl⟩ h25 - hf hsD hk
     exact ob rfl rfl (st_load1 (o := 0) (off := 0) (v := .func (.func 81) ⟨[]⟩ ⟨[]⟩) hsD (Ev.tmp h25) rfl hf isAgg105 (hsD.cellsM (inB hB 2 rfl)) rfl fun _ _ => hk _ _ _ _ ⟨rfl, rfl⟩)
   · rintro T_ B_ a_ w_ K_ hT hB hf hsD hk
     exact ob rfl rfl (st_field (o' := 0) hsD (evT hT 4 rfl) rfl hf runUnderlying75 rfl sizeOf27 rfl rfl fun _ _ => hk _ _ _ _ ⟨rfl, rfl⟩)
   · rintro T_ B_ a_ w_ K_ hT hB _ _ ⟨rfl, rfl⟩ h27 - hf hsD hk
     exact ob rfl rfl (st_field (o' := 22) hsD (Ev.tmp h27) rfl hf runUnderlying27 rfl sizeOf25 rfl rfl fun _ _ => hk _ _ _ _ ⟨rfl, rfl⟩)
   · rintro T_ B_ a_ w_ K_ hT hB _ _ ⟨rfl, rfl⟩ h28 - hf hsD hk
     exact ob rfl rfl (st_load1 (o := 0) (off := 22) (v := .slice A n cp) hsD (Ev.tmp h28) rfl hf isAgg25 (hsD.cellsM (inB hB 5 rfl)) rfl fun _ _ => hk _ _ _ _ ⟨rfl, rfl⟩)
   · rintro T_ B_ a_ w_ K_ hT hB hf hsD hk
     exact ob rfl rfl (st_move hsD (evT hT 5 rfl) rfl hf fun _ _ => hk _ _ _ _ ⟨rfl, rfl⟩)
   · rintro T_ B_ a_ w_ K_ hT hB _ _ ⟨rfl, rfl⟩ h29 - _ _ ⟨rfl, rfl⟩ h30 - hf hsD hk
     exact ob rfl rfl (st_indexM (o' := o46 + k * 4) hsD (Ev.tmp h29) (Ev.tmp h30) rfl hf hA46 runUnderlying25 sizeOf66 ⟨by omega, by have := hP.len; have := (List.getElem?_eq_some_iff.1 hx).1; omega⟩ rfl fun _ _ => hk _ _ _ _ ⟨rfl, rfl⟩)
   · rintro T_ B_ a_ w_ K_ hT hB _ _ ⟨rfl, rfl⟩ h31 - hf hsD hk
     exact ob rfl rfl (st_field (o' := o46 + k * 4) hsD (Ev.tmp h31) rfl hf runUnderlying66 rfl sizeOf23 rfl rfl fun _ _ => hk _ _ _ _ ⟨rfl, rfl⟩)
   · rintro T_ B_ a_ w_ K_ hT hB _ _ ⟨rfl, rfl⟩ h32 - hf hsD hk
     exact ob rfl rfl (st_loadA (o := o46 + k * 4) (off := 0) (vs := [.int .i64 x.mi.lo, .int .i64 x.mi.hi]) hsD (Ev.tmp h32) rfl hf isAgg23 sizeOf23 (hsD.old hc46 (by simp)) rfl fun _ _ => hk _ _ _ _ ⟨rfl, rfl⟩)
   · rintro T_ B_ a_ w_ K_ hT hB _ _ ⟨rfl, rfl⟩ h26 - _ _ ⟨rfl, rfl⟩ h33 - hf hsD hk
     exact ob rfl rfl (st_callv (vs := [.agg ⟨[.int .i64 x.mi.lo, .int .i64 x.mi.hi]⟩]) hsD (Ev.tmp h26) ⟨(Ev.tmp h33), trivial⟩ rfl hf call81 rfl (low1_v x.mi.lo x.mi.hi _) fun _ _ => hk _ _ _ _ ⟨rfl, rfl⟩)
   · rintro T_ B_ a_ w_ K_ hT hB _ _ ⟨rfl, rfl⟩ h34 - hf hsD hk
     exact ob rfl rfl (st_move hsD (Ev.tmp h34) rfl hf fun _ _ => hk _ _ _ _ ⟨rfl, rfl⟩)
   · rintro T_ B_ a_ w_ K_ hT hB _ _ ⟨rfl, rfl⟩ h24 - hf hsD hk
     exact ob rfl rfl (st_extract hsD (Ev.tmp h24) rfl hf rfl fun _ _ => hk _ _ _ _ ⟨rfl, rfl⟩)
   · rintro T_ B_ a_ w_ K_ hT hB _ _ ⟨rfl, rfl⟩ h24 - hf hsD hk
     exact ob rfl rfl (st_extract hsD (Ev.tmp h24) rfl hf rfl fun _ _ => hk _ _ _ _ ⟨rfl, rfl⟩)
   · rintro T_ B_ a_ w_ K_ hT hB _ _ ⟨rfl, rfl⟩ h35 - hf hsD hk
     exact ob rfl rfl (st_assign hsD (Ev.tmp h35) rfl hf fun _ _ => hk _ _ _ _ ⟨rfl, rfl⟩)
   rintro _ _ ⟨rfl, rfl⟩ _ _ ⟨rfl, rfl⟩ _ _ ⟨rfl, rfl⟩ _ _ ⟨rfl, rfl⟩ _ _ ⟨rfl, rfl⟩ _ _ ⟨rfl, rfl⟩ _ _ ⟨rfl, rfl⟩ _ _ ⟨rfl, rfl⟩ _ _ ⟨rfl, rfl⟩ _ _ ⟨rfl, rfl⟩ _ _ ⟨rfl, rfl⟩ _ _ ⟨rfl, rfl⟩ _ _ ⟨rfl, rfl⟩ _ _ ⟨rfl, rfl⟩ a_16 w_16 hs16; clear hs15
   have hs17 := Sx.as (T' := [_, _, _, _, _, _, _, _, _, _, _, _, _, _, _, _, _, _, _, _]) (B' := [_, _, _, _, _, _]) rfl rfl hs16; clear hs16
   refine sq rfl (st_assign hs17 (Ev.t 12 rfl) rfl rfl fun _ _ hs18 => ?_); clear hs17
   refine hK47 _ _ ?_; clear hK47
   have hs19 := hs18.keep [0, 15, 16, 17, 18, 19, 20] [_, _, _, _, _, _, _] rfl; clear hs18
   refine cd_seq fun K48 hK48 => ?_
   refine cd_region fun K49 hK49 => ?_
   refine sq rfl (st_loadA (o := 0) (off := 0) (vs := stuffsL) hs19 (.global _) rfl rfl isAgg121 sizeOf121 (hs19.old hG (by simp)) rfl fun _ _ hs20 => ?_); clear hs19
   refine sq rfl (st_move hs20 (.const _) rfl rfl fun _ _ hs21 => ?_); clear hs20
   refine hK49 _ _ ?_; clear hK49
   refine cd_block ?_
   refine cd_rounds 3 ?_
   refine cd_round fun K50 hK50 => ?_
   refine cd_region fun K51 hK51 => ?_
   refine sq rfl (st_cmp (c := decide ((0 : Int) < 2)) hs21 (Ev.t 0 rfl) (.const _) rfl rfl rfl rfl fun _ _ hs22 => ?_); clear hs21
   refine hK51 _ _ ?_; clear hK51
   refine cd_seq fun K52 hK52 => ?_
   have hc53 : (decide ((0 : Int) < 2)) = true := by decide
   refine cd_cond hs22 (Ev.t 0 rfl) (fun _ => ?_) (fun h => absurd (hc53.symm.trans h) (by decide))
   refine cd_skip ?_
   refine th_norm (hK52 _ _ ?_)
   refine cd_seq fun K54 hK54 => ?_
   refine cd_block ?_
   refine cd_region fun K55 hK55 => ?_
   refine sq rfl (st_move hs22 (Ev.t 1 rfl) rfl rfl fun _ _ hs23 => ?_); clear hs22
   refine sq rfl (st_index1 (v := .func (.func 103) ⟨[]⟩ ⟨[]⟩) hs23 (Ev.t 3 rfl) (Ev.t 2 rfl) rfl rfl runUnderlying121 isAgg120 sizeOf120 (by decide) rfl fun _ _ hs24 => ?_); clear hs23
   refine sq rfl (st_assign hs24 (Ev.t 1 rfl) rfl rfl fun _ _ hs25 => ?_); clear hs24
   refine sq rfl (st_assign hs25 (Ev.t 1 rfl) rfl rfl fun _ _ hs26 => ?_); clear hs25
   refine hK55 _ _ ?_; clear hK55
   have hs27 := hs26.keep [0, 1, 5, 6, 7, 8, 9, 10, 11, 12, 13] [_, _, _, _, _, _, _, _, _, _, _] rfl; clear hs26
   refine cd_region fun K56 hK56 => ?_
   refine sq rfl (st_move hs27 (Ev.t 0 rfl) rfl rfl fun _ _ hs28 => ?_); clear hs27
   refine sq rfl (st_loadA (o := 0) (off := 0) (vs := (bookL b A n cp)) hs28 (Ev.t 10 rfl) rfl rfl isAgg75 sizeOf75 (hs28.cells 5 rfl) rfl fun _ _ hs29 => ?_); clear hs28
   refine sq rfl (st_callv (vs := [.agg ⟨(bookL b A n cp)⟩]) hs29 (Ev.t 1 rfl) ⟨(Ev.t 0 rfl), trivial⟩ rfl rfl call103 rfl (coal_v b A n cp _) fun _ _ hs30 => ?_); clear hs29
   refine sq rfl (st_alloc hs30 rfl rfl zeroValue123 rfl fun b57 _ _ hs31 => ?_); clear hs30
   refine sq rfl (st_store (l' := [.int .i64 b.bunker, .int .i64 b.scoop, .int .i64 b.burn0.lo, .int .i64 b.burn0.hi, .int .i64 b.burn1.lo, .int .i64 b.burn1.hi]) (vs := [.int .i64 b.bunker, .int .i64 b.scoop, .int .i64 b.burn0.lo, .int .i64 b.burn0.hi, .int .i64 b.burn1.lo, .int .i64 b.burn1.hi]) (i := 0) hs31 (Ev.t 0 rfl) (Ev.t 1 rfl) sizeOf123 rfl rfl rfl rfl rfl rfl fun _ _ hs32 => ?_); clear hs31
   have hs33 := hs32.asB [_, _, _, _, _, _, _] rfl; clear hs32
   refine hK56 _ _ ?_; clear hK56
   have hs34 := hs33.keep [0, 5, 6, 7, 8, 9, 10, 11, 12, 13, 14] [_, _, _, _, _, _, _, _, _, _, _] rfl; clear hs33
   refine cd_drawn mixed hs34 [⟨46, [], Is (.pointer (some ⟨b42, 0, none⟩))⟩, ⟨47, [0], Is (.func (.func 81) ⟨[]⟩ ⟨[]⟩)⟩, ⟨48, [], Is (.agg ⟨(bookL b A n cp)⟩)⟩, ⟨49, [], Is (.int .i64 (k : Int))⟩, ⟨50, [2, 3], Is (.int .i64 1)⟩, ⟨51, [], Is (.pointer (some ⟨b57, 2, none⟩))⟩, ⟨52, [4, 5], Is (.pointer (some ⟨b57, 4, none⟩))⟩, ⟨53, [6], Is (.agg ⟨[.int .i64 b.burn1.lo, .int .i64 b.burn1.hi]⟩)⟩, ⟨54, [1, 7], Is (.tuple ⟨[.int .i64 b.burn1.lo, .int .i64 b.burn1.hi]⟩)⟩, ⟨45, [8], Is (.tuple ⟨[.int .i64 b.burn1.lo, .int .i64 b.burn1.hi]⟩)⟩, ⟨55, [9], Is (.int .i64 b.burn1.lo)⟩, ⟨56, [9], Is (.int .i64 b.burn1.hi)⟩, ⟨17, [10], Is (.int .i64 b.burn1.lo)⟩] (by kernel_rfl) (by kernel_rfl) fun K58 hK58 => ⟨⟨?_, ?_, ?_, ?_, ?_, ?_, ?_, ?_, ?_, ?_, ?_, ?_, ?_, trivial⟩, ?_⟩
   · rintro T_ B_ a_ w_ K_ hT hB hf hsD hk
     exact ob rfl rfl (st_field (o' := 0) hsD (evT hT 7 rfl) rfl hf runUnderlying107 rfl sizeOf105 rfl rfl fun _ _ => hk _ _ _ _ ⟨rfl, rfl⟩)
   · rintro T_ B_ a_ w_ K_ hT hB _ _ ⟨rfl, rfl⟩ h46 - hf hsD hk
     exact ob rfl rfl (st_load1 (o := 0) (off := 0) (v := .func (.func 81) ⟨[]⟩ ⟨[]⟩) hsD (Ev.tmp h46) rfl hf isAgg105 (hsD.cellsM (inB hB 3 rfl)) rfl fun _ _ => hk _ _ _ _ ⟨rfl, rfl⟩)
   · rintro T_ B_ a_ w_ K_ hT hB hf hsD hk
     exact ob rfl rfl (st_loadA (o := 0) (off := 0) (vs := (bookL b A n cp)) hsD (evT hT 9 rfl) rfl hf isAgg75 sizeOf75 (hsD.cellsM (inB hB 6 rfl)) rfl fun _ _ => hk _ _ _ _ ⟨rfl, rfl⟩)
   · rintro T_ B_ a_ w_ K_ hT hB hf hsD hk
     exact ob rfl rfl (st_move hsD (evT hT 10 rfl) rfl hf fun _ _ => hk _ _ _ _ ⟨rfl, rfl⟩)
   · rintro T_ B_ a_ w_ K_ hT hB _ _ ⟨rfl, rfl⟩ h48 - _ _ ⟨rfl, rfl⟩ h49 - hf hsD hk
     exact ob rfl rfl (st_callv (vs := [.agg ⟨(bookL b A n cp)⟩, .int .i64 (k : Int)]) (v := .int .i64 1) hsD (.func _) ⟨(Ev.tmp h48), (Ev.tmp h49), trivial⟩ rfl hf call83 rfl (by have h := kind_v b A n cp k x hx _ (hP.kp hsD.kp) hn; rw [hl] at h; exact h) fun _ _ => hk _ _ _ _ ⟨rfl, rfl⟩)
   · rintro T_ B_ a_ w_ K_ hT hB hf hsD hk
     exact ob rfl rfl (st_field (o' := 2) hsD (evT hT 0 rfl) rfl hf runUnderlying123 rfl sizeOf24 rfl rfl fun _ _ => hk _ _ _ _ ⟨rfl, rfl⟩)
   · rintro T_ B_ a_ w_ K_ hT hB _ _ ⟨rfl, rfl⟩ h50 - _ _ ⟨rfl, rfl⟩ h51 - hf hsD hk
     exact ob rfl rfl (st_indexArr (o' := 4) hsD (Ev.tmp h51) (Ev.tmp h50) rfl hf runUnderlying24 sizeOf23 (by decide) rfl fun _ _ => hk _ _ _ _ ⟨rfl, rfl⟩)
   · rintro T_ B_ a_ w_ K_ hT hB _ _ ⟨rfl, rfl⟩ h52 - hf hsD hk
     exact ob rfl rfl (st_loadA (o := 0) (off := 4) (vs := [.int .i64 b.burn1.lo, .int .i64 b.burn1.hi]) hsD (Ev.tmp h52) rfl hf isAgg23 sizeOf23 (hsD.cellsM (inB hB 0 rfl)) rfl fun _ _ => hk _ _ _ _ ⟨rfl, rfl⟩)
   · rintro T_ B_ a_ w_ K_ hT hB _ _ ⟨rfl, rfl⟩ h47 - _ _ ⟨rfl, rfl⟩ h53 - hf hsD hk
     exact ob rfl rfl (st_callv (vs := [.agg ⟨[.int .i64 b.burn1.lo, .int .i64 b.burn1.hi]⟩]) hsD (Ev.tmp h47) ⟨(Ev.tmp h53), trivial⟩ rfl hf call81 rfl (low1_v b.burn1.lo b.burn1.hi _) fun _ _ => hk _ _ _ _ ⟨rfl, rfl⟩)
   · rintro T_ B_ a_ w_ K_ hT hB _ _ ⟨rfl, rfl⟩ h54 - hf hsD hk
     exact ob rfl rfl (st_move hsD (Ev.tmp h54) rfl hf fun _ _ => hk _ _ _ _ ⟨rfl, rfl⟩)
   · rintro T_ B_ a_ w_ K_ hT hB _ _ ⟨rfl, rfl⟩ h45 - hf hsD hk
     exact ob rfl rfl (st_extract hsD (Ev.tmp h45) rfl hf rfl fun _ _ => hk _ _ _ _ ⟨rfl, rfl⟩)
   · rintro T_ B_ a_ w_ K_ hT hB _ _ ⟨rfl, rfl⟩ h45 - hf hsD hk
     exact ob rfl rfl (st_extract hsD (Ev.tmp h45) rfl hf rfl fun _ _ => hk _ _ _ _ ⟨rfl, rfl⟩)
   · rintro T_ B_ a_ w_ K_ hT hB _ _ ⟨rfl, rfl⟩ h55 - hf hsD hk
     exact ob rfl rfl (st_assign hsD (Ev.tmp h55) rfl hf fun _ _ => hk _ _ _ _ ⟨rfl, rfl⟩)
   rintro _ _ ⟨rfl, rfl⟩ _ _ ⟨rfl, rfl⟩ _ _ ⟨rfl, rfl⟩ _ _ ⟨rfl, rfl⟩ _ _ ⟨rfl, rfl⟩ _ _ ⟨rfl, rfl⟩ _ _ ⟨rfl, rfl⟩ _ _ ⟨rfl, rfl⟩ _ _ ⟨rfl, rfl⟩ _ _ ⟨rfl, rfl⟩ _ _ ⟨rfl, rfl⟩ _ _ ⟨rfl, rfl⟩ _ _ ⟨rfl, rfl⟩ a_35 w_35 hs35; clear hs34
   have hs36 := Sx.as (T' := [_, _, _, _, _, _, _, _, _, _, _, _, _, _, _, _, _, _, _, _, _, _, _, _]) (B' := [_, _, _, _, _, _, _]) rfl rfl hs35; clear hs35
   refine sq rfl (st_assign hs36 (Ev.t 11 rfl) rfl rfl fun _ _ hs37 => ?_); clear hs36
   refine hK58 _ _ ?_; clear hK58
   have hs38 := hs37.keep [0, 14, 15, 16, 17, 18, 19, 20, 21, 22, 23, 24] [_, _, _, _, _, _, _, _, _, _, _, _] rfl; clear hs37
   refine cd_drawn1 mixed hs38 [⟨57, [], Is (.int .i64 0)⟩, ⟨58, [], Is (.pointer (some ⟨b57, 0, none⟩))⟩, ⟨59, [1], Is (.int .i64 b.bunker)⟩, ⟨60, [], Is (.int .i64 0)⟩, ⟨61, [3], Is (.pointer (some ⟨b40, 0, none⟩))⟩, ⟨62, [4], Is (.int .i64 c)⟩, ⟨63, [], Is (.int .i64 0)⟩, ⟨64, [6], Is (.pointer (some ⟨b45, 0, none⟩))⟩, ⟨65, [7], Is (.int .i64 y.c)⟩, ⟨66, [], Is (.pointer (some ⟨b57, 1, none⟩))⟩, ⟨67, [9], Is (.int .i64 b.scoop)⟩, ⟨68, [8, 10], Is (.int .i64 (y.c * b.scoop))⟩, ⟨69, [5, 11], Is (.int .i64 (c + (y.c * b.scoop)))⟩, ⟨70, [12], fun v_ bs_ => ∃ b59, v_ = .slice (some ⟨b59, 0, none⟩) 1 1 ∧ bs_ = [(b59, some (.cells ⟨[.int .i64 (c + (y.c * b.scoop))]⟩ 3 (0, 0)))]⟩, ⟨71, [2, 13], Is (.int .i64 (min b.bunker (c + (y.c * b.scoop))))⟩, ⟨72, [], Is (.int .i64 x.mi.hi)⟩, ⟨73, [], Is (.int .i64 b.burn1.hi)⟩, ⟨74, [15, 16], Is (.int .i64 (x.mi.hi * b.burn1.hi))⟩, ⟨75, [14, 17], Is (.int .i64 ((min b.bunker (c + (y.c * b.scoop))) - (x.mi.hi * b.burn1.hi)))⟩] (by kernel_rfl) (by kernel_rfl) ⟨⟨?_, ?_, ?_, ?_, ?_, ?_, ?_, ?_, ?_, ?_, ?_, ?_, ?_, ?_, ?_, ?_, ?_, ?_, ?_, trivial⟩, ?_⟩
   · rintro T_ B_ a_ w_ K_ hT hB hf hsD hk
     exact ob rfl rfl (st_move hsD (evT hT 2 rfl) rfl hf fun _ _ => hk _ _ _ _ ⟨rfl, rfl⟩)
   · rintro T_ B_ a_ w_ K_ hT hB hf hsD hk
     exact ob rfl rfl (st_field (o' := 0) hsD (evT hT 1 rfl) rfl hf runUnderlying123 rfl sizeOf3 rfl rfl fun _ _ => hk _ _ _ _ ⟨rfl, rfl⟩)
   · rintro T_ B_ a_ w_ K_ hT hB _ _ ⟨rfl, rfl⟩ h58 - hf hsD hk
     exact ob rfl rfl (st_load1 (o := 0) (off := 0) (v := .int .i64 b.bunker) hsD (Ev.tmp h58) rfl hf isAgg3 (hsD.cellsM (inB hB 0 rfl)) rfl fun _ _ => hk _ _ _ _ ⟨rfl, rfl⟩)
   · rintro T_ B_ a_ w_ K_ hT hB hf hsD hk
     exact ob rfl rfl (st_move hsD (evT hT 2 rfl) rfl hf fun _ _ => hk _ _ _ _ ⟨rfl, rfl⟩)
   · rintro T_ B_ a_ w_ K_ hT hB _ _ ⟨rfl, rfl⟩ h60 - hf hsD hk
     exact ob rfl rfl (st_indexArr (o' := 0) hsD (evT hT 9 rfl) (Ev.tmp h60) rfl hf runUnderlying103 sizeOf3 (by decide) rfl fun _ _ => hk _ _ _ _ ⟨rfl, rfl⟩)
   · rintro T_ B_ a_ w_ K_ hT hB _ _ ⟨rfl, rfl⟩ h61 - hf hsD hk
     exact ob rfl rfl (st_load1 (o := 0) (off := 0) (v := .int .i64 c) hsD (Ev.tmp h61) rfl hf isAgg3 (hsD.cellsM (inB hB 5 rfl)) rfl fun _ _ => hk _ _ _ _ ⟨rfl, rfl⟩)
   · rintro T_ B_ a_ w_ K_ hT hB hf hsD hk
     exact ob rfl rfl (st_move hsD (evT hT 2 rfl) rfl hf fun _ _ => hk _ _ _ _ ⟨rfl, rfl⟩)
   · rintro T_ B_ a_ w_ K_ hT hB _ _ ⟨rfl, rfl⟩ h63 - hf hsD hk
     exact ob rfl rfl (st_indexArr (o' := 0) hsD (evT hT 6 rfl) (Ev.tmp h63) rfl hf runUnderlying103 sizeOf3 (by decide) rfl fun _ _ => hk _ _ _ _ ⟨rfl, rfl⟩)
   · rintro T_ B_ a_ w_ K_ hT hB _ _ ⟨rfl, rfl⟩ h64 - hf hsD hk
     exact ob rfl rfl (st_load1 (o := 0) (off := 0) (v := .int .i64 y.c) hsD (Ev.tmp h64) rfl hf isAgg3 (hsD.cellsM (inB hB 1 rfl)) rfl fun _ _ => hk _ _ _ _ ⟨rfl, rfl⟩)
   · rintro T_ B_ a_ w_ K_ hT hB hf hsD hk
     exact ob rfl rfl (st_field (o' := 1) hsD (evT hT 1 rfl) rfl hf runUnderlying123 rfl sizeOf3 rfl rfl fun _ _ => hk _ _ _ _ ⟨rfl, rfl⟩)
   · rintro T_ B_ a_ w_ K_ hT hB _ _ ⟨rfl, rfl⟩ h66 - hf hsD hk
     exact ob rfl rfl (st_load1 (o := 0) (off := 1) (v := .int .i64 b.scoop) hsD (Ev.tmp h66) rfl hf isAgg3 (hsD.cellsM (inB hB 0 rfl)) rfl fun _ _ => hk _ _ _ _ ⟨rfl, rfl⟩)
   · rintro T_ B_ a_ w_ K_ hT hB _ _ ⟨rfl, rfl⟩ h65 - _ _ ⟨rfl, rfl⟩ h67 - hf hsD hk
     exact ob rfl rfl (st_mul (z := y.c * b.scoop) hsD (Ev.tmp h65) (Ev.tmp h67) rfl hf rfl (by omega) fun _ _ => hk _ _ _ _ ⟨rfl, rfl⟩)
   · rintro T_ B_ a_ w_ K_ hT hB _ _ ⟨rfl, rfl⟩ h62 - _ _ ⟨rfl, rfl⟩ h68 - hf hsD hk
     exact ob rfl rfl (st_add (z := c + (y.c * b.scoop)) hsD (Ev.tmp h62) (Ev.tmp h68) rfl hf rfl (by omega) fun _ _ => hk _ _ _ _ ⟨rfl, rfl⟩)
   · rintro T_ B_ a_ w_ K_ hT hB _ _ ⟨rfl, rfl⟩ h69 - hf hsD hk
     exact ob rfl rfl (st_buildSlice hsD (qs := [(0, .int .i64 (c + (y.c * b.scoop)))]) (e := 3) (l := [.int .i64 (c + (y.c * b.scoop))]) ⟨(Ev.tmp h69), trivial⟩ rfl hf rfl (fun _ => by kernel_rfl) fun b59 _ _ => hk _ _ _ _ ⟨b59, rfl, rfl⟩)
   · rintro T_ B_ a_ w_ K_ hT hB _ _ ⟨rfl, rfl⟩ h59 - _ _ ⟨b59, rfl, rfl⟩ h70 hB70 hf hsD hk
     exact ob rfl rfl (st_callv (vs := [.int .i64 b.bunker, .slice (some ⟨b59, 0, none⟩) 1 1]) hsD (.func _) ⟨(Ev.tmp h59), (Ev.tmp h70), trivial⟩ rfl hf call84 rfl (least_v b.bunker (c + (y.c * b.scoop)) b59 0 _ (hsD.cellsM (hB70 _ List.mem_cons_self))) fun _ _ => hk _ _ _ _ ⟨rfl, rfl⟩)
   · rintro T_ B_ a_ w_ K_ hT hB hf hsD hk
     exact ob rfl rfl (st_move hsD (evT hT 5 rfl) rfl hf fun _ _ => hk _ _ _ _ ⟨rfl, rfl⟩)
   · rintro T_ B_ a_ w_ K_ hT hB hf hsD hk
     exact ob rfl rfl (st_move hsD (evT hT 0 rfl) rfl hf fun _ _ => hk _ _ _ _ ⟨rfl, rfl⟩)
   · rintro T_ B_ a_ w_ K_ hT hB _ _ ⟨rfl, rfl⟩ h72 - _ _ ⟨rfl, rfl⟩ h73 - hf hsD hk
     exact ob rfl rfl (st_mul (z := x.mi.hi * b.burn1.hi) hsD (Ev.tmp h72) (Ev.tmp h73) rfl hf rfl (by omega) fun _ _ => hk _ _ _ _ ⟨rfl, rfl⟩)
   · rintro T_ B_ a_ w_ K_ hT hB _ _ ⟨rfl, rfl⟩ h71 - _ _ ⟨rfl, rfl⟩ h74 - hf hsD hk
     exact ob rfl rfl (st_sub (z := (min b.bunker (c + (y.c * b.scoop))) - (x.mi.hi * b.burn1.hi)) hsD (Ev.tmp h71) (Ev.tmp h74) rfl hf rfl (by omega) fun _ _ => hk _ _ _ _ ⟨rfl, rfl⟩)
   rintro _ _ ⟨rfl, rfl⟩ _ _ ⟨rfl, rfl⟩ _ _ ⟨rfl, rfl⟩ _ _ ⟨rfl, rfl⟩ _ _ ⟨rfl, rfl⟩ _ _ ⟨rfl, rfl⟩ _ _ ⟨rfl, rfl⟩ _ _ ⟨rfl, rfl⟩ _ _ ⟨rfl, rfl⟩ _ _ ⟨rfl, rfl⟩ _ _ ⟨rfl, rfl⟩ _ _ ⟨rfl, rfl⟩ _ _ ⟨rfl, rfl⟩ _ _ ⟨b59, rfl, rfl⟩ _ _ ⟨rfl, rfl⟩ _ _ ⟨rfl, rfl⟩ _ _ ⟨rfl, rfl⟩ _ _ ⟨rfl, rfl⟩ _ _ ⟨rfl, rfl⟩ a_39 w_39 hs39; clear hs38
   have hs40 := Sx.as (T' := [_, _, _, _, _, _, _, _, _, _, _, _, _, _, _, _, _, _, _, _, _, _, _, _, _, _, _, _, _, _, _]) (B' := [_, _, _, _, _, _, _, _]) rfl rfl hs39; clear hs39
   refine sq rfl (st_indexArr (o' := 0) hs40 (Ev.t 28 rfl) (Ev.t 0 rfl) rfl rfl runUnderlying103 sizeOf3 (by decide) rfl fun _ _ hs41 => ?_); clear hs40
   refine sq rfl (st_store (l' := [.int .i64 ((min b.bunker (c + (y.c * b.scoop))) - (x.mi.hi * b.burn1.hi)), .int .i64 v]) (vs := [.int .i64 ((min b.bunker (c + (y.c * b.scoop))) - (x.mi.hi * b.burn1.hi))]) (i := 6) hs41 (Ev.t 0 rfl) (Ev.t 19 rfl) sizeOf3 rfl rfl rfl rfl rfl rfl fun _ _ hs42 => ?_); clear hs41
   have hs43 := hs42.asB [_, _, _, _, _, _, _, _] rfl; clear hs42
   refine wpListIn_nil ?_
   have hs44 := hs43.keep [23, 24, 25, 26, 27, 28, 29, 30, 31] [_, _, _, _, _, _, _, _, _] rfl; clear hs43
   refine in_norm ?_
   refine th_norm (hK54 _ _ ?_)
   refine cd_region1 ?_
   refine sq rfl (st_add (z := 1) hs44 (Ev.t 0 rfl) (.const _) rfl rfl rfl (by omega) fun _ _ hs45 => ?_); clear hs44
   have hs46 := hs45.keep [0, 2, 3, 4, 5, 6, 7, 8, 9] [_, _, _, _, _, _, _, _, _] rfl; clear hs45
   refine sq rfl (st_move hs46 (Ev.t 0 rfl) rfl rfl fun _ _ hs47 => ?_); clear hs46
   refine wpListIn_nil ?_
   have hs48 := hs47.keep [0, 2, 3, 4, 5, 6, 7, 8, 9] [_, _, _, _, _, _, _, _, _] rfl; clear hs47
   refine th_norm (hK50 _ _ ?_); clear hK50
   refine cd_round fun K60 hK60 => ?_
   refine cd_region fun K61 hK61 => ?_
   refine sq rfl (st_cmp (c := decide ((1 : Int) < 2)) hs48 (Ev.t 0 rfl) (.const _) rfl rfl rfl rfl fun _ _ hs49 => ?_); clear hs48
   refine hK61 _ _ ?_; clear hK61
   refine cd_seq fun K62 hK62 => ?_
   have hc63 : (decide ((1 : Int) < 2)) = true := by decide
   refine cd_cond hs49 (Ev.t 0 rfl) (fun _ => ?_) (fun h => absurd (hc63.symm.trans h) (by decide))
   refine cd_skip ?_
   refine th_norm (hK62 _ _ ?_)
   refine cd_seq fun K64 hK64 => ?_
   refine cd_block ?_
   refine cd_region fun K65 hK65 => ?_
   refine sq rfl (st_move hs49 (Ev.t 1 rfl) rfl rfl fun _ _ hs50 => ?_); clear hs49
   refine sq rfl (st_index1 (v := .func (.func 104) ⟨[]⟩ ⟨[]⟩) hs50 (Ev.t 3 rfl) (Ev.t 2 rfl) rfl rfl runUnderlying121 isAgg120 sizeOf120 (by decide) rfl fun _ _ hs51 => ?_); clear hs50
   refine sq rfl (st_assign hs51 (Ev.t 1 rfl) rfl rfl fun _ _ hs52 => ?_); clear hs51
   refine sq rfl (st_assign hs52 (Ev.t 1 rfl) rfl rfl fun _ _ hs53 => ?_); clear hs52
   refine hK65 _ _ ?_; clear hK65
   have hs54 := hs53.keep [0, 1, 5, 6, 7, 8, 9, 10, 11, 12, 13] [_, _, _, _, _, _, _, _, _, _, _] rfl; clear hs53
   refine cd_region fun K66 hK66 => ?_
   refine sq rfl (st_move hs54 (Ev.t 0 rfl) rfl rfl fun _ _ hs55 => ?_); clear hs54
   refine sq rfl (st_loadA (o := 0) (off := 0) (vs := (bookL b A n cp)) hs55 (Ev.t 10 rfl) rfl rfl isAgg75 sizeOf75 (hs55.cells 7 rfl) rfl fun _ _ hs56 => ?_); clear hs55
   refine sq rfl (st_callv (vs := [.agg ⟨(bookL b A n cp)⟩]) hs56 (Ev.t 1 rfl) ⟨(Ev.t 0 rfl), trivial⟩ rfl rfl call104 rfl (water_v b A n cp _) fun _ _ hs57 => ?_); clear hs56
   refine sq rfl (st_alloc hs57 rfl rfl zeroValue123 rfl fun b67 _ _ hs58 => ?_); clear hs57
   refine sq rfl (st_store (l' := [.int .i64 b.tank, .int .i64 b.pail, .int .i64 b.drink0.lo, .int .i64 b.drink0.hi, .int .i64 b.drink1.lo, .int .i64 b.drink1.hi]) (vs := [.int .i64 b.tank, .int .i64 b.pail, .int .i64 b.drink0.lo, .int .i64 b.drink0.hi, .int .i64 b.drink1.lo, .int .i64 b.drink1.hi]) (i := 0) hs58 (Ev.t 0 rfl) (Ev.t 1 rfl) sizeOf123 rfl rfl rfl rfl rfl rfl fun _ _ hs59 => ?_); clear hs58
   have hs60 := hs59.asB [_, _, _, _, _, _, _, _, _] rfl; clear hs59
   refine hK66 _ _ ?_; clear hK66
   have hs61 := hs60.keep [0, 5, 6, 7, 8, 9, 10, 11, 12, 13, 14] [_, _, _, _, _, _, _, _, _, _, _] rfl; clear hs60
   refine cd_drawn mixed hs61 [⟨46, [], Is (.pointer (some ⟨b42, 0, none⟩))⟩, ⟨47, [0], Is (.func (.func 81) ⟨[]⟩ ⟨[]⟩)⟩, ⟨48, [], Is (.agg ⟨(bookL b A n cp)⟩)⟩, ⟨49, [], Is (.int .i64 (k : Int))⟩, ⟨50, [2, 3], Is (.int .i64 1)⟩, ⟨51, [], Is (.pointer (some ⟨b67, 2, none⟩))⟩, ⟨52, [4, 5], Is (.pointer (some ⟨b67, 4, none⟩))⟩, ⟨53, [6], Is (.agg ⟨[.int .i64 b.drink1.lo, .int .i64 b.drink1.hi]⟩)⟩, ⟨54, [1, 7], Is (.tuple ⟨[.int .i64 b.drink1.lo, .int .i64 b.drink1.hi]⟩)⟩, ⟨45, [8], Is (.tuple ⟨[.int .i64 b.drink1.lo, .int .i64 b.drink1.hi]⟩)⟩, ⟨55, [9], Is (.int .i64 b.drink1.lo)⟩, ⟨56, [9], Is (.int .i64 b.drink1.hi)⟩, ⟨17, [10], Is (.int .i64 b.drink1.lo)⟩] (by kernel_rfl) (by kernel_rfl) fun K68 hK68 => ⟨⟨?_, ?_, ?_, ?_, ?_, ?_, ?_, ?_, ?_, ?_, ?_, ?_, ?_, trivial⟩, ?_⟩
   · rintro T_ B_ a_ w_ K_ hT hB hf hsD hk
     exact ob rfl rfl (st_field (o' := 0) hsD (evT hT 7 rfl) rfl hf runUnderlying107 rfl sizeOf105 rfl rfl fun _ _ => hk _ _ _ _ ⟨rfl, rfl⟩)
   · rintro T_ B_ a_ w_ K_ hT hB _ _ ⟨rfl, rfl⟩ h46 - hf hsD hk
     exact ob rfl rfl (st_load1 (o := 0) (off := 0) (v := .func (.func 81) ⟨[]⟩ ⟨[]⟩) hsD (Ev.tmp h46) rfl hf isAgg105 (hsD.cellsM (inB hB 5 rfl)) rfl fun _ _ => hk _ _ _ _ ⟨rfl, rfl⟩)
   · rintro T_ B_ a_ w_ K_ hT hB hf hsD hk
     exact ob rfl rfl (st_loadA (o := 0) (off := 0) (vs := (bookL b A n cp)) hsD (evT hT 9 rfl) rfl hf isAgg75 sizeOf75 (hsD.cellsM (inB hB 8 rfl)) rfl fun _ _ => hk _ _ _ _ ⟨rfl, rfl⟩)
   · rintro T_ B_ a_ w_ K_ hT hB hf hsD hk
     exact ob rfl rfl (st_move hsD (evT hT 10 rfl) rfl hf fun _ _ => hk _ _ _ _ ⟨rfl, rfl⟩)
   · rintro T_ B_ a_ w_ K_ hT hB _ _ ⟨rfl, rfl⟩ h48 - _ _ ⟨rfl, rfl⟩ h49 - hf hsD hk
     exact ob rfl rfl (st_callv (vs := [.agg ⟨(bookL b A n cp)⟩, .int .i64 (k : Int)]) (v := .int .i64 1) hsD (.func _) ⟨(Ev.tmp h48), (Ev.tmp h49), trivial⟩ rfl hf call83 rfl (by have h := kind_v b A n cp k x hx _ (hP.kp hsD.kp) hn; rw [hl] at h; exact h) fun _ _ => hk _ _ _ _ ⟨rfl, rfl⟩)
   · rintro T_ B_ a_ w_ K_ hT hB hf hsD hk
     exact ob rfl rfl (st_field (o' := 2) hsD (evT hT 0 rfl) rfl hf runUnderlying123 rfl sizeOf24 rfl rfl fun _ _ => hk _ _ _ _ ⟨rfl, rfl⟩)
   · rintro T_ B_ a_ w_ K_ hT hB _ _ ⟨rfl, rfl⟩ h50 - _ _ ⟨rfl, rfl⟩ h51 - hf hsD hk
     exact ob rfl rfl (st_indexArr (o' := 4) hsD (Ev.tmp h51) (Ev.tmp h50) rfl hf runUnderlying24 sizeOf23 (by decide) rfl fun _ _ => hk _ _ _ _ ⟨rfl, rfl⟩)
   · rintro T_ B_ a_ w_ K_ hT hB _ _ ⟨rfl, rfl⟩ h52 - hf hsD hk
     exact ob rfl rfl (st_loadA (o := 0) (off := 4) (vs := [.int .i64 b.drink1.lo, .int .i64 b.drink1.hi]) hsD (Ev.tmp h52) rfl hf isAgg23 sizeOf23 (hsD.cellsM (inB hB 0 rfl)) rfl fun _ _ => hk _ _ _ _ ⟨rfl, rfl⟩)
   · rintro T_ B_ a_ w_ K_ hT hB _ _ ⟨rfl, rfl⟩ h47 - _ _ ⟨rfl, rfl⟩ h53 - hf hsD hk
     exact ob rfl rfl (st_callv (vs := [.agg ⟨[.int .i64 b.drink1.lo, .int .i64 b.drink1.hi]⟩]) hsD (Ev.tmp h47) ⟨(Ev.tmp h53), trivial⟩ rfl hf call81 rfl (low1_v b.drink1.lo b.drink1.hi _) fun _ _ => hk _ _ _ _ ⟨rfl, rfl⟩)
   · rintro T_ B_ a_ w_ K_ hT hB _ _ ⟨rfl, rfl⟩ h54 - hf hsD hk
     exact ob rfl rfl (st_move hsD (Ev.tmp h54) rfl hf fun _ _ => hk _ _ _ _ ⟨rfl, rfl⟩)
   · rintro T_ B_ a_ w_ K_ hT hB _ _ ⟨rfl, rfl⟩ h45 - hf hsD hk
     exact ob rfl rfl (st_extract hsD (Ev.tmp h45) rfl hf rfl fun _ _ => hk _ _ _ _ ⟨rfl, rfl⟩)
   · rintro T_ B_ a_ w_ K_ hT hB _ _ ⟨rfl, rfl⟩ h45 - hf hsD hk
     exact ob rfl rfl (st_extract hsD (Ev.tmp h45) rfl hf rfl fun _ _ => hk _ _ _ _ ⟨rfl, rfl⟩)
   · rintro T_ B_ a_ w_ K_ hT hB _ _ ⟨rfl, rfl⟩ h55 - hf hsD hk
     exact ob rfl rfl (st_assign hsD (Ev.tmp h55) rfl hf fun _ _ => hk _ _ _ _ ⟨rfl, rfl⟩)
   rintro _ _ ⟨rfl, rfl⟩ _ _ ⟨rfl, rfl⟩ _ _ ⟨rfl, rfl⟩ _ _ ⟨rfl, rfl⟩ _ _ ⟨rfl, rfl⟩ _ _ ⟨rfl, rfl⟩ _ _ ⟨rfl, rfl⟩ _ _ ⟨rfl, rfl⟩ _ _ ⟨rfl, rfl⟩ _ _ ⟨rfl, rfl⟩ _ _ ⟨rfl, rfl⟩ _ _ ⟨rfl, rfl⟩ _ _ ⟨rfl, rfl⟩ a_62 w_62 hs62; clear hs61
   have hs63 := Sx.as (T' := [_, _, _, _, _, _, _, _, _, _, _, _, _, _, _, _, _, _, _, _, _, _, _, _]) (B' := [_, _, _, _, _, _, _, _, _]) rfl rfl hs62; clear hs62
   refine sq rfl (st_assign hs63 (Ev.t 11 rfl) rfl rfl fun _ _ hs64 => ?_); clear hs63
   refine hK68 _ _ ?_; clear hK68
   have hs65 := hs64.keep [0, 14, 15, 16, 17, 18, 19, 20, 21, 22, 23, 24] [_, _, _, _, _, _, _, _, _, _, _, _] rfl; clear hs64
   refine cd_drawn1 mixed hs65 [⟨57, [], Is (.int .i64 1)⟩, ⟨58, [], Is (.pointer (some ⟨b67, 0, none⟩))⟩, ⟨59, [1], Is (.int .i64 b.tank)⟩, ⟨60, [], Is (.int .i64 1)⟩, ⟨61, [3], Is (.pointer (some ⟨b40, 1, none⟩))⟩, ⟨62, [4], Is (.int .i64 v)⟩, ⟨63, [], Is (.int .i64 1)⟩, ⟨64, [6], Is (.pointer (some ⟨b45, 1, none⟩))⟩, ⟨65, [7], Is (.int .i64 y.w)⟩, ⟨66, [], Is (.pointer (some ⟨b67, 1, none⟩))⟩, ⟨67, [9], Is (.int .i64 b.pail)⟩, ⟨68, [8, 10], Is (.int .i64 (y.w * b.pail))⟩, ⟨69, [5, 11], Is (.int .i64 (v + (y.w * b.pail)))⟩, ⟨70, [12], fun v_ bs_ => ∃ b69, v_ = .slice (some ⟨b69, 0, none⟩) 1 1 ∧ bs_ = [(b69, some (.cells ⟨[.int .i64 (v + (y.w * b.pail))]⟩ 3 (0, 0)))]⟩, ⟨71, [2, 13], Is (.int .i64 (min b.tank (v + (y.w * b.pail))))⟩, ⟨72, [], Is (.int .i64 x.mi.hi)⟩, ⟨73, [], Is (.int .i64 b.drink1.hi)⟩, ⟨74, [15, 16], Is (.int .i64 (x.mi.hi * b.drink1.hi))⟩, ⟨75, [14, 17], Is (.int .i64 ((min b.tank (v + (y.w * b.pail))) - (x.mi.hi * b.drink1.hi)))⟩] (by kernel_rfl) (by kernel_rfl) ⟨⟨?_, ?_, ?_, ?_, ?_, ?_, ?_, ?_, ?_, ?_, ?_, ?_, ?_, ?_, ?_, ?_, ?_, ?_, ?_, trivial⟩, ?_⟩
   · rintro T_ B_ a_ w_ K_ hT hB hf hsD hk
     exact ob rfl rfl (st_move hsD (evT hT 2 rfl) rfl hf fun _ _ => hk _ _ _ _ ⟨rfl, rfl⟩)
   · rintro T_ B_ a_ w_ K_ hT hB hf hsD hk
     exact ob rfl rfl (st_field (o' := 0) hsD (evT hT 1 rfl) rfl hf runUnderlying123 rfl sizeOf3 rfl rfl fun _ _ => hk _ _ _ _ ⟨rfl, rfl⟩)
   · rintro T_ B_ a_ w_ K_ hT hB _ _ ⟨rfl, rfl⟩ h58 - hf hsD hk
     exact ob rfl rfl (st_load1 (o := 0) (off := 0) (v := .int .i64 b.tank) hsD (Ev.tmp h58) rfl hf isAgg3 (hsD.cellsM (inB hB 0 rfl)) rfl fun _ _ => hk _ _ _ _ ⟨rfl, rfl⟩)
   · rintro T_ B_ a_ w_ K_ hT hB hf hsD hk
     exact ob rfl rfl (st_move hsD (evT hT 2 rfl) rfl hf fun _ _ => hk _ _ _ _ ⟨rfl, rfl⟩)
   · rintro T_ B_ a_ w_ K_ hT hB _ _ ⟨rfl, rfl⟩ h60 - hf hsD hk
     exact ob rfl rfl (st_indexArr (o' := 1) hsD (evT hT 9 rfl) (Ev.tmp h60) rfl hf runUnderlying103 sizeOf3 (by decide) rfl fun _ _ => hk _ _ _ _ ⟨rfl, rfl⟩)
   · rintro T_ B_ a_ w_ K_ hT hB _ _ ⟨rfl, rfl⟩ h61 - hf hsD hk
     exact ob rfl rfl (st_load1 (o := 0) (off := 1) (v := .int .i64 v) hsD (Ev.tmp h61) rfl hf isAgg3 (hsD.cellsM (inB hB 7 rfl)) rfl fun _ _ => hk _ _ _ _ ⟨rfl, rfl⟩)
   · rintro T_ B_ a_ w_ K_ hT hB hf hsD hk
     exact ob rfl rfl (st_move hsD (evT hT 2 rfl) rfl hf fun _ _ => hk _ _ _ _ ⟨rfl, rfl⟩)
   · rintro T_ B_ a_ w_ K_ hT hB _ _ ⟨rfl, rfl⟩ h63 - hf hsD hk
     exact ob rfl rfl (st_indexArr (o' := 1) hsD (evT hT 6 rfl) (Ev.tmp h63) rfl hf runUnderlying103 sizeOf3 (by decide) rfl fun _ _ => hk _ _ _ _ ⟨rfl, rfl⟩)
   · rintro T_ B_ a_ w_ K_ hT hB _ _ ⟨rfl, rfl⟩ h64 - hf hsD hk
     exact ob rfl rfl (st_load1 (o := 0) (off := 1) (v := .int .i64 y.w) hsD (Ev.tmp h64) rfl hf isAgg3 (hsD.cellsM (inB hB 3 rfl)) rfl fun _ _ => hk _ _ _ _ ⟨rfl, rfl⟩)
   · rintro T_ B_ a_ w_ K_ hT hB hf hsD hk
     exact ob rfl rfl (st_field (o' := 1) hsD (evT hT 1 rfl) rfl hf runUnderlying123 rfl sizeOf3 rfl rfl fun _ _ => hk _ _ _ _ ⟨rfl, rfl⟩)
   · rintro T_ B_ a_ w_ K_ hT hB _ _ ⟨rfl, rfl⟩ h66 - hf hsD hk
     exact ob rfl rfl (st_load1 (o := 0) (off := 1) (v := .int .i64 b.pail) hsD (Ev.tmp h66) rfl hf isAgg3 (hsD.cellsM (inB hB 0 rfl)) rfl fun _ _ => hk _ _ _ _ ⟨rfl, rfl⟩)
   · rintro T_ B_ a_ w_ K_ hT hB _ _ ⟨rfl, rfl⟩ h65 - _ _ ⟨rfl, rfl⟩ h67 - hf hsD hk
     exact ob rfl rfl (st_mul (z := y.w * b.pail) hsD (Ev.tmp h65) (Ev.tmp h67) rfl hf rfl (by omega) fun _ _ => hk _ _ _ _ ⟨rfl, rfl⟩)
   · rintro T_ B_ a_ w_ K_ hT hB _ _ ⟨rfl, rfl⟩ h62 - _ _ ⟨rfl, rfl⟩ h68 - hf hsD hk
     exact ob rfl rfl (st_add (z := v + (y.w * b.pail)) hsD (Ev.tmp h62) (Ev.tmp h68) rfl hf rfl (by omega) fun _ _ => hk _ _ _ _ ⟨rfl, rfl⟩)
   · rintro T_ B_ a_ w_ K_ hT hB _ _ ⟨rfl, rfl⟩ h69 - hf hsD hk
     exact ob rfl rfl (st_buildSlice hsD (qs := [(0, .int .i64 (v + (y.w * b.pail)))]) (e := 3) (l := [.int .i64 (v + (y.w * b.pail))]) ⟨(Ev.tmp h69), trivial⟩ rfl hf rfl (fun _ => by kernel_rfl) fun b69 _ _ => hk _ _ _ _ ⟨b69, rfl, rfl⟩)
   · rintro T_ B_ a_ w_ K_ hT hB _ _ ⟨rfl, rfl⟩ h59 - _ _ ⟨b69, rfl, rfl⟩ h70 hB70 hf hsD hk
     exact ob rfl rfl (st_callv (vs := [.int .i64 b.tank, .slice (some ⟨b69, 0, none⟩) 1 1]) hsD (.func _) ⟨(Ev.tmp h59), (Ev.tmp h70), trivial⟩ rfl hf call84 rfl (least_v b.tank (v + (y.w * b.pail)) b69 0 _ (hsD.cellsM (hB70 _ List.mem_cons_self))) fun _ _ => hk _ _ _ _ ⟨rfl, rfl⟩)
   · rintro T_ B_ a_ w_ K_ hT hB hf hsD hk
     exact ob rfl rfl (st_move hsD (evT hT 5 rfl) rfl hf fun _ _ => hk _ _ _ _ ⟨rfl, rfl⟩)
   · rintro T_ B_ a_ w_ K_ hT hB hf hsD hk
     exact ob rfl rfl (st_move hsD (evT hT 0 rfl) rfl hf fun _ _ => hk _ _ _ _ ⟨rfl, rfl⟩)
   · rintro T_ B_ a_ w_ K_ hT hB _ _ ⟨rfl, rfl⟩ h72 - _ _ ⟨rfl, rfl⟩ h73 - hf hsD hk
     exact ob rfl rfl (st_mul (z := x.mi.hi * b.drink1.hi) hsD (Ev.tmp h72) (Ev.tmp h73) rfl hf rfl (by omega) fun _ _ => hk _ _ _ _ ⟨rfl, rfl⟩)
   · rintro T_ B_ a_ w_ K_ hT hB _ _ ⟨rfl, rfl⟩ h71 - _ _ ⟨rfl, rfl⟩ h74 - hf hsD hk
     exact ob rfl rfl (st_sub (z := (min b.tank (v + (y.w * b.pail))) - (x.mi.hi * b.drink1.hi)) hsD (Ev.tmp h71) (Ev.tmp h74) rfl hf rfl (by omega) fun _ _ => hk _ _ _ _ ⟨rfl, rfl⟩)
   rintro _ _ ⟨rfl, rfl⟩ _ _ ⟨rfl, rfl⟩ _ _ ⟨rfl, rfl⟩ _ _ ⟨rfl, rfl⟩ _ _ ⟨rfl, rfl⟩ _ _ ⟨rfl, rfl⟩ _ _ ⟨rfl, rfl⟩ _ _ ⟨rfl, rfl⟩ _ _ ⟨rfl, rfl⟩ _ _ ⟨rfl, rfl⟩ _ _ ⟨rfl, rfl⟩ _ _ ⟨rfl, rfl⟩ _ _ ⟨rfl, rfl⟩ _ _ ⟨b69, rfl, rfl⟩ _ _ ⟨rfl, rfl⟩ _ _ ⟨rfl, rfl⟩ _ _ ⟨rfl, rfl⟩ _ _ ⟨rfl, rfl⟩ _ _ ⟨rfl, rfl⟩ a_66 w_66 hs66; clear hs65
   have hs67 := Sx.as (T' := [_, _, _, _, _, _, _, _, _, _, _, _, _, _, _, _, _, _, _, _, _, _, _, _, _, _, _, _, _, _, _]) (B' := [_, _, _, _, _, _, _, _, _, _]) rfl rfl hs66; clear hs66
   refine sq rfl (st_indexArr (o' := 1) hs67 (Ev.t 28 rfl) (Ev.t 0 rfl) rfl rfl runUnderlying103 sizeOf3 (by decide) rfl fun _ _ hs68 => ?_); clear hs67
   refine sq rfl (st_store (l' := [.int .i64 ((min b.bunker (c + (y.c * b.scoop))) - (x.mi.hi * b.burn1.hi)), .int .i64 ((min b.tank (v + (y.w * b.pail))) - (x.mi.hi * b.drink1.hi))]) (vs := [.int .i64 ((min b.tank (v + (y.w * b.pail))) - (x.mi.hi * b.drink1.hi))]) (i := 8) hs68 (Ev.t 0 rfl) (Ev.t 19 rfl) sizeOf3 rfl rfl rfl rfl rfl rfl fun _ _ hs69 => ?_); clear hs68
   have hs70 := hs69.asB [_, _, _, _, _, _, _, _, _, _] rfl; clear hs69
   refine wpListIn_nil ?_
   have hs71 := hs70.keep [23, 24, 25, 26, 27, 28, 29, 30, 31] [_, _, _, _, _, _, _, _, _] rfl; clear hs70
   refine in_norm ?_
   refine th_norm (hK64 _ _ ?_)
   refine cd_region1 ?_
   refine sq rfl (st_add (z := 2) hs71 (Ev.t 0 rfl) (.const _) rfl rfl rfl (by omega) fun _ _ hs72 => ?_); clear hs71
   have hs73 := hs72.keep [0, 2, 3, 4, 5, 6, 7, 8, 9] [_, _, _, _, _, _, _, _, _] rfl; clear hs72
   refine sq rfl (st_move hs73 (Ev.t 0 rfl) rfl rfl fun _ _ hs74 => ?_); clear hs73
   refine wpListIn_nil ?_
   have hs75 := hs74.keep [0, 2, 3, 4, 5, 6, 7, 8, 9] [_, _, _, _, _, _, _, _, _] rfl; clear hs74
   refine th_norm (hK60 _ _ ?_); clear hK60
   refine cd_round fun K70 hK70 => ?_
   refine cd_region fun K71 hK71 => ?_
   refine sq rfl (st_cmp (c := decide ((2 : Int) < 2)) hs75 (Ev.t 0 rfl) (.const _) rfl rfl rfl rfl fun _ _ hs76 => ?_); clear hs75
   refine hK71 _ _ ?_; clear hK71
   refine cd_seq fun K72 hK72 => ?_
   have hc73 : (decide ((2 : Int) < 2)) = false := by decide
   refine cd_cond hs76 (Ev.t 0 rfl) (fun h => absurd (hc73.symm.trans h) (by decide)) (fun _ => ?_)
   refine cd_exit ?_
   refine th_exit ?_
   refine th_exit ?_
   refine in_hit ?_
   refine th_norm (hK48 _ _ ?_)
   refine cd_region fun K74 hK74 => ?_
   refine sq rfl (st_loadA (o := 0) (off := 0) (vs := [.int .i64 ((min b.bunker (c + (y.c * b.scoop))) - (x.mi.hi * b.burn1.hi)), .int .i64 ((min b.tank (v + (y.w * b.pail))) - (x.mi.hi * b.drink1.hi))]) hs76 (Ev.t 7 rfl) rfl rfl isAgg103 sizeOf103 (hs76.cells 8 rfl) rfl fun _ _ hs77 => ?_); clear hs76
   refine sq rfl (st_store (l' := [.int .i64 ((min b.bunker (c + (y.c * b.scoop))) - (x.mi.hi * b.burn1.hi)), .int .i64 ((min b.tank (v + (y.w * b.pail))) - (x.mi.hi * b.drink1.hi))]) (vs := [.int .i64 ((min b.bunker (c + (y.c * b.scoop))) - (x.mi.hi * b.burn1.hi)), .int .i64 ((min b.tank (v + (y.w * b.pail))) - (x.mi.hi * b.drink1.hi))]) (i := 5) hs77 (Ev.t 6 rfl) (Ev.t 0 rfl) sizeOf103 rfl rfl rfl rfl rfl rfl fun _ _ hs78 => ?_); clear hs77
   have hs79 := hs78.asB [_, _, _, _, _, _, _, _, _, _] rfl; clear hs78
   refine hK74 _ _ ?_; clear hK74
   have hs80 := hs79.keep [6] [_] rfl; clear hs79
   refine cd_retv (vs := [.agg ⟨[.int .i64 ((min b.bunker (c + (y.c * b.scoop))) - (x.mi.hi * b.burn1.hi)), .int .i64 ((min b.tank (v + (y.w * b.pail))) - (x.mi.hi * b.drink1.hi))]⟩]) hs80 hQ0 rfl ⟨resA (o := 0) (off := 0) (vs := [.int .i64 ((min b.bunker (c + (y.c * b.scoop))) - (x.mi.hi * b.burn1.hi)), .int .i64 ((min b.tank (v + (y.w * b.pail))) - (x.mi.hi * b.drink1.hi))]) 0 rfl isAgg103 sizeOf103 (hs80.cells 5 rfl) rfl, trivial⟩ ?_
   clear hs80 hQ0 hN0
   simp [pack, Book.afterC, Book.afterW, Book.burn, Book.drink, Span.end, hl]
end Go.Proofs.YtdbcedmofoakmaaDoor
