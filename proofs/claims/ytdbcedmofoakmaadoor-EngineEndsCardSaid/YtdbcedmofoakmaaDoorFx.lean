/- The law: both ends of an evening. -/
import Derived.Test.YtdbcedmofoakmaaDoorFu
import Derived.Test.YtdbcedmofoakmaaDoorEl2
set_option maxRecDepth 100000
namespace Go.Proofs.YtdbcedmofoakmaaDoor
open Go Go.Sx Go.Eng Go.Proofs.Tryd
theorem end_v (a z : Int) (h : Bool) (w : World)  :
    CallsV Tryd.prog 68 [.agg ⟨[.int .i64 a, .int .i64 z]⟩, .bool h] w (.agg ⟨[.int .i64 (Span.end ⟨a, z⟩ h), .int .i64 (Span.end ⟨a, z⟩ h)]⟩) := by
 refine enter (N := 16) (M := []) w func68 rfl rfl rfl (fun Q0 a_0 hQ0 hN0 hs0 => ?_)
 refine cd_region fun K1 hK1 => ?_
 refine sq rfl (st_box hs0 (Ev.t 0 rfl) rfl rfl rfl fun b2 _ _ hs1 => ?_); clear hs0
 refine sq rfl (st_alloc hs1 rfl rfl zeroValue23 rfl fun b3 _ _ hs2 => ?_); clear hs1
 refine hK1 _ _ ?_; clear hK1
 have hs3 := hs2.keep [0, 1, 3] [_, _, _] rfl; clear hs2
 refine cd_seq fun K4 hK4 => ?_
 refine cd_region fun K5 hK5 => ?_
 refine sq rfl (st_move hs3 (Ev.t 2 rfl) rfl rfl fun _ _ hs4 => ?_); clear hs3
 refine hK5 _ _ ?_; clear hK5
 have hs5 := hs4.keep [0, 1, 2] [_, _, _] rfl; clear hs4
 refine cd_cond hs5 (Ev.t 0 rfl) (fun hc6 => ?_) (fun hc6 => ?_)
 · refine cd_region fun K7 hK7 => ?_
   refine sq rfl (st_field (o' := 1) hs5 (Ev.t 2 rfl) rfl rfl runUnderlying23 rfl sizeOf3 rfl rfl fun _ _ hs6 => ?_); clear hs5
   refine sq rfl (st_load1 (o := 0) (off := 1) (v := .int .i64 z) hs6 (Ev.t 0 rfl) rfl rfl isAgg3 (hs6.cells 1 rfl) rfl fun _ _ hs7 => ?_); clear hs6
   refine sq rfl (st_field (o' := 1) hs7 (Ev.t 4 rfl) rfl rfl runUnderlying23 rfl sizeOf3 rfl rfl fun _ _ hs8 => ?_); clear hs7
   refine sq rfl (st_load1 (o := 0) (off := 1) (v := .int .i64 z) hs8 (Ev.t 0 rfl) rfl rfl isAgg3 (hs8.cells 1 rfl) rfl fun _ _ hs9 => ?_); clear hs8
   refine sq rfl (st_callv (vs := [.int .i64 z, .int .i64 z]) hs9 (.func _) ⟨(Ev.t 2 rfl), (Ev.t 0 rfl), trivial⟩ rfl rfl call40 rfl (S_v z z _) fun _ _ hs10 => ?_); clear hs9
   refine sq rfl (st_store (l' := [.int .i64 z, .int .i64 z]) (vs := [.int .i64 z, .int .i64 z]) (i := 0) hs10 (Ev.t 6 rfl) (Ev.t 0 rfl) sizeOf23 rfl rfl rfl rfl rfl rfl fun _ _ hs11 => ?_); clear hs10
   have hs12 := hs11.asB [_, _] rfl; clear hs11
   refine hK7 _ _ ?_; clear hK7
   have hs13 := hs12.keep [6] [_] rfl; clear hs12
   refine cd_retv (vs := [.agg ⟨[.int .i64 z, .int .i64 z]⟩]) hs13 (fun a_ w_ h => th_ret (hQ0 a_ w_ h)) rfl ⟨resA (o := 0) (off := 0) (vs := [.int .i64 z, .int .i64 z]) 0 rfl isAgg23 sizeOf23 (hs13.cells 0 rfl) rfl, trivial⟩ ?_
   clear hs13 hQ0 hN0 hK4
   simp_all [pack, Span.end]
 · refine cd_skip ?_
   refine th_norm (hK4 _ _ ?_)
   refine cd_region fun K8 hK8 => ?_
   refine sq rfl (st_field (o' := 0) hs5 (Ev.t 2 rfl) rfl rfl runUnderlying23 rfl sizeOf3 rfl rfl fun _ _ hs6 => ?_); clear hs5
   refine sq rfl (st_load1 (o := 0) (off := 0) (v := .int .i64 a) hs6 (Ev.t 0 rfl) rfl rfl isAgg3 (hs6.cells 1 rfl) rfl fun _ _ hs7 => ?_); clear hs6
   refine sq rfl (st_field (o' := 0) hs7 (Ev.t 4 rfl) rfl rfl runUnderlying23 rfl sizeOf3 rfl rfl fun _ _ hs8 => ?_); clear hs7
   refine sq rfl (st_load1 (o := 0) (off := 0) (v := .int .i64 a) hs8 (Ev.t 0 rfl) rfl rfl isAgg3 (hs8.cells 1 rfl) rfl fun _ _ hs9 => ?_); clear hs8
   refine sq rfl (st_callv (vs := [.int .i64 a, .int .i64 a]) hs9 (.func _) ⟨(Ev.t 2 rfl), (Ev.t 0 rfl), trivial⟩ rfl rfl call40 rfl (S_v a a _) fun _ _ hs10 => ?_); clear hs9
   refine sq rfl (st_store (l' := [.int .i64 a, .int .i64 a]) (vs := [.int .i64 a, .int .i64 a]) (i := 0) hs10 (Ev.t 6 rfl) (Ev.t 0 rfl) sizeOf23 rfl rfl rfl rfl rfl rfl fun _ _ hs11 => ?_); clear hs10
   have hs12 := hs11.asB [_, _] rfl; clear hs11
   refine hK8 _ _ ?_; clear hK8
   have hs13 := hs12.keep [6] [_] rfl; clear hs12
   refine cd_retv (vs := [.agg ⟨[.int .i64 a, .int .i64 a]⟩]) hs13 hQ0 rfl ⟨resA (o := 0) (off := 0) (vs := [.int .i64 a, .int .i64 a]) 0 rfl isAgg23 sizeOf23 (hs13.cells 0 rfl) rfl, trivial⟩ ?_
   clear hs13 hQ0 hN0
   simp_all [pack, Span.end]

theorem edge_b (b : Book) (A : Option Addr) (n cp : Nat) (h : Bool) (w : World) (hP : PartsAt w A n b.parts) (hn : n ≤ 140737488351232) (hb : Bd b) :
    CallsB Tryd.prog 39 [.agg ⟨bookL b A n cp⟩, .bool h] w (fun v bs => ∃ A7 c7 b7 o7, v = .agg ⟨bookL (b.edge h) A7 n c7⟩ ∧ Sx.Own partL 4 66 A7 c7 (b.edge h).parts b7 o7 ∧ bs = [(b7, o7)]) := by
 have hl2 := hP.len
 have hlen := hb.len
 refine enter (N := 80) (M := []) w func39 rfl rfl rfl (fun Q0 a_0 hQ0 hN0 hs0 => ?_)
 refine cd_region fun K1 hK1 => ?_
 refine sq rfl (st_box hs0 (Ev.t 0 rfl) rfl rfl rfl fun b2 _ _ hs1 => ?_); clear hs0
 refine sq rfl (st_alloc hs1 rfl rfl zeroValue27 rfl fun b3 _ _ hs2 => ?_); clear hs1
 refine hK1 _ _ ?_; clear hK1
 have hs3 := hs2.keep [0, 1, 3] [_, _, _] rfl; clear hs2
 refine cd_region fun K4 hK4 => ?_
 refine sq rfl (st_loadA (o := 0) (off := 0) (vs := (bookL b A n cp)) hs3 (Ev.t 1 rfl) rfl rfl isAgg27 sizeOf27 (hs3.cells 1 rfl) rfl fun _ _ hs4 => ?_); clear hs3
 refine sq rfl (st_alloc hs4 rfl rfl zeroValue27 rfl fun b5 _ _ hs5 => ?_); clear hs4
 refine sq rfl (st_store (l' := (bookL b A n cp)) (vs := (bookL b A n cp)) (i := 0) hs5 (Ev.t 0 rfl) (Ev.t 1 rfl) sizeOf27 rfl rfl rfl rfl rfl rfl fun _ _ hs6 => ?_); clear hs5
 have hs7 := hs6.asB [_, _, _] rfl; clear hs6
 refine hK4 _ _ ?_; clear hK4
 have hs8 := hs7.keep [0, 2, 3, 4] [_, _, _, _] rfl; clear hs7
 refine cd_drawn mixed hs8 [⟨10, [], Is (.pointer (some ⟨b2, 0, none⟩))⟩, ⟨11, [0], Is (.agg ⟨[.int .i64 b.coal.lo, .int .i64 b.coal.hi]⟩)⟩, ⟨12, [], Is (.bool h)⟩, ⟨13, [1, 2], Is (.agg ⟨[.int .i64 (b.coal.end h), .int .i64 (b.coal.end h)]⟩)⟩, ⟨14, [], Is (.pointer (some ⟨b2, 2, none⟩))⟩, ⟨15, [4], Is (.agg ⟨[.int .i64 b.water.lo, .int .i64 b.water.hi]⟩)⟩, ⟨16, [], Is (.bool h)⟩, ⟨17, [5, 6], Is (.agg ⟨[.int .i64 (b.water.end h), .int .i64 (b.water.end h)]⟩)⟩, ⟨18, [], Is (.pointer (some ⟨b2, 16, none⟩))⟩, ⟨19, [8], Is (.agg ⟨[.int .i64 b.full.lo, .int .i64 b.full.hi]⟩)⟩, ⟨20, [], Is (.bool h)⟩, ⟨21, [9, 10], Is (.agg ⟨[.int .i64 (b.full.end h), .int .i64 (b.full.end h)]⟩)⟩, ⟨22, [], Is (.pointer (some ⟨b2, 18, none⟩))⟩, ⟨23, [12], Is (.agg ⟨[.int .i64 b.weak.lo, .int .i64 b.weak.hi]⟩)⟩, ⟨24, [], Is (.bool h)⟩, ⟨25, [13, 14], Is (.agg ⟨[.int .i64 (b.weak.end h), .int .i64 (b.weak.end h)]⟩)⟩, ⟨26, [], Is (.pointer (some ⟨b5, 0, none⟩))⟩] (by kernel_rfl) (by kernel_rfl) fun K6 hK6 => ⟨⟨?_, ?_, ?_, ?_, ?_, ?_, ?_, ?_, ?_, ?_, ?_, ?_, ?_, ?_, ?_, ?_, ?_, trivial⟩, ?_⟩
 · rintro T_ B_ a_ w_ K_ hT hB hf hsD hk
   exact ob rfl rfl (st_field (o' := 0) hsD (evT hT 2 rfl) rfl hf runUnderlying27 rfl sizeOf23 rfl rfl fun _ _ => hk _ _ _ _ ⟨rfl, rfl⟩)
 · rintro T_ B_ a_ w_ K_ hT hB _ _ ⟨rfl, rfl⟩ h10 - hf hsD hk
   exact ob rfl rfl (st_loadA (o := 0) (off := 0) (vs := [.int .i64 b.coal.lo, .int .i64 b.coal.hi]) hsD (Ev.tmp h10) rfl hf isAgg23 sizeOf23 (hsD.cellsM (inB hB 2 rfl)) rfl fun _ _ => hk _ _ _ _ ⟨rfl, rfl⟩)
 · rintro T_ B_ a_ w_ K_ hT hB hf hsD hk
   exact ob rfl rfl (st_move hsD (evT hT 3 rfl) rfl hf fun _ _ => hk _ _ _ _ ⟨rfl, rfl⟩)
 · rintro T_ B_ a_ w_ K_ hT hB _ _ ⟨rfl, rfl⟩ h11 - _ _ ⟨rfl, rfl⟩ h12 - hf hsD hk
   exact ob rfl rfl (st_callv (vs := [.agg ⟨[.int .i64 b.coal.lo, .int .i64 b.coal.hi]⟩, .bool h]) hsD (.func _) ⟨(Ev.tmp h11), (Ev.tmp h12), trivial⟩ rfl hf call68 rfl (end_v b.coal.lo b.coal.hi h _) fun _ _ => hk _ _ _ _ ⟨rfl, rfl⟩)
 · rintro T_ B_ a_ w_ K_ hT hB hf hsD hk
   exact ob rfl rfl (st_field (o' := 2) hsD (evT hT 2 rfl) rfl hf runUnderlying27 rfl sizeOf23 rfl rfl fun _ _ => hk _ _ _ _ ⟨rfl, rfl⟩)
 · rintro T_ B_ a_ w_ K_ hT hB _ _ ⟨rfl, rfl⟩ h14 - hf hsD hk
   exact ob rfl rfl (st_loadA (o := 0) (off := 2) (vs := [.int .i64 b.water.lo, .int .i64 b.water.hi]) hsD (Ev.tmp h14) rfl hf isAgg23 sizeOf23 (hsD.cellsM (inB hB 2 rfl)) rfl fun _ _ => hk _ _ _ _ ⟨rfl, rfl⟩)
 · rintro T_ B_ a_ w_ K_ hT hB hf hsD hk
   exact ob rfl rfl (st_move hsD (evT hT 3 rfl) rfl hf fun _ _ => hk _ _ _ _ ⟨rfl, rfl⟩)
 · rintro T_ B_ a_ w_ K_ hT hB _ _ ⟨rfl, rfl⟩ h15 - _ _ ⟨rfl, rfl⟩ h16 - hf hsD hk
   exact ob rfl rfl (st_callv (vs := [.agg ⟨[.int .i64 b.water.lo, .int .i64 b.water.hi]⟩, .bool h]) hsD (.func _) ⟨(Ev.tmp h15), (Ev.tmp h16), trivial⟩ rfl hf call68 rfl (end_v b.water.lo b.water.hi h _) fun _ _ => hk _ _ _ _ ⟨rfl, rfl⟩)
 · rintro T_ B_ a_ w_ K_ hT hB hf hsD hk
   exact ob rfl rfl (st_field (o' := 16) hsD (evT hT 2 rfl) rfl hf runUnderlying27 rfl sizeOf23 rfl rfl fun _ _ => hk _ _ _ _ ⟨rfl, rfl⟩)
 · rintro T_ B_ a_ w_ K_ hT hB _ _ ⟨rfl, rfl⟩ h18 - hf hsD hk
   exact ob rfl rfl (st_loadA (o := 0) (off := 16) (vs := [.int .i64 b.full.lo, .int .i64 b.full.hi]) hsD (Ev.tmp h18) rfl hf isAgg23 sizeOf23 (hsD.cellsM (inB hB 2 rfl)) rfl fun _ _ => hk _ _ _ _ ⟨rfl, rfl⟩)
 · rintro T_ B_ a_ w_ K_ hT hB hf hsD hk
   exact ob rfl rfl (st_move hsD (evT hT 3 rfl) rfl hf fun _ _ => hk _ _ _ _ ⟨rfl, rfl⟩)
 · rintro T_ B_ a_ w_ K_ hT hB _ _ ⟨rfl, rfl⟩ h19 - _ _ ⟨rfl, rfl⟩ h20 - hf hsD hk
   exact ob rfl rfl (st_callv (vs := [.agg ⟨[.int .i64 b.full.lo, .int .i64 b.full.hi]⟩, .bool h]) hsD (.func _) ⟨(Ev.tmp h19), (Ev.tmp h20), trivial⟩ rfl hf call68 rfl (end_v b.full.lo b.full.hi h _) fun _ _ => hk _ _ _ _ ⟨rfl, rfl⟩)
 · rintro T_ B_ a_ w_ K_ hT hB hf hsD hk
   exact ob rfl rfl (st_field (o' := 18) hsD (evT hT 2 rfl) rfl hf runUnderlying27 rfl sizeOf23 rfl rfl fun _ _ => hk _ _ _ _ ⟨rfl, rfl⟩)
 · rintro T_ B_ a_ w_ K_ hT hB _ _ ⟨rfl, rfl⟩ h22 - hf hsD hk
   exact ob rfl rfl (st_loadA (o := 0) (off := 18) (vs := [.int .i64 b.weak.lo, .int .i64 b.weak.hi]) hsD (Ev.tmp h22) rfl hf isAgg23 sizeOf23 (hsD.cellsM (inB hB 2 rfl)) rfl fun _ _ => hk _ _ _ _ ⟨rfl, rfl⟩)
 · rintro T_ B_ a_ w_ K_ hT hB hf hsD hk
   exact ob rfl rfl (st_move hsD (evT hT 3 rfl) rfl hf fun _ _ => hk _ _ _ _ ⟨rfl, rfl⟩)
 · rintro T_ B_ a_ w_ K_ hT hB _ _ ⟨rfl, rfl⟩ h23 - _ _ ⟨rfl, rfl⟩ h24 - hf hsD hk
   exact ob rfl rfl (st_callv (vs := [.agg ⟨[.int .i64 b.weak.lo, .int .i64 b.weak.hi]⟩, .bool h]) hsD (.func _) ⟨(Ev.tmp h23), (Ev.tmp h24), trivial⟩ rfl hf call68 rfl (end_v b.weak.lo b.weak.hi h _) fun _ _ => hk _ _ _ _ ⟨rfl, rfl⟩)
 · rintro T_ B_ a_ w_ K_ hT hB hf hsD hk
   exact ob rfl rfl (st_field (o' := 0) hsD (evT hT 0 rfl) rfl hf runUnderlying27 rfl sizeOf23 rfl rfl fun _ _ => hk _ _ _ _ ⟨rfl, rfl⟩)
 rintro _ _ ⟨rfl, rfl⟩ _ _ ⟨rfl, rfl⟩ _ _ ⟨rfl, rfl⟩ _ _ ⟨rfl, rfl⟩ _ _ ⟨rfl, rfl⟩ _ _ ⟨rfl, rfl⟩ _ _ ⟨rfl, rfl⟩ _ _ ⟨rfl, rfl⟩ _ _ ⟨rfl, rfl⟩ _ _ ⟨rfl, rfl⟩ _ _ ⟨rfl, rfl⟩ _ _ ⟨rfl, rfl⟩ _ _ ⟨rfl, rfl⟩ _ _ ⟨rfl, rfl⟩ _ _ ⟨rfl, rfl⟩ _ _ ⟨rfl, rfl⟩ _ _ ⟨rfl, rfl⟩ a_9 w_9 hs9; clear hs8
 have hs10 := Sx.as (T' := [_, _, _, _, _, _, _, _, _, _, _, _, _, _, _, _, _, _, _, _, _]) (B' := [_, _, _]) rfl rfl hs9; clear hs9
 refine sq rfl (st_store (l' := [.int .i64 (b.coal.end h), .int .i64 (b.coal.end h), .int .i64 b.water.lo, .int .i64 b.water.hi, .int .i64 b.bunker, .int .i64 b.tank, .int .i64 b.scoop, .int .i64 b.pail, .int .i64 b.burn0.lo, .int .i64 b.burn0.hi, .int .i64 b.burn1.lo, .int .i64 b.burn1.hi, .int .i64 b.drink0.lo, .int .i64 b.drink0.hi, .int .i64 b.drink1.lo, .int .i64 b.drink1.hi, .int .i64 b.full.lo, .int .i64 b.full.hi, .int .i64 b.weak.lo, .int .i64 b.weak.hi, .int .i64 b.mark, .int .i64 b.lamp, .slice A n cp]) (vs := [.int .i64 (b.coal.end h), .int .i64 (b.coal.end h)]) (i := 0) hs10 (Ev.t 16 rfl) (Ev.t 3 rfl) sizeOf23 rfl rfl rfl rfl rfl rfl fun _ _ hs11 => ?_); clear hs10
 have hs12 := hs11.asB [_, _, _] rfl; clear hs11
 refine sq rfl (st_field (o' := 2) hs12 (Ev.t 17 rfl) rfl rfl runUnderlying27 rfl sizeOf23 rfl rfl fun _ _ hs13 => ?_); clear hs12
 refine sq rfl (st_store (l' := [.int .i64 (b.coal.end h), .int .i64 (b.coal.end h), .int .i64 (b.water.end h), .int .i64 (b.water.end h), .int .i64 b.bunker, .int .i64 b.tank, .int .i64 b.scoop, .int .i64 b.pail, .int .i64 b.burn0.lo, .int .i64 b.burn0.hi, .int .i64 b.burn1.lo, .int .i64 b.burn1.hi, .int .i64 b.drink0.lo, .int .i64 b.drink0.hi, .int .i64 b.drink1.lo, .int .i64 b.drink1.hi, .int .i64 b.full.lo, .int .i64 b.full.hi, .int .i64 b.weak.lo, .int .i64 b.weak.hi, .int .i64 b.mark, .int .i64 b.lamp, .slice A n cp]) (vs := [.int .i64 (b.water.end h), .int .i64 (b.water.end h)]) (i := 0) hs13 (Ev.t 0 rfl) (Ev.t 8 rfl) sizeOf23 rfl rfl rfl rfl rfl rfl fun _ _ hs14 => ?_); clear hs13
 have hs15 := hs14.asB [_, _, _] rfl; clear hs14
 refine sq rfl (st_field (o' := 16) hs15 (Ev.t 18 rfl) rfl rfl runUnderlying27 rfl sizeOf23 rfl rfl fun _ _ hs16 => ?_); clear hs15
 refine sq rfl (st_store (l' := [.int .i64 (b.coal.end h), .int .i64 (b.coal.end h), .int .i64 (b.water.end h), .int .i64 (b.water.end h), .int .i64 b.bunker, .int .i64 b.tank, .int .i64 b.scoop, .int .i64 b.pail, .int .i64 b.burn0.lo, .int .i64 b.burn0.hi, .int .i64 b.burn1.lo, .int .i64 b.burn1.hi, .int .i64 b.drink0.lo, .int .i64 b.drink0.hi, .int .i64 b.drink1.lo, .int .i64 b.drink1.hi, .int .i64 (b.full.end h), .int .i64 (b.full.end h), .int .i64 b.weak.lo, .int .i64 b.weak.hi, .int .i64 b.mark, .int .i64 b.lamp, .slice A n cp]) (vs := [.int .i64 (b.full.end h), .int .i64 (b.full.end h)]) (i := 0) hs16 (Ev.t 0 rfl) (Ev.t 13 rfl) sizeOf23 rfl rfl rfl rfl rfl rfl fun _ _ hs17 => ?_); clear hs16
 have hs18 := hs17.asB [_, _, _] rfl; clear hs17
 refine sq rfl (st_field (o' := 18) hs18 (Ev.t 19 rfl) rfl rfl runUnderlying27 rfl sizeOf23 rfl rfl fun _ _ hs19 => ?_); clear hs18
 refine sq rfl (st_store (l' := [.int .i64 (b.coal.end h), .int .i64 (b.coal.end h), .int .i64 (b.water.end h), .int .i64 (b.water.end h), .int .i64 b.bunker, .int .i64 b.tank, .int .i64 b.scoop, .int .i64 b.pail, .int .i64 b.burn0.lo, .int .i64 b.burn0.hi, .int .i64 b.burn1.lo, .int .i64 b.burn1.hi, .int .i64 b.drink0.lo, .int .i64 b.drink0.hi, .int .i64 b.drink1.lo, .int .i64 b.drink1.hi, .int .i64 (b.full.end h), .int .i64 (b.full.end h), .int .i64 (b.weak.end h), .int .i64 (b.weak.end h), .int .i64 b.mark, .int .i64 b.lamp, .slice A n cp]) (vs := [.int .i64 (b.weak.end h), .int .i64 (b.weak.end h)]) (i := 0) hs19 (Ev.t 0 rfl) (Ev.t 18 rfl) sizeOf23 rfl rfl rfl rfl rfl rfl fun _ _ hs20 => ?_); clear hs19
 have hs21 := hs20.asB [_, _, _] rfl; clear hs20
 refine hK6 _ _ ?_; clear hK6
 have hs22 := hs21.keep [20, 21, 22, 23] [_, _, _, _] rfl; clear hs21
 refine cd_seq fun K7 hK7 => ?_
 refine cd_region fun K8 hK8 => ?_
 refine sq rfl (st_assign hs22 (.const _) rfl rfl fun _ _ hs23 => ?_); clear hs22
 refine hK8 _ _ ?_; clear hK8
 refine cd_block ?_
 refine cd_rounds 3 ?_
 refine cd_round fun K9 hK9 => ?_
 refine cd_seq fun K10 hK10 => ?_
 refine cd_region fun K11 hK11 => ?_
 refine sq rfl (st_move hs23 (Ev.t 0 rfl) rfl rfl fun _ _ hs24 => ?_); clear hs23
 refine sq rfl (st_cmp (c := decide ((0 : Int) < 2)) hs24 (Ev.t 0 rfl) (.const _) rfl rfl rfl rfl fun _ _ hs25 => ?_); clear hs24
 refine hK11 _ _ ?_; clear hK11
 have hs26 := hs25.keep [0, 2, 3, 4, 5, 6] [_, _, _, _, _, _] rfl; clear hs25
 have hc12 : (decide ((0 : Int) < 2)) = true := by decide
 refine cd_cond hs26 (Ev.t 0 rfl) (fun _ => ?_) (fun h => absurd (hc12.symm.trans h) (by decide))
 refine cd_skip ?_
 refine th_norm (hK10 _ _ ?_)
 refine cd_seq fun K13 hK13 => ?_
 refine cd_block ?_
 have hs27 : Sx 80 [] [(31, .bool (decide ((0 : Int) < 2))), (6, .int .i64 0), (5, .pointer (some ⟨b5, 0, none⟩)), (4, .pointer (some ⟨b3, 0, none⟩)), (2, .pointer (some ⟨b2, 0, none⟩)), (1, .bool h)] [(b5, some (.cells ⟨[.int .i64 (b.coal.end h), .int .i64 (b.coal.end h), .int .i64 (b.water.end h), .int .i64 (b.water.end h), .int .i64 b.bunker, .int .i64 b.tank, .int .i64 b.scoop, .int .i64 b.pail, .int .i64 b.burn0.lo, .int .i64 b.burn0.hi, .int .i64 b.burn1.lo, .int .i64 b.burn1.hi, .int .i64 b.drink0.lo, .int .i64 b.drink0.hi, .int .i64 b.drink1.lo, .int .i64 b.drink1.hi, .int .i64 (b.full.end h), .int .i64 (b.full.end h), .int .i64 (b.weak.end h), .int .i64 (b.weak.end h), .int .i64 b.mark, .int .i64 b.lamp, .slice A n cp]⟩ 27 (0, 0))), (b3, some (.cells ⟨[.int .i64 0, .int .i64 0, .int .i64 0, .int .i64 0, .int .i64 0, .int .i64 0, .int .i64 0, .int .i64 0, .int .i64 0, .int .i64 0, .int .i64 0, .int .i64 0, .int .i64 0, .int .i64 0, .int .i64 0, .int .i64 0, .int .i64 0, .int .i64 0, .int .i64 0, .int .i64 0, .int .i64 0, .int .i64 0, .slice none 0 0]⟩ 27 (0, 0))), (b2, some (.cells ⟨(bookL b A n cp)⟩ 27 (0, 0)))] [] w _ _ := Sx.front hs26 0 rfl; clear hs26
 refine cd_drawS1 mixed [18] ⟨Unit, fun n_ x_ => match n_ with | 0 => [] | _ => [], fun n_ x_ => match n_ with | 0 => [(b5, some (.cells ⟨[.int .i64 (b.coal.end h), .int .i64 (b.coal.end h), .int .i64 (b.water.end h), .int .i64 (b.water.end h), .int .i64 b.bunker, .int .i64 b.tank, .int .i64 b.scoop, .int .i64 b.pail, .int .i64 b.burn0.lo, .int .i64 b.burn0.hi, .int .i64 b.burn1.lo, .int .i64 b.burn1.hi, .int .i64 b.drink0.lo, .int .i64 b.drink0.hi, .int .i64 b.drink1.lo, .int .i64 b.drink1.hi, .int .i64 (b.full.end h), .int .i64 (b.full.end h), .int .i64 (b.weak.end h), .int .i64 (b.weak.end h), .int .i64 b.mark, .int .i64 b.lamp, .slice A n cp]⟩ 27 (0, 0)))] | _ => [(b5, some (.cells ⟨[.int .i64 (b.coal.end h), .int .i64 (b.coal.end h), .int .i64 (b.water.end h), .int .i64 (b.water.end h), .int .i64 b.bunker, .int .i64 b.tank, .int .i64 b.scoop, .int .i64 b.pail, .int .i64 (b.burn0.end (!h)), .int .i64 (b.burn0.end (!h)), .int .i64 b.burn1.lo, .int .i64 b.burn1.hi, .int .i64 b.drink0.lo, .int .i64 b.drink0.hi, .int .i64 b.drink1.lo, .int .i64 b.drink1.hi, .int .i64 (b.full.end h), .int .i64 (b.full.end h), .int .i64 (b.weak.end h), .int .i64 (b.weak.end h), .int .i64 b.mark, .int .i64 b.lamp, .slice A n cp]⟩ 27 (0, 0)))]⟩ () hs27 [⟨34, [], Is (.int .i64 0)⟩, ⟨35, [], Is (.int .i64 0)⟩, ⟨36, [], Is (.int .i64 0)⟩, ⟨37, [], Is (.pointer (some ⟨b2, 8, none⟩))⟩, ⟨38, [2, 3], Is (.pointer (some ⟨b2, 8, none⟩))⟩, ⟨39, [4], Is (.agg ⟨[.int .i64 b.burn0.lo, .int .i64 b.burn0.hi]⟩)⟩, ⟨40, [], Is (.bool h)⟩, ⟨41, [6], Is (.bool (!h))⟩, ⟨42, [5, 7], Is (.agg ⟨[.int .i64 (b.burn0.end (!h)), .int .i64 (b.burn0.end (!h))]⟩)⟩, ⟨43, [], Is (.int .i64 0)⟩, ⟨44, [], Is (.pointer (some ⟨b2, 12, none⟩))⟩, ⟨45, [9, 10], Is (.pointer (some ⟨b2, 12, none⟩))⟩, ⟨46, [11], Is (.agg ⟨[.int .i64 b.drink0.lo, .int .i64 b.drink0.hi]⟩)⟩, ⟨47, [], Is (.bool h)⟩, ⟨48, [13], Is (.bool (!h))⟩, ⟨49, [12, 14], Is (.agg ⟨[.int .i64 (b.drink0.end (!h)), .int .i64 (b.drink0.end (!h))]⟩)⟩, ⟨50, [], Is (.pointer (some ⟨b5, 8, none⟩))⟩, ⟨51, [0, 16], Is (.pointer (some ⟨b5, 8, none⟩))⟩, ⟨98, [8, 17], Is undef⟩, ⟨52, [], Is (.pointer (some ⟨b5, 12, none⟩))⟩] (by kernel_rfl) (fun n_ _ => by rcases n_ with _ | _ <;> rfl) (by kernel_rfl) ⟨⟨?_, ?_, ?_, ?_, ?_, ?_, ?_, ?_, ?_, ?_, ?_, ?_, ?_, ?_, ?_, ?_, ?_, ?_, ?_, ?_, trivial⟩, ?_⟩
 · rintro T_ B_ a_ w_ K_ hT hB hf hsD hk
   exact ob rfl rfl (st_move hsD (evT hT 1 rfl) rfl hf fun _ _ => hk _ _ _ _ ⟨rfl, rfl⟩)
 · rintro T_ B_ a_ w_ K_ hT hB hf hsD hk
   exact ob rfl rfl (st_move hsD (evT hT 1 rfl) rfl hf fun _ _ => hk _ _ _ _ ⟨rfl, rfl⟩)
 · rintro T_ B_ a_ w_ K_ hT hB hf hsD hk
   exact ob rfl rfl (st_move hsD (evT hT 1 rfl) rfl hf fun _ _ => hk _ _ _ _ ⟨rfl, rfl⟩)
 · rintro T_ B_ a_ w_ K_ hT hB hf hsD hk
   exact ob rfl rfl (st_field (o' := 8) hsD (evT hT 4 rfl) rfl hf runUnderlying27 rfl sizeOf24 rfl rfl fun _ _ => hk _ _ _ _ ⟨rfl, rfl⟩)
 · rintro T_ B_ a_ w_ K_ hT hB _ _ ⟨rfl, rfl⟩ h36 - _ _ ⟨rfl, rfl⟩ h37 - hf hsD hk
   exact ob rfl rfl (st_indexArr (o' := 8) hsD (Ev.tmp h37) (Ev.tmp h36) rfl hf runUnderlying24 sizeOf23 (by decide) rfl fun _ _ => hk _ _ _ _ ⟨rfl, rfl⟩)
 · rintro T_ B_ a_ w_ K_ hT hB _ _ ⟨rfl, rfl⟩ h38 - hf hsD hk
   exact ob rfl rfl (st_loadA (o := 0) (off := 8) (vs := [.int .i64 b.burn0.lo, .int .i64 b.burn0.hi]) hsD (Ev.tmp h38) rfl hf isAgg23 sizeOf23 (hsD.cellsM (inB hB 1 rfl)) rfl fun _ _ => hk _ _ _ _ ⟨rfl, rfl⟩)
 · rintro T_ B_ a_ w_ K_ hT hB hf hsD hk
   exact ob rfl rfl (st_move hsD (evT hT 5 rfl) rfl hf fun _ _ => hk _ _ _ _ ⟨rfl, rfl⟩)
 · rintro T_ B_ a_ w_ K_ hT hB _ _ ⟨rfl, rfl⟩ h40 - hf hsD hk
   exact ob rfl rfl (st_not hsD (Ev.tmp h40) rfl hf fun _ _ => hk _ _ _ _ ⟨rfl, rfl⟩)
 · rintro T_ B_ a_ w_ K_ hT hB _ _ ⟨rfl, rfl⟩ h39 - _ _ ⟨rfl, rfl⟩ h41 - hf hsD hk
   exact ob rfl rfl (st_callv (vs := [.agg ⟨[.int .i64 b.burn0.lo, .int .i64 b.burn0.hi]⟩, .bool (!h)]) hsD (.func _) ⟨(Ev.tmp h39), (Ev.tmp h41), trivial⟩ rfl hf call68 rfl (end_v b.burn0.lo b.burn0.hi (!h) _) fun _ _ => hk _ _ _ _ ⟨rfl, rfl⟩)
 · rintro T_ B_ a_ w_ K_ hT hB hf hsD hk
   exact ob rfl rfl (st_move hsD (evT hT 1 rfl) rfl hf fun _ _ => hk _ _ _ _ ⟨rfl, rfl⟩)
 · rintro T_ B_ a_ w_ K_ hT hB hf hsD hk
   exact ob rfl rfl (st_field (o' := 12) hsD (evT hT 4 rfl) rfl hf runUnderlying27 rfl sizeOf24 rfl rfl fun _ _ => hk _ _ _ _ ⟨rfl, rfl⟩)
 · rintro T_ B_ a_ w_ K_ hT hB _ _ ⟨rfl, rfl⟩ h43 - _ _ ⟨rfl, rfl⟩ h44 - hf hsD hk
   exact ob rfl rfl (st_indexArr (o' := 12) hsD (Ev.tmp h44) (Ev.tmp h43) rfl hf runUnderlying24 sizeOf23 (by decide) rfl fun _ _ => hk _ _ _ _ ⟨rfl, rfl⟩)
 · rintro T_ B_ a_ w_ K_ hT hB _ _ ⟨rfl, rfl⟩ h45 - hf hsD hk
   exact ob rfl rfl (st_loadA (o := 0) (off := 12) (vs := [.int .i64 b.drink0.lo, .int .i64 b.drink0.hi]) hsD (Ev.tmp h45) rfl hf isAgg23 sizeOf23 (hsD.cellsM (inB hB 1 rfl)) rfl fun _ _ => hk _ _ _ _ ⟨rfl, rfl⟩)
 · rintro T_ B_ a_ w_ K_ hT hB hf hsD hk
   exact ob rfl rfl (st_move hsD (evT hT 5 rfl) rfl hf fun _ _ => hk _ _ _ _ ⟨rfl, rfl⟩)
 · rintro T_ B_ a_ w_ K_ hT hB _ _ ⟨rfl, rfl⟩ h47 - hf hsD hk
   exact ob rfl rfl (st_not hsD (Ev.tmp h47) rfl hf fun _ _ => hk _ _ _ _ ⟨rfl, rfl⟩)
 · rintro T_ B_ a_ w_ K_ hT hB _ _ ⟨rfl, rfl⟩ h46 - _ _ ⟨rfl, rfl⟩ h48 - hf hsD hk
   exact ob rfl rfl (st_callv (vs := [.agg ⟨[.int .i64 b.drink0.lo, .int .i64 b.drink0.hi]⟩, .bool (!h)]) hsD (.func _) ⟨(Ev.tmp h46), (Ev.tmp h48), trivial⟩ rfl hf call68 rfl (end_v b.drink0.lo b.drink0.hi (!h) _) fun _ _ => hk _ _ _ _ ⟨rfl, rfl⟩)
 · rintro T_ B_ a_ w_ K_ hT hB hf hsD hk
   exact ob rfl rfl (st_field (o' := 8) hsD (evT hT 2 rfl) rfl hf runUnderlying27 rfl sizeOf24 rfl rfl fun _ _ => hk _ _ _ _ ⟨rfl, rfl⟩)
 · rintro T_ B_ a_ w_ K_ hT hB _ _ ⟨rfl, rfl⟩ h34 - _ _ ⟨rfl, rfl⟩ h50 - hf hsD hk
   exact ob rfl rfl (st_indexArr (o' := 8) hsD (Ev.tmp h50) (Ev.tmp h34) rfl hf runUnderlying24 sizeOf23 (by decide) rfl fun _ _ => hk _ _ _ _ ⟨rfl, rfl⟩)
 · rintro T_ B_ a_ w_ K_ x_ hT hB _ _ ⟨rfl, rfl⟩ h42 - _ _ ⟨rfl, rfl⟩ h51 - hf hsD hk
   exact ob rfl rfl (st_store (l' := [.int .i64 (b.coal.end h), .int .i64 (b.coal.end h), .int .i64 (b.water.end h), .int .i64 (b.water.end h), .int .i64 b.bunker, .int .i64 b.tank, .int .i64 b.scoop, .int .i64 b.pail, .int .i64 (b.burn0.end (!h)), .int .i64 (b.burn0.end (!h)), .int .i64 b.burn1.lo, .int .i64 b.burn1.hi, .int .i64 b.drink0.lo, .int .i64 b.drink0.hi, .int .i64 b.drink1.lo, .int .i64 b.drink1.hi, .int .i64 (b.full.end h), .int .i64 (b.full.end h), .int .i64 (b.weak.end h), .int .i64 (b.weak.end h), .int .i64 b.mark, .int .i64 b.lamp, .slice A n cp]) (vs := [.int .i64 (b.burn0.end (!h)), .int .i64 (b.burn0.end (!h))]) (i := 0) hsD (Ev.tmp (List.mem_append_right _ h51)) (Ev.tmp (List.mem_append_right _ h42)) sizeOf23 rfl rfl rfl rfl rfl rfl fun a_1 w_1 h1 => hk x_ _ _ h1)
 · rintro T_ B_ a_ w_ K_ hT hB hf hsD hk
   exact ob rfl rfl (st_field (o' := 12) hsD (evT hT 2 rfl) rfl hf runUnderlying27 rfl sizeOf24 rfl rfl fun _ _ => hk _ _ _ _ ⟨rfl, rfl⟩)
 rintro _ _ ⟨rfl, rfl⟩
 rintro _ _ ⟨rfl, rfl⟩
 rintro _ _ ⟨rfl, rfl⟩
 rintro _ _ ⟨rfl, rfl⟩
 rintro _ _ ⟨rfl, rfl⟩
 rintro _ _ ⟨rfl, rfl⟩
 rintro _ _ ⟨rfl, rfl⟩
 rintro _ _ ⟨rfl, rfl⟩
 rintro _ _ ⟨rfl, rfl⟩
 rintro _ _ ⟨rfl, rfl⟩
 rintro _ _ ⟨rfl, rfl⟩
 rintro _ _ ⟨rfl, rfl⟩
 rintro _ _ ⟨rfl, rfl⟩
 rintro _ _ ⟨rfl, rfl⟩
 rintro _ _ ⟨rfl, rfl⟩
 rintro _ _ ⟨rfl, rfl⟩
 rintro _ _ ⟨rfl, rfl⟩
 rintro _ _ ⟨rfl, rfl⟩
 rintro _ _ ⟨rfl, rfl⟩
 intro _ a_28 w_28 hs28
 clear hs27
 have hs29 := Sx.as (T' := [_, _, _, _, _, _, _, _, _, _, _, _, _, _, _, _, _, _, _, _, _, _, _, _, _]) (B' := [_, _, _]) rfl rfl hs28; clear hs28
 refine sq rfl (st_indexArr (o' := 12) hs29 (Ev.t 18 rfl) (Ev.t 1 rfl) rfl rfl runUnderlying24 sizeOf23 (by decide) rfl fun _ _ hs30 => ?_); clear hs29
 refine sq rfl (st_store (l' := [.int .i64 (b.coal.end h), .int .i64 (b.coal.end h), .int .i64 (b.water.end h), .int .i64 (b.water.end h), .int .i64 b.bunker, .int .i64 b.tank, .int .i64 b.scoop, .int .i64 b.pail, .int .i64 (b.burn0.end (!h)), .int .i64 (b.burn0.end (!h)), .int .i64 b.burn1.lo, .int .i64 b.burn1.hi, .int .i64 (b.drink0.end (!h)), .int .i64 (b.drink0.end (!h)), .int .i64 b.drink1.lo, .int .i64 b.drink1.hi, .int .i64 (b.full.end h), .int .i64 (b.full.end h), .int .i64 (b.weak.end h), .int .i64 (b.weak.end h), .int .i64 b.mark, .int .i64 b.lamp, .slice A n cp]) (vs := [.int .i64 (b.drink0.end (!h)), .int .i64 (b.drink0.end (!h))]) (i := 0) hs30 (Ev.t 0 rfl) (Ev.t 16 rfl) sizeOf23 rfl rfl rfl rfl rfl rfl fun _ _ hs31 => ?_); clear hs30
 have hs32 := hs31.asB [_, _, _] rfl; clear hs31
 refine wpListIn_nil ?_
 have hs33 := hs32.keep [21, 22, 23, 24, 25] [_, _, _, _, _] rfl; clear hs32
 refine in_norm ?_
 refine th_norm (hK13 _ _ ?_)
 refine cd_region1 ?_
 refine sq rfl (st_move hs33 (Ev.t 0 rfl) rfl rfl fun _ _ hs34 => ?_); clear hs33
 refine sq rfl (st_add (z := 1) hs34 (Ev.t 0 rfl) (.const _) rfl rfl rfl (by omega) fun _ _ hs35 => ?_); clear hs34
 have hs36 := hs35.keep [0, 1, 3, 4, 5, 6] [_, _, _, _, _, _] rfl; clear hs35
 refine sq rfl (st_assign hs36 (Ev.t 0 rfl) rfl rfl fun _ _ hs37 => ?_); clear hs36
 refine wpListIn_nil ?_
 have hs38 := hs37.keep [0, 3, 4, 5, 6] [_, _, _, _, _] rfl; clear hs37
 refine th_norm (hK9 _ _ ?_); clear hK9
 refine cd_round fun K14 hK14 => ?_
 refine cd_seq fun K15 hK15 => ?_
 refine cd_region fun K16 hK16 => ?_
 refine sq rfl (st_move hs38 (Ev.t 0 rfl) rfl rfl fun _ _ hs39 => ?_); clear hs38
 refine sq rfl (st_cmp (c := decide ((1 : Int) < 2)) hs39 (Ev.t 0 rfl) (.const _) rfl rfl rfl rfl fun _ _ hs40 => ?_); clear hs39
 refine hK16 _ _ ?_; clear hK16
 have hs41 := hs40.keep [0, 2, 3, 4, 5, 6] [_, _, _, _, _, _] rfl; clear hs40
 have hc17 : (decide ((1 : Int) < 2)) = true := by decide
 refine cd_cond hs41 (Ev.t 0 rfl) (fun _ => ?_) (fun h => absurd (hc17.symm.trans h) (by decide))
 refine cd_skip ?_
 refine th_norm (hK15 _ _ ?_)
 refine cd_seq fun K18 hK18 => ?_
 refine cd_block ?_
 have hs42 : Sx 80 [] [(31, .bool (decide ((1 : Int) < 2))), (6, .int .i64 1), (5, .pointer (some ⟨b5, 0, none⟩)), (4, .pointer (some ⟨b3, 0, none⟩)), (2, .pointer (some ⟨b2, 0, none⟩)), (1, .bool h)] [(b5, some (.cells ⟨[.int .i64 (b.coal.end h), .int .i64 (b.coal.end h), .int .i64 (b.water.end h), .int .i64 (b.water.end h), .int .i64 b.bunker, .int .i64 b.tank, .int .i64 b.scoop, .int .i64 b.pail, .int .i64 (b.burn0.end (!h)), .int .i64 (b.burn0.end (!h)), .int .i64 b.burn1.lo, .int .i64 b.burn1.hi, .int .i64 (b.drink0.end (!h)), .int .i64 (b.drink0.end (!h)), .int .i64 b.drink1.lo, .int .i64 b.drink1.hi, .int .i64 (b.full.end h), .int .i64 (b.full.end h), .int .i64 (b.weak.end h), .int .i64 (b.weak.end h), .int .i64 b.mark, .int .i64 b.lamp, .slice A n cp]⟩ 27 (0, 0))), (b3, some (.cells ⟨[.int .i64 0, .int .i64 0, .int .i64 0, .int .i64 0, .int .i64 0, .int .i64 0, .int .i64 0, .int .i64 0, .int .i64 0, .int .i64 0, .int .i64 0, .int .i64 0, .int .i64 0, .int .i64 0, .int .i64 0, .int .i64 0, .int .i64 0, .int .i64 0, .int .i64 0, .int .i64 0, .int .i64 0, .int .i64 0, .slice none 0 0]⟩ 27 (0, 0))), (b2, some (.cells ⟨(bookL b A n cp)⟩ 27 (0, 0)))] [] w _ _ := Sx.front hs41 0 rfl; clear hs41
 refine cd_drawS1 mixed [18] ⟨Unit, fun n_ x_ => match n_ with | 0 => [] | _ => [], fun n_ x_ => match n_ with | 0 => [(b5, some (.cells ⟨[.int .i64 (b.coal.end h), .int .i64 (b.coal.end h), .int .i64 (b.water.end h), .int .i64 (b.water.end h), .int .i64 b.bunker, .int .i64 b.tank, .int .i64 b.scoop, .int .i64 b.pail, .int .i64 (b.burn0.end (!h)), .int .i64 (b.burn0.end (!h)), .int .i64 b.burn1.lo, .int .i64 b.burn1.hi, .int .i64 (b.drink0.end (!h)), .int .i64 (b.drink0.end (!h)), .int .i64 b.drink1.lo, .int .i64 b.drink1.hi, .int .i64 (b.full.end h), .int .i64 (b.full.end h), .int .i64 (b.weak.end h), .int .i64 (b.weak.end h), .int .i64 b.mark, .int .i64 b.lamp, .slice A n cp]⟩ 27 (0, 0)))] | _ => [(b5, some (.cells ⟨[.int .i64 (b.coal.end h), .int .i64 (b.coal.end h), .int .i64 (b.water.end h), .int .i64 (b.water.end h), .int .i64 b.bunker, .int .i64 b.tank, .int .i64 b.scoop, .int .i64 b.pail, .int .i64 (b.burn0.end (!h)), .int .i64 (b.burn0.end (!h)), .int .i64 (b.burn1.end (!h)), .int .i64 (b.burn1.end (!h)), .int .i64 (b.drink0.end (!h)), .int .i64 (b.drink0.end (!h)), .int .i64 b.drink1.lo, .int .i64 b.drink1.hi, .int .i64 (b.full.end h), .int .i64 (b.full.end h), .int .i64 (b.weak.end h), .int .i64 (b.weak.end h), .int .i64 b.mark, .int .i64 b.lamp, .slice A n cp]⟩ 27 (0, 0)))]⟩ () hs42 [⟨34, [], Is (.int .i64 1)⟩, ⟨35, [], Is (.int .i64 1)⟩, ⟨36, [], Is (.int .i64 1)⟩, ⟨37, [], Is (.pointer (some ⟨b2, 8, none⟩))⟩, ⟨38, [2, 3], Is (.pointer (some ⟨b2, 10, none⟩))⟩, ⟨39, [4], Is (.agg ⟨[.int .i64 b.burn1.lo, .int .i64 b.burn1.hi]⟩)⟩, ⟨40, [], Is (.bool h)⟩, ⟨41, [6], Is (.bool (!h))⟩, ⟨42, [5, 7], Is (.agg ⟨[.int .i64 (b.burn1.end (!h)), .int .i64 (b.burn1.end (!h))]⟩)⟩, ⟨43, [], Is (.int .i64 1)⟩, ⟨44, [], Is (.pointer (some ⟨b2, 12, none⟩))⟩, ⟨45, [9, 10], Is (.pointer (some ⟨b2, 14, none⟩))⟩, ⟨46, [11], Is (.agg ⟨[.int .i64 b.drink1.lo, .int .i64 b.drink1.hi]⟩)⟩, ⟨47, [], Is (.bool h)⟩, ⟨48, [13], Is (.bool (!h))⟩, ⟨49, [12, 14], Is (.agg ⟨[.int .i64 (b.drink1.end (!h)), .int .i64 (b.drink1.end (!h))]⟩)⟩, ⟨50, [], Is (.pointer (some ⟨b5, 8, none⟩))⟩, ⟨51, [0, 16], Is (.pointer (some ⟨b5, 10, none⟩))⟩, ⟨98, [8, 17], Is undef⟩, ⟨52, [], Is (.pointer (some ⟨b5, 12, none⟩))⟩] (by kernel_rfl) (fun n_ _ => by rcases n_ with _ | _ <;> rfl) (by kernel_rfl) ⟨⟨?_, ?_, ?_, ?_, ?_, ?_, ?_, ?_, ?_, ?_, ?_, ?_, ?_, ?_, ?_, ?_, ?_, ?_, ?_, ?_, trivial⟩, ?_⟩
 · rintro T_ B_ a_ w_ K_ hT hB hf hsD hk
   exact ob rfl rfl (st_move hsD (evT hT 1 rfl) rfl hf fun _ _ => hk _ _ _ _ ⟨rfl, rfl⟩)
 · rintro T_ B_ a_ w_ K_ hT hB hf hsD hk
   exact ob rfl rfl (st_move hsD (evT hT 1 rfl) rfl hf fun _ _ => hk _ _ _ _ ⟨rfl, rfl⟩)
 · rintro T_ B_ a_ w_ K_ hT hB hf hsD hk
   exact ob rfl rfl (st_move hsD (evT hT 1 rfl) rfl hf fun _ _ => hk _ _ _ _ ⟨rfl, rfl⟩)
 · rintro T_ B_ a_ w_ K_ hT hB hf hsD hk
   exact ob rfl rfl (st_field (o' := 8) hsD (evT hT 4 rfl) rfl hf runUnderlying27 rfl sizeOf24 rfl rfl fun _ _ => hk _ _ _ _ ⟨rfl, rfl⟩)
 · rintro T_ B_ a_ w_ K_ hT hB _ _ ⟨rfl, rfl⟩ h36 - _ _ ⟨rfl, rfl⟩ h37 - hf hsD hk
   exact ob rfl rfl (st_indexArr (o' := 10) hsD (Ev.tmp h37) (Ev.tmp h36) rfl hf runUnderlying24 sizeOf23 (by decide) rfl fun _ _ => hk _ _ _ _ ⟨rfl, rfl⟩)
 · rintro T_ B_ a_ w_ K_ hT hB _ _ ⟨rfl, rfl⟩ h38 - hf hsD hk
   exact ob rfl rfl (st_loadA (o := 0) (off := 10) (vs := [.int .i64 b.burn1.lo, .int .i64 b.burn1.hi]) hsD (Ev.tmp h38) rfl hf isAgg23 sizeOf23 (hsD.cellsM (inB hB 1 rfl)) rfl fun _ _ => hk _ _ _ _ ⟨rfl, rfl⟩)
 · rintro T_ B_ a_ w_ K_ hT hB hf hsD hk
   exact ob rfl rfl (st_move hsD (evT hT 5 rfl) rfl hf fun _ _ => hk _ _ _ _ ⟨rfl, rfl⟩)
 · rintro T_ B_ a_ w_ K_ hT hB _ _ ⟨rfl, rfl⟩ h40 - hf hsD hk
   exact ob rfl rfl (st_not hsD (Ev.tmp h40) rfl hf fun _ _ => hk _ _ _ _ ⟨rfl, rfl⟩)
 · rintro T_ B_ a_ w_ K_ hT hB _ _ ⟨rfl, rfl⟩ h39 - _ _ ⟨rfl, rfl⟩ h41 - hf hsD hk
   exact ob rfl rfl (st_callv (vs := [.agg ⟨[.int .i64 b.burn1.lo, .int .i64 b.burn1.hi]⟩, .bool (!h)]) hsD (.func _) ⟨(Ev.tmp h39), (Ev.tmp h41), trivial⟩ rfl hf call68 rfl (end_v b.burn1.lo b.burn1.hi (!h) _) fun _ _ => hk _ _ _ _ ⟨rfl, rfl⟩)
 · rintro T_ B_ a_ w_ K_ hT hB hf hsD hk
   exact ob rfl rfl (st_move hsD (evT hT 1 rfl) rfl hf fun _ _ => hk _ _ _ _ ⟨rfl, rfl⟩)
 · rintro T_ B_ a_ w_ K_ hT hB hf hsD hk
   exact ob rfl rfl (st_field (o' := 12) hsD (evT hT 4 rfl) rfl hf runUnderlying27 rfl sizeOf24 rfl rfl fun _ _ => hk _ _ _ _ ⟨rfl, rfl⟩)
 · rintro T_ B_ a_ w_ K_ hT hB _ _ ⟨rfl, rfl⟩ h43 - _ _ ⟨rfl, rfl⟩ h44 - hf hsD hk
   exact ob rfl rfl (st_indexArr (o' := 14) hsD (Ev.tmp h44) (Ev.tmp h43) rfl hf runUnderlying24 sizeOf23 (by decide) rfl fun _ _ => hk _ _ _ _ ⟨rfl, rfl⟩)
 · rintro T_ B_ a_ w_ K_ hT hB _ _ ⟨rfl, rfl⟩ h45 - hf hsD hk
   exact ob rfl rfl (st_loadA (o := 0) (off := 14) (vs := [.int .i64 b.drink1.lo, .int .i64 b.drink1.hi]) hsD (Ev.tmp h45) rfl hf isAgg23 sizeOf23 (hsD.cellsM (inB hB 1 rfl)) rfl fun _ _ => hk _ _ _ _ ⟨rfl, rfl⟩)
 · rintro T_ B_ a_ w_ K_ hT hB hf hsD hk
   exact ob rfl rfl (st_move hsD (evT hT 5 rfl) rfl hf fun _ _ => hk _ _ _ _ ⟨rfl, rfl⟩)
 · rintro T_ B_ a_ w_ K_ hT hB _ _ ⟨rfl, rfl⟩ h47 - hf hsD hk
   exact ob rfl rfl (st_not hsD (Ev.tmp h47) rfl hf fun _ _ => hk _ _ _ _ ⟨rfl, rfl⟩)
 · rintro T_ B_ a_ w_ K_ hT hB _ _ ⟨rfl, rfl⟩ h46 - _ _ ⟨rfl, rfl⟩ h48 - hf hsD hk
   exact ob rfl rfl (st_callv (vs := [.agg ⟨[.int .i64 b.drink1.lo, .int .i64 b.drink1.hi]⟩, .bool (!h)]) hsD (.func _) ⟨(Ev.tmp h46), (Ev.tmp h48), trivial⟩ rfl hf call68 rfl (end_v b.drink1.lo b.drink1.hi (!h) _) fun _ _ => hk _ _ _ _ ⟨rfl, rfl⟩)
 · rintro T_ B_ a_ w_ K_ hT hB hf hsD hk
   exact ob rfl rfl (st_field (o' := 8) hsD (evT hT 2 rfl) rfl hf runUnderlying27 rfl sizeOf24 rfl rfl fun _ _ => hk _ _ _ _ ⟨rfl, rfl⟩)
 · rintro T_ B_ a_ w_ K_ hT hB _ _ ⟨rfl, rfl⟩ h34 - _ _ ⟨rfl, rfl⟩ h50 - hf hsD hk
   exact ob rfl rfl (st_indexArr (o' := 10) hsD (Ev.tmp h50) (Ev.tmp h34) rfl hf runUnderlying24 sizeOf23 (by decide) rfl fun _ _ => hk _ _ _ _ ⟨rfl, rfl⟩)
 · rintro T_ B_ a_ w_ K_ x_ hT hB _ _ ⟨rfl, rfl⟩ h42 - _ _ ⟨rfl, rfl⟩ h51 - hf hsD hk
   exact ob rfl rfl (st_store (l' := [.int .i64 (b.coal.end h), .int .i64 (b.coal.end h), .int .i64 (b.water.end h), .int .i64 (b.water.end h), .int .i64 b.bunker, .int .i64 b.tank, .int .i64 b.scoop, .int .i64 b.pail, .int .i64 (b.burn0.end (!h)), .int .i64 (b.burn0.end (!h)), .int .i64 (b.burn1.end (!h)), .int .i64 (b.burn1.end (!h)), .int .i64 (b.drink0.end (!h)), .int .i64 (b.drink0.end (!h)), .int .i64 b.drink1.lo, .int .i64 b.drink1.hi, .int .i64 (b.full.end h), .int .i64 (b.full.end h), .int .i64 (b.weak.end h), .int .i64 (b.weak.end h), .int .i64 b.mark, .int .i64 b.lamp, .slice A n cp]) (vs := [.int .i64 (b.burn1.end (!h)), .int .i64 (b.burn1.end (!h))]) (i := 0) hsD (Ev.tmp (List.mem_append_right _ h51)) (Ev.tmp (List.mem_append_right _ h42)) sizeOf23 rfl rfl rfl rfl rfl rfl fun a_1 w_1 h1 => hk x_ _ _ h1)
 · rintro T_ B_ a_ w_ K_ hT hB hf hsD hk
   exact ob rfl rfl (st_field (o' := 12) hsD (evT hT 2 rfl) rfl hf runUnderlying27 rfl sizeOf24 rfl rfl fun _ _ => hk _ _ _ _ ⟨rfl, rfl⟩)
 rintro _ _ ⟨rfl, rfl⟩
 rintro _ _ ⟨rfl, rfl⟩
 rintro _ _ ⟨rfl, rfl⟩
 rintro _ _ ⟨rfl, rfl⟩
 rintro _ _ ⟨rfl, rfl⟩
 rintro _ _ ⟨rfl, rfl⟩
 rintro _ _ ⟨rfl, rfl⟩
 rintro _ _ ⟨rfl, rfl⟩
 rintro _ _ ⟨rfl, rfl⟩
 rintro _ _ ⟨rfl, rfl⟩
 rintro _ _ ⟨rfl, rfl⟩
 rintro _ _ ⟨rfl, rfl⟩
 rintro _ _ ⟨rfl, rfl⟩
 rintro _ _ ⟨rfl, rfl⟩
 rintro _ _ ⟨rfl, rfl⟩
 rintro _ _ ⟨rfl, rfl⟩
 rintro _ _ ⟨rfl, rfl⟩
 rintro _ _ ⟨rfl, rfl⟩
 rintro _ _ ⟨rfl, rfl⟩
 intro _ a_43 w_43 hs43
 clear hs42
 have hs44 := Sx.as (T' := [_, _, _, _, _, _, _, _, _, _, _, _, _, _, _, _, _, _, _, _, _, _, _, _, _]) (B' := [_, _, _]) rfl rfl hs43; clear hs43
 refine sq rfl (st_indexArr (o' := 14) hs44 (Ev.t 18 rfl) (Ev.t 1 rfl) rfl rfl runUnderlying24 sizeOf23 (by decide) rfl fun _ _ hs45 => ?_); clear hs44
 refine sq rfl (st_store (l' := [.int .i64 (b.coal.end h), .int .i64 (b.coal.end h), .int .i64 (b.water.end h), .int .i64 (b.water.end h), .int .i64 b.bunker, .int .i64 b.tank, .int .i64 b.scoop, .int .i64 b.pail, .int .i64 (b.burn0.end (!h)), .int .i64 (b.burn0.end (!h)), .int .i64 (b.burn1.end (!h)), .int .i64 (b.burn1.end (!h)), .int .i64 (b.drink0.end (!h)), .int .i64 (b.drink0.end (!h)), .int .i64 (b.drink1.end (!h)), .int .i64 (b.drink1.end (!h)), .int .i64 (b.full.end h), .int .i64 (b.full.end h), .int .i64 (b.weak.end h), .int .i64 (b.weak.end h), .int .i64 b.mark, .int .i64 b.lamp, .slice A n cp]) (vs := [.int .i64 (b.drink1.end (!h)), .int .i64 (b.drink1.end (!h))]) (i := 0) hs45 (Ev.t 0 rfl) (Ev.t 16 rfl) sizeOf23 rfl rfl rfl rfl rfl rfl fun _ _ hs46 => ?_); clear hs45
 have hs47 := hs46.asB [_, _, _] rfl; clear hs46
 refine wpListIn_nil ?_
 have hs48 := hs47.keep [21, 22, 23, 24, 25] [_, _, _, _, _] rfl; clear hs47
 refine in_norm ?_
 refine th_norm (hK18 _ _ ?_)
 refine cd_region1 ?_
 refine sq rfl (st_move hs48 (Ev.t 0 rfl) rfl rfl fun _ _ hs49 => ?_); clear hs48
 refine sq rfl (st_add (z := 2) hs49 (Ev.t 0 rfl) (.const _) rfl rfl rfl (by omega) fun _ _ hs50 => ?_); clear hs49
 have hs51 := hs50.keep [0, 1, 3, 4, 5, 6] [_, _, _, _, _, _] rfl; clear hs50
 refine sq rfl (st_assign hs51 (Ev.t 0 rfl) rfl rfl fun _ _ hs52 => ?_); clear hs51
 refine wpListIn_nil ?_
 have hs53 := hs52.keep [0, 3, 4, 5, 6] [_, _, _, _, _] rfl; clear hs52
 refine th_norm (hK14 _ _ ?_); clear hK14
 refine cd_round fun K19 hK19 => ?_
 refine cd_seq fun K20 hK20 => ?_
 refine cd_region fun K21 hK21 => ?_
 refine sq rfl (st_move hs53 (Ev.t 0 rfl) rfl rfl fun _ _ hs54 => ?_); clear hs53
 refine sq rfl (st_cmp (c := decide ((2 : Int) < 2)) hs54 (Ev.t 0 rfl) (.const _) rfl rfl rfl rfl fun _ _ hs55 => ?_); clear hs54
 refine hK21 _ _ ?_; clear hK21
 have hs56 := hs55.keep [0, 2, 3, 4, 5, 6] [_, _, _, _, _, _] rfl; clear hs55
 have hc22 : (decide ((2 : Int) < 2)) = false := by decide
 refine cd_cond hs56 (Ev.t 0 rfl) (fun h => absurd (hc22.symm.trans h) (by decide)) (fun _ => ?_)
 refine cd_exit ?_
 refine th_exit ?_
 refine th_exit ?_
 refine in_hit ?_
 refine th_norm (hK7 _ _ ?_)
 refine cd_region fun K23 hK23 => ?_
 refine sq rfl (st_field (o' := 22) hs56 (Ev.t 2 rfl) rfl rfl runUnderlying27 rfl sizeOf25 rfl rfl fun _ _ hs57 => ?_); clear hs56
 refine sq rfl (st_store (l' := [.int .i64 (b.coal.end h), .int .i64 (b.coal.end h), .int .i64 (b.water.end h), .int .i64 (b.water.end h), .int .i64 b.bunker, .int .i64 b.tank, .int .i64 b.scoop, .int .i64 b.pail, .int .i64 (b.burn0.end (!h)), .int .i64 (b.burn0.end (!h)), .int .i64 (b.burn1.end (!h)), .int .i64 (b.burn1.end (!h)), .int .i64 (b.drink0.end (!h)), .int .i64 (b.drink0.end (!h)), .int .i64 (b.drink1.end (!h)), .int .i64 (b.drink1.end (!h)), .int .i64 (b.full.end h), .int .i64 (b.full.end h), .int .i64 (b.weak.end h), .int .i64 (b.weak.end h), .int .i64 b.mark, .int .i64 b.lamp, .slice none 0 0]) (vs := [.slice none 0 0]) (i := 0) hs57 (Ev.t 0 rfl) (.const _) sizeOf25 rfl rfl rfl rfl rfl rfl fun _ _ hs58 => ?_); clear hs57
 have hs59 := hs58.asB [_, _, _] rfl; clear hs58
 refine hK23 _ _ ?_; clear hK23
 have hs60 := hs59.keep [3, 4, 5, 6] [_, _, _, _] rfl; clear hs59
 have hs61 := hs60.hide 0; clear hs60
 refine cd_seq fun K24 hK24 => ?_
 refine cd_region fun K25 hK25 => ?_
 refine sq rfl (st_assign hs61 (.const _) rfl rfl fun _ _ hs62 => ?_); clear hs61
 refine hK25 _ _ ?_; clear hK25
 refine cd_block ?_
 have hs63 : Sx 80 [] [(7, .int .i64 ((OwG.mk 0 none 0 ([] : List Part) 0 none).k : Int)), (5, .pointer (some ⟨b5, 0, none⟩)), (4, .pointer (some ⟨b3, 0, none⟩)), (2, .pointer (some ⟨b2, 0, none⟩)), (1, .bool h)] [((OwG.mk 0 none 0 ([] : List Part) 0 none).b, (OwG.mk 0 none 0 ([] : List Part) 0 none).o), (b5, some (.cells ⟨[.int .i64 (b.coal.end h), .int .i64 (b.coal.end h), .int .i64 (b.water.end h), .int .i64 (b.water.end h), .int .i64 b.bunker, .int .i64 b.tank, .int .i64 b.scoop, .int .i64 b.pail, .int .i64 (b.burn0.end (!h)), .int .i64 (b.burn0.end (!h)), .int .i64 (b.burn1.end (!h)), .int .i64 (b.burn1.end (!h)), .int .i64 (b.drink0.end (!h)), .int .i64 (b.drink0.end (!h)), .int .i64 (b.drink1.end (!h)), .int .i64 (b.drink1.end (!h)), .int .i64 (b.full.end h), .int .i64 (b.full.end h), .int .i64 (b.weak.end h), .int .i64 (b.weak.end h), .int .i64 b.mark, .int .i64 b.lamp, .slice ((OwG.mk 0 none 0 ([] : List Part) 0 none).A) ((OwG.mk 0 none 0 ([] : List Part) 0 none).l.length) ((OwG.mk 0 none 0 ([] : List Part) 0 none).c)]⟩ 27 (0, 0))), (b3, some (.cells ⟨[.int .i64 0, .int .i64 0, .int .i64 0, .int .i64 0, .int .i64 0, .int .i64 0, .int .i64 0, .int .i64 0, .int .i64 0, .int .i64 0, .int .i64 0, .int .i64 0, .int .i64 0, .int .i64 0, .int .i64 0, .int .i64 0, .int .i64 0, .int .i64 0, .int .i64 0, .int .i64 0, .int .i64 0, .int .i64 0, .slice none 0 0]⟩ 27 (0, 0))), (b2, some (.cells ⟨(bookL b A n cp)⟩ 27 (0, 0)))] [] w _ _ := Sx.keepE [0, 1, 2, 3, 4] _ ⟨⟨_, rfl, rfl⟩, ⟨_, rfl, rfl⟩, ⟨_, rfl, rfl⟩, ⟨_, rfl, rfl⟩, ⟨_, rfl, rfl⟩, trivial⟩ hs62; clear hs62
 refine cd_loop (X := OwG Part) (fun g a_ w_ => (g.k ≤ n) ∧ (g.l = (b.parts.take g.k).map (·.edge h)) ∧ (Sx.Own partL 4 66 g.A g.c g.l g.b g.o) ∧ Sx 80 [] [(7, .int .i64 (g.k : Int)), (5, .pointer (some ⟨b5, 0, none⟩)), (4, .pointer (some ⟨b3, 0, none⟩)), (2, .pointer (some ⟨b2, 0, none⟩)), (1, .bool h)] [(g.b, g.o), (b5, some (.cells ⟨[.int .i64 (b.coal.end h), .int .i64 (b.coal.end h), .int .i64 (b.water.end h), .int .i64 (b.water.end h), .int .i64 b.bunker, .int .i64 b.tank, .int .i64 b.scoop, .int .i64 b.pail, .int .i64 (b.burn0.end (!h)), .int .i64 (b.burn0.end (!h)), .int .i64 (b.burn1.end (!h)), .int .i64 (b.burn1.end (!h)), .int .i64 (b.drink0.end (!h)), .int .i64 (b.drink0.end (!h)), .int .i64 (b.drink1.end (!h)), .int .i64 (b.drink1.end (!h)), .int .i64 (b.full.end h), .int .i64 (b.full.end h), .int .i64 (b.weak.end h), .int .i64 (b.weak.end h), .int .i64 b.mark, .int .i64 b.lamp, .slice g.A g.l.length g.c]⟩ 27 (0, 0))), (b3, some (.cells ⟨[.int .i64 0, .int .i64 0, .int .i64 0, .int .i64 0, .int .i64 0, .int .i64 0, .int .i64 0, .int .i64 0, .int .i64 0, .int .i64 0, .int .i64 0, .int .i64 0, .int .i64 0, .int .i64 0, .int .i64 0, .int .i64 0, .int .i64 0, .int .i64 0, .int .i64 0, .int .i64 0, .int .i64 0, .int .i64 0, .slice none 0 0]⟩ 27 (0, 0))), (b2, some (.cells ⟨(bookL b A n cp)⟩ 27 (0, 0)))] [] w a_ w_) (fun g => n - g.k) ((OwG.mk 0 none 0 ([] : List Part) 0 none)) ⟨?_, ?_, ?_, hs63⟩ ?_
 · exact Nat.zero_le _
 · simp
 · exact .inl ⟨rfl, rfl⟩
 intro g a_64 w_64 ⟨hk, hgl, hown, hs64⟩; clear hs63
 refine cd_seq fun K26 hK26 => ?_
 refine cd_region fun K27 hK27 => ?_
 refine sq rfl (st_move hs64 (Ev.t 0 rfl) rfl rfl fun _ _ hs65 => ?_); clear hs64
 refine sq rfl (st_field (o' := 22) hs65 (Ev.t 4 rfl) rfl rfl runUnderlying27 rfl sizeOf25 rfl rfl fun _ _ hs66 => ?_); clear hs65
 refine sq rfl (st_load1 (o := 0) (off := 22) (v := .slice A n cp) hs66 (Ev.t 0 rfl) rfl rfl isAgg25 (hs66.cells 3 rfl) rfl fun _ _ hs67 => ?_); clear hs66
 refine sq rfl (st_len hs67 (Ev.t 0 rfl) rfl rfl runUnderlying25 fun _ _ hs68 => ?_); clear hs67
 refine sq rfl (st_cmp (c := decide (((g.k : Int) : Int) < (n : Int))) hs68 (Ev.t 3 rfl) (Ev.t 0 rfl) rfl rfl rfl rfl fun _ _ hs69 => ?_); clear hs68
 refine hK27 _ _ ?_; clear hK27
 have hs70 := hs69.keep [0, 5, 6, 7, 8, 9] [_, _, _, _, _, _] rfl; clear hs69
 refine cd_cond hs70 (Ev.t 0 rfl) (fun hc28 => ?_) (fun hc28 => ?_)
 · have hin : g.k < n := by simpa using hc28
   have hil : g.k < b.parts.length := by omega
   obtain ⟨x29, hx29⟩ : ∃ x, b.parts[g.k]? = some x := ⟨_, List.getElem?_eq_getElem (by have := hP.len; omega)⟩
   obtain ⟨b30, o30, hA30, -, hc30⟩ := hP.el g.k x29 hx29
   have hgl9 : g.l.length = g.k := by rw [hgl, List.length_map, List.length_take]; omega
   refine cd_skip ?_
   refine th_norm (hK26 _ _ ?_)
   refine cd_seq fun K31 hK31 => ?_
   refine cd_block ?_
   refine cd_region fun K32 hK32 => ?_
   refine sq rfl (st_field (o' := 22) hs70 (Ev.t 4 rfl) rfl rfl runUnderlying27 rfl sizeOf25 rfl rfl fun _ _ hs71 => ?_); clear hs70
   refine sq rfl (st_load1 (o := 0) (off := 22) (v := .slice A n cp) hs71 (Ev.t 0 rfl) rfl rfl isAgg25 (hs71.cells 3 rfl) rfl fun _ _ hs72 => ?_); clear hs71
   refine sq rfl (st_move hs72 (Ev.t 3 rfl) rfl rfl fun _ _ hs73 => ?_); clear hs72
   refine sq rfl (st_indexM (o' := o30 + g.k * 4) hs73 (Ev.t 1 rfl) (Ev.t 0 rfl) rfl rfl hA30 runUnderlying25 sizeOf66 ⟨by omega, by have := hP.len; have := (List.getElem?_eq_some_iff.1 hx29).1; omega⟩ rfl fun _ _ hs74 => ?_); clear hs73
   refine sq rfl (st_loadA (o := o30 + g.k * 4) (off := 0) (vs := (partL x29)) hs74 (Ev.t 0 rfl) rfl rfl isAgg66 sizeOf66 (hs74.old hc30 (by simp)) rfl fun _ _ hs75 => ?_); clear hs74
   refine sq rfl (st_alloc hs75 rfl rfl zeroValue66 rfl fun b33 _ _ hs76 => ?_); clear hs75
   refine sq rfl (st_store (l' := (partL x29)) (vs := (partL x29)) (i := 0) hs76 (Ev.t 0 rfl) (Ev.t 1 rfl) sizeOf66 rfl rfl rfl rfl rfl rfl fun _ _ hs77 => ?_); clear hs76
   have hs78 := hs77.asB [_, _, _, _, _] rfl; clear hs77
   refine hK32 _ _ ?_; clear hK32
   have hs79 := hs78.keep [0, 7, 8, 9, 10, 11] [_, _, _, _, _, _] rfl; clear hs78
   refine cd_region fun K34 hK34 => ?_
   refine sq rfl (st_field (o' := 0) hs79 (Ev.t 0 rfl) rfl rfl runUnderlying66 rfl sizeOf23 rfl rfl fun _ _ hs80 => ?_); clear hs79
   refine sq rfl (st_loadA (o := 0) (off := 0) (vs := [.int .i64 x29.mi.lo, .int .i64 x29.mi.hi]) hs80 (Ev.t 0 rfl) rfl rfl isAgg23 sizeOf23 (hs80.cells 0 rfl) rfl fun _ _ hs81 => ?_); clear hs80
   refine sq rfl (st_move hs81 (Ev.t 7 rfl) rfl rfl fun _ _ hs82 => ?_); clear hs81
   refine sq rfl (st_not hs82 (Ev.t 0 rfl) rfl rfl fun _ _ hs83 => ?_); clear hs82
   refine sq rfl (st_callv (vs := [.agg ⟨[.int .i64 x29.mi.lo, .int .i64 x29.mi.hi]⟩, .bool (!h)]) hs83 (.func _) ⟨(Ev.t 2 rfl), (Ev.t 0 rfl), trivial⟩ rfl rfl call68 rfl (end_v x29.mi.lo x29.mi.hi (!h) _) fun _ _ hs84 => ?_); clear hs83
   refine sq rfl (st_field (o' := 0) hs84 (Ev.t 5 rfl) rfl rfl runUnderlying66 rfl sizeOf23 rfl rfl fun _ _ hs85 => ?_); clear hs84
   refine sq rfl (st_store (l' := [.int .i64 (x29.mi.end (!h)), .int .i64 (x29.mi.end (!h)), .bool x29.light, .int .i64 x29.walks]) (vs := [.int .i64 (x29.mi.end (!h)), .int .i64 (x29.mi.end (!h))]) (i := 0) hs85 (Ev.t 0 rfl) (Ev.t 1 rfl) sizeOf23 rfl rfl rfl rfl rfl rfl fun _ _ hs86 => ?_); clear hs85
   have hs87 := hs86.asB [_, _, _, _, _] rfl; clear hs86
   refine hK34 _ _ ?_; clear hK34
   have hs88 := hs87.keep [6, 7, 8, 9, 10, 11] [_, _, _, _, _, _] rfl; clear hs87
   refine cd_region1 ?_
   refine sq rfl (st_field (o' := 22) hs88 (Ev.t 2 rfl) rfl rfl runUnderlying27 rfl sizeOf25 rfl rfl fun _ _ hs89 => ?_); clear hs88
   refine sq rfl (st_load1 (o := 0) (off := 22) (v := .slice g.A g.l.length g.c) hs89 (Ev.t 0 rfl) rfl rfl isAgg25 (hs89.cells 2 rfl) rfl fun _ _ hs90 => ?_); clear hs89
   refine sq rfl (st_loadA (o := 0) (off := 0) (vs := [.int .i64 (x29.mi.end (!h)), .int .i64 (x29.mi.end (!h)), .bool x29.light, .int .i64 x29.walks]) hs90 (Ev.t 2 rfl) rfl rfl isAgg66 sizeOf66 (hs90.cells 0 rfl) rfl fun _ _ hs91 => ?_); clear hs90
   refine sq rfl (st_buildSlice hs91 (qs := [(0, .agg ⟨[.int .i64 (x29.mi.end (!h)), .int .i64 (x29.mi.end (!h)), .bool x29.light, .int .i64 x29.walks]⟩)]) (e := 66) (l := [.int .i64 (x29.mi.end (!h)), .int .i64 (x29.mi.end (!h)), .bool x29.light, .int .i64 x29.walks]) ⟨(Ev.t 0 rfl), trivial⟩ rfl rfl rfl (fun _ => by kernel_rfl) fun b35 _ _ hs92 => ?_); clear hs91
   refine sq rfl (st_append (enc := partL) (zs := g.l) (ys := [x29.edge h]) (c := g.c) (i := 2) hs92 (Ev.t 2 rfl) (Ev.t 0 rfl) rfl rfl underlying25 (show (Tryd.prog.info? 66).map (fun i => (i.zero, i.size, i.bytes)) = some (some (.agg #[.int .i64 0, .int .i64 0, .bool false, .int .i64 0]), 4, 32) by kernel_rfl) rfl (fun _ => rfl) (fun _ u hu => by simp only [partL, List.mem_cons, List.not_mem_nil, or_false] at hu; rcases hu with rfl | rfl | rfl | rfl <;> rfl) hown rfl (sl_at (enc := partL) (sz := 4) (ys := [x29.edge h]) (fun _ => rfl) (by decide) (hs92.cells 0 rfl)) (by omega) (by omega) (fun A7 c7 b7 o7 _ _ hown7 hs93 => ?_)); clear hs92
   have hs94 := Sx.as (T' := [_, _, _, _, _, _, _, _, _, _, _]) (B' := [_, _, _, _, _, _]) rfl rfl hs93; clear hs93
   refine sq rfl (st_field (o' := 22) hs94 (Ev.t 7 rfl) rfl rfl runUnderlying27 rfl sizeOf25 rfl rfl fun _ _ hs95 => ?_); clear hs94
   refine sq rfl (st_store (l' := [.int .i64 (b.coal.end h), .int .i64 (b.coal.end h), .int .i64 (b.water.end h), .int .i64 (b.water.end h), .int .i64 b.bunker, .int .i64 b.tank, .int .i64 b.scoop, .int .i64 b.pail, .int .i64 (b.burn0.end (!h)), .int .i64 (b.burn0.end (!h)), .int .i64 (b.burn1.end (!h)), .int .i64 (b.burn1.end (!h)), .int .i64 (b.drink0.end (!h)), .int .i64 (b.drink0.end (!h)), .int .i64 (b.drink1.end (!h)), .int .i64 (b.drink1.end (!h)), .int .i64 (b.full.end h), .int .i64 (b.full.end h), .int .i64 (b.weak.end h), .int .i64 (b.weak.end h), .int .i64 b.mark, .int .i64 b.lamp, .slice A7 (g.l.length + 1) c7]) (vs := [.slice A7 (g.l.length + 1) c7]) (i := 3) hs95 (Ev.t 0 rfl) (Ev.t 1 rfl) sizeOf25 rfl rfl rfl rfl rfl rfl fun _ _ hs96 => ?_); clear hs95
   have hs97 := hs96.asB [_, _, _, _, _, _] rfl; clear hs96
   refine wpListIn_nil ?_
   have hs98 := hs97.keep [7, 8, 9, 10, 11] [_, _, _, _, _] rfl; clear hs97
   refine in_norm ?_
   refine th_norm (hK31 _ _ ?_)
   refine cd_region1 ?_
   refine sq rfl (st_move hs98 (Ev.t 0 rfl) rfl rfl fun _ _ hs99 => ?_); clear hs98
   refine sq rfl (st_add (z := (g.k : Int) + 1) hs99 (Ev.t 0 rfl) (.const _) rfl rfl rfl (by omega) fun _ _ hs100 => ?_); clear hs99
   have hs101 := hs100.keep [0, 1, 3, 4, 5, 6] [_, _, _, _, _, _] rfl; clear hs100
   refine sq rfl (st_assign hs101 (Ev.t 0 rfl) rfl rfl fun _ _ hs102 => ?_); clear hs101
   refine wpListIn_nil ?_
   have hs103 := hs102.keep [0, 3, 4, 5, 6] [_, _, _, _, _] rfl; clear hs102
   refine ⟨(OwG.mk (g.k + 1) A7 c7 (g.l ++ [x29.edge h]) b7 o7), ⟨?_, ?_, ?_, ?_⟩, by (show n - (g.k + 1) < n - g.k; omega)⟩
   · exact hin
   · show g.l ++ _ = (b.parts.take (g.k + 1)).map _
     rw [List.take_add_one, hx29, hgl]; simp
   · exact hown7
   have hs104 : Sx 80 [] [(7, .int .i64 ((g.k : Int) + 1)), (5, .pointer (some ⟨b5, 0, none⟩)), (4, .pointer (some ⟨b3, 0, none⟩)), (2, .pointer (some ⟨b2, 0, none⟩)), (1, .bool h)] [(b7, o7), (b5, some (.cells ⟨[.int .i64 (b.coal.end h), .int .i64 (b.coal.end h), .int .i64 (b.water.end h), .int .i64 (b.water.end h), .int .i64 b.bunker, .int .i64 b.tank, .int .i64 b.scoop, .int .i64 b.pail, .int .i64 (b.burn0.end (!h)), .int .i64 (b.burn0.end (!h)), .int .i64 (b.burn1.end (!h)), .int .i64 (b.burn1.end (!h)), .int .i64 (b.drink0.end (!h)), .int .i64 (b.drink0.end (!h)), .int .i64 (b.drink1.end (!h)), .int .i64 (b.drink1.end (!h)), .int .i64 (b.full.end h), .int .i64 (b.full.end h), .int .i64 (b.weak.end h), .int .i64 (b.weak.end h), .int .i64 b.mark, .int .i64 b.lamp, .slice A7 (g.l.length + 1) c7]⟩ 27 (0, 0))), (b3, some (.cells ⟨[.int .i64 0, .int .i64 0, .int .i64 0, .int .i64 0, .int .i64 0, .int .i64 0, .int .i64 0, .int .i64 0, .int .i64 0, .int .i64 0, .int .i64 0, .int .i64 0, .int .i64 0, .int .i64 0, .int .i64 0, .int .i64 0, .int .i64 0, .int .i64 0, .int .i64 0, .int .i64 0, .int .i64 0, .int .i64 0, .slice none 0 0]⟩ 27 (0, 0))), (b2, some (.cells ⟨(bookL b A n cp)⟩ 27 (0, 0)))] [] w _ _ := Sx.blks hs103 ((List.Sublist.cons _ (List.Sublist.cons _ (List.Sublist.cons_cons _ (List.Sublist.cons_cons _ (List.Sublist.cons_cons _ (List.Sublist.cons_cons _ List.Sublist.slnil)))))))
   rw [show g.l.length + 1 = (g.l ++ [x29.edge h]).length by simp] at hs104
   exact Sx.keepE [0, 1, 2, 3, 4] _ ⟨⟨_, rfl, rfl⟩, ⟨_, rfl, rfl⟩, ⟨_, rfl, rfl⟩, ⟨_, rfl, rfl⟩, ⟨_, rfl, rfl⟩, trivial⟩ hs104
 · have hge : g.k = n := by simp at hc28; omega
   refine cd_exit ?_
   refine th_exit ?_
   refine th_exit ?_
   refine in_hit ?_
   refine th_norm (hK24 _ _ ?_)
   refine cd_region fun K36 hK36 => ?_
   refine sq rfl (st_loadA (o := 0) (off := 0) (vs := [.int .i64 (b.coal.end h), .int .i64 (b.coal.end h), .int .i64 (b.water.end h), .int .i64 (b.water.end h), .int .i64 b.bunker, .int .i64 b.tank, .int .i64 b.scoop, .int .i64 b.pail, .int .i64 (b.burn0.end (!h)), .int .i64 (b.burn0.end (!h)), .int .i64 (b.burn1.end (!h)), .int .i64 (b.burn1.end (!h)), .int .i64 (b.drink0.end (!h)), .int .i64 (b.drink0.end (!h)), .int .i64 (b.drink1.end (!h)), .int .i64 (b.drink1.end (!h)), .int .i64 (b.full.end h), .int .i64 (b.full.end h), .int .i64 (b.weak.end h), .int .i64 (b.weak.end h), .int .i64 b.mark, .int .i64 b.lamp, .slice g.A g.l.length g.c]) hs70 (Ev.t 2 rfl) rfl rfl isAgg27 sizeOf27 (hs70.cells 1 rfl) rfl fun _ _ hs71 => ?_); clear hs70
   refine sq rfl (st_store (l' := [.int .i64 (b.coal.end h), .int .i64 (b.coal.end h), .int .i64 (b.water.end h), .int .i64 (b.water.end h), .int .i64 b.bunker, .int .i64 b.tank, .int .i64 b.scoop, .int .i64 b.pail, .int .i64 (b.burn0.end (!h)), .int .i64 (b.burn0.end (!h)), .int .i64 (b.burn1.end (!h)), .int .i64 (b.burn1.end (!h)), .int .i64 (b.drink0.end (!h)), .int .i64 (b.drink0.end (!h)), .int .i64 (b.drink1.end (!h)), .int .i64 (b.drink1.end (!h)), .int .i64 (b.full.end h), .int .i64 (b.full.end h), .int .i64 (b.weak.end h), .int .i64 (b.weak.end h), .int .i64 b.mark, .int .i64 b.lamp, .slice g.A g.l.length g.c]) (vs := [.int .i64 (b.coal.end h), .int .i64 (b.coal.end h), .int .i64 (b.water.end h), .int .i64 (b.water.end h), .int .i64 b.bunker, .int .i64 b.tank, .int .i64 b.scoop, .int .i64 b.pail, .int .i64 (b.burn0.end (!h)), .int .i64 (b.burn0.end (!h)), .int .i64 (b.burn1.end (!h)), .int .i64 (b.burn1.end (!h)), .int .i64 (b.drink0.end (!h)), .int .i64 (b.drink0.end (!h)), .int .i64 (b.drink1.end (!h)), .int .i64 (b.drink1.end (!h)), .int .i64 (b.full.end h), .int .i64 (b.full.end h), .int .i64 (b.weak.end h), .int .i64 (b.weak.end h), .int .i64 b.mark, .int .i64 b.lamp, .slice g.A g.l.length g.c]) (i := 2) hs71 (Ev.t 4 rfl) (Ev.t 0 rfl) sizeOf27 rfl rfl rfl rfl rfl rfl fun _ _ hs72 => ?_); clear hs71
   have hs73 := hs72.asB [_, _, _, _] rfl; clear hs72
   refine hK36 _ _ ?_; clear hK36
   have hs74 := hs73.keep [4] [_] rfl; clear hs73
   have hfin : g.l = (b.edge h).parts := by rw [hgl, hge, List.take_of_length_le (by omega)]; rfl
   have hgn : g.l.length = n := by rw [hfin]; simp [Book.edge]; omega
   exact cd_ret (vs := [.agg ⟨[.int .i64 (b.coal.end h), .int .i64 (b.coal.end h), .int .i64 (b.water.end h), .int .i64 (b.water.end h), .int .i64 b.bunker, .int .i64 b.tank, .int .i64 b.scoop, .int .i64 b.pail, .int .i64 (b.burn0.end (!h)), .int .i64 (b.burn0.end (!h)), .int .i64 (b.burn1.end (!h)), .int .i64 (b.burn1.end (!h)), .int .i64 (b.drink0.end (!h)), .int .i64 (b.drink0.end (!h)), .int .i64 (b.drink1.end (!h)), .int .i64 (b.drink1.end (!h)), .int .i64 (b.full.end h), .int .i64 (b.full.end h), .int .i64 (b.weak.end h), .int .i64 (b.weak.end h), .int .i64 b.mark, .int .i64 b.lamp, .slice g.A g.l.length g.c]⟩]) (bs := [(g.b, g.o)]) hs74 hQ0 rfl ⟨resA (o := 0) (off := 0) (vs := [.int .i64 (b.coal.end h), .int .i64 (b.coal.end h), .int .i64 (b.water.end h), .int .i64 (b.water.end h), .int .i64 b.bunker, .int .i64 b.tank, .int .i64 b.scoop, .int .i64 b.pail, .int .i64 (b.burn0.end (!h)), .int .i64 (b.burn0.end (!h)), .int .i64 (b.burn1.end (!h)), .int .i64 (b.burn1.end (!h)), .int .i64 (b.drink0.end (!h)), .int .i64 (b.drink0.end (!h)), .int .i64 (b.drink1.end (!h)), .int .i64 (b.drink1.end (!h)), .int .i64 (b.full.end h), .int .i64 (b.full.end h), .int .i64 (b.weak.end h), .int .i64 (b.weak.end h), .int .i64 b.mark, .int .i64 b.lamp, .slice g.A g.l.length g.c]) 0 rfl isAgg27 sizeOf27 (hs74.cells 2 rfl) rfl, trivial⟩ (.cons_cons _ (List.nil_sublist _)) ⟨g.A, g.c, g.b, g.o, by rw [hgn]; rfl, hfin ▸ hown, rfl⟩
end Go.Proofs.YtdbcedmofoakmaaDoor
