/- The engine, its reference: the checks, Current, Fails. -/
import Derived.Test.YtdbcedmofoakmaaDoorEe
set_option maxRecDepth 100000
namespace Go.Proofs.YtdbcedmofoakmaaDoor
open Go Go.Sx Go.Eng
theorem rcheck_v (b : Book) (A : Option Addr) (n cp : Nat) (w : World) (hP : PartsAt w A n b.parts) (hn : n ≤ 140737488351232) :
    CallsV Tryd.prog 17 [.agg ⟨(bookL b A n cp)⟩] w (.int .i64 (if b.ok then 0 else 40)) := by
 have hl0 := hP.len
 refine enter (N := 132) (M := []) w Tryd.func17 rfl rfl rfl (fun Q0 a_0 hQ0 hN0 hs0 => ?_)
 refine cd_region fun K1 hK1 => ?_
 refine sq rfl (st_box hs0 (Ev.t 0 rfl) rfl rfl rfl fun b2 _ _ hs1 => ?_); clear hs0
 refine sq rfl (st_assign hs1 (.const _) rfl rfl fun _ _ hs2 => ?_); clear hs1
 refine hK1 _ _ ?_; clear hK1
 have hs3 := Sx.keepT [0, 1] [_, _] ⟨rfl, rfl, trivial⟩ hs2; clear hs2
 refine cd_region fun K3 hK3 => ?_
 refine sq rfl (st_field (o' := 4) hs3 (Ev.t 1 rfl) rfl rfl Tryd.runUnderlying27 rfl Tryd.sizeOf3 rfl rfl fun _ _ hs4 => ?_); clear hs3
 refine sq rfl (st_load1 (o := 0) (off := 4) (v := .int .i64 b.bunker) hs4 (Ev.t 0 rfl) rfl rfl Tryd.isAgg3 (hs4.cells 0 rfl) rfl fun _ _ hs5 => ?_); clear hs4
 refine sq rfl (st_callv (vs := [.int .i64 b.bunker, .int .i64 1, .int .i64 99]) hs5 (.func _) ⟨(Ev.t 0 rfl), (.const _), (.const _), trivial⟩ rfl rfl Tryd.call37 rfl (amid_v b.bunker 1 99 _) fun _ _ hs6 => ?_); clear hs5
 refine sq rfl (st_move hs6 (Ev.t 0 rfl) rfl rfl fun _ _ hs7 => ?_); clear hs6
 refine sq_gv hs7 (gg := within b.bunker 1 99) (v := .pointer (some ⟨b2, 5, none⟩)) rfl rfl 0 rfl (ison_t _) rfl rfl rfl (fun hg4 K5 hK5 => st_field (o' := 5) hs7 (Ev.t 5 rfl) rfl rfl Tryd.runUnderlying27 rfl Tryd.sizeOf3 rfl rfl hK5) fun _ _ hs8 => ?_; clear hs7
 refine sq_gv hs8 (gg := within b.bunker 1 99) (v := .int .i64 b.tank) rfl rfl 1 rfl (ison_t _) rfl rfl rfl (fun hg6 K7 hK7 => st_load1 (o := 0) (off := 5) (v := .int .i64 b.tank) hs8 ((Ev.t 0 rfl).un hg6) rfl rfl Tryd.isAgg3 (hs8.cells 0 rfl) rfl hK7) fun _ _ hs9 => ?_; clear hs8
 refine sq_gv hs9 (gg := within b.bunker 1 99) (v := .bool (within b.tank 1 99)) rfl rfl 2 rfl (ison_t _) rfl rfl rfl (fun hg8 K9 hK9 => st_callv (vs := [.int .i64 b.tank, .int .i64 1, .int .i64 99]) hs9 (.func _) ⟨((Ev.t 0 rfl).un hg8), (.const _), (.const _), trivial⟩ rfl rfl Tryd.call37 rfl (amid_v b.tank 1 99 _) hK9) fun _ _ hs10 => ?_; clear hs9
 refine sq rfl (st_and hs10 (gx := true) (gy := within b.bunker 1 99) (Ev.t 3 rfl) rfl (Ev.t 0 rfl) (fun h => h) rfl rfl fun _ _ hs11 => ?_); clear hs10
 refine sq rfl (st_move hs11 (Ev.t 0 rfl) rfl rfl fun _ _ hs12 => ?_); clear hs11
 refine sq_gv hs12 (gg := (within b.bunker 1 99) && (within b.tank 1 99)) (v := .pointer (some ⟨b2, 0, none⟩)) rfl rfl 0 rfl (ison_t _) rfl rfl rfl (fun hg10 K11 hK11 => st_field (o' := 0) hs12 (Ev.t 10 rfl) rfl rfl Tryd.runUnderlying27 rfl Tryd.sizeOf23 rfl rfl hK11) fun _ _ hs13 => ?_; clear hs12
 refine sq_gv hs13 (gg := (within b.bunker 1 99) && (within b.tank 1 99)) (v := .agg ⟨[.int .i64 b.coal.lo, .int .i64 b.coal.hi]⟩) rfl rfl 1 rfl (ison_t _) rfl rfl rfl (fun hg12 K13 hK13 => st_loadA (o := 0) (off := 0) (vs := [.int .i64 b.coal.lo, .int .i64 b.coal.hi]) hs13 ((Ev.t 0 rfl).un hg12) rfl rfl Tryd.isAgg23 Tryd.sizeOf23 (hs13.cells 0 rfl) rfl hK13) fun _ _ hs14 => ?_; clear hs13
 refine sq_gv hs14 (gg := (within b.bunker 1 99) && (within b.tank 1 99)) (v := .pointer (some ⟨b2, 4, none⟩)) rfl rfl 2 rfl (ison_t _) rfl rfl rfl (fun hg14 K15 hK15 => st_field (o' := 4) hs14 (Ev.t 12 rfl) rfl rfl Tryd.runUnderlying27 rfl Tryd.sizeOf3 rfl rfl hK15) fun _ _ hs15 => ?_; clear hs14
 refine sq_gv hs15 (gg := (within b.bunker 1 99) && (within b.tank 1 99)) (v := .int .i64 b.bunker) rfl rfl 3 rfl (ison_t _) rfl rfl rfl (fun hg16 K17 hK17 => st_load1 (o := 0) (off := 4) (v := .int .i64 b.bunker) hs15 ((Ev.t 0 rfl).un hg16) rfl rfl Tryd.isAgg3 (hs15.cells 0 rfl) rfl hK17) fun _ _ hs16 => ?_; clear hs15
 refine sq_gv hs16 (gg := (within b.bunker 1 99) && (within b.tank 1 99)) (v := .bool (okSpan b.coal.lo b.coal.hi 0 b.bunker)) rfl rfl 4 rfl (ison_t _) rfl rfl rfl (fun hg18 K19 hK19 => st_callv (vs := [.agg ⟨[.int .i64 b.coal.lo, .int .i64 b.coal.hi]⟩, .int .i64 0, .int .i64 b.bunker]) hs16 (.func _) ⟨((Ev.t 2 rfl).un hg18), (.const _), ((Ev.t 0 rfl).un hg18), trivial⟩ rfl rfl Tryd.call51 rfl (legal_v b.coal.lo b.coal.hi 0 b.bunker _) hK19) fun _ _ hs17 => ?_; clear hs16
 refine sq rfl (st_and hs17 (gx := true) (gy := (within b.bunker 1 99) && (within b.tank 1 99)) (Ev.t 5 rfl) rfl (Ev.t 0 rfl) (fun h => h) rfl rfl fun _ _ hs18 => ?_); clear hs17
 refine sq rfl (st_move hs18 (Ev.t 0 rfl) rfl rfl fun _ _ hs19 => ?_); clear hs18
 refine sq_gv hs19 (gg := ((within b.bunker 1 99) && (within b.tank 1 99)) && (okSpan b.coal.lo b.coal.hi 0 b.bunker)) (v := .pointer (some ⟨b2, 2, none⟩)) rfl rfl 0 rfl (ison_t _) rfl rfl rfl (fun hg20 K21 hK21 => st_field (o' := 2) hs19 (Ev.t 17 rfl) rfl rfl Tryd.runUnderlying27 rfl Tryd.sizeOf23 rfl rfl hK21) fun _ _ hs20 => ?_; clear hs19
 refine sq_gv hs20 (gg := ((within b.bunker 1 99) && (within b.tank 1 99)) && (okSpan b.coal.lo b.coal.hi 0 b.bunker)) (v := .agg ⟨[.int .i64 b.water.lo, .int .i64 b.water.hi]⟩) rfl rfl 1 rfl (ison_t _) rfl rfl rfl (fun hg22 K23 hK23 => st_loadA (o := 0) (off := 2) (vs := [.int .i64 b.water.lo, .int .i64 b.water.hi]) hs20 ((Ev.t 0 rfl).un hg22) rfl rfl Tryd.isAgg23 Tryd.sizeOf23 (hs20.cells 0 rfl) rfl hK23) fun _ _ hs21 => ?_; clear hs20
 refine sq_gv hs21 (gg := ((within b.bunker 1 99) && (within b.tank 1 99)) && (okSpan b.coal.lo b.coal.hi 0 b.bunker)) (v := .pointer (some ⟨b2, 5, none⟩)) rfl rfl 2 rfl (ison_t _) rfl rfl rfl (fun hg24 K25 hK25 => st_field (o' := 5) hs21 (Ev.t 19 rfl) rfl rfl Tryd.runUnderlying27 rfl Tryd.sizeOf3 rfl rfl hK25) fun _ _ hs22 => ?_; clear hs21
 refine sq_gv hs22 (gg := ((within b.bunker 1 99) && (within b.tank 1 99)) && (okSpan b.coal.lo b.coal.hi 0 b.bunker)) (v := .int .i64 b.tank) rfl rfl 3 rfl (ison_t _) rfl rfl rfl (fun hg26 K27 hK27 => st_load1 (o := 0) (off := 5) (v := .int .i64 b.tank) hs22 ((Ev.t 0 rfl).un hg26) rfl rfl Tryd.isAgg3 (hs22.cells 0 rfl) rfl hK27) fun _ _ hs23 => ?_; clear hs22
 refine sq_gv hs23 (gg := ((within b.bunker 1 99) && (within b.tank 1 99)) && (okSpan b.coal.lo b.coal.hi 0 b.bunker)) (v := .bool (okSpan b.water.lo b.water.hi 0 b.tank)) rfl rfl 4 rfl (ison_t _) rfl rfl rfl (fun hg28 K29 hK29 => st_callv (vs := [.agg ⟨[.int .i64 b.water.lo, .int .i64 b.water.hi]⟩, .int .i64 0, .int .i64 b.tank]) hs23 (.func _) ⟨((Ev.t 2 rfl).un hg28), (.const _), ((Ev.t 0 rfl).un hg28), trivial⟩ rfl rfl Tryd.call51 rfl (legal_v b.water.lo b.water.hi 0 b.tank _) hK29) fun _ _ hs24 => ?_; clear hs23
 refine sq rfl (st_and hs24 (gx := true) (gy := ((within b.bunker 1 99) && (within b.tank 1 99)) && (okSpan b.coal.lo b.coal.hi 0 b.bunker)) (Ev.t 5 rfl) rfl (Ev.t 0 rfl) (fun h => h) rfl rfl fun _ _ hs25 => ?_); clear hs24
 refine sq rfl (st_move hs25 (Ev.t 0 rfl) rfl rfl fun _ _ hs26 => ?_); clear hs25
 refine sq_gv hs26 (gg := (((within b.bunker 1 99) && (within b.tank 1 99)) && (okSpan b.coal.lo b.coal.hi 0 b.bunker)) && (okSpan b.water.lo b.water.hi 0 b.tank)) (v := .pointer (some ⟨b2, 6, none⟩)) rfl rfl 0 rfl (ison_t _) rfl rfl rfl (fun hg30 K31 hK31 => st_field (o' := 6) hs26 (Ev.t 24 rfl) rfl rfl Tryd.runUnderlying27 rfl Tryd.sizeOf3 rfl rfl hK31) fun _ _ hs27 => ?_; clear hs26
 refine sq_gv hs27 (gg := (((within b.bunker 1 99) && (within b.tank 1 99)) && (okSpan b.coal.lo b.coal.hi 0 b.bunker)) && (okSpan b.water.lo b.water.hi 0 b.tank)) (v := .int .i64 b.scoop) rfl rfl 1 rfl (ison_t _) rfl rfl rfl (fun hg32 K33 hK33 => st_load1 (o := 0) (off := 6) (v := .int .i64 b.scoop) hs27 ((Ev.t 0 rfl).un hg32) rfl rfl Tryd.isAgg3 (hs27.cells 0 rfl) rfl hK33) fun _ _ hs28 => ?_; clear hs27
 refine sq_gv hs28 (gg := (((within b.bunker 1 99) && (within b.tank 1 99)) && (okSpan b.coal.lo b.coal.hi 0 b.bunker)) && (okSpan b.water.lo b.water.hi 0 b.tank)) (v := .bool (within b.scoop 1 20)) rfl rfl 2 rfl (ison_t _) rfl rfl rfl (fun hg34 K35 hK35 => st_callv (vs := [.int .i64 b.scoop, .int .i64 1, .int .i64 20]) hs28 (.func _) ⟨((Ev.t 0 rfl).un hg34), (.const _), (.const _), trivial⟩ rfl rfl Tryd.call37 rfl (amid_v b.scoop 1 20 _) hK35) fun _ _ hs29 => ?_; clear hs28
 refine sq rfl (st_and hs29 (gx := true) (gy := (((within b.bunker 1 99) && (within b.tank 1 99)) && (okSpan b.coal.lo b.coal.hi 0 b.bunker)) && (okSpan b.water.lo b.water.hi 0 b.tank)) (Ev.t 3 rfl) rfl (Ev.t 0 rfl) (fun h => h) rfl rfl fun _ _ hs30 => ?_); clear hs29
 refine sq rfl (st_move hs30 (Ev.t 0 rfl) rfl rfl fun _ _ hs31 => ?_); clear hs30
 refine sq_gv hs31 (gg := ((((within b.bunker 1 99) && (within b.tank 1 99)) && (okSpan b.coal.lo b.coal.hi 0 b.bunker)) && (okSpan b.water.lo b.water.hi 0 b.tank)) && (within b.scoop 1 20)) (v := .pointer (some ⟨b2, 7, none⟩)) rfl rfl 0 rfl (ison_t _) rfl rfl rfl (fun hg36 K37 hK37 => st_field (o' := 7) hs31 (Ev.t 29 rfl) rfl rfl Tryd.runUnderlying27 rfl Tryd.sizeOf3 rfl rfl hK37) fun _ _ hs32 => ?_; clear hs31
 refine sq_gv hs32 (gg := ((((within b.bunker 1 99) && (within b.tank 1 99)) && (okSpan b.coal.lo b.coal.hi 0 b.bunker)) && (okSpan b.water.lo b.water.hi 0 b.tank)) && (within b.scoop 1 20)) (v := .int .i64 b.pail) rfl rfl 1 rfl (ison_t _) rfl rfl rfl (fun hg38 K39 hK39 => st_load1 (o := 0) (off := 7) (v := .int .i64 b.pail) hs32 ((Ev.t 0 rfl).un hg38) rfl rfl Tryd.isAgg3 (hs32.cells 0 rfl) rfl hK39) fun _ _ hs33 => ?_; clear hs32
 refine sq_gv hs33 (gg := ((((within b.bunker 1 99) && (within b.tank 1 99)) && (okSpan b.coal.lo b.coal.hi 0 b.bunker)) && (okSpan b.water.lo b.water.hi 0 b.tank)) && (within b.scoop 1 20)) (v := .bool (within b.pail 1 20)) rfl rfl 2 rfl (ison_t _) rfl rfl rfl (fun hg40 K41 hK41 => st_callv (vs := [.int .i64 b.pail, .int .i64 1, .int .i64 20]) hs33 (.func _) ⟨((Ev.t 0 rfl).un hg40), (.const _), (.const _), trivial⟩ rfl rfl Tryd.call37 rfl (amid_v b.pail 1 20 _) hK41) fun _ _ hs34 => ?_; clear hs33
 refine sq rfl (st_and hs34 (gx := true) (gy := ((((within b.bunker 1 99) && (within b.tank 1 99)) && (okSpan b.coal.lo b.coal.hi 0 b.bunker)) && (okSpan b.water.lo b.water.hi 0 b.tank)) && (within b.scoop 1 20)) (Ev.t 3 rfl) rfl (Ev.t 0 rfl) (fun h => h) rfl rfl fun _ _ hs35 => ?_); clear hs34
 refine sq rfl (st_move hs35 (Ev.t 0 rfl) rfl rfl fun _ _ hs36 => ?_); clear hs35
 refine sq_gv hs36 (gg := (((((within b.bunker 1 99) && (within b.tank 1 99)) && (okSpan b.coal.lo b.coal.hi 0 b.bunker)) && (okSpan b.water.lo b.water.hi 0 b.tank)) && (within b.scoop 1 20)) && (within b.pail 1 20)) (v := .pointer (some ⟨b2, 20, none⟩)) rfl rfl 0 rfl (ison_t _) rfl rfl rfl (fun hg42 K43 hK43 => st_field (o' := 20) hs36 (Ev.t 34 rfl) rfl rfl Tryd.runUnderlying27 rfl Tryd.sizeOf3 rfl rfl hK43) fun _ _ hs37 => ?_; clear hs36
 refine sq_gv hs37 (gg := (((((within b.bunker 1 99) && (within b.tank 1 99)) && (okSpan b.coal.lo b.coal.hi 0 b.bunker)) && (okSpan b.water.lo b.water.hi 0 b.tank)) && (within b.scoop 1 20)) && (within b.pail 1 20)) (v := .int .i64 b.mark) rfl rfl 1 rfl (ison_t _) rfl rfl rfl (fun hg44 K45 hK45 => st_load1 (o := 0) (off := 20) (v := .int .i64 b.mark) hs37 ((Ev.t 0 rfl).un hg44) rfl rfl Tryd.isAgg3 (hs37.cells 0 rfl) rfl hK45) fun _ _ hs38 => ?_; clear hs37
 refine sq_gv hs38 (gg := (((((within b.bunker 1 99) && (within b.tank 1 99)) && (okSpan b.coal.lo b.coal.hi 0 b.bunker)) && (okSpan b.water.lo b.water.hi 0 b.tank)) && (within b.scoop 1 20)) && (within b.pail 1 20)) (v := .pointer (some ⟨b2, 5, none⟩)) rfl rfl 2 rfl (ison_t _) rfl rfl rfl (fun hg46 K47 hK47 => st_field (o' := 5) hs38 (Ev.t 36 rfl) rfl rfl Tryd.runUnderlying27 rfl Tryd.sizeOf3 rfl rfl hK47) fun _ _ hs39 => ?_; clear hs38
 refine sq_gv hs39 (gg := (((((within b.bunker 1 99) && (within b.tank 1 99)) && (okSpan b.coal.lo b.coal.hi 0 b.bunker)) && (okSpan b.water.lo b.water.hi 0 b.tank)) && (within b.scoop 1 20)) && (within b.pail 1 20)) (v := .int .i64 b.tank) rfl rfl 3 rfl (ison_t _) rfl rfl rfl (fun hg48 K49 hK49 => st_load1 (o := 0) (off := 5) (v := .int .i64 b.tank) hs39 ((Ev.t 0 rfl).un hg48) rfl rfl Tryd.isAgg3 (hs39.cells 0 rfl) rfl hK49) fun _ _ hs40 => ?_; clear hs39
 refine sq_gv hs40 (gg := (((((within b.bunker 1 99) && (within b.tank 1 99)) && (okSpan b.coal.lo b.coal.hi 0 b.bunker)) && (okSpan b.water.lo b.water.hi 0 b.tank)) && (within b.scoop 1 20)) && (within b.pail 1 20)) (v := .bool (within b.mark 0 b.tank)) rfl rfl 4 rfl (ison_t _) rfl rfl rfl (fun hg50 K51 hK51 => st_callv (vs := [.int .i64 b.mark, .int .i64 0, .int .i64 b.tank]) hs40 (.func _) ⟨((Ev.t 2 rfl).un hg50), (.const _), ((Ev.t 0 rfl).un hg50), trivial⟩ rfl rfl Tryd.call37 rfl (amid_v b.mark 0 b.tank _) hK51) fun _ _ hs41 => ?_; clear hs40
 refine sq rfl (st_and hs41 (gx := true) (gy := (((((within b.bunker 1 99) && (within b.tank 1 99)) && (okSpan b.coal.lo b.coal.hi 0 b.bunker)) && (okSpan b.water.lo b.water.hi 0 b.tank)) && (within b.scoop 1 20)) && (within b.pail 1 20)) (Ev.t 5 rfl) rfl (Ev.t 0 rfl) (fun h => h) rfl rfl fun _ _ hs42 => ?_); clear hs41
 refine sq rfl (st_move hs42 (Ev.t 0 rfl) rfl rfl fun _ _ hs43 => ?_); clear hs42
 refine sq_gv hs43 (gg := ((((((within b.bunker 1 99) && (within b.tank 1 99)) && (okSpan b.coal.lo b.coal.hi 0 b.bunker)) && (okSpan b.water.lo b.water.hi 0 b.tank)) && (within b.scoop 1 20)) && (within b.pail 1 20)) && (within b.mark 0 b.tank)) (v := .pointer (some ⟨b2, 21, none⟩)) rfl rfl 0 rfl (ison_t _) rfl rfl rfl (fun hg52 K53 hK53 => st_field (o' := 21) hs43 (Ev.t 41 rfl) rfl rfl Tryd.runUnderlying27 rfl Tryd.sizeOf3 rfl rfl hK53) fun _ _ hs44 => ?_; clear hs43
 refine sq_gv hs44 (gg := ((((((within b.bunker 1 99) && (within b.tank 1 99)) && (okSpan b.coal.lo b.coal.hi 0 b.bunker)) && (okSpan b.water.lo b.water.hi 0 b.tank)) && (within b.scoop 1 20)) && (within b.pail 1 20)) && (within b.mark 0 b.tank)) (v := .int .i64 b.lamp) rfl rfl 1 rfl (ison_t _) rfl rfl rfl (fun hg54 K55 hK55 => st_load1 (o := 0) (off := 21) (v := .int .i64 b.lamp) hs44 ((Ev.t 0 rfl).un hg54) rfl rfl Tryd.isAgg3 (hs44.cells 0 rfl) rfl hK55) fun _ _ hs45 => ?_; clear hs44
 refine sq_gv hs45 (gg := ((((((within b.bunker 1 99) && (within b.tank 1 99)) && (okSpan b.coal.lo b.coal.hi 0 b.bunker)) && (okSpan b.water.lo b.water.hi 0 b.tank)) && (within b.scoop 1 20)) && (within b.pail 1 20)) && (within b.mark 0 b.tank)) (v := .bool (within b.lamp 0 60)) rfl rfl 2 rfl (ison_t _) rfl rfl rfl (fun hg56 K57 hK57 => st_callv (vs := [.int .i64 b.lamp, .int .i64 0, .int .i64 60]) hs45 (.func _) ⟨((Ev.t 0 rfl).un hg56), (.const _), (.const _), trivial⟩ rfl rfl Tryd.call37 rfl (amid_v b.lamp 0 60 _) hK57) fun _ _ hs46 => ?_; clear hs45
 refine sq rfl (st_and hs46 (gx := true) (gy := ((((((within b.bunker 1 99) && (within b.tank 1 99)) && (okSpan b.coal.lo b.coal.hi 0 b.bunker)) && (okSpan b.water.lo b.water.hi 0 b.tank)) && (within b.scoop 1 20)) && (within b.pail 1 20)) && (within b.mark 0 b.tank)) (Ev.t 3 rfl) rfl (Ev.t 0 rfl) (fun h => h) rfl rfl fun _ _ hs47 => ?_); clear hs46
 refine sq rfl (st_assign hs47 (Ev.t 0 rfl) rfl rfl fun _ _ hs48 => ?_); clear hs47
 refine hK3 _ _ ?_; clear hK3
 have hs49 := Sx.keepT [0, 45, 46] [_, _, _] ⟨rfl, rfl, rfl, trivial⟩ hs48; clear hs48
 refine cd_region fun K58 hK58 => ?_
 refine sq rfl (st_move hs49 (Ev.t 0 rfl) rfl rfl fun _ _ hs50 => ?_); clear hs49
 refine sq rfl (st_move hs50 (Ev.t 0 rfl) rfl rfl fun _ _ hs51 => ?_); clear hs50
 refine sq_gv hs51 (gg := (((((((within b.bunker 1 99) && (within b.tank 1 99)) && (okSpan b.coal.lo b.coal.hi 0 b.bunker)) && (okSpan b.water.lo b.water.hi 0 b.tank)) && (within b.scoop 1 20)) && (within b.pail 1 20)) && (within b.mark 0 b.tank)) && (within b.lamp 0 60)) (v := .pointer (some ⟨b2, 16, none⟩)) rfl rfl 0 rfl (ison_t _) rfl rfl rfl (fun hg59 K60 hK60 => st_field (o' := 16) hs51 (Ev.t 4 rfl) rfl rfl Tryd.runUnderlying27 rfl Tryd.sizeOf23 rfl rfl hK60) fun _ _ hs52 => ?_; clear hs51
 refine sq_gv hs52 (gg := (((((((within b.bunker 1 99) && (within b.tank 1 99)) && (okSpan b.coal.lo b.coal.hi 0 b.bunker)) && (okSpan b.water.lo b.water.hi 0 b.tank)) && (within b.scoop 1 20)) && (within b.pail 1 20)) && (within b.mark 0 b.tank)) && (within b.lamp 0 60)) (v := .agg ⟨[.int .i64 b.full.lo, .int .i64 b.full.hi]⟩) rfl rfl 1 rfl (ison_t _) rfl rfl rfl (fun hg61 K62 hK62 => st_loadA (o := 0) (off := 16) (vs := [.int .i64 b.full.lo, .int .i64 b.full.hi]) hs52 ((Ev.t 0 rfl).un hg61) rfl rfl Tryd.isAgg23 Tryd.sizeOf23 (hs52.cells 0 rfl) rfl hK62) fun _ _ hs53 => ?_; clear hs52
 refine sq_gv hs53 (gg := (((((((within b.bunker 1 99) && (within b.tank 1 99)) && (okSpan b.coal.lo b.coal.hi 0 b.bunker)) && (okSpan b.water.lo b.water.hi 0 b.tank)) && (within b.scoop 1 20)) && (within b.pail 1 20)) && (within b.mark 0 b.tank)) && (within b.lamp 0 60)) (v := .bool (okSpan b.full.lo b.full.hi 0 60)) rfl rfl 2 rfl (ison_t _) rfl rfl rfl (fun hg63 K64 hK64 => st_callv (vs := [.agg ⟨[.int .i64 b.full.lo, .int .i64 b.full.hi]⟩, .int .i64 0, .int .i64 60]) hs53 (.func _) ⟨((Ev.t 0 rfl).un hg63), (.const _), (.const _), trivial⟩ rfl rfl Tryd.call51 rfl (legal_v b.full.lo b.full.hi 0 60 _) hK64) fun _ _ hs54 => ?_; clear hs53
 refine sq rfl (st_and hs54 (gx := true) (gy := (((((((within b.bunker 1 99) && (within b.tank 1 99)) && (okSpan b.coal.lo b.coal.hi 0 b.bunker)) && (okSpan b.water.lo b.water.hi 0 b.tank)) && (within b.scoop 1 20)) && (within b.pail 1 20)) && (within b.mark 0 b.tank)) && (within b.lamp 0 60)) (Ev.t 3 rfl) rfl (Ev.t 0 rfl) (fun h => h) rfl rfl fun _ _ hs55 => ?_); clear hs54
 refine sq rfl (st_move hs55 (Ev.t 0 rfl) rfl rfl fun _ _ hs56 => ?_); clear hs55
 refine sq_gv hs56 (gg := ((((((((within b.bunker 1 99) && (within b.tank 1 99)) && (okSpan b.coal.lo b.coal.hi 0 b.bunker)) && (okSpan b.water.lo b.water.hi 0 b.tank)) && (within b.scoop 1 20)) && (within b.pail 1 20)) && (within b.mark 0 b.tank)) && (within b.lamp 0 60)) && (okSpan b.full.lo b.full.hi 0 60)) (v := .pointer (some ⟨b2, 18, none⟩)) rfl rfl 0 rfl (ison_t _) rfl rfl rfl (fun hg65 K66 hK66 => st_field (o' := 18) hs56 (Ev.t 9 rfl) rfl rfl Tryd.runUnderlying27 rfl Tryd.sizeOf23 rfl rfl hK66) fun _ _ hs57 => ?_; clear hs56
 refine sq_gv hs57 (gg := ((((((((within b.bunker 1 99) && (within b.tank 1 99)) && (okSpan b.coal.lo b.coal.hi 0 b.bunker)) && (okSpan b.water.lo b.water.hi 0 b.tank)) && (within b.scoop 1 20)) && (within b.pail 1 20)) && (within b.mark 0 b.tank)) && (within b.lamp 0 60)) && (okSpan b.full.lo b.full.hi 0 60)) (v := .agg ⟨[.int .i64 b.weak.lo, .int .i64 b.weak.hi]⟩) rfl rfl 1 rfl (ison_t _) rfl rfl rfl (fun hg67 K68 hK68 => st_loadA (o := 0) (off := 18) (vs := [.int .i64 b.weak.lo, .int .i64 b.weak.hi]) hs57 ((Ev.t 0 rfl).un hg67) rfl rfl Tryd.isAgg23 Tryd.sizeOf23 (hs57.cells 0 rfl) rfl hK68) fun _ _ hs58 => ?_; clear hs57
 refine sq_gv hs58 (gg := ((((((((within b.bunker 1 99) && (within b.tank 1 99)) && (okSpan b.coal.lo b.coal.hi 0 b.bunker)) && (okSpan b.water.lo b.water.hi 0 b.tank)) && (within b.scoop 1 20)) && (within b.pail 1 20)) && (within b.mark 0 b.tank)) && (within b.lamp 0 60)) && (okSpan b.full.lo b.full.hi 0 60)) (v := .bool (okSpan b.weak.lo b.weak.hi 0 60)) rfl rfl 2 rfl (ison_t _) rfl rfl rfl (fun hg69 K70 hK70 => st_callv (vs := [.agg ⟨[.int .i64 b.weak.lo, .int .i64 b.weak.hi]⟩, .int .i64 0, .int .i64 60]) hs58 (.func _) ⟨((Ev.t 0 rfl).un hg69), (.const _), (.const _), trivial⟩ rfl rfl Tryd.call51 rfl (legal_v b.weak.lo b.weak.hi 0 60 _) hK70) fun _ _ hs59 => ?_; clear hs58
 refine sq rfl (st_and hs59 (gx := true) (gy := ((((((((within b.bunker 1 99) && (within b.tank 1 99)) && (okSpan b.coal.lo b.coal.hi 0 b.bunker)) && (okSpan b.water.lo b.water.hi 0 b.tank)) && (within b.scoop 1 20)) && (within b.pail 1 20)) && (within b.mark 0 b.tank)) && (within b.lamp 0 60)) && (okSpan b.full.lo b.full.hi 0 60)) (Ev.t 3 rfl) rfl (Ev.t 0 rfl) (fun h => h) rfl rfl fun _ _ hs60 => ?_); clear hs59
 refine sq rfl (st_move hs60 (Ev.t 0 rfl) rfl rfl fun _ _ hs61 => ?_); clear hs60
 refine sq_gv hs61 (gg := (((((((((within b.bunker 1 99) && (within b.tank 1 99)) && (okSpan b.coal.lo b.coal.hi 0 b.bunker)) && (okSpan b.water.lo b.water.hi 0 b.tank)) && (within b.scoop 1 20)) && (within b.pail 1 20)) && (within b.mark 0 b.tank)) && (within b.lamp 0 60)) && (okSpan b.full.lo b.full.hi 0 60)) && (okSpan b.weak.lo b.weak.hi 0 60)) (v := .pointer (some ⟨b2, 18, none⟩)) rfl rfl 0 rfl (ison_t _) rfl rfl rfl (fun hg71 K72 hK72 => st_field (o' := 18) hs61 (Ev.t 14 rfl) rfl rfl Tryd.runUnderlying27 rfl Tryd.sizeOf23 rfl rfl hK72) fun _ _ hs62 => ?_; clear hs61
 refine sq_gv hs62 (gg := (((((((((within b.bunker 1 99) && (within b.tank 1 99)) && (okSpan b.coal.lo b.coal.hi 0 b.bunker)) && (okSpan b.water.lo b.water.hi 0 b.tank)) && (within b.scoop 1 20)) && (within b.pail 1 20)) && (within b.mark 0 b.tank)) && (within b.lamp 0 60)) && (okSpan b.full.lo b.full.hi 0 60)) && (okSpan b.weak.lo b.weak.hi 0 60)) (v := .pointer (some ⟨b2, 18, none⟩)) rfl rfl 1 rfl (ison_t _) rfl rfl rfl (fun hg73 K74 hK74 => st_field (o' := 18) hs62 ((Ev.t 0 rfl).un hg73) rfl rfl Tryd.runUnderlying23 rfl Tryd.sizeOf3 rfl rfl hK74) fun _ _ hs63 => ?_; clear hs62
 refine sq_gv hs63 (gg := (((((((((within b.bunker 1 99) && (within b.tank 1 99)) && (okSpan b.coal.lo b.coal.hi 0 b.bunker)) && (okSpan b.water.lo b.water.hi 0 b.tank)) && (within b.scoop 1 20)) && (within b.pail 1 20)) && (within b.mark 0 b.tank)) && (within b.lamp 0 60)) && (okSpan b.full.lo b.full.hi 0 60)) && (okSpan b.weak.lo b.weak.hi 0 60)) (v := .int .i64 b.weak.lo) rfl rfl 2 rfl (ison_t _) rfl rfl rfl (fun hg75 K76 hK76 => st_load1 (o := 0) (off := 18) (v := .int .i64 b.weak.lo) hs63 ((Ev.t 0 rfl).un hg75) rfl rfl Tryd.isAgg3 (hs63.cells 0 rfl) rfl hK76) fun _ _ hs64 => ?_; clear hs63
 refine sq_gv hs64 (gg := (((((((((within b.bunker 1 99) && (within b.tank 1 99)) && (okSpan b.coal.lo b.coal.hi 0 b.bunker)) && (okSpan b.water.lo b.water.hi 0 b.tank)) && (within b.scoop 1 20)) && (within b.pail 1 20)) && (within b.mark 0 b.tank)) && (within b.lamp 0 60)) && (okSpan b.full.lo b.full.hi 0 60)) && (okSpan b.weak.lo b.weak.hi 0 60)) (v := .pointer (some ⟨b2, 16, none⟩)) rfl rfl 3 rfl (ison_t _) rfl rfl rfl (fun hg77 K78 hK78 => st_field (o' := 16) hs64 (Ev.t 17 rfl) rfl rfl Tryd.runUnderlying27 rfl Tryd.sizeOf23 rfl rfl hK78) fun _ _ hs65 => ?_; clear hs64
 refine sq_gv hs65 (gg := (((((((((within b.bunker 1 99) && (within b.tank 1 99)) && (okSpan b.coal.lo b.coal.hi 0 b.bunker)) && (okSpan b.water.lo b.water.hi 0 b.tank)) && (within b.scoop 1 20)) && (within b.pail 1 20)) && (within b.mark 0 b.tank)) && (within b.lamp 0 60)) && (okSpan b.full.lo b.full.hi 0 60)) && (okSpan b.weak.lo b.weak.hi 0 60)) (v := .pointer (some ⟨b2, 16, none⟩)) rfl rfl 4 rfl (ison_t _) rfl rfl rfl (fun hg79 K80 hK80 => st_field (o' := 16) hs65 ((Ev.t 0 rfl).un hg79) rfl rfl Tryd.runUnderlying23 rfl Tryd.sizeOf3 rfl rfl hK80) fun _ _ hs66 => ?_; clear hs65
 refine sq_gv hs66 (gg := (((((((((within b.bunker 1 99) && (within b.tank 1 99)) && (okSpan b.coal.lo b.coal.hi 0 b.bunker)) && (okSpan b.water.lo b.water.hi 0 b.tank)) && (within b.scoop 1 20)) && (within b.pail 1 20)) && (within b.mark 0 b.tank)) && (within b.lamp 0 60)) && (okSpan b.full.lo b.full.hi 0 60)) && (okSpan b.weak.lo b.weak.hi 0 60)) (v := .int .i64 b.full.lo) rfl rfl 5 rfl (ison_t _) rfl rfl rfl (fun hg81 K82 hK82 => st_load1 (o := 0) (off := 16) (v := .int .i64 b.full.lo) hs66 ((Ev.t 0 rfl).un hg81) rfl rfl Tryd.isAgg3 (hs66.cells 0 rfl) rfl hK82) fun _ _ hs67 => ?_; clear hs66
 refine sq_gv hs67 (gg := (((((((((within b.bunker 1 99) && (within b.tank 1 99)) && (okSpan b.coal.lo b.coal.hi 0 b.bunker)) && (okSpan b.water.lo b.water.hi 0 b.tank)) && (within b.scoop 1 20)) && (within b.pail 1 20)) && (within b.mark 0 b.tank)) && (within b.lamp 0 60)) && (okSpan b.full.lo b.full.hi 0 60)) && (okSpan b.weak.lo b.weak.hi 0 60)) (v := .bool (decide ((b.weak.lo : Int) ≤ b.full.lo))) rfl rfl 6 rfl (ison_t _) rfl rfl rfl (fun hg83 K84 hK84 => st_cmp (c := decide ((b.weak.lo : Int) ≤ b.full.lo)) hs67 ((Ev.t 3 rfl).un hg83) ((Ev.t 0 rfl).un hg83) rfl rfl rfl rfl hK84) fun _ _ hs68 => ?_; clear hs67
 refine sq rfl (st_and hs68 (gx := true) (gy := (((((((((within b.bunker 1 99) && (within b.tank 1 99)) && (okSpan b.coal.lo b.coal.hi 0 b.bunker)) && (okSpan b.water.lo b.water.hi 0 b.tank)) && (within b.scoop 1 20)) && (within b.pail 1 20)) && (within b.mark 0 b.tank)) && (within b.lamp 0 60)) && (okSpan b.full.lo b.full.hi 0 60)) && (okSpan b.weak.lo b.weak.hi 0 60)) (Ev.t 7 rfl) rfl (Ev.t 0 rfl) (fun h => h) rfl rfl fun _ _ hs69 => ?_); clear hs68
 refine sq rfl (st_move hs69 (Ev.t 0 rfl) rfl rfl fun _ _ hs70 => ?_); clear hs69
 refine sq_gv hs70 (gg := ((((((((((within b.bunker 1 99) && (within b.tank 1 99)) && (okSpan b.coal.lo b.coal.hi 0 b.bunker)) && (okSpan b.water.lo b.water.hi 0 b.tank)) && (within b.scoop 1 20)) && (within b.pail 1 20)) && (within b.mark 0 b.tank)) && (within b.lamp 0 60)) && (okSpan b.full.lo b.full.hi 0 60)) && (okSpan b.weak.lo b.weak.hi 0 60)) && (decide ((b.weak.lo : Int) ≤ b.full.lo))) (v := .pointer (some ⟨b2, 18, none⟩)) rfl rfl 0 rfl (ison_t _) rfl rfl rfl (fun hg85 K86 hK86 => st_field (o' := 18) hs70 (Ev.t 23 rfl) rfl rfl Tryd.runUnderlying27 rfl Tryd.sizeOf23 rfl rfl hK86) fun _ _ hs71 => ?_; clear hs70
 refine sq_gv hs71 (gg := ((((((((((within b.bunker 1 99) && (within b.tank 1 99)) && (okSpan b.coal.lo b.coal.hi 0 b.bunker)) && (okSpan b.water.lo b.water.hi 0 b.tank)) && (within b.scoop 1 20)) && (within b.pail 1 20)) && (within b.mark 0 b.tank)) && (within b.lamp 0 60)) && (okSpan b.full.lo b.full.hi 0 60)) && (okSpan b.weak.lo b.weak.hi 0 60)) && (decide ((b.weak.lo : Int) ≤ b.full.lo))) (v := .pointer (some ⟨b2, 19, none⟩)) rfl rfl 1 rfl (ison_t _) rfl rfl rfl (fun hg87 K88 hK88 => st_field (o' := 19) hs71 ((Ev.t 0 rfl).un hg87) rfl rfl Tryd.runUnderlying23 rfl Tryd.sizeOf3 rfl rfl hK88) fun _ _ hs72 => ?_; clear hs71
 refine sq_gv hs72 (gg := ((((((((((within b.bunker 1 99) && (within b.tank 1 99)) && (okSpan b.coal.lo b.coal.hi 0 b.bunker)) && (okSpan b.water.lo b.water.hi 0 b.tank)) && (within b.scoop 1 20)) && (within b.pail 1 20)) && (within b.mark 0 b.tank)) && (within b.lamp 0 60)) && (okSpan b.full.lo b.full.hi 0 60)) && (okSpan b.weak.lo b.weak.hi 0 60)) && (decide ((b.weak.lo : Int) ≤ b.full.lo))) (v := .int .i64 b.weak.hi) rfl rfl 2 rfl (ison_t _) rfl rfl rfl (fun hg89 K90 hK90 => st_load1 (o := 0) (off := 19) (v := .int .i64 b.weak.hi) hs72 ((Ev.t 0 rfl).un hg89) rfl rfl Tryd.isAgg3 (hs72.cells 0 rfl) rfl hK90) fun _ _ hs73 => ?_; clear hs72
 refine sq_gv hs73 (gg := ((((((((((within b.bunker 1 99) && (within b.tank 1 99)) && (okSpan b.coal.lo b.coal.hi 0 b.bunker)) && (okSpan b.water.lo b.water.hi 0 b.tank)) && (within b.scoop 1 20)) && (within b.pail 1 20)) && (within b.mark 0 b.tank)) && (within b.lamp 0 60)) && (okSpan b.full.lo b.full.hi 0 60)) && (okSpan b.weak.lo b.weak.hi 0 60)) && (decide ((b.weak.lo : Int) ≤ b.full.lo))) (v := .pointer (some ⟨b2, 16, none⟩)) rfl rfl 3 rfl (ison_t _) rfl rfl rfl (fun hg91 K92 hK92 => st_field (o' := 16) hs73 (Ev.t 26 rfl) rfl rfl Tryd.runUnderlying27 rfl Tryd.sizeOf23 rfl rfl hK92) fun _ _ hs74 => ?_; clear hs73
 refine sq_gv hs74 (gg := ((((((((((within b.bunker 1 99) && (within b.tank 1 99)) && (okSpan b.coal.lo b.coal.hi 0 b.bunker)) && (okSpan b.water.lo b.water.hi 0 b.tank)) && (within b.scoop 1 20)) && (within b.pail 1 20)) && (within b.mark 0 b.tank)) && (within b.lamp 0 60)) && (okSpan b.full.lo b.full.hi 0 60)) && (okSpan b.weak.lo b.weak.hi 0 60)) && (decide ((b.weak.lo : Int) ≤ b.full.lo))) (v := .pointer (some ⟨b2, 17, none⟩)) rfl rfl 4 rfl (ison_t _) rfl rfl rfl (fun hg93 K94 hK94 => st_field (o' := 17) hs74 ((Ev.t 0 rfl).un hg93) rfl rfl Tryd.runUnderlying23 rfl Tryd.sizeOf3 rfl rfl hK94) fun _ _ hs75 => ?_; clear hs74
 refine sq_gv hs75 (gg := ((((((((((within b.bunker 1 99) && (within b.tank 1 99)) && (okSpan b.coal.lo b.coal.hi 0 b.bunker)) && (okSpan b.water.lo b.water.hi 0 b.tank)) && (within b.scoop 1 20)) && (within b.pail 1 20)) && (within b.mark 0 b.tank)) && (within b.lamp 0 60)) && (okSpan b.full.lo b.full.hi 0 60)) && (okSpan b.weak.lo b.weak.hi 0 60)) && (decide ((b.weak.lo : Int) ≤ b.full.lo))) (v := .int .i64 b.full.hi) rfl rfl 5 rfl (ison_t _) rfl rfl rfl (fun hg95 K96 hK96 => st_load1 (o := 0) (off := 17) (v := .int .i64 b.full.hi) hs75 ((Ev.t 0 rfl).un hg95) rfl rfl Tryd.isAgg3 (hs75.cells 0 rfl) rfl hK96) fun _ _ hs76 => ?_; clear hs75
 refine sq_gv hs76 (gg := ((((((((((within b.bunker 1 99) && (within b.tank 1 99)) && (okSpan b.coal.lo b.coal.hi 0 b.bunker)) && (okSpan b.water.lo b.water.hi 0 b.tank)) && (within b.scoop 1 20)) && (within b.pail 1 20)) && (within b.mark 0 b.tank)) && (within b.lamp 0 60)) && (okSpan b.full.lo b.full.hi 0 60)) && (okSpan b.weak.lo b.weak.hi 0 60)) && (decide ((b.weak.lo : Int) ≤ b.full.lo))) (v := .bool (decide ((b.weak.hi : Int) ≤ b.full.hi))) rfl rfl 6 rfl (ison_t _) rfl rfl rfl (fun hg97 K98 hK98 => st_cmp (c := decide ((b.weak.hi : Int) ≤ b.full.hi)) hs76 ((Ev.t 3 rfl).un hg97) ((Ev.t 0 rfl).un hg97) rfl rfl rfl rfl hK98) fun _ _ hs77 => ?_; clear hs76
 refine sq rfl (st_and hs77 (gx := true) (gy := ((((((((((within b.bunker 1 99) && (within b.tank 1 99)) && (okSpan b.coal.lo b.coal.hi 0 b.bunker)) && (okSpan b.water.lo b.water.hi 0 b.tank)) && (within b.scoop 1 20)) && (within b.pail 1 20)) && (within b.mark 0 b.tank)) && (within b.lamp 0 60)) && (okSpan b.full.lo b.full.hi 0 60)) && (okSpan b.weak.lo b.weak.hi 0 60)) && (decide ((b.weak.lo : Int) ≤ b.full.lo))) (Ev.t 7 rfl) rfl (Ev.t 0 rfl) (fun h => h) rfl rfl fun _ _ hs78 => ?_); clear hs77
 refine sq rfl (st_move hs78 (Ev.t 0 rfl) rfl rfl fun _ _ hs79 => ?_); clear hs78
 refine sq_gv hs79 (gg := (((((((((((within b.bunker 1 99) && (within b.tank 1 99)) && (okSpan b.coal.lo b.coal.hi 0 b.bunker)) && (okSpan b.water.lo b.water.hi 0 b.tank)) && (within b.scoop 1 20)) && (within b.pail 1 20)) && (within b.mark 0 b.tank)) && (within b.lamp 0 60)) && (okSpan b.full.lo b.full.hi 0 60)) && (okSpan b.weak.lo b.weak.hi 0 60)) && (decide ((b.weak.lo : Int) ≤ b.full.lo))) && (decide ((b.weak.hi : Int) ≤ b.full.hi))) (v := .pointer (some ⟨b2, 22, none⟩)) rfl rfl 0 rfl (ison_t _) rfl rfl rfl (fun hg99 K100 hK100 => st_field (o' := 22) hs79 (Ev.t 32 rfl) rfl rfl Tryd.runUnderlying27 rfl Tryd.sizeOf25 rfl rfl hK100) fun _ _ hs80 => ?_; clear hs79
 refine sq_gv hs80 (gg := (((((((((((within b.bunker 1 99) && (within b.tank 1 99)) && (okSpan b.coal.lo b.coal.hi 0 b.bunker)) && (okSpan b.water.lo b.water.hi 0 b.tank)) && (within b.scoop 1 20)) && (within b.pail 1 20)) && (within b.mark 0 b.tank)) && (within b.lamp 0 60)) && (okSpan b.full.lo b.full.hi 0 60)) && (okSpan b.weak.lo b.weak.hi 0 60)) && (decide ((b.weak.lo : Int) ≤ b.full.lo))) && (decide ((b.weak.hi : Int) ≤ b.full.hi))) (v := .slice A n cp) rfl rfl 1 rfl (ison_t _) rfl rfl rfl (fun hg101 K102 hK102 => st_load1 (o := 0) (off := 22) (v := .slice A n cp) hs80 ((Ev.t 0 rfl).un hg101) rfl rfl Tryd.isAgg25 (hs80.cells 0 rfl) rfl hK102) fun _ _ hs81 => ?_; clear hs80
 refine sq_gv hs81 (gg := (((((((((((within b.bunker 1 99) && (within b.tank 1 99)) && (okSpan b.coal.lo b.coal.hi 0 b.bunker)) && (okSpan b.water.lo b.water.hi 0 b.tank)) && (within b.scoop 1 20)) && (within b.pail 1 20)) && (within b.mark 0 b.tank)) && (within b.lamp 0 60)) && (okSpan b.full.lo b.full.hi 0 60)) && (okSpan b.weak.lo b.weak.hi 0 60)) && (decide ((b.weak.lo : Int) ≤ b.full.lo))) && (decide ((b.weak.hi : Int) ≤ b.full.hi))) (v := .int .i64 (n : Int)) rfl rfl 2 rfl (ison_t _) rfl rfl rfl (fun hg103 K104 hK104 => st_len hs81 ((Ev.t 0 rfl).un hg103) rfl rfl Tryd.runUnderlying25 hK104) fun _ _ hs82 => ?_; clear hs81
 refine sq_gv hs82 (gg := (((((((((((within b.bunker 1 99) && (within b.tank 1 99)) && (okSpan b.coal.lo b.coal.hi 0 b.bunker)) && (okSpan b.water.lo b.water.hi 0 b.tank)) && (within b.scoop 1 20)) && (within b.pail 1 20)) && (within b.mark 0 b.tank)) && (within b.lamp 0 60)) && (okSpan b.full.lo b.full.hi 0 60)) && (okSpan b.weak.lo b.weak.hi 0 60)) && (decide ((b.weak.lo : Int) ≤ b.full.lo))) && (decide ((b.weak.hi : Int) ≤ b.full.hi))) (v := .bool (within (n : Int) 1 5)) rfl rfl 3 rfl (ison_t _) rfl rfl rfl (fun hg105 K106 hK106 => st_callv (vs := [.int .i64 (n : Int), .int .i64 1, .int .i64 5]) hs82 (.func _) ⟨((Ev.t 0 rfl).un hg105), (.const _), (.const _), trivial⟩ rfl rfl Tryd.call37 rfl (amid_v (n : Int) 1 5 _) hK106) fun _ _ hs83 => ?_; clear hs82
 refine sq rfl (st_and hs83 (gx := true) (gy := (((((((((((within b.bunker 1 99) && (within b.tank 1 99)) && (okSpan b.coal.lo b.coal.hi 0 b.bunker)) && (okSpan b.water.lo b.water.hi 0 b.tank)) && (within b.scoop 1 20)) && (within b.pail 1 20)) && (within b.mark 0 b.tank)) && (within b.lamp 0 60)) && (okSpan b.full.lo b.full.hi 0 60)) && (okSpan b.weak.lo b.weak.hi 0 60)) && (decide ((b.weak.lo : Int) ≤ b.full.lo))) && (decide ((b.weak.hi : Int) ≤ b.full.hi))) (Ev.t 4 rfl) rfl (Ev.t 0 rfl) (fun h => h) rfl rfl fun _ _ hs84 => ?_); clear hs83
 have hs85 := Sx.keepT [0, 1, 2, 3, 4, 5, 6, 7, 8, 9, 10, 11, 12, 13, 14, 15, 16, 17, 18, 19, 20, 21, 22, 23, 24, 25, 26, 27, 28, 29, 30, 31, 32, 33, 34, 36, 37] [_, _, _, _, _, _, _, _, _, _, _, _, _, _, _, _, _, _, _, _, _, _, _, _, _, _, _, _, _, _, _, _, _, _, _, _, _] ⟨rfl, rfl, rfl, rfl, rfl, rfl, rfl, rfl, rfl, rfl, rfl, rfl, rfl, rfl, rfl, rfl, rfl, rfl, rfl, rfl, rfl, rfl, rfl, rfl, rfl, rfl, rfl, rfl, rfl, rfl, rfl, rfl, rfl, rfl, rfl, rfl, rfl, trivial⟩ hs84; clear hs84
 refine sq rfl (st_assign hs85 (Ev.t 0 rfl) rfl rfl fun _ _ hs86 => ?_); clear hs85
 refine hK58 _ _ ?_; clear hK58
 have hs87 := Sx.keepT [0, 36, 37] [_, _, _] ⟨rfl, rfl, rfl, trivial⟩ hs86; clear hs86
 refine cd_seq fun K107 hK107 => ?_
 refine cd_region fun K108 hK108 => ?_
 refine sq rfl (st_assign hs87 (.const _) rfl rfl fun _ _ hs88 => ?_); clear hs87
 refine hK108 _ _ ?_; clear hK108
 refine cd_block ?_
 refine cd_rounds 3 ?_
 refine cd_round fun K109 hK109 => ?_
 refine cd_seq fun K110 hK110 => ?_
 refine cd_region fun K111 hK111 => ?_
 refine sq rfl (st_move hs88 (Ev.t 0 rfl) rfl rfl fun _ _ hs89 => ?_); clear hs88
 refine sq rfl (st_cmp (c := decide ((0 : Int) < 2)) hs89 (Ev.t 0 rfl) (.const _) rfl rfl rfl rfl fun _ _ hs90 => ?_); clear hs89
 refine hK111 _ _ ?_; clear hK111
 have hs91 := Sx.keepT [0, 2, 3, 4, 5] [_, _, _, _, _] ⟨rfl, rfl, rfl, rfl, rfl, trivial⟩ hs90; clear hs90
 have hc112 : (decide ((0 : Int) < 2)) = true := by decide
 refine cd_cond hs91 (Ev.t 0 rfl) (fun _ => ?_) (fun h => absurd (hc112.symm.trans h) (by decide))
 refine cd_skip ?_
 refine th_norm (hK110 _ _ ?_)
 refine cd_seq fun K113 hK113 => ?_
 refine cd_block ?_
 refine cd_region1 ?_
 refine sq rfl (st_move hs91 (Ev.t 2 rfl) rfl rfl fun _ _ hs92 => ?_); clear hs91
 refine sq rfl (st_move hs92 (Ev.t 0 rfl) rfl rfl fun _ _ hs93 => ?_); clear hs92
 refine sq_gv hs93 (gg := ((((((((((((within b.bunker 1 99) && (within b.tank 1 99)) && (okSpan b.coal.lo b.coal.hi 0 b.bunker)) && (okSpan b.water.lo b.water.hi 0 b.tank)) && (within b.scoop 1 20)) && (within b.pail 1 20)) && (within b.mark 0 b.tank)) && (within b.lamp 0 60)) && (okSpan b.full.lo b.full.hi 0 60)) && (okSpan b.weak.lo b.weak.hi 0 60)) && (decide ((b.weak.lo : Int) ≤ b.full.lo))) && (decide ((b.weak.hi : Int) ≤ b.full.hi))) && (within (n : Int) 1 5)) (v := .int .i64 0) rfl rfl 0 rfl (ison_t _) rfl rfl rfl (fun hg114 K115 hK115 => st_move hs93 (Ev.t 3 rfl) rfl rfl hK115) fun _ _ hs94 => ?_; clear hs93
 refine sq_gv hs94 (gg := ((((((((((((within b.bunker 1 99) && (within b.tank 1 99)) && (okSpan b.coal.lo b.coal.hi 0 b.bunker)) && (okSpan b.water.lo b.water.hi 0 b.tank)) && (within b.scoop 1 20)) && (within b.pail 1 20)) && (within b.mark 0 b.tank)) && (within b.lamp 0 60)) && (okSpan b.full.lo b.full.hi 0 60)) && (okSpan b.weak.lo b.weak.hi 0 60)) && (decide ((b.weak.lo : Int) ≤ b.full.lo))) && (decide ((b.weak.hi : Int) ≤ b.full.hi))) && (within (n : Int) 1 5)) (v := .pointer (some ⟨b2, 8, none⟩)) rfl rfl 1 rfl (ison_t _) rfl rfl rfl (fun hg116 K117 hK117 => st_field (o' := 8) hs94 (Ev.t 7 rfl) rfl rfl Tryd.runUnderlying27 rfl Tryd.sizeOf24 rfl rfl hK117) fun _ _ hs95 => ?_; clear hs94
 refine sq_gv hs95 (gg := ((((((((((((within b.bunker 1 99) && (within b.tank 1 99)) && (okSpan b.coal.lo b.coal.hi 0 b.bunker)) && (okSpan b.water.lo b.water.hi 0 b.tank)) && (within b.scoop 1 20)) && (within b.pail 1 20)) && (within b.mark 0 b.tank)) && (within b.lamp 0 60)) && (okSpan b.full.lo b.full.hi 0 60)) && (okSpan b.weak.lo b.weak.hi 0 60)) && (decide ((b.weak.lo : Int) ≤ b.full.lo))) && (decide ((b.weak.hi : Int) ≤ b.full.hi))) && (within (n : Int) 1 5)) (v := .pointer (some ⟨b2, 8, none⟩)) rfl rfl 2 rfl (ison_t _) rfl rfl rfl (fun hg118 K119 hK119 => st_indexArr (o' := 8) hs95 ((Ev.t 0 rfl).un hg118) ((Ev.t 1 rfl).un hg118) rfl rfl Tryd.runUnderlying24 Tryd.sizeOf23 (by decide) rfl hK119) fun _ _ hs96 => ?_; clear hs95
 refine sq_gv hs96 (gg := ((((((((((((within b.bunker 1 99) && (within b.tank 1 99)) && (okSpan b.coal.lo b.coal.hi 0 b.bunker)) && (okSpan b.water.lo b.water.hi 0 b.tank)) && (within b.scoop 1 20)) && (within b.pail 1 20)) && (within b.mark 0 b.tank)) && (within b.lamp 0 60)) && (okSpan b.full.lo b.full.hi 0 60)) && (okSpan b.weak.lo b.weak.hi 0 60)) && (decide ((b.weak.lo : Int) ≤ b.full.lo))) && (decide ((b.weak.hi : Int) ≤ b.full.hi))) && (within (n : Int) 1 5)) (v := .agg ⟨[.int .i64 b.burn0.lo, .int .i64 b.burn0.hi]⟩) rfl rfl 3 rfl (ison_t _) rfl rfl rfl (fun hg120 K121 hK121 => st_loadA (o := 0) (off := 8) (vs := [.int .i64 b.burn0.lo, .int .i64 b.burn0.hi]) hs96 ((Ev.t 0 rfl).un hg120) rfl rfl Tryd.isAgg23 Tryd.sizeOf23 (hs96.cells 0 rfl) rfl hK121) fun _ _ hs97 => ?_; clear hs96
 refine sq_gv hs97 (gg := ((((((((((((within b.bunker 1 99) && (within b.tank 1 99)) && (okSpan b.coal.lo b.coal.hi 0 b.bunker)) && (okSpan b.water.lo b.water.hi 0 b.tank)) && (within b.scoop 1 20)) && (within b.pail 1 20)) && (within b.mark 0 b.tank)) && (within b.lamp 0 60)) && (okSpan b.full.lo b.full.hi 0 60)) && (okSpan b.weak.lo b.weak.hi 0 60)) && (decide ((b.weak.lo : Int) ≤ b.full.lo))) && (decide ((b.weak.hi : Int) ≤ b.full.hi))) && (within (n : Int) 1 5)) (v := .bool (okSpan b.burn0.lo b.burn0.hi 0 3)) rfl rfl 4 rfl (ison_t _) rfl rfl rfl (fun hg122 K123 hK123 => st_callv (vs := [.agg ⟨[.int .i64 b.burn0.lo, .int .i64 b.burn0.hi]⟩, .int .i64 0, .int .i64 3]) hs97 (.func _) ⟨((Ev.t 0 rfl).un hg122), (.const _), (.const _), trivial⟩ rfl rfl Tryd.call51 rfl (legal_v b.burn0.lo b.burn0.hi 0 3 _) hK123) fun _ _ hs98 => ?_; clear hs97
 refine sq rfl (st_and hs98 (gx := true) (gy := ((((((((((((within b.bunker 1 99) && (within b.tank 1 99)) && (okSpan b.coal.lo b.coal.hi 0 b.bunker)) && (okSpan b.water.lo b.water.hi 0 b.tank)) && (within b.scoop 1 20)) && (within b.pail 1 20)) && (within b.mark 0 b.tank)) && (within b.lamp 0 60)) && (okSpan b.full.lo b.full.hi 0 60)) && (okSpan b.weak.lo b.weak.hi 0 60)) && (decide ((b.weak.lo : Int) ≤ b.full.lo))) && (decide ((b.weak.hi : Int) ≤ b.full.hi))) && (within (n : Int) 1 5)) (Ev.t 5 rfl) rfl (Ev.t 0 rfl) (fun h => h) rfl rfl fun _ _ hs99 => ?_); clear hs98
 refine sq rfl (st_move hs99 (Ev.t 0 rfl) rfl rfl fun _ _ hs100 => ?_); clear hs99
 refine sq_gv hs100 (gg := (((((((((((((within b.bunker 1 99) && (within b.tank 1 99)) && (okSpan b.coal.lo b.coal.hi 0 b.bunker)) && (okSpan b.water.lo b.water.hi 0 b.tank)) && (within b.scoop 1 20)) && (within b.pail 1 20)) && (within b.mark 0 b.tank)) && (within b.lamp 0 60)) && (okSpan b.full.lo b.full.hi 0 60)) && (okSpan b.weak.lo b.weak.hi 0 60)) && (decide ((b.weak.lo : Int) ≤ b.full.lo))) && (decide ((b.weak.hi : Int) ≤ b.full.hi))) && (within (n : Int) 1 5)) && (okSpan b.burn0.lo b.burn0.hi 0 3)) (v := .int .i64 0) rfl rfl 0 rfl (ison_t _) rfl rfl rfl (fun hg124 K125 hK125 => st_move hs100 (Ev.t 10 rfl) rfl rfl hK125) fun _ _ hs101 => ?_; clear hs100
 refine sq_gv hs101 (gg := (((((((((((((within b.bunker 1 99) && (within b.tank 1 99)) && (okSpan b.coal.lo b.coal.hi 0 b.bunker)) && (okSpan b.water.lo b.water.hi 0 b.tank)) && (within b.scoop 1 20)) && (within b.pail 1 20)) && (within b.mark 0 b.tank)) && (within b.lamp 0 60)) && (okSpan b.full.lo b.full.hi 0 60)) && (okSpan b.weak.lo b.weak.hi 0 60)) && (decide ((b.weak.lo : Int) ≤ b.full.lo))) && (decide ((b.weak.hi : Int) ≤ b.full.hi))) && (within (n : Int) 1 5)) && (okSpan b.burn0.lo b.burn0.hi 0 3)) (v := .pointer (some ⟨b2, 12, none⟩)) rfl rfl 1 rfl (ison_t _) rfl rfl rfl (fun hg126 K127 hK127 => st_field (o' := 12) hs101 (Ev.t 14 rfl) rfl rfl Tryd.runUnderlying27 rfl Tryd.sizeOf24 rfl rfl hK127) fun _ _ hs102 => ?_; clear hs101
 refine sq_gv hs102 (gg := (((((((((((((within b.bunker 1 99) && (within b.tank 1 99)) && (okSpan b.coal.lo b.coal.hi 0 b.bunker)) && (okSpan b.water.lo b.water.hi 0 b.tank)) && (within b.scoop 1 20)) && (within b.pail 1 20)) && (within b.mark 0 b.tank)) && (within b.lamp 0 60)) && (okSpan b.full.lo b.full.hi 0 60)) && (okSpan b.weak.lo b.weak.hi 0 60)) && (decide ((b.weak.lo : Int) ≤ b.full.lo))) && (decide ((b.weak.hi : Int) ≤ b.full.hi))) && (within (n : Int) 1 5)) && (okSpan b.burn0.lo b.burn0.hi 0 3)) (v := .pointer (some ⟨b2, 12, none⟩)) rfl rfl 2 rfl (ison_t _) rfl rfl rfl (fun hg128 K129 hK129 => st_indexArr (o' := 12) hs102 ((Ev.t 0 rfl).un hg128) ((Ev.t 1 rfl).un hg128) rfl rfl Tryd.runUnderlying24 Tryd.sizeOf23 (by decide) rfl hK129) fun _ _ hs103 => ?_; clear hs102
 refine sq_gv hs103 (gg := (((((((((((((within b.bunker 1 99) && (within b.tank 1 99)) && (okSpan b.coal.lo b.coal.hi 0 b.bunker)) && (okSpan b.water.lo b.water.hi 0 b.tank)) && (within b.scoop 1 20)) && (within b.pail 1 20)) && (within b.mark 0 b.tank)) && (within b.lamp 0 60)) && (okSpan b.full.lo b.full.hi 0 60)) && (okSpan b.weak.lo b.weak.hi 0 60)) && (decide ((b.weak.lo : Int) ≤ b.full.lo))) && (decide ((b.weak.hi : Int) ≤ b.full.hi))) && (within (n : Int) 1 5)) && (okSpan b.burn0.lo b.burn0.hi 0 3)) (v := .agg ⟨[.int .i64 b.drink0.lo, .int .i64 b.drink0.hi]⟩) rfl rfl 3 rfl (ison_t _) rfl rfl rfl (fun hg130 K131 hK131 => st_loadA (o := 0) (off := 12) (vs := [.int .i64 b.drink0.lo, .int .i64 b.drink0.hi]) hs103 ((Ev.t 0 rfl).un hg130) rfl rfl Tryd.isAgg23 Tryd.sizeOf23 (hs103.cells 0 rfl) rfl hK131) fun _ _ hs104 => ?_; clear hs103
 refine sq_gv hs104 (gg := (((((((((((((within b.bunker 1 99) && (within b.tank 1 99)) && (okSpan b.coal.lo b.coal.hi 0 b.bunker)) && (okSpan b.water.lo b.water.hi 0 b.tank)) && (within b.scoop 1 20)) && (within b.pail 1 20)) && (within b.mark 0 b.tank)) && (within b.lamp 0 60)) && (okSpan b.full.lo b.full.hi 0 60)) && (okSpan b.weak.lo b.weak.hi 0 60)) && (decide ((b.weak.lo : Int) ≤ b.full.lo))) && (decide ((b.weak.hi : Int) ≤ b.full.hi))) && (within (n : Int) 1 5)) && (okSpan b.burn0.lo b.burn0.hi 0 3)) (v := .bool (okSpan b.drink0.lo b.drink0.hi 0 3)) rfl rfl 4 rfl (ison_t _) rfl rfl rfl (fun hg132 K133 hK133 => st_callv (vs := [.agg ⟨[.int .i64 b.drink0.lo, .int .i64 b.drink0.hi]⟩, .int .i64 0, .int .i64 3]) hs104 (.func _) ⟨((Ev.t 0 rfl).un hg132), (.const _), (.const _), trivial⟩ rfl rfl Tryd.call51 rfl (legal_v b.drink0.lo b.drink0.hi 0 3 _) hK133) fun _ _ hs105 => ?_; clear hs104
 refine sq rfl (st_and hs105 (gx := true) (gy := (((((((((((((within b.bunker 1 99) && (within b.tank 1 99)) && (okSpan b.coal.lo b.coal.hi 0 b.bunker)) && (okSpan b.water.lo b.water.hi 0 b.tank)) && (within b.scoop 1 20)) && (within b.pail 1 20)) && (within b.mark 0 b.tank)) && (within b.lamp 0 60)) && (okSpan b.full.lo b.full.hi 0 60)) && (okSpan b.weak.lo b.weak.hi 0 60)) && (decide ((b.weak.lo : Int) ≤ b.full.lo))) && (decide ((b.weak.hi : Int) ≤ b.full.hi))) && (within (n : Int) 1 5)) && (okSpan b.burn0.lo b.burn0.hi 0 3)) (Ev.t 5 rfl) rfl (Ev.t 0 rfl) (fun h => h) rfl rfl fun _ _ hs106 => ?_); clear hs105
 have hs107 := Sx.keepT [0, 1, 2, 3, 4, 5, 6, 7, 8, 9, 10, 11, 12, 13, 14, 15, 16, 18, 19] [_, _, _, _, _, _, _, _, _, _, _, _, _, _, _, _, _, _, _] ⟨rfl, rfl, rfl, rfl, rfl, rfl, rfl, rfl, rfl, rfl, rfl, rfl, rfl, rfl, rfl, rfl, rfl, rfl, rfl, trivial⟩ hs106; clear hs106
 refine sq rfl (st_assign hs107 (Ev.t 0 rfl) rfl rfl fun _ _ hs108 => ?_); clear hs107
 refine wpListIn_nil ?_
 have hs109 := Sx.keepT [0, 17, 18, 19] [_, _, _, _] ⟨rfl, rfl, rfl, rfl, trivial⟩ hs108; clear hs108
 refine in_norm ?_
 refine th_norm (hK113 _ _ ?_)
 refine cd_region1 ?_
 refine sq rfl (st_move hs109 (Ev.t 1 rfl) rfl rfl fun _ _ hs110 => ?_); clear hs109
 refine sq rfl (st_add (z := 1) hs110 (Ev.t 0 rfl) (.const _) rfl rfl rfl (by omega) fun _ _ hs111 => ?_); clear hs110
 have hs112 := Sx.keepT [0, 1, 2, 4, 5] [_, _, _, _, _] ⟨rfl, rfl, rfl, rfl, rfl, trivial⟩ hs111; clear hs111
 refine sq rfl (st_assign hs112 (Ev.t 0 rfl) rfl rfl fun _ _ hs113 => ?_); clear hs112
 refine wpListIn_nil ?_
 have hs114 := Sx.keepT [0, 3, 4, 5] [_, _, _, _] ⟨rfl, rfl, rfl, rfl, trivial⟩ hs113; clear hs113
 refine th_norm (hK109 _ _ ?_); clear hK109
 refine cd_round fun K134 hK134 => ?_
 refine cd_seq fun K135 hK135 => ?_
 refine cd_region fun K136 hK136 => ?_
 refine sq rfl (st_move hs114 (Ev.t 0 rfl) rfl rfl fun _ _ hs115 => ?_); clear hs114
 refine sq rfl (st_cmp (c := decide ((1 : Int) < 2)) hs115 (Ev.t 0 rfl) (.const _) rfl rfl rfl rfl fun _ _ hs116 => ?_); clear hs115
 refine hK136 _ _ ?_; clear hK136
 have hs117 := Sx.keepT [0, 2, 3, 4, 5] [_, _, _, _, _] ⟨rfl, rfl, rfl, rfl, rfl, trivial⟩ hs116; clear hs116
 have hc137 : (decide ((1 : Int) < 2)) = true := by decide
 refine cd_cond hs117 (Ev.t 0 rfl) (fun _ => ?_) (fun h => absurd (hc137.symm.trans h) (by decide))
 refine cd_skip ?_
 refine th_norm (hK135 _ _ ?_)
 refine cd_seq fun K138 hK138 => ?_
 refine cd_block ?_
 refine cd_region1 ?_
 refine sq rfl (st_move hs117 (Ev.t 2 rfl) rfl rfl fun _ _ hs118 => ?_); clear hs117
 refine sq rfl (st_move hs118 (Ev.t 0 rfl) rfl rfl fun _ _ hs119 => ?_); clear hs118
 refine sq_gv hs119 (gg := ((((((((((((((within b.bunker 1 99) && (within b.tank 1 99)) && (okSpan b.coal.lo b.coal.hi 0 b.bunker)) && (okSpan b.water.lo b.water.hi 0 b.tank)) && (within b.scoop 1 20)) && (within b.pail 1 20)) && (within b.mark 0 b.tank)) && (within b.lamp 0 60)) && (okSpan b.full.lo b.full.hi 0 60)) && (okSpan b.weak.lo b.weak.hi 0 60)) && (decide ((b.weak.lo : Int) ≤ b.full.lo))) && (decide ((b.weak.hi : Int) ≤ b.full.hi))) && (within (n : Int) 1 5)) && (okSpan b.burn0.lo b.burn0.hi 0 3)) && (okSpan b.drink0.lo b.drink0.hi 0 3)) (v := .int .i64 1) rfl rfl 0 rfl (ison_t _) rfl rfl rfl (fun hg139 K140 hK140 => st_move hs119 (Ev.t 3 rfl) rfl rfl hK140) fun _ _ hs120 => ?_; clear hs119
 refine sq_gv hs120 (gg := ((((((((((((((within b.bunker 1 99) && (within b.tank 1 99)) && (okSpan b.coal.lo b.coal.hi 0 b.bunker)) && (okSpan b.water.lo b.water.hi 0 b.tank)) && (within b.scoop 1 20)) && (within b.pail 1 20)) && (within b.mark 0 b.tank)) && (within b.lamp 0 60)) && (okSpan b.full.lo b.full.hi 0 60)) && (okSpan b.weak.lo b.weak.hi 0 60)) && (decide ((b.weak.lo : Int) ≤ b.full.lo))) && (decide ((b.weak.hi : Int) ≤ b.full.hi))) && (within (n : Int) 1 5)) && (okSpan b.burn0.lo b.burn0.hi 0 3)) && (okSpan b.drink0.lo b.drink0.hi 0 3)) (v := .pointer (some ⟨b2, 8, none⟩)) rfl rfl 1 rfl (ison_t _) rfl rfl rfl (fun hg141 K142 hK142 => st_field (o' := 8) hs120 (Ev.t 7 rfl) rfl rfl Tryd.runUnderlying27 rfl Tryd.sizeOf24 rfl rfl hK142) fun _ _ hs121 => ?_; clear hs120
 refine sq_gv hs121 (gg := ((((((((((((((within b.bunker 1 99) && (within b.tank 1 99)) && (okSpan b.coal.lo b.coal.hi 0 b.bunker)) && (okSpan b.water.lo b.water.hi 0 b.tank)) && (within b.scoop 1 20)) && (within b.pail 1 20)) && (within b.mark 0 b.tank)) && (within b.lamp 0 60)) && (okSpan b.full.lo b.full.hi 0 60)) && (okSpan b.weak.lo b.weak.hi 0 60)) && (decide ((b.weak.lo : Int) ≤ b.full.lo))) && (decide ((b.weak.hi : Int) ≤ b.full.hi))) && (within (n : Int) 1 5)) && (okSpan b.burn0.lo b.burn0.hi 0 3)) && (okSpan b.drink0.lo b.drink0.hi 0 3)) (v := .pointer (some ⟨b2, 10, none⟩)) rfl rfl 2 rfl (ison_t _) rfl rfl rfl (fun hg143 K144 hK144 => st_indexArr (o' := 10) hs121 ((Ev.t 0 rfl).un hg143) ((Ev.t 1 rfl).un hg143) rfl rfl Tryd.runUnderlying24 Tryd.sizeOf23 (by decide) rfl hK144) fun _ _ hs122 => ?_; clear hs121
 refine sq_gv hs122 (gg := ((((((((((((((within b.bunker 1 99) && (within b.tank 1 99)) && (okSpan b.coal.lo b.coal.hi 0 b.bunker)) && (okSpan b.water.lo b.water.hi 0 b.tank)) && (within b.scoop 1 20)) && (within b.pail 1 20)) && (within b.mark 0 b.tank)) && (within b.lamp 0 60)) && (okSpan b.full.lo b.full.hi 0 60)) && (okSpan b.weak.lo b.weak.hi 0 60)) && (decide ((b.weak.lo : Int) ≤ b.full.lo))) && (decide ((b.weak.hi : Int) ≤ b.full.hi))) && (within (n : Int) 1 5)) && (okSpan b.burn0.lo b.burn0.hi 0 3)) && (okSpan b.drink0.lo b.drink0.hi 0 3)) (v := .agg ⟨[.int .i64 b.burn1.lo, .int .i64 b.burn1.hi]⟩) rfl rfl 3 rfl (ison_t _) rfl rfl rfl (fun hg145 K146 hK146 => st_loadA (o := 0) (off := 10) (vs := [.int .i64 b.burn1.lo, .int .i64 b.burn1.hi]) hs122 ((Ev.t 0 rfl).un hg145) rfl rfl Tryd.isAgg23 Tryd.sizeOf23 (hs122.cells 0 rfl) rfl hK146) fun _ _ hs123 => ?_; clear hs122
 refine sq_gv hs123 (gg := ((((((((((((((within b.bunker 1 99) && (within b.tank 1 99)) && (okSpan b.coal.lo b.coal.hi 0 b.bunker)) && (okSpan b.water.lo b.water.hi 0 b.tank)) && (within b.scoop 1 20)) && (within b.pail 1 20)) && (within b.mark 0 b.tank)) && (within b.lamp 0 60)) && (okSpan b.full.lo b.full.hi 0 60)) && (okSpan b.weak.lo b.weak.hi 0 60)) && (decide ((b.weak.lo : Int) ≤ b.full.lo))) && (decide ((b.weak.hi : Int) ≤ b.full.hi))) && (within (n : Int) 1 5)) && (okSpan b.burn0.lo b.burn0.hi 0 3)) && (okSpan b.drink0.lo b.drink0.hi 0 3)) (v := .bool (okSpan b.burn1.lo b.burn1.hi 0 3)) rfl rfl 4 rfl (ison_t _) rfl rfl rfl (fun hg147 K148 hK148 => st_callv (vs := [.agg ⟨[.int .i64 b.burn1.lo, .int .i64 b.burn1.hi]⟩, .int .i64 0, .int .i64 3]) hs123 (.func _) ⟨((Ev.t 0 rfl).un hg147), (.const _), (.const _), trivial⟩ rfl rfl Tryd.call51 rfl (legal_v b.burn1.lo b.burn1.hi 0 3 _) hK148) fun _ _ hs124 => ?_; clear hs123
 refine sq rfl (st_and hs124 (gx := true) (gy := ((((((((((((((within b.bunker 1 99) && (within b.tank 1 99)) && (okSpan b.coal.lo b.coal.hi 0 b.bunker)) && (okSpan b.water.lo b.water.hi 0 b.tank)) && (within b.scoop 1 20)) && (within b.pail 1 20)) && (within b.mark 0 b.tank)) && (within b.lamp 0 60)) && (okSpan b.full.lo b.full.hi 0 60)) && (okSpan b.weak.lo b.weak.hi 0 60)) && (decide ((b.weak.lo : Int) ≤ b.full.lo))) && (decide ((b.weak.hi : Int) ≤ b.full.hi))) && (within (n : Int) 1 5)) && (okSpan b.burn0.lo b.burn0.hi 0 3)) && (okSpan b.drink0.lo b.drink0.hi 0 3)) (Ev.t 5 rfl) rfl (Ev.t 0 rfl) (fun h => h) rfl rfl fun _ _ hs125 => ?_); clear hs124
 refine sq rfl (st_move hs125 (Ev.t 0 rfl) rfl rfl fun _ _ hs126 => ?_); clear hs125
 refine sq_gv hs126 (gg := (((((((((((((((within b.bunker 1 99) && (within b.tank 1 99)) && (okSpan b.coal.lo b.coal.hi 0 b.bunker)) && (okSpan b.water.lo b.water.hi 0 b.tank)) && (within b.scoop 1 20)) && (within b.pail 1 20)) && (within b.mark 0 b.tank)) && (within b.lamp 0 60)) && (okSpan b.full.lo b.full.hi 0 60)) && (okSpan b.weak.lo b.weak.hi 0 60)) && (decide ((b.weak.lo : Int) ≤ b.full.lo))) && (decide ((b.weak.hi : Int) ≤ b.full.hi))) && (within (n : Int) 1 5)) && (okSpan b.burn0.lo b.burn0.hi 0 3)) && (okSpan b.drink0.lo b.drink0.hi 0 3)) && (okSpan b.burn1.lo b.burn1.hi 0 3)) (v := .int .i64 1) rfl rfl 0 rfl (ison_t _) rfl rfl rfl (fun hg149 K150 hK150 => st_move hs126 (Ev.t 10 rfl) rfl rfl hK150) fun _ _ hs127 => ?_; clear hs126
 refine sq_gv hs127 (gg := (((((((((((((((within b.bunker 1 99) && (within b.tank 1 99)) && (okSpan b.coal.lo b.coal.hi 0 b.bunker)) && (okSpan b.water.lo b.water.hi 0 b.tank)) && (within b.scoop 1 20)) && (within b.pail 1 20)) && (within b.mark 0 b.tank)) && (within b.lamp 0 60)) && (okSpan b.full.lo b.full.hi 0 60)) && (okSpan b.weak.lo b.weak.hi 0 60)) && (decide ((b.weak.lo : Int) ≤ b.full.lo))) && (decide ((b.weak.hi : Int) ≤ b.full.hi))) && (within (n : Int) 1 5)) && (okSpan b.burn0.lo b.burn0.hi 0 3)) && (okSpan b.drink0.lo b.drink0.hi 0 3)) && (okSpan b.burn1.lo b.burn1.hi 0 3)) (v := .pointer (some ⟨b2, 12, none⟩)) rfl rfl 1 rfl (ison_t _) rfl rfl rfl (fun hg151 K152 hK152 => st_field (o' := 12) hs127 (Ev.t 14 rfl) rfl rfl Tryd.runUnderlying27 rfl Tryd.sizeOf24 rfl rfl hK152) fun _ _ hs128 => ?_; clear hs127
 refine sq_gv hs128 (gg := (((((((((((((((within b.bunker 1 99) && (within b.tank 1 99)) && (okSpan b.coal.lo b.coal.hi 0 b.bunker)) && (okSpan b.water.lo b.water.hi 0 b.tank)) && (within b.scoop 1 20)) && (within b.pail 1 20)) && (within b.mark 0 b.tank)) && (within b.lamp 0 60)) && (okSpan b.full.lo b.full.hi 0 60)) && (okSpan b.weak.lo b.weak.hi 0 60)) && (decide ((b.weak.lo : Int) ≤ b.full.lo))) && (decide ((b.weak.hi : Int) ≤ b.full.hi))) && (within (n : Int) 1 5)) && (okSpan b.burn0.lo b.burn0.hi 0 3)) && (okSpan b.drink0.lo b.drink0.hi 0 3)) && (okSpan b.burn1.lo b.burn1.hi 0 3)) (v := .pointer (some ⟨b2, 14, none⟩)) rfl rfl 2 rfl (ison_t _) rfl rfl rfl (fun hg153 K154 hK154 => st_indexArr (o' := 14) hs128 ((Ev.t 0 rfl).un hg153) ((Ev.t 1 rfl).un hg153) rfl rfl Tryd.runUnderlying24 Tryd.sizeOf23 (by decide) rfl hK154) fun _ _ hs129 => ?_; clear hs128
 refine sq_gv hs129 (gg := (((((((((((((((within b.bunker 1 99) && (within b.tank 1 99)) && (okSpan b.coal.lo b.coal.hi 0 b.bunker)) && (okSpan b.water.lo b.water.hi 0 b.tank)) && (within b.scoop 1 20)) && (within b.pail 1 20)) && (within b.mark 0 b.tank)) && (within b.lamp 0 60)) && (okSpan b.full.lo b.full.hi 0 60)) && (okSpan b.weak.lo b.weak.hi 0 60)) && (decide ((b.weak.lo : Int) ≤ b.full.lo))) && (decide ((b.weak.hi : Int) ≤ b.full.hi))) && (within (n : Int) 1 5)) && (okSpan b.burn0.lo b.burn0.hi 0 3)) && (okSpan b.drink0.lo b.drink0.hi 0 3)) && (okSpan b.burn1.lo b.burn1.hi 0 3)) (v := .agg ⟨[.int .i64 b.drink1.lo, .int .i64 b.drink1.hi]⟩) rfl rfl 3 rfl (ison_t _) rfl rfl rfl (fun hg155 K156 hK156 => st_loadA (o := 0) (off := 14) (vs := [.int .i64 b.drink1.lo, .int .i64 b.drink1.hi]) hs129 ((Ev.t 0 rfl).un hg155) rfl rfl Tryd.isAgg23 Tryd.sizeOf23 (hs129.cells 0 rfl) rfl hK156) fun _ _ hs130 => ?_; clear hs129
 refine sq_gv hs130 (gg := (((((((((((((((within b.bunker 1 99) && (within b.tank 1 99)) && (okSpan b.coal.lo b.coal.hi 0 b.bunker)) && (okSpan b.water.lo b.water.hi 0 b.tank)) && (within b.scoop 1 20)) && (within b.pail 1 20)) && (within b.mark 0 b.tank)) && (within b.lamp 0 60)) && (okSpan b.full.lo b.full.hi 0 60)) && (okSpan b.weak.lo b.weak.hi 0 60)) && (decide ((b.weak.lo : Int) ≤ b.full.lo))) && (decide ((b.weak.hi : Int) ≤ b.full.hi))) && (within (n : Int) 1 5)) && (okSpan b.burn0.lo b.burn0.hi 0 3)) && (okSpan b.drink0.lo b.drink0.hi 0 3)) && (okSpan b.burn1.lo b.burn1.hi 0 3)) (v := .bool (okSpan b.drink1.lo b.drink1.hi 0 3)) rfl rfl 4 rfl (ison_t _) rfl rfl rfl (fun hg157 K158 hK158 => st_callv (vs := [.agg ⟨[.int .i64 b.drink1.lo, .int .i64 b.drink1.hi]⟩, .int .i64 0, .int .i64 3]) hs130 (.func _) ⟨((Ev.t 0 rfl).un hg157), (.const _), (.const _), trivial⟩ rfl rfl Tryd.call51 rfl (legal_v b.drink1.lo b.drink1.hi 0 3 _) hK158) fun _ _ hs131 => ?_; clear hs130
 refine sq rfl (st_and hs131 (gx := true) (gy := (((((((((((((((within b.bunker 1 99) && (within b.tank 1 99)) && (okSpan b.coal.lo b.coal.hi 0 b.bunker)) && (okSpan b.water.lo b.water.hi 0 b.tank)) && (within b.scoop 1 20)) && (within b.pail 1 20)) && (within b.mark 0 b.tank)) && (within b.lamp 0 60)) && (okSpan b.full.lo b.full.hi 0 60)) && (okSpan b.weak.lo b.weak.hi 0 60)) && (decide ((b.weak.lo : Int) ≤ b.full.lo))) && (decide ((b.weak.hi : Int) ≤ b.full.hi))) && (within (n : Int) 1 5)) && (okSpan b.burn0.lo b.burn0.hi 0 3)) && (okSpan b.drink0.lo b.drink0.hi 0 3)) && (okSpan b.burn1.lo b.burn1.hi 0 3)) (Ev.t 5 rfl) rfl (Ev.t 0 rfl) (fun h => h) rfl rfl fun _ _ hs132 => ?_); clear hs131
 have hs133 := Sx.keepT [0, 1, 2, 3, 4, 5, 6, 7, 8, 9, 10, 11, 12, 13, 14, 15, 16, 18, 19] [_, _, _, _, _, _, _, _, _, _, _, _, _, _, _, _, _, _, _] ⟨rfl, rfl, rfl, rfl, rfl, rfl, rfl, rfl, rfl, rfl, rfl, rfl, rfl, rfl, rfl, rfl, rfl, rfl, rfl, trivial⟩ hs132; clear hs132
 refine sq rfl (st_assign hs133 (Ev.t 0 rfl) rfl rfl fun _ _ hs134 => ?_); clear hs133
 refine wpListIn_nil ?_
 have hs135 := Sx.keepT [0, 17, 18, 19] [_, _, _, _] ⟨rfl, rfl, rfl, rfl, trivial⟩ hs134; clear hs134
 refine in_norm ?_
 refine th_norm (hK138 _ _ ?_)
 refine cd_region1 ?_
 refine sq rfl (st_move hs135 (Ev.t 1 rfl) rfl rfl fun _ _ hs136 => ?_); clear hs135
 refine sq rfl (st_add (z := 2) hs136 (Ev.t 0 rfl) (.const _) rfl rfl rfl (by omega) fun _ _ hs137 => ?_); clear hs136
 have hs138 := Sx.keepT [0, 1, 2, 4, 5] [_, _, _, _, _] ⟨rfl, rfl, rfl, rfl, rfl, trivial⟩ hs137; clear hs137
 refine sq rfl (st_assign hs138 (Ev.t 0 rfl) rfl rfl fun _ _ hs139 => ?_); clear hs138
 refine wpListIn_nil ?_
 have hs140 := Sx.keepT [0, 3, 4, 5] [_, _, _, _] ⟨rfl, rfl, rfl, rfl, trivial⟩ hs139; clear hs139
 refine th_norm (hK134 _ _ ?_); clear hK134
 refine cd_round fun K159 hK159 => ?_
 refine cd_seq fun K160 hK160 => ?_
 refine cd_region fun K161 hK161 => ?_
 refine sq rfl (st_move hs140 (Ev.t 0 rfl) rfl rfl fun _ _ hs141 => ?_); clear hs140
 refine sq rfl (st_cmp (c := decide ((2 : Int) < 2)) hs141 (Ev.t 0 rfl) (.const _) rfl rfl rfl rfl fun _ _ hs142 => ?_); clear hs141
 refine hK161 _ _ ?_; clear hK161
 have hs143 := Sx.keepT [0, 2, 3, 4, 5] [_, _, _, _, _] ⟨rfl, rfl, rfl, rfl, rfl, trivial⟩ hs142; clear hs142
 have hc162 : (decide ((2 : Int) < 2)) = false := by decide
 refine cd_cond hs143 (Ev.t 0 rfl) (fun h => absurd (hc162.symm.trans h) (by decide)) (fun _ => ?_)
 refine cd_exit ?_
 refine th_exit ?_
 refine th_exit ?_
 refine in_hit ?_
 refine th_norm (hK107 _ _ ?_)
 refine cd_seq fun K163 hK163 => ?_
 have hs144 := Sx.keepE [0, 1, 2, 3, 4] [(86, _), (4, _), (3, .bool (b.ok0 (n : Int))), (2, _), (1, _)] ⟨⟨_, rfl, rfl⟩, ⟨_, rfl, rfl⟩, ⟨_, rfl, (by congr 1; unfold Book.ok0; ac_rfl)⟩, ⟨_, rfl, rfl⟩, ⟨_, rfl, rfl⟩, trivial⟩ hs143; clear hs143
 refine cd_region fun K164 hK164 => ?_
 refine sq rfl (st_assign hs144 (.const _) rfl rfl fun _ _ hs145 => ?_); clear hs144
 refine hK164 _ _ ?_; clear hK164
 have hs146 := Sx.keepT [0, 3, 4, 5] [_, _, _, _] ⟨rfl, rfl, rfl, rfl, trivial⟩ hs145; clear hs145
 refine cd_block ?_
 have hs147 : Sx 132 [] [(5, .int .i64 (0 : Int)), (3, .bool (b.ok0 (n : Int) && (b.parts.take 0).all Part.ok)), (2, .int .i64 0), (1, .pointer (some ⟨b2, 0, none⟩))] [(b2, some (.cells ⟨(bookL b A n cp)⟩ 27 (0, 0)))] [] w _ _ := Sx.keepE [0, 1, 2, 3] _ ⟨⟨_, rfl, rfl⟩, ⟨_, rfl, by simp⟩, ⟨_, rfl, rfl⟩, ⟨_, rfl, rfl⟩, trivial⟩ hs146; clear hs146
 refine cd_loop (X := Nat) (fun i a_ w_ => (i ≤ n) ∧ Sx 132 [] [(5, .int .i64 (i : Int)), (3, .bool (b.ok0 (n : Int) && (b.parts.take i).all Part.ok)), (2, .int .i64 0), (1, .pointer (some ⟨b2, 0, none⟩))] [(b2, some (.cells ⟨(bookL b A n cp)⟩ 27 (0, 0)))] [] w a_ w_) (fun i => n - i) (0) ⟨?_, hs147⟩ ?_
 · first | omega | simp
 intro i a_148 w_148 ⟨hi, hs148⟩; clear hs147
 refine cd_seq fun K165 hK165 => ?_
 refine cd_region fun K166 hK166 => ?_
 refine sq rfl (st_move hs148 (Ev.t 1 rfl) rfl rfl fun _ _ hs149 => ?_); clear hs148
 refine sq rfl (st_move hs149 (Ev.t 0 rfl) rfl rfl fun _ _ hs150 => ?_); clear hs149
 refine sq_gv hs150 (gg := b.ok0 (n : Int) && (b.parts.take i).all Part.ok) (v := .int .i64 (i : Int)) rfl rfl 0 rfl (ison_t _) rfl rfl rfl (fun hg167 K168 hK168 => st_move hs150 (Ev.t 2 rfl) rfl rfl hK168) fun _ _ hs151 => ?_; clear hs150
 refine sq_gv hs151 (gg := b.ok0 (n : Int) && (b.parts.take i).all Part.ok) (v := .pointer (some ⟨b2, 22, none⟩)) rfl rfl 1 rfl (ison_t _) rfl rfl rfl (fun hg169 K170 hK170 => st_field (o' := 22) hs151 (Ev.t 6 rfl) rfl rfl Tryd.runUnderlying27 rfl Tryd.sizeOf25 rfl rfl hK170) fun _ _ hs152 => ?_; clear hs151
 refine sq_gv hs152 (gg := b.ok0 (n : Int) && (b.parts.take i).all Part.ok) (v := .slice A n cp) rfl rfl 2 rfl (ison_t _) rfl rfl rfl (fun hg171 K172 hK172 => st_load1 (o := 0) (off := 22) (v := .slice A n cp) hs152 ((Ev.t 0 rfl).un hg171) rfl rfl Tryd.isAgg25 (hs152.cells 0 rfl) rfl hK172) fun _ _ hs153 => ?_; clear hs152
 refine sq_gv hs153 (gg := b.ok0 (n : Int) && (b.parts.take i).all Part.ok) (v := .int .i64 (n : Int)) rfl rfl 3 rfl (ison_t _) rfl rfl rfl (fun hg173 K174 hK174 => st_len hs153 ((Ev.t 0 rfl).un hg173) rfl rfl Tryd.runUnderlying25 hK174) fun _ _ hs154 => ?_; clear hs153
 refine sq_gv hs154 (gg := b.ok0 (n : Int) && (b.parts.take i).all Part.ok) (v := .bool (decide (((i : Int) : Int) < (n : Int)))) rfl rfl 4 rfl (ison_t _) rfl rfl rfl (fun hg175 K176 hK176 => st_cmp (c := decide (((i : Int) : Int) < (n : Int))) hs154 ((Ev.t 3 rfl).un hg175) ((Ev.t 0 rfl).un hg175) rfl rfl rfl rfl hK176) fun _ _ hs155 => ?_; clear hs154
 refine sq rfl (st_and hs155 (gx := true) (gy := b.ok0 (n : Int) && (b.parts.take i).all Part.ok) (Ev.t 5 rfl) rfl (Ev.t 0 rfl) (fun h => h) rfl rfl fun _ _ hs156 => ?_); clear hs155
 refine hK166 _ _ ?_; clear hK166
 have hs157 := Sx.keepT [0, 8, 9, 10, 11] [_, _, _, _, _] ⟨rfl, rfl, rfl, rfl, rfl, trivial⟩ hs156; clear hs156
 refine cd_cond hs157 (Ev.t 0 rfl) (fun hc177 => ?_) (fun hc177 => ?_)
 · simp only [Bool.and_eq_true, decide_eq_true_eq] at hc177
   have hok1 : (b.ok0 (n : Int) && (b.parts.take i).all Part.ok) = true := by simp [hc177]
   refine cd_skip ?_
   refine th_norm (hK165 _ _ ?_)
   refine cd_seq fun K178 hK178 => ?_
   refine cd_block ?_
   refine cd_region1 ?_
   refine sq rfl (st_field (o' := 22) hs157 (Ev.t 4 rfl) rfl rfl Tryd.runUnderlying27 rfl Tryd.sizeOf25 rfl rfl fun _ _ hs158 => ?_); clear hs157
   refine sq rfl (st_load1 (o := 0) (off := 22) (v := .slice A n cp) hs158 (Ev.t 0 rfl) rfl rfl Tryd.isAgg25 (hs158.cells 0 rfl) rfl fun _ _ hs159 => ?_); clear hs158
   refine sq rfl (st_move hs159 (Ev.t 3 rfl) rfl rfl fun _ _ hs160 => ?_); clear hs159
   obtain ⟨x179, hx179⟩ : ∃ x, b.parts[i]? = some x := ⟨_, List.getElem?_eq_getElem (by have := hP.len; omega)⟩
   obtain ⟨b180, o180, hA180, -, hc180⟩ := hP.el i x179 hx179
   refine sq rfl (st_indexM (o' := o180 + i * 4) hs160 (Ev.t 1 rfl) (Ev.t 0 rfl) rfl rfl hA180 Tryd.runUnderlying25 Tryd.sizeOf66 ⟨by omega, by have := hP.len; have := (List.getElem?_eq_some_iff.1 hx179).1; omega⟩ rfl fun _ _ hs161 => ?_); clear hs160
   refine sq rfl (st_field (o' := o180 + i * 4) hs161 (Ev.t 0 rfl) rfl rfl Tryd.runUnderlying66 rfl Tryd.sizeOf23 rfl rfl fun _ _ hs162 => ?_); clear hs161
   refine sq rfl (st_loadA (o := o180 + i * 4) (off := 0) (vs := [.int .i64 x179.mi.lo, .int .i64 x179.mi.hi]) hs162 (Ev.t 0 rfl) rfl rfl Tryd.isAgg23 Tryd.sizeOf23 (hs162.old hc180 (by simp)) rfl fun _ _ hs163 => ?_); clear hs162
   refine sq rfl (st_callv (vs := [.agg ⟨[.int .i64 x179.mi.lo, .int .i64 x179.mi.hi]⟩, .int .i64 1, .int .i64 60]) hs163 (.func _) ⟨(Ev.t 0 rfl), (.const _), (.const _), trivial⟩ rfl rfl Tryd.call51 rfl (legal_v x179.mi.lo x179.mi.hi 1 60 _) fun _ _ hs164 => ?_); clear hs163
   refine sq rfl (st_move hs164 (Ev.t 0 rfl) rfl rfl fun _ _ hs165 => ?_); clear hs164
   refine sq_gv hs165 (gg := okSpan x179.mi.lo x179.mi.hi 1 60) (v := .pointer (some ⟨b2, 22, none⟩)) rfl rfl 0 rfl (ison_t _) rfl rfl rfl (fun hg181 K182 hK182 => st_field (o' := 22) hs165 (Ev.t 12 rfl) rfl rfl Tryd.runUnderlying27 rfl Tryd.sizeOf25 rfl rfl hK182) fun _ _ hs166 => ?_; clear hs165
   refine sq_gv hs166 (gg := okSpan x179.mi.lo x179.mi.hi 1 60) (v := .slice A n cp) rfl rfl 1 rfl (ison_t _) rfl rfl rfl (fun hg183 K184 hK184 => st_load1 (o := 0) (off := 22) (v := .slice A n cp) hs166 ((Ev.t 0 rfl).un hg183) rfl rfl Tryd.isAgg25 (hs166.cells 0 rfl) rfl hK184) fun _ _ hs167 => ?_; clear hs166
   refine sq_gv hs167 (gg := okSpan x179.mi.lo x179.mi.hi 1 60) (v := .int .i64 (i : Int)) rfl rfl 2 rfl (ison_t _) rfl rfl rfl (fun hg185 K186 hK186 => st_move hs167 (Ev.t 11 rfl) rfl rfl hK186) fun _ _ hs168 => ?_; clear hs167
   refine sq_gv hs168 (gg := okSpan x179.mi.lo x179.mi.hi 1 60) (v := .pointer (some ⟨b180, o180 + i * 4, none⟩)) rfl rfl 3 rfl (ison_t _) rfl rfl rfl (fun hg187 K188 hK188 => st_indexM (o' := o180 + i * 4) hs168 ((Ev.t 1 rfl).un hg187) ((Ev.t 0 rfl).un hg187) rfl rfl hA180 Tryd.runUnderlying25 Tryd.sizeOf66 ⟨by omega, by have := hP.len; have := (List.getElem?_eq_some_iff.1 hx179).1; omega⟩ rfl hK188) fun _ _ hs169 => ?_; clear hs168
   refine sq_gv hs169 (gg := okSpan x179.mi.lo x179.mi.hi 1 60) (v := .pointer (some ⟨b180, o180 + i * 4 + 3, none⟩)) rfl rfl 4 rfl (ison_t _) rfl rfl rfl (fun hg189 K190 hK190 => st_field (o' := o180 + i * 4 + 3) hs169 ((Ev.t 0 rfl).un hg189) rfl rfl Tryd.runUnderlying66 rfl Tryd.sizeOf3 rfl rfl hK190) fun _ _ hs170 => ?_; clear hs169
   refine sq_gv hs170 (gg := okSpan x179.mi.lo x179.mi.hi 1 60) (v := .int .i64 x179.walks) rfl rfl 5 rfl (ison_t _) rfl rfl rfl (fun hg191 K192 hK192 => st_load1 (o := o180 + i * 4) (off := 3) (v := .int .i64 x179.walks) hs170 ((Ev.t 0 rfl).un hg191) rfl rfl Tryd.isAgg3 (hs170.old hc180 (by simp)) rfl hK192) fun _ _ hs171 => ?_; clear hs170
   refine sq_gv hs171 (gg := okSpan x179.mi.lo x179.mi.hi 1 60) (v := .bool (within x179.walks 0 5)) rfl rfl 6 rfl (ison_t _) rfl rfl rfl (fun hg193 K194 hK194 => st_callv (vs := [.int .i64 x179.walks, .int .i64 0, .int .i64 5]) hs171 (.func _) ⟨((Ev.t 0 rfl).un hg193), (.const _), (.const _), trivial⟩ rfl rfl Tryd.call37 rfl (amid_v x179.walks 0 5 _) hK194) fun _ _ hs172 => ?_; clear hs171
   refine sq rfl (st_and hs172 (gx := true) (gy := okSpan x179.mi.lo x179.mi.hi 1 60) (Ev.t 7 rfl) rfl (Ev.t 0 rfl) (fun h => h) rfl rfl fun _ _ hs173 => ?_); clear hs172
   have hs174 := Sx.keepT [0, 1, 2, 3, 4, 5, 6, 7, 8, 9, 10, 11, 12, 13, 14, 15, 16, 17, 19, 20] [_, _, _, _, _, _, _, _, _, _, _, _, _, _, _, _, _, _, _, _] ⟨rfl, rfl, rfl, rfl, rfl, rfl, rfl, rfl, rfl, rfl, rfl, rfl, rfl, rfl, rfl, rfl, rfl, rfl, rfl, rfl, trivial⟩ hs173; clear hs173
   refine sq rfl (st_assign hs174 (Ev.t 0 rfl) rfl rfl fun _ _ hs175 => ?_); clear hs174
   refine wpListIn_nil ?_
   have hs176 := Sx.keepT [0, 18, 19, 20] [_, _, _, _] ⟨rfl, rfl, rfl, rfl, trivial⟩ hs175; clear hs175
   refine in_norm ?_
   refine th_norm (hK178 _ _ ?_)
   refine cd_region1 ?_
   refine sq rfl (st_move hs176 (Ev.t 1 rfl) rfl rfl fun _ _ hs177 => ?_); clear hs176
   refine sq rfl (st_add (z := (i : Int) + 1) hs177 (Ev.t 0 rfl) (.const _) rfl rfl rfl (by omega) fun _ _ hs178 => ?_); clear hs177
   have hs179 := Sx.keepT [0, 1, 2, 4, 5] [_, _, _, _, _] ⟨rfl, rfl, rfl, rfl, rfl, trivial⟩ hs178; clear hs178
   refine sq rfl (st_assign hs179 (Ev.t 0 rfl) rfl rfl fun _ _ hs180 => ?_); clear hs179
   refine wpListIn_nil ?_
   have hs181 := Sx.keepT [0, 3, 4, 5] [_, _, _, _] ⟨rfl, rfl, rfl, rfl, trivial⟩ hs180; clear hs180
   refine ⟨i + 1, ⟨?_, ?_⟩, by omega⟩
   · first | omega | (simp; done) | (simp; omega)
   exact Sx.keepE [0, 1, 2, 3] _ ⟨⟨_, rfl, rfl⟩, ⟨_, rfl, by rw [all_snoc hx179, ← Bool.and_assoc, hok1]; simp [Part.ok]⟩, ⟨_, rfl, rfl⟩, ⟨_, rfl, rfl⟩, trivial⟩ hs181
 · have hall : (b.ok0 (n : Int) && (b.parts.take i).all Part.ok) = b.ok := by
     have h9 := hc177
     rw [hl0] at h9 ⊢
     unfold Book.ok
     cases h0 : b.ok0 (b.parts.length : Int) with
     | false => simp
     | true =>
       rw [h0] at h9
       simp only [Bool.true_and] at h9 ⊢
       exact take_done rfl h9
   refine cd_exit ?_
   refine th_exit ?_
   refine th_exit ?_
   refine in_hit ?_
   refine th_norm (hK163 _ _ ?_)
   refine cd_seq fun K195 hK195 => ?_
   refine cd_region fun K196 hK196 => ?_
   refine sq rfl (st_move hs157 (Ev.t 2 rfl) rfl rfl fun _ _ hs158 => ?_); clear hs157
   refine sq rfl (st_not hs158 (Ev.t 0 rfl) rfl rfl fun _ _ hs159 => ?_); clear hs158
   refine hK196 _ _ ?_; clear hK196
   have hs160 := Sx.keepT [0, 5] [_, _] ⟨rfl, rfl, trivial⟩ hs159; clear hs159
   refine cd_cond hs160 (Ev.t 0 rfl) (fun hc197 => ?_) (fun hc197 => ?_)
   · refine cd_region fun K198 hK198 => ?_
     have hs161 := Sx.keepT [0] [_] ⟨rfl, trivial⟩ hs160; clear hs160
     refine sq rfl (st_assign hs161 (.const _) rfl rfl fun _ _ hs162 => ?_); clear hs161
     refine hK198 _ _ ?_; clear hK198
     have hs163 := Sx.keepT [0] [_] ⟨rfl, trivial⟩ hs162; clear hs162
     refine cd_retv (vs := [.int .i64 40]) hs163 (fun a_ w_ h => th_ret (hQ0 a_ w_ h)) rfl ⟨.tmp 0 rfl, trivial⟩ ?_
     clear hs163 hQ0 hN0 hK195
     simp_all [pack]
   · refine cd_skip ?_
     refine th_norm (hK195 _ _ ?_)
     refine cd_region fun K199 hK199 => ?_
     have hs161 := Sx.keepT [0] [_] ⟨rfl, trivial⟩ hs160; clear hs160
     refine sq rfl (st_assign hs161 (.const _) rfl rfl fun _ _ hs162 => ?_); clear hs161
     refine hK199 _ _ ?_; clear hK199
     have hs163 := Sx.keepT [0] [_] ⟨rfl, trivial⟩ hs162; clear hs162
     refine cd_retv (vs := [.int .i64 0]) hs163 hQ0 rfl ⟨.tmp 0 rfl, trivial⟩ ?_
     clear hs163 hQ0 hN0
     simp_all [pack]

theorem risPlan_v (b : Book) (A : Option Addr) (n cp : Nat) (A2 : Option Addr) (m c2 : Nat) (plan : List Walks) (w : World) (hP : PartsAt w A n b.parts) (hn : n ≤ 140737488351232) (hL : PlanAt w A2 m plan) (_hm : m ≤ 140737488351232) (hb : Bd b) :
    CallsV Tryd.prog 54 [.agg ⟨(bookL b A n cp)⟩, .slice A2 m c2] w (.bool (b.isPlan plan)) := by
 refine enter (N := 55) (M := []) w Tryd.func54 rfl rfl rfl (fun Q0 a_0 hQ0 hN0 hs0 => ?_)
 refine cd_region fun K1 hK1 => ?_
 refine sq rfl (st_box hs0 (Ev.t 0 rfl) rfl rfl rfl fun b2 _ _ hs1 => ?_); clear hs0
 refine sq rfl (st_assign hs1 (.const _) rfl rfl fun _ _ hs2 => ?_); clear hs1
 refine hK1 _ _ ?_; clear hK1
 have hs3 := Sx.keepT [0, 1, 3] [_, _, _] ⟨rfl, rfl, rfl, trivial⟩ hs2; clear hs2
 refine cd_region fun K3 hK3 => ?_
 refine sq rfl (st_move hs3 (Ev.t 2 rfl) rfl rfl fun _ _ hs4 => ?_); clear hs3
 refine sq rfl (st_len hs4 (Ev.t 0 rfl) rfl rfl Tryd.runUnderlying28 fun _ _ hs5 => ?_); clear hs4
 refine sq rfl (st_field (o' := 22) hs5 (Ev.t 3 rfl) rfl rfl Tryd.runUnderlying27 rfl Tryd.sizeOf25 rfl rfl fun _ _ hs6 => ?_); clear hs5
 refine sq rfl (st_load1 (o := 0) (off := 22) (v := .slice A n cp) hs6 (Ev.t 0 rfl) rfl rfl Tryd.isAgg25 (hs6.cells 0 rfl) rfl fun _ _ hs7 => ?_); clear hs6
 refine sq rfl (st_len hs7 (Ev.t 0 rfl) rfl rfl Tryd.runUnderlying25 fun _ _ hs8 => ?_); clear hs7
 refine sq rfl (st_cmp (c := ((m : Int) : Int) == (n : Int)) hs8 (Ev.t 3 rfl) (Ev.t 0 rfl) rfl rfl rfl rfl fun _ _ hs9 => ?_); clear hs8
 refine sq rfl (st_assign hs9 (Ev.t 0 rfl) rfl rfl fun _ _ hs10 => ?_); clear hs9
 refine hK3 _ _ ?_; clear hK3
 have hs11 := Sx.keepT [0, 7, 8, 9] [_, _, _, _] ⟨rfl, rfl, rfl, rfl, trivial⟩ hs10; clear hs10
 by_cases hlen : (m : Int) = (n : Int)
 · skip
   have hl1 := hL.len; have hl2 := hP.len; have hz : (plan.zip b.parts).length = m := by rw [List.length_zip]; omega
   have hs12 := Sx.keepE [0, 1, 2, 3] [(5, .bool (((plan.zip b.parts).take 0).all (fun q => okWalks q.2 q.1))), (4, _), (2, _), (1, _)] ⟨⟨_, rfl, by simp [hlen]⟩, ⟨_, rfl, rfl⟩, ⟨_, rfl, rfl⟩, ⟨_, rfl, rfl⟩, trivial⟩ hs11; clear hs11
   refine cd_seq fun K4 hK4 => ?_
   refine cd_region fun K5 hK5 => ?_
   refine sq rfl (st_assign hs12 (.const _) rfl rfl fun _ _ hs13 => ?_); clear hs12
   refine hK5 _ _ ?_; clear hK5
   refine cd_block ?_
   have hs14 : Sx 55 [] [(6, .int .i64 (0 : Int)), (5, .bool (((plan.zip b.parts).take 0).all (fun q => okWalks q.2 q.1))), (4, .bool false), (2, .pointer (some ⟨b2, 0, none⟩)), (1, .slice A2 m c2)] [(b2, some (.cells ⟨(bookL b A n cp)⟩ 27 (0, 0)))] [] w _ _ := Sx.keepE [0, 1, 2, 3, 4] _ ⟨⟨_, rfl, rfl⟩, ⟨_, rfl, rfl⟩, ⟨_, rfl, rfl⟩, ⟨_, rfl, rfl⟩, ⟨_, rfl, rfl⟩, trivial⟩ hs13; clear hs13
   refine cd_loop (X := Nat) (fun i a_ w_ => (i ≤ m) ∧ Sx 55 [] [(6, .int .i64 (i : Int)), (5, .bool (((plan.zip b.parts).take i).all (fun q => okWalks q.2 q.1))), (4, .bool false), (2, .pointer (some ⟨b2, 0, none⟩)), (1, .slice A2 m c2)] [(b2, some (.cells ⟨(bookL b A n cp)⟩ 27 (0, 0)))] [] w a_ w_) (fun i => m - i) (0) ⟨?_, hs14⟩ ?_
   · first | omega | simp
   intro i a_15 w_15 ⟨hi, hs15⟩; clear hs14
   refine cd_seq fun K6 hK6 => ?_
   refine cd_region fun K7 hK7 => ?_
   refine sq rfl (st_move hs15 (Ev.t 1 rfl) rfl rfl fun _ _ hs16 => ?_); clear hs15
   refine sq rfl (st_move hs16 (Ev.t 0 rfl) rfl rfl fun _ _ hs17 => ?_); clear hs16
   refine sq_gv hs17 (gg := ((plan.zip b.parts).take i).all (fun q => okWalks q.2 q.1)) (v := .int .i64 (i : Int)) rfl rfl 0 rfl (ison_t _) rfl rfl rfl (fun hg8 K9 hK9 => st_move hs17 (Ev.t 2 rfl) rfl rfl hK9) fun _ _ hs18 => ?_; clear hs17
   refine sq_gv hs18 (gg := ((plan.zip b.parts).take i).all (fun q => okWalks q.2 q.1)) (v := .slice A2 m c2) rfl rfl 1 rfl (ison_t _) rfl rfl rfl (fun hg10 K11 hK11 => st_move hs18 (Ev.t 7 rfl) rfl rfl hK11) fun _ _ hs19 => ?_; clear hs18
   refine sq_gv hs19 (gg := ((plan.zip b.parts).take i).all (fun q => okWalks q.2 q.1)) (v := .int .i64 (m : Int)) rfl rfl 2 rfl (ison_t _) rfl rfl rfl (fun hg12 K13 hK13 => st_len hs19 ((Ev.t 0 rfl).un hg12) rfl rfl Tryd.runUnderlying28 hK13) fun _ _ hs20 => ?_; clear hs19
   refine sq_gv hs20 (gg := ((plan.zip b.parts).take i).all (fun q => okWalks q.2 q.1)) (v := .bool (decide (((i : Int) : Int) < (m : Int)))) rfl rfl 3 rfl (ison_t _) rfl rfl rfl (fun hg14 K15 hK15 => st_cmp (c := decide (((i : Int) : Int) < (m : Int))) hs20 ((Ev.t 2 rfl).un hg14) ((Ev.t 0 rfl).un hg14) rfl rfl rfl rfl hK15) fun _ _ hs21 => ?_; clear hs20
   refine sq rfl (st_and hs21 (gx := true) (gy := ((plan.zip b.parts).take i).all (fun q => okWalks q.2 q.1)) (Ev.t 4 rfl) rfl (Ev.t 0 rfl) (fun h => h) rfl rfl fun _ _ hs22 => ?_); clear hs21
   refine hK7 _ _ ?_; clear hK7
   have hs23 := Sx.keepT [0, 7, 8, 9, 10, 11] [_, _, _, _, _, _] ⟨rfl, rfl, rfl, rfl, rfl, rfl, trivial⟩ hs22; clear hs22
   refine cd_cond hs23 (Ev.t 0 rfl) (fun hc16 => ?_) (fun hc16 => ?_)
   · simp only [Bool.and_eq_true, decide_eq_true_eq] at hc16
     have hok1 := hc16.1
     have hi2 := hc16.2
     obtain ⟨x17, hx17⟩ : ∃ x, plan[i]? = some x := ⟨_, List.getElem?_eq_getElem (by have := hL.len; omega)⟩
     obtain ⟨b18, o18, hA18, -, hc18⟩ := hL.el i x17 hx17
     obtain ⟨x19, hx19⟩ : ∃ x, b.parts[i]? = some x := ⟨_, List.getElem?_eq_getElem (by have := hP.len; omega)⟩
     obtain ⟨b20, o20, hA20, -, hc20⟩ := hP.el i x19 hx19
     refine cd_skip ?_
     refine th_norm (hK6 _ _ ?_)
     refine cd_seq fun K21 hK21 => ?_
     refine cd_block ?_
     refine cd_drawn1 mixed hs23 [⟨22, [], Is (.slice A2 m c2)⟩,
      ⟨23, [], Is (.int .i64 (i : Int))⟩,
      ⟨24, [0, 1], Is (.pointer (some ⟨b18, o18 + i * 2, none⟩))⟩,
      ⟨25, [2], Is (.pointer (some ⟨b18, o18 + i * 2, none⟩))⟩,
      ⟨26, [3], Is (.int .i64 x17.c)⟩,
      ⟨27, [], Is (.pointer (some ⟨b2, 22, none⟩))⟩,
      ⟨28, [5], Is (.slice A n cp)⟩,
      ⟨29, [], Is (.int .i64 (i : Int))⟩,
      ⟨30, [6, 7], Is (.pointer (some ⟨b20, o20 + i * 4, none⟩))⟩,
      ⟨31, [8], Is (.pointer (some ⟨b20, o20 + i * 4 + 3, none⟩))⟩,
      ⟨32, [9], Is (.int .i64 x19.walks)⟩,
      ⟨33, [4, 10], Is (.bool (within x17.c 0 x19.walks))⟩,
      ⟨34, [11], Is (.bool (within x17.c 0 x19.walks))⟩,
      ⟨35, [12], Is (Gv (within x17.c 0 x19.walks) (.slice A2 m c2))⟩,
      ⟨36, [12], Is (Gv (within x17.c 0 x19.walks) (.int .i64 (i : Int)))⟩,
      ⟨37, [12, 13, 14], Is (Gv (within x17.c 0 x19.walks) (.pointer (some ⟨b18, o18 + i * 2, none⟩)))⟩,
      ⟨38, [12, 15], Is (Gv (within x17.c 0 x19.walks) (.pointer (some ⟨b18, o18 + i * 2 + 1, none⟩)))⟩,
      ⟨39, [12, 16], Is (Gv (within x17.c 0 x19.walks) (.int .i64 x17.w))⟩,
      ⟨40, [12], Is (Gv (within x17.c 0 x19.walks) (.pointer (some ⟨b2, 22, none⟩)))⟩,
      ⟨41, [12, 18], Is (Gv (within x17.c 0 x19.walks) (.slice A n cp))⟩,
      ⟨42, [12], Is (Gv (within x17.c 0 x19.walks) (.int .i64 (i : Int)))⟩,
      ⟨43, [12, 19, 20], Is (Gv (within x17.c 0 x19.walks) (.pointer (some ⟨b20, o20 + i * 4, none⟩)))⟩,
      ⟨44, [12, 21], Is (Gv (within x17.c 0 x19.walks) (.pointer (some ⟨b20, o20 + i * 4 + 3, none⟩)))⟩,
      ⟨45, [12, 22], Is (Gv (within x17.c 0 x19.walks) (.int .i64 x19.walks))⟩,
      ⟨46, [12], Is (Gv (within x17.c 0 x19.walks) (.slice A2 m c2))⟩,
      ⟨47, [12], Is (Gv (within x17.c 0 x19.walks) (.int .i64 (i : Int)))⟩,
      ⟨48, [12, 24, 25], Is (Gv (within x17.c 0 x19.walks) (.pointer (some ⟨b18, o18 + i * 2, none⟩)))⟩,
      ⟨49, [12, 26], Is (Gv (within x17.c 0 x19.walks) (.pointer (some ⟨b18, o18 + i * 2, none⟩)))⟩,
      ⟨50, [12, 27], Is (Gv (within x17.c 0 x19.walks) (.int .i64 x17.c))⟩,
      ⟨51, [12, 23, 28], Is (Gv (within x17.c 0 x19.walks) (.int .i64 (x19.walks - x17.c)))⟩,
      ⟨52, [12, 17, 29], Is (Gv (within x17.c 0 x19.walks) (.bool (within x17.w 0 (x19.walks - x17.c))))⟩,
      ⟨53, [12, 30], Is (.bool ((within x17.c 0 x19.walks) && (within x17.w 0 (x19.walks - x17.c))))⟩] (by kernel_rfl) (by kernel_rfl) ⟨⟨?_, ?_, ?_, ?_, ?_, ?_, ?_, ?_, ?_, ?_, ?_, ?_, ?_, ?_, ?_, ?_, ?_, ?_, ?_, ?_, ?_, ?_, ?_, ?_, ?_, ?_, ?_, ?_, ?_, ?_, ?_, ?_, trivial⟩, ?_⟩
     · intro T_ B_ a_ w_ K_ hT hB
       intro hf hsD hk
       exact ob rfl rfl (st_move hsD (Ev.tmp (hT _ (mem_nth (i := 5) rfl))) rfl hf fun a_1 w_1 h1 => hk _ _ _ _ ⟨rfl, rfl⟩ h1)
     · intro T_ B_ a_ w_ K_ hT hB
       intro hf hsD hk
       exact ob rfl rfl (st_move hsD (Ev.tmp (hT _ (mem_nth (i := 1) rfl))) rfl hf fun a_1 w_1 h1 => hk _ _ _ _ ⟨rfl, rfl⟩ h1)
     · intro T_ B_ a_ w_ K_ hT hB
       rintro _ _ ⟨rfl, rfl⟩ h22 -
       rintro _ _ ⟨rfl, rfl⟩ h23 -
       intro hf hsD hk
       exact ob rfl rfl (st_indexM (o' := o18 + i * 2) hsD (Ev.tmp h22) (Ev.tmp h23) rfl hf hA18 Tryd.runUnderlying28 Tryd.sizeOf64 ⟨by omega, by have := hL.len; have := (List.getElem?_eq_some_iff.1 hx17).1; omega⟩ rfl fun a_1 w_1 h1 => hk _ _ _ _ ⟨rfl, rfl⟩ h1)
     · intro T_ B_ a_ w_ K_ hT hB
       rintro _ _ ⟨rfl, rfl⟩ h24 -
       intro hf hsD hk
       exact ob rfl rfl (st_field (o' := o18 + i * 2) hsD (Ev.tmp h24) rfl hf Tryd.runUnderlying64 rfl Tryd.sizeOf3 rfl rfl fun a_1 w_1 h1 => hk _ _ _ _ ⟨rfl, rfl⟩ h1)
     · intro T_ B_ a_ w_ K_ hT hB
       rintro _ _ ⟨rfl, rfl⟩ h25 -
       intro hf hsD hk
       exact ob rfl rfl (st_load1 (o := o18 + i * 2) (off := 0) (v := .int .i64 x17.c) hsD (Ev.tmp h25) rfl hf Tryd.isAgg3 (hsD.old hc18 (by simp)) rfl fun a_1 w_1 h1 => hk _ _ _ _ ⟨rfl, rfl⟩ h1)
     · intro T_ B_ a_ w_ K_ hT hB
       intro hf hsD hk
       exact ob rfl rfl (st_field (o' := 22) hsD (Ev.tmp (hT _ (mem_nth (i := 4) rfl))) rfl hf Tryd.runUnderlying27 rfl Tryd.sizeOf25 rfl rfl fun a_1 w_1 h1 => hk _ _ _ _ ⟨rfl, rfl⟩ h1)
     · intro T_ B_ a_ w_ K_ hT hB
       rintro _ _ ⟨rfl, rfl⟩ h27 -
       intro hf hsD hk
       exact ob rfl rfl (st_load1 (o := 0) (off := 22) (v := .slice A n cp) hsD (Ev.tmp h27) rfl hf Tryd.isAgg25 (hsD.cellsM (hB _ (mem_nth (i := 0) rfl))) rfl fun a_1 w_1 h1 => hk _ _ _ _ ⟨rfl, rfl⟩ h1)
     · intro T_ B_ a_ w_ K_ hT hB
       intro hf hsD hk
       exact ob rfl rfl (st_move hsD (Ev.tmp (hT _ (mem_nth (i := 1) rfl))) rfl hf fun a_1 w_1 h1 => hk _ _ _ _ ⟨rfl, rfl⟩ h1)
     · intro T_ B_ a_ w_ K_ hT hB
       rintro _ _ ⟨rfl, rfl⟩ h28 -
       rintro _ _ ⟨rfl, rfl⟩ h29 -
       intro hf hsD hk
       exact ob rfl rfl (st_indexM (o' := o20 + i * 4) hsD (Ev.tmp h28) (Ev.tmp h29) rfl hf hA20 Tryd.runUnderlying25 Tryd.sizeOf66 ⟨by omega, by have := hP.len; have := (List.getElem?_eq_some_iff.1 hx19).1; omega⟩ rfl fun a_1 w_1 h1 => hk _ _ _ _ ⟨rfl, rfl⟩ h1)
     · intro T_ B_ a_ w_ K_ hT hB
       rintro _ _ ⟨rfl, rfl⟩ h30 -
       intro hf hsD hk
       exact ob rfl rfl (st_field (o' := o20 + i * 4 + 3) hsD (Ev.tmp h30) rfl hf Tryd.runUnderlying66 rfl Tryd.sizeOf3 rfl rfl fun a_1 w_1 h1 => hk _ _ _ _ ⟨rfl, rfl⟩ h1)
     · intro T_ B_ a_ w_ K_ hT hB
       rintro _ _ ⟨rfl, rfl⟩ h31 -
       intro hf hsD hk
       exact ob rfl rfl (st_load1 (o := o20 + i * 4) (off := 3) (v := .int .i64 x19.walks) hsD (Ev.tmp h31) rfl hf Tryd.isAgg3 (hsD.old hc20 (by simp)) rfl fun a_1 w_1 h1 => hk _ _ _ _ ⟨rfl, rfl⟩ h1)
     · intro T_ B_ a_ w_ K_ hT hB
       rintro _ _ ⟨rfl, rfl⟩ h26 -
       rintro _ _ ⟨rfl, rfl⟩ h32 -
       intro hf hsD hk
       exact ob rfl rfl (st_callv (vs := [.int .i64 x17.c, .int .i64 0, .int .i64 x19.walks]) hsD (.func _) ⟨(Ev.tmp h26), (.const _), (Ev.tmp h32), trivial⟩ rfl hf Tryd.call37 rfl (amid_v x17.c 0 x19.walks _) fun a_1 w_1 h1 => hk _ _ _ _ ⟨rfl, rfl⟩ h1)
     · intro T_ B_ a_ w_ K_ hT hB
       rintro _ _ ⟨rfl, rfl⟩ h33 -
       intro hf hsD hk
       exact ob rfl rfl (st_move hsD (Ev.tmp h33) rfl hf fun a_1 w_1 h1 => hk _ _ _ _ ⟨rfl, rfl⟩ h1)
     · intro T_ B_ a_ w_ K_ hT hB
       rintro _ _ ⟨rfl, rfl⟩ h34 -
       intro hf hsD hk
       exact ob_gv hsD (gg := within x17.c 0 x19.walks) (v := .slice A2 m c2) rfl rfl rfl h34 (ison_t _) rfl rfl hf (fun hg K1 hK1 => st_move hsD (Ev.tmp (hT _ (mem_nth (i := 5) rfl))) rfl hf hK1) fun a_1 w_1 h1 => hk _ _ _ _ ⟨rfl, rfl⟩ h1
     · intro T_ B_ a_ w_ K_ hT hB
       rintro _ _ ⟨rfl, rfl⟩ h34 -
       intro hf hsD hk
       exact ob_gv hsD (gg := within x17.c 0 x19.walks) (v := .int .i64 (i : Int)) rfl rfl rfl h34 (ison_t _) rfl rfl hf (fun hg K1 hK1 => st_move hsD (Ev.tmp (hT _ (mem_nth (i := 1) rfl))) rfl hf hK1) fun a_1 w_1 h1 => hk _ _ _ _ ⟨rfl, rfl⟩ h1
     · intro T_ B_ a_ w_ K_ hT hB
       rintro _ _ ⟨rfl, rfl⟩ h34 -
       rintro _ _ ⟨rfl, rfl⟩ h35 -
       rintro _ _ ⟨rfl, rfl⟩ h36 -
       intro hf hsD hk
       exact ob_gv hsD (gg := within x17.c 0 x19.walks) (v := .pointer (some ⟨b18, o18 + i * 2, none⟩)) rfl rfl rfl h34 (ison_t _) rfl rfl hf (fun hg K1 hK1 => st_indexM (o' := o18 + i * 2) hsD ((Ev.tmp h35).un hg) ((Ev.tmp h36).un hg) rfl hf hA18 Tryd.runUnderlying28 Tryd.sizeOf64 ⟨by omega, by have := hL.len; have := (List.getElem?_eq_some_iff.1 hx17).1; omega⟩ rfl hK1) fun a_1 w_1 h1 => hk _ _ _ _ ⟨rfl, rfl⟩ h1
     · intro T_ B_ a_ w_ K_ hT hB
       rintro _ _ ⟨rfl, rfl⟩ h34 -
       rintro _ _ ⟨rfl, rfl⟩ h37 -
       intro hf hsD hk
       exact ob_gv hsD (gg := within x17.c 0 x19.walks) (v := .pointer (some ⟨b18, o18 + i * 2 + 1, none⟩)) rfl rfl rfl h34 (ison_t _) rfl rfl hf (fun hg K1 hK1 => st_field (o' := o18 + i * 2 + 1) hsD ((Ev.tmp h37).un hg) rfl hf Tryd.runUnderlying64 rfl Tryd.sizeOf3 rfl rfl hK1) fun a_1 w_1 h1 => hk _ _ _ _ ⟨rfl, rfl⟩ h1
     · intro T_ B_ a_ w_ K_ hT hB
       rintro _ _ ⟨rfl, rfl⟩ h34 -
       rintro _ _ ⟨rfl, rfl⟩ h38 -
       intro hf hsD hk
       exact ob_gv hsD (gg := within x17.c 0 x19.walks) (v := .int .i64 x17.w) rfl rfl rfl h34 (ison_t _) rfl rfl hf (fun hg K1 hK1 => st_load1 (o := o18 + i * 2) (off := 1) (v := .int .i64 x17.w) hsD ((Ev.tmp h38).un hg) rfl hf Tryd.isAgg3 (hsD.old hc18 (by simp)) rfl hK1) fun a_1 w_1 h1 => hk _ _ _ _ ⟨rfl, rfl⟩ h1
     · intro T_ B_ a_ w_ K_ hT hB
       rintro _ _ ⟨rfl, rfl⟩ h34 -
       intro hf hsD hk
       exact ob_gv hsD (gg := within x17.c 0 x19.walks) (v := .pointer (some ⟨b2, 22, none⟩)) rfl rfl rfl h34 (ison_t _) rfl rfl hf (fun hg K1 hK1 => st_field (o' := 22) hsD (Ev.tmp (hT _ (mem_nth (i := 4) rfl))) rfl hf Tryd.runUnderlying27 rfl Tryd.sizeOf25 rfl rfl hK1) fun a_1 w_1 h1 => hk _ _ _ _ ⟨rfl, rfl⟩ h1
     · intro T_ B_ a_ w_ K_ hT hB
       rintro _ _ ⟨rfl, rfl⟩ h34 -
       rintro _ _ ⟨rfl, rfl⟩ h40 -
       intro hf hsD hk
       exact ob_gv hsD (gg := within x17.c 0 x19.walks) (v := .slice A n cp) rfl rfl rfl h34 (ison_t _) rfl rfl hf (fun hg K1 hK1 => st_load1 (o := 0) (off := 22) (v := .slice A n cp) hsD ((Ev.tmp h40).un hg) rfl hf Tryd.isAgg25 (hsD.cellsM (hB _ (mem_nth (i := 0) rfl))) rfl hK1) fun a_1 w_1 h1 => hk _ _ _ _ ⟨rfl, rfl⟩ h1
     · intro T_ B_ a_ w_ K_ hT hB
       rintro _ _ ⟨rfl, rfl⟩ h34 -
       intro hf hsD hk
       exact ob_gv hsD (gg := within x17.c 0 x19.walks) (v := .int .i64 (i : Int)) rfl rfl rfl h34 (ison_t _) rfl rfl hf (fun hg K1 hK1 => st_move hsD (Ev.tmp (hT _ (mem_nth (i := 1) rfl))) rfl hf hK1) fun a_1 w_1 h1 => hk _ _ _ _ ⟨rfl, rfl⟩ h1
     · intro T_ B_ a_ w_ K_ hT hB
       rintro _ _ ⟨rfl, rfl⟩ h34 -
       rintro _ _ ⟨rfl, rfl⟩ h41 -
       rintro _ _ ⟨rfl, rfl⟩ h42 -
       intro hf hsD hk
       exact ob_gv hsD (gg := within x17.c 0 x19.walks) (v := .pointer (some ⟨b20, o20 + i * 4, none⟩)) rfl rfl rfl h34 (ison_t _) rfl rfl hf (fun hg K1 hK1 => st_indexM (o' := o20 + i * 4) hsD ((Ev.tmp h41).un hg) ((Ev.tmp h42).un hg) rfl hf hA20 Tryd.runUnderlying25 Tryd.sizeOf66 ⟨by omega, by have := hP.len; have := (List.getElem?_eq_some_iff.1 hx19).1; omega⟩ rfl hK1) fun a_1 w_1 h1 => hk _ _ _ _ ⟨rfl, rfl⟩ h1
     · intro T_ B_ a_ w_ K_ hT hB
       rintro _ _ ⟨rfl, rfl⟩ h34 -
       rintro _ _ ⟨rfl, rfl⟩ h43 -
       intro hf hsD hk
       exact ob_gv hsD (gg := within x17.c 0 x19.walks) (v := .pointer (some ⟨b20, o20 + i * 4 + 3, none⟩)) rfl rfl rfl h34 (ison_t _) rfl rfl hf (fun hg K1 hK1 => st_field (o' := o20 + i * 4 + 3) hsD ((Ev.tmp h43).un hg) rfl hf Tryd.runUnderlying66 rfl Tryd.sizeOf3 rfl rfl hK1) fun a_1 w_1 h1 => hk _ _ _ _ ⟨rfl, rfl⟩ h1
     · intro T_ B_ a_ w_ K_ hT hB
       rintro _ _ ⟨rfl, rfl⟩ h34 -
       rintro _ _ ⟨rfl, rfl⟩ h44 -
       intro hf hsD hk
       exact ob_gv hsD (gg := within x17.c 0 x19.walks) (v := .int .i64 x19.walks) rfl rfl rfl h34 (ison_t _) rfl rfl hf (fun hg K1 hK1 => st_load1 (o := o20 + i * 4) (off := 3) (v := .int .i64 x19.walks) hsD ((Ev.tmp h44).un hg) rfl hf Tryd.isAgg3 (hsD.old hc20 (by simp)) rfl hK1) fun a_1 w_1 h1 => hk _ _ _ _ ⟨rfl, rfl⟩ h1
     · intro T_ B_ a_ w_ K_ hT hB
       rintro _ _ ⟨rfl, rfl⟩ h34 -
       intro hf hsD hk
       exact ob_gv hsD (gg := within x17.c 0 x19.walks) (v := .slice A2 m c2) rfl rfl rfl h34 (ison_t _) rfl rfl hf (fun hg K1 hK1 => st_move hsD (Ev.tmp (hT _ (mem_nth (i := 5) rfl))) rfl hf hK1) fun a_1 w_1 h1 => hk _ _ _ _ ⟨rfl, rfl⟩ h1
     · intro T_ B_ a_ w_ K_ hT hB
       rintro _ _ ⟨rfl, rfl⟩ h34 -
       intro hf hsD hk
       exact ob_gv hsD (gg := within x17.c 0 x19.walks) (v := .int .i64 (i : Int)) rfl rfl rfl h34 (ison_t _) rfl rfl hf (fun hg K1 hK1 => st_move hsD (Ev.tmp (hT _ (mem_nth (i := 1) rfl))) rfl hf hK1) fun a_1 w_1 h1 => hk _ _ _ _ ⟨rfl, rfl⟩ h1
     · intro T_ B_ a_ w_ K_ hT hB
       rintro _ _ ⟨rfl, rfl⟩ h34 -
       rintro _ _ ⟨rfl, rfl⟩ h46 -
       rintro _ _ ⟨rfl, rfl⟩ h47 -
       intro hf hsD hk
       exact ob_gv hsD (gg := within x17.c 0 x19.walks) (v := .pointer (some ⟨b18, o18 + i * 2, none⟩)) rfl rfl rfl h34 (ison_t _) rfl rfl hf (fun hg K1 hK1 => st_indexM (o' := o18 + i * 2) hsD ((Ev.tmp h46).un hg) ((Ev.tmp h47).un hg) rfl hf hA18 Tryd.runUnderlying28 Tryd.sizeOf64 ⟨by omega, by have := hL.len; have := (List.getElem?_eq_some_iff.1 hx17).1; omega⟩ rfl hK1) fun a_1 w_1 h1 => hk _ _ _ _ ⟨rfl, rfl⟩ h1
     · intro T_ B_ a_ w_ K_ hT hB
       rintro _ _ ⟨rfl, rfl⟩ h34 -
       rintro _ _ ⟨rfl, rfl⟩ h48 -
       intro hf hsD hk
       exact ob_gv hsD (gg := within x17.c 0 x19.walks) (v := .pointer (some ⟨b18, o18 + i * 2, none⟩)) rfl rfl rfl h34 (ison_t _) rfl rfl hf (fun hg K1 hK1 => st_field (o' := o18 + i * 2) hsD ((Ev.tmp h48).un hg) rfl hf Tryd.runUnderlying64 rfl Tryd.sizeOf3 rfl rfl hK1) fun a_1 w_1 h1 => hk _ _ _ _ ⟨rfl, rfl⟩ h1
     · intro T_ B_ a_ w_ K_ hT hB
       rintro _ _ ⟨rfl, rfl⟩ h34 -
       rintro _ _ ⟨rfl, rfl⟩ h49 -
       intro hf hsD hk
       exact ob_gv hsD (gg := within x17.c 0 x19.walks) (v := .int .i64 x17.c) rfl rfl rfl h34 (ison_t _) rfl rfl hf (fun hg K1 hK1 => st_load1 (o := o18 + i * 2) (off := 0) (v := .int .i64 x17.c) hsD ((Ev.tmp h49).un hg) rfl hf Tryd.isAgg3 (hsD.old hc18 (by simp)) rfl hK1) fun a_1 w_1 h1 => hk _ _ _ _ ⟨rfl, rfl⟩ h1
     · intro T_ B_ a_ w_ K_ hT hB
       rintro _ _ ⟨rfl, rfl⟩ h34 -
       rintro _ _ ⟨rfl, rfl⟩ h45 -
       rintro _ _ ⟨rfl, rfl⟩ h50 -
       intro hf hsD hk
       exact ob_gv hsD (gg := within x17.c 0 x19.walks) (v := .int .i64 (x19.walks - x17.c)) rfl rfl rfl h34 (ison_t _) rfl rfl hf (fun hg K1 hK1 => st_sub (z := x19.walks - x17.c) hsD ((Ev.tmp h45).un hg) ((Ev.tmp h50).un hg) rfl hf rfl (by have h1 := (hb.parts i x19 hx19).2; simp [within] at hg; omega) hK1) fun a_1 w_1 h1 => hk _ _ _ _ ⟨rfl, rfl⟩ h1
     · intro T_ B_ a_ w_ K_ hT hB
       rintro _ _ ⟨rfl, rfl⟩ h34 -
       rintro _ _ ⟨rfl, rfl⟩ h39 -
       rintro _ _ ⟨rfl, rfl⟩ h51 -
       intro hf hsD hk
       exact ob_gv hsD (gg := within x17.c 0 x19.walks) (v := .bool (within x17.w 0 (x19.walks - x17.c))) rfl rfl rfl h34 (ison_t _) rfl rfl hf (fun hg K1 hK1 => st_callv (vs := [.int .i64 x17.w, .int .i64 0, .int .i64 (x19.walks - x17.c)]) hsD (.func _) ⟨((Ev.tmp h39).un hg), (.const _), ((Ev.tmp h51).un hg), trivial⟩ rfl hf Tryd.call37 rfl (amid_v x17.w 0 (x19.walks - x17.c) _) hK1) fun a_1 w_1 h1 => hk _ _ _ _ ⟨rfl, rfl⟩ h1
     · intro T_ B_ a_ w_ K_ hT hB
       rintro _ _ ⟨rfl, rfl⟩ h34 -
       rintro _ _ ⟨rfl, rfl⟩ h52 -
       intro hf hsD hk
       exact ob rfl rfl (st_and hsD (gx := true) (gy := within x17.c 0 x19.walks) (Ev.tmp h34) rfl (Ev.tmp h52) (fun h => h) rfl hf fun a_1 w_1 h1 => hk _ _ _ _ ⟨rfl, rfl⟩ h1)
     rintro _ _ ⟨rfl, rfl⟩
     rintro _ _ ⟨rfl, rfl⟩
     rintro _ _ ⟨rfl, rfl⟩
     rintro _ _ ⟨rfl, rfl⟩
     rintro _ _ ⟨rfl, rfl⟩
     rintro _ _ ⟨rfl, rfl⟩
     rintro _ _ ⟨rfl, rfl⟩
     rintro _ _ ⟨rfl, rfl⟩
     rintro _ _ ⟨rfl, rfl⟩
     rintro _ _ ⟨rfl, rfl⟩
     rintro _ _ ⟨rfl, rfl⟩
     rintro _ _ ⟨rfl, rfl⟩
     rintro _ _ ⟨rfl, rfl⟩
     rintro _ _ ⟨rfl, rfl⟩
     rintro _ _ ⟨rfl, rfl⟩
     rintro _ _ ⟨rfl, rfl⟩
     rintro _ _ ⟨rfl, rfl⟩
     rintro _ _ ⟨rfl, rfl⟩
     rintro _ _ ⟨rfl, rfl⟩
     rintro _ _ ⟨rfl, rfl⟩
     rintro _ _ ⟨rfl, rfl⟩
     rintro _ _ ⟨rfl, rfl⟩
     rintro _ _ ⟨rfl, rfl⟩
     rintro _ _ ⟨rfl, rfl⟩
     rintro _ _ ⟨rfl, rfl⟩
     rintro _ _ ⟨rfl, rfl⟩
     rintro _ _ ⟨rfl, rfl⟩
     rintro _ _ ⟨rfl, rfl⟩
     rintro _ _ ⟨rfl, rfl⟩
     rintro _ _ ⟨rfl, rfl⟩
     rintro _ _ ⟨rfl, rfl⟩
     rintro _ _ ⟨rfl, rfl⟩
     intro a_24 w_24 hs24
     clear hs23
     have hs25 := Sx.as (T' := [_, _, _, _, _, _, _, _, _, _, _, _, _, _, _, _, _, _, _, _, _, _, _, _, _, _, _, _, _, _, _, _, _, _, _, _, _, _]) (B' := [_]) rfl rfl hs24; clear hs24
     have hs26 := Sx.keepT [0, 1, 2, 3, 4, 5, 6, 7, 8, 9, 10, 11, 12, 13, 14, 15, 16, 17, 18, 19, 20, 21, 22, 23, 24, 25, 26, 27, 28, 29, 30, 31, 32, 33, 35, 36, 37] [_, _, _, _, _, _, _, _, _, _, _, _, _, _, _, _, _, _, _, _, _, _, _, _, _, _, _, _, _, _, _, _, _, _, _, _, _] ⟨rfl, rfl, rfl, rfl, rfl, rfl, rfl, rfl, rfl, rfl, rfl, rfl, rfl, rfl, rfl, rfl, rfl, rfl, rfl, rfl, rfl, rfl, rfl, rfl, rfl, rfl, rfl, rfl, rfl, rfl, rfl, rfl, rfl, rfl, rfl, rfl, rfl, trivial⟩ hs25; clear hs25
     refine sq rfl (st_assign hs26 (Ev.t 31 rfl) rfl rfl fun _ _ hs27 => ?_); clear hs26
     refine wpListIn_nil ?_
     have hs28 := Sx.keepT [0, 34, 35, 36, 37] [_, _, _, _, _] ⟨rfl, rfl, rfl, rfl, rfl, trivial⟩ hs27; clear hs27
     refine in_norm ?_
     refine th_norm (hK21 _ _ ?_)
     refine cd_region1 ?_
     refine sq rfl (st_move hs28 (Ev.t 1 rfl) rfl rfl fun _ _ hs29 => ?_); clear hs28
     refine sq rfl (st_add (z := (i : Int) + 1) hs29 (Ev.t 0 rfl) (.const _) rfl rfl rfl (by omega) fun _ _ hs30 => ?_); clear hs29
     have hs31 := Sx.keepT [0, 1, 2, 4, 5, 6] [_, _, _, _, _, _] ⟨rfl, rfl, rfl, rfl, rfl, rfl, trivial⟩ hs30; clear hs30
     refine sq rfl (st_assign hs31 (Ev.t 0 rfl) rfl rfl fun _ _ hs32 => ?_); clear hs31
     refine wpListIn_nil ?_
     have hs33 := Sx.keepT [0, 3, 4, 5, 6] [_, _, _, _, _] ⟨rfl, rfl, rfl, rfl, rfl, trivial⟩ hs32; clear hs32
     refine ⟨i + 1, ⟨?_, ?_⟩, by omega⟩
     · first | omega | (simp; done) | (simp; omega)
     exact Sx.keepE [0, 1, 2, 3, 4] _ ⟨⟨_, rfl, rfl⟩, ⟨_, rfl, by rw [all_snoc (zip_at hx17 hx19), hok1]; simp [okWalks]⟩, ⟨_, rfl, rfl⟩, ⟨_, rfl, rfl⟩, ⟨_, rfl, rfl⟩, trivial⟩ hs33
   · have hall := take_done hz hc16
     refine cd_exit ?_
     refine th_exit ?_
     refine th_exit ?_
     refine in_hit ?_
     refine th_norm (hK4 _ _ ?_)
     refine cd_region fun K22 hK22 => ?_
     refine sq rfl (st_move hs23 (Ev.t 2 rfl) rfl rfl fun _ _ hs24 => ?_); clear hs23
     have hs25 := Sx.keepT [0, 1, 2, 3, 5, 6] [_, _, _, _, _, _] ⟨rfl, rfl, rfl, rfl, rfl, rfl, trivial⟩ hs24; clear hs24
     refine sq rfl (st_assign hs25 (Ev.t 0 rfl) rfl rfl fun _ _ hs26 => ?_); clear hs25
     refine hK22 _ _ ?_; clear hK22
     have hs27 := Sx.keepT [0] [_] ⟨rfl, trivial⟩ hs26; clear hs26
     refine cd_retv (vs := [.bool (((plan.zip b.parts).take i).all (fun q => okWalks q.2 q.1))]) hs27 hQ0 rfl ⟨.tmp 0 rfl, trivial⟩ ?_
     clear hs27 hQ0 hN0
     show Value.bool _ = Value.bool _
     first | (rw [hall]; have e : plan.length = b.parts.length := (by omega); simp [Book.isPlan, e]; done) | (have e : plan.length ≠ b.parts.length := (by omega); simp [Book.isPlan, e])
 · skip
   have hl1 := hL.len; have hl2 := hP.len
   have hs12 := Sx.keepE [0, 1, 2, 3] [(5, .bool false), (4, _), (2, _), (1, _)] ⟨⟨_, rfl, by simp [hlen]⟩, ⟨_, rfl, rfl⟩, ⟨_, rfl, rfl⟩, ⟨_, rfl, rfl⟩, trivial⟩ hs11; clear hs11
   refine cd_seq fun K23 hK23 => ?_
   refine cd_region fun K24 hK24 => ?_
   refine sq rfl (st_assign hs12 (.const _) rfl rfl fun _ _ hs13 => ?_); clear hs12
   refine hK24 _ _ ?_; clear hK24
   refine cd_block ?_
   refine cd_rounds 1 ?_
   refine cd_round fun K25 hK25 => ?_
   refine cd_seq fun K26 hK26 => ?_
   refine cd_region fun K27 hK27 => ?_
   refine sq rfl (st_move hs13 (Ev.t 1 rfl) rfl rfl fun _ _ hs14 => ?_); clear hs13
   refine sq rfl (st_move hs14 (Ev.t 0 rfl) rfl rfl fun _ _ hs15 => ?_); clear hs14
   refine sq_off hs15 rfl rfl 0 rfl rfl rfl rfl rfl fun _ _ hs16 => ?_; clear hs15
   refine sq_off hs16 rfl rfl 1 rfl rfl rfl rfl rfl fun _ _ hs17 => ?_; clear hs16
   refine sq_off hs17 rfl rfl 2 rfl rfl rfl rfl rfl fun _ _ hs18 => ?_; clear hs17
   refine sq_off hs18 rfl rfl 3 rfl rfl rfl rfl rfl fun _ _ hs19 => ?_; clear hs18
   refine sq rfl (st_pick hs19 (Ev.t 4 rfl) rfl rfl (fun h => by cases h) (fun h => (.const _)) fun _ _ hs20 => ?_); clear hs19
   refine hK27 _ _ ?_; clear hK27
   have hs21 := Sx.keepT [0, 7, 8, 9, 10, 11] [_, _, _, _, _, _] ⟨rfl, rfl, rfl, rfl, rfl, rfl, trivial⟩ hs20; clear hs20
   have hc28 : false = false := rfl
   refine cd_cond hs21 (Ev.t 0 rfl) (fun h => absurd (hc28.symm.trans h) (by decide)) (fun _ => ?_)
   refine cd_exit ?_
   refine th_exit ?_
   refine th_exit ?_
   refine in_hit ?_
   refine th_norm (hK23 _ _ ?_)
   refine cd_region fun K29 hK29 => ?_
   refine sq rfl (st_move hs21 (Ev.t 2 rfl) rfl rfl fun _ _ hs22 => ?_); clear hs21
   have hs23 := Sx.keepT [0, 1, 2, 3, 5, 6] [_, _, _, _, _, _] ⟨rfl, rfl, rfl, rfl, rfl, rfl, trivial⟩ hs22; clear hs22
   refine sq rfl (st_assign hs23 (Ev.t 0 rfl) rfl rfl fun _ _ hs24 => ?_); clear hs23
   refine hK29 _ _ ?_; clear hK29
   have hs25 := Sx.keepT [0] [_] ⟨rfl, trivial⟩ hs24; clear hs24
   refine cd_retv (vs := [.bool false]) hs25 hQ0 rfl ⟨.tmp 0 rfl, trivial⟩ ?_
   clear hs25 hQ0 hN0
   show Value.bool _ = Value.bool _
   first | (rw [hall]; have e : plan.length = b.parts.length := (by omega); simp [Book.isPlan, e]; done) | (have e : plan.length ≠ b.parts.length := (by omega); simp [Book.isPlan, e])

theorem Current_v (b : Book) (A : Option Addr) (n cp : Nat) (k : Int) (w : World) (hP : PartsAt w A n b.parts) (hn : n ≤ 140737488351232) :
    CallsV Tryd.prog 14 [.agg ⟨(bookL b A n cp)⟩, .int .i64 k] w (.tuple ⟨[.agg ⟨[.int .i64 ((b.currentR k).1.lo), .int .i64 ((b.currentR k).1.hi)]⟩, .int .i64 ((b.currentR k).2)]⟩) := by
 refine enter (N := 23) (M := []) w Tryd.func14 rfl rfl rfl (fun Q0 a_0 hQ0 hN0 hs0 => ?_)
 refine cd_region fun K1 hK1 => ?_
 refine sq rfl (st_box hs0 (Ev.t 0 rfl) rfl rfl rfl fun b2 _ _ hs1 => ?_); clear hs0
 refine sq rfl (st_alloc hs1 rfl rfl Tryd.zeroValue23 rfl fun b3 _ _ hs2 => ?_); clear hs1
 refine sq rfl (st_assign hs2 (.const _) rfl rfl fun _ _ hs3 => ?_); clear hs2
 refine hK1 _ _ ?_; clear hK1
 have hs4 := Sx.keepT [0, 1, 2, 4] [_, _, _, _] ⟨rfl, rfl, rfl, rfl, trivial⟩ hs3; clear hs3
 refine cd_seq fun K4 hK4 => ?_
 refine cd_region fun K5 hK5 => ?_
 refine sq rfl (st_loadA (o := 0) (off := 0) (vs := (bookL b A n cp)) hs4 (Ev.t 2 rfl) rfl rfl Tryd.isAgg27 Tryd.sizeOf27 (hs4.cells 1 rfl) rfl fun _ _ hs5 => ?_); clear hs4
 refine sq rfl (st_callv (vs := [.agg ⟨(bookL b A n cp)⟩]) hs5 (.func _) ⟨(Ev.t 0 rfl), trivial⟩ rfl rfl Tryd.call16 rfl (check_v b A n cp _ (hP.kp hs5.kp) hn) fun _ _ hs6 => ?_); clear hs5
 refine sq rfl (st_assign hs6 (Ev.t 0 rfl) rfl rfl fun _ _ hs7 => ?_); clear hs6
 refine hK5 _ _ ?_; clear hK5
 have hs8 := Sx.keepT [0, 3, 4, 5, 6] [_, _, _, _, _] ⟨rfl, rfl, rfl, rfl, rfl, trivial⟩ hs7; clear hs7
 refine cd_region fun K6 hK6 => ?_
 refine sq rfl (st_move hs8 (Ev.t 0 rfl) rfl rfl fun _ _ hs9 => ?_); clear hs8
 refine sq rfl (st_cmp (c := (if b.ok then 0 else 40 : Int) != 0) hs9 (Ev.t 0 rfl) (.const _) rfl rfl rfl rfl fun _ _ hs10 => ?_); clear hs9
 refine hK6 _ _ ?_; clear hK6
 have hs11 := Sx.keepT [0, 2, 3, 4, 5, 6] [_, _, _, _, _, _] ⟨rfl, rfl, rfl, rfl, rfl, rfl, trivial⟩ hs10; clear hs10
 refine cd_cond hs11 (Ev.t 0 rfl) (fun hc7 => ?_) (fun hc7 => ?_)
 · have hok : b.ok = false := by cases h : b.ok <;> simp [h] at hc7 ⊢
   refine cd_region fun K8 hK8 => ?_
   refine sq rfl (st_build hs11 (qs := []) (v := .agg ⟨[.int .i64 0, .int .i64 0]⟩) trivial rfl rfl rfl (fun _ => by kernel_rfl) fun _ _ hs12 => ?_); clear hs11
   refine sq rfl (st_move hs12 (Ev.t 2 rfl) rfl rfl fun _ _ hs13 => ?_); clear hs12
   refine sq rfl (st_store (l' := [.int .i64 0, .int .i64 0]) (vs := [.int .i64 0, .int .i64 0]) (i := 0) hs13 (Ev.t 5 rfl) (Ev.t 1 rfl) Tryd.sizeOf23 rfl rfl rfl rfl rfl rfl fun _ _ hs14 => ?_); clear hs13
   have hs15 := Sx.as (T' := [_, _, _, _, _, _, _, _]) (B' := [_, _]) rfl rfl hs14; clear hs14
   have hs16 := Sx.keepT [0, 1, 2, 3, 5, 6, 7] [_, _, _, _, _, _, _] ⟨rfl, rfl, rfl, rfl, rfl, rfl, rfl, trivial⟩ hs15; clear hs15
   refine sq rfl (st_assign hs16 (Ev.t 0 rfl) rfl rfl fun _ _ hs17 => ?_); clear hs16
   refine hK8 _ _ ?_; clear hK8
   have hs18 := Sx.keepT [0, 5] [_, _] ⟨rfl, rfl, trivial⟩ hs17; clear hs17
   refine cd_retv (vs := [.agg ⟨[.int .i64 0, .int .i64 0]⟩, .int .i64 (if b.ok then 0 else 40)]) hs18 (fun a_ w_ h => th_ret (hQ0 a_ w_ h)) rfl ⟨resA (o := 0) (off := 0) (vs := [.int .i64 0, .int .i64 0]) 1 rfl Tryd.isAgg23 Tryd.sizeOf23 (hs18.cells 0 rfl) rfl, .tmp 0 rfl, trivial⟩ ?_
   clear hs18 hQ0 hN0 hK4
   cases hw2 : within k 0 b.tank <;> by_cases hm2 : k < b.mark <;> simp_all [pack, Book.currentR]
   all_goals (first | omega | (repeat rw [if_neg (by omega)]; first | done | rfl | exact ⟨rfl, rfl⟩))
 · have hok : b.ok = true := by cases h : b.ok <;> simp [h] at hc7 ⊢
   refine cd_skip ?_
   refine th_norm (hK4 _ _ ?_)
   refine cd_seq fun K9 hK9 => ?_
   refine cd_region fun K10 hK10 => ?_
   refine sq rfl (st_move hs11 (Ev.t 5 rfl) rfl rfl fun _ _ hs12 => ?_); clear hs11
   refine sq rfl (st_field (o' := 5) hs12 (Ev.t 5 rfl) rfl rfl Tryd.runUnderlying27 rfl Tryd.sizeOf3 rfl rfl fun _ _ hs13 => ?_); clear hs12
   refine sq rfl (st_load1 (o := 0) (off := 5) (v := .int .i64 b.tank) hs13 (Ev.t 0 rfl) rfl rfl Tryd.isAgg3 (hs13.cells 1 rfl) rfl fun _ _ hs14 => ?_); clear hs13
   refine sq rfl (st_callv (vs := [.int .i64 k, .int .i64 0, .int .i64 b.tank]) hs14 (.func _) ⟨(Ev.t 2 rfl), (.const _), (Ev.t 0 rfl), trivial⟩ rfl rfl Tryd.call48 rfl (within_v k 0 b.tank _) fun _ _ hs15 => ?_); clear hs14
   refine sq rfl (st_not hs15 (Ev.t 0 rfl) rfl rfl fun _ _ hs16 => ?_); clear hs15
   refine hK10 _ _ ?_; clear hK10
   have hs17 := Sx.keepT [0, 7, 8, 9, 10] [_, _, _, _, _] ⟨rfl, rfl, rfl, rfl, rfl, trivial⟩ hs16; clear hs16
   refine cd_cond hs17 (Ev.t 0 rfl) (fun hc11 => ?_) (fun hc11 => ?_)
   · refine cd_region fun K12 hK12 => ?_
     refine sq rfl (st_build hs17 (qs := []) (v := .agg ⟨[.int .i64 0, .int .i64 0]⟩) trivial rfl rfl rfl (fun _ => by kernel_rfl) fun _ _ hs18 => ?_); clear hs17
     refine sq rfl (st_store (l' := [.int .i64 0, .int .i64 0]) (vs := [.int .i64 0, .int .i64 0]) (i := 0) hs18 (Ev.t 3 rfl) (Ev.t 0 rfl) Tryd.sizeOf23 rfl rfl rfl rfl rfl rfl fun _ _ hs19 => ?_); clear hs18
     have hs20 := Sx.as (T' := [_, _, _, _, _, _]) (B' := [_, _]) rfl rfl hs19; clear hs19
     have hs21 := Sx.keepT [0, 1, 3, 4, 5] [_, _, _, _, _] ⟨rfl, rfl, rfl, rfl, rfl, trivial⟩ hs20; clear hs20
     refine sq rfl (st_assign hs21 (.const _) rfl rfl fun _ _ hs22 => ?_); clear hs21
     refine hK12 _ _ ?_; clear hK12
     have hs23 := Sx.keepT [0, 3] [_, _] ⟨rfl, rfl, trivial⟩ hs22; clear hs22
     refine cd_retv (vs := [.agg ⟨[.int .i64 0, .int .i64 0]⟩, .int .i64 41]) hs23 (fun a_ w_ h => th_ret (hQ0 a_ w_ h)) rfl ⟨resA (o := 0) (off := 0) (vs := [.int .i64 0, .int .i64 0]) 1 rfl Tryd.isAgg23 Tryd.sizeOf23 (hs23.cells 0 rfl) rfl, .tmp 0 rfl, trivial⟩ ?_
     clear hs23 hQ0 hN0 hK9
     cases hw2 : within k 0 b.tank <;> by_cases hm2 : k < b.mark <;> simp_all [pack, Book.currentR]
     all_goals (first | omega | (repeat rw [if_neg (by omega)]; first | done | rfl | exact ⟨rfl, rfl⟩))
   · refine cd_skip ?_
     refine th_norm (hK9 _ _ ?_)
     refine cd_region fun K13 hK13 => ?_
     refine sq rfl (st_loadA (o := 0) (off := 0) (vs := (bookL b A n cp)) hs17 (Ev.t 3 rfl) rfl rfl Tryd.isAgg27 Tryd.sizeOf27 (hs17.cells 1 rfl) rfl fun _ _ hs18 => ?_); clear hs17
     refine sq rfl (st_build hs18 (qs := [(0, .agg ⟨(bookL b A n cp)⟩)]) (v := .agg ⟨(bookL b A n cp)⟩) ⟨(Ev.t 0 rfl), trivial⟩ rfl rfl rfl (fun _ => by kernel_rfl) fun _ _ hs19 => ?_); clear hs18
     refine sq rfl (st_move hs19 (Ev.t 6 rfl) rfl rfl fun _ _ hs20 => ?_); clear hs19
     refine sq rfl (st_callv (vs := [.agg ⟨(bookL b A n cp)⟩, .int .i64 k]) hs20 (.func _) ⟨(Ev.t 1 rfl), (Ev.t 0 rfl), trivial⟩ rfl rfl Tryd.call49 rfl (current_v b A n cp k _) fun _ _ hs21 => ?_); clear hs20
     refine sq rfl (st_store (l' := [.int .i64 ((if k < b.mark then b.weak else b.full).lo), .int .i64 ((if k < b.mark then b.weak else b.full).hi)]) (vs := [.int .i64 ((if k < b.mark then b.weak else b.full).lo), .int .i64 ((if k < b.mark then b.weak else b.full).hi)]) (i := 0) hs21 (Ev.t 6 rfl) (Ev.t 0 rfl) Tryd.sizeOf23 rfl rfl rfl rfl rfl rfl fun _ _ hs22 => ?_); clear hs21
     have hs23 := Sx.as (T' := [_, _, _, _, _, _, _, _, _]) (B' := [_, _]) rfl rfl hs22; clear hs22
     have hs24 := Sx.keepT [0, 1, 2, 3, 4, 6, 7, 8] [_, _, _, _, _, _, _, _] ⟨rfl, rfl, rfl, rfl, rfl, rfl, rfl, rfl, trivial⟩ hs23; clear hs23
     refine sq rfl (st_assign hs24 (.const _) rfl rfl fun _ _ hs25 => ?_); clear hs24
     refine hK13 _ _ ?_; clear hK13
     have hs26 := Sx.keepT [0, 6] [_, _] ⟨rfl, rfl, trivial⟩ hs25; clear hs25
     refine cd_retv (vs := [.agg ⟨[.int .i64 ((if k < b.mark then b.weak else b.full).lo), .int .i64 ((if k < b.mark then b.weak else b.full).hi)]⟩, .int .i64 0]) hs26 hQ0 rfl ⟨resA (o := 0) (off := 0) (vs := [.int .i64 ((if k < b.mark then b.weak else b.full).lo), .int .i64 ((if k < b.mark then b.weak else b.full).hi)]) 1 rfl Tryd.isAgg23 Tryd.sizeOf23 (hs26.cells 0 rfl) rfl, .tmp 0 rfl, trivial⟩ ?_
     clear hs26 hQ0 hN0
     cases hw2 : within k 0 b.tank <;> by_cases hm2 : k < b.mark <;> simp_all [pack, Book.currentR]
     all_goals (first | omega | (repeat rw [if_neg (by omega)]; first | done | rfl | exact ⟨rfl, rfl⟩))

theorem rCurrent_v (b : Book) (A : Option Addr) (n cp : Nat) (k : Int) (w : World) (hP : PartsAt w A n b.parts) (hn : n ≤ 140737488351232) :
    CallsV Tryd.prog 15 [.agg ⟨(bookL b A n cp)⟩, .int .i64 k] w (.tuple ⟨[.agg ⟨[.int .i64 ((b.currentR k).1.lo), .int .i64 ((b.currentR k).1.hi)]⟩, .int .i64 ((b.currentR k).2)]⟩) := by
 refine enter (N := 27) (M := []) w Tryd.func15 rfl rfl rfl (fun Q0 a_0 hQ0 hN0 hs0 => ?_)
 refine cd_region fun K1 hK1 => ?_
 refine sq rfl (st_box hs0 (Ev.t 0 rfl) rfl rfl rfl fun b2 _ _ hs1 => ?_); clear hs0
 refine sq rfl (st_alloc hs1 rfl rfl Tryd.zeroValue23 rfl fun b3 _ _ hs2 => ?_); clear hs1
 refine sq rfl (st_assign hs2 (.const _) rfl rfl fun _ _ hs3 => ?_); clear hs2
 refine hK1 _ _ ?_; clear hK1
 have hs4 := Sx.keepT [0, 1, 2, 4] [_, _, _, _] ⟨rfl, rfl, rfl, rfl, trivial⟩ hs3; clear hs3
 refine cd_seq fun K4 hK4 => ?_
 refine cd_region fun K5 hK5 => ?_
 refine sq rfl (st_loadA (o := 0) (off := 0) (vs := (bookL b A n cp)) hs4 (Ev.t 2 rfl) rfl rfl Tryd.isAgg27 Tryd.sizeOf27 (hs4.cells 1 rfl) rfl fun _ _ hs5 => ?_); clear hs4
 refine sq rfl (st_callv (vs := [.agg ⟨(bookL b A n cp)⟩]) hs5 (.func _) ⟨(Ev.t 0 rfl), trivial⟩ rfl rfl Tryd.call17 rfl (rcheck_v b A n cp _ (hP.kp hs5.kp) hn) fun _ _ hs6 => ?_); clear hs5
 refine sq rfl (st_assign hs6 (Ev.t 0 rfl) rfl rfl fun _ _ hs7 => ?_); clear hs6
 refine hK5 _ _ ?_; clear hK5
 have hs8 := Sx.keepT [0, 3, 4, 5, 6] [_, _, _, _, _] ⟨rfl, rfl, rfl, rfl, rfl, trivial⟩ hs7; clear hs7
 refine cd_region fun K6 hK6 => ?_
 refine sq rfl (st_move hs8 (Ev.t 0 rfl) rfl rfl fun _ _ hs9 => ?_); clear hs8
 refine sq rfl (st_cmp (c := (if b.ok then 0 else 40 : Int) != 0) hs9 (Ev.t 0 rfl) (.const _) rfl rfl rfl rfl fun _ _ hs10 => ?_); clear hs9
 refine hK6 _ _ ?_; clear hK6
 have hs11 := Sx.keepT [0, 2, 3, 4, 5, 6] [_, _, _, _, _, _] ⟨rfl, rfl, rfl, rfl, rfl, rfl, trivial⟩ hs10; clear hs10
 refine cd_cond hs11 (Ev.t 0 rfl) (fun hc7 => ?_) (fun hc7 => ?_)
 · have hok : b.ok = false := by cases h : b.ok <;> simp [h] at hc7 ⊢
   refine cd_region fun K8 hK8 => ?_
   refine sq rfl (st_build hs11 (qs := []) (v := .agg ⟨[.int .i64 0, .int .i64 0]⟩) trivial rfl rfl rfl (fun _ => by kernel_rfl) fun _ _ hs12 => ?_); clear hs11
   refine sq rfl (st_move hs12 (Ev.t 2 rfl) rfl rfl fun _ _ hs13 => ?_); clear hs12
   refine sq rfl (st_store (l' := [.int .i64 0, .int .i64 0]) (vs := [.int .i64 0, .int .i64 0]) (i := 0) hs13 (Ev.t 5 rfl) (Ev.t 1 rfl) Tryd.sizeOf23 rfl rfl rfl rfl rfl rfl fun _ _ hs14 => ?_); clear hs13
   have hs15 := Sx.as (T' := [_, _, _, _, _, _, _, _]) (B' := [_, _]) rfl rfl hs14; clear hs14
   have hs16 := Sx.keepT [0, 1, 2, 3, 5, 6, 7] [_, _, _, _, _, _, _] ⟨rfl, rfl, rfl, rfl, rfl, rfl, rfl, trivial⟩ hs15; clear hs15
   refine sq rfl (st_assign hs16 (Ev.t 0 rfl) rfl rfl fun _ _ hs17 => ?_); clear hs16
   refine hK8 _ _ ?_; clear hK8
   have hs18 := Sx.keepT [0, 5] [_, _] ⟨rfl, rfl, trivial⟩ hs17; clear hs17
   refine cd_retv (vs := [.agg ⟨[.int .i64 0, .int .i64 0]⟩, .int .i64 (if b.ok then 0 else 40)]) hs18 (fun a_ w_ h => th_ret (hQ0 a_ w_ h)) rfl ⟨resA (o := 0) (off := 0) (vs := [.int .i64 0, .int .i64 0]) 1 rfl Tryd.isAgg23 Tryd.sizeOf23 (hs18.cells 0 rfl) rfl, .tmp 0 rfl, trivial⟩ ?_
   clear hs18 hQ0 hN0 hK4
   cases hw2 : within k 0 b.tank <;> by_cases hm2 : k < b.mark <;> simp_all [pack, Book.currentR]
   all_goals (first | omega | (repeat rw [if_neg (by omega)]; first | done | rfl | exact ⟨rfl, rfl⟩))
 · have hok : b.ok = true := by cases h : b.ok <;> simp [h] at hc7 ⊢
   refine cd_skip ?_
   refine th_norm (hK4 _ _ ?_)
   refine cd_seq fun K9 hK9 => ?_
   refine cd_region fun K10 hK10 => ?_
   refine sq rfl (st_move hs11 (Ev.t 5 rfl) rfl rfl fun _ _ hs12 => ?_); clear hs11
   refine sq rfl (st_field (o' := 5) hs12 (Ev.t 5 rfl) rfl rfl Tryd.runUnderlying27 rfl Tryd.sizeOf3 rfl rfl fun _ _ hs13 => ?_); clear hs12
   refine sq rfl (st_load1 (o := 0) (off := 5) (v := .int .i64 b.tank) hs13 (Ev.t 0 rfl) rfl rfl Tryd.isAgg3 (hs13.cells 1 rfl) rfl fun _ _ hs14 => ?_); clear hs13
   refine sq rfl (st_callv (vs := [.int .i64 k, .int .i64 0, .int .i64 b.tank]) hs14 (.func _) ⟨(Ev.t 2 rfl), (.const _), (Ev.t 0 rfl), trivial⟩ rfl rfl Tryd.call37 rfl (amid_v k 0 b.tank _) fun _ _ hs15 => ?_); clear hs14
   refine sq rfl (st_not hs15 (Ev.t 0 rfl) rfl rfl fun _ _ hs16 => ?_); clear hs15
   refine hK10 _ _ ?_; clear hK10
   have hs17 := Sx.keepT [0, 7, 8, 9, 10] [_, _, _, _, _] ⟨rfl, rfl, rfl, rfl, rfl, trivial⟩ hs16; clear hs16
   refine cd_cond hs17 (Ev.t 0 rfl) (fun hc11 => ?_) (fun hc11 => ?_)
   · refine cd_region fun K12 hK12 => ?_
     refine sq rfl (st_build hs17 (qs := []) (v := .agg ⟨[.int .i64 0, .int .i64 0]⟩) trivial rfl rfl rfl (fun _ => by kernel_rfl) fun _ _ hs18 => ?_); clear hs17
     refine sq rfl (st_store (l' := [.int .i64 0, .int .i64 0]) (vs := [.int .i64 0, .int .i64 0]) (i := 0) hs18 (Ev.t 3 rfl) (Ev.t 0 rfl) Tryd.sizeOf23 rfl rfl rfl rfl rfl rfl fun _ _ hs19 => ?_); clear hs18
     have hs20 := Sx.as (T' := [_, _, _, _, _, _]) (B' := [_, _]) rfl rfl hs19; clear hs19
     have hs21 := Sx.keepT [0, 1, 3, 4, 5] [_, _, _, _, _] ⟨rfl, rfl, rfl, rfl, rfl, trivial⟩ hs20; clear hs20
     refine sq rfl (st_assign hs21 (.const _) rfl rfl fun _ _ hs22 => ?_); clear hs21
     refine hK12 _ _ ?_; clear hK12
     have hs23 := Sx.keepT [0, 3] [_, _] ⟨rfl, rfl, trivial⟩ hs22; clear hs22
     refine cd_retv (vs := [.agg ⟨[.int .i64 0, .int .i64 0]⟩, .int .i64 41]) hs23 (fun a_ w_ h => th_ret (hQ0 a_ w_ h)) rfl ⟨resA (o := 0) (off := 0) (vs := [.int .i64 0, .int .i64 0]) 1 rfl Tryd.isAgg23 Tryd.sizeOf23 (hs23.cells 0 rfl) rfl, .tmp 0 rfl, trivial⟩ ?_
     clear hs23 hQ0 hN0 hK9
     cases hw2 : within k 0 b.tank <;> by_cases hm2 : k < b.mark <;> simp_all [pack, Book.currentR]
     all_goals (first | omega | (repeat rw [if_neg (by omega)]; first | done | rfl | exact ⟨rfl, rfl⟩))
   · refine cd_skip ?_
     refine th_norm (hK9 _ _ ?_)
     refine cd_seq fun K13 hK13 => ?_
     refine cd_region fun K14 hK14 => ?_
     refine sq rfl (st_move hs17 (Ev.t 4 rfl) rfl rfl fun _ _ hs18 => ?_); clear hs17
     refine sq rfl (st_field (o' := 20) hs18 (Ev.t 4 rfl) rfl rfl Tryd.runUnderlying27 rfl Tryd.sizeOf3 rfl rfl fun _ _ hs19 => ?_); clear hs18
     refine sq rfl (st_load1 (o := 0) (off := 20) (v := .int .i64 b.mark) hs19 (Ev.t 0 rfl) rfl rfl Tryd.isAgg3 (hs19.cells 1 rfl) rfl fun _ _ hs20 => ?_); clear hs19
     refine sq rfl (st_cmp (c := decide ((k : Int) < b.mark)) hs20 (Ev.t 2 rfl) (Ev.t 0 rfl) rfl rfl rfl rfl fun _ _ hs21 => ?_); clear hs20
     refine hK14 _ _ ?_; clear hK14
     have hs22 := Sx.keepT [0, 5, 6, 7] [_, _, _, _] ⟨rfl, rfl, rfl, rfl, trivial⟩ hs21; clear hs21
     refine cd_cond hs22 (Ev.t 0 rfl) (fun hc15 => ?_) (fun hc15 => ?_)
     · refine cd_region fun K16 hK16 => ?_
       refine sq rfl (st_field (o' := 18) hs22 (Ev.t 3 rfl) rfl rfl Tryd.runUnderlying27 rfl Tryd.sizeOf23 rfl rfl fun _ _ hs23 => ?_); clear hs22
       refine sq rfl (st_loadA (o := 0) (off := 18) (vs := [.int .i64 b.weak.lo, .int .i64 b.weak.hi]) hs23 (Ev.t 0 rfl) rfl rfl Tryd.isAgg23 Tryd.sizeOf23 (hs23.cells 1 rfl) rfl fun _ _ hs24 => ?_); clear hs23
       refine sq rfl (st_store (l' := [.int .i64 b.weak.lo, .int .i64 b.weak.hi]) (vs := [.int .i64 b.weak.lo, .int .i64 b.weak.hi]) (i := 0) hs24 (Ev.t 4 rfl) (Ev.t 0 rfl) Tryd.sizeOf23 rfl rfl rfl rfl rfl rfl fun _ _ hs25 => ?_); clear hs24
       have hs26 := Sx.as (T' := [_, _, _, _, _, _]) (B' := [_, _]) rfl rfl hs25; clear hs25
       have hs27 := Sx.keepT [0, 1, 2, 4, 5] [_, _, _, _, _] ⟨rfl, rfl, rfl, rfl, rfl, trivial⟩ hs26; clear hs26
       refine sq rfl (st_assign hs27 (.const _) rfl rfl fun _ _ hs28 => ?_); clear hs27
       refine hK16 _ _ ?_; clear hK16
       have hs29 := Sx.keepT [0, 4] [_, _] ⟨rfl, rfl, trivial⟩ hs28; clear hs28
       refine cd_retv (vs := [.agg ⟨[.int .i64 b.weak.lo, .int .i64 b.weak.hi]⟩, .int .i64 0]) hs29 (fun a_ w_ h => th_ret (hQ0 a_ w_ h)) rfl ⟨resA (o := 0) (off := 0) (vs := [.int .i64 b.weak.lo, .int .i64 b.weak.hi]) 1 rfl Tryd.isAgg23 Tryd.sizeOf23 (hs29.cells 0 rfl) rfl, .tmp 0 rfl, trivial⟩ ?_
       clear hs29 hQ0 hN0 hK13
       cases hw2 : within k 0 b.tank <;> by_cases hm2 : k < b.mark <;> simp_all [pack, Book.currentR]
       all_goals (first | omega | (repeat rw [if_neg (by omega)]; first | done | rfl | exact ⟨rfl, rfl⟩))
     · refine cd_skip ?_
       refine th_norm (hK13 _ _ ?_)
       refine cd_region fun K17 hK17 => ?_
       refine sq rfl (st_field (o' := 16) hs22 (Ev.t 3 rfl) rfl rfl Tryd.runUnderlying27 rfl Tryd.sizeOf23 rfl rfl fun _ _ hs23 => ?_); clear hs22
       refine sq rfl (st_loadA (o := 0) (off := 16) (vs := [.int .i64 b.full.lo, .int .i64 b.full.hi]) hs23 (Ev.t 0 rfl) rfl rfl Tryd.isAgg23 Tryd.sizeOf23 (hs23.cells 1 rfl) rfl fun _ _ hs24 => ?_); clear hs23
       refine sq rfl (st_store (l' := [.int .i64 b.full.lo, .int .i64 b.full.hi]) (vs := [.int .i64 b.full.lo, .int .i64 b.full.hi]) (i := 0) hs24 (Ev.t 4 rfl) (Ev.t 0 rfl) Tryd.sizeOf23 rfl rfl rfl rfl rfl rfl fun _ _ hs25 => ?_); clear hs24
       have hs26 := Sx.as (T' := [_, _, _, _, _, _]) (B' := [_, _]) rfl rfl hs25; clear hs25
       have hs27 := Sx.keepT [0, 1, 2, 4, 5] [_, _, _, _, _] ⟨rfl, rfl, rfl, rfl, rfl, trivial⟩ hs26; clear hs26
       refine sq rfl (st_assign hs27 (.const _) rfl rfl fun _ _ hs28 => ?_); clear hs27
       refine hK17 _ _ ?_; clear hK17
       have hs29 := Sx.keepT [0, 4] [_, _] ⟨rfl, rfl, trivial⟩ hs28; clear hs28
       refine cd_retv (vs := [.agg ⟨[.int .i64 b.full.lo, .int .i64 b.full.hi]⟩, .int .i64 0]) hs29 hQ0 rfl ⟨resA (o := 0) (off := 0) (vs := [.int .i64 b.full.lo, .int .i64 b.full.hi]) 1 rfl Tryd.isAgg23 Tryd.sizeOf23 (hs29.cells 0 rfl) rfl, .tmp 0 rfl, trivial⟩ ?_
       clear hs29 hQ0 hN0
       cases hw2 : within k 0 b.tank <;> by_cases hm2 : k < b.mark <;> simp_all [pack, Book.currentR]
       all_goals (first | omega | (repeat rw [if_neg (by omega)]; first | done | rfl | exact ⟨rfl, rfl⟩))

theorem Fails_v (b : Book) (A : Option Addr) (n cp : Nat) (A2 : Option Addr) (m c2 : Nat) (plan : List Walks) (w : World) (hP : PartsAt w A n b.parts) (hn : n ≤ 140737488351232) (hL : PlanAt w A2 m plan) (hm : m ≤ 140737488351232) (hG : CellsAt w 0 0 stuffsL) :
    CallsV Tryd.prog 21 [.agg ⟨(bookL b A n cp)⟩, .slice A2 m c2] w (.tuple ⟨[.int .i64 ((b.failsR plan).1), .int .i64 ((b.failsR plan).2)]⟩) := by
 refine enter (N := 29) (M := []) w Tryd.func21 rfl rfl rfl (fun Q0 a_0 hQ0 hN0 hs0 => ?_)
 refine cd_region fun K1 hK1 => ?_
 refine sq rfl (st_box hs0 (Ev.t 0 rfl) rfl rfl rfl fun b2 _ _ hs1 => ?_); clear hs0
 refine sq rfl (st_assign hs1 (.const _) rfl rfl fun _ _ hs2 => ?_); clear hs1
 refine sq rfl (st_assign hs2 (.const _) rfl rfl fun _ _ hs3 => ?_); clear hs2
 refine hK1 _ _ ?_; clear hK1
 have hs4 := Sx.keepT [0, 1, 2, 4] [_, _, _, _] ⟨rfl, rfl, rfl, rfl, trivial⟩ hs3; clear hs3
 refine cd_seq fun K3 hK3 => ?_
 refine cd_region fun K4 hK4 => ?_
 refine sq rfl (st_loadA (o := 0) (off := 0) (vs := (bookL b A n cp)) hs4 (Ev.t 2 rfl) rfl rfl Tryd.isAgg27 Tryd.sizeOf27 (hs4.cells 0 rfl) rfl fun _ _ hs5 => ?_); clear hs4
 refine sq rfl (st_callv (vs := [.agg ⟨(bookL b A n cp)⟩]) hs5 (.func _) ⟨(Ev.t 0 rfl), trivial⟩ rfl rfl Tryd.call16 rfl (check_v b A n cp _ (hP.kp hs5.kp) hn) fun _ _ hs6 => ?_); clear hs5
 refine sq rfl (st_assign hs6 (Ev.t 0 rfl) rfl rfl fun _ _ hs7 => ?_); clear hs6
 refine hK4 _ _ ?_; clear hK4
 have hs8 := Sx.keepT [0, 3, 4, 5, 6] [_, _, _, _, _] ⟨rfl, rfl, rfl, rfl, rfl, trivial⟩ hs7; clear hs7
 refine cd_region fun K5 hK5 => ?_
 refine sq rfl (st_move hs8 (Ev.t 0 rfl) rfl rfl fun _ _ hs9 => ?_); clear hs8
 refine sq rfl (st_cmp (c := (if b.ok then 0 else 40 : Int) != 0) hs9 (Ev.t 0 rfl) (.const _) rfl rfl rfl rfl fun _ _ hs10 => ?_); clear hs9
 refine hK5 _ _ ?_; clear hK5
 have hs11 := Sx.keepT [0, 2, 3, 4, 5, 6] [_, _, _, _, _, _] ⟨rfl, rfl, rfl, rfl, rfl, rfl, trivial⟩ hs10; clear hs10
 refine cd_cond hs11 (Ev.t 0 rfl) (fun hc6 => ?_) (fun hc6 => ?_)
 · have hok : b.ok = false := by cases h : b.ok <;> simp [h] at hc6 ⊢
   refine cd_region fun K7 hK7 => ?_
   refine sq rfl (st_move hs11 (Ev.t 1 rfl) rfl rfl fun _ _ hs12 => ?_); clear hs11
   have hs13 := Sx.keepT [0, 1, 2, 3, 5, 6] [_, _, _, _, _, _] ⟨rfl, rfl, rfl, rfl, rfl, rfl, trivial⟩ hs12; clear hs12
   refine sq rfl (st_assign hs13 (.const _) rfl rfl fun _ _ hs14 => ?_); clear hs13
   have hs15 := Sx.keepT [0, 1, 2, 3, 5, 6] [_, _, _, _, _, _] ⟨rfl, rfl, rfl, rfl, rfl, rfl, trivial⟩ hs14; clear hs14
   refine sq rfl (st_assign hs15 (Ev.t 1 rfl) rfl rfl fun _ _ hs16 => ?_); clear hs15
   refine hK7 _ _ ?_; clear hK7
   have hs17 := Sx.keepT [0, 1] [_, _] ⟨rfl, rfl, trivial⟩ hs16; clear hs16
   refine cd_retv (vs := [.int .i64 0, .int .i64 (if b.ok then 0 else 40)]) hs17 (fun a_ w_ h => th_ret (hQ0 a_ w_ h)) rfl ⟨.tmp 1 rfl, .tmp 0 rfl, trivial⟩ ?_
   clear hs17 hQ0 hN0 hK3
   simp_all [pack, Book.failsR]
   all_goals (first | omega | (repeat rw [if_neg (by omega)]; first | done | rfl | exact ⟨rfl, rfl⟩))
 · have hok : b.ok = true := by cases h : b.ok <;> simp [h] at hc6 ⊢
   have hb := ok_bd hok
   refine cd_skip ?_
   refine th_norm (hK3 _ _ ?_)
   refine cd_region fun K8 hK8 => ?_
   refine sq rfl (st_loadA (o := 0) (off := 0) (vs := (bookL b A n cp)) hs11 (Ev.t 4 rfl) rfl rfl Tryd.isAgg27 Tryd.sizeOf27 (hs11.cells 0 rfl) rfl fun _ _ hs12 => ?_); clear hs11
   refine sq rfl (st_build hs12 (qs := [(0, .agg ⟨(bookL b A n cp)⟩)]) (v := .agg ⟨(bookL b A n cp)⟩) ⟨(Ev.t 0 rfl), trivial⟩ rfl rfl rfl (fun _ => by kernel_rfl) fun _ _ hs13 => ?_); clear hs12
   refine sq rfl (st_alloc hs13 rfl rfl Tryd.zeroValue75 rfl fun b9 _ _ hs14 => ?_); clear hs13
   refine sq rfl (st_store (l' := (bookL b A n cp)) (vs := (bookL b A n cp)) (i := 0) hs14 (Ev.t 0 rfl) (Ev.t 1 rfl) Tryd.sizeOf75 rfl rfl rfl rfl rfl rfl fun _ _ hs15 => ?_); clear hs14
   have hs16 := Sx.as (T' := [_, _, _, _, _, _, _, _, _]) (B' := [_, _]) rfl rfl hs15; clear hs15
   refine hK8 _ _ ?_; clear hK8
   have hs17 := Sx.keepT [0, 5, 6, 8] [_, _, _, _] ⟨rfl, rfl, rfl, rfl, trivial⟩ hs16; clear hs16
   refine cd_seq fun K10 hK10 => ?_
   refine cd_region fun K11 hK11 => ?_
   refine sq rfl (st_loadA (o := 0) (off := 0) (vs := (bookL b A n cp)) hs17 (Ev.t 0 rfl) rfl rfl Tryd.isAgg75 Tryd.sizeOf75 (hs17.cells 0 rfl) rfl fun _ _ hs18 => ?_); clear hs17
   refine sq rfl (st_move hs18 (Ev.t 4 rfl) rfl rfl fun _ _ hs19 => ?_); clear hs18
   refine sq rfl (st_callv (vs := [.agg ⟨(bookL b A n cp)⟩, .slice A2 m c2]) hs19 (.func _) ⟨(Ev.t 1 rfl), (Ev.t 0 rfl), trivial⟩ rfl rfl Tryd.call52 rfl (isPlan_v b A n cp A2 m c2 plan _ (hP.kp hs19.kp) hn (hL.kp hs19.kp) hm hb) fun _ _ hs20 => ?_); clear hs19
   refine sq rfl (st_not hs20 (Ev.t 0 rfl) rfl rfl fun _ _ hs21 => ?_); clear hs20
   refine hK11 _ _ ?_; clear hK11
   have hs22 := Sx.keepT [0, 4, 5, 6, 7] [_, _, _, _, _] ⟨rfl, rfl, rfl, rfl, rfl, trivial⟩ hs21; clear hs21
   refine cd_cond hs22 (Ev.t 0 rfl) (fun hc12 => ?_) (fun hc12 => ?_)
   · refine cd_region fun K13 hK13 => ?_
     have hs23 := Sx.keepT [0, 1, 2, 4] [_, _, _, _] ⟨rfl, rfl, rfl, rfl, trivial⟩ hs22; clear hs22
     refine sq rfl (st_assign hs23 (.const _) rfl rfl fun _ _ hs24 => ?_); clear hs23
     have hs25 := Sx.keepT [0, 1, 2, 4] [_, _, _, _] ⟨rfl, rfl, rfl, rfl, trivial⟩ hs24; clear hs24
     refine sq rfl (st_assign hs25 (.const _) rfl rfl fun _ _ hs26 => ?_); clear hs25
     refine hK13 _ _ ?_; clear hK13
     have hs27 := Sx.keepT [0, 1] [_, _] ⟨rfl, rfl, trivial⟩ hs26; clear hs26
     refine cd_retv (vs := [.int .i64 0, .int .i64 41]) hs27 (fun a_ w_ h => th_ret (hQ0 a_ w_ h)) rfl ⟨.tmp 1 rfl, .tmp 0 rfl, trivial⟩ ?_
     clear hs27 hQ0 hN0 hK10
     simp_all [pack, Book.failsR]
     all_goals (first | omega | (repeat rw [if_neg (by omega)]; first | done | rfl | exact ⟨rfl, rfl⟩))
   · have hpl : b.isPlan plan = true := by simpa using hc12
     refine cd_skip ?_
     refine th_norm (hK10 _ _ ?_)
     refine cd_region fun K14 hK14 => ?_
     refine sq rfl (st_loadA (o := 0) (off := 0) (vs := (bookL b A n cp)) hs22 (Ev.t 1 rfl) rfl rfl Tryd.isAgg75 Tryd.sizeOf75 (hs22.cells 0 rfl) rfl fun _ _ hs23 => ?_); clear hs22
     refine sq rfl (st_makeFunc (us := [.agg ⟨(bookL b A n cp)⟩]) (vs := []) hs23 ⟨(Ev.t 0 rfl), trivial⟩ trivial rfl rfl fun _ _ hs24 => ?_); clear hs23
     refine sq rfl (st_assign hs24 (Ev.t 0 rfl) rfl rfl fun _ _ hs25 => ?_); clear hs24
     refine hK14 _ _ ?_; clear hK14
     have hs26 := Sx.keepT [0, 5, 6, 7] [_, _, _, _] ⟨rfl, rfl, rfl, rfl, trivial⟩ hs25; clear hs25
     refine cd_region fun K15 hK15 => ?_
     refine sq rfl (st_move hs26 (Ev.t 0 rfl) rfl rfl fun _ _ hs27 => ?_); clear hs26
     refine sq rfl (st_move hs27 (Ev.t 4 rfl) rfl rfl fun _ _ hs28 => ?_); clear hs27
     refine sq rfl (st_callv (vs := [.slice A2 m c2]) hs28 (Ev.t 1 rfl) ⟨(Ev.t 0 rfl), trivial⟩ rfl rfl Tryd.call59 rfl (fails_v b A n cp A2 m c2 plan _ (hP.kp hs28.kp) hn (hL.kp hs28.kp) hm (hG.kp hs28.kp (by simp)) hb hpl) fun _ _ hs29 => ?_); clear hs28
     refine sq rfl (st_assign hs29 (Ev.t 0 rfl) rfl rfl fun _ _ hs30 => ?_); clear hs29
     refine hK15 _ _ ?_; clear hK15
     have hs31 := Sx.keepT [0, 5, 6] [_, _, _] ⟨rfl, rfl, rfl, trivial⟩ hs30; clear hs30
     refine cd_seq fun K16 hK16 => ?_
     refine cd_region fun K17 hK17 => ?_
     refine sq rfl (st_move hs31 (Ev.t 0 rfl) rfl rfl fun _ _ hs32 => ?_); clear hs31
     refine sq rfl (st_cmp (c := decide ((b.failsI plan : Int) < 0)) hs32 (Ev.t 0 rfl) (.const _) rfl rfl rfl rfl fun _ _ hs33 => ?_); clear hs32
     refine hK17 _ _ ?_; clear hK17
     have hs34 := Sx.keepT [0, 2, 3, 4] [_, _, _, _] ⟨rfl, rfl, rfl, rfl, trivial⟩ hs33; clear hs33
     refine cd_cond hs34 (Ev.t 0 rfl) (fun hc18 => ?_) (fun hc18 => ?_)
     · refine cd_region fun K19 hK19 => ?_
       have hs35 := Sx.keepT [0, 1, 2] [_, _, _] ⟨rfl, rfl, rfl, trivial⟩ hs34; clear hs34
       refine sq rfl (st_assign hs35 (.const _) rfl rfl fun _ _ hs36 => ?_); clear hs35
       have hs37 := Sx.keepT [0, 1, 2] [_, _, _] ⟨rfl, rfl, rfl, trivial⟩ hs36; clear hs36
       refine sq rfl (st_assign hs37 (.const _) rfl rfl fun _ _ hs38 => ?_); clear hs37
       refine hK19 _ _ ?_; clear hK19
       have hs39 := Sx.keepT [0, 1] [_, _] ⟨rfl, rfl, trivial⟩ hs38; clear hs38
       refine cd_retv (vs := [.int .i64 0, .int .i64 4]) hs39 (fun a_ w_ h => th_ret (hQ0 a_ w_ h)) rfl ⟨.tmp 1 rfl, .tmp 0 rfl, trivial⟩ ?_
       clear hs39 hQ0 hN0 hK16
       simp_all [pack, Book.failsR]
       all_goals (first | omega | (repeat rw [if_neg (by omega)]; first | done | rfl | exact ⟨rfl, rfl⟩))
     · refine cd_skip ?_
       refine th_norm (hK16 _ _ ?_)
       refine cd_region fun K20 hK20 => ?_
       refine sq rfl (st_move hs34 (Ev.t 1 rfl) rfl rfl fun _ _ hs35 => ?_); clear hs34
       have hs36 := Sx.keepT [0, 1, 2, 3] [_, _, _, _] ⟨rfl, rfl, rfl, rfl, trivial⟩ hs35; clear hs35
       refine sq rfl (st_assign hs36 (Ev.t 0 rfl) rfl rfl fun _ _ hs37 => ?_); clear hs36
       have hs38 := Sx.keepT [0, 1, 2, 3] [_, _, _, _] ⟨rfl, rfl, rfl, rfl, trivial⟩ hs37; clear hs37
       refine sq rfl (st_assign hs38 (.const _) rfl rfl fun _ _ hs39 => ?_); clear hs38
       refine hK20 _ _ ?_; clear hK20
       have hs40 := Sx.keepT [0, 1] [_, _] ⟨rfl, rfl, trivial⟩ hs39; clear hs39
       refine cd_retv (vs := [.int .i64 (b.failsI plan), .int .i64 0]) hs40 hQ0 rfl ⟨.tmp 1 rfl, .tmp 0 rfl, trivial⟩ ?_
       clear hs40 hQ0 hN0
       simp_all [pack, Book.failsR]
       all_goals (first | omega | (repeat rw [if_neg (by omega)]; first | done | rfl | exact ⟨rfl, rfl⟩))
end Go.Proofs.YtdbcedmofoakmaaDoor
