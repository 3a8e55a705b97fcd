/- The till: checks, spans of what can be sold, parts of takings, truths. -/
import Derived.Test.YtcnndpedeofbmaaDoorUa
set_option maxRecDepth 100000
namespace Go.Proofs.YtcnndpedeofbmaaDoor
open Go Go.Sx Go.Till Go.Proofs.Tryd
theorem check_v (b : Bx) (A : Option Addr) (n cp : Nat) (A2 : Option Addr) (n2 c2 : Nat) (w : World) (hP : RollsAt w A n b.rolls) (hn : n ≤ 140737488351232) (hF : SpsAt w A2 n2 b.free) (hn2 : n2 ≤ 140737488351232) :
    CallsV Tryd.prog 29 [.agg ⟨(bxL b A n cp A2 n2 c2)⟩] w (.int .i64 (if b.ok then 0 else 90)) := by
 refine enter (N := 94) (M := []) w func29 rfl rfl rfl (fun Q0 a_0 hQ0 hN0 hs0 => ?_)
 refine cd_region fun K1 hK1 => ?_
 refine sq rfl (st_box hs0 (Ev.t 0 rfl) rfl rfl rfl fun b2 _ _ hs1 => ?_); clear hs0
 refine sq rfl (st_assign hs1 (.const _) rfl rfl fun _ _ hs2 => ?_); clear hs1
 refine hK1 _ _ ?_; clear hK1
 have hs3 := hs2.keep [0, 1] [_, _] rfl; clear hs2
 refine cd_region fun K3 hK3 => ?_
 refine sq rfl (st_field (o' := 0) hs3 (Ev.t 1 rfl) rfl rfl runUnderlying25 rfl sizeOf22 rfl rfl fun _ _ hs4 => ?_); clear hs3
 refine sq rfl (st_load1 (o := 0) (off := 0) (v := .slice A n cp) hs4 (Ev.t 0 rfl) rfl rfl isAgg22 (hs4.cells 0 rfl) rfl fun _ _ hs5 => ?_); clear hs4
 refine sq rfl (st_len hs5 (Ev.t 0 rfl) rfl rfl runUnderlying22 fun _ _ hs6 => ?_); clear hs5
 refine sq rfl (st_callv (vs := [.int .i64 (n : Int), .int .i64 1, .int .i64 4]) hs6 (.func _) ⟨(Ev.t 0 rfl), (.const _), (.const _), trivial⟩ rfl rfl call57 rfl (inside_v (n : Int) 1 4 _) fun _ _ hs7 => ?_); clear hs6
 refine sq rfl (st_move hs7 (Ev.t 0 rfl) rfl rfl fun _ _ hs8 => ?_); clear hs7
 refine sq_gv hs8 (gg := within (n : Int) 1 4) (v := .pointer (some ⟨b2, 1, none⟩)) rfl rfl 0 rfl (ison_t _) rfl rfl rfl (fun hg4 K5 hK5 => st_field (o' := 1) hs8 (Ev.t 6 rfl) rfl rfl runUnderlying25 rfl sizeOf23 rfl rfl hK5) fun _ _ hs9 => ?_; clear hs8
 refine sq_gv hs9 (gg := within (n : Int) 1 4) (v := .slice A2 n2 c2) rfl rfl 1 rfl (ison_t _) rfl rfl rfl (fun hg6 K7 hK7 => st_load1 (o := 0) (off := 1) (v := .slice A2 n2 c2) hs9 ((Ev.t 0 rfl).un hg6) rfl rfl isAgg23 (hs9.cells 0 rfl) rfl hK7) fun _ _ hs10 => ?_; clear hs9
 refine sq_gv hs10 (gg := within (n : Int) 1 4) (v := .int .i64 (n2 : Int)) rfl rfl 2 rfl (ison_t _) rfl rfl rfl (fun hg8 K9 hK9 => st_len hs10 ((Ev.t 0 rfl).un hg8) rfl rfl runUnderlying23 hK9) fun _ _ hs11 => ?_; clear hs10
 refine sq_gv hs11 (gg := within (n : Int) 1 4) (v := .pointer (some ⟨b2, 0, none⟩)) rfl rfl 3 rfl (ison_t _) rfl rfl rfl (fun hg10 K11 hK11 => st_field (o' := 0) hs11 (Ev.t 9 rfl) rfl rfl runUnderlying25 rfl sizeOf22 rfl rfl hK11) fun _ _ hs12 => ?_; clear hs11
 refine sq_gv hs12 (gg := within (n : Int) 1 4) (v := .slice A n cp) rfl rfl 4 rfl (ison_t _) rfl rfl rfl (fun hg12 K13 hK13 => st_load1 (o := 0) (off := 0) (v := .slice A n cp) hs12 ((Ev.t 0 rfl).un hg12) rfl rfl isAgg22 (hs12.cells 0 rfl) rfl hK13) fun _ _ hs13 => ?_; clear hs12
 refine sq_gv hs13 (gg := within (n : Int) 1 4) (v := .int .i64 (n : Int)) rfl rfl 5 rfl (ison_t _) rfl rfl rfl (fun hg14 K15 hK15 => st_len hs13 ((Ev.t 0 rfl).un hg14) rfl rfl runUnderlying22 hK15) fun _ _ hs14 => ?_; clear hs13
 refine sq_gv hs14 (gg := within (n : Int) 1 4) (v := .bool (((n2 : Int) : Int) == (n : Int))) rfl rfl 6 rfl (ison_t _) rfl rfl rfl (fun hg16 K17 hK17 => st_cmp (c := ((n2 : Int) : Int) == (n : Int)) hs14 ((Ev.t 3 rfl).un hg16) ((Ev.t 0 rfl).un hg16) rfl rfl rfl rfl hK17) fun _ _ hs15 => ?_; clear hs14
 refine sq rfl (st_and hs15 (gx := true) (gy := within (n : Int) 1 4) (Ev.t 7 rfl) rfl (Ev.t 0 rfl) (fun h => h) rfl rfl fun _ _ hs16 => ?_); clear hs15
 refine sq rfl (st_move hs16 (Ev.t 0 rfl) rfl rfl fun _ _ hs17 => ?_); clear hs16
 refine sq_gv hs17 (gg := (within (n : Int) 1 4) && (((n2 : Int) : Int) == (n : Int))) (v := .pointer (some ⟨b2, 2, none⟩)) rfl rfl 0 rfl (ison_t _) rfl rfl rfl (fun hg18 K19 hK19 => st_field (o' := 2) hs17 (Ev.t 15 rfl) rfl rfl runUnderlying25 rfl sizeOf3 rfl rfl hK19) fun _ _ hs18 => ?_; clear hs17
 refine sq_gv hs18 (gg := (within (n : Int) 1 4) && (((n2 : Int) : Int) == (n : Int))) (v := .int .i64 b.count) rfl rfl 1 rfl (ison_t _) rfl rfl rfl (fun hg20 K21 hK21 => st_load1 (o := 0) (off := 2) (v := .int .i64 b.count) hs18 ((Ev.t 0 rfl).un hg20) rfl rfl isAgg3 (hs18.cells 0 rfl) rfl hK21) fun _ _ hs19 => ?_; clear hs18
 refine sq_gv hs19 (gg := (within (n : Int) 1 4) && (((n2 : Int) : Int) == (n : Int))) (v := .bool (within b.count 0 60000)) rfl rfl 2 rfl (ison_t _) rfl rfl rfl (fun hg22 K23 hK23 => st_callv (vs := [.int .i64 b.count, .int .i64 0, .int .i64 60000]) hs19 (.func _) ⟨((Ev.t 0 rfl).un hg22), (.const _), (.const _), trivial⟩ rfl rfl call57 rfl (inside_v b.count 0 60000 _) hK23) fun _ _ hs20 => ?_; clear hs19
 refine sq rfl (st_and hs20 (gx := true) (gy := (within (n : Int) 1 4) && (((n2 : Int) : Int) == (n : Int))) (Ev.t 3 rfl) rfl (Ev.t 0 rfl) (fun h => h) rfl rfl fun _ _ hs21 => ?_); clear hs20
 refine sq rfl (st_move hs21 (Ev.t 0 rfl) rfl rfl fun _ _ hs22 => ?_); clear hs21
 refine sq_gv hs22 (gg := ((within (n : Int) 1 4) && (((n2 : Int) : Int) == (n : Int))) && (within b.count 0 60000)) (v := .pointer (some ⟨b2, 3, none⟩)) rfl rfl 0 rfl (ison_t _) rfl rfl rfl (fun hg24 K25 hK25 => st_field (o' := 3) hs22 (Ev.t 20 rfl) rfl rfl runUnderlying25 rfl sizeOf3 rfl rfl hK25) fun _ _ hs23 => ?_; clear hs22
 refine sq_gv hs23 (gg := ((within (n : Int) 1 4) && (((n2 : Int) : Int) == (n : Int))) && (within b.count 0 60000)) (v := .int .i64 b.err) rfl rfl 1 rfl (ison_t _) rfl rfl rfl (fun hg26 K27 hK27 => st_load1 (o := 0) (off := 3) (v := .int .i64 b.err) hs23 ((Ev.t 0 rfl).un hg26) rfl rfl isAgg3 (hs23.cells 0 rfl) rfl hK27) fun _ _ hs24 => ?_; clear hs23
 refine sq_gv hs24 (gg := ((within (n : Int) 1 4) && (((n2 : Int) : Int) == (n : Int))) && (within b.count 0 60000)) (v := .bool (within b.err 0 200)) rfl rfl 2 rfl (ison_t _) rfl rfl rfl (fun hg28 K29 hK29 => st_callv (vs := [.int .i64 b.err, .int .i64 0, .int .i64 200]) hs24 (.func _) ⟨((Ev.t 0 rfl).un hg28), (.const _), (.const _), trivial⟩ rfl rfl call57 rfl (inside_v b.err 0 200 _) hK29) fun _ _ hs25 => ?_; clear hs24
 refine sq rfl (st_and hs25 (gx := true) (gy := ((within (n : Int) 1 4) && (((n2 : Int) : Int) == (n : Int))) && (within b.count 0 60000)) (Ev.t 3 rfl) rfl (Ev.t 0 rfl) (fun h => h) rfl rfl fun _ _ hs26 => ?_); clear hs25
 refine sq rfl (st_move hs26 (Ev.t 0 rfl) rfl rfl fun _ _ hs27 => ?_); clear hs26
 refine sq_gv hs27 (gg := (((within (n : Int) 1 4) && (((n2 : Int) : Int) == (n : Int))) && (within b.count 0 60000)) && (within b.err 0 200)) (v := .pointer (some ⟨b2, 4, none⟩)) rfl rfl 0 rfl (ison_t _) rfl rfl rfl (fun hg30 K31 hK31 => st_field (o' := 4) hs27 (Ev.t 25 rfl) rfl rfl runUnderlying25 rfl sizeOf3 rfl rfl hK31) fun _ _ hs28 => ?_; clear hs27
 refine sq_gv hs28 (gg := (((within (n : Int) 1 4) && (((n2 : Int) : Int) == (n : Int))) && (within b.count 0 60000)) && (within b.err 0 200)) (v := .int .i64 b.duty) rfl rfl 1 rfl (ison_t _) rfl rfl rfl (fun hg32 K33 hK33 => st_load1 (o := 0) (off := 4) (v := .int .i64 b.duty) hs28 ((Ev.t 0 rfl).un hg32) rfl rfl isAgg3 (hs28.cells 0 rfl) rfl hK33) fun _ _ hs29 => ?_; clear hs28
 refine sq_gv hs29 (gg := (((within (n : Int) 1 4) && (((n2 : Int) : Int) == (n : Int))) && (within b.count 0 60000)) && (within b.err 0 200)) (v := .bool (within b.duty 0 100)) rfl rfl 2 rfl (ison_t _) rfl rfl rfl (fun hg34 K35 hK35 => st_callv (vs := [.int .i64 b.duty, .int .i64 0, .int .i64 100]) hs29 (.func _) ⟨((Ev.t 0 rfl).un hg34), (.const _), (.const _), trivial⟩ rfl rfl call57 rfl (inside_v b.duty 0 100 _) hK35) fun _ _ hs30 => ?_; clear hs29
 refine sq rfl (st_and hs30 (gx := true) (gy := (((within (n : Int) 1 4) && (((n2 : Int) : Int) == (n : Int))) && (within b.count 0 60000)) && (within b.err 0 200)) (Ev.t 3 rfl) rfl (Ev.t 0 rfl) (fun h => h) rfl rfl fun _ _ hs31 => ?_); clear hs30
 refine sq rfl (st_move hs31 (Ev.t 0 rfl) rfl rfl fun _ _ hs32 => ?_); clear hs31
 refine sq_gv hs32 (gg := ((((within (n : Int) 1 4) && (((n2 : Int) : Int) == (n : Int))) && (within b.count 0 60000)) && (within b.err 0 200)) && (within b.duty 0 100)) (v := .pointer (some ⟨b2, 5, none⟩)) rfl rfl 0 rfl (ison_t _) rfl rfl rfl (fun hg36 K37 hK37 => st_field (o' := 5) hs32 (Ev.t 30 rfl) rfl rfl runUnderlying25 rfl sizeOf3 rfl rfl hK37) fun _ _ hs33 => ?_; clear hs32
 refine sq_gv hs33 (gg := ((((within (n : Int) 1 4) && (((n2 : Int) : Int) == (n : Int))) && (within b.count 0 60000)) && (within b.err 0 200)) && (within b.duty 0 100)) (v := .int .i64 b.share) rfl rfl 1 rfl (ison_t _) rfl rfl rfl (fun hg38 K39 hK39 => st_load1 (o := 0) (off := 5) (v := .int .i64 b.share) hs33 ((Ev.t 0 rfl).un hg38) rfl rfl isAgg3 (hs33.cells 0 rfl) rfl hK39) fun _ _ hs34 => ?_; clear hs33
 refine sq_gv hs34 (gg := ((((within (n : Int) 1 4) && (((n2 : Int) : Int) == (n : Int))) && (within b.count 0 60000)) && (within b.err 0 200)) && (within b.duty 0 100)) (v := .bool (within b.share 0 100)) rfl rfl 2 rfl (ison_t _) rfl rfl rfl (fun hg40 K41 hK41 => st_callv (vs := [.int .i64 b.share, .int .i64 0, .int .i64 100]) hs34 (.func _) ⟨((Ev.t 0 rfl).un hg40), (.const _), (.const _), trivial⟩ rfl rfl call57 rfl (inside_v b.share 0 100 _) hK41) fun _ _ hs35 => ?_; clear hs34
 refine sq rfl (st_and hs35 (gx := true) (gy := ((((within (n : Int) 1 4) && (((n2 : Int) : Int) == (n : Int))) && (within b.count 0 60000)) && (within b.err 0 200)) && (within b.duty 0 100)) (Ev.t 3 rfl) rfl (Ev.t 0 rfl) (fun h => h) rfl rfl fun _ _ hs36 => ?_); clear hs35
 refine sq rfl (st_move hs36 (Ev.t 0 rfl) rfl rfl fun _ _ hs37 => ?_); clear hs36
 refine sq_gv hs37 (gg := (((((within (n : Int) 1 4) && (((n2 : Int) : Int) == (n : Int))) && (within b.count 0 60000)) && (within b.err 0 200)) && (within b.duty 0 100)) && (within b.share 0 100)) (v := .pointer (some ⟨b2, 6, none⟩)) rfl rfl 0 rfl (ison_t _) rfl rfl rfl (fun hg42 K43 hK43 => st_field (o' := 6) hs37 (Ev.t 35 rfl) rfl rfl runUnderlying25 rfl sizeOf3 rfl rfl hK43) fun _ _ hs38 => ?_; clear hs37
 refine sq_gv hs38 (gg := (((((within (n : Int) 1 4) && (((n2 : Int) : Int) == (n : Int))) && (within b.count 0 60000)) && (within b.err 0 200)) && (within b.duty 0 100)) && (within b.share 0 100)) (v := .int .i64 b.guar) rfl rfl 1 rfl (ison_t _) rfl rfl rfl (fun hg44 K45 hK45 => st_load1 (o := 0) (off := 6) (v := .int .i64 b.guar) hs38 ((Ev.t 0 rfl).un hg44) rfl rfl isAgg3 (hs38.cells 0 rfl) rfl hK45) fun _ _ hs39 => ?_; clear hs38
 refine sq_gv hs39 (gg := (((((within (n : Int) 1 4) && (((n2 : Int) : Int) == (n : Int))) && (within b.count 0 60000)) && (within b.err 0 200)) && (within b.duty 0 100)) && (within b.share 0 100)) (v := .bool (within b.guar 0 60000)) rfl rfl 2 rfl (ison_t _) rfl rfl rfl (fun hg46 K47 hK47 => st_callv (vs := [.int .i64 b.guar, .int .i64 0, .int .i64 60000]) hs39 (.func _) ⟨((Ev.t 0 rfl).un hg46), (.const _), (.const _), trivial⟩ rfl rfl call57 rfl (inside_v b.guar 0 60000 _) hK47) fun _ _ hs40 => ?_; clear hs39
 refine sq rfl (st_and hs40 (gx := true) (gy := (((((within (n : Int) 1 4) && (((n2 : Int) : Int) == (n : Int))) && (within b.count 0 60000)) && (within b.err 0 200)) && (within b.duty 0 100)) && (within b.share 0 100)) (Ev.t 3 rfl) rfl (Ev.t 0 rfl) (fun h => h) rfl rfl fun _ _ hs41 => ?_); clear hs40
 refine sq rfl (st_assign hs41 (Ev.t 0 rfl) rfl rfl fun _ _ hs42 => ?_); clear hs41
 refine hK3 _ _ ?_; clear hK3
 have hs43 := hs42.keep [0, 39, 40] [_, _, _] rfl; clear hs42
 refine cd_seq fun K48 hK48 => ?_
 have hs44 := Sx.keepE [0, 1, 2] [(3, .bool (b.ok0 (n : Int) (n2 : Int))), (2, _), (1, _)] ⟨⟨_, rfl, rfl⟩, ⟨_, rfl, rfl⟩, ⟨_, rfl, rfl⟩, trivial⟩ hs43; clear hs43
 refine cd_region fun K49 hK49 => ?_
 refine sq rfl (st_field (o' := 0) hs44 (Ev.t 2 rfl) rfl rfl runUnderlying25 rfl sizeOf22 rfl rfl fun _ _ hs45 => ?_); clear hs44
 refine sq rfl (st_load1 (o := 0) (off := 0) (v := .slice A n cp) hs45 (Ev.t 0 rfl) rfl rfl isAgg22 (hs45.cells 0 rfl) rfl fun _ _ hs46 => ?_); clear hs45
 refine sq rfl (st_len hs46 (Ev.t 0 rfl) rfl rfl runUnderlying22 fun _ _ hs47 => ?_); clear hs46
 refine sq rfl (st_move hs47 (.const _) rfl rfl fun _ _ hs48 => ?_); clear hs47
 refine hK49 _ _ ?_; clear hK49
 have hs49 := hs48.keep [0, 1, 2, 4, 5, 6] [_, _, _, _, _, _] rfl; clear hs48
 refine cd_block ?_
 have hs50 : Sx 94 [] [(49, .int .i64 (0 : Int)), (48, .int .i64 (n : Int)), (47, .slice A n cp), (3, .bool (b.ok0 (n : Int) (n2 : Int) && (b.rolls.take 0).all Roll.ok)), (2, .int .i64 0), (1, .pointer (some ⟨b2, 0, none⟩))] [(b2, some (.cells ⟨(bxL b A n cp A2 n2 c2)⟩ 25 (0, 0)))] [] w _ _ := Sx.keepE [0, 1, 2, 3, 4, 5] _ ⟨⟨_, rfl, rfl⟩, ⟨_, rfl, rfl⟩, ⟨_, rfl, rfl⟩, ⟨_, rfl, by simp⟩, ⟨_, rfl, rfl⟩, ⟨_, rfl, rfl⟩, trivial⟩ hs49; clear hs49
 refine cd_loop (X := Nat) (fun i a_ w_ => (i ≤ n) ∧ Sx 94 [] [(49, .int .i64 (i : Int)), (48, .int .i64 (n : Int)), (47, .slice A n cp), (3, .bool (b.ok0 (n : Int) (n2 : Int) && (b.rolls.take i).all Roll.ok)), (2, .int .i64 0), (1, .pointer (some ⟨b2, 0, none⟩))] [(b2, some (.cells ⟨(bxL b A n cp A2 n2 c2)⟩ 25 (0, 0)))] [] w a_ w_) (fun i => n - i) (0) ⟨?_, hs50⟩ ?_
 · first | omega | simp
 intro i a_51 w_51 ⟨hi, hs51⟩; clear hs50
 refine cd_region fun K50 hK50 => ?_
 refine sq rfl (st_cmp (c := decide (((i : Int) : Int) < (n : Int))) hs51 (Ev.t 0 rfl) (Ev.t 1 rfl) rfl rfl rfl rfl fun _ _ hs52 => ?_); clear hs51
 refine hK50 _ _ ?_; clear hK50
 refine cd_seq fun K51 hK51 => ?_
 refine cd_cond hs52 (Ev.t 0 rfl) (fun hc52 => ?_) (fun hc52 => ?_)
 · simp only [decide_eq_true_eq] at hc52
   refine cd_skip ?_
   refine th_norm (hK51 _ _ ?_)
   refine cd_seq fun K53 hK53 => ?_
   refine cd_block ?_
   refine cd_region fun K54 hK54 => ?_
   obtain ⟨x55, hx55⟩ : ∃ x, b.rolls[i]? = some x := ⟨_, List.getElem?_eq_getElem (by have := hP.len; omega)⟩
   obtain ⟨b56, o56, hA56, -, hc56⟩ := hP.el i x55 hx55
   refine sq rfl (st_indexM (o' := o56 + i * 5) hs52 (Ev.t 3 rfl) (Ev.t 1 rfl) rfl rfl hA56 runUnderlying22 sizeOf46 ⟨by omega, by have := hP.len; have := (List.getElem?_eq_some_iff.1 hx55).1; omega⟩ rfl fun _ _ hs53 => ?_); clear hs52
   refine sq rfl (st_loadA (o := o56 + i * 5) (off := 0) (vs := (rollL x55)) hs53 (Ev.t 0 rfl) rfl rfl isAgg46 sizeOf46 (hs53.old hc56 (by simp)) rfl fun _ _ hs54 => ?_); clear hs53
   refine sq rfl (st_alloc hs54 rfl rfl zeroValue46 rfl fun b57 _ _ hs55 => ?_); clear hs54
   refine sq rfl (st_store (l' := (rollL x55)) (vs := (rollL x55)) (i := 0) hs55 (Ev.t 0 rfl) (Ev.t 1 rfl) sizeOf46 rfl rfl rfl rfl rfl rfl fun _ _ hs56 => ?_); clear hs55
   have hs57 := hs56.asB [_, _] rfl; clear hs56
   refine hK54 _ _ ?_; clear hK54
   have hs58 := hs57.keep [0, 4, 5, 6, 7, 8, 9] [_, _, _, _, _, _, _] rfl; clear hs57
   refine cd_region1 ?_
   refine sq rfl (st_move hs58 (Ev.t 4 rfl) rfl rfl fun _ _ hs59 => ?_); clear hs58
   refine sq rfl (st_move hs59 (Ev.t 0 rfl) rfl rfl fun _ _ hs60 => ?_); clear hs59
   refine sq_gv hs60 (gg := b.ok0 (n : Int) (n2 : Int) && (b.rolls.take i).all Roll.ok) (v := .pointer (some ⟨b57, 0, none⟩)) rfl rfl 0 rfl (ison_t _) rfl rfl rfl (fun hg58 K59 hK59 => st_field (o' := 0) hs60 (Ev.t 2 rfl) rfl rfl runUnderlying46 rfl sizeOf3 rfl rfl hK59) fun _ _ hs61 => ?_; clear hs60
   refine sq_gv hs61 (gg := b.ok0 (n : Int) (n2 : Int) && (b.rolls.take i).all Roll.ok) (v := .int .i64 x55.price) rfl rfl 1 rfl (ison_t _) rfl rfl rfl (fun hg60 K61 hK61 => st_load1 (o := 0) (off := 0) (v := .int .i64 x55.price) hs61 ((Ev.t 0 rfl).un hg60) rfl rfl isAgg3 (hs61.cells 0 rfl) rfl hK61) fun _ _ hs62 => ?_; clear hs61
   refine sq_gv hs62 (gg := b.ok0 (n : Int) (n2 : Int) && (b.rolls.take i).all Roll.ok) (v := .bool (within x55.price 1 50)) rfl rfl 2 rfl (ison_t _) rfl rfl rfl (fun hg62 K63 hK63 => st_callv (vs := [.int .i64 x55.price, .int .i64 1, .int .i64 50]) hs62 (.func _) ⟨((Ev.t 0 rfl).un hg62), (.const _), (.const _), trivial⟩ rfl rfl call57 rfl (inside_v x55.price 1 50 _) hK63) fun _ _ hs63 => ?_; clear hs62
   refine sq rfl (st_and hs63 (gx := true) (gy := b.ok0 (n : Int) (n2 : Int) && (b.rolls.take i).all Roll.ok) (Ev.t 3 rfl) rfl (Ev.t 0 rfl) (fun h => h) rfl rfl fun _ _ hs64 => ?_); clear hs63
   refine sq rfl (st_move hs64 (Ev.t 0 rfl) rfl rfl fun _ _ hs65 => ?_); clear hs64
   refine sq_gv hs65 (gg := (b.ok0 (n : Int) (n2 : Int) && (b.rolls.take i).all Roll.ok) && (within x55.price 1 50)) (v := .pointer (some ⟨b57, 1, none⟩)) rfl rfl 0 rfl (ison_t _) rfl rfl rfl (fun hg64 K65 hK65 => st_field (o' := 1) hs65 (Ev.t 7 rfl) rfl rfl runUnderlying46 rfl sizeOf35 rfl rfl hK65) fun _ _ hs66 => ?_; clear hs65
   refine sq_gv hs66 (gg := (b.ok0 (n : Int) (n2 : Int) && (b.rolls.take i).all Roll.ok) && (within x55.price 1 50)) (v := .agg ⟨[.int .i64 x55.first.lo, .int .i64 x55.first.hi]⟩) rfl rfl 1 rfl (ison_t _) rfl rfl rfl (fun hg66 K67 hK67 => st_loadA (o := 0) (off := 1) (vs := [.int .i64 x55.first.lo, .int .i64 x55.first.hi]) hs66 ((Ev.t 0 rfl).un hg66) rfl rfl isAgg35 sizeOf35 (hs66.cells 0 rfl) rfl hK67) fun _ _ hs67 => ?_; clear hs66
   refine sq_gv hs67 (gg := (b.ok0 (n : Int) (n2 : Int) && (b.rolls.take i).all Roll.ok) && (within x55.price 1 50)) (v := .bool (spanned x55.first.lo x55.first.hi 0 300)) rfl rfl 2 rfl (ison_t _) rfl rfl rfl (fun hg68 K69 hK69 => st_callv (vs := [.agg ⟨[.int .i64 x55.first.lo, .int .i64 x55.first.hi]⟩, .int .i64 0, .int .i64 300]) hs67 (.func _) ⟨((Ev.t 0 rfl).un hg68), (.const _), (.const _), trivial⟩ rfl rfl call58 rfl (spanned_v x55.first.lo x55.first.hi 0 300 _ (by omega)) hK69) fun _ _ hs68 => ?_; clear hs67
   refine sq rfl (st_and hs68 (gx := true) (gy := (b.ok0 (n : Int) (n2 : Int) && (b.rolls.take i).all Roll.ok) && (within x55.price 1 50)) (Ev.t 3 rfl) rfl (Ev.t 0 rfl) (fun h => h) rfl rfl fun _ _ hs69 => ?_); clear hs68
   refine sq rfl (st_move hs69 (Ev.t 0 rfl) rfl rfl fun _ _ hs70 => ?_); clear hs69
   refine sq_gv hs70 (gg := ((b.ok0 (n : Int) (n2 : Int) && (b.rolls.take i).all Roll.ok) && (within x55.price 1 50)) && (spanned x55.first.lo x55.first.hi 0 300)) (v := .pointer (some ⟨b57, 3, none⟩)) rfl rfl 0 rfl (ison_t _) rfl rfl rfl (fun hg70 K71 hK71 => st_field (o' := 3) hs70 (Ev.t 12 rfl) rfl rfl runUnderlying46 rfl sizeOf35 rfl rfl hK71) fun _ _ hs71 => ?_; clear hs70
   refine sq_gv hs71 (gg := ((b.ok0 (n : Int) (n2 : Int) && (b.rolls.take i).all Roll.ok) && (within x55.price 1 50)) && (spanned x55.first.lo x55.first.hi 0 300)) (v := .agg ⟨[.int .i64 x55.fin.lo, .int .i64 x55.fin.hi]⟩) rfl rfl 1 rfl (ison_t _) rfl rfl rfl (fun hg72 K73 hK73 => st_loadA (o := 0) (off := 3) (vs := [.int .i64 x55.fin.lo, .int .i64 x55.fin.hi]) hs71 ((Ev.t 0 rfl).un hg72) rfl rfl isAgg35 sizeOf35 (hs71.cells 0 rfl) rfl hK73) fun _ _ hs72 => ?_; clear hs71
   refine sq_gv hs72 (gg := ((b.ok0 (n : Int) (n2 : Int) && (b.rolls.take i).all Roll.ok) && (within x55.price 1 50)) && (spanned x55.first.lo x55.first.hi 0 300)) (v := .bool (spanned x55.fin.lo x55.fin.hi 0 300)) rfl rfl 2 rfl (ison_t _) rfl rfl rfl (fun hg74 K75 hK75 => st_callv (vs := [.agg ⟨[.int .i64 x55.fin.lo, .int .i64 x55.fin.hi]⟩, .int .i64 0, .int .i64 300]) hs72 (.func _) ⟨((Ev.t 0 rfl).un hg74), (.const _), (.const _), trivial⟩ rfl rfl call58 rfl (spanned_v x55.fin.lo x55.fin.hi 0 300 _ (by omega)) hK75) fun _ _ hs73 => ?_; clear hs72
   refine sq rfl (st_and hs73 (gx := true) (gy := ((b.ok0 (n : Int) (n2 : Int) && (b.rolls.take i).all Roll.ok) && (within x55.price 1 50)) && (spanned x55.first.lo x55.first.hi 0 300)) (Ev.t 3 rfl) rfl (Ev.t 0 rfl) (fun h => h) rfl rfl fun _ _ hs74 => ?_); clear hs73
   refine sq rfl (st_move hs74 (Ev.t 0 rfl) rfl rfl fun _ _ hs75 => ?_); clear hs74
   refine sq_gv hs75 (gg := (((b.ok0 (n : Int) (n2 : Int) && (b.rolls.take i).all Roll.ok) && (within x55.price 1 50)) && (spanned x55.first.lo x55.first.hi 0 300)) && (spanned x55.fin.lo x55.fin.hi 0 300)) (v := .pointer (some ⟨b57, 1, none⟩)) rfl rfl 0 rfl (ison_t _) rfl rfl rfl (fun hg76 K77 hK77 => st_field (o' := 1) hs75 (Ev.t 17 rfl) rfl rfl runUnderlying46 rfl sizeOf35 rfl rfl hK77) fun _ _ hs76 => ?_; clear hs75
   refine sq_gv hs76 (gg := (((b.ok0 (n : Int) (n2 : Int) && (b.rolls.take i).all Roll.ok) && (within x55.price 1 50)) && (spanned x55.first.lo x55.first.hi 0 300)) && (spanned x55.fin.lo x55.fin.hi 0 300)) (v := .pointer (some ⟨b57, 1, none⟩)) rfl rfl 1 rfl (ison_t _) rfl rfl rfl (fun hg78 K79 hK79 => st_field (o' := 1) hs76 ((Ev.t 0 rfl).un hg78) rfl rfl runUnderlying35 rfl sizeOf3 rfl rfl hK79) fun _ _ hs77 => ?_; clear hs76
   refine sq_gv hs77 (gg := (((b.ok0 (n : Int) (n2 : Int) && (b.rolls.take i).all Roll.ok) && (within x55.price 1 50)) && (spanned x55.first.lo x55.first.hi 0 300)) && (spanned x55.fin.lo x55.fin.hi 0 300)) (v := .int .i64 x55.first.lo) rfl rfl 2 rfl (ison_t _) rfl rfl rfl (fun hg80 K81 hK81 => st_load1 (o := 0) (off := 1) (v := .int .i64 x55.first.lo) hs77 ((Ev.t 0 rfl).un hg80) rfl rfl isAgg3 (hs77.cells 0 rfl) rfl hK81) fun _ _ hs78 => ?_; clear hs77
   refine sq_gv hs78 (gg := (((b.ok0 (n : Int) (n2 : Int) && (b.rolls.take i).all Roll.ok) && (within x55.price 1 50)) && (spanned x55.first.lo x55.first.hi 0 300)) && (spanned x55.fin.lo x55.fin.hi 0 300)) (v := .pointer (some ⟨b57, 3, none⟩)) rfl rfl 3 rfl (ison_t _) rfl rfl rfl (fun hg82 K83 hK83 => st_field (o' := 3) hs78 (Ev.t 20 rfl) rfl rfl runUnderlying46 rfl sizeOf35 rfl rfl hK83) fun _ _ hs79 => ?_; clear hs78
   refine sq_gv hs79 (gg := (((b.ok0 (n : Int) (n2 : Int) && (b.rolls.take i).all Roll.ok) && (within x55.price 1 50)) && (spanned x55.first.lo x55.first.hi 0 300)) && (spanned x55.fin.lo x55.fin.hi 0 300)) (v := .pointer (some ⟨b57, 4, none⟩)) rfl rfl 4 rfl (ison_t _) rfl rfl rfl (fun hg84 K85 hK85 => st_field (o' := 4) hs79 ((Ev.t 0 rfl).un hg84) rfl rfl runUnderlying35 rfl sizeOf3 rfl rfl hK85) fun _ _ hs80 => ?_; clear hs79
   refine sq_gv hs80 (gg := (((b.ok0 (n : Int) (n2 : Int) && (b.rolls.take i).all Roll.ok) && (within x55.price 1 50)) && (spanned x55.first.lo x55.first.hi 0 300)) && (spanned x55.fin.lo x55.fin.hi 0 300)) (v := .int .i64 x55.fin.hi) rfl rfl 5 rfl (ison_t _) rfl rfl rfl (fun hg86 K87 hK87 => st_load1 (o := 0) (off := 4) (v := .int .i64 x55.fin.hi) hs80 ((Ev.t 0 rfl).un hg86) rfl rfl isAgg3 (hs80.cells 0 rfl) rfl hK87) fun _ _ hs81 => ?_; clear hs80
   refine sq_gv hs81 (gg := (((b.ok0 (n : Int) (n2 : Int) && (b.rolls.take i).all Roll.ok) && (within x55.price 1 50)) && (spanned x55.first.lo x55.first.hi 0 300)) && (spanned x55.fin.lo x55.fin.hi 0 300)) (v := .bool (decide ((x55.first.lo : Int) ≤ x55.fin.hi))) rfl rfl 6 rfl (ison_t _) rfl rfl rfl (fun hg88 K89 hK89 => st_cmp (c := decide ((x55.first.lo : Int) ≤ x55.fin.hi)) hs81 ((Ev.t 3 rfl).un hg88) ((Ev.t 0 rfl).un hg88) rfl rfl rfl rfl hK89) fun _ _ hs82 => ?_; clear hs81
   refine sq rfl (st_and hs82 (gx := true) (gy := (((b.ok0 (n : Int) (n2 : Int) && (b.rolls.take i).all Roll.ok) && (within x55.price 1 50)) && (spanned x55.first.lo x55.first.hi 0 300)) && (spanned x55.fin.lo x55.fin.hi 0 300)) (Ev.t 7 rfl) rfl (Ev.t 0 rfl) (fun h => h) rfl rfl fun _ _ hs83 => ?_); clear hs82
   have hs84 := hs83.keep [0, 1, 2, 3, 4, 5, 6, 7, 8, 9, 10, 11, 12, 13, 14, 15, 16, 17, 18, 19, 20, 21, 22, 23, 24, 25, 26, 27, 28, 30, 31] [_, _, _, _, _, _, _, _, _, _, _, _, _, _, _, _, _, _, _, _, _, _, _, _, _, _, _, _, _, _, _] rfl; clear hs83
   refine sq rfl (st_assign hs84 (Ev.t 0 rfl) rfl rfl fun _ _ hs85 => ?_); clear hs84
   refine wpListIn_nil ?_
   have hs86 := hs85.keep [0, 27, 28, 29, 30, 31] [_, _, _, _, _, _] rfl; clear hs85
   refine in_norm ?_
   refine th_norm (hK53 _ _ ?_)
   refine cd_region1 ?_
   refine sq rfl (st_add (z := (i : Int) + 1) hs86 (Ev.t 1 rfl) (.const _) rfl rfl rfl (by omega) fun _ _ hs87 => ?_); clear hs86
   have hs88 := hs87.keep [0, 1, 3, 4, 5, 6] [_, _, _, _, _, _] rfl; clear hs87
   refine sq rfl (st_move hs88 (Ev.t 0 rfl) rfl rfl fun _ _ hs89 => ?_); clear hs88
   refine wpListIn_nil ?_
   have hs90 := hs89.keep [0, 2, 3, 4, 5, 6] [_, _, _, _, _, _] rfl; clear hs89
   refine ⟨i + 1, ⟨?_, ?_⟩, by omega⟩
   · first | omega | (simp; done) | (simp; omega)
   have hs91 : Sx 94 [] [(49, .int .i64 ((i : Int) + 1)), (3, .bool (((((b.ok0 (n : Int) (n2 : Int) && (b.rolls.take i).all Roll.ok) && (within x55.price 1 50)) && (spanned x55.first.lo x55.first.hi 0 300)) && (spanned x55.fin.lo x55.fin.hi 0 300)) && (decide ((x55.first.lo : Int) ≤ x55.fin.hi)))), (48, .int .i64 (n : Int)), (47, .slice A n cp), (2, .int .i64 0), (1, .pointer (some ⟨b2, 0, none⟩))] [(b2, some (.cells ⟨(bxL b A n cp A2 n2 c2)⟩ 25 (0, 0)))] [] w _ _ := Sx.blks hs90 ((List.Sublist.cons _ (List.Sublist.cons_cons _ List.Sublist.slnil)))
   exact Sx.keepE [0, 2, 3, 1, 4, 5] _ ⟨⟨_, rfl, rfl⟩, ⟨_, rfl, rfl⟩, ⟨_, rfl, rfl⟩, ⟨_, rfl, by rw [all_snoc hx55]; simp [Roll.ok, Bool.and_assoc]⟩, ⟨_, rfl, rfl⟩, ⟨_, rfl, rfl⟩, trivial⟩ hs91
 · have hall : (b.rolls.take i).all Roll.ok = b.rolls.all Roll.ok := by rw [List.take_of_length_le (by have := hP.len; simp at hc52; omega)]
   have hs53 := Sx.keepE [0, 1, 2, 3, 4, 5, 6] [(50, _), (49, _), (48, _), (47, _), (3, .bool (b.ok0 (n : Int) (n2 : Int) && b.rolls.all Roll.ok)), (2, _), (1, _)] ⟨⟨_, rfl, rfl⟩, ⟨_, rfl, rfl⟩, ⟨_, rfl, rfl⟩, ⟨_, rfl, rfl⟩, ⟨_, rfl, by rw [hall]⟩, ⟨_, rfl, rfl⟩, ⟨_, rfl, rfl⟩, trivial⟩ hs52; clear hs52
   refine cd_exit ?_
   refine th_exit ?_
   refine th_exit ?_
   refine in_hit ?_
   refine th_norm (hK48 _ _ ?_)
   refine cd_seq fun K90 hK90 => ?_
   refine cd_region fun K91 hK91 => ?_
   refine sq rfl (st_field (o' := 1) hs53 (Ev.t 6 rfl) rfl rfl runUnderlying25 rfl sizeOf23 rfl rfl fun _ _ hs54 => ?_); clear hs53
   refine sq rfl (st_load1 (o := 0) (off := 1) (v := .slice A2 n2 c2) hs54 (Ev.t 0 rfl) rfl rfl isAgg23 (hs54.cells 0 rfl) rfl fun _ _ hs55 => ?_); clear hs54
   refine sq rfl (st_len hs55 (Ev.t 0 rfl) rfl rfl runUnderlying23 fun _ _ hs56 => ?_); clear hs55
   refine sq rfl (st_move hs56 (.const _) rfl rfl fun _ _ hs57 => ?_); clear hs56
   refine hK91 _ _ ?_; clear hK91
   have hs58 := hs57.keep [0, 1, 2, 8, 9] [_, _, _, _, _] rfl; clear hs57
   refine cd_block ?_
   have hs59 : Sx 94 [] [(82, .int .i64 (0 : Int)), (81, .int .i64 (n2 : Int)), (80, .slice A2 n2 c2), (3, .bool ((b.ok0 (n : Int) (n2 : Int) && b.rolls.all Roll.ok) && (b.free.take 0).all freeOk)), (2, .int .i64 0)] [(b2, some (.cells ⟨(bxL b A n cp A2 n2 c2)⟩ 25 (0, 0)))] [] w _ _ := Sx.keepE [0, 1, 2, 3, 4] _ ⟨⟨_, rfl, rfl⟩, ⟨_, rfl, rfl⟩, ⟨_, rfl, rfl⟩, ⟨_, rfl, by simp⟩, ⟨_, rfl, rfl⟩, trivial⟩ hs58; clear hs58
   refine cd_loop (X := Nat) (fun i a_ w_ => (i ≤ n2) ∧ Sx 94 [] [(82, .int .i64 (i : Int)), (81, .int .i64 (n2 : Int)), (80, .slice A2 n2 c2), (3, .bool ((b.ok0 (n : Int) (n2 : Int) && b.rolls.all Roll.ok) && (b.free.take i).all freeOk)), (2, .int .i64 0)] [(b2, some (.cells ⟨(bxL b A n cp A2 n2 c2)⟩ 25 (0, 0)))] [] w a_ w_) (fun i => n2 - i) (0) ⟨?_, hs59⟩ ?_
   · first | omega | simp
   intro i a_60 w_60 ⟨hi, hs60⟩; clear hs59
   refine cd_region fun K92 hK92 => ?_
   refine sq rfl (st_cmp (c := decide (((i : Int) : Int) < (n2 : Int))) hs60 (Ev.t 0 rfl) (Ev.t 1 rfl) rfl rfl rfl rfl fun _ _ hs61 => ?_); clear hs60
   refine hK92 _ _ ?_; clear hK92
   refine cd_seq fun K93 hK93 => ?_
   refine cd_cond hs61 (Ev.t 0 rfl) (fun hc94 => ?_) (fun hc94 => ?_)
   · simp only [decide_eq_true_eq] at hc94
     refine cd_skip ?_
     refine th_norm (hK93 _ _ ?_)
     refine cd_seq fun K95 hK95 => ?_
     refine cd_block ?_
     refine cd_region fun K96 hK96 => ?_
     obtain ⟨x97, hx97⟩ : ∃ x, b.free[i]? = some x := ⟨_, List.getElem?_eq_getElem (by have := hF.len; omega)⟩
     obtain ⟨b98, o98, hA98, -, hc98⟩ := hF.el i x97 hx97
     refine sq rfl (st_indexM (o' := o98 + i * 2) hs61 (Ev.t 3 rfl) (Ev.t 1 rfl) rfl rfl hA98 runUnderlying23 sizeOf35 ⟨by omega, by have := hF.len; have := (List.getElem?_eq_some_iff.1 hx97).1; omega⟩ rfl fun _ _ hs62 => ?_); clear hs61
     refine sq rfl (st_loadA (o := o98 + i * 2) (off := 0) (vs := (spL x97)) hs62 (Ev.t 0 rfl) rfl rfl isAgg35 sizeOf35 (hs62.old hc98 (by simp)) rfl fun _ _ hs63 => ?_); clear hs62
     refine sq rfl (st_alloc hs63 rfl rfl zeroValue35 rfl fun b99 _ _ hs64 => ?_); clear hs63
     refine sq rfl (st_store (l' := (spL x97)) (vs := (spL x97)) (i := 0) hs64 (Ev.t 0 rfl) (Ev.t 1 rfl) sizeOf35 rfl rfl rfl rfl rfl rfl fun _ _ hs65 => ?_); clear hs64
     have hs66 := hs65.asB [_, _] rfl; clear hs65
     refine hK96 _ _ ?_; clear hK96
     have hs67 := hs66.keep [0, 4, 5, 6, 7, 8] [_, _, _, _, _, _] rfl; clear hs66
     refine cd_region1 ?_
     refine sq rfl (st_move hs67 (Ev.t 4 rfl) rfl rfl fun _ _ hs68 => ?_); clear hs67
     refine sq rfl (st_move hs68 (Ev.t 0 rfl) rfl rfl fun _ _ hs69 => ?_); clear hs68
     refine sq_gv hs69 (gg := (b.ok0 (n : Int) (n2 : Int) && b.rolls.all Roll.ok) && (b.free.take i).all freeOk) (v := .agg ⟨(spL x97)⟩) rfl rfl 0 rfl (ison_t _) rfl rfl rfl (fun hg100 K101 hK101 => st_loadA (o := 0) (off := 0) (vs := (spL x97)) hs69 (Ev.t 2 rfl) rfl rfl isAgg35 sizeOf35 (hs69.cells 0 rfl) rfl hK101) fun _ _ hs70 => ?_; clear hs69
     refine sq_gv hs70 (gg := (b.ok0 (n : Int) (n2 : Int) && b.rolls.all Roll.ok) && (b.free.take i).all freeOk) (v := .bool (spanned x97.lo x97.hi 0 50)) rfl rfl 1 rfl (ison_t _) rfl rfl rfl (fun hg102 K103 hK103 => st_callv (vs := [.agg ⟨(spL x97)⟩, .int .i64 0, .int .i64 50]) hs70 (.func _) ⟨((Ev.t 0 rfl).un hg102), (.const _), (.const _), trivial⟩ rfl rfl call58 rfl (spanned_v x97.lo x97.hi 0 50 _ (by omega)) hK103) fun _ _ hs71 => ?_; clear hs70
     refine sq rfl (st_and hs71 (gx := true) (gy := (b.ok0 (n : Int) (n2 : Int) && b.rolls.all Roll.ok) && (b.free.take i).all freeOk) (Ev.t 2 rfl) rfl (Ev.t 0 rfl) (fun h => h) rfl rfl fun _ _ hs72 => ?_); clear hs71
     have hs73 := hs72.keep [0, 1, 2, 3, 4, 5, 6, 7, 8, 10] [_, _, _, _, _, _, _, _, _, _] rfl; clear hs72
     refine sq rfl (st_assign hs73 (Ev.t 0 rfl) rfl rfl fun _ _ hs74 => ?_); clear hs73
     refine wpListIn_nil ?_
     have hs75 := hs74.keep [0, 7, 8, 9, 10] [_, _, _, _, _] rfl; clear hs74
     refine in_norm ?_
     refine th_norm (hK95 _ _ ?_)
     refine cd_region1 ?_
     refine sq rfl (st_add (z := (i : Int) + 1) hs75 (Ev.t 1 rfl) (.const _) rfl rfl rfl (by omega) fun _ _ hs76 => ?_); clear hs75
     have hs77 := hs76.keep [0, 1, 3, 4, 5] [_, _, _, _, _] rfl; clear hs76
     refine sq rfl (st_move hs77 (Ev.t 0 rfl) rfl rfl fun _ _ hs78 => ?_); clear hs77
     refine wpListIn_nil ?_
     have hs79 := hs78.keep [0, 2, 3, 4, 5] [_, _, _, _, _] rfl; clear hs78
     refine ⟨i + 1, ⟨?_, ?_⟩, by omega⟩
     · first | omega | (simp; done) | (simp; omega)
     have hs80 : Sx 94 [] [(82, .int .i64 ((i : Int) + 1)), (3, .bool (((b.ok0 (n : Int) (n2 : Int) && b.rolls.all Roll.ok) && (b.free.take i).all freeOk) && (spanned x97.lo x97.hi 0 50))), (81, .int .i64 (n2 : Int)), (80, .slice A2 n2 c2), (2, .int .i64 0)] [(b2, some (.cells ⟨(bxL b A n cp A2 n2 c2)⟩ 25 (0, 0)))] [] w _ _ := Sx.blks hs79 ((List.Sublist.cons _ (List.Sublist.cons_cons _ List.Sublist.slnil)))
     exact Sx.keepE [0, 2, 3, 1, 4] _ ⟨⟨_, rfl, rfl⟩, ⟨_, rfl, rfl⟩, ⟨_, rfl, rfl⟩, ⟨_, rfl, by rw [all_snoc hx97]; simp [freeOk, Bool.and_assoc]⟩, ⟨_, rfl, rfl⟩, trivial⟩ hs80
   · have hall : (b.free.take i).all freeOk = b.free.all freeOk := by rw [List.take_of_length_le (by have := hF.len; simp at hc94; omega)]
     have hs62 := Sx.keepE [0, 1, 2, 3, 4, 5] [(83, _), (82, _), (81, _), (80, _), (3, .bool ((b.ok0 (n : Int) (n2 : Int) && b.rolls.all Roll.ok) && b.free.all freeOk)), (2, _)] ⟨⟨_, rfl, rfl⟩, ⟨_, rfl, rfl⟩, ⟨_, rfl, rfl⟩, ⟨_, rfl, rfl⟩, ⟨_, rfl, by rw [hall]⟩, ⟨_, rfl, rfl⟩, trivial⟩ hs61; clear hs61
     refine cd_exit ?_
     refine th_exit ?_
     refine th_exit ?_
     refine in_hit ?_
     refine th_norm (hK90 _ _ ?_)
     refine cd_seq fun K104 hK104 => ?_
     refine cd_region fun K105 hK105 => ?_
     refine sq rfl (st_move hs62 (Ev.t 4 rfl) rfl rfl fun _ _ hs63 => ?_); clear hs62
     refine sq rfl (st_not hs63 (Ev.t 0 rfl) rfl rfl fun _ _ hs64 => ?_); clear hs63
     refine hK105 _ _ ?_; clear hK105
     have hs65 := hs64.keep [0, 7] [_, _] rfl; clear hs64
     refine cd_cond hs65 (Ev.t 0 rfl) (fun hc106 => ?_) (fun hc106 => ?_)
     · refine cd_region fun K107 hK107 => ?_
       have hs66 := hs65.keep [0] [_] rfl; clear hs65
       refine sq rfl (st_assign hs66 (.const _) rfl rfl fun _ _ hs67 => ?_); clear hs66
       refine hK107 _ _ ?_; clear hK107
       have hs68 := hs67.keep [0] [_] rfl; clear hs67
       refine cd_retv (vs := [.int .i64 90]) hs68 (fun a_ w_ h => th_ret (hQ0 a_ w_ h)) rfl ⟨.tmp 0 rfl, trivial⟩ ?_
       clear hs68 hQ0 hN0 hK104
       have hl := hP.len; have hl2 := hF.len
       subst hl; subst hl2
       unfold Bx.ok
       generalize b.ok0 _ _ = x at *
       generalize b.rolls.all Roll.ok = y at *
       generalize b.free.all freeOk = z at *
       cases x <;> cases y <;> cases z <;> simp_all [pack]
     · refine cd_skip ?_
       refine th_norm (hK104 _ _ ?_)
       refine cd_region fun K108 hK108 => ?_
       have hs66 := hs65.keep [0] [_] rfl; clear hs65
       refine sq rfl (st_assign hs66 (.const _) rfl rfl fun _ _ hs67 => ?_); clear hs66
       refine hK108 _ _ ?_; clear hK108
       have hs68 := hs67.keep [0] [_] rfl; clear hs67
       refine cd_retv (vs := [.int .i64 0]) hs68 hQ0 rfl ⟨.tmp 0 rfl, trivial⟩ ?_
       clear hs68 hQ0 hN0
       have hl := hP.len; have hl2 := hF.len
       subst hl; subst hl2
       unfold Bx.ok
       generalize b.ok0 _ _ = x at *
       generalize b.rolls.all Roll.ok = y at *
       generalize b.free.all freeOk = z at *
       cases x <;> cases y <;> cases z <;> simp_all [pack]

def okBoth (q : Roll × Sp) : Bool := q.1.ok && freeOk q.2
theorem all_both {l : List Roll} {r : List Sp} (h : r.length = l.length) : (l.zip r).all okBoth = (l.all Roll.ok && r.all freeOk) := by
  induction l generalizing r with
  | nil => cases r with
    | nil => rfl
    | cons y r => simp at h
  | cons x l ih => cases r with
    | nil => simp at h
    | cons y r =>
      simp only [List.zip_cons_cons, List.all_cons, ih (by simpa using h), okBoth]
      cases x.ok <;> cases freeOk y <;> simp

theorem rcheck_v (b : Bx) (A : Option Addr) (n cp : Nat) (A2 : Option Addr) (n2 c2 : Nat) (w : World) (hP : RollsAt w A n b.rolls) (hn : n ≤ 140737488351232) (hF : SpsAt w A2 n2 b.free) (hn2 : n2 ≤ 140737488351232) :
    CallsV Tryd.prog 31 [.agg ⟨(bxL b A n cp A2 n2 c2)⟩] w (.int .i64 (if b.ok then 0 else 90)) := by
 have hl0 := hP.len; have hl2 := hF.len
 refine enter (N := 91) (M := []) w func31 rfl rfl rfl (fun Q0 a_0 hQ0 hN0 hs0 => ?_)
 refine cd_region fun K1 hK1 => ?_
 refine sq rfl (st_box hs0 (Ev.t 0 rfl) rfl rfl rfl fun b2 _ _ hs1 => ?_); clear hs0
 refine sq rfl (st_assign hs1 (.const _) rfl rfl fun _ _ hs2 => ?_); clear hs1
 refine hK1 _ _ ?_; clear hK1
 have hs3 := hs2.keep [0, 1] [_, _] rfl; clear hs2
 refine cd_region fun K3 hK3 => ?_
 refine sq rfl (st_field (o' := 0) hs3 (Ev.t 1 rfl) rfl rfl runUnderlying25 rfl sizeOf22 rfl rfl fun _ _ hs4 => ?_); clear hs3
 refine sq rfl (st_load1 (o := 0) (off := 0) (v := .slice A n cp) hs4 (Ev.t 0 rfl) rfl rfl isAgg22 (hs4.cells 0 rfl) rfl fun _ _ hs5 => ?_); clear hs4
 refine sq rfl (st_len hs5 (Ev.t 0 rfl) rfl rfl runUnderlying22 fun _ _ hs6 => ?_); clear hs5
 refine sq rfl (st_callv (vs := [.int .i64 (n : Int), .int .i64 1, .int .i64 4]) hs6 (.func _) ⟨(Ev.t 0 rfl), (.const _), (.const _), trivial⟩ rfl rfl call16 rfl (amid_v (n : Int) 1 4 _) fun _ _ hs7 => ?_); clear hs6
 refine sq rfl (st_move hs7 (Ev.t 0 rfl) rfl rfl fun _ _ hs8 => ?_); clear hs7
 refine sq_gv hs8 (gg := within (n : Int) 1 4) (v := .pointer (some ⟨b2, 1, none⟩)) rfl rfl 0 rfl (ison_t _) rfl rfl rfl (fun hg4 K5 hK5 => st_field (o' := 1) hs8 (Ev.t 6 rfl) rfl rfl runUnderlying25 rfl sizeOf23 rfl rfl hK5) fun _ _ hs9 => ?_; clear hs8
 refine sq_gv hs9 (gg := within (n : Int) 1 4) (v := .slice A2 n2 c2) rfl rfl 1 rfl (ison_t _) rfl rfl rfl (fun hg6 K7 hK7 => st_load1 (o := 0) (off := 1) (v := .slice A2 n2 c2) hs9 ((Ev.t 0 rfl).un hg6) rfl rfl isAgg23 (hs9.cells 0 rfl) rfl hK7) fun _ _ hs10 => ?_; clear hs9
 refine sq_gv hs10 (gg := within (n : Int) 1 4) (v := .int .i64 (n2 : Int)) rfl rfl 2 rfl (ison_t _) rfl rfl rfl (fun hg8 K9 hK9 => st_len hs10 ((Ev.t 0 rfl).un hg8) rfl rfl runUnderlying23 hK9) fun _ _ hs11 => ?_; clear hs10
 refine sq_gv hs11 (gg := within (n : Int) 1 4) (v := .pointer (some ⟨b2, 0, none⟩)) rfl rfl 3 rfl (ison_t _) rfl rfl rfl (fun hg10 K11 hK11 => st_field (o' := 0) hs11 (Ev.t 9 rfl) rfl rfl runUnderlying25 rfl sizeOf22 rfl rfl hK11) fun _ _ hs12 => ?_; clear hs11
 refine sq_gv hs12 (gg := within (n : Int) 1 4) (v := .slice A n cp) rfl rfl 4 rfl (ison_t _) rfl rfl rfl (fun hg12 K13 hK13 => st_load1 (o := 0) (off := 0) (v := .slice A n cp) hs12 ((Ev.t 0 rfl).un hg12) rfl rfl isAgg22 (hs12.cells 0 rfl) rfl hK13) fun _ _ hs13 => ?_; clear hs12
 refine sq_gv hs13 (gg := within (n : Int) 1 4) (v := .int .i64 (n : Int)) rfl rfl 5 rfl (ison_t _) rfl rfl rfl (fun hg14 K15 hK15 => st_len hs13 ((Ev.t 0 rfl).un hg14) rfl rfl runUnderlying22 hK15) fun _ _ hs14 => ?_; clear hs13
 refine sq_gv hs14 (gg := within (n : Int) 1 4) (v := .bool (((n2 : Int) : Int) == (n : Int))) rfl rfl 6 rfl (ison_t _) rfl rfl rfl (fun hg16 K17 hK17 => st_cmp (c := ((n2 : Int) : Int) == (n : Int)) hs14 ((Ev.t 3 rfl).un hg16) ((Ev.t 0 rfl).un hg16) rfl rfl rfl rfl hK17) fun _ _ hs15 => ?_; clear hs14
 refine sq rfl (st_and hs15 (gx := true) (gy := within (n : Int) 1 4) (Ev.t 7 rfl) rfl (Ev.t 0 rfl) (fun h => h) rfl rfl fun _ _ hs16 => ?_); clear hs15
 refine sq rfl (st_move hs16 (Ev.t 0 rfl) rfl rfl fun _ _ hs17 => ?_); clear hs16
 refine sq_gv hs17 (gg := (within (n : Int) 1 4) && (((n2 : Int) : Int) == (n : Int))) (v := .pointer (some ⟨b2, 2, none⟩)) rfl rfl 0 rfl (ison_t _) rfl rfl rfl (fun hg18 K19 hK19 => st_field (o' := 2) hs17 (Ev.t 15 rfl) rfl rfl runUnderlying25 rfl sizeOf3 rfl rfl hK19) fun _ _ hs18 => ?_; clear hs17
 refine sq_gv hs18 (gg := (within (n : Int) 1 4) && (((n2 : Int) : Int) == (n : Int))) (v := .int .i64 b.count) rfl rfl 1 rfl (ison_t _) rfl rfl rfl (fun hg20 K21 hK21 => st_load1 (o := 0) (off := 2) (v := .int .i64 b.count) hs18 ((Ev.t 0 rfl).un hg20) rfl rfl isAgg3 (hs18.cells 0 rfl) rfl hK21) fun _ _ hs19 => ?_; clear hs18
 refine sq_gv hs19 (gg := (within (n : Int) 1 4) && (((n2 : Int) : Int) == (n : Int))) (v := .bool (within b.count 0 60000)) rfl rfl 2 rfl (ison_t _) rfl rfl rfl (fun hg22 K23 hK23 => st_callv (vs := [.int .i64 b.count, .int .i64 0, .int .i64 60000]) hs19 (.func _) ⟨((Ev.t 0 rfl).un hg22), (.const _), (.const _), trivial⟩ rfl rfl call16 rfl (amid_v b.count 0 60000 _) hK23) fun _ _ hs20 => ?_; clear hs19
 refine sq rfl (st_and hs20 (gx := true) (gy := (within (n : Int) 1 4) && (((n2 : Int) : Int) == (n : Int))) (Ev.t 3 rfl) rfl (Ev.t 0 rfl) (fun h => h) rfl rfl fun _ _ hs21 => ?_); clear hs20
 refine sq rfl (st_move hs21 (Ev.t 0 rfl) rfl rfl fun _ _ hs22 => ?_); clear hs21
 refine sq_gv hs22 (gg := ((within (n : Int) 1 4) && (((n2 : Int) : Int) == (n : Int))) && (within b.count 0 60000)) (v := .pointer (some ⟨b2, 3, none⟩)) rfl rfl 0 rfl (ison_t _) rfl rfl rfl (fun hg24 K25 hK25 => st_field (o' := 3) hs22 (Ev.t 20 rfl) rfl rfl runUnderlying25 rfl sizeOf3 rfl rfl hK25) fun _ _ hs23 => ?_; clear hs22
 refine sq_gv hs23 (gg := ((within (n : Int) 1 4) && (((n2 : Int) : Int) == (n : Int))) && (within b.count 0 60000)) (v := .int .i64 b.err) rfl rfl 1 rfl (ison_t _) rfl rfl rfl (fun hg26 K27 hK27 => st_load1 (o := 0) (off := 3) (v := .int .i64 b.err) hs23 ((Ev.t 0 rfl).un hg26) rfl rfl isAgg3 (hs23.cells 0 rfl) rfl hK27) fun _ _ hs24 => ?_; clear hs23
 refine sq_gv hs24 (gg := ((within (n : Int) 1 4) && (((n2 : Int) : Int) == (n : Int))) && (within b.count 0 60000)) (v := .bool (within b.err 0 200)) rfl rfl 2 rfl (ison_t _) rfl rfl rfl (fun hg28 K29 hK29 => st_callv (vs := [.int .i64 b.err, .int .i64 0, .int .i64 200]) hs24 (.func _) ⟨((Ev.t 0 rfl).un hg28), (.const _), (.const _), trivial⟩ rfl rfl call16 rfl (amid_v b.err 0 200 _) hK29) fun _ _ hs25 => ?_; clear hs24
 refine sq rfl (st_and hs25 (gx := true) (gy := ((within (n : Int) 1 4) && (((n2 : Int) : Int) == (n : Int))) && (within b.count 0 60000)) (Ev.t 3 rfl) rfl (Ev.t 0 rfl) (fun h => h) rfl rfl fun _ _ hs26 => ?_); clear hs25
 refine sq rfl (st_move hs26 (Ev.t 0 rfl) rfl rfl fun _ _ hs27 => ?_); clear hs26
 refine sq_gv hs27 (gg := (((within (n : Int) 1 4) && (((n2 : Int) : Int) == (n : Int))) && (within b.count 0 60000)) && (within b.err 0 200)) (v := .pointer (some ⟨b2, 4, none⟩)) rfl rfl 0 rfl (ison_t _) rfl rfl rfl (fun hg30 K31 hK31 => st_field (o' := 4) hs27 (Ev.t 25 rfl) rfl rfl runUnderlying25 rfl sizeOf3 rfl rfl hK31) fun _ _ hs28 => ?_; clear hs27
 refine sq_gv hs28 (gg := (((within (n : Int) 1 4) && (((n2 : Int) : Int) == (n : Int))) && (within b.count 0 60000)) && (within b.err 0 200)) (v := .int .i64 b.duty) rfl rfl 1 rfl (ison_t _) rfl rfl rfl (fun hg32 K33 hK33 => st_load1 (o := 0) (off := 4) (v := .int .i64 b.duty) hs28 ((Ev.t 0 rfl).un hg32) rfl rfl isAgg3 (hs28.cells 0 rfl) rfl hK33) fun _ _ hs29 => ?_; clear hs28
 refine sq_gv hs29 (gg := (((within (n : Int) 1 4) && (((n2 : Int) : Int) == (n : Int))) && (within b.count 0 60000)) && (within b.err 0 200)) (v := .bool (within b.duty 0 100)) rfl rfl 2 rfl (ison_t _) rfl rfl rfl (fun hg34 K35 hK35 => st_callv (vs := [.int .i64 b.duty, .int .i64 0, .int .i64 100]) hs29 (.func _) ⟨((Ev.t 0 rfl).un hg34), (.const _), (.const _), trivial⟩ rfl rfl call16 rfl (amid_v b.duty 0 100 _) hK35) fun _ _ hs30 => ?_; clear hs29
 refine sq rfl (st_and hs30 (gx := true) (gy := (((within (n : Int) 1 4) && (((n2 : Int) : Int) == (n : Int))) && (within b.count 0 60000)) && (within b.err 0 200)) (Ev.t 3 rfl) rfl (Ev.t 0 rfl) (fun h => h) rfl rfl fun _ _ hs31 => ?_); clear hs30
 refine sq rfl (st_move hs31 (Ev.t 0 rfl) rfl rfl fun _ _ hs32 => ?_); clear hs31
 refine sq_gv hs32 (gg := ((((within (n : Int) 1 4) && (((n2 : Int) : Int) == (n : Int))) && (within b.count 0 60000)) && (within b.err 0 200)) && (within b.duty 0 100)) (v := .pointer (some ⟨b2, 5, none⟩)) rfl rfl 0 rfl (ison_t _) rfl rfl rfl (fun hg36 K37 hK37 => st_field (o' := 5) hs32 (Ev.t 30 rfl) rfl rfl runUnderlying25 rfl sizeOf3 rfl rfl hK37) fun _ _ hs33 => ?_; clear hs32
 refine sq_gv hs33 (gg := ((((within (n : Int) 1 4) && (((n2 : Int) : Int) == (n : Int))) && (within b.count 0 60000)) && (within b.err 0 200)) && (within b.duty 0 100)) (v := .int .i64 b.share) rfl rfl 1 rfl (ison_t _) rfl rfl rfl (fun hg38 K39 hK39 => st_load1 (o := 0) (off := 5) (v := .int .i64 b.share) hs33 ((Ev.t 0 rfl).un hg38) rfl rfl isAgg3 (hs33.cells 0 rfl) rfl hK39) fun _ _ hs34 => ?_; clear hs33
 refine sq_gv hs34 (gg := ((((within (n : Int) 1 4) && (((n2 : Int) : Int) == (n : Int))) && (within b.count 0 60000)) && (within b.err 0 200)) && (within b.duty 0 100)) (v := .bool (within b.share 0 100)) rfl rfl 2 rfl (ison_t _) rfl rfl rfl (fun hg40 K41 hK41 => st_callv (vs := [.int .i64 b.share, .int .i64 0, .int .i64 100]) hs34 (.func _) ⟨((Ev.t 0 rfl).un hg40), (.const _), (.const _), trivial⟩ rfl rfl call16 rfl (amid_v b.share 0 100 _) hK41) fun _ _ hs35 => ?_; clear hs34
 refine sq rfl (st_and hs35 (gx := true) (gy := ((((within (n : Int) 1 4) && (((n2 : Int) : Int) == (n : Int))) && (within b.count 0 60000)) && (within b.err 0 200)) && (within b.duty 0 100)) (Ev.t 3 rfl) rfl (Ev.t 0 rfl) (fun h => h) rfl rfl fun _ _ hs36 => ?_); clear hs35
 refine sq rfl (st_move hs36 (Ev.t 0 rfl) rfl rfl fun _ _ hs37 => ?_); clear hs36
 refine sq_gv hs37 (gg := (((((within (n : Int) 1 4) && (((n2 : Int) : Int) == (n : Int))) && (within b.count 0 60000)) && (within b.err 0 200)) && (within b.duty 0 100)) && (within b.share 0 100)) (v := .pointer (some ⟨b2, 6, none⟩)) rfl rfl 0 rfl (ison_t _) rfl rfl rfl (fun hg42 K43 hK43 => st_field (o' := 6) hs37 (Ev.t 35 rfl) rfl rfl runUnderlying25 rfl sizeOf3 rfl rfl hK43) fun _ _ hs38 => ?_; clear hs37
 refine sq_gv hs38 (gg := (((((within (n : Int) 1 4) && (((n2 : Int) : Int) == (n : Int))) && (within b.count 0 60000)) && (within b.err 0 200)) && (within b.duty 0 100)) && (within b.share 0 100)) (v := .int .i64 b.guar) rfl rfl 1 rfl (ison_t _) rfl rfl rfl (fun hg44 K45 hK45 => st_load1 (o := 0) (off := 6) (v := .int .i64 b.guar) hs38 ((Ev.t 0 rfl).un hg44) rfl rfl isAgg3 (hs38.cells 0 rfl) rfl hK45) fun _ _ hs39 => ?_; clear hs38
 refine sq_gv hs39 (gg := (((((within (n : Int) 1 4) && (((n2 : Int) : Int) == (n : Int))) && (within b.count 0 60000)) && (within b.err 0 200)) && (within b.duty 0 100)) && (within b.share 0 100)) (v := .bool (within b.guar 0 60000)) rfl rfl 2 rfl (ison_t _) rfl rfl rfl (fun hg46 K47 hK47 => st_callv (vs := [.int .i64 b.guar, .int .i64 0, .int .i64 60000]) hs39 (.func _) ⟨((Ev.t 0 rfl).un hg46), (.const _), (.const _), trivial⟩ rfl rfl call16 rfl (amid_v b.guar 0 60000 _) hK47) fun _ _ hs40 => ?_; clear hs39
 refine sq rfl (st_and hs40 (gx := true) (gy := (((((within (n : Int) 1 4) && (((n2 : Int) : Int) == (n : Int))) && (within b.count 0 60000)) && (within b.err 0 200)) && (within b.duty 0 100)) && (within b.share 0 100)) (Ev.t 3 rfl) rfl (Ev.t 0 rfl) (fun h => h) rfl rfl fun _ _ hs41 => ?_); clear hs40
 refine sq rfl (st_assign hs41 (Ev.t 0 rfl) rfl rfl fun _ _ hs42 => ?_); clear hs41
 refine hK3 _ _ ?_; clear hK3
 have hs43 := hs42.keep [0, 39, 40] [_, _, _] rfl; clear hs42
 refine cd_seq fun K48 hK48 => ?_
 have hs44 := Sx.keepE [0, 1, 2] [(3, .bool (b.ok0 (n : Int) (n2 : Int))), (2, _), (1, _)] ⟨⟨_, rfl, rfl⟩, ⟨_, rfl, rfl⟩, ⟨_, rfl, rfl⟩, trivial⟩ hs43; clear hs43
 refine cd_region fun K49 hK49 => ?_
 refine sq rfl (st_assign hs44 (.const _) rfl rfl fun _ _ hs45 => ?_); clear hs44
 refine hK49 _ _ ?_; clear hK49
 refine cd_block ?_
 have hs46 : Sx 91 [] [(4, .int .i64 (0 : Int)), (3, .bool (b.ok0 (n : Int) (n2 : Int) && ((b.rolls.zip b.free).take 0).all okBoth)), (2, .int .i64 0), (1, .pointer (some ⟨b2, 0, none⟩))] [(b2, some (.cells ⟨(bxL b A n cp A2 n2 c2)⟩ 25 (0, 0)))] [] w _ _ := Sx.keepE [0, 1, 2, 3] _ ⟨⟨_, rfl, rfl⟩, ⟨_, rfl, by simp⟩, ⟨_, rfl, rfl⟩, ⟨_, rfl, rfl⟩, trivial⟩ hs45; clear hs45
 refine cd_loop (X := Nat) (fun i a_ w_ => (i ≤ n) ∧ Sx 91 [] [(4, .int .i64 (i : Int)), (3, .bool (b.ok0 (n : Int) (n2 : Int) && ((b.rolls.zip b.free).take i).all okBoth)), (2, .int .i64 0), (1, .pointer (some ⟨b2, 0, none⟩))] [(b2, some (.cells ⟨(bxL b A n cp A2 n2 c2)⟩ 25 (0, 0)))] [] w a_ w_) (fun i => n - i) (0) ⟨?_, hs46⟩ ?_
 · first | omega | simp
 intro i a_47 w_47 ⟨hi, hs47⟩; clear hs46
 refine cd_seq fun K50 hK50 => ?_
 refine cd_region fun K51 hK51 => ?_
 refine sq rfl (st_move hs47 (Ev.t 1 rfl) rfl rfl fun _ _ hs48 => ?_); clear hs47
 refine sq rfl (st_move hs48 (Ev.t 0 rfl) rfl rfl fun _ _ hs49 => ?_); clear hs48
 refine sq_gv hs49 (gg := b.ok0 (n : Int) (n2 : Int) && ((b.rolls.zip b.free).take i).all okBoth) (v := .int .i64 (i : Int)) rfl rfl 0 rfl (ison_t _) rfl rfl rfl (fun hg52 K53 hK53 => st_move hs49 (Ev.t 2 rfl) rfl rfl hK53) fun _ _ hs50 => ?_; clear hs49
 refine sq_gv hs50 (gg := b.ok0 (n : Int) (n2 : Int) && ((b.rolls.zip b.free).take i).all okBoth) (v := .pointer (some ⟨b2, 0, none⟩)) rfl rfl 1 rfl (ison_t _) rfl rfl rfl (fun hg54 K55 hK55 => st_field (o' := 0) hs50 (Ev.t 6 rfl) rfl rfl runUnderlying25 rfl sizeOf22 rfl rfl hK55) fun _ _ hs51 => ?_; clear hs50
 refine sq_gv hs51 (gg := b.ok0 (n : Int) (n2 : Int) && ((b.rolls.zip b.free).take i).all okBoth) (v := .slice A n cp) rfl rfl 2 rfl (ison_t _) rfl rfl rfl (fun hg56 K57 hK57 => st_load1 (o := 0) (off := 0) (v := .slice A n cp) hs51 ((Ev.t 0 rfl).un hg56) rfl rfl isAgg22 (hs51.cells 0 rfl) rfl hK57) fun _ _ hs52 => ?_; clear hs51
 refine sq_gv hs52 (gg := b.ok0 (n : Int) (n2 : Int) && ((b.rolls.zip b.free).take i).all okBoth) (v := .int .i64 (n : Int)) rfl rfl 3 rfl (ison_t _) rfl rfl rfl (fun hg58 K59 hK59 => st_len hs52 ((Ev.t 0 rfl).un hg58) rfl rfl runUnderlying22 hK59) fun _ _ hs53 => ?_; clear hs52
 refine sq_gv hs53 (gg := b.ok0 (n : Int) (n2 : Int) && ((b.rolls.zip b.free).take i).all okBoth) (v := .bool (decide (((i : Int) : Int) < (n : Int)))) rfl rfl 4 rfl (ison_t _) rfl rfl rfl (fun hg60 K61 hK61 => st_cmp (c := decide (((i : Int) : Int) < (n : Int))) hs53 ((Ev.t 3 rfl).un hg60) ((Ev.t 0 rfl).un hg60) rfl rfl rfl rfl hK61) fun _ _ hs54 => ?_; clear hs53
 refine sq rfl (st_and hs54 (gx := true) (gy := b.ok0 (n : Int) (n2 : Int) && ((b.rolls.zip b.free).take i).all okBoth) (Ev.t 5 rfl) rfl (Ev.t 0 rfl) (fun h => h) rfl rfl fun _ _ hs55 => ?_); clear hs54
 refine hK51 _ _ ?_; clear hK51
 have hs56 := hs55.keep [0, 8, 9, 10, 11] [_, _, _, _, _] rfl; clear hs55
 refine cd_cond hs56 (Ev.t 0 rfl) (fun hc62 => ?_) (fun hc62 => ?_)
 · simp only [Bool.and_eq_true, decide_eq_true_eq] at hc62
   have hok1 : (b.ok0 (n : Int) (n2 : Int) && ((b.rolls.zip b.free).take i).all okBoth) = true := by simp [hc62]
   have hnn : n2 = n := by have := hc62.1.1; simp only [Bx.ok0, Bool.and_eq_true, beq_iff_eq] at this; omega
   have hi2 : i < n := by omega
   obtain ⟨x63, hx63⟩ : ∃ x, b.rolls[i]? = some x := ⟨_, List.getElem?_eq_getElem (by have := hP.len; omega)⟩
   obtain ⟨b64, o64, hA64, -, hc64⟩ := hP.el i x63 hx63
   obtain ⟨x65, hx65⟩ : ∃ x, b.free[i]? = some x := ⟨_, List.getElem?_eq_getElem (by have := hF.len; omega)⟩
   obtain ⟨b66, o66, hA66, -, hc66⟩ := hF.el i x65 hx65
   refine cd_skip ?_
   refine th_norm (hK50 _ _ ?_)
   refine cd_seq fun K67 hK67 => ?_
   refine cd_block ?_
   refine cd_region fun K68 hK68 => ?_
   refine sq rfl (st_field (o' := 0) hs56 (Ev.t 4 rfl) rfl rfl runUnderlying25 rfl sizeOf22 rfl rfl fun _ _ hs57 => ?_); clear hs56
   refine sq rfl (st_load1 (o := 0) (off := 0) (v := .slice A n cp) hs57 (Ev.t 0 rfl) rfl rfl isAgg22 (hs57.cells 0 rfl) rfl fun _ _ hs58 => ?_); clear hs57
   refine sq rfl (st_move hs58 (Ev.t 3 rfl) rfl rfl fun _ _ hs59 => ?_); clear hs58
   refine sq rfl (st_indexM (o' := o64 + i * 5) hs59 (Ev.t 1 rfl) (Ev.t 0 rfl) rfl rfl hA64 runUnderlying22 sizeOf46 ⟨by omega, by have := hP.len; have := (List.getElem?_eq_some_iff.1 hx63).1; omega⟩ rfl fun _ _ hs60 => ?_); clear hs59
   refine sq rfl (st_loadA (o := o64 + i * 5) (off := 0) (vs := (rollL x63)) hs60 (Ev.t 0 rfl) rfl rfl isAgg46 sizeOf46 (hs60.old hc64 (by simp)) rfl fun _ _ hs61 => ?_); clear hs60
   refine sq rfl (st_alloc hs61 rfl rfl zeroValue46 rfl fun b69 _ _ hs62 => ?_); clear hs61
   refine sq rfl (st_store (l' := (rollL x63)) (vs := (rollL x63)) (i := 0) hs62 (Ev.t 0 rfl) (Ev.t 1 rfl) sizeOf46 rfl rfl rfl rfl rfl rfl fun _ _ hs63 => ?_); clear hs62
   have hs64 := hs63.asB [_, _] rfl; clear hs63
   refine hK68 _ _ ?_; clear hK68
   have hs65 := hs64.keep [0, 7, 9, 10] [_, _, _, _] rfl; clear hs64
   refine cd_region1 ?_
   refine sq rfl (st_field (o' := 0) hs65 (Ev.t 0 rfl) rfl rfl runUnderlying46 rfl sizeOf3 rfl rfl fun _ _ hs66 => ?_); clear hs65
   refine sq rfl (st_load1 (o := 0) (off := 0) (v := .int .i64 x63.price) hs66 (Ev.t 0 rfl) rfl rfl isAgg3 (hs66.cells 0 rfl) rfl fun _ _ hs67 => ?_); clear hs66
   refine sq rfl (st_callv (vs := [.int .i64 x63.price, .int .i64 1, .int .i64 50]) hs67 (.func _) ⟨(Ev.t 0 rfl), (.const _), (.const _), trivial⟩ rfl rfl call16 rfl (amid_v x63.price 1 50 _) fun _ _ hs68 => ?_); clear hs67
   refine sq rfl (st_move hs68 (Ev.t 0 rfl) rfl rfl fun _ _ hs69 => ?_); clear hs68
   refine sq_gv hs69 (gg := within x63.price 1 50) (v := .pointer (some ⟨b69, 1, none⟩)) rfl rfl 0 rfl (ison_t _) rfl rfl rfl (fun hg70 K71 hK71 => st_field (o' := 1) hs69 (Ev.t 4 rfl) rfl rfl runUnderlying46 rfl sizeOf35 rfl rfl hK71) fun _ _ hs70 => ?_; clear hs69
   refine sq_gv hs70 (gg := within x63.price 1 50) (v := .agg ⟨[.int .i64 x63.first.lo, .int .i64 x63.first.hi]⟩) rfl rfl 1 rfl (ison_t _) rfl rfl rfl (fun hg72 K73 hK73 => st_loadA (o := 0) (off := 1) (vs := [.int .i64 x63.first.lo, .int .i64 x63.first.hi]) hs70 ((Ev.t 0 rfl).un hg72) rfl rfl isAgg35 sizeOf35 (hs70.cells 0 rfl) rfl hK73) fun _ _ hs71 => ?_; clear hs70
   refine sq_gv hs71 (gg := within x63.price 1 50) (v := .bool (spanned x63.first.lo x63.first.hi 0 300)) rfl rfl 2 rfl (ison_t _) rfl rfl rfl (fun hg74 K75 hK75 => st_callv (vs := [.agg ⟨[.int .i64 x63.first.lo, .int .i64 x63.first.hi]⟩, .int .i64 0, .int .i64 300]) hs71 (.func _) ⟨((Ev.t 0 rfl).un hg74), (.const _), (.const _), trivial⟩ rfl rfl call62 rfl (short_v x63.first.lo x63.first.hi 0 300 _ (by omega)) hK75) fun _ _ hs72 => ?_; clear hs71
   refine sq rfl (st_and hs72 (gx := true) (gy := within x63.price 1 50) (Ev.t 3 rfl) rfl (Ev.t 0 rfl) (fun h => h) rfl rfl fun _ _ hs73 => ?_); clear hs72
   refine sq rfl (st_move hs73 (Ev.t 0 rfl) rfl rfl fun _ _ hs74 => ?_); clear hs73
   refine sq_gv hs74 (gg := (within x63.price 1 50) && (spanned x63.first.lo x63.first.hi 0 300)) (v := .pointer (some ⟨b69, 3, none⟩)) rfl rfl 0 rfl (ison_t _) rfl rfl rfl (fun hg76 K77 hK77 => st_field (o' := 3) hs74 (Ev.t 9 rfl) rfl rfl runUnderlying46 rfl sizeOf35 rfl rfl hK77) fun _ _ hs75 => ?_; clear hs74
   refine sq_gv hs75 (gg := (within x63.price 1 50) && (spanned x63.first.lo x63.first.hi 0 300)) (v := .agg ⟨[.int .i64 x63.fin.lo, .int .i64 x63.fin.hi]⟩) rfl rfl 1 rfl (ison_t _) rfl rfl rfl (fun hg78 K79 hK79 => st_loadA (o := 0) (off := 3) (vs := [.int .i64 x63.fin.lo, .int .i64 x63.fin.hi]) hs75 ((Ev.t 0 rfl).un hg78) rfl rfl isAgg35 sizeOf35 (hs75.cells 0 rfl) rfl hK79) fun _ _ hs76 => ?_; clear hs75
   refine sq_gv hs76 (gg := (within x63.price 1 50) && (spanned x63.first.lo x63.first.hi 0 300)) (v := .bool (spanned x63.fin.lo x63.fin.hi 0 300)) rfl rfl 2 rfl (ison_t _) rfl rfl rfl (fun hg80 K81 hK81 => st_callv (vs := [.agg ⟨[.int .i64 x63.fin.lo, .int .i64 x63.fin.hi]⟩, .int .i64 0, .int .i64 300]) hs76 (.func _) ⟨((Ev.t 0 rfl).un hg80), (.const _), (.const _), trivial⟩ rfl rfl call62 rfl (short_v x63.fin.lo x63.fin.hi 0 300 _ (by omega)) hK81) fun _ _ hs77 => ?_; clear hs76
   refine sq rfl (st_and hs77 (gx := true) (gy := (within x63.price 1 50) && (spanned x63.first.lo x63.first.hi 0 300)) (Ev.t 3 rfl) rfl (Ev.t 0 rfl) (fun h => h) rfl rfl fun _ _ hs78 => ?_); clear hs77
   refine sq rfl (st_move hs78 (Ev.t 0 rfl) rfl rfl fun _ _ hs79 => ?_); clear hs78
   refine sq_gv hs79 (gg := ((within x63.price 1 50) && (spanned x63.first.lo x63.first.hi 0 300)) && (spanned x63.fin.lo x63.fin.hi 0 300)) (v := .pointer (some ⟨b69, 1, none⟩)) rfl rfl 0 rfl (ison_t _) rfl rfl rfl (fun hg82 K83 hK83 => st_field (o' := 1) hs79 (Ev.t 14 rfl) rfl rfl runUnderlying46 rfl sizeOf35 rfl rfl hK83) fun _ _ hs80 => ?_; clear hs79
   refine sq_gv hs80 (gg := ((within x63.price 1 50) && (spanned x63.first.lo x63.first.hi 0 300)) && (spanned x63.fin.lo x63.fin.hi 0 300)) (v := .pointer (some ⟨b69, 1, none⟩)) rfl rfl 1 rfl (ison_t _) rfl rfl rfl (fun hg84 K85 hK85 => st_field (o' := 1) hs80 ((Ev.t 0 rfl).un hg84) rfl rfl runUnderlying35 rfl sizeOf3 rfl rfl hK85) fun _ _ hs81 => ?_; clear hs80
   refine sq_gv hs81 (gg := ((within x63.price 1 50) && (spanned x63.first.lo x63.first.hi 0 300)) && (spanned x63.fin.lo x63.fin.hi 0 300)) (v := .int .i64 x63.first.lo) rfl rfl 2 rfl (ison_t _) rfl rfl rfl (fun hg86 K87 hK87 => st_load1 (o := 0) (off := 1) (v := .int .i64 x63.first.lo) hs81 ((Ev.t 0 rfl).un hg86) rfl rfl isAgg3 (hs81.cells 0 rfl) rfl hK87) fun _ _ hs82 => ?_; clear hs81
   refine sq_gv hs82 (gg := ((within x63.price 1 50) && (spanned x63.first.lo x63.first.hi 0 300)) && (spanned x63.fin.lo x63.fin.hi 0 300)) (v := .pointer (some ⟨b69, 3, none⟩)) rfl rfl 3 rfl (ison_t _) rfl rfl rfl (fun hg88 K89 hK89 => st_field (o' := 3) hs82 (Ev.t 17 rfl) rfl rfl runUnderlying46 rfl sizeOf35 rfl rfl hK89) fun _ _ hs83 => ?_; clear hs82
   refine sq_gv hs83 (gg := ((within x63.price 1 50) && (spanned x63.first.lo x63.first.hi 0 300)) && (spanned x63.fin.lo x63.fin.hi 0 300)) (v := .pointer (some ⟨b69, 4, none⟩)) rfl rfl 4 rfl (ison_t _) rfl rfl rfl (fun hg90 K91 hK91 => st_field (o' := 4) hs83 ((Ev.t 0 rfl).un hg90) rfl rfl runUnderlying35 rfl sizeOf3 rfl rfl hK91) fun _ _ hs84 => ?_; clear hs83
   refine sq_gv hs84 (gg := ((within x63.price 1 50) && (spanned x63.first.lo x63.first.hi 0 300)) && (spanned x63.fin.lo x63.fin.hi 0 300)) (v := .int .i64 x63.fin.hi) rfl rfl 5 rfl (ison_t _) rfl rfl rfl (fun hg92 K93 hK93 => st_load1 (o := 0) (off := 4) (v := .int .i64 x63.fin.hi) hs84 ((Ev.t 0 rfl).un hg92) rfl rfl isAgg3 (hs84.cells 0 rfl) rfl hK93) fun _ _ hs85 => ?_; clear hs84
   refine sq_gv hs85 (gg := ((within x63.price 1 50) && (spanned x63.first.lo x63.first.hi 0 300)) && (spanned x63.fin.lo x63.fin.hi 0 300)) (v := .bool (decide ((x63.first.lo : Int) ≤ x63.fin.hi))) rfl rfl 6 rfl (ison_t _) rfl rfl rfl (fun hg94 K95 hK95 => st_cmp (c := decide ((x63.first.lo : Int) ≤ x63.fin.hi)) hs85 ((Ev.t 3 rfl).un hg94) ((Ev.t 0 rfl).un hg94) rfl rfl rfl rfl hK95) fun _ _ hs86 => ?_; clear hs85
   refine sq rfl (st_and hs86 (gx := true) (gy := ((within x63.price 1 50) && (spanned x63.first.lo x63.first.hi 0 300)) && (spanned x63.fin.lo x63.fin.hi 0 300)) (Ev.t 7 rfl) rfl (Ev.t 0 rfl) (fun h => h) rfl rfl fun _ _ hs87 => ?_); clear hs86
   refine sq rfl (st_move hs87 (Ev.t 0 rfl) rfl rfl fun _ _ hs88 => ?_); clear hs87
   refine sq_gv hs88 (gg := (((within x63.price 1 50) && (spanned x63.first.lo x63.first.hi 0 300)) && (spanned x63.fin.lo x63.fin.hi 0 300)) && (decide ((x63.first.lo : Int) ≤ x63.fin.hi))) (v := .pointer (some ⟨b2, 1, none⟩)) rfl rfl 0 rfl (ison_t _) rfl rfl rfl (fun hg96 K97 hK97 => st_field (o' := 1) hs88 (Ev.t 26 rfl) rfl rfl runUnderlying25 rfl sizeOf23 rfl rfl hK97) fun _ _ hs89 => ?_; clear hs88
   refine sq_gv hs89 (gg := (((within x63.price 1 50) && (spanned x63.first.lo x63.first.hi 0 300)) && (spanned x63.fin.lo x63.fin.hi 0 300)) && (decide ((x63.first.lo : Int) ≤ x63.fin.hi))) (v := .slice A2 n2 c2) rfl rfl 1 rfl (ison_t _) rfl rfl rfl (fun hg98 K99 hK99 => st_load1 (o := 0) (off := 1) (v := .slice A2 n2 c2) hs89 ((Ev.t 0 rfl).un hg98) rfl rfl isAgg23 (hs89.cells 1 rfl) rfl hK99) fun _ _ hs90 => ?_; clear hs89
   refine sq_gv hs90 (gg := (((within x63.price 1 50) && (spanned x63.first.lo x63.first.hi 0 300)) && (spanned x63.fin.lo x63.fin.hi 0 300)) && (decide ((x63.first.lo : Int) ≤ x63.fin.hi))) (v := .int .i64 (i : Int)) rfl rfl 2 rfl (ison_t _) rfl rfl rfl (fun hg100 K101 hK101 => st_move hs90 (Ev.t 26 rfl) rfl rfl hK101) fun _ _ hs91 => ?_; clear hs90
   refine sq_gv hs91 (gg := (((within x63.price 1 50) && (spanned x63.first.lo x63.first.hi 0 300)) && (spanned x63.fin.lo x63.fin.hi 0 300)) && (decide ((x63.first.lo : Int) ≤ x63.fin.hi))) (v := .pointer (some ⟨b66, o66 + i * 2, none⟩)) rfl rfl 3 rfl (ison_t _) rfl rfl rfl (fun hg102 K103 hK103 => st_indexM (o' := o66 + i * 2) hs91 ((Ev.t 1 rfl).un hg102) ((Ev.t 0 rfl).un hg102) rfl rfl hA66 runUnderlying23 sizeOf35 ⟨by omega, by have := hF.len; have := (List.getElem?_eq_some_iff.1 hx65).1; omega⟩ rfl hK103) fun _ _ hs92 => ?_; clear hs91
   refine sq_gv hs92 (gg := (((within x63.price 1 50) && (spanned x63.first.lo x63.first.hi 0 300)) && (spanned x63.fin.lo x63.fin.hi 0 300)) && (decide ((x63.first.lo : Int) ≤ x63.fin.hi))) (v := .agg ⟨(spL x65)⟩) rfl rfl 4 rfl (ison_t _) rfl rfl rfl (fun hg104 K105 hK105 => st_loadA (o := o66 + i * 2) (off := 0) (vs := (spL x65)) hs92 ((Ev.t 0 rfl).un hg104) rfl rfl isAgg35 sizeOf35 (hs92.old hc66 (by simp)) rfl hK105) fun _ _ hs93 => ?_; clear hs92
   refine sq_gv hs93 (gg := (((within x63.price 1 50) && (spanned x63.first.lo x63.first.hi 0 300)) && (spanned x63.fin.lo x63.fin.hi 0 300)) && (decide ((x63.first.lo : Int) ≤ x63.fin.hi))) (v := .bool (spanned x65.lo x65.hi 0 50)) rfl rfl 5 rfl (ison_t _) rfl rfl rfl (fun hg106 K107 hK107 => st_callv (vs := [.agg ⟨(spL x65)⟩, .int .i64 0, .int .i64 50]) hs93 (.func _) ⟨((Ev.t 0 rfl).un hg106), (.const _), (.const _), trivial⟩ rfl rfl call62 rfl (short_v x65.lo x65.hi 0 50 _ (by omega)) hK107) fun _ _ hs94 => ?_; clear hs93
   refine sq rfl (st_and hs94 (gx := true) (gy := (((within x63.price 1 50) && (spanned x63.first.lo x63.first.hi 0 300)) && (spanned x63.fin.lo x63.fin.hi 0 300)) && (decide ((x63.first.lo : Int) ≤ x63.fin.hi))) (Ev.t 6 rfl) rfl (Ev.t 0 rfl) (fun h => h) rfl rfl fun _ _ hs95 => ?_); clear hs94
   refine sq rfl (st_assign hs95 (Ev.t 0 rfl) rfl rfl fun _ _ hs96 => ?_); clear hs95
   refine wpListIn_nil ?_
   have hs97 := hs96.keep [0, 32, 33, 34] [_, _, _, _] rfl; clear hs96
   refine in_norm ?_
   refine th_norm (hK67 _ _ ?_)
   refine cd_region1 ?_
   refine sq rfl (st_move hs97 (Ev.t 1 rfl) rfl rfl fun _ _ hs98 => ?_); clear hs97
   refine sq rfl (st_add (z := (i : Int) + 1) hs98 (Ev.t 0 rfl) (.const _) rfl rfl rfl (by omega) fun _ _ hs99 => ?_); clear hs98
   have hs100 := hs99.keep [0, 1, 2, 4, 5] [_, _, _, _, _] rfl; clear hs99
   refine sq rfl (st_assign hs100 (Ev.t 0 rfl) rfl rfl fun _ _ hs101 => ?_); clear hs100
   refine wpListIn_nil ?_
   have hs102 := hs101.keep [0, 3, 4, 5] [_, _, _, _] rfl; clear hs101
   refine ⟨i + 1, ⟨?_, ?_⟩, by omega⟩
   · first | omega | (simp; done) | (simp; omega)
   have hs103 : Sx 91 [] [(4, .int .i64 ((i : Int) + 1)), (3, .bool (((((within x63.price 1 50) && (spanned x63.first.lo x63.first.hi 0 300)) && (spanned x63.fin.lo x63.fin.hi 0 300)) && (decide ((x63.first.lo : Int) ≤ x63.fin.hi))) && (spanned x65.lo x65.hi 0 50))), (2, .int .i64 0), (1, .pointer (some ⟨b2, 0, none⟩))] [(b2, some (.cells ⟨(bxL b A n cp A2 n2 c2)⟩ 25 (0, 0)))] [] w _ _ := Sx.blks hs102 ((List.Sublist.cons _ (List.Sublist.cons_cons _ List.Sublist.slnil)))
   exact Sx.keepE [0, 1, 2, 3] _ ⟨⟨_, rfl, rfl⟩, ⟨_, rfl, by rw [all_snoc (zip_at hx63 hx65), ← Bool.and_assoc, hok1]; simp [okBoth, Roll.ok, freeOk]⟩, ⟨_, rfl, rfl⟩, ⟨_, rfl, rfl⟩, trivial⟩ hs103
 · have hall : (b.ok0 (n : Int) (n2 : Int) && ((b.rolls.zip b.free).take i).all okBoth) = b.ok := by
     have h9 := hc62
     unfold Bx.ok
     rw [← hl0, ← hl2]
     cases h0 : b.ok0 (n : Int) (n2 : Int) with
     | false => simp
     | true =>
       have hnn : n2 = n := by simp only [Bx.ok0, Bool.and_eq_true, beq_iff_eq] at h0; omega
       rw [h0] at h9
       simp only [Bool.true_and] at h9 ⊢
       rw [take_done (n := n) (by rw [List.length_zip]; omega) h9, all_both (by omega)]
   refine cd_exit ?_
   refine th_exit ?_
   refine th_exit ?_
   refine in_hit ?_
   refine th_norm (hK48 _ _ ?_)
   refine cd_seq fun K108 hK108 => ?_
   refine cd_region fun K109 hK109 => ?_
   refine sq rfl (st_move hs56 (Ev.t 2 rfl) rfl rfl fun _ _ hs57 => ?_); clear hs56
   refine sq rfl (st_not hs57 (Ev.t 0 rfl) rfl rfl fun _ _ hs58 => ?_); clear hs57
   refine hK109 _ _ ?_; clear hK109
   have hs59 := hs58.keep [0, 5] [_, _] rfl; clear hs58
   refine cd_cond hs59 (Ev.t 0 rfl) (fun hc110 => ?_) (fun hc110 => ?_)
   · refine cd_region fun K111 hK111 => ?_
     have hs60 := hs59.keep [0] [_] rfl; clear hs59
     refine sq rfl (st_assign hs60 (.const _) rfl rfl fun _ _ hs61 => ?_); clear hs60
     refine hK111 _ _ ?_; clear hK111
     have hs62 := hs61.keep [0] [_] rfl; clear hs61
     refine cd_retv (vs := [.int .i64 90]) hs62 (fun a_ w_ h => th_ret (hQ0 a_ w_ h)) rfl ⟨.tmp 0 rfl, trivial⟩ ?_
     clear hs62 hQ0 hN0 hK108
     simp_all [pack]
   · refine cd_skip ?_
     refine th_norm (hK108 _ _ ?_)
     refine cd_region fun K112 hK112 => ?_
     have hs60 := hs59.keep [0] [_] rfl; clear hs59
     refine sq rfl (st_assign hs60 (.const _) rfl rfl fun _ _ hs61 => ?_); clear hs60
     refine hK112 _ _ ?_; clear hK112
     have hs62 := hs61.keep [0] [_] rfl; clear hs61
     refine cd_retv (vs := [.int .i64 0]) hs62 hQ0 rfl ⟨.tmp 0 rfl, trivial⟩ ?_
     clear hs62 hQ0 hN0
     simp_all [pack]

theorem isRoll_v (b : Bx) (A : Option Addr) (n cp : Nat) (A2 : Option Addr) (n2 c2 : Nat) (k : Int) (w : World) (hn : n ≤ 140737488351232) (hl : n = b.rolls.length) :
    CallsV Tryd.prog 52 [.agg ⟨(bxL b A n cp A2 n2 c2)⟩, .int .i64 k] w (.bool (isRoll b k)) := by
 refine enter (N := 11) (M := []) w func52 rfl rfl rfl (fun Q0 a_0 hQ0 hN0 hs0 => ?_)
 refine cd_region fun K1 hK1 => ?_
 refine sq rfl (st_box hs0 (Ev.t 0 rfl) rfl rfl rfl fun b2 _ _ hs1 => ?_); clear hs0
 refine sq rfl (st_assign hs1 (.const _) rfl rfl fun _ _ hs2 => ?_); clear hs1
 refine hK1 _ _ ?_; clear hK1
 have hs3 := hs2.keep [0, 1, 3] [_, _, _] rfl; clear hs2
 refine cd_region fun K3 hK3 => ?_
 refine sq rfl (st_move hs3 (Ev.t 2 rfl) rfl rfl fun _ _ hs4 => ?_); clear hs3
 refine sq rfl (st_field (o' := 0) hs4 (Ev.t 2 rfl) rfl rfl runUnderlying25 rfl sizeOf22 rfl rfl fun _ _ hs5 => ?_); clear hs4
 refine sq rfl (st_load1 (o := 0) (off := 0) (v := .slice A n cp) hs5 (Ev.t 0 rfl) rfl rfl isAgg22 (hs5.cells 0 rfl) rfl fun _ _ hs6 => ?_); clear hs5
 refine sq rfl (st_len hs6 (Ev.t 0 rfl) rfl rfl runUnderlying22 fun _ _ hs7 => ?_); clear hs6
 refine sq rfl (st_sub (z := (n : Int) - 1) hs7 (Ev.t 0 rfl) (.const _) rfl rfl rfl (by omega) fun _ _ hs8 => ?_); clear hs7
 refine sq rfl (st_callv (vs := [.int .i64 k, .int .i64 0, .int .i64 ((n : Int) - 1)]) hs8 (.func _) ⟨(Ev.t 4 rfl), (.const _), (Ev.t 0 rfl), trivial⟩ rfl rfl call57 rfl (inside_v k 0 ((n : Int) - 1) _) fun _ _ hs9 => ?_); clear hs8
 have hs10 := hs9.keep [0, 1, 2, 3, 4, 5, 7, 8] [_, _, _, _, _, _, _, _] rfl; clear hs9
 refine sq rfl (st_assign hs10 (Ev.t 0 rfl) rfl rfl fun _ _ hs11 => ?_); clear hs10
 refine hK3 _ _ ?_; clear hK3
 have hs12 := hs11.keep [0] [_] rfl; clear hs11
 refine cd_retv (vs := [.bool (within k 0 ((n : Int) - 1))]) hs12 hQ0 rfl ⟨.tmp 0 rfl, trivial⟩ ?_
 clear hs12 hQ0 hN0
 subst hl; rfl

theorem risRoll_v (b : Bx) (A : Option Addr) (n cp : Nat) (A2 : Option Addr) (n2 c2 : Nat) (k : Int) (w : World) (hn : n ≤ 140737488351232) (hl : n = b.rolls.length) :
    CallsV Tryd.prog 66 [.agg ⟨(bxL b A n cp A2 n2 c2)⟩, .int .i64 k] w (.bool (isRoll b k)) := by
 refine enter (N := 11) (M := []) w func66 rfl rfl rfl (fun Q0 a_0 hQ0 hN0 hs0 => ?_)
 refine cd_region fun K1 hK1 => ?_
 refine sq rfl (st_box hs0 (Ev.t 0 rfl) rfl rfl rfl fun b2 _ _ hs1 => ?_); clear hs0
 refine sq rfl (st_assign hs1 (.const _) rfl rfl fun _ _ hs2 => ?_); clear hs1
 refine hK1 _ _ ?_; clear hK1
 have hs3 := hs2.keep [0, 1, 3] [_, _, _] rfl; clear hs2
 refine cd_region fun K3 hK3 => ?_
 refine sq rfl (st_move hs3 (Ev.t 2 rfl) rfl rfl fun _ _ hs4 => ?_); clear hs3
 refine sq rfl (st_field (o' := 0) hs4 (Ev.t 2 rfl) rfl rfl runUnderlying25 rfl sizeOf22 rfl rfl fun _ _ hs5 => ?_); clear hs4
 refine sq rfl (st_load1 (o := 0) (off := 0) (v := .slice A n cp) hs5 (Ev.t 0 rfl) rfl rfl isAgg22 (hs5.cells 0 rfl) rfl fun _ _ hs6 => ?_); clear hs5
 refine sq rfl (st_len hs6 (Ev.t 0 rfl) rfl rfl runUnderlying22 fun _ _ hs7 => ?_); clear hs6
 refine sq rfl (st_sub (z := (n : Int) - 1) hs7 (Ev.t 0 rfl) (.const _) rfl rfl rfl (by omega) fun _ _ hs8 => ?_); clear hs7
 refine sq rfl (st_callv (vs := [.int .i64 k, .int .i64 0, .int .i64 ((n : Int) - 1)]) hs8 (.func _) ⟨(Ev.t 4 rfl), (.const _), (Ev.t 0 rfl), trivial⟩ rfl rfl call16 rfl (amid_v k 0 ((n : Int) - 1) _) fun _ _ hs9 => ?_); clear hs8
 have hs10 := hs9.keep [0, 1, 2, 3, 4, 5, 7, 8] [_, _, _, _, _, _, _, _] rfl; clear hs9
 refine sq rfl (st_assign hs10 (Ev.t 0 rfl) rfl rfl fun _ _ hs11 => ?_); clear hs10
 refine hK3 _ _ ?_; clear hK3
 have hs12 := hs11.keep [0] [_] rfl; clear hs11
 refine cd_retv (vs := [.bool (within k 0 ((n : Int) - 1))]) hs12 hQ0 rfl ⟨.tmp 0 rfl, trivial⟩ ?_
 clear hs12 hQ0 hN0
 subst hl; rfl

theorem can_v (b : Bx) (A : Option Addr) (n cp : Nat) (A2 : Option Addr) (n2 c2 : Nat) (A3 : Option Addr) (n3 c3 m : Nat) (ss : List Sp) (k : Nat) (s : Sp) (hs : ss[k]? = some s) (x : Int) (w : World) (hS : SpsAt w A3 n3 ss) (_hk : n3 ≤ 1000) :
    CallsV Tryd.prog 53 [.agg ⟨(boxL b A n cp A2 n2 c2 A3 n3 c3 m)⟩, .int .i64 (k : Int), .int .i64 x] w (.bool (within x s.lo s.hi)) := by
 refine enter (N := 21) (M := []) w func53 rfl rfl rfl (fun Q0 a_0 hQ0 hN0 hs0 => ?_)
 refine cd_region fun K1 hK1 => ?_
 refine sq rfl (st_box hs0 (Ev.t 0 rfl) rfl rfl rfl fun b2 _ _ hs1 => ?_); clear hs0
 refine sq rfl (st_assign hs1 (.const _) rfl rfl fun _ _ hs2 => ?_); clear hs1
 refine hK1 _ _ ?_; clear hK1
 have hs3 := hs2.keep [0, 1, 3, 4] [_, _, _, _] rfl; clear hs2
 obtain ⟨b3, o3, hA3, -, hc3⟩ := hS.el k s hs
 refine cd_drawn mixed hs3 [⟨7, [], Is (.int .i64 x)⟩, ⟨8, [], Is (.pointer (some ⟨b2, 7, none⟩))⟩, ⟨9, [1], Is (.slice A3 n3 c3)⟩, ⟨10, [], Is (.int .i64 (k : Int))⟩, ⟨11, [2, 3], Is (.pointer (some ⟨b3, o3 + k * 2, none⟩))⟩, ⟨12, [4], Is (.pointer (some ⟨b3, o3 + k * 2, none⟩))⟩, ⟨13, [5], Is (.int .i64 s.lo)⟩, ⟨14, [], Is (.pointer (some ⟨b2, 7, none⟩))⟩, ⟨15, [7], Is (.slice A3 n3 c3)⟩, ⟨16, [], Is (.int .i64 (k : Int))⟩, ⟨17, [8, 9], Is (.pointer (some ⟨b3, o3 + k * 2, none⟩))⟩, ⟨18, [10], Is (.pointer (some ⟨b3, o3 + k * 2 + 1, none⟩))⟩, ⟨19, [11], Is (.int .i64 s.hi)⟩, ⟨20, [0, 6, 12], Is (.bool (within x s.lo s.hi))⟩] (by kernel_rfl) (by kernel_rfl) fun K4 hK4 => ⟨⟨?_, ?_, ?_, ?_, ?_, ?_, ?_, ?_, ?_, ?_, ?_, ?_, ?_, ?_, trivial⟩, ?_⟩
 · rintro T_ B_ a_ w_ K_ hT hB hf hsD hk
   exact ob rfl rfl (st_move hsD (evT hT 3 rfl) rfl hf fun _ _ => hk _ _ _ _ ⟨rfl, rfl⟩)
 · rintro T_ B_ a_ w_ K_ hT hB hf hsD hk
   exact ob rfl rfl (st_field (o' := 7) hsD (evT hT 1 rfl) rfl hf runUnderlying66 rfl sizeOf23 rfl rfl fun _ _ => hk _ _ _ _ ⟨rfl, rfl⟩)
 · rintro T_ B_ a_ w_ K_ hT hB _ _ ⟨rfl, rfl⟩ h8 - hf hsD hk
   exact ob rfl rfl (st_load1 (o := 0) (off := 7) (v := .slice A3 n3 c3) hsD (Ev.tmp h8) rfl hf isAgg23 (hsD.cellsM (inB hB 0 rfl)) rfl fun _ _ => hk _ _ _ _ ⟨rfl, rfl⟩)
 · rintro T_ B_ a_ w_ K_ hT hB hf hsD hk
   exact ob rfl rfl (st_move hsD (evT hT 2 rfl) rfl hf fun _ _ => hk _ _ _ _ ⟨rfl, rfl⟩)
 · rintro T_ B_ a_ w_ K_ hT hB _ _ ⟨rfl, rfl⟩ h9 - _ _ ⟨rfl, rfl⟩ h10 - hf hsD hk
   exact ob rfl rfl (st_indexM (o' := o3 + k * 2) hsD (Ev.tmp h9) (Ev.tmp h10) rfl hf hA3 runUnderlying23 sizeOf35 ⟨by omega, by have := hS.len; have := (List.getElem?_eq_some_iff.1 hs).1; omega⟩ rfl fun _ _ => hk _ _ _ _ ⟨rfl, rfl⟩)
 · rintro T_ B_ a_ w_ K_ hT hB _ _ ⟨rfl, rfl⟩ h11 - hf hsD hk
   exact ob rfl rfl (st_field (o' := o3 + k * 2) hsD (Ev.tmp h11) rfl hf runUnderlying35 rfl sizeOf3 rfl rfl fun _ _ => hk _ _ _ _ ⟨rfl, rfl⟩)
 · rintro T_ B_ a_ w_ K_ hT hB _ _ ⟨rfl, rfl⟩ h12 - hf hsD hk
   exact ob rfl rfl (st_load1 (o := o3 + k * 2) (off := 0) (v := .int .i64 s.lo) hsD (Ev.tmp h12) rfl hf isAgg3 (hsD.old hc3 (by simp)) rfl fun _ _ => hk _ _ _ _ ⟨rfl, rfl⟩)
 · rintro T_ B_ a_ w_ K_ hT hB hf hsD hk
   exact ob rfl rfl (st_field (o' := 7) hsD (evT hT 1 rfl) rfl hf runUnderlying66 rfl sizeOf23 rfl rfl fun _ _ => hk _ _ _ _ ⟨rfl, rfl⟩)
 · rintro T_ B_ a_ w_ K_ hT hB _ _ ⟨rfl, rfl⟩ h14 - hf hsD hk
   exact ob rfl rfl (st_load1 (o := 0) (off := 7) (v := .slice A3 n3 c3) hsD (Ev.tmp h14) rfl hf isAgg23 (hsD.cellsM (inB hB 0 rfl)) rfl fun _ _ => hk _ _ _ _ ⟨rfl, rfl⟩)
 · rintro T_ B_ a_ w_ K_ hT hB hf hsD hk
   exact ob rfl rfl (st_move hsD (evT hT 2 rfl) rfl hf fun _ _ => hk _ _ _ _ ⟨rfl, rfl⟩)
 · rintro T_ B_ a_ w_ K_ hT hB _ _ ⟨rfl, rfl⟩ h15 - _ _ ⟨rfl, rfl⟩ h16 - hf hsD hk
   exact ob rfl rfl (st_indexM (o' := o3 + k * 2) hsD (Ev.tmp h15) (Ev.tmp h16) rfl hf hA3 runUnderlying23 sizeOf35 ⟨by omega, by have := hS.len; have := (List.getElem?_eq_some_iff.1 hs).1; omega⟩ rfl fun _ _ => hk _ _ _ _ ⟨rfl, rfl⟩)
 · rintro T_ B_ a_ w_ K_ hT hB _ _ ⟨rfl, rfl⟩ h17 - hf hsD hk
   exact ob rfl rfl (st_field (o' := o3 + k * 2 + 1) hsD (Ev.tmp h17) rfl hf runUnderlying35 rfl sizeOf3 rfl rfl fun _ _ => hk _ _ _ _ ⟨rfl, rfl⟩)
 · rintro T_ B_ a_ w_ K_ hT hB _ _ ⟨rfl, rfl⟩ h18 - hf hsD hk
   exact ob rfl rfl (st_load1 (o := o3 + k * 2) (off := 1) (v := .int .i64 s.hi) hsD (Ev.tmp h18) rfl hf isAgg3 (hsD.old hc3 (by simp)) rfl fun _ _ => hk _ _ _ _ ⟨rfl, rfl⟩)
 · rintro T_ B_ a_ w_ K_ hT hB _ _ ⟨rfl, rfl⟩ h7 - _ _ ⟨rfl, rfl⟩ h13 - _ _ ⟨rfl, rfl⟩ h19 - hf hsD hk
   exact ob rfl rfl (st_callv (vs := [.int .i64 x, .int .i64 s.lo, .int .i64 s.hi]) hsD (.func _) ⟨(Ev.tmp h7), (Ev.tmp h13), (Ev.tmp h19), trivial⟩ rfl hf call57 rfl (inside_v x s.lo s.hi _) fun _ _ => hk _ _ _ _ ⟨rfl, rfl⟩)
 rintro _ _ ⟨rfl, rfl⟩ _ _ ⟨rfl, rfl⟩ _ _ ⟨rfl, rfl⟩ _ _ ⟨rfl, rfl⟩ _ _ ⟨rfl, rfl⟩ _ _ ⟨rfl, rfl⟩ _ _ ⟨rfl, rfl⟩ _ _ ⟨rfl, rfl⟩ _ _ ⟨rfl, rfl⟩ _ _ ⟨rfl, rfl⟩ _ _ ⟨rfl, rfl⟩ _ _ ⟨rfl, rfl⟩ _ _ ⟨rfl, rfl⟩ _ _ ⟨rfl, rfl⟩ a_4 w_4 hs4; clear hs3
 have hs5 := Sx.as (T' := [_, _, _, _, _, _, _, _, _, _, _, _, _, _, _, _, _, _]) (B' := [_]) rfl rfl hs4; clear hs4
 have hs6 := hs5.keep [0, 1, 2, 3, 4, 5, 6, 7, 8, 9, 10, 11, 12, 13, 15, 16, 17] [_, _, _, _, _, _, _, _, _, _, _, _, _, _, _, _, _] rfl; clear hs5
 refine sq rfl (st_assign hs6 (Ev.t 13 rfl) rfl rfl fun _ _ hs7 => ?_); clear hs6
 refine hK4 _ _ ?_; clear hK4
 have hs8 := hs7.keep [0] [_] rfl; clear hs7
 refine cd_retv (vs := [.bool (within x s.lo s.hi)]) hs8 hQ0 rfl ⟨.tmp 0 rfl, trivial⟩ ?_
 clear hs8 hQ0 hN0
 rfl

theorem rcan_v (b : Bx) (A : Option Addr) (n cp : Nat) (A2 : Option Addr) (n2 c2 : Nat) (k : Nat) (x : Roll) (hx : b.rolls[k]? = some x) (f : Sp) (hfk : b.free[k]? = some f) (w : World) (hP : RollsAt w A n b.rolls) (_hn : n ≤ 140737488351232) (hF : SpsAt w A2 n2 b.free) (_hn2 : n2 ≤ 140737488351232) (hxo : x.ok = true) (hfo : freeOk f = true) :
    CallsV Tryd.prog 59 [.agg ⟨(bxL b A n cp A2 n2 c2)⟩, .int .i64 (k : Int)] w (.agg ⟨(spL (x.sold f))⟩) := by
 have h1 := ok_roll hxo; have h2 := ok_free hfo
 refine enter (N := 46) (M := []) w func59 rfl rfl rfl (fun Q0 a_0 hQ0 hN0 hs0 => ?_)
 refine cd_region fun K1 hK1 => ?_
 refine sq rfl (st_box hs0 (Ev.t 0 rfl) rfl rfl rfl fun b2 _ _ hs1 => ?_); clear hs0
 refine sq rfl (st_alloc hs1 rfl rfl zeroValue35 rfl fun b3 _ _ hs2 => ?_); clear hs1
 refine hK1 _ _ ?_; clear hK1
 have hs3 := hs2.keep [0, 1, 3] [_, _, _] rfl; clear hs2
 obtain ⟨b4, o4, hA4, -, hc4⟩ := hP.el k x hx
 obtain ⟨b5, o5, hA5, -, hc5⟩ := hF.el k f hfk
 refine cd_drawS mixed [10, 12] ⟨Nat, fun n_ x_ => match n_ with | 0 => [] | 1 => [(5, .pointer (some ⟨x_, 0, none⟩))] | _ => [(5, .pointer (some ⟨x_, 0, none⟩))], fun n_ x_ => match n_ with | 0 => [] | 1 => [(x_, some (.cells ⟨[.int .i64 0, .int .i64 0, .int .i64 0, .int .i64 0, .int .i64 0]⟩ 46 (0, 0)))] | _ => [(x_, some (.cells ⟨(rollL x)⟩ 46 (0, 0)))]⟩ (0 : Nat) hs3 [⟨8, [], Is (.pointer (some ⟨b2, 0, none⟩))⟩, ⟨9, [0], Is (.slice A n cp)⟩, ⟨10, [], Is (.int .i64 (k : Int))⟩, ⟨11, [1, 2], Is (.pointer (some ⟨b4, o4 + k * 5, none⟩))⟩, ⟨12, [3], Is (.agg ⟨(rollL x)⟩)⟩, ⟨13, [], Is (.pointer (some ⟨b2, 1, none⟩))⟩, ⟨14, [5], Is (.slice A2 n2 c2)⟩, ⟨15, [], Is (.int .i64 (k : Int))⟩, ⟨16, [6, 7], Is (.pointer (some ⟨b5, o5 + k * 2, none⟩))⟩, ⟨17, [8], Is (.agg ⟨(spL f)⟩)⟩, ⟨5, [], Is undef⟩, ⟨6, [], fun v_ bs_ => ∃ b7, v_ = .pointer (some ⟨b7, 0, none⟩) ∧ bs_ = [(b7, some (.cells ⟨[.int .i64 0, .int .i64 0]⟩ 35 (0, 0)))]⟩, ⟨58, [4], Is undef⟩] (by kernel_rfl) (fun n_ _ => by rcases n_ with _ | _ | _ <;> rfl) (by kernel_rfl) fun K6 hK6 => ⟨⟨?_, ?_, ?_, ?_, ?_, ?_, ?_, ?_, ?_, ?_, ?_, ?_, ?_, trivial⟩, ?_⟩
 · rintro T_ B_ a_ w_ K_ hT hB hf hsD hk
   exact ob rfl rfl (st_field (o' := 0) hsD (evT hT 1 rfl) rfl hf runUnderlying25 rfl sizeOf22 rfl rfl fun _ _ => hk _ _ _ _ ⟨rfl, rfl⟩)
 · rintro T_ B_ a_ w_ K_ hT hB _ _ ⟨rfl, rfl⟩ h8 - hf hsD hk
   exact ob rfl rfl (st_load1 (o := 0) (off := 0) (v := .slice A n cp) hsD (Ev.tmp h8) rfl hf isAgg22 (hsD.cellsM (inB hB 1 rfl)) rfl fun _ _ => hk _ _ _ _ ⟨rfl, rfl⟩)
 · rintro T_ B_ a_ w_ K_ hT hB hf hsD hk
   exact ob rfl rfl (st_move hsD (evT hT 2 rfl) rfl hf fun _ _ => hk _ _ _ _ ⟨rfl, rfl⟩)
 · rintro T_ B_ a_ w_ K_ hT hB _ _ ⟨rfl, rfl⟩ h9 - _ _ ⟨rfl, rfl⟩ h10 - hf hsD hk
   exact ob rfl rfl (st_indexM (o' := o4 + k * 5) hsD (Ev.tmp h9) (Ev.tmp h10) rfl hf hA4 runUnderlying22 sizeOf46 ⟨by omega, by have := hP.len; have := (List.getElem?_eq_some_iff.1 hx).1; omega⟩ rfl fun _ _ => hk _ _ _ _ ⟨rfl, rfl⟩)
 · rintro T_ B_ a_ w_ K_ hT hB _ _ ⟨rfl, rfl⟩ h11 - hf hsD hk
   exact ob rfl rfl (st_loadA (o := o4 + k * 5) (off := 0) (vs := (rollL x)) hsD (Ev.tmp h11) rfl hf isAgg46 sizeOf46 (hsD.old hc4 (by simp)) rfl fun _ _ => hk _ _ _ _ ⟨rfl, rfl⟩)
 · rintro T_ B_ a_ w_ K_ hT hB hf hsD hk
   exact ob rfl rfl (st_field (o' := 1) hsD (evT hT 1 rfl) rfl hf runUnderlying25 rfl sizeOf23 rfl rfl fun _ _ => hk _ _ _ _ ⟨rfl, rfl⟩)
 · rintro T_ B_ a_ w_ K_ hT hB _ _ ⟨rfl, rfl⟩ h13 - hf hsD hk
   exact ob rfl rfl (st_load1 (o := 0) (off := 1) (v := .slice A2 n2 c2) hsD (Ev.tmp h13) rfl hf isAgg23 (hsD.cellsM (inB hB 1 rfl)) rfl fun _ _ => hk _ _ _ _ ⟨rfl, rfl⟩)
 · rintro T_ B_ a_ w_ K_ hT hB hf hsD hk
   exact ob rfl rfl (st_move hsD (evT hT 2 rfl) rfl hf fun _ _ => hk _ _ _ _ ⟨rfl, rfl⟩)
 · rintro T_ B_ a_ w_ K_ hT hB _ _ ⟨rfl, rfl⟩ h14 - _ _ ⟨rfl, rfl⟩ h15 - hf hsD hk
   exact ob rfl rfl (st_indexM (o' := o5 + k * 2) hsD (Ev.tmp h14) (Ev.tmp h15) rfl hf hA5 runUnderlying23 sizeOf35 ⟨by omega, by have := hF.len; have := (List.getElem?_eq_some_iff.1 hfk).1; omega⟩ rfl fun _ _ => hk _ _ _ _ ⟨rfl, rfl⟩)
 · rintro T_ B_ a_ w_ K_ hT hB _ _ ⟨rfl, rfl⟩ h16 - hf hsD hk
   exact ob rfl rfl (st_loadA (o := o5 + k * 2) (off := 0) (vs := (spL f)) hsD (Ev.tmp h16) rfl hf isAgg35 sizeOf35 (hsD.old hc5 (by simp)) rfl fun _ _ => hk _ _ _ _ ⟨rfl, rfl⟩)
 · rintro T_ B_ a_ w_ K_ x_ hT hB hf hsD hk
   exact ob rfl rfl (st_alloc hsD rfl hf zeroValue46 rfl fun b_1 a_1 w_1 h1 => hk b_1 _ _ h1)
 · rintro T_ B_ a_ w_ K_ hT hB hf hsD hk
   exact ob rfl rfl (st_alloc hsD rfl hf zeroValue35 rfl fun b7 _ _ => hk _ _ _ _ ⟨b7, rfl, rfl⟩)
 · rintro T_ B_ a_ w_ K_ x_ hT hB _ _ ⟨rfl, rfl⟩ h12 - hf hsD hk
   exact ob rfl rfl (st_store (l' := (rollL x)) (vs := (rollL x)) (i := 0) hsD (Ev.t 0 rfl) (Ev.tmp (List.mem_append_right _ h12)) sizeOf46 rfl rfl rfl rfl rfl rfl fun a_1 w_1 h1 => hk x_ _ _ h1)
 rintro _ _ ⟨rfl, rfl⟩
 rintro _ _ ⟨rfl, rfl⟩
 rintro _ _ ⟨rfl, rfl⟩
 rintro _ _ ⟨rfl, rfl⟩
 rintro _ _ ⟨rfl, rfl⟩
 rintro _ _ ⟨rfl, rfl⟩
 rintro _ _ ⟨rfl, rfl⟩
 rintro _ _ ⟨rfl, rfl⟩
 rintro _ _ ⟨rfl, rfl⟩
 rintro _ _ ⟨rfl, rfl⟩
 rintro _ _ ⟨b7, rfl, rfl⟩
 intro (b8 : Nat) a_4 w_4 hs4
 clear hs3
 have hs5 := Sx.as (T' := [_, _, _, _, _, _, _, _, _, _, _, _, _, _, _]) (B' := [_, _, _, _]) rfl rfl hs4; clear hs4
 refine sq rfl (st_store (l' := (spL f)) (vs := (spL f)) (i := 1) hs5 (Ev.t 11 rfl) (Ev.t 10 rfl) sizeOf35 rfl rfl rfl rfl rfl rfl fun _ _ hs6 => ?_); clear hs5
 have hs7 := hs6.asB [_, _, _, _] rfl; clear hs6
 refine hK6 _ _ ?_; clear hK6
 have hs8 := hs7.keep [0, 11, 12] [_, _, _] rfl; clear hs7
 refine cd_region fun K9 hK9 => ?_
 refine sq rfl (st_field (o' := 3) hs8 (Ev.t 0 rfl) rfl rfl runUnderlying46 rfl sizeOf35 rfl rfl fun _ _ hs9 => ?_); clear hs8
 refine sq rfl (st_field (o' := 3) hs9 (Ev.t 0 rfl) rfl rfl runUnderlying35 rfl sizeOf3 rfl rfl fun _ _ hs10 => ?_); clear hs9
 refine sq rfl (st_load1 (o := 0) (off := 3) (v := .int .i64 x.fin.lo) hs10 (Ev.t 0 rfl) rfl rfl isAgg3 (hs10.cells 0 rfl) rfl fun _ _ hs11 => ?_); clear hs10
 refine sq rfl (st_field (o' := 1) hs11 (Ev.t 3 rfl) rfl rfl runUnderlying46 rfl sizeOf35 rfl rfl fun _ _ hs12 => ?_); clear hs11
 refine sq rfl (st_field (o' := 2) hs12 (Ev.t 0 rfl) rfl rfl runUnderlying35 rfl sizeOf3 rfl rfl fun _ _ hs13 => ?_); clear hs12
 refine sq rfl (st_load1 (o := 0) (off := 2) (v := .int .i64 x.first.hi) hs13 (Ev.t 0 rfl) rfl rfl isAgg3 (hs13.cells 0 rfl) rfl fun _ _ hs14 => ?_); clear hs13
 refine sq rfl (st_sub (z := x.fin.lo - x.first.hi) hs14 (Ev.t 3 rfl) (Ev.t 0 rfl) rfl rfl rfl (by omega) fun _ _ hs15 => ?_); clear hs14
 refine sq rfl (st_max hs15 (.const _) (Ev.t 0 rfl) rfl rfl fun _ _ hs16 => ?_); clear hs15
 refine sq rfl (st_field (o' := 3) hs16 (Ev.t 8 rfl) rfl rfl runUnderlying46 rfl sizeOf35 rfl rfl fun _ _ hs17 => ?_); clear hs16
 refine sq rfl (st_field (o' := 4) hs17 (Ev.t 0 rfl) rfl rfl runUnderlying35 rfl sizeOf3 rfl rfl fun _ _ hs18 => ?_); clear hs17
 refine sq rfl (st_load1 (o := 0) (off := 4) (v := .int .i64 x.fin.hi) hs18 (Ev.t 0 rfl) rfl rfl isAgg3 (hs18.cells 0 rfl) rfl fun _ _ hs19 => ?_); clear hs18
 refine sq rfl (st_field (o' := 1) hs19 (Ev.t 11 rfl) rfl rfl runUnderlying46 rfl sizeOf35 rfl rfl fun _ _ hs20 => ?_); clear hs19
 refine sq rfl (st_field (o' := 1) hs20 (Ev.t 0 rfl) rfl rfl runUnderlying35 rfl sizeOf3 rfl rfl fun _ _ hs21 => ?_); clear hs20
 refine sq rfl (st_load1 (o := 0) (off := 1) (v := .int .i64 x.first.lo) hs21 (Ev.t 0 rfl) rfl rfl isAgg3 (hs21.cells 0 rfl) rfl fun _ _ hs22 => ?_); clear hs21
 refine sq rfl (st_sub (z := x.fin.hi - x.first.lo) hs22 (Ev.t 3 rfl) (Ev.t 0 rfl) rfl rfl rfl (by omega) fun _ _ hs23 => ?_); clear hs22
 refine sq rfl (st_callv (vs := [.int .i64 (max 0 (x.fin.lo - x.first.hi)), .int .i64 (x.fin.hi - x.first.lo)]) hs23 (.func _) ⟨(Ev.t 7 rfl), (Ev.t 0 rfl), trivial⟩ rfl rfl call23 rfl (S_v (max 0 (x.fin.lo - x.first.hi)) (x.fin.hi - x.first.lo) _) fun _ _ hs24 => ?_); clear hs23
 refine sq rfl (st_alloc hs24 rfl rfl zeroValue35 rfl fun b10 _ _ hs25 => ?_); clear hs24
 refine sq rfl (st_store (l' := [.int .i64 (max 0 (x.fin.lo - x.first.hi)), .int .i64 (x.fin.hi - x.first.lo)]) (vs := [.int .i64 (max 0 (x.fin.lo - x.first.hi)), .int .i64 (x.fin.hi - x.first.lo)]) (i := 0) hs25 (Ev.t 0 rfl) (Ev.t 1 rfl) sizeOf35 rfl rfl rfl rfl rfl rfl fun _ _ hs26 => ?_); clear hs25
 have hs27 := hs26.asB [_, _, _, _, _] rfl; clear hs26
 refine hK9 _ _ ?_; clear hK9
 have hs28 := hs27.keep [0, 18, 19] [_, _, _] rfl; clear hs27
 refine cd_region fun K11 hK11 => ?_
 refine sq rfl (st_field (o' := 0) hs28 (Ev.t 0 rfl) rfl rfl runUnderlying35 rfl sizeOf3 rfl rfl fun _ _ hs29 => ?_); clear hs28
 refine sq rfl (st_load1 (o := 0) (off := 0) (v := .int .i64 (max 0 (x.fin.lo - x.first.hi))) hs29 (Ev.t 0 rfl) rfl rfl isAgg3 (hs29.cells 0 rfl) rfl fun _ _ hs30 => ?_); clear hs29
 refine sq rfl (st_field (o' := 1) hs30 (Ev.t 3 rfl) rfl rfl runUnderlying35 rfl sizeOf3 rfl rfl fun _ _ hs31 => ?_); clear hs30
 refine sq rfl (st_load1 (o := 0) (off := 1) (v := .int .i64 f.hi) hs31 (Ev.t 0 rfl) rfl rfl isAgg3 (hs31.cells 2 rfl) rfl fun _ _ hs32 => ?_); clear hs31
 refine sq rfl (st_sub (z := (max 0 (x.fin.lo - x.first.hi)) - f.hi) hs32 (Ev.t 2 rfl) (Ev.t 0 rfl) rfl rfl rfl (by omega) fun _ _ hs33 => ?_); clear hs32
 refine sq rfl (st_max hs33 (.const _) (Ev.t 0 rfl) rfl rfl fun _ _ hs34 => ?_); clear hs33
 refine sq rfl (st_field (o' := 1) hs34 (Ev.t 6 rfl) rfl rfl runUnderlying35 rfl sizeOf3 rfl rfl fun _ _ hs35 => ?_); clear hs34
 refine sq rfl (st_load1 (o := 0) (off := 1) (v := .int .i64 (x.fin.hi - x.first.lo)) hs35 (Ev.t 0 rfl) rfl rfl isAgg3 (hs35.cells 0 rfl) rfl fun _ _ hs36 => ?_); clear hs35
 refine sq rfl (st_field (o' := 0) hs36 (Ev.t 9 rfl) rfl rfl runUnderlying35 rfl sizeOf3 rfl rfl fun _ _ hs37 => ?_); clear hs36
 refine sq rfl (st_load1 (o := 0) (off := 0) (v := .int .i64 f.lo) hs37 (Ev.t 0 rfl) rfl rfl isAgg3 (hs37.cells 2 rfl) rfl fun _ _ hs38 => ?_); clear hs37
 refine sq rfl (st_sub (z := (x.fin.hi - x.first.lo) - f.lo) hs38 (Ev.t 2 rfl) (Ev.t 0 rfl) rfl rfl rfl (by omega) fun _ _ hs39 => ?_); clear hs38
 refine sq rfl (st_callv (vs := [.int .i64 (max 0 ((max 0 (x.fin.lo - x.first.hi)) - f.hi)), .int .i64 ((x.fin.hi - x.first.lo) - f.lo)]) hs39 (.func _) ⟨(Ev.t 5 rfl), (Ev.t 0 rfl), trivial⟩ rfl rfl call23 rfl (S_v (max 0 ((max 0 (x.fin.lo - x.first.hi)) - f.hi)) ((x.fin.hi - x.first.lo) - f.lo) _) fun _ _ hs40 => ?_); clear hs39
 refine sq rfl (st_store (l' := [.int .i64 (max 0 ((max 0 (x.fin.lo - x.first.hi)) - f.hi)), .int .i64 ((x.fin.hi - x.first.lo) - f.lo)]) (vs := [.int .i64 (max 0 ((max 0 (x.fin.lo - x.first.hi)) - f.hi)), .int .i64 ((x.fin.hi - x.first.lo) - f.lo)]) (i := 3) hs40 (Ev.t 14 rfl) (Ev.t 0 rfl) sizeOf35 rfl rfl rfl rfl rfl rfl fun _ _ hs41 => ?_); clear hs40
 have hs42 := hs41.asB [_, _, _, _, _] rfl; clear hs41
 refine hK11 _ _ ?_; clear hK11
 have hs43 := hs42.keep [14] [_] rfl; clear hs42
 refine cd_retv (vs := [.agg ⟨[.int .i64 (max 0 ((max 0 (x.fin.lo - x.first.hi)) - f.hi)), .int .i64 ((x.fin.hi - x.first.lo) - f.lo)]⟩]) hs43 hQ0 rfl ⟨resA (o := 0) (off := 0) (vs := [.int .i64 (max 0 ((max 0 (x.fin.lo - x.first.hi)) - f.hi)), .int .i64 ((x.fin.hi - x.first.lo) - f.lo)]) 0 rfl isAgg35 sizeOf35 (hs43.cells 3 rfl) rfl, trivial⟩ ?_
 clear hs43 hQ0 hN0
 rfl

theorem near_v (b : Bx) (A : Option Addr) (n cp : Nat) (A2 : Option Addr) (n2 c2 : Nat) (t e : Int) (w : World) (hc : 0 ≤ b.count ∧ b.count ≤ 60000) (he : -1000000 ≤ e ∧ e ≤ 1000000) :
    CallsV Tryd.prog 60 [.agg ⟨(bxL b A n cp A2 n2 c2)⟩, .int .i64 t, .int .i64 e] w (.bool (within t (b.count - e) (b.count + e))) := by
 refine enter (N := 17) (M := []) w func60 rfl rfl rfl (fun Q0 a_0 hQ0 hN0 hs0 => ?_)
 refine cd_region fun K1 hK1 => ?_
 refine sq rfl (st_box hs0 (Ev.t 0 rfl) rfl rfl rfl fun b2 _ _ hs1 => ?_); clear hs0
 refine sq rfl (st_assign hs1 (.const _) rfl rfl fun _ _ hs2 => ?_); clear hs1
 refine hK1 _ _ ?_; clear hK1
 have hs3 := hs2.keep [0, 1, 3, 4] [_, _, _, _] rfl; clear hs2
 refine cd_region fun K3 hK3 => ?_
 refine sq rfl (st_move hs3 (Ev.t 2 rfl) rfl rfl fun _ _ hs4 => ?_); clear hs3
 refine sq rfl (st_field (o' := 2) hs4 (Ev.t 2 rfl) rfl rfl runUnderlying25 rfl sizeOf3 rfl rfl fun _ _ hs5 => ?_); clear hs4
 refine sq rfl (st_load1 (o := 0) (off := 2) (v := .int .i64 b.count) hs5 (Ev.t 0 rfl) rfl rfl isAgg3 (hs5.cells 0 rfl) rfl fun _ _ hs6 => ?_); clear hs5
 refine sq rfl (st_move hs6 (Ev.t 6 rfl) rfl rfl fun _ _ hs7 => ?_); clear hs6
 refine sq rfl (st_sub (z := b.count - e) hs7 (Ev.t 1 rfl) (Ev.t 0 rfl) rfl rfl rfl (by omega) fun _ _ hs8 => ?_); clear hs7
 refine sq rfl (st_field (o' := 2) hs8 (Ev.t 6 rfl) rfl rfl runUnderlying25 rfl sizeOf3 rfl rfl fun _ _ hs9 => ?_); clear hs8
 refine sq rfl (st_load1 (o := 0) (off := 2) (v := .int .i64 b.count) hs9 (Ev.t 0 rfl) rfl rfl isAgg3 (hs9.cells 0 rfl) rfl fun _ _ hs10 => ?_); clear hs9
 refine sq rfl (st_move hs10 (Ev.t 10 rfl) rfl rfl fun _ _ hs11 => ?_); clear hs10
 refine sq rfl (st_add (z := b.count + e) hs11 (Ev.t 1 rfl) (Ev.t 0 rfl) rfl rfl rfl (by omega) fun _ _ hs12 => ?_); clear hs11
 refine sq rfl (st_callv (vs := [.int .i64 t, .int .i64 (b.count - e), .int .i64 (b.count + e)]) hs12 (.func _) ⟨(Ev.t 8 rfl), (Ev.t 4 rfl), (Ev.t 0 rfl), trivial⟩ rfl rfl call16 rfl (amid_v t (b.count - e) (b.count + e) _) fun _ _ hs13 => ?_); clear hs12
 have hs14 := hs13.keep [0, 1, 2, 3, 4, 5, 6, 7, 8, 9, 11, 12, 13] [_, _, _, _, _, _, _, _, _, _, _, _, _] rfl; clear hs13
 refine sq rfl (st_assign hs14 (Ev.t 0 rfl) rfl rfl fun _ _ hs15 => ?_); clear hs14
 refine hK3 _ _ ?_; clear hK3
 have hs16 := hs15.keep [0] [_] rfl; clear hs15
 refine cd_retv (vs := [.bool (within t (b.count - e) (b.count + e))]) hs16 hQ0 rfl ⟨.tmp 0 rfl, trivial⟩ ?_
 clear hs16 hQ0 hN0
 rfl

theorem duty_bd {b : Bx} {t : Int} (ht : 0 ≤ t ∧ t ≤ 60000) (hd : 0 ≤ b.duty ∧ b.duty ≤ 100) : 0 ≤ dutyI b t ∧ dutyI b t ≤ t := by
  unfold dutyI
  have h1 := Int.mul_nonneg ht.1 hd.1
  have h2 : t * b.duty ≤ t * 100 := Int.mul_le_mul_of_nonneg_left hd.2 ht.1
  omega
theorem share_bd {b : Bx} {t : Int} (ht : 0 ≤ t ∧ t ≤ 60000) (hd : 0 ≤ b.share ∧ b.share ≤ 100) : 0 ≤ t * b.share ∧ t * b.share ≤ t * 100 :=
  ⟨Int.mul_nonneg ht.1 hd.1, Int.mul_le_mul_of_nonneg_left hd.2 ht.1⟩
theorem hire_bd {b : Bx} {t : Int} (ht : 0 ≤ t ∧ t ≤ 60000) (hd : 0 ≤ b.duty ∧ b.duty ≤ 100) (hsh : 0 ≤ b.share ∧ b.share ≤ 100) (hg : 0 ≤ b.guar ∧ b.guar ≤ 60000) : 0 ≤ hireI b t ∧ hireI b t ≤ 60000 := by
  have h1 := duty_bd ht hd
  have h2 := share_bd (b := b) (t := t - dutyI b t) (by omega) hsh
  unfold hireI
  omega

theorem hire_v (b : Bx) (A : Option Addr) (n cp : Nat) (A2 : Option Addr) (n2 c2 : Nat) (A3 : Option Addr) (n3 c3 m : Nat) (t : Int) (w : World) (ht : 0 ≤ t ∧ t ≤ 60000) (hd : 0 ≤ b.duty ∧ b.duty ≤ 100) (hsh : 0 ≤ b.share ∧ b.share ≤ 100) (_hg : 0 ≤ b.guar ∧ b.guar ≤ 60000) :
    CallsV Tryd.prog 96 [.agg ⟨(boxL b A n cp A2 n2 c2 A3 n3 c3 m)⟩, .int .i64 t] w (.int .i64 (hireI b t)) := by
 have h1 := duty_bd ht hd
 have h2 := share_bd (b := b) (t := t - dutyI b t) (by omega) hsh
 refine enter (N := 20) (M := []) w func96 rfl rfl rfl (fun Q0 a_0 hQ0 hN0 hs0 => ?_)
 refine cd_region fun K1 hK1 => ?_
 refine sq rfl (st_box hs0 (Ev.t 0 rfl) rfl rfl rfl fun b2 _ _ hs1 => ?_); clear hs0
 refine sq rfl (st_assign hs1 (.const _) rfl rfl fun _ _ hs2 => ?_); clear hs1
 refine hK1 _ _ ?_; clear hK1
 have hs3 := hs2.keep [0, 1, 3] [_, _, _] rfl; clear hs2
 refine cd_drawn mixed hs3 [⟨5, [], Is (.pointer (some ⟨b2, 0, none⟩))⟩, ⟨6, [0], Is (.pointer (some ⟨b2, 6, none⟩))⟩, ⟨7, [1], Is (.int .i64 b.guar)⟩, ⟨8, [], Is (.int .i64 t)⟩, ⟨9, [], Is (.agg ⟨(boxL b A n cp A2 n2 c2 A3 n3 c3 m)⟩)⟩, ⟨10, [], Is (.int .i64 t)⟩, ⟨11, [4, 5], Is (.int .i64 (dutyI b t))⟩, ⟨12, [3, 6], Is (.int .i64 (t - (dutyI b t)))⟩, ⟨13, [], Is (.pointer (some ⟨b2, 0, none⟩))⟩, ⟨14, [8], Is (.pointer (some ⟨b2, 5, none⟩))⟩, ⟨15, [9], Is (.int .i64 b.share)⟩, ⟨16, [7, 10], Is (.int .i64 ((t - (dutyI b t)) * b.share))⟩, ⟨17, [11], Is (.int .i64 (((t - (dutyI b t)) * b.share) / 100))⟩, ⟨18, [12], fun v_ bs_ => ∃ b4, v_ = .slice (some ⟨b4, 0, none⟩) 1 1 ∧ bs_ = [(b4, some (.cells ⟨[.int .i64 (((t - (dutyI b t)) * b.share) / 100)]⟩ 3 (0, 0)))]⟩, ⟨19, [2, 13], Is (.int .i64 (max b.guar (((t - (dutyI b t)) * b.share) / 100)))⟩] (by kernel_rfl) (by kernel_rfl) fun K3 hK3 => ⟨⟨?_, ?_, ?_, ?_, ?_, ?_, ?_, ?_, ?_, ?_, ?_, ?_, ?_, ?_, ?_, trivial⟩, ?_⟩
 · rintro T_ B_ a_ w_ K_ hT hB hf hsD hk
   exact ob rfl rfl (st_field (o' := 0) hsD (evT hT 1 rfl) rfl hf runUnderlying66 rfl sizeOf25 rfl rfl fun _ _ => hk _ _ _ _ ⟨rfl, rfl⟩)
 · rintro T_ B_ a_ w_ K_ hT hB _ _ ⟨rfl, rfl⟩ h5 - hf hsD hk
   exact ob rfl rfl (st_field (o' := 6) hsD (Ev.tmp h5) rfl hf runUnderlying25 rfl sizeOf3 rfl rfl fun _ _ => hk _ _ _ _ ⟨rfl, rfl⟩)
 · rintro T_ B_ a_ w_ K_ hT hB _ _ ⟨rfl, rfl⟩ h6 - hf hsD hk
   exact ob rfl rfl (st_load1 (o := 0) (off := 6) (v := .int .i64 b.guar) hsD (Ev.tmp h6) rfl hf isAgg3 (hsD.cellsM (inB hB 0 rfl)) rfl fun _ _ => hk _ _ _ _ ⟨rfl, rfl⟩)
 · rintro T_ B_ a_ w_ K_ hT hB hf hsD hk
   exact ob rfl rfl (st_move hsD (evT hT 2 rfl) rfl hf fun _ _ => hk _ _ _ _ ⟨rfl, rfl⟩)
 · rintro T_ B_ a_ w_ K_ hT hB hf hsD hk
   exact ob rfl rfl (st_loadA (o := 0) (off := 0) (vs := (boxL b A n cp A2 n2 c2 A3 n3 c3 m)) hsD (evT hT 1 rfl) rfl hf isAgg66 sizeOf66 (hsD.cellsM (inB hB 0 rfl)) rfl fun _ _ => hk _ _ _ _ ⟨rfl, rfl⟩)
 · rintro T_ B_ a_ w_ K_ hT hB hf hsD hk
   exact ob rfl rfl (st_move hsD (evT hT 2 rfl) rfl hf fun _ _ => hk _ _ _ _ ⟨rfl, rfl⟩)
 · rintro T_ B_ a_ w_ K_ hT hB _ _ ⟨rfl, rfl⟩ h9 - _ _ ⟨rfl, rfl⟩ h10 - hf hsD hk
   exact ob rfl rfl (st_callv (vs := [.agg ⟨(boxL b A n cp A2 n2 c2 A3 n3 c3 m)⟩, .int .i64 t]) hsD (.func _) ⟨(Ev.tmp h9), (Ev.tmp h10), trivial⟩ rfl hf call93 rfl (duty_v b A n cp A2 n2 c2 A3 n3 c3 m t _ ht hd) fun _ _ => hk _ _ _ _ ⟨rfl, rfl⟩)
 · rintro T_ B_ a_ w_ K_ hT hB _ _ ⟨rfl, rfl⟩ h8 - _ _ ⟨rfl, rfl⟩ h11 - hf hsD hk
   exact ob rfl rfl (st_sub (z := t - (dutyI b t)) hsD (Ev.tmp h8) (Ev.tmp h11) rfl hf rfl (by omega) fun _ _ => hk _ _ _ _ ⟨rfl, rfl⟩)
 · rintro T_ B_ a_ w_ K_ hT hB hf hsD hk
   exact ob rfl rfl (st_field (o' := 0) hsD (evT hT 1 rfl) rfl hf runUnderlying66 rfl sizeOf25 rfl rfl fun _ _ => hk _ _ _ _ ⟨rfl, rfl⟩)
 · rintro T_ B_ a_ w_ K_ hT hB _ _ ⟨rfl, rfl⟩ h13 - hf hsD hk
   exact ob rfl rfl (st_field (o' := 5) hsD (Ev.tmp h13) rfl hf runUnderlying25 rfl sizeOf3 rfl rfl fun _ _ => hk _ _ _ _ ⟨rfl, rfl⟩)
 · rintro T_ B_ a_ w_ K_ hT hB _ _ ⟨rfl, rfl⟩ h14 - hf hsD hk
   exact ob rfl rfl (st_load1 (o := 0) (off := 5) (v := .int .i64 b.share) hsD (Ev.tmp h14) rfl hf isAgg3 (hsD.cellsM (inB hB 0 rfl)) rfl fun _ _ => hk _ _ _ _ ⟨rfl, rfl⟩)
 · rintro T_ B_ a_ w_ K_ hT hB _ _ ⟨rfl, rfl⟩ h12 - _ _ ⟨rfl, rfl⟩ h15 - hf hsD hk
   exact ob rfl rfl (st_mul (z := (t - (dutyI b t)) * b.share) hsD (Ev.tmp h12) (Ev.tmp h15) rfl hf rfl (by omega) fun _ _ => hk _ _ _ _ ⟨rfl, rfl⟩)
 · rintro T_ B_ a_ w_ K_ hT hB _ _ ⟨rfl, rfl⟩ h16 - hf hsD hk
   exact ob rfl rfl (st_quo hsD (Ev.tmp h16) (.const _) rfl hf (by omega) fun _ _ => hk _ _ _ _ ⟨rfl, rfl⟩)
 · rintro T_ B_ a_ w_ K_ hT hB _ _ ⟨rfl, rfl⟩ h17 - hf hsD hk
   exact ob rfl rfl (st_buildSlice hsD (qs := [(0, .int .i64 (((t - (dutyI b t)) * b.share) / 100))]) (e := 3) (l := [.int .i64 (((t - (dutyI b t)) * b.share) / 100)]) ⟨(Ev.tmp h17), trivial⟩ rfl hf rfl (fun _ => by kernel_rfl) fun b4 _ _ => hk _ _ _ _ ⟨b4, rfl, rfl⟩)
 · rintro T_ B_ a_ w_ K_ hT hB _ _ ⟨rfl, rfl⟩ h7 - _ _ ⟨b4, rfl, rfl⟩ h18 hB18 hf hsD hk
   exact ob rfl rfl (st_callv (vs := [.int .i64 b.guar, .slice (some ⟨b4, 0, none⟩) 1 1]) hsD (.func _) ⟨(Ev.tmp h7), (Ev.tmp h18), trivial⟩ rfl hf call49 rfl (great_v b.guar (((t - (dutyI b t)) * b.share) / 100) b4 _ (hsD.cellsM (hB18 _ List.mem_cons_self))) fun _ _ => hk _ _ _ _ ⟨rfl, rfl⟩)
 rintro _ _ ⟨rfl, rfl⟩ _ _ ⟨rfl, rfl⟩ _ _ ⟨rfl, rfl⟩ _ _ ⟨rfl, rfl⟩ _ _ ⟨rfl, rfl⟩ _ _ ⟨rfl, rfl⟩ _ _ ⟨rfl, rfl⟩ _ _ ⟨rfl, rfl⟩ _ _ ⟨rfl, rfl⟩ _ _ ⟨rfl, rfl⟩ _ _ ⟨rfl, rfl⟩ _ _ ⟨rfl, rfl⟩ _ _ ⟨rfl, rfl⟩ _ _ ⟨b4, rfl, rfl⟩ _ _ ⟨rfl, rfl⟩ a_4 w_4 hs4; clear hs3
 have hs5 := Sx.as (T' := [_, _, _, _, _, _, _, _, _, _, _, _, _, _, _, _, _, _]) (B' := [_, _]) rfl rfl hs4; clear hs4
 have hs6 := hs5.keep [0, 1, 2, 3, 4, 5, 6, 7, 8, 9, 10, 11, 12, 13, 14, 16, 17] [_, _, _, _, _, _, _, _, _, _, _, _, _, _, _, _, _] rfl; clear hs5
 refine sq rfl (st_assign hs6 (Ev.t 14 rfl) rfl rfl fun _ _ hs7 => ?_); clear hs6
 refine hK3 _ _ ?_; clear hK3
 have hs8 := hs7.keep [0] [_] rfl; clear hs7
 refine cd_retv (vs := [.int .i64 (max b.guar (((t - (dutyI b t)) * b.share) / 100))]) hs8 hQ0 rfl ⟨.tmp 0 rfl, trivial⟩ ?_
 clear hs8 hQ0 hN0
 rfl

theorem left_v (b : Bx) (A : Option Addr) (n cp : Nat) (A2 : Option Addr) (n2 c2 : Nat) (A3 : Option Addr) (n3 c3 m : Nat) (t : Int) (w : World) (ht : 0 ≤ t ∧ t ≤ 60000) (hd : 0 ≤ b.duty ∧ b.duty ≤ 100) (hsh : 0 ≤ b.share ∧ b.share ≤ 100) (hg : 0 ≤ b.guar ∧ b.guar ≤ 60000) :
    CallsV Tryd.prog 97 [.agg ⟨(boxL b A n cp A2 n2 c2 A3 n3 c3 m)⟩, .int .i64 t] w (.int .i64 (leftI b t)) := by
 have h1 := duty_bd ht hd
 have h2 := share_bd (b := b) (t := t - dutyI b t) (by omega) hsh
 have h3 := hire_bd ht hd hsh hg
 refine enter (N := 14) (M := []) w func97 rfl rfl rfl (fun Q0 a_0 hQ0 hN0 hs0 => ?_)
 refine cd_region fun K1 hK1 => ?_
 refine sq rfl (st_box hs0 (Ev.t 0 rfl) rfl rfl rfl fun b2 _ _ hs1 => ?_); clear hs0
 refine sq rfl (st_assign hs1 (.const _) rfl rfl fun _ _ hs2 => ?_); clear hs1
 refine hK1 _ _ ?_; clear hK1
 have hs3 := hs2.keep [0, 1, 3] [_, _, _] rfl; clear hs2
 refine cd_drawn mixed hs3 [⟨5, [], Is (.int .i64 t)⟩, ⟨6, [], Is (.agg ⟨(boxL b A n cp A2 n2 c2 A3 n3 c3 m)⟩)⟩, ⟨7, [], Is (.int .i64 t)⟩, ⟨8, [1, 2], Is (.int .i64 (dutyI b t))⟩, ⟨9, [0, 3], Is (.int .i64 (t - (dutyI b t)))⟩, ⟨10, [], Is (.agg ⟨(boxL b A n cp A2 n2 c2 A3 n3 c3 m)⟩)⟩, ⟨11, [], Is (.int .i64 t)⟩, ⟨12, [5, 6], Is (.int .i64 (hireI b t))⟩] (by kernel_rfl) (by kernel_rfl) fun K3 hK3 => ⟨⟨?_, ?_, ?_, ?_, ?_, ?_, ?_, ?_, trivial⟩, ?_⟩
 · rintro T_ B_ a_ w_ K_ hT hB hf hsD hk
   exact ob rfl rfl (st_move hsD (evT hT 2 rfl) rfl hf fun _ _ => hk _ _ _ _ ⟨rfl, rfl⟩)
 · rintro T_ B_ a_ w_ K_ hT hB hf hsD hk
   exact ob rfl rfl (st_loadA (o := 0) (off := 0) (vs := (boxL b A n cp A2 n2 c2 A3 n3 c3 m)) hsD (evT hT 1 rfl) rfl hf isAgg66 sizeOf66 (hsD.cellsM (inB hB 0 rfl)) rfl fun _ _ => hk _ _ _ _ ⟨rfl, rfl⟩)
 · rintro T_ B_ a_ w_ K_ hT hB hf hsD hk
   exact ob rfl rfl (st_move hsD (evT hT 2 rfl) rfl hf fun _ _ => hk _ _ _ _ ⟨rfl, rfl⟩)
 · rintro T_ B_ a_ w_ K_ hT hB _ _ ⟨rfl, rfl⟩ h6 - _ _ ⟨rfl, rfl⟩ h7 - hf hsD hk
   exact ob rfl rfl (st_callv (vs := [.agg ⟨(boxL b A n cp A2 n2 c2 A3 n3 c3 m)⟩, .int .i64 t]) hsD (.func _) ⟨(Ev.tmp h6), (Ev.tmp h7), trivial⟩ rfl hf call93 rfl (duty_v b A n cp A2 n2 c2 A3 n3 c3 m t _ ht hd) fun _ _ => hk _ _ _ _ ⟨rfl, rfl⟩)
 · rintro T_ B_ a_ w_ K_ hT hB _ _ ⟨rfl, rfl⟩ h5 - _ _ ⟨rfl, rfl⟩ h8 - hf hsD hk
   exact ob rfl rfl (st_sub (z := t - (dutyI b t)) hsD (Ev.tmp h5) (Ev.tmp h8) rfl hf rfl (by omega) fun _ _ => hk _ _ _ _ ⟨rfl, rfl⟩)
 · rintro T_ B_ a_ w_ K_ hT hB hf hsD hk
   exact ob rfl rfl (st_loadA (o := 0) (off := 0) (vs := (boxL b A n cp A2 n2 c2 A3 n3 c3 m)) hsD (evT hT 1 rfl) rfl hf isAgg66 sizeOf66 (hsD.cellsM (inB hB 0 rfl)) rfl fun _ _ => hk _ _ _ _ ⟨rfl, rfl⟩)
 · rintro T_ B_ a_ w_ K_ hT hB hf hsD hk
   exact ob rfl rfl (st_move hsD (evT hT 2 rfl) rfl hf fun _ _ => hk _ _ _ _ ⟨rfl, rfl⟩)
 · rintro T_ B_ a_ w_ K_ hT hB _ _ ⟨rfl, rfl⟩ h10 - _ _ ⟨rfl, rfl⟩ h11 - hf hsD hk
   exact ob rfl rfl (st_callv (vs := [.agg ⟨(boxL b A n cp A2 n2 c2 A3 n3 c3 m)⟩, .int .i64 t]) hsD (.func _) ⟨(Ev.tmp h10), (Ev.tmp h11), trivial⟩ rfl hf call96 rfl (hire_v b A n cp A2 n2 c2 A3 n3 c3 m t _ ht hd hsh hg) fun _ _ => hk _ _ _ _ ⟨rfl, rfl⟩)
 rintro _ _ ⟨rfl, rfl⟩ _ _ ⟨rfl, rfl⟩ _ _ ⟨rfl, rfl⟩ _ _ ⟨rfl, rfl⟩ _ _ ⟨rfl, rfl⟩ _ _ ⟨rfl, rfl⟩ _ _ ⟨rfl, rfl⟩ _ _ ⟨rfl, rfl⟩ a_4 w_4 hs4; clear hs3
 have hs5 := Sx.as (T' := [_, _, _, _, _, _, _, _, _, _, _]) (B' := [_]) rfl rfl hs4; clear hs4
 refine sq rfl (st_sub (z := (t - (dutyI b t)) - (hireI b t)) hs5 (Ev.t 4 rfl) (Ev.t 7 rfl) rfl rfl rfl (by omega) fun _ _ hs6 => ?_); clear hs5
 have hs7 := hs6.keep [0, 1, 2, 3, 4, 5, 6, 7, 8, 10, 11] [_, _, _, _, _, _, _, _, _, _, _] rfl; clear hs6
 refine sq rfl (st_assign hs7 (Ev.t 0 rfl) rfl rfl fun _ _ hs8 => ?_); clear hs7
 refine hK3 _ _ ?_; clear hK3
 have hs9 := hs8.keep [0] [_] rfl; clear hs8
 refine cd_retv (vs := [.int .i64 ((t - (dutyI b t)) - (hireI b t))]) hs9 hQ0 rfl ⟨.tmp 0 rfl, trivial⟩ ?_
 clear hs9 hQ0 hN0
 rfl

theorem rhire_v (b : Bx) (A : Option Addr) (n cp : Nat) (A2 : Option Addr) (n2 c2 : Nat) (t : Int) (w : World) (ht : 0 ≤ t ∧ t ≤ 60000) (hd : 0 ≤ b.duty ∧ b.duty ≤ 100) (hsh : 0 ≤ b.share ∧ b.share ≤ 100) (_hg : 0 ≤ b.guar ∧ b.guar ≤ 60000) :
    CallsV Tryd.prog 69 [.agg ⟨(bxL b A n cp A2 n2 c2)⟩, .int .i64 t] w (.int .i64 (hireI b t)) := by
 have h1 := duty_bd ht hd
 have h2 := share_bd (b := b) (t := t - dutyI b t) (by omega) hsh
 refine enter (N := 17) (M := []) w func69 rfl rfl rfl (fun Q0 a_0 hQ0 hN0 hs0 => ?_)
 refine cd_region fun K1 hK1 => ?_
 refine sq rfl (st_box hs0 (Ev.t 0 rfl) rfl rfl rfl fun b2 _ _ hs1 => ?_); clear hs0
 refine sq rfl (st_assign hs1 (.const _) rfl rfl fun _ _ hs2 => ?_); clear hs1
 refine hK1 _ _ ?_; clear hK1
 have hs3 := hs2.keep [0, 1, 3] [_, _, _] rfl; clear hs2
 refine cd_drawn mixed hs3 [⟨5, [], Is (.pointer (some ⟨b2, 6, none⟩))⟩, ⟨6, [0], Is (.int .i64 b.guar)⟩, ⟨7, [], Is (.int .i64 t)⟩, ⟨8, [], Is (.agg ⟨(bxL b A n cp A2 n2 c2)⟩)⟩, ⟨9, [], Is (.int .i64 t)⟩, ⟨10, [3, 4], Is (.int .i64 (dutyI b t))⟩, ⟨11, [2, 5], Is (.int .i64 (t - (dutyI b t)))⟩, ⟨12, [], Is (.pointer (some ⟨b2, 5, none⟩))⟩, ⟨13, [7], Is (.int .i64 b.share)⟩, ⟨14, [6, 8], Is (.int .i64 ((t - (dutyI b t)) * b.share))⟩, ⟨15, [9], Is (.int .i64 (((t - (dutyI b t)) * b.share) / 100))⟩] (by kernel_rfl) (by kernel_rfl) fun K3 hK3 => ⟨⟨?_, ?_, ?_, ?_, ?_, ?_, ?_, ?_, ?_, ?_, ?_, trivial⟩, ?_⟩
 · rintro T_ B_ a_ w_ K_ hT hB hf hsD hk
   exact ob rfl rfl (st_field (o' := 6) hsD (evT hT 1 rfl) rfl hf runUnderlying25 rfl sizeOf3 rfl rfl fun _ _ => hk _ _ _ _ ⟨rfl, rfl⟩)
 · rintro T_ B_ a_ w_ K_ hT hB _ _ ⟨rfl, rfl⟩ h5 - hf hsD hk
   exact ob rfl rfl (st_load1 (o := 0) (off := 6) (v := .int .i64 b.guar) hsD (Ev.tmp h5) rfl hf isAgg3 (hsD.cellsM (inB hB 0 rfl)) rfl fun _ _ => hk _ _ _ _ ⟨rfl, rfl⟩)
 · rintro T_ B_ a_ w_ K_ hT hB hf hsD hk
   exact ob rfl rfl (st_move hsD (evT hT 2 rfl) rfl hf fun _ _ => hk _ _ _ _ ⟨rfl, rfl⟩)
 · rintro T_ B_ a_ w_ K_ hT hB hf hsD hk
   exact ob rfl rfl (st_loadA (o := 0) (off := 0) (vs := (bxL b A n cp A2 n2 c2)) hsD (evT hT 1 rfl) rfl hf isAgg25 sizeOf25 (hsD.cellsM (inB hB 0 rfl)) rfl fun _ _ => hk _ _ _ _ ⟨rfl, rfl⟩)
 · rintro T_ B_ a_ w_ K_ hT hB hf hsD hk
   exact ob rfl rfl (st_move hsD (evT hT 2 rfl) rfl hf fun _ _ => hk _ _ _ _ ⟨rfl, rfl⟩)
 · rintro T_ B_ a_ w_ K_ hT hB _ _ ⟨rfl, rfl⟩ h8 - _ _ ⟨rfl, rfl⟩ h9 - hf hsD hk
   exact ob rfl rfl (st_callv (vs := [.agg ⟨(bxL b A n cp A2 n2 c2)⟩, .int .i64 t]) hsD (.func _) ⟨(Ev.tmp h8), (Ev.tmp h9), trivial⟩ rfl hf call77 rfl (rduty_v b A n cp A2 n2 c2 t _ ht hd) fun _ _ => hk _ _ _ _ ⟨rfl, rfl⟩)
 · rintro T_ B_ a_ w_ K_ hT hB _ _ ⟨rfl, rfl⟩ h7 - _ _ ⟨rfl, rfl⟩ h10 - hf hsD hk
   exact ob rfl rfl (st_sub (z := t - (dutyI b t)) hsD (Ev.tmp h7) (Ev.tmp h10) rfl hf rfl (by omega) fun _ _ => hk _ _ _ _ ⟨rfl, rfl⟩)
 · rintro T_ B_ a_ w_ K_ hT hB hf hsD hk
   exact ob rfl rfl (st_field (o' := 5) hsD (evT hT 1 rfl) rfl hf runUnderlying25 rfl sizeOf3 rfl rfl fun _ _ => hk _ _ _ _ ⟨rfl, rfl⟩)
 · rintro T_ B_ a_ w_ K_ hT hB _ _ ⟨rfl, rfl⟩ h12 - hf hsD hk
   exact ob rfl rfl (st_load1 (o := 0) (off := 5) (v := .int .i64 b.share) hsD (Ev.tmp h12) rfl hf isAgg3 (hsD.cellsM (inB hB 0 rfl)) rfl fun _ _ => hk _ _ _ _ ⟨rfl, rfl⟩)
 · rintro T_ B_ a_ w_ K_ hT hB _ _ ⟨rfl, rfl⟩ h11 - _ _ ⟨rfl, rfl⟩ h13 - hf hsD hk
   exact ob rfl rfl (st_mul (z := (t - (dutyI b t)) * b.share) hsD (Ev.tmp h11) (Ev.tmp h13) rfl hf rfl (by omega) fun _ _ => hk _ _ _ _ ⟨rfl, rfl⟩)
 · rintro T_ B_ a_ w_ K_ hT hB _ _ ⟨rfl, rfl⟩ h14 - hf hsD hk
   exact ob rfl rfl (st_quo hsD (Ev.tmp h14) (.const _) rfl hf (by omega) fun _ _ => hk _ _ _ _ ⟨rfl, rfl⟩)
 rintro _ _ ⟨rfl, rfl⟩ _ _ ⟨rfl, rfl⟩ _ _ ⟨rfl, rfl⟩ _ _ ⟨rfl, rfl⟩ _ _ ⟨rfl, rfl⟩ _ _ ⟨rfl, rfl⟩ _ _ ⟨rfl, rfl⟩ _ _ ⟨rfl, rfl⟩ _ _ ⟨rfl, rfl⟩ _ _ ⟨rfl, rfl⟩ _ _ ⟨rfl, rfl⟩ a_4 w_4 hs4; clear hs3
 have hs5 := Sx.as (T' := [_, _, _, _, _, _, _, _, _, _, _, _, _, _]) (B' := [_]) rfl rfl hs4; clear hs4
 refine sq rfl (st_max hs5 (Ev.t 1 rfl) (Ev.t 10 rfl) rfl rfl fun _ _ hs6 => ?_); clear hs5
 have hs7 := hs6.keep [0, 1, 2, 3, 4, 5, 6, 7, 8, 9, 10, 11, 13, 14] [_, _, _, _, _, _, _, _, _, _, _, _, _, _] rfl; clear hs6
 refine sq rfl (st_assign hs7 (Ev.t 0 rfl) rfl rfl fun _ _ hs8 => ?_); clear hs7
 refine hK3 _ _ ?_; clear hK3
 have hs9 := hs8.keep [0] [_] rfl; clear hs8
 refine cd_retv (vs := [.int .i64 (max b.guar (((t - (dutyI b t)) * b.share) / 100))]) hs9 hQ0 rfl ⟨.tmp 0 rfl, trivial⟩ ?_
 clear hs9 hQ0 hN0
 rfl

theorem rleft_v (b : Bx) (A : Option Addr) (n cp : Nat) (A2 : Option Addr) (n2 c2 : Nat) (t : Int) (w : World) (ht : 0 ≤ t ∧ t ≤ 60000) (hd : 0 ≤ b.duty ∧ b.duty ≤ 100) (hsh : 0 ≤ b.share ∧ b.share ≤ 100) (hg : 0 ≤ b.guar ∧ b.guar ≤ 60000) :
    CallsV Tryd.prog 70 [.agg ⟨(bxL b A n cp A2 n2 c2)⟩, .int .i64 t] w (.int .i64 (leftI b t)) := by
 have h1 := duty_bd ht hd
 have h2 := share_bd (b := b) (t := t - dutyI b t) (by omega) hsh
 have h3 := hire_bd ht hd hsh hg
 refine enter (N := 14) (M := []) w func70 rfl rfl rfl (fun Q0 a_0 hQ0 hN0 hs0 => ?_)
 refine cd_region fun K1 hK1 => ?_
 refine sq rfl (st_box hs0 (Ev.t 0 rfl) rfl rfl rfl fun b2 _ _ hs1 => ?_); clear hs0
 refine sq rfl (st_assign hs1 (.const _) rfl rfl fun _ _ hs2 => ?_); clear hs1
 refine hK1 _ _ ?_; clear hK1
 have hs3 := hs2.keep [0, 1, 3] [_, _, _] rfl; clear hs2
 refine cd_drawn mixed hs3 [⟨5, [], Is (.int .i64 t)⟩, ⟨6, [], Is (.agg ⟨(bxL b A n cp A2 n2 c2)⟩)⟩, ⟨7, [], Is (.int .i64 t)⟩, ⟨8, [1, 2], Is (.int .i64 (dutyI b t))⟩, ⟨9, [0, 3], Is (.int .i64 (t - (dutyI b t)))⟩, ⟨10, [], Is (.agg ⟨(bxL b A n cp A2 n2 c2)⟩)⟩, ⟨11, [], Is (.int .i64 t)⟩, ⟨12, [5, 6], Is (.int .i64 (hireI b t))⟩] (by kernel_rfl) (by kernel_rfl) fun K3 hK3 => ⟨⟨?_, ?_, ?_, ?_, ?_, ?_, ?_, ?_, trivial⟩, ?_⟩
 · rintro T_ B_ a_ w_ K_ hT hB hf hsD hk
   exact ob rfl rfl (st_move hsD (evT hT 2 rfl) rfl hf fun _ _ => hk _ _ _ _ ⟨rfl, rfl⟩)
 · rintro T_ B_ a_ w_ K_ hT hB hf hsD hk
   exact ob rfl rfl (st_loadA (o := 0) (off := 0) (vs := (bxL b A n cp A2 n2 c2)) hsD (evT hT 1 rfl) rfl hf isAgg25 sizeOf25 (hsD.cellsM (inB hB 0 rfl)) rfl fun _ _ => hk _ _ _ _ ⟨rfl, rfl⟩)
 · rintro T_ B_ a_ w_ K_ hT hB hf hsD hk
   exact ob rfl rfl (st_move hsD (evT hT 2 rfl) rfl hf fun _ _ => hk _ _ _ _ ⟨rfl, rfl⟩)
 · rintro T_ B_ a_ w_ K_ hT hB _ _ ⟨rfl, rfl⟩ h6 - _ _ ⟨rfl, rfl⟩ h7 - hf hsD hk
   exact ob rfl rfl (st_callv (vs := [.agg ⟨(bxL b A n cp A2 n2 c2)⟩, .int .i64 t]) hsD (.func _) ⟨(Ev.tmp h6), (Ev.tmp h7), trivial⟩ rfl hf call77 rfl (rduty_v b A n cp A2 n2 c2 t _ ht hd) fun _ _ => hk _ _ _ _ ⟨rfl, rfl⟩)
 · rintro T_ B_ a_ w_ K_ hT hB _ _ ⟨rfl, rfl⟩ h5 - _ _ ⟨rfl, rfl⟩ h8 - hf hsD hk
   exact ob rfl rfl (st_sub (z := t - (dutyI b t)) hsD (Ev.tmp h5) (Ev.tmp h8) rfl hf rfl (by omega) fun _ _ => hk _ _ _ _ ⟨rfl, rfl⟩)
 · rintro T_ B_ a_ w_ K_ hT hB hf hsD hk
   exact ob rfl rfl (st_loadA (o := 0) (off := 0) (vs := (bxL b A n cp A2 n2 c2)) hsD (evT hT 1 rfl) rfl hf isAgg25 sizeOf25 (hsD.cellsM (inB hB 0 rfl)) rfl fun _ _ => hk _ _ _ _ ⟨rfl, rfl⟩)
 · rintro T_ B_ a_ w_ K_ hT hB hf hsD hk
   exact ob rfl rfl (st_move hsD (evT hT 2 rfl) rfl hf fun _ _ => hk _ _ _ _ ⟨rfl, rfl⟩)
 · rintro T_ B_ a_ w_ K_ hT hB _ _ ⟨rfl, rfl⟩ h10 - _ _ ⟨rfl, rfl⟩ h11 - hf hsD hk
   exact ob rfl rfl (st_callv (vs := [.agg ⟨(bxL b A n cp A2 n2 c2)⟩, .int .i64 t]) hsD (.func _) ⟨(Ev.tmp h10), (Ev.tmp h11), trivial⟩ rfl hf call69 rfl (rhire_v b A n cp A2 n2 c2 t _ ht hd hsh hg) fun _ _ => hk _ _ _ _ ⟨rfl, rfl⟩)
 rintro _ _ ⟨rfl, rfl⟩ _ _ ⟨rfl, rfl⟩ _ _ ⟨rfl, rfl⟩ _ _ ⟨rfl, rfl⟩ _ _ ⟨rfl, rfl⟩ _ _ ⟨rfl, rfl⟩ _ _ ⟨rfl, rfl⟩ _ _ ⟨rfl, rfl⟩ a_4 w_4 hs4; clear hs3
 have hs5 := Sx.as (T' := [_, _, _, _, _, _, _, _, _, _, _]) (B' := [_]) rfl rfl hs4; clear hs4
 refine sq rfl (st_sub (z := (t - (dutyI b t)) - (hireI b t)) hs5 (Ev.t 4 rfl) (Ev.t 7 rfl) rfl rfl rfl (by omega) fun _ _ hs6 => ?_); clear hs5
 have hs7 := hs6.keep [0, 1, 2, 3, 4, 5, 6, 7, 8, 10, 11] [_, _, _, _, _, _, _, _, _, _, _] rfl; clear hs6
 refine sq rfl (st_assign hs7 (Ev.t 0 rfl) rfl rfl fun _ _ hs8 => ?_); clear hs7
 refine hK3 _ _ ?_; clear hK3
 have hs9 := hs8.keep [0] [_] rfl; clear hs8
 refine cd_retv (vs := [.int .i64 ((t - (dutyI b t)) - (hireI b t))]) hs9 hQ0 rfl ⟨.tmp 0 rfl, trivial⟩ ?_
 clear hs9 hQ0 hN0
 rfl
end Go.Proofs.YtcnndpedeofbmaaDoor
