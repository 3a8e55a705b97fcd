/- The till: in how many ways each amount can come together. -/
import Derived.Test.YtcnndpedeofbmaaDoorUf
import Derived.Test.YtcnndpedeofbmaaDoorTp
set_option maxRecDepth 100000
namespace Go.Proofs.YtcnndpedeofbmaaDoor
open Go Go.Sx Go.Till Go.Proofs.Tryd
set_option maxHeartbeats 4000000 in
theorem all_b (b : Bx) (A : Option Addr) (n cp : Nat) (A2 : Option Addr) (n2 c2 : Nat) (A3 : Option Addr) (n3 c3 m : Nat) (ss : List Sp) (w : World) (hP : RollsAt w A n b.rolls) (hn : n ≤ 140737488351232) (hS : SpsAt w A3 n3 ss) (hwf : Wf b ss) :
    CallsB Tryd.prog 56 [.agg ⟨boxL b A n cp A2 n2 c2 A3 n3 c3 m⟩] w (fun v bs => ∃ b7 o7, v = .pointer (some ⟨b7, 0, none⟩) ∧ Sx.Own intL1 1 100 (some ⟨b7, 0, none⟩) 60001 (arr (wf (sums [0] (its b.rolls ss)))) b7 o7 ∧ bs = [(b7, o7)]) := by
 have hl1 := hP.len; have hl3 := hS.len; have hn4 := hwf.n4
 have hMW : ∀ q ∈ ([] : List Nat), q ∈ ([] : List Nat) ∨ w.heap.size ≤ q := fun q hq => .inl hq
 have hkW : Kp [] w w := Kp.refl _ _
 refine enterM (N := 54) (M := []) w func56 rfl rfl rfl (fun Q0 a_0 hQ0 hN0 hs0 => ?_)
 have hs1 : Sx 54 (dmarks []) [(0, .agg ⟨(boxL b A n cp A2 n2 c2 A3 n3 c3 m)⟩)] ((marks [])) [] w _ _ := hs0; clear hs0
 refine cd_region fun K1 hK1 => ?_
 refine sq rfl (st_box hs1 (Ev.t 0 rfl) rfl rfl rfl fun b2 _ _ hs2 => ?_); clear hs1
 refine sq rfl (st_assign hs2 (.const _) rfl rfl fun _ _ hs3 => ?_); clear hs2
 refine hK1 _ _ ?_; clear hK1
 have hs4 := hs3.keep [0, 1] [_, _] rfl; clear hs3
 refine cd_region fun K3 hK3 => ?_
 refine sq rfl (st_build hs4 (qs := [(0, .int .i64 1)]) (v := .agg ⟨vals (arr (upd (fun _ => 0) 0 1))⟩) ⟨(.const _), trivial⟩ rfl rfl rfl build100_one fun _ _ hs5 => ?_); clear hs4
 refine sq rfl (st_box hs5 (Ev.t 0 rfl) rfl rfl rfl fun b4 _ _ hs6 => ?_); clear hs5
 refine sq rfl (st_assign hs6 (Ev.t 0 rfl) rfl rfl fun _ _ hs7 => ?_); clear hs6
 refine hK3 _ _ ?_; clear hK3
 have hs8 := hs7.keep [0, 3, 4] [_, _, _] rfl; clear hs7
 obtain ⟨oa5, hoa5⟩ : ∃ o_, o_ = some (Obj.cells ⟨vals (arr (upd (fun _ => 0) 0 1))⟩ 100 (0, 0)) := ⟨_, rfl⟩
 have hO5 := own_arr 100 b4 (upd (fun _ => 0) 0 1); rw [← hoa5] at hO5
 have hs9 := hs8.asB ((b4, oa5) :: (b2, some (.cells ⟨(boxL b A n cp A2 n2 c2 A3 n3 c3 m)⟩ 66 (0, 0))) :: (marks [])) (by rw [hoa5]); clear hs8
 refine cd_seq fun K6 hK6 => ?_
 refine cd_region fun K7 hK7 => ?_
 refine sq rfl (st_field (o' := 0) hs9 (Ev.t 2 rfl) rfl rfl runUnderlying66 rfl sizeOf25 rfl rfl fun _ _ hs10 => ?_); clear hs9
 refine sq rfl (st_field (o' := 0) hs10 (Ev.t 0 rfl) rfl rfl runUnderlying25 rfl sizeOf22 rfl rfl fun _ _ hs11 => ?_); clear hs10
 refine sq rfl (st_load1 (o := 0) (off := 0) (v := .slice A n cp) hs11 (Ev.t 0 rfl) rfl rfl isAgg22 (hs11.cells 1 rfl) rfl fun _ _ hs12 => ?_); clear hs11
 refine sq rfl (st_len hs12 (Ev.t 0 rfl) rfl rfl runUnderlying22 fun _ _ hs13 => ?_); clear hs12
 refine sq rfl (st_move hs13 (.const _) rfl rfl fun _ _ hs14 => ?_); clear hs13
 refine hK7 _ _ ?_; clear hK7
 have hs15 := hs14.keep [0, 1, 2, 5, 6, 7] [_, _, _, _, _, _] rfl; clear hs14
 refine cd_block ?_
 have hs16 : Sx 54 (dmarks ((AllG.mk 0 b4 oa5 []).ds)) [(16, .int .i64 ((AllG.mk 0 b4 oa5 []).k : Int)), (15, .int .i64 (n : Int)), (14, .slice A n cp), (3, .pointer (some ⟨(AllG.mk 0 b4 oa5 []).b, 0, none⟩)), (2, .pointer none), (1, .pointer (some ⟨b2, 0, none⟩))] (((AllG.mk 0 b4 oa5 []).b, (AllG.mk 0 b4 oa5 []).o) :: (b2, some (.cells ⟨(boxL b A n cp A2 n2 c2 A3 n3 c3 m)⟩ 66 (0, 0))) :: (marks ((AllG.mk 0 b4 oa5 []).ds))) [] w _ _ := Sx.keepE [0, 1, 2, 3, 4, 5] _ ⟨⟨_, rfl, rfl⟩, ⟨_, rfl, rfl⟩, ⟨_, rfl, rfl⟩, ⟨_, rfl, rfl⟩, ⟨_, rfl, rfl⟩, ⟨_, rfl, rfl⟩, trivial⟩ hs15; clear hs15
 refine cd_loop (X := AllG) (fun g a_ w_ => (g.k ≤ n) ∧ (Sx.Own intL1 1 100 (some ⟨g.b, 0, none⟩) 60001 (arr (wf (sums [0] ((its b.rolls ss).take g.k)))) g.b g.o) ∧ Sx 54 (dmarks g.ds) [(16, .int .i64 (g.k : Int)), (15, .int .i64 (n : Int)), (14, .slice A n cp), (3, .pointer (some ⟨g.b, 0, none⟩)), (2, .pointer none), (1, .pointer (some ⟨b2, 0, none⟩))] ((g.b, g.o) :: (b2, some (.cells ⟨(boxL b A n cp A2 n2 c2 A3 n3 c3 m)⟩ 66 (0, 0))) :: (marks g.ds)) [] w a_ w_) (fun g => n - g.k) ((AllG.mk 0 b4 oa5 [])) ⟨?_, ?_, hs16⟩ ?_
 · exact Nat.zero_le _
 · exact own_eq hO5 arr_start
 intro g a_17 w_17 ⟨hk, hown, hs17⟩; clear hs16
 refine cd_region fun K8 hK8 => ?_
 refine sq rfl (st_cmp (c := decide (((g.k : Int) : Int) < (n : Int))) hs17 (Ev.t 0 rfl) (Ev.t 1 rfl) rfl rfl rfl rfl fun _ _ hs18 => ?_); clear hs17
 refine hK8 _ _ ?_; clear hK8
 refine cd_seq fun K9 hK9 => ?_
 refine cd_cond hs18 (Ev.t 0 rfl) (fun hc10 => ?_) (fun hc10 => ?_)
 · have hin : g.k < n := by simpa using hc10
   have hir : g.k < b.rolls.length := by omega
   have his : g.k < ss.length := by rw [hwf.len]; exact hir
   obtain ⟨x11, hx11⟩ : ∃ x, b.rolls[g.k]? = some x := ⟨_, List.getElem?_eq_getElem (by have := hP.len; omega)⟩
   obtain ⟨b12, o12, hA12, -, hc12⟩ := hP.el g.k x11 hx11
   obtain ⟨x13, hx13⟩ : ∃ x, ss[g.k]? = some x := ⟨_, List.getElem?_eq_getElem (his)⟩
   refine cd_skip ?_
   refine th_norm (hK9 _ _ ?_)
   refine cd_seq fun K14 hK14 => ?_
   refine cd_block ?_
   refine cd_region fun K15 hK15 => ?_
   refine sq rfl (st_move hs18 (Ev.t 1 rfl) rfl rfl fun _ _ hs19 => ?_); clear hs18
   refine sq rfl (st_indexM (o' := o12 + g.k * 5) hs19 (Ev.t 4 rfl) (Ev.t 2 rfl) rfl rfl hA12 runUnderlying22 sizeOf46 ⟨by omega, by have := hP.len; have := (List.getElem?_eq_some_iff.1 hx11).1; omega⟩ rfl fun _ _ hs20 => ?_); clear hs19
   refine sq rfl (st_loadA (o := o12 + g.k * 5) (off := 0) (vs := (rollL x11)) hs20 (Ev.t 0 rfl) rfl rfl isAgg46 sizeOf46 (hc12.kp (Kp.viaM hkW hs20.kp hMW) (by simp)) rfl fun _ _ hs21 => ?_); clear hs20
   refine sq rfl (st_alloc hs21 rfl rfl zeroValue46 rfl fun b16 _ _ hs22 => ?_); clear hs21
   refine sq rfl (st_assign hs22 (Ev.t 3 rfl) rfl rfl fun _ _ hs23 => ?_); clear hs22
   refine sq rfl (st_store (l' := (rollL x11)) (vs := (rollL x11)) (i := 0) hs23 (Ev.t 1 rfl) (Ev.t 2 rfl) sizeOf46 rfl rfl rfl rfl rfl rfl fun _ _ hs24 => ?_); clear hs23
   have hs25 := hs24.asB (_ :: _ :: _ :: _) rfl; clear hs24
   refine hK15 _ _ ?_; clear hK15
   have hs26 := hs25.keep [0, 1, 6, 7, 8, 9, 10, 11] [_, _, _, _, _, _, _, _] rfl; clear hs25
   refine cd_region fun K17 hK17 => ?_
   refine sq rfl (st_build hs26 (qs := []) (v := .agg ⟨vals (arr (fun _ => 0))⟩) trivial rfl rfl rfl build100_nil fun _ _ hs27 => ?_); clear hs26
   refine sq rfl (st_box hs27 (Ev.t 0 rfl) rfl rfl rfl fun b18 _ _ hs28 => ?_); clear hs27
   refine sq rfl (st_alloc hs28 rfl rfl zeroValue84 rfl fun b19 _ _ hs29 => ?_); clear hs28
   refine sq rfl (st_store (l' := [.pointer (some ⟨b18, 0, none⟩)]) (vs := [.pointer (some ⟨b18, 0, none⟩)]) (i := 0) hs29 (Ev.t 0 rfl) (Ev.t 1 rfl) sizeOf84 rfl rfl rfl rfl rfl rfl fun _ _ hs30 => ?_); clear hs29
   have hs31 := hs30.asB (_ :: _ :: _ :: _ :: _ :: _) rfl; clear hs30
   refine hK17 _ _ ?_; clear hK17
   have hs32 := hs31.keep [0, 3, 4, 5, 6, 7, 8, 9, 10] [_, _, _, _, _, _, _, _, _] rfl; clear hs31
   obtain ⟨oa20, hoa20⟩ : ∃ o_, o_ = some (Obj.cells ⟨vals (arr (fun _ => 0))⟩ 100 (0, 0)) := ⟨_, rfl⟩
   have hO20 := own_arr 100 b18 (fun _ => 0); rw [← hoa20] at hO20
   have hs33 := hs32.asB ((b19, some (.cells ⟨[.pointer (some ⟨b18, 0, none⟩)]⟩ 84 (0, 0))) :: (b18, oa20) :: (b16, some (.cells ⟨(rollL x11)⟩ 46 (0, 0))) :: (g.b, g.o) :: (b2, some (.cells ⟨(boxL b A n cp A2 n2 c2 A3 n3 c3 m)⟩ 66 (0, 0))) :: (marks g.ds)) (by rw [hoa20]); clear hs32
   refine cd_seq fun K21 hK21 => ?_
   refine cd_region fun K22 hK22 => ?_
   refine sq rfl (st_move hs33 (Ev.t 6 rfl) rfl rfl fun _ _ hs34 => ?_); clear hs33
   refine sq rfl (st_move hs34 (.const _) rfl rfl fun _ _ hs35 => ?_); clear hs34
   refine hK22 _ _ ?_; clear hK22
   have hs36 := hs35.keep [0, 1, 2, 3, 4, 5, 6, 7, 9, 10] [_, _, _, _, _, _, _, _, _, _] rfl; clear hs35
   refine cd_block ?_
   have hs37 : Sx 54 (dmarks ((InG.mk 0 oa20 g.ds).ds)) [(24, .int .i64 ((InG.mk 0 oa20 g.ds).j : Int)), (23, .pointer (some ⟨g.b, 0, none⟩)), (6, .pointer (some ⟨b19, 0, none⟩)), (4, .int .i64 (g.k : Int)), (5, .pointer (some ⟨b16, 0, none⟩)), (16, .int .i64 (g.k : Int)), (15, .int .i64 (n : Int)), (14, .slice A n cp), (2, .pointer none), (1, .pointer (some ⟨b2, 0, none⟩))] ((b19, some (.cells ⟨[.pointer (some ⟨b18, 0, none⟩)]⟩ 84 (0, 0))) :: (b18, (InG.mk 0 oa20 g.ds).o) :: (b16, some (.cells ⟨(rollL x11)⟩ 46 (0, 0))) :: (g.b, g.o) :: (b2, some (.cells ⟨(boxL b A n cp A2 n2 c2 A3 n3 c3 m)⟩ 66 (0, 0))) :: (marks ((InG.mk 0 oa20 g.ds).ds))) [] w _ _ := Sx.keepE [0, 1, 2, 3, 4, 5, 6, 7, 8, 9] _ ⟨⟨_, rfl, rfl⟩, ⟨_, rfl, rfl⟩, ⟨_, rfl, rfl⟩, ⟨_, rfl, rfl⟩, ⟨_, rfl, rfl⟩, ⟨_, rfl, rfl⟩, ⟨_, rfl, rfl⟩, ⟨_, rfl, rfl⟩, ⟨_, rfl, rfl⟩, ⟨_, rfl, rfl⟩, trivial⟩ hs36; clear hs36
   refine cd_loop (X := InG) (fun e a_ w_ => (e.j ≤ 60001) ∧ (Sx.Own intL1 1 100 (some ⟨b18, 0, none⟩) 60001 (arr (pour (wf (sums [0] ((its b.rolls ss).take g.k))) x11.price (nums x13) e.j)) b18 e.o) ∧ Sx 54 (dmarks e.ds) [(24, .int .i64 (e.j : Int)), (23, .pointer (some ⟨g.b, 0, none⟩)), (6, .pointer (some ⟨b19, 0, none⟩)), (4, .int .i64 (g.k : Int)), (5, .pointer (some ⟨b16, 0, none⟩)), (16, .int .i64 (g.k : Int)), (15, .int .i64 (n : Int)), (14, .slice A n cp), (2, .pointer none), (1, .pointer (some ⟨b2, 0, none⟩))] ((b19, some (.cells ⟨[.pointer (some ⟨b18, 0, none⟩)]⟩ 84 (0, 0))) :: (b18, e.o) :: (b16, some (.cells ⟨(rollL x11)⟩ 46 (0, 0))) :: (g.b, g.o) :: (b2, some (.cells ⟨(boxL b A n cp A2 n2 c2 A3 n3 c3 m)⟩ 66 (0, 0))) :: (marks e.ds)) [] w a_ w_) (fun e => 60001 - e.j) ((InG.mk 0 oa20 g.ds)) ⟨?_, ?_, hs37⟩ ?_
   · exact Nat.zero_le _
   · exact hO20
   intro e a_38 w_38 ⟨hj, hnx, hs38⟩; clear hs37
   refine cd_region fun K23 hK23 => ?_
   refine sq rfl (st_cmp (c := decide (((e.j : Int) : Int) < 60001)) hs38 (Ev.t 0 rfl) (.const _) rfl rfl rfl rfl fun _ _ hs39 => ?_); clear hs38
   refine hK23 _ _ ?_; clear hK23
   refine cd_seq fun K24 hK24 => ?_
   refine cd_cond hs39 (Ev.t 0 rfl) (fun hc25 => ?_) (fun hc25 => ?_)
   · have hjn : e.j < 60001 := by simp at hc25; omega
     refine cd_skip ?_
     refine th_norm (hK24 _ _ ?_)
     refine cd_seq fun K26 hK26 => ?_
     refine cd_block ?_
     refine cd_drawS mixed [4, 6] ⟨Nat, fun n_ x_ => match n_ with | 0 => [] | 1 => [(7, .pointer (some ⟨x_, 0, none⟩))] | _ => [(7, .pointer (some ⟨x_, 0, none⟩))], fun n_ x_ => match n_ with | 0 => [] | 1 => [(x_, some (.cells ⟨[.int .i64 0]⟩ 3 (0, 0)))] | _ => [(x_, some (.cells ⟨[.int .i64 (e.j : Int)]⟩ 3 (0, 0)))]⟩ (0 : Nat) hs39 [⟨26, [], Is (.int .i64 (e.j : Int))⟩, ⟨27, [], Is (.pointer (some ⟨g.b, 0, none⟩))⟩, ⟨28, [1], Is (.pointer (some ⟨g.b, e.j * 1, none⟩))⟩, ⟨29, [2], Is (.int .i64 ((wf (sums [0] ((its b.rolls ss).take g.k))) e.j))⟩, ⟨7, [], Is undef⟩, ⟨8, [], fun v_ bs_ => ∃ b28, v_ = .pointer (some ⟨b28, 0, none⟩) ∧ bs_ = [(b28, some (.cells ⟨[.int .i64 0]⟩ 3 (0, 0)))]⟩, ⟨60, [0], Is undef⟩] (by kernel_rfl) (fun n_ _ => by rcases n_ with _ | _ | _ <;> rfl) (by kernel_rfl) fun K27 hK27 => ⟨⟨?_, ?_, ?_, ?_, ?_, ?_, ?_, trivial⟩, ?_⟩
     · rintro T_ B_ a_ w_ K_ hT hB hf hsD hk
       exact ob rfl rfl (st_move hsD (evT hT 1 rfl) rfl hf fun _ _ => hk _ _ _ _ ⟨rfl, rfl⟩)
     · rintro T_ B_ a_ w_ K_ hT hB hf hsD hk
       exact ob rfl rfl (st_nilCheck hsD (evT hT 2 rfl) rfl hf fun _ _ => hk _ _ _ _ ⟨rfl, rfl⟩)
     · rintro T_ B_ a_ w_ K_ hT hB _ _ ⟨rfl, rfl⟩ h27 - hf hsD hk
       exact ob rfl rfl (st_indexArr (o' := e.j * 1) hsD (Ev.tmp h27) (evT hT 1 rfl) rfl hf runUnderlying100 sizeOf3 ⟨by omega, by omega⟩ (by simp) fun _ _ => hk _ _ _ _ ⟨rfl, rfl⟩)
     · rintro T_ B_ a_ w_ K_ hT hB _ _ ⟨rfl, rfl⟩ h28 - hf hsD hk
       exact ob rfl rfl (st_load1 (o := (e.j * 1)) (off := 0) (v := .int .i64 ((wf (sums [0] ((its b.rolls ss).take g.k))) e.j)) hsD (Ev.tmp h28) rfl hf isAgg3 (own_cellM hsD hown (hB _ (mem_nth (i := 3) rfl)) (arr_at (by omega))) rfl fun _ _ => hk _ _ _ _ ⟨rfl, rfl⟩)
     · rintro T_ B_ a_ w_ K_ x_ hT hB hf hsD hk
       exact ob rfl rfl (st_alloc hsD rfl hf zeroValue3 rfl fun b_1 a_1 w_1 h1 => hk b_1 _ _ h1)
     · rintro T_ B_ a_ w_ K_ hT hB hf hsD hk
       exact ob rfl rfl (st_alloc hsD rfl hf zeroValue3 rfl fun b28 _ _ => hk _ _ _ _ ⟨b28, rfl, rfl⟩)
     · rintro T_ B_ a_ w_ K_ x_ hT hB _ _ ⟨rfl, rfl⟩ h26 - hf hsD hk
       exact ob rfl rfl (st_store (l' := [.int .i64 (e.j : Int)]) (vs := [.int .i64 (e.j : Int)]) (i := 0) hsD (Ev.t 0 rfl) (Ev.tmp (List.mem_append_right _ h26)) sizeOf3 rfl rfl rfl rfl rfl rfl fun a_1 w_1 h1 => hk x_ _ _ h1)
     rintro _ _ ⟨rfl, rfl⟩
     rintro _ _ ⟨rfl, rfl⟩
     rintro _ _ ⟨rfl, rfl⟩
     rintro _ _ ⟨rfl, rfl⟩
     rintro _ _ ⟨b28, rfl, rfl⟩
     intro (b29 : Nat) a_40 w_40 hs40
     clear hs39
     have hs41 := Sx.as (T' := [_, _, _, _, _, _, _, _, _, _, _, _, _, _, _, _, _]) (B' := _ :: _ :: _ :: _ :: _ :: _ :: _ :: _) rfl rfl hs40; clear hs40
     refine sq rfl (st_store (l' := [.int .i64 ((wf (sums [0] ((its b.rolls ss).take g.k))) e.j)]) (vs := [.int .i64 ((wf (sums [0] ((its b.rolls ss).take g.k))) e.j)]) (i := 1) hs41 (Ev.t 5 rfl) (Ev.t 4 rfl) sizeOf3 rfl rfl rfl rfl rfl rfl fun _ _ hs42 => ?_); clear hs41
     have hs43 := hs42.asB (_ :: _ :: _ :: _ :: _ :: _ :: _ :: _) rfl; clear hs42
     refine hK27 _ _ ?_; clear hK27
     have hs44 := hs43.keep [0, 5, 7, 8, 9, 10, 11, 12, 13, 14, 15, 16] [_, _, _, _, _, _, _, _, _, _, _, _] rfl; clear hs43
     refine cd_seq fun K30 hK30 => ?_
     refine cd_region fun K31 hK31 => ?_
     refine sq rfl (st_load1 (o := 0) (off := 0) (v := .int .i64 ((wf (sums [0] ((its b.rolls ss).take g.k))) e.j)) hs44 (Ev.t 1 rfl) rfl rfl isAgg3 (hs44.cells 1 rfl) rfl fun _ _ hs45 => ?_); clear hs44
     refine sq rfl (st_cmp (c := ((wf (sums [0] ((its b.rolls ss).take g.k))) e.j : Int) == 0) hs45 (Ev.t 0 rfl) (.const _) rfl rfl rfl rfl fun _ _ hs46 => ?_); clear hs45
     refine hK31 _ _ ?_; clear hK31
     have hs47 := hs46.keep [0, 2, 3, 4, 5, 6, 7, 8, 9, 10, 11, 12, 13] [_, _, _, _, _, _, _, _, _, _, _, _, _] rfl; clear hs46
     refine cd_cond hs47 (Ev.t 0 rfl) (fun hc32 => ?_) (fun hc32 => ?_)
     · have h0 : (wf (sums [0] ((its b.rolls ss).take g.k))) e.j = 0 := by simpa using hc32
       have hO33 : Sx.Own intL1 1 100 _ _ (arr (pour (wf (sums [0] ((its b.rolls ss).take g.k))) x11.price (nums x13) (e.j + 1))) b18 e.o := own_eq hnx (congrArg arr (pour_skip h0))
       refine cd_exit ?_
       refine th_exit ?_
       refine in_hit ?_
       refine th_norm (hK26 _ _ ?_)
       refine cd_region1 ?_
       refine sq rfl (st_add (z := (e.j : Int) + 1) hs47 (Ev.t 3 rfl) (.const _) rfl rfl rfl (by omega) fun _ _ hs48 => ?_); clear hs47
       have hs49 := hs48.keep [0, 1, 2, 3, 5, 6, 7, 8, 9, 10, 11, 12, 13] [_, _, _, _, _, _, _, _, _, _, _, _, _] rfl; clear hs48
       refine sq rfl (st_move hs49 (Ev.t 0 rfl) rfl rfl fun _ _ hs50 => ?_); clear hs49
       refine wpListIn_nil ?_
       have hs51 := hs50.keep [0, 5, 6, 7, 8, 9, 10, 11, 12, 13] [_, _, _, _, _, _, _, _, _, _] rfl; clear hs50
       refine ⟨(InG.mk (e.j + 1) e.o e.ds), ⟨?_, ?_, ?_⟩, by (show 60001 - (e.j + 1) < 60001 - e.j; omega)⟩
       · exact hjn
       · exact hO33
       have hs52 : Sx 54 (dmarks e.ds) [(24, .int .i64 ((e.j : Int) + 1)), (23, .pointer (some ⟨g.b, 0, none⟩)), (6, .pointer (some ⟨b19, 0, none⟩)), (4, .int .i64 (g.k : Int)), (5, .pointer (some ⟨b16, 0, none⟩)), (16, .int .i64 (g.k : Int)), (15, .int .i64 (n : Int)), (14, .slice A n cp), (2, .pointer none), (1, .pointer (some ⟨b2, 0, none⟩))] ((b19, some (.cells ⟨[.pointer (some ⟨b18, 0, none⟩)]⟩ 84 (0, 0))) :: (b18, e.o) :: (b16, some (.cells ⟨(rollL x11)⟩ 46 (0, 0))) :: (g.b, g.o) :: (b2, some (.cells ⟨(boxL b A n cp A2 n2 c2 A3 n3 c3 m)⟩ 66 (0, 0))) :: (marks e.ds)) [] w _ _ := Sx.blks hs51 ((List.Sublist.cons _ (List.Sublist.cons _ (List.Sublist.cons_cons _ (List.Sublist.cons_cons _ (List.Sublist.cons_cons _ (List.Sublist.cons_cons _ (List.Sublist.cons_cons _ (List.Sublist.refl _)))))))))
       exact Sx.keepE [0, 1, 2, 3, 4, 5, 6, 7, 8, 9] _ ⟨⟨_, rfl, rfl⟩, ⟨_, rfl, rfl⟩, ⟨_, rfl, rfl⟩, ⟨_, rfl, rfl⟩, ⟨_, rfl, rfl⟩, ⟨_, rfl, rfl⟩, ⟨_, rfl, rfl⟩, ⟨_, rfl, rfl⟩, ⟨_, rfl, rfl⟩, ⟨_, rfl, rfl⟩, trivial⟩ hs52
     · have hF : (wf (sums [0] ((its b.rolls ss).take g.k))) e.j ≠ 0 := by simpa using hc32
       refine cd_skip ?_
       refine th_norm (hK30 _ _ ?_)
       refine cd_region fun K34 hK34 => ?_
       refine sq rfl (st_loadA (o := 0) (off := 0) (vs := (boxL b A n cp A2 n2 c2 A3 n3 c3 m)) hs47 (Ev.t 12 rfl) rfl rfl isAgg66 sizeOf66 (hs47.cells 6 rfl) rfl fun _ _ hs48 => ?_); clear hs47
       refine sq rfl (st_move hs48 (Ev.t 7 rfl) rfl rfl fun _ _ hs49 => ?_); clear hs48
       refine sq rfl (st_call (vs := [.agg ⟨(boxL b A n cp A2 n2 c2 A3 n3 c3 m)⟩, .int .i64 (g.k : Int)]) hs49 (.func _) ⟨(Ev.t 1 rfl), (Ev.t 0 rfl), trivial⟩ rfl rfl call48 rfl (numbers_b b A n cp A2 n2 c2 A3 n3 c3 m (g.k : Int) _) fun v37 bs38 a_50 w_50 hp50 hs50 => ?_); clear hs49
       obtain ⟨b35, b36, rfl, rfl⟩ := hp50
       have hs51 := Sx.as (T' := [_, _, _, _, _, _, _, _, _, _, _, _, _, _, _, _]) (B' := _ :: _ :: _ :: _ :: _ :: _ :: _ :: _ :: _ :: _) rfl rfl hs50; clear hs50
       refine hK34 _ _ ?_; clear hK34
       have hs52 := hs51.keep [0, 4, 5, 6, 7, 8, 9, 10, 11, 12, 13, 14, 15] [_, _, _, _, _, _, _, _, _, _, _, _, _] rfl; clear hs51
       refine cd_block ?_
       refine cd_rangeY (intL1) (nums x13) (fun i B_ => ∃ (o9 : Option Obj), (Sx.Own intL1 1 100 (some ⟨b18, 0, none⟩) 60001 (arr (pourP (wf (sums [0] ((its b.rolls ss).take g.k))) x11.price (nums x13) e.j i)) b18 o9) ∧ B_ = ((b36, some (.cells ⟨[.int .i64 (g.k : Int)]⟩ 3 (0, 0))) :: (b35, some (.cells ⟨(boxL b A n cp A2 n2 c2 A3 n3 c3 m)⟩ 66 (0, 0))) :: (b29, some (.cells ⟨[.int .i64 (e.j : Int)]⟩ 3 (0, 0))) :: (b28, some (.cells ⟨[.int .i64 ((wf (sums [0] ((its b.rolls ss).take g.k))) e.j)]⟩ 3 (0, 0))) :: (b19, some (.cells ⟨[.pointer (some ⟨b18, 0, none⟩)]⟩ 84 (0, 0))) :: (b18, o9) :: (b16, some (.cells ⟨(rollL x11)⟩ 46 (0, 0))) :: (g.b, g.o) :: (b2, some (.cells ⟨(boxL b A n cp A2 n2 c2 A3 n3 c3 m)⟩ 66 (0, 0))) :: (marks e.ds))) (fun c_ B_ => False) (((b36, some (.cells ⟨[.int .i64 (g.k : Int)]⟩ 3 (0, 0))) :: (b35, some (.cells ⟨(boxL b A n cp A2 n2 c2 A3 n3 c3 m)⟩ 66 (0, 0))) :: (b29, some (.cells ⟨[.int .i64 (e.j : Int)]⟩ 3 (0, 0))) :: (b28, some (.cells ⟨[.int .i64 ((wf (sums [0] ((its b.rolls ss).take g.k))) e.j)]⟩ 3 (0, 0))) :: (b19, some (.cells ⟨[.pointer (some ⟨b18, 0, none⟩)]⟩ 84 (0, 0))) :: (b18, e.o) :: (b16, some (.cells ⟨(rollL x11)⟩ 46 (0, 0))) :: (g.b, g.o) :: (b2, some (.cells ⟨(boxL b A n cp A2 n2 c2 A3 n3 c3 m)⟩ 66 (0, 0))) :: (marks e.ds)).map (·.1)) hs52 (Ev.t 0 rfl) call74 (numbers_seq b A n cp A2 n2 c2 A3 n3 c3 m ss g.k x13 hx13 b35 b36 (by have := hwf.len; have := hwf.n4; have := hS.len; omega) (by have := hwf.sp _ _ hx13; omega)) ?_ ?_ ?_ (fun _ => rfl) (by kernel_rfl) (by decide) ?_ ?_ ?_ ?_
       · exact ⟨e.o, own_eq hnx (congrArg arr pourP_zero.symm), rfl⟩
       · rintro i_ B_ ⟨o9, hN9, rfl⟩; exact ⟨rfl, (by simp [isSome1, marks, own_arr_some hown, own_arr_some hN9])⟩
       · rintro c_ B_ h_; exact h_.elim
       · rintro i B_ W_ ⟨o9, hN9, rfl⟩ hk_ ht_
         exact ⟨hS.kp hk_, CellsAt.of_block (ht_ _ (mem_nth (i := 1) rfl) _ rfl), CellsAt.of_block (ht_ _ (mem_nth (i := 0) rfl) _ rfl)⟩
       · rintro l_ i j_ B_ a_53 w_53 hxi ⟨o9, hN9, rfl⟩ hkR hs53; clear hs52
         have hs54 : Sx 54 [] [(35, .int .i64 j_), (34, .func (.func 74) ⟨[]⟩ ⟨[.pointer (some ⟨b35, 0, none⟩), .pointer (some ⟨b36, 0, none⟩)]⟩), (7, .pointer (some ⟨b29, 0, none⟩)), (8, .pointer (some ⟨b28, 0, none⟩)), (24, .int .i64 (e.j : Int)), (23, .pointer (some ⟨g.b, 0, none⟩)), (6, .pointer (some ⟨b19, 0, none⟩)), (4, .int .i64 (g.k : Int)), (5, .pointer (some ⟨b16, 0, none⟩)), (16, .int .i64 (g.k : Int)), (15, .int .i64 (n : Int)), (14, .slice A n cp), (2, .pointer none), (1, .pointer (some ⟨b2, 0, none⟩))] ((b36, some (.cells ⟨[.int .i64 (g.k : Int)]⟩ 3 (0, 0))) :: (b35, some (.cells ⟨(boxL b A n cp A2 n2 c2 A3 n3 c3 m)⟩ 66 (0, 0))) :: (b29, some (.cells ⟨[.int .i64 (e.j : Int)]⟩ 3 (0, 0))) :: (b28, some (.cells ⟨[.int .i64 ((wf (sums [0] ((its b.rolls ss).take g.k))) e.j)]⟩ 3 (0, 0))) :: (b19, some (.cells ⟨[.pointer (some ⟨b18, 0, none⟩)]⟩ 84 (0, 0))) :: (b18, o9) :: (b16, some (.cells ⟨(rollL x11)⟩ 46 (0, 0))) :: (g.b, g.o) :: (b2, some (.cells ⟨(boxL b A n cp A2 n2 c2 A3 n3 c3 m)⟩ 66 (0, 0))) :: (marks e.ds)) (((b36, some (.cells ⟨[.int .i64 (g.k : Int)]⟩ 3 (0, 0))) :: (b35, some (.cells ⟨(boxL b A n cp A2 n2 c2 A3 n3 c3 m)⟩ 66 (0, 0))) :: (b29, some (.cells ⟨[.int .i64 (e.j : Int)]⟩ 3 (0, 0))) :: (b28, some (.cells ⟨[.int .i64 ((wf (sums [0] ((its b.rolls ss).take g.k))) e.j)]⟩ 3 (0, 0))) :: (b19, some (.cells ⟨[.pointer (some ⟨b18, 0, none⟩)]⟩ 84 (0, 0))) :: (b18, e.o) :: (b16, some (.cells ⟨(rollL x11)⟩ 46 (0, 0))) :: (g.b, g.o) :: (b2, some (.cells ⟨(boxL b A n cp A2 n2 c2 A3 n3 c3 m)⟩ 66 (0, 0))) :: (marks e.ds)).map (·.1)) w_53 _ _ := hs53; clear hs53
         refine cd_region1 ?_
         refine sq rfl (st_assign hs54 (Ev.t 0 rfl) rfl rfl fun _ _ hs55 => ?_); clear hs54
         refine wpListIn_nil ?_
         have hs56 := hs55.keep [0, 2, 3, 4, 5, 6, 7, 8, 9, 10, 11, 12, 13, 14] [_, _, _, _, _, _, _, _, _, _, _, _, _, _] rfl; clear hs55
         refine th_norm ⟨_, _, hs56, (by simp [isSome1, marks, own_arr_some hown, own_arr_some hN9]), fun w_57 hkR2 hMR2 hs57 => ?_⟩; clear hs56
         have hs58 : Sx 54 [] [(9, .int .i64 j_), (34, .func (.func 74) ⟨[]⟩ ⟨[.pointer (some ⟨b35, 0, none⟩), .pointer (some ⟨b36, 0, none⟩)]⟩), (7, .pointer (some ⟨b29, 0, none⟩)), (8, .pointer (some ⟨b28, 0, none⟩)), (24, .int .i64 (e.j : Int)), (23, .pointer (some ⟨g.b, 0, none⟩)), (6, .pointer (some ⟨b19, 0, none⟩)), (4, .int .i64 (g.k : Int)), (5, .pointer (some ⟨b16, 0, none⟩)), (16, .int .i64 (g.k : Int)), (15, .int .i64 (n : Int)), (14, .slice A n cp), (2, .pointer none), (1, .pointer (some ⟨b2, 0, none⟩))] ((b36, some (.cells ⟨[.int .i64 (g.k : Int)]⟩ 3 (0, 0))) :: (b35, some (.cells ⟨(boxL b A n cp A2 n2 c2 A3 n3 c3 m)⟩ 66 (0, 0))) :: (b29, some (.cells ⟨[.int .i64 (e.j : Int)]⟩ 3 (0, 0))) :: (b28, some (.cells ⟨[.int .i64 ((wf (sums [0] ((its b.rolls ss).take g.k))) e.j)]⟩ 3 (0, 0))) :: (b19, some (.cells ⟨[.pointer (some ⟨b18, 0, none⟩)]⟩ 84 (0, 0))) :: (b18, o9) :: (b16, some (.cells ⟨(rollL x11)⟩ 46 (0, 0))) :: (g.b, g.o) :: (b2, some (.cells ⟨(boxL b A n cp A2 n2 c2 A3 n3 c3 m)⟩ 66 (0, 0))) :: (marks e.ds)) (((b36, some (.cells ⟨[.int .i64 (g.k : Int)]⟩ 3 (0, 0))) :: (b35, some (.cells ⟨(boxL b A n cp A2 n2 c2 A3 n3 c3 m)⟩ 66 (0, 0))) :: (b29, some (.cells ⟨[.int .i64 (e.j : Int)]⟩ 3 (0, 0))) :: (b28, some (.cells ⟨[.int .i64 ((wf (sums [0] ((its b.rolls ss).take g.k))) e.j)]⟩ 3 (0, 0))) :: (b19, some (.cells ⟨[.pointer (some ⟨b18, 0, none⟩)]⟩ 84 (0, 0))) :: (b18, o9) :: (b16, some (.cells ⟨(rollL x11)⟩ 46 (0, 0))) :: (g.b, g.o) :: (b2, some (.cells ⟨(boxL b A n cp A2 n2 c2 A3 n3 c3 m)⟩ 66 (0, 0))) :: (marks e.ds)).map (·.1)) w_57 _ _ := hs57; clear hs57
         have hkW := hkR2
         have hMW := hMR2
         have hix := idx_bd hwf hx11 hx13 hF hxi
         have hpb := pourP_bd hwf hx11 hx13 (j := e.j) (t := i) (by omega) ((e.j : Int) + j_ * x11.price).toNat
         have hfb := wf_bd hwf g.k e.j
         refine cd_block ?_
         refine cd_drawn1 mixed hs58 [⟨36, [], Is (.pointer (some ⟨b18, 0, none⟩))⟩, ⟨37, [], Is (.int .i64 (e.j : Int))⟩, ⟨38, [], Is (.int .i64 j_)⟩, ⟨39, [], Is (.pointer (some ⟨b16, 0, none⟩))⟩, ⟨40, [3], Is (.int .i64 x11.price)⟩, ⟨41, [2, 4], Is (.int .i64 (j_ * x11.price))⟩, ⟨42, [1, 5], Is (.int .i64 ((e.j : Int) + (j_ * x11.price)))⟩, ⟨43, [0], Is (.pointer (some ⟨b18, 0, none⟩))⟩, ⟨44, [6, 7], Is (.pointer (some ⟨b18, (((e.j : Int) + (j_ * x11.price) : Int).toNat) * 1, none⟩))⟩, ⟨45, [8], Is (.int .i64 ((pourP (wf (sums [0] ((its b.rolls ss).take g.k))) x11.price (nums x13) e.j i) (((e.j : Int) + (j_ * x11.price) : Int).toNat)))⟩, ⟨46, [], Is (.int .i64 ((wf (sums [0] ((its b.rolls ss).take g.k))) e.j))⟩, ⟨47, [9, 10], Is (.int .i64 (((pourP (wf (sums [0] ((its b.rolls ss).take g.k))) x11.price (nums x13) e.j i) (((e.j : Int) + (j_ * x11.price) : Int).toNat)) + ((wf (sums [0] ((its b.rolls ss).take g.k))) e.j)))⟩, ⟨48, [0], Is (.pointer (some ⟨b18, 0, none⟩))⟩] (by kernel_rfl) (by kernel_rfl) ⟨⟨?_, ?_, ?_, ?_, ?_, ?_, ?_, ?_, ?_, ?_, ?_, ?_, ?_, trivial⟩, ?_⟩
         · rintro T_ B_ a_ w_ K_ hT hB hf hsD hk
           exact ob rfl rfl (st_load1 (o := 0) (off := 0) (v := .pointer (some ⟨b18, 0, none⟩)) hsD (evT hT 6 rfl) rfl hf isAgg84 (hsD.cellsM (inB hB 4 rfl)) rfl fun _ _ => hk _ _ _ _ ⟨rfl, rfl⟩)
         · rintro T_ B_ a_ w_ K_ hT hB hf hsD hk
           exact ob rfl rfl (st_load1 (o := 0) (off := 0) (v := .int .i64 (e.j : Int)) hsD (evT hT 2 rfl) rfl hf isAgg3 (hsD.cellsM (inB hB 2 rfl)) rfl fun _ _ => hk _ _ _ _ ⟨rfl, rfl⟩)
         · rintro T_ B_ a_ w_ K_ hT hB hf hsD hk
           exact ob rfl rfl (st_move hsD (evT hT 0 rfl) rfl hf fun _ _ => hk _ _ _ _ ⟨rfl, rfl⟩)
         · rintro T_ B_ a_ w_ K_ hT hB hf hsD hk
           exact ob rfl rfl (st_field (o' := 0) hsD (evT hT 8 rfl) rfl hf runUnderlying46 rfl sizeOf3 rfl rfl fun _ _ => hk _ _ _ _ ⟨rfl, rfl⟩)
         · rintro T_ B_ a_ w_ K_ hT hB _ _ ⟨rfl, rfl⟩ h39 - hf hsD hk
           exact ob rfl rfl (st_load1 (o := 0) (off := 0) (v := .int .i64 x11.price) hsD (Ev.tmp h39) rfl hf isAgg3 (hsD.cellsM (inB hB 6 rfl)) rfl fun _ _ => hk _ _ _ _ ⟨rfl, rfl⟩)
         · rintro T_ B_ a_ w_ K_ hT hB _ _ ⟨rfl, rfl⟩ h38 - _ _ ⟨rfl, rfl⟩ h40 - hf hsD hk
           exact ob rfl rfl (st_mul (z := j_ * x11.price) hsD (Ev.tmp h38) (Ev.tmp h40) rfl hf rfl (by omega) fun _ _ => hk _ _ _ _ ⟨rfl, rfl⟩)
         · rintro T_ B_ a_ w_ K_ hT hB _ _ ⟨rfl, rfl⟩ h37 - _ _ ⟨rfl, rfl⟩ h41 - hf hsD hk
           exact ob rfl rfl (st_add (z := (e.j : Int) + (j_ * x11.price)) hsD (Ev.tmp h37) (Ev.tmp h41) rfl hf rfl (by omega) fun _ _ => hk _ _ _ _ ⟨rfl, rfl⟩)
         · rintro T_ B_ a_ w_ K_ hT hB _ _ ⟨rfl, rfl⟩ h36 - hf hsD hk
           exact ob rfl rfl (st_nilCheck hsD (Ev.tmp h36) rfl hf fun _ _ => hk _ _ _ _ ⟨rfl, rfl⟩)
         · rintro T_ B_ a_ w_ K_ hT hB _ _ ⟨rfl, rfl⟩ h42 - _ _ ⟨rfl, rfl⟩ h43 - hf hsD hk
           exact ob rfl rfl (st_indexArr (o' := (((e.j : Int) + (j_ * x11.price) : Int).toNat) * 1) hsD (Ev.tmp h43) (Ev.tmp h42) rfl hf runUnderlying100 sizeOf3 ⟨by omega, by omega⟩ (by simp) fun _ _ => hk _ _ _ _ ⟨rfl, rfl⟩)
         · rintro T_ B_ a_ w_ K_ hT hB _ _ ⟨rfl, rfl⟩ h44 - hf hsD hk
           exact ob rfl rfl (st_load1 (o := ((((e.j : Int) + (j_ * x11.price) : Int).toNat) * 1)) (off := 0) (v := .int .i64 ((pourP (wf (sums [0] ((its b.rolls ss).take g.k))) x11.price (nums x13) e.j i) (((e.j : Int) + (j_ * x11.price) : Int).toNat))) hsD (Ev.tmp h44) rfl hf isAgg3 (own_cellM hsD hN9 (hB _ (mem_nth (i := 5) rfl)) (arr_at (by omega))) rfl fun _ _ => hk _ _ _ _ ⟨rfl, rfl⟩)
         · rintro T_ B_ a_ w_ K_ hT hB hf hsD hk
           exact ob rfl rfl (st_load1 (o := 0) (off := 0) (v := .int .i64 ((wf (sums [0] ((its b.rolls ss).take g.k))) e.j)) hsD (evT hT 3 rfl) rfl hf isAgg3 (hsD.cellsM (inB hB 3 rfl)) rfl fun _ _ => hk _ _ _ _ ⟨rfl, rfl⟩)
         · rintro T_ B_ a_ w_ K_ hT hB _ _ ⟨rfl, rfl⟩ h45 - _ _ ⟨rfl, rfl⟩ h46 - hf hsD hk
           exact ob rfl rfl (st_add (z := ((pourP (wf (sums [0] ((its b.rolls ss).take g.k))) x11.price (nums x13) e.j i) (((e.j : Int) + (j_ * x11.price) : Int).toNat)) + ((wf (sums [0] ((its b.rolls ss).take g.k))) e.j)) hsD (Ev.tmp h45) (Ev.tmp h46) rfl hf rfl (by omega) fun _ _ => hk _ _ _ _ ⟨rfl, rfl⟩)
         · rintro T_ B_ a_ w_ K_ hT hB _ _ ⟨rfl, rfl⟩ h36 - hf hsD hk
           exact ob rfl rfl (st_nilCheck hsD (Ev.tmp h36) rfl hf fun _ _ => hk _ _ _ _ ⟨rfl, rfl⟩)
         rintro _ _ ⟨rfl, rfl⟩ _ _ ⟨rfl, rfl⟩ _ _ ⟨rfl, rfl⟩ _ _ ⟨rfl, rfl⟩ _ _ ⟨rfl, rfl⟩ _ _ ⟨rfl, rfl⟩ _ _ ⟨rfl, rfl⟩ _ _ ⟨rfl, rfl⟩ _ _ ⟨rfl, rfl⟩ _ _ ⟨rfl, rfl⟩ _ _ ⟨rfl, rfl⟩ _ _ ⟨rfl, rfl⟩ _ _ ⟨rfl, rfl⟩ a_59 w_59 hs59; clear hs58
         have hs60 := Sx.as (T' := [_, _, _, _, _, _, _, _, _, _, _, _, _, _, _, _, _, _, _, _, _, _, _, _, _, _, _]) (B' := _ :: _ :: _ :: _ :: _ :: _ :: _ :: _ :: _ :: _) rfl rfl hs59; clear hs59
         refine sq rfl (st_indexArr (o' := (((e.j : Int) + (j_ * x11.price) : Int).toNat) * 1) hs60 (Ev.t 12 rfl) (Ev.t 6 rfl) rfl rfl runUnderlying100 sizeOf3 ⟨by omega, by omega⟩ (by simp) fun _ _ hs61 => ?_); clear hs60
         refine sq rfl (st_storeOwn (enc := intL1) (sz := 1) (off := 0) (kk := (((e.j : Int) + (j_ * x11.price) : Int).toNat)) (i := 5) (u := (pourP (wf (sums [0] ((its b.rolls ss).take g.k))) x11.price (nums x13) e.j i) (((e.j : Int) + (j_ * x11.price) : Int).toNat)) (u' := ((pourP (wf (sums [0] ((its b.rolls ss).take g.k))) x11.price (nums x13) e.j i) (((e.j : Int) + (j_ * x11.price) : Int).toNat)) + ((wf (sums [0] ((its b.rolls ss).take g.k))) e.j)) hs61 (Ev.t 0 rfl) (Ev.t 12 rfl) sizeOf3 rfl hN9 (arr_at (by omega)) (fun _ => rfl) (by decide) rfl rfl rfl (fun o39 a_62 w_62 hO39 hs62 => ?_)); clear hs61
         rw [arr_set] at hO39
         have hs63 : Sx 54 [] [(49, .pointer (some ⟨b18, (((e.j : Int) + (j_ * x11.price) : Int).toNat) * 1, none⟩)), (36, .pointer (some ⟨b18, 0, none⟩)), (37, .int .i64 (e.j : Int)), (38, .int .i64 j_), (39, .pointer (some ⟨b16, 0, none⟩)), (40, .int .i64 x11.price), (41, .int .i64 (j_ * x11.price)), (42, .int .i64 ((e.j : Int) + (j_ * x11.price))), (43, .pointer (some ⟨b18, 0, none⟩)), (44, .pointer (some ⟨b18, (((e.j : Int) + (j_ * x11.price) : Int).toNat) * 1, none⟩)), (45, .int .i64 ((pourP (wf (sums [0] ((its b.rolls ss).take g.k))) x11.price (nums x13) e.j i) (((e.j : Int) + (j_ * x11.price) : Int).toNat))), (46, .int .i64 ((wf (sums [0] ((its b.rolls ss).take g.k))) e.j)), (47, .int .i64 (((pourP (wf (sums [0] ((its b.rolls ss).take g.k))) x11.price (nums x13) e.j i) (((e.j : Int) + (j_ * x11.price) : Int).toNat)) + ((wf (sums [0] ((its b.rolls ss).take g.k))) e.j))), (48, .pointer (some ⟨b18, 0, none⟩)), (9, .int .i64 j_), (34, .func (.func 74) ⟨[]⟩ ⟨[.pointer (some ⟨b35, 0, none⟩), .pointer (some ⟨b36, 0, none⟩)]⟩), (7, .pointer (some ⟨b29, 0, none⟩)), (8, .pointer (some ⟨b28, 0, none⟩)), (24, .int .i64 (e.j : Int)), (23, .pointer (some ⟨g.b, 0, none⟩)), (6, .pointer (some ⟨b19, 0, none⟩)), (4, .int .i64 (g.k : Int)), (5, .pointer (some ⟨b16, 0, none⟩)), (16, .int .i64 (g.k : Int)), (15, .int .i64 (n : Int)), (14, .slice A n cp), (2, .pointer none), (1, .pointer (some ⟨b2, 0, none⟩))] ((b36, some (.cells ⟨[.int .i64 (g.k : Int)]⟩ 3 (0, 0))) :: (b35, some (.cells ⟨(boxL b A n cp A2 n2 c2 A3 n3 c3 m)⟩ 66 (0, 0))) :: (b29, some (.cells ⟨[.int .i64 (e.j : Int)]⟩ 3 (0, 0))) :: (b28, some (.cells ⟨[.int .i64 ((wf (sums [0] ((its b.rolls ss).take g.k))) e.j)]⟩ 3 (0, 0))) :: (b19, some (.cells ⟨[.pointer (some ⟨b18, 0, none⟩)]⟩ 84 (0, 0))) :: (b18, o39) :: (b16, some (.cells ⟨(rollL x11)⟩ 46 (0, 0))) :: (g.b, g.o) :: (b2, some (.cells ⟨(boxL b A n cp A2 n2 c2 A3 n3 c3 m)⟩ 66 (0, 0))) :: (marks e.ds)) (((b36, some (.cells ⟨[.int .i64 (g.k : Int)]⟩ 3 (0, 0))) :: (b35, some (.cells ⟨(boxL b A n cp A2 n2 c2 A3 n3 c3 m)⟩ 66 (0, 0))) :: (b29, some (.cells ⟨[.int .i64 (e.j : Int)]⟩ 3 (0, 0))) :: (b28, some (.cells ⟨[.int .i64 ((wf (sums [0] ((its b.rolls ss).take g.k))) e.j)]⟩ 3 (0, 0))) :: (b19, some (.cells ⟨[.pointer (some ⟨b18, 0, none⟩)]⟩ 84 (0, 0))) :: (b18, o9) :: (b16, some (.cells ⟨(rollL x11)⟩ 46 (0, 0))) :: (g.b, g.o) :: (b2, some (.cells ⟨(boxL b A n cp A2 n2 c2 A3 n3 c3 m)⟩ 66 (0, 0))) :: (marks e.ds)).map (·.1)) w_57 _ _ := hs62; clear hs62
         refine wpListIn_nil ?_
         refine in_norm ?_
         have hO40 : Sx.Own intL1 1 100 _ _ (arr (pourP (wf (sums [0] ((its b.rolls ss).take g.k))) x11.price (nums x13) e.j (i + 1))) b18 o39 := own_eq hO39 (congrArg arr (pourP_step hxi (by omega)))
         exact ⟨_, _, _, ⟨o39, hO40, rfl⟩, (fun p hp => by simp only [List.mem_cons] at hp; rcases hp with rfl | rfl | rfl | rfl | rfl | rfl | rfl | rfl | rfl | hp; exact mem_nth (i := 0) rfl; exact mem_nth (i := 1) rfl; exact mem_nth (i := 2) rfl; exact mem_nth (i := 3) rfl; exact mem_nth (i := 4) rfl; exact mem_nth (i := 5) rfl; exact mem_nth (i := 6) rfl; exact mem_nth (i := 7) rfl; exact mem_nth (i := 8) rfl; exact List.mem_cons_of_mem _ (List.mem_cons_of_mem _ (List.mem_cons_of_mem _ (List.mem_cons_of_mem _ (List.mem_cons_of_mem _ (List.mem_cons_of_mem _ (List.mem_cons_of_mem _ (List.mem_cons_of_mem _ (List.mem_cons_of_mem _ (hp)))))))))), hs63⟩
       · rintro d_53 B_ a_53 w_53 ⟨o9, hN9, rfl⟩ hs53
         clear hs52
         have hs54 : Sx 54 (dmarks (d_53 :: e.ds)) [(34, .func (.func 74) ⟨[]⟩ ⟨[.pointer (some ⟨b35, 0, none⟩), .pointer (some ⟨b36, 0, none⟩)]⟩), (7, .pointer (some ⟨b29, 0, none⟩)), (8, .pointer (some ⟨b28, 0, none⟩)), (24, .int .i64 (e.j : Int)), (23, .pointer (some ⟨g.b, 0, none⟩)), (6, .pointer (some ⟨b19, 0, none⟩)), (4, .int .i64 (g.k : Int)), (5, .pointer (some ⟨b16, 0, none⟩)), (16, .int .i64 (g.k : Int)), (15, .int .i64 (n : Int)), (14, .slice A n cp), (2, .pointer none), (1, .pointer (some ⟨b2, 0, none⟩))] ((b36, some (.cells ⟨[.int .i64 (g.k : Int)]⟩ 3 (0, 0))) :: (b35, some (.cells ⟨(boxL b A n cp A2 n2 c2 A3 n3 c3 m)⟩ 66 (0, 0))) :: (b29, some (.cells ⟨[.int .i64 (e.j : Int)]⟩ 3 (0, 0))) :: (b28, some (.cells ⟨[.int .i64 ((wf (sums [0] ((its b.rolls ss).take g.k))) e.j)]⟩ 3 (0, 0))) :: (b19, some (.cells ⟨[.pointer (some ⟨b18, 0, none⟩)]⟩ 84 (0, 0))) :: (b18, o9) :: (b16, some (.cells ⟨(rollL x11)⟩ 46 (0, 0))) :: (g.b, g.o) :: (b2, some (.cells ⟨(boxL b A n cp A2 n2 c2 A3 n3 c3 m)⟩ 66 (0, 0))) :: (marks (d_53 :: e.ds))) [] w _ _ := Sx.toTail [(b36, some (.cells ⟨[.int .i64 (g.k : Int)]⟩ 3 (0, 0))), (b35, some (.cells ⟨(boxL b A n cp A2 n2 c2 A3 n3 c3 m)⟩ 66 (0, 0))), (b29, some (.cells ⟨[.int .i64 (e.j : Int)]⟩ 3 (0, 0))), (b28, some (.cells ⟨[.int .i64 ((wf (sums [0] ((its b.rolls ss).take g.k))) e.j)]⟩ 3 (0, 0))), (b19, some (.cells ⟨[.pointer (some ⟨b18, 0, none⟩)]⟩ 84 (0, 0))), (b18, o9), (b16, some (.cells ⟨(rollL x11)⟩ 46 (0, 0))), (g.b, g.o), (b2, some (.cells ⟨(boxL b A n cp A2 n2 c2 A3 n3 c3 m)⟩ 66 (0, 0)))] hs53; clear hs53
         have hO41 : Sx.Own intL1 1 100 _ _ (arr (pour (wf (sums [0] ((its b.rolls ss).take g.k))) x11.price (nums x13) (e.j + 1))) b18 o9 := own_eq hN9 (congrArg arr pourP_full)
         refine in_norm ?_
         refine in_norm ?_
         refine th_norm (hK26 _ _ ?_)
         refine cd_region1 ?_
         refine sq rfl (st_add (z := (e.j : Int) + 1) hs54 (Ev.t 3 rfl) (.const _) rfl rfl rfl (by omega) fun _ _ hs55 => ?_); clear hs54
         have hs56 := hs55.keep [0, 1, 2, 3, 5, 6, 7, 8, 9, 10, 11, 12, 13] [_, _, _, _, _, _, _, _, _, _, _, _, _] rfl; clear hs55
         refine sq rfl (st_move hs56 (Ev.t 0 rfl) rfl rfl fun _ _ hs57 => ?_); clear hs56
         refine wpListIn_nil ?_
         have hs58 := hs57.keep [0, 5, 6, 7, 8, 9, 10, 11, 12, 13] [_, _, _, _, _, _, _, _, _, _] rfl; clear hs57
         refine ⟨(InG.mk (e.j + 1) o9 (d_53 :: e.ds)), ⟨?_, ?_, ?_⟩, by (show 60001 - (e.j + 1) < 60001 - e.j; omega)⟩
         · exact hjn
         · exact hO41
         have hs59 : Sx 54 (dmarks (d_53 :: e.ds)) [(24, .int .i64 ((e.j : Int) + 1)), (23, .pointer (some ⟨g.b, 0, none⟩)), (6, .pointer (some ⟨b19, 0, none⟩)), (4, .int .i64 (g.k : Int)), (5, .pointer (some ⟨b16, 0, none⟩)), (16, .int .i64 (g.k : Int)), (15, .int .i64 (n : Int)), (14, .slice A n cp), (2, .pointer none), (1, .pointer (some ⟨b2, 0, none⟩))] ((b19, some (.cells ⟨[.pointer (some ⟨b18, 0, none⟩)]⟩ 84 (0, 0))) :: (b18, o9) :: (b16, some (.cells ⟨(rollL x11)⟩ 46 (0, 0))) :: (g.b, g.o) :: (b2, some (.cells ⟨(boxL b A n cp A2 n2 c2 A3 n3 c3 m)⟩ 66 (0, 0))) :: (marks (d_53 :: e.ds))) [] w _ _ := Sx.blks hs58 ((List.Sublist.cons _ (List.Sublist.cons _ (List.Sublist.cons _ (List.Sublist.cons _ (List.Sublist.cons_cons _ (List.Sublist.cons_cons _ (List.Sublist.cons_cons _ (List.Sublist.cons_cons _ (List.Sublist.cons_cons _ (List.Sublist.refl _)))))))))))
         exact Sx.keepE [0, 1, 2, 3, 4, 5, 6, 7, 8, 9] _ ⟨⟨_, rfl, rfl⟩, ⟨_, rfl, rfl⟩, ⟨_, rfl, rfl⟩, ⟨_, rfl, rfl⟩, ⟨_, rfl, rfl⟩, ⟨_, rfl, rfl⟩, ⟨_, rfl, rfl⟩, ⟨_, rfl, rfl⟩, ⟨_, rfl, rfl⟩, ⟨_, rfl, rfl⟩, trivial⟩ hs59
       · rintro d_ c_ B_ a_ w_ h_; exact h_.elim
   · have hje : e.j = 60001 := by simp at hc25; omega
     have hO42 : Sx.Own intL1 1 100 _ _ (arr (wf (sums [0] ((its b.rolls ss).take (g.k + 1))))) b18 e.o := own_eq hnx ((by rw [hje]; exact pour_done hwf hx11 hx13))
     refine cd_exit ?_
     refine th_exit ?_
     refine th_exit ?_
     refine in_hit ?_
     refine th_norm (hK21 _ _ ?_)
     refine cd_region1 ?_
     refine sq rfl (st_load1 (o := 0) (off := 0) (v := .pointer (some ⟨b18, 0, none⟩)) hs39 (Ev.t 3 rfl) rfl rfl isAgg84 (hs39.cells 0 rfl) rfl fun _ _ hs40 => ?_); clear hs39
     refine sq rfl (st_assign hs40 (Ev.t 0 rfl) rfl rfl fun _ _ hs41 => ?_); clear hs40
     refine wpListIn_nil ?_
     have hs42 := hs41.keep [0, 8, 9, 10, 11, 12] [_, _, _, _, _, _] rfl; clear hs41
     refine in_norm ?_
     refine th_norm (hK14 _ _ ?_)
     refine cd_region1 ?_
     refine sq rfl (st_add (z := (g.k : Int) + 1) hs42 (Ev.t 1 rfl) (.const _) rfl rfl rfl (by omega) fun _ _ hs43 => ?_); clear hs42
     have hs44 := hs43.keep [0, 1, 3, 4, 5, 6] [_, _, _, _, _, _] rfl; clear hs43
     refine sq rfl (st_move hs44 (Ev.t 0 rfl) rfl rfl fun _ _ hs45 => ?_); clear hs44
     refine wpListIn_nil ?_
     have hs46 := hs45.keep [0, 2, 3, 4, 5, 6] [_, _, _, _, _, _] rfl; clear hs45
     refine ⟨(AllG.mk (g.k + 1) b18 e.o e.ds), ⟨?_, ?_, ?_⟩, by (show n - (g.k + 1) < n - g.k; omega)⟩
     · exact hin
     · exact hO42
     have hs47 : Sx 54 (dmarks e.ds) [(16, .int .i64 ((g.k : Int) + 1)), (3, .pointer (some ⟨b18, 0, none⟩)), (15, .int .i64 (n : Int)), (14, .slice A n cp), (2, .pointer none), (1, .pointer (some ⟨b2, 0, none⟩))] ((b18, e.o) :: (b2, some (.cells ⟨(boxL b A n cp A2 n2 c2 A3 n3 c3 m)⟩ 66 (0, 0))) :: (marks e.ds)) [] w _ _ := Sx.blks hs46 ((List.Sublist.cons _ (List.Sublist.cons_cons _ (List.Sublist.cons _ (List.Sublist.cons _ (List.Sublist.cons_cons _ (List.Sublist.refl _)))))))
     exact Sx.keepE [0, 2, 3, 1, 4, 5] _ ⟨⟨_, rfl, rfl⟩, ⟨_, rfl, rfl⟩, ⟨_, rfl, rfl⟩, ⟨_, rfl, rfl⟩, ⟨_, rfl, rfl⟩, ⟨_, rfl, rfl⟩, trivial⟩ hs47
 · have hge : g.k = n := by simp at hc10; omega
   refine cd_exit ?_
   refine th_exit ?_
   refine th_exit ?_
   refine in_hit ?_
   refine th_norm (hK6 _ _ ?_)
   refine cd_region fun K43 hK43 => ?_
   refine sq rfl (st_move hs18 (Ev.t 4 rfl) rfl rfl fun _ _ hs19 => ?_); clear hs18
   have hs20 := hs19.keep [0, 1, 2, 3, 4, 5, 7] [_, _, _, _, _, _, _] rfl; clear hs19
   refine sq rfl (st_assign hs20 (Ev.t 0 rfl) rfl rfl fun _ _ hs21 => ?_); clear hs20
   refine hK43 _ _ ?_; clear hK43
   have hs22 := hs21.keep [0] [_] rfl; clear hs21
   have hfin : arr (wf (sums [0] ((its b.rolls ss).take g.k))) = arr (wf (sums [0] (its b.rolls ss))) := by rw [List.take_of_length_le (by rw [hwf.its_len]; omega)]
   exact cd_retYb (B1 := [(g.b, g.o), (b2, some (.cells ⟨(boxL b A n cp A2 n2 c2 A3 n3 c3 m)⟩ 66 (0, 0)))]) (vs := [.pointer (some ⟨g.b, 0, none⟩)]) (bs := [(g.b, g.o)]) hs22 hQ0 rfl (fun _ _ hsM => ⟨.tmp 0 rfl, trivial⟩) (.cons_cons _ (List.nil_sublist _)) ⟨g.b, g.o, rfl, own_eq hown hfin, rfl⟩
end Go.Proofs.YtcnndpedeofbmaaDoor
