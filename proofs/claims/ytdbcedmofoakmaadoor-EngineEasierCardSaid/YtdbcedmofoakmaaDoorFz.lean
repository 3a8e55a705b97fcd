/- The law EngineEasier: its walk. -/
import Derived.Test.YtdbcedmofoakmaaDoorFi
set_option maxRecDepth 100000
namespace Go.Proofs.YtdbcedmofoakmaaDoor
open Go Go.Sx Go.Eng
theorem EngineEasier_v (b : Book) (A : Option Addr) (n cp : Nat) (k0 k1 : Int) (w : World) (hP : PartsAt w A n b.parts) (hn : n ≤ 140737488351232) (hG : CellsAt w 0 0 stuffsL) (hcp : n ≤ cp) :
    CallsV Tryd.prog 12 [.agg ⟨(bookL b A n cp)⟩, .agg ⟨[.int .i64 k0, .int .i64 k1]⟩] w (.bool true) := by
 refine enter (N := 236) (M := []) w Tryd.func12 rfl rfl rfl (fun Q0 a_0 hQ0 hN0 hs0 => ?_)
 rcases hok : b.ok with _ | _
 · skip
   refine cd_region fun K1 hK1 => ?_
   refine sq rfl (st_box hs0 (Ev.t 0 rfl) rfl rfl rfl fun b2 _ _ hs1 => ?_); clear hs0
   refine sq rfl (st_box hs1 (Ev.t 2 rfl) rfl rfl rfl fun b3 _ _ hs2 => ?_); clear hs1
   refine sq rfl (st_assign hs2 (.const _) rfl rfl fun _ _ hs3 => ?_); clear hs2
   refine hK1 _ _ ?_; clear hK1
   have hs4 := Sx.keepT [0, 1, 2] [_, _, _] ⟨rfl, rfl, rfl, trivial⟩ hs3; clear hs3
   refine cd_seq fun K4 hK4 => ?_
   refine cd_region fun K5 hK5 => ?_
   refine sq rfl (st_loadA (o := 0) (off := 0) (vs := (bookL b A n cp)) hs4 (Ev.t 2 rfl) rfl rfl Tryd.isAgg27 Tryd.sizeOf27 (hs4.cells 1 rfl) rfl fun _ _ hs5 => ?_); clear hs4
   refine sq rfl (st_callv (vs := [.agg ⟨(bookL b A n cp)⟩]) hs5 (.func _) ⟨(Ev.t 0 rfl), trivial⟩ rfl rfl Tryd.call32 rfl (callsV_eq (v' := .bool false) (sound_v b A n cp _ (hP.kp hs5.kp) hn) (by rw [hok])) fun _ _ hs6 => ?_); clear hs5
   refine sq rfl (st_not hs6 (Ev.t 0 rfl) rfl rfl fun _ _ hs7 => ?_); clear hs6
   refine hK5 _ _ ?_; clear hK5
   have hs8 := Sx.keepT [0, 3, 4, 5] [_, _, _, _] ⟨rfl, rfl, rfl, rfl, trivial⟩ hs7; clear hs7
   have hc6 : true = true := rfl
   refine cd_cond hs8 (Ev.t 0 rfl) (fun _ => ?_) (fun h => absurd (hc6.symm.trans h) (by decide))
   refine cd_region fun K7 hK7 => ?_
   refine sq rfl (st_callv (vs := []) hs8 (.func _) trivial rfl rfl Tryd.call20 rfl (fired_v _ (hG.kp hs8.kp (by simp))) fun _ _ hs9 => ?_); clear hs8
   have hs10 := Sx.keepT [0, 1, 3, 4] [_, _, _, _] ⟨rfl, rfl, rfl, rfl, trivial⟩ hs9; clear hs9
   refine sq rfl (st_assign hs10 (Ev.t 0 rfl) rfl rfl fun _ _ hs11 => ?_); clear hs10
   refine hK7 _ _ ?_; clear hK7
   have hs12 := Sx.keepT [0] [_] ⟨rfl, trivial⟩ hs11; clear hs11
   refine cd_retv (vs := [.bool true]) hs12 (fun a_ w_ h => th_ret (hQ0 a_ w_ h)) rfl ⟨.tmp 0 rfl, trivial⟩ ?_
   clear hs12 hQ0 hN0 hK4
   first | rfl | (simp [pack]; done) | (rcases h06 with rfl | rfl <;> simp [pack]; done) | (simp [pack]; omega)
 · skip
   have hb := ok_bd hok
   have hl2 := hP.len
   have hl5 := ok_len hok
   have hty := turn_bd (n := k1) (m := 12) (by omega)
   obtain ⟨y, hy⟩ : ∃ y, turn k1 12 = y := ⟨_, rfl⟩
   rw [hy] at hty
   have htq := turn_bd (n := k1) (m := (n : Int)) (by omega)
   obtain ⟨q, hq⟩ : ∃ q : Nat, (q : Int) = turn k1 (n : Int) := ⟨(turn k1 (n : Int)).toNat, Int.toNat_of_nonneg htq.1⟩
   have hqb : q < b.parts.length := by omega
   obtain ⟨x, hx⟩ : ∃ x, b.parts[q]? = some x := ⟨_, List.getElem?_eq_getElem hqb⟩
   obtain ⟨z, hz⟩ : ∃ z, turn k0 10 = z := ⟨_, rfl⟩
   have hx5 := ok_part hok hx
   simp only [okSpan_iff, Eng.within_iff] at hx5
   have hnum := ok_iff.1 hok
   obtain ⟨hnum, -⟩ := hnum
   obtain ⟨r, hr⟩ : ∃ r, b.most b.parts.length = r := ⟨_, rfl⟩
   have hRp : b.partsR = ((r : Int), 0) := by rw [partsR_ok hok, hr]
   obtain ⟨b8, o8, hA8, -, hc8⟩ := hP.el q x hx
   refine cd_region fun K9 hK9 => ?_
   refine sq rfl (st_box hs0 (Ev.t 0 rfl) rfl rfl rfl fun b10 _ _ hs1 => ?_); clear hs0
   refine sq rfl (st_box hs1 (Ev.t 2 rfl) rfl rfl rfl fun b11 _ _ hs2 => ?_); clear hs1
   refine sq rfl (st_assign hs2 (.const _) rfl rfl fun _ _ hs3 => ?_); clear hs2
   refine hK9 _ _ ?_; clear hK9
   have hs4 := Sx.keepT [0, 1, 2] [_, _, _] ⟨rfl, rfl, rfl, trivial⟩ hs3; clear hs3
   refine cd_seq fun K12 hK12 => ?_
   refine cd_region fun K13 hK13 => ?_
   refine sq rfl (st_loadA (o := 0) (off := 0) (vs := (bookL b A n cp)) hs4 (Ev.t 2 rfl) rfl rfl Tryd.isAgg27 Tryd.sizeOf27 (hs4.cells 1 rfl) rfl fun _ _ hs5 => ?_); clear hs4
   refine sq rfl (st_callv (vs := [.agg ⟨(bookL b A n cp)⟩]) hs5 (.func _) ⟨(Ev.t 0 rfl), trivial⟩ rfl rfl Tryd.call32 rfl (callsV_eq (v' := .bool true) (sound_v b A n cp _ (hP.kp hs5.kp) hn) (by rw [hok])) fun _ _ hs6 => ?_); clear hs5
   refine sq rfl (st_not hs6 (Ev.t 0 rfl) rfl rfl fun _ _ hs7 => ?_); clear hs6
   refine hK13 _ _ ?_; clear hK13
   have hs8 := Sx.keepT [0, 3, 4, 5] [_, _, _, _] ⟨rfl, rfl, rfl, rfl, trivial⟩ hs7; clear hs7
   have hc14 : false = false := rfl
   refine cd_cond hs8 (Ev.t 0 rfl) (fun h => absurd (hc14.symm.trans h) (by decide)) (fun _ => ?_)
   refine cd_skip ?_
   refine th_norm (hK12 _ _ ?_)
   refine cd_drawn mixed hs8 [⟨21, [], Is (.agg ⟨(bookL b A n cp)⟩)⟩,
      ⟨22, [], Is (.pointer (some ⟨b11, 1, none⟩))⟩,
      ⟨23, [1], Is (.int .i64 k1)⟩,
      ⟨24, [2], Is (.int .i64 (turn k1 12))⟩,
      ⟨5, [], fun v_ bs_ => ∃ b16, v_ = .pointer (some ⟨b16, 0, none⟩) ∧ bs_ = [(b16, some (.cells ⟨[.int .i64 0, .int .i64 0, .int .i64 0, .int .i64 0, .int .i64 0, .int .i64 0, .int .i64 0, .int .i64 0, .int .i64 0, .int .i64 0, .int .i64 0, .int .i64 0, .int .i64 0, .int .i64 0, .int .i64 0, .int .i64 0, .int .i64 0, .int .i64 0, .int .i64 0, .int .i64 0, .int .i64 0, .int .i64 0, .slice none 0 0]⟩ 27 (0, 0)))]⟩] (by kernel_rfl) (by kernel_rfl) fun K15 hK15 => ⟨⟨?_, ?_, ?_, ?_, ?_, trivial⟩, ?_⟩
   · intro T_ B_ a_ w_ K_ hT hB
     intro hf hsD hk
     exact ob rfl rfl (st_loadA (o := 0) (off := 0) (vs := (bookL b A n cp)) hsD (Ev.tmp (hT _ (mem_nth (i := 3) rfl))) rfl hf Tryd.isAgg27 Tryd.sizeOf27 (hsD.cellsM (hB _ (mem_nth (i := 1) rfl))) rfl fun a_1 w_1 h1 => hk _ _ _ _ ⟨rfl, rfl⟩ h1)
   · intro T_ B_ a_ w_ K_ hT hB
     intro hf hsD hk
     exact ob rfl rfl (st_indexArr (o' := 1) hsD (Ev.tmp (hT _ (mem_nth (i := 2) rfl))) (.const _) rfl hf Tryd.runUnderlying29 Tryd.sizeOf3 (by decide) rfl fun a_1 w_1 h1 => hk _ _ _ _ ⟨rfl, rfl⟩ h1)
   · intro T_ B_ a_ w_ K_ hT hB
     rintro _ _ ⟨rfl, rfl⟩ h22 -
     intro hf hsD hk
     exact ob rfl rfl (st_load1 (o := 0) (off := 1) (v := .int .i64 k1) hsD (Ev.tmp h22) rfl hf Tryd.isAgg3 (hsD.cellsM (hB _ (mem_nth (i := 0) rfl))) rfl fun a_1 w_1 h1 => hk _ _ _ _ ⟨rfl, rfl⟩ h1)
   · intro T_ B_ a_ w_ K_ hT hB
     rintro _ _ ⟨rfl, rfl⟩ h23 -
     intro hf hsD hk
     exact ob rfl rfl (st_callv (vs := [.int .i64 k1, .int .i64 12]) hsD (.func _) ⟨(Ev.tmp h23), (.const _), trivial⟩ rfl hf Tryd.call38 rfl (turn_v k1 12 (by omega) _) fun a_1 w_1 h1 => hk _ _ _ _ ⟨rfl, rfl⟩ h1)
   · intro T_ B_ a_ w_ K_ hT hB
     intro hf hsD hk
     exact ob rfl rfl (st_alloc hsD rfl hf Tryd.zeroValue27 rfl fun b16 a_1 w_1 h1 => hk _ _ _ _ ⟨b16, rfl, rfl⟩ h1)
   rintro _ _ ⟨rfl, rfl⟩
   rintro _ _ ⟨rfl, rfl⟩
   rintro _ _ ⟨rfl, rfl⟩
   rintro _ _ ⟨rfl, rfl⟩
   rintro _ _ ⟨b16, rfl, rfl⟩
   intro a_9 w_9 hs9
   clear hs8
   have hs10 := Sx.as (T' := [_, _, _, _, _, _, _, _, _]) (B' := [_, _, _]) rfl rfl hs9; clear hs9
   refine sq rfl (st_store (l' := (bookL b A n cp)) (vs := (bookL b A n cp)) (i := 0) hs10 (Ev.t 4 rfl) (Ev.t 0 rfl) Tryd.sizeOf27 rfl rfl rfl rfl rfl rfl fun _ _ hs11 => ?_); clear hs10
   have hs12 := Sx.as (T' := [_, _, _, _, _, _, _, _, _]) (B' := [_, _, _]) rfl rfl hs11; clear hs11
   refine sq rfl (st_assign hs12 (Ev.t 3 rfl) rfl rfl fun _ _ hs13 => ?_); clear hs12
   refine hK15 _ _ ?_; clear hK15
   have hs14 := Sx.keepT [0, 5, 7, 8, 9] [_, _, _, _, _] ⟨rfl, rfl, rfl, rfl, rfl, trivial⟩ hs13; clear hs13
   have hs15 := Sx.keepE [0, 1, 2, 3, 4] [(6, .int .i64 y), (5, _), (4, _), (3, _), (2, _)] ⟨⟨_, rfl, (by rw [hy])⟩, ⟨_, rfl, rfl⟩, ⟨_, rfl, rfl⟩, ⟨_, rfl, rfl⟩, ⟨_, rfl, rfl⟩, trivial⟩ hs14; clear hs14
   refine cd_region fun K17 hK17 => ?_
   refine sq rfl (st_indexArr (o' := 1) hs15 (Ev.t 3 rfl) (.const _) rfl rfl Tryd.runUnderlying29 Tryd.sizeOf3 (by decide) rfl fun _ _ hs16 => ?_); clear hs15
   refine sq rfl (st_load1 (o := 0) (off := 1) (v := .int .i64 k1) hs16 (Ev.t 0 rfl) rfl rfl Tryd.isAgg3 (hs16.cells 1 rfl) rfl fun _ _ hs17 => ?_); clear hs16
   refine sq rfl (st_field (o' := 22) hs17 (Ev.t 6 rfl) rfl rfl Tryd.runUnderlying27 rfl Tryd.sizeOf25 rfl rfl fun _ _ hs18 => ?_); clear hs17
   refine sq rfl (st_load1 (o := 0) (off := 22) (v := .slice A n cp) hs18 (Ev.t 0 rfl) rfl rfl Tryd.isAgg25 (hs18.cells 2 rfl) rfl fun _ _ hs19 => ?_); clear hs18
   refine sq rfl (st_len hs19 (Ev.t 0 rfl) rfl rfl Tryd.runUnderlying25 fun _ _ hs20 => ?_); clear hs19
   refine sq rfl (st_callv (vs := [.int .i64 k1, .int .i64 (n : Int)]) hs20 (.func _) ⟨(Ev.t 3 rfl), (Ev.t 0 rfl), trivial⟩ rfl rfl Tryd.call38 rfl (turn_v k1 (n : Int) (by omega) _) fun _ _ hs21 => ?_); clear hs20
   refine sq rfl (st_assign hs21 (Ev.t 0 rfl) rfl rfl fun _ _ hs22 => ?_); clear hs21
   refine hK17 _ _ ?_; clear hK17
   have hs23 := Sx.keepT [0, 7, 8, 9, 10, 11] [_, _, _, _, _, _] ⟨rfl, rfl, rfl, rfl, rfl, rfl, trivial⟩ hs22; clear hs22
   have hs24 := Sx.keepE [0, 1, 2, 3, 4, 5] [(7, .int .i64 (q : Int)), (6, _), (5, _), (4, _), (3, _), (2, _)] ⟨⟨_, rfl, (by rw [hq])⟩, ⟨_, rfl, rfl⟩, ⟨_, rfl, rfl⟩, ⟨_, rfl, rfl⟩, ⟨_, rfl, rfl⟩, ⟨_, rfl, rfl⟩, trivial⟩ hs23; clear hs23
   refine cd_region fun K18 hK18 => ?_
   refine sq rfl (st_buildSlice hs24 (qs := []) (e := 66) (l := []) trivial rfl rfl rfl (fun _ => by kernel_rfl) fun b19 _ _ hs25 => ?_); clear hs24
   refine sq rfl (st_field (o' := 22) hs25 (Ev.t 6 rfl) rfl rfl Tryd.runUnderlying27 rfl Tryd.sizeOf25 rfl rfl fun _ _ hs26 => ?_); clear hs25
   refine sq rfl (st_load1 (o := 0) (off := 22) (v := .slice A n cp) hs26 (Ev.t 0 rfl) rfl rfl Tryd.isAgg25 (hs26.cells 3 rfl) rfl fun _ _ hs27 => ?_); clear hs26
   refine sq rfl (st_append (enc := partL) (zs := ([] : List Part)) (ys := b.parts) (c := 0) (i := 0) hs27 (Ev.t 2 rfl) (Ev.t 0 rfl) rfl rfl Tryd.underlying25 (show (Tryd.prog.info? 66).map (fun i => (i.zero, i.size, i.bytes)) = some (some (.agg #[.int .i64 0, .int .i64 0, .bool false, .int .i64 0]), 4, 32) by kernel_rfl) rfl (fun _ => rfl) (fun _ u hu => by simp only [partL, List.mem_cons, List.not_mem_nil, or_false] at hu; rcases hu with rfl | rfl | rfl | rfl <;> rfl) (.inl ⟨rfl, rfl⟩) rfl (hP.kp hs27.kp) (by have := hb.len; simp; omega) (by have := hb.len; simp; omega) (fun A7 c7 bq oq a_28 w_28 hown hs28 => ?_)); clear hs27
   have hs29 : Sx 236 [] [(34, .slice A7 (([] : List Part).length + n) c7), (33, .slice A n cp), (32, .pointer (some ⟨b10, 22, none⟩)), (31, .slice (some ⟨b19, 0, none⟩) 0 0), (7, .int .i64 (q : Int)), (6, .int .i64 y), (5, .pointer (some ⟨b16, 0, none⟩)), (4, .bool false), (3, .pointer (some ⟨b11, 0, none⟩)), (2, .pointer (some ⟨b10, 0, none⟩))] [(bq, oq), (b16, some (.cells ⟨(bookL b A n cp)⟩ 27 (0, 0))), (b11, some (.cells ⟨[.int .i64 k0, .int .i64 k1]⟩ 29 (0, 0))), (b10, some (.cells ⟨(bookL b A n cp)⟩ 27 (0, 0)))] [] w _ _ := hs28; clear hs28
   rw [List.nil_append] at hown
   have hs30 := Sx.keepE [0, 1, 2, 3, 4, 5, 6, 7, 8, 9] [(34, .slice A7 n c7), (33, _), (32, _), (31, _), (7, _), (6, _), (5, _), (4, _), (3, _), (2, _)] ⟨⟨_, rfl, (by simp)⟩, ⟨_, rfl, rfl⟩, ⟨_, rfl, rfl⟩, ⟨_, rfl, rfl⟩, ⟨_, rfl, rfl⟩, ⟨_, rfl, rfl⟩, ⟨_, rfl, rfl⟩, ⟨_, rfl, rfl⟩, ⟨_, rfl, rfl⟩, ⟨_, rfl, rfl⟩, trivial⟩ hs29; clear hs29
   refine sq rfl (st_field (o' := 22) hs30 (Ev.t 6 rfl) rfl rfl Tryd.runUnderlying27 rfl Tryd.sizeOf25 rfl rfl fun _ _ hs31 => ?_); clear hs30
   refine sq rfl (st_store (l' := [.int .i64 b.coal.lo, .int .i64 b.coal.hi, .int .i64 b.water.lo, .int .i64 b.water.hi, .int .i64 b.bunker, .int .i64 b.tank, .int .i64 b.scoop, .int .i64 b.pail, .int .i64 b.burn0.lo, .int .i64 b.burn0.hi, .int .i64 b.burn1.lo, .int .i64 b.burn1.hi, .int .i64 b.drink0.lo, .int .i64 b.drink0.hi, .int .i64 b.drink1.lo, .int .i64 b.drink1.hi, .int .i64 b.full.lo, .int .i64 b.full.hi, .int .i64 b.weak.lo, .int .i64 b.weak.hi, .int .i64 b.mark, .int .i64 b.lamp, .slice A7 n c7]) (vs := [.slice A7 n c7]) (i := 1) hs31 (Ev.t 0 rfl) (Ev.t 1 rfl) Tryd.sizeOf25 rfl rfl rfl rfl rfl rfl fun _ _ hs32 => ?_); clear hs31
   have hs33 := Sx.as (T' := [_, _, _, _, _, _, _, _, _, _, _]) (B' := [_, _, _, _]) rfl rfl hs32; clear hs32
   refine hK18 _ _ ?_; clear hK18
   have hs34 := Sx.keepT [5, 6, 7, 8, 9, 10] [_, _, _, _, _, _] ⟨rfl, rfl, rfl, rfl, rfl, rfl, trivial⟩ hs33; clear hs33
   refine cd_cut (fun a_ w_ => ∃ (d : Book) (o9 : Option Obj), (Easier d b) ∧ (Sx.Own partL 4 66 A7 c7 d.parts bq o9) ∧ Sx 236 [] [(5, .pointer (some ⟨b16, 0, none⟩)), (4, .bool false), (2, .pointer (some ⟨b10, 0, none⟩))] [(bq, o9), (b16, some (.cells ⟨(bookL d A7 n c7)⟩ 27 (0, 0))), (b11, some (.cells ⟨[.int .i64 k0, .int .i64 k1]⟩ 29 (0, 0))), (b10, some (.cells ⟨(bookL b A n cp)⟩ 27 (0, 0)))] [] w a_ w_) ?_ ?_
   · skip
     refine cd_region fun K20 hK20 => ?_
     refine sq rfl (st_indexArr (o' := 0) hs34 (Ev.t 4 rfl) (.const _) rfl rfl Tryd.runUnderlying29 Tryd.sizeOf3 (by decide) rfl fun _ _ hs35 => ?_); clear hs34
     refine sq rfl (st_load1 (o := 0) (off := 0) (v := .int .i64 k0) hs35 (Ev.t 0 rfl) rfl rfl Tryd.isAgg3 (hs35.cells 2 rfl) rfl fun _ _ hs36 => ?_); clear hs35
     refine sq rfl (st_callv (vs := [.int .i64 k0, .int .i64 10]) hs36 (.func _) ⟨(Ev.t 0 rfl), (.const _), trivial⟩ rfl rfl Tryd.call38 rfl (turn_v k0 10 (by omega) _) fun _ _ hs37 => ?_); clear hs36
     refine hK20 _ _ ?_; clear hK20
     have hs38 := Sx.keepT [0, 3, 4, 5, 6, 8] [_, _, _, _, _, _] ⟨rfl, rfl, rfl, rfl, rfl, rfl, trivial⟩ hs37; clear hs37
     have hs39 := Sx.keepE [0, 1, 2, 3, 4, 5] [(38, .int .i64 z), (7, _), (6, _), (5, _), (4, _), (2, _)] ⟨⟨_, rfl, (by rw [hz])⟩, ⟨_, rfl, rfl⟩, ⟨_, rfl, rfl⟩, ⟨_, rfl, rfl⟩, ⟨_, rfl, rfl⟩, ⟨_, rfl, rfl⟩, trivial⟩ hs38; clear hs38
     refine cd_block ?_
     refine cd_region fun K21 hK21 => ?_
     refine sq rfl (st_cmp (c := (z : Int) == 0) hs39 (Ev.t 0 rfl) (.const _) rfl rfl rfl rfl fun _ _ hs40 => ?_); clear hs39
     refine sq rfl (st_assign hs40 (Ev.t 0 rfl) rfl rfl fun _ _ hs41 => ?_); clear hs40
     refine hK21 _ _ ?_; clear hK21
     have hs42 := Sx.keepT [0, 2, 3, 4, 5, 6, 7] [_, _, _, _, _, _, _] ⟨rfl, rfl, rfl, rfl, rfl, rfl, rfl, trivial⟩ hs41; clear hs41
     refine cd_cond hs42 (Ev.t 0 rfl) (fun hc22 => ?_) (fun hc22 => ?_)
     · refine cd_region1 ?_
       refine sq rfl (st_field (o' := 0) hs42 (Ev.t 6 rfl) rfl rfl Tryd.runUnderlying27 rfl Tryd.sizeOf23 rfl rfl fun _ _ hs43 => ?_); clear hs42
       refine sq rfl (st_field (o' := 1) hs43 (Ev.t 0 rfl) rfl rfl Tryd.runUnderlying23 rfl Tryd.sizeOf3 rfl rfl fun _ _ hs44 => ?_); clear hs43
       refine sq rfl (st_load1 (o := 0) (off := 1) (v := .int .i64 b.coal.hi) hs44 (Ev.t 0 rfl) rfl rfl Tryd.isAgg3 (hs44.cells 3 rfl) rfl fun _ _ hs45 => ?_); clear hs44
       refine sq rfl (st_field (o' := 0) hs45 (Ev.t 9 rfl) rfl rfl Tryd.runUnderlying27 rfl Tryd.sizeOf23 rfl rfl fun _ _ hs46 => ?_); clear hs45
       refine sq rfl (st_field (o' := 0) hs46 (Ev.t 0 rfl) rfl rfl Tryd.runUnderlying23 rfl Tryd.sizeOf3 rfl rfl fun _ _ hs47 => ?_); clear hs46
       refine sq rfl (st_load1 (o := 0) (off := 0) (v := .int .i64 b.coal.lo) hs47 (Ev.t 0 rfl) rfl rfl Tryd.isAgg3 (hs47.cells 3 rfl) rfl fun _ _ hs48 => ?_); clear hs47
       refine sq rfl (st_move hs48 (Ev.t 9 rfl) rfl rfl fun _ _ hs49 => ?_); clear hs48
       refine sq rfl (st_add (z := b.coal.lo + y) hs49 (Ev.t 1 rfl) (Ev.t 0 rfl) rfl rfl rfl (by omega) fun _ _ hs50 => ?_); clear hs49
       refine sq rfl (st_min hs50 (Ev.t 5 rfl) (Ev.t 0 rfl) rfl rfl fun _ _ hs51 => ?_); clear hs50
       refine sq rfl (st_field (o' := 0) hs51 (Ev.t 13 rfl) rfl rfl Tryd.runUnderlying27 rfl Tryd.sizeOf23 rfl rfl fun _ _ hs52 => ?_); clear hs51
       refine sq rfl (st_field (o' := 0) hs52 (Ev.t 0 rfl) rfl rfl Tryd.runUnderlying23 rfl Tryd.sizeOf3 rfl rfl fun _ _ hs53 => ?_); clear hs52
       refine sq rfl (st_store (l' := [.int .i64 (min b.coal.hi (b.coal.lo + y)), .int .i64 b.coal.hi, .int .i64 b.water.lo, .int .i64 b.water.hi, .int .i64 b.bunker, .int .i64 b.tank, .int .i64 b.scoop, .int .i64 b.pail, .int .i64 b.burn0.lo, .int .i64 b.burn0.hi, .int .i64 b.burn1.lo, .int .i64 b.burn1.hi, .int .i64 b.drink0.lo, .int .i64 b.drink0.hi, .int .i64 b.drink1.lo, .int .i64 b.drink1.hi, .int .i64 b.full.lo, .int .i64 b.full.hi, .int .i64 b.weak.lo, .int .i64 b.weak.hi, .int .i64 b.mark, .int .i64 b.lamp, .slice A7 n c7]) (vs := [.int .i64 (min b.coal.hi (b.coal.lo + y))]) (i := 1) hs53 (Ev.t 0 rfl) (Ev.t 2 rfl) Tryd.sizeOf3 rfl rfl rfl rfl rfl rfl fun _ _ hs54 => ?_); clear hs53
       have hs55 := Sx.as (T' := [_, _, _, _, _, _, _, _, _, _, _, _, _, _, _, _, _, _]) (B' := [_, _, _, _]) rfl rfl hs54; clear hs54
       refine wpListIn_nil ?_
       have hs56 := Sx.keepT [15, 16, 17] [_, _, _] ⟨rfl, rfl, rfl, trivial⟩ hs55; clear hs55
       refine in_norm ?_
       refine th_norm ?_
       refine ⟨({ b with coal := ⟨min b.coal.hi (b.coal.lo + y), b.coal.hi⟩ } : Book), oq, ?_, ?_, ?_⟩
       · exact easy0 hok hty.1
       · exact hown
       exact Sx.keepE [0, 1, 2] _ ⟨⟨_, rfl, rfl⟩, ⟨_, rfl, rfl⟩, ⟨_, rfl, rfl⟩, trivial⟩ hs56
     · refine cd_region fun K23 hK23 => ?_
       refine sq rfl (st_cmp (c := (z : Int) == 1) hs42 (Ev.t 1 rfl) (.const _) rfl rfl rfl rfl fun _ _ hs43 => ?_); clear hs42
       refine sq rfl (st_assign hs43 (Ev.t 0 rfl) rfl rfl fun _ _ hs44 => ?_); clear hs43
       refine hK23 _ _ ?_; clear hK23
       have hs45 := Sx.keepT [0, 3, 4, 5, 6, 7, 8] [_, _, _, _, _, _, _] ⟨rfl, rfl, rfl, rfl, rfl, rfl, rfl, trivial⟩ hs44; clear hs44
       refine cd_cond hs45 (Ev.t 0 rfl) (fun hc24 => ?_) (fun hc24 => ?_)
       · refine cd_region1 ?_
         refine sq rfl (st_field (o' := 2) hs45 (Ev.t 6 rfl) rfl rfl Tryd.runUnderlying27 rfl Tryd.sizeOf23 rfl rfl fun _ _ hs46 => ?_); clear hs45
         refine sq rfl (st_field (o' := 3) hs46 (Ev.t 0 rfl) rfl rfl Tryd.runUnderlying23 rfl Tryd.sizeOf3 rfl rfl fun _ _ hs47 => ?_); clear hs46
         refine sq rfl (st_load1 (o := 0) (off := 3) (v := .int .i64 b.water.hi) hs47 (Ev.t 0 rfl) rfl rfl Tryd.isAgg3 (hs47.cells 3 rfl) rfl fun _ _ hs48 => ?_); clear hs47
         refine sq rfl (st_field (o' := 2) hs48 (Ev.t 9 rfl) rfl rfl Tryd.runUnderlying27 rfl Tryd.sizeOf23 rfl rfl fun _ _ hs49 => ?_); clear hs48
         refine sq rfl (st_field (o' := 2) hs49 (Ev.t 0 rfl) rfl rfl Tryd.runUnderlying23 rfl Tryd.sizeOf3 rfl rfl fun _ _ hs50 => ?_); clear hs49
         refine sq rfl (st_load1 (o := 0) (off := 2) (v := .int .i64 b.water.lo) hs50 (Ev.t 0 rfl) rfl rfl Tryd.isAgg3 (hs50.cells 3 rfl) rfl fun _ _ hs51 => ?_); clear hs50
         refine sq rfl (st_move hs51 (Ev.t 9 rfl) rfl rfl fun _ _ hs52 => ?_); clear hs51
         refine sq rfl (st_add (z := b.water.lo + y) hs52 (Ev.t 1 rfl) (Ev.t 0 rfl) rfl rfl rfl (by omega) fun _ _ hs53 => ?_); clear hs52
         refine sq rfl (st_min hs53 (Ev.t 5 rfl) (Ev.t 0 rfl) rfl rfl fun _ _ hs54 => ?_); clear hs53
         refine sq rfl (st_field (o' := 2) hs54 (Ev.t 13 rfl) rfl rfl Tryd.runUnderlying27 rfl Tryd.sizeOf23 rfl rfl fun _ _ hs55 => ?_); clear hs54
         refine sq rfl (st_field (o' := 2) hs55 (Ev.t 0 rfl) rfl rfl Tryd.runUnderlying23 rfl Tryd.sizeOf3 rfl rfl fun _ _ hs56 => ?_); clear hs55
         refine sq rfl (st_store (l' := [.int .i64 b.coal.lo, .int .i64 b.coal.hi, .int .i64 (min b.water.hi (b.water.lo + y)), .int .i64 b.water.hi, .int .i64 b.bunker, .int .i64 b.tank, .int .i64 b.scoop, .int .i64 b.pail, .int .i64 b.burn0.lo, .int .i64 b.burn0.hi, .int .i64 b.burn1.lo, .int .i64 b.burn1.hi, .int .i64 b.drink0.lo, .int .i64 b.drink0.hi, .int .i64 b.drink1.lo, .int .i64 b.drink1.hi, .int .i64 b.full.lo, .int .i64 b.full.hi, .int .i64 b.weak.lo, .int .i64 b.weak.hi, .int .i64 b.mark, .int .i64 b.lamp, .slice A7 n c7]) (vs := [.int .i64 (min b.water.hi (b.water.lo + y))]) (i := 1) hs56 (Ev.t 0 rfl) (Ev.t 2 rfl) Tryd.sizeOf3 rfl rfl rfl rfl rfl rfl fun _ _ hs57 => ?_); clear hs56
         have hs58 := Sx.as (T' := [_, _, _, _, _, _, _, _, _, _, _, _, _, _, _, _, _, _]) (B' := [_, _, _, _]) rfl rfl hs57; clear hs57
         refine wpListIn_nil ?_
         have hs59 := Sx.keepT [15, 16, 17] [_, _, _] ⟨rfl, rfl, rfl, trivial⟩ hs58; clear hs58
         refine in_norm ?_
         refine th_norm ?_
         refine ⟨({ b with water := ⟨min b.water.hi (b.water.lo + y), b.water.hi⟩ } : Book), oq, ?_, ?_, ?_⟩
         · exact easy1 hok hty.1
         · exact hown
         exact Sx.keepE [0, 1, 2] _ ⟨⟨_, rfl, rfl⟩, ⟨_, rfl, rfl⟩, ⟨_, rfl, rfl⟩, trivial⟩ hs59
       · refine cd_region fun K25 hK25 => ?_
         refine sq rfl (st_cmp (c := (z : Int) == 2) hs45 (Ev.t 1 rfl) (.const _) rfl rfl rfl rfl fun _ _ hs46 => ?_); clear hs45
         refine sq rfl (st_assign hs46 (Ev.t 0 rfl) rfl rfl fun _ _ hs47 => ?_); clear hs46
         refine hK25 _ _ ?_; clear hK25
         have hs48 := Sx.keepT [0, 3, 4, 5, 6, 7, 8] [_, _, _, _, _, _, _] ⟨rfl, rfl, rfl, rfl, rfl, rfl, rfl, trivial⟩ hs47; clear hs47
         refine cd_cond hs48 (Ev.t 0 rfl) (fun hc26 => ?_) (fun hc26 => ?_)
         · have hs49 : Sx 236 [] [(85, .bool ((z : Int) == 2)), (38, .int .i64 z), (7, .int .i64 (q : Int)), (6, .int .i64 y), (5, .pointer (some ⟨b16, 0, none⟩)), (4, .bool false), (2, .pointer (some ⟨b10, 0, none⟩))] [(b16, some (.cells ⟨[.int .i64 b.coal.lo, .int .i64 b.coal.hi, .int .i64 b.water.lo, .int .i64 b.water.hi, .int .i64 b.bunker, .int .i64 b.tank, .int .i64 b.scoop, .int .i64 b.pail, .int .i64 b.burn0.lo, .int .i64 b.burn0.hi, .int .i64 b.burn1.lo, .int .i64 b.burn1.hi, .int .i64 b.drink0.lo, .int .i64 b.drink0.hi, .int .i64 b.drink1.lo, .int .i64 b.drink1.hi, .int .i64 b.full.lo, .int .i64 b.full.hi, .int .i64 b.weak.lo, .int .i64 b.weak.hi, .int .i64 b.mark, .int .i64 b.lamp, .slice A7 n c7]⟩ 27 (0, 0))), (bq, oq), (b11, some (.cells ⟨[.int .i64 k0, .int .i64 k1]⟩ 29 (0, 0))), (b10, some (.cells ⟨(bookL b A n cp)⟩ 27 (0, 0)))] [] w _ _ := Sx.front hs48 1 rfl; clear hs48
           refine cd_drawS1 mixed [11] ⟨Unit, fun n_ x_ => match n_ with | 0 => [] | _ => [], fun n_ x_ => match n_ with | 0 => [(b16, some (.cells ⟨[.int .i64 b.coal.lo, .int .i64 b.coal.hi, .int .i64 b.water.lo, .int .i64 b.water.hi, .int .i64 b.bunker, .int .i64 b.tank, .int .i64 b.scoop, .int .i64 b.pail, .int .i64 b.burn0.lo, .int .i64 b.burn0.hi, .int .i64 b.burn1.lo, .int .i64 b.burn1.hi, .int .i64 b.drink0.lo, .int .i64 b.drink0.hi, .int .i64 b.drink1.lo, .int .i64 b.drink1.hi, .int .i64 b.full.lo, .int .i64 b.full.hi, .int .i64 b.weak.lo, .int .i64 b.weak.hi, .int .i64 b.mark, .int .i64 b.lamp, .slice A7 n c7]⟩ 27 (0, 0)))] | _ => [(b16, some (.cells ⟨[.int .i64 b.coal.lo, .int .i64 b.coal.hi, .int .i64 b.water.lo, .int .i64 b.water.hi, .int .i64 (min 99 (b.bunker + y)), .int .i64 b.tank, .int .i64 b.scoop, .int .i64 b.pail, .int .i64 b.burn0.lo, .int .i64 b.burn0.hi, .int .i64 b.burn1.lo, .int .i64 b.burn1.hi, .int .i64 b.drink0.lo, .int .i64 b.drink0.hi, .int .i64 b.drink1.lo, .int .i64 b.drink1.hi, .int .i64 b.full.lo, .int .i64 b.full.hi, .int .i64 b.weak.lo, .int .i64 b.weak.hi, .int .i64 b.mark, .int .i64 b.lamp, .slice A7 n c7]⟩ 27 (0, 0)))]⟩ () hs49 [⟨87, [], Is (.pointer (some ⟨b10, 4, none⟩))⟩,
      ⟨88, [0], Is (.int .i64 b.bunker)⟩,
      ⟨89, [], Is (.int .i64 y)⟩,
      ⟨90, [1, 2], Is (.int .i64 (b.bunker + y))⟩,
      ⟨91, [3], Is (.int .i64 (min 99 (b.bunker + y)))⟩,
      ⟨92, [], Is (.pointer (some ⟨b10, 5, none⟩))⟩,
      ⟨93, [5], Is (.int .i64 b.tank)⟩,
      ⟨94, [], Is (.int .i64 y)⟩,
      ⟨95, [6, 7], Is (.int .i64 (b.tank + y))⟩,
      ⟨96, [8], Is (.int .i64 (min 99 (b.tank + y)))⟩,
      ⟨97, [], Is (.pointer (some ⟨b16, 4, none⟩))⟩,
      ⟨247, [4, 10], Is undef⟩] (by kernel_rfl) (fun n_ _ => by rcases n_ with _ | _ <;> rfl) (by kernel_rfl) ⟨⟨?_, ?_, ?_, ?_, ?_, ?_, ?_, ?_, ?_, ?_, ?_, ?_, trivial⟩, ?_⟩
           · intro T_ B_ a_ w_ K_ hT hB
             intro hf hsD hk
             exact ob rfl rfl (st_field (o' := 4) hsD (Ev.tmp (hT _ (mem_nth (i := 6) rfl))) rfl hf Tryd.runUnderlying27 rfl Tryd.sizeOf3 rfl rfl fun a_1 w_1 h1 => hk _ _ _ _ ⟨rfl, rfl⟩ h1)
           · intro T_ B_ a_ w_ K_ hT hB
             rintro _ _ ⟨rfl, rfl⟩ h87 -
             intro hf hsD hk
             exact ob rfl rfl (st_load1 (o := 0) (off := 4) (v := .int .i64 b.bunker) hsD (Ev.tmp h87) rfl hf Tryd.isAgg3 (hsD.cellsM (hB _ (mem_nth (i := 2) rfl))) rfl fun a_1 w_1 h1 => hk _ _ _ _ ⟨rfl, rfl⟩ h1)
           · intro T_ B_ a_ w_ K_ hT hB
             intro hf hsD hk
             exact ob rfl rfl (st_move hsD (Ev.tmp (hT _ (mem_nth (i := 3) rfl))) rfl hf fun a_1 w_1 h1 => hk _ _ _ _ ⟨rfl, rfl⟩ h1)
           · intro T_ B_ a_ w_ K_ hT hB
             rintro _ _ ⟨rfl, rfl⟩ h88 -
             rintro _ _ ⟨rfl, rfl⟩ h89 -
             intro hf hsD hk
             exact ob rfl rfl (st_add (z := b.bunker + y) hsD (Ev.tmp h88) (Ev.tmp h89) rfl hf rfl (by omega) fun a_1 w_1 h1 => hk _ _ _ _ ⟨rfl, rfl⟩ h1)
           · intro T_ B_ a_ w_ K_ hT hB
             rintro _ _ ⟨rfl, rfl⟩ h90 -
             intro hf hsD hk
             exact ob rfl rfl (st_min hsD (.const _) (Ev.tmp h90) rfl hf fun a_1 w_1 h1 => hk _ _ _ _ ⟨rfl, rfl⟩ h1)
           · intro T_ B_ a_ w_ K_ hT hB
             intro hf hsD hk
             exact ob rfl rfl (st_field (o' := 5) hsD (Ev.tmp (hT _ (mem_nth (i := 6) rfl))) rfl hf Tryd.runUnderlying27 rfl Tryd.sizeOf3 rfl rfl fun a_1 w_1 h1 => hk _ _ _ _ ⟨rfl, rfl⟩ h1)
           · intro T_ B_ a_ w_ K_ hT hB
             rintro _ _ ⟨rfl, rfl⟩ h92 -
             intro hf hsD hk
             exact ob rfl rfl (st_load1 (o := 0) (off := 5) (v := .int .i64 b.tank) hsD (Ev.tmp h92) rfl hf Tryd.isAgg3 (hsD.cellsM (hB _ (mem_nth (i := 2) rfl))) rfl fun a_1 w_1 h1 => hk _ _ _ _ ⟨rfl, rfl⟩ h1)
           · intro T_ B_ a_ w_ K_ hT hB
             intro hf hsD hk
             exact ob rfl rfl (st_move hsD (Ev.tmp (hT _ (mem_nth (i := 3) rfl))) rfl hf fun a_1 w_1 h1 => hk _ _ _ _ ⟨rfl, rfl⟩ h1)
           · intro T_ B_ a_ w_ K_ hT hB
             rintro _ _ ⟨rfl, rfl⟩ h93 -
             rintro _ _ ⟨rfl, rfl⟩ h94 -
             intro hf hsD hk
             exact ob rfl rfl (st_add (z := b.tank + y) hsD (Ev.tmp h93) (Ev.tmp h94) rfl hf rfl (by omega) fun a_1 w_1 h1 => hk _ _ _ _ ⟨rfl, rfl⟩ h1)
           · intro T_ B_ a_ w_ K_ hT hB
             rintro _ _ ⟨rfl, rfl⟩ h95 -
             intro hf hsD hk
             exact ob rfl rfl (st_min hsD (.const _) (Ev.tmp h95) rfl hf fun a_1 w_1 h1 => hk _ _ _ _ ⟨rfl, rfl⟩ h1)
           · intro T_ B_ a_ w_ K_ hT hB
             intro hf hsD hk
             exact ob rfl rfl (st_field (o' := 4) hsD (Ev.tmp (hT _ (mem_nth (i := 4) rfl))) rfl hf Tryd.runUnderlying27 rfl Tryd.sizeOf3 rfl rfl fun a_1 w_1 h1 => hk _ _ _ _ ⟨rfl, rfl⟩ h1)
           · intro T_ B_ a_ w_ K_ x_ hT hB
             rintro _ _ ⟨rfl, rfl⟩ h91 -
             rintro _ _ ⟨rfl, rfl⟩ h97 -
             intro hf hsD hk
             exact ob rfl rfl (st_store (l' := [.int .i64 b.coal.lo, .int .i64 b.coal.hi, .int .i64 b.water.lo, .int .i64 b.water.hi, .int .i64 (min 99 (b.bunker + y)), .int .i64 b.tank, .int .i64 b.scoop, .int .i64 b.pail, .int .i64 b.burn0.lo, .int .i64 b.burn0.hi, .int .i64 b.burn1.lo, .int .i64 b.burn1.hi, .int .i64 b.drink0.lo, .int .i64 b.drink0.hi, .int .i64 b.drink1.lo, .int .i64 b.drink1.hi, .int .i64 b.full.lo, .int .i64 b.full.hi, .int .i64 b.weak.lo, .int .i64 b.weak.hi, .int .i64 b.mark, .int .i64 b.lamp, .slice A7 n c7]) (vs := [.int .i64 (min 99 (b.bunker + y))]) (i := 0) hsD (Ev.tmp (List.mem_append_right _ h97)) (Ev.tmp (List.mem_append_right _ h91)) Tryd.sizeOf3 rfl rfl rfl rfl rfl rfl fun a_1 w_1 h1 => hk x_ _ _ h1)
           rintro _ _ ⟨rfl, rfl⟩
           rintro _ _ ⟨rfl, rfl⟩
           rintro _ _ ⟨rfl, rfl⟩
           rintro _ _ ⟨rfl, rfl⟩
           rintro _ _ ⟨rfl, rfl⟩
           rintro _ _ ⟨rfl, rfl⟩
           rintro _ _ ⟨rfl, rfl⟩
           rintro _ _ ⟨rfl, rfl⟩
           rintro _ _ ⟨rfl, rfl⟩
           rintro _ _ ⟨rfl, rfl⟩
           rintro _ _ ⟨rfl, rfl⟩
           intro _ a_50 w_50 hs50
           clear hs49
           have hs51 := Sx.as (T' := [_, _, _, _, _, _, _, _, _, _, _, _, _, _, _, _, _, _]) (B' := [_, _, _, _]) rfl rfl hs50; clear hs50
           refine sq rfl (st_field (o' := 5) hs51 (Ev.t 15 rfl) rfl rfl Tryd.runUnderlying27 rfl Tryd.sizeOf3 rfl rfl fun _ _ hs52 => ?_); clear hs51
           refine sq rfl (st_store (l' := [.int .i64 b.coal.lo, .int .i64 b.coal.hi, .int .i64 b.water.lo, .int .i64 b.water.hi, .int .i64 (min 99 (b.bunker + y)), .int .i64 (min 99 (b.tank + y)), .int .i64 b.scoop, .int .i64 b.pail, .int .i64 b.burn0.lo, .int .i64 b.burn0.hi, .int .i64 b.burn1.lo, .int .i64 b.burn1.hi, .int .i64 b.drink0.lo, .int .i64 b.drink0.hi, .int .i64 b.drink1.lo, .int .i64 b.drink1.hi, .int .i64 b.full.lo, .int .i64 b.full.hi, .int .i64 b.weak.lo, .int .i64 b.weak.hi, .int .i64 b.mark, .int .i64 b.lamp, .slice A7 n c7]) (vs := [.int .i64 (min 99 (b.tank + y))]) (i := 0) hs52 (Ev.t 0 rfl) (Ev.t 10 rfl) Tryd.sizeOf3 rfl rfl rfl rfl rfl rfl fun _ _ hs53 => ?_); clear hs52
           have hs54 := Sx.as (T' := [_, _, _, _, _, _, _, _, _, _, _, _, _, _, _, _, _, _, _]) (B' := [_, _, _, _]) rfl rfl hs53; clear hs53
           refine wpListIn_nil ?_
           have hs55 := Sx.keepT [16, 17, 18] [_, _, _] ⟨rfl, rfl, rfl, trivial⟩ hs54; clear hs54
           refine in_norm ?_
           refine th_norm ?_
           have hp27 := Sx.front hs55 3 rfl; clear hs55
           have hp28 := Sx.front hp27 3 rfl; clear hp27
           have hp29 := Sx.front hp28 2 rfl; clear hp28
           have hp30 := Sx.front hp29 3 rfl; clear hp29
           refine ⟨({ b with bunker := min 99 (b.bunker + y), tank := min 99 (b.tank + y) } : Book), oq, ?_, ?_, ?_⟩
           · exact easy2 hok hty.1
           · exact hown
           exact Sx.keepE [0, 1, 2] _ ⟨⟨_, rfl, rfl⟩, ⟨_, rfl, rfl⟩, ⟨_, rfl, rfl⟩, trivial⟩ hp30
         · refine cd_region fun K31 hK31 => ?_
           refine sq rfl (st_cmp (c := (z : Int) == 3) hs48 (Ev.t 1 rfl) (.const _) rfl rfl rfl rfl fun _ _ hs49 => ?_); clear hs48
           refine sq rfl (st_assign hs49 (Ev.t 0 rfl) rfl rfl fun _ _ hs50 => ?_); clear hs49
           refine hK31 _ _ ?_; clear hK31
           have hs51 := Sx.keepT [0, 3, 4, 5, 6, 7, 8] [_, _, _, _, _, _, _] ⟨rfl, rfl, rfl, rfl, rfl, rfl, rfl, trivial⟩ hs50; clear hs50
           refine cd_cond hs51 (Ev.t 0 rfl) (fun hc32 => ?_) (fun hc32 => ?_)
           · refine cd_region1 ?_
             refine sq rfl (st_field (o' := 6) hs51 (Ev.t 6 rfl) rfl rfl Tryd.runUnderlying27 rfl Tryd.sizeOf3 rfl rfl fun _ _ hs52 => ?_); clear hs51
             refine sq rfl (st_load1 (o := 0) (off := 6) (v := .int .i64 b.scoop) hs52 (Ev.t 0 rfl) rfl rfl Tryd.isAgg3 (hs52.cells 3 rfl) rfl fun _ _ hs53 => ?_); clear hs52
             refine sq rfl (st_move hs53 (Ev.t 5 rfl) rfl rfl fun _ _ hs54 => ?_); clear hs53
             refine sq rfl (st_add (z := b.scoop + y) hs54 (Ev.t 1 rfl) (Ev.t 0 rfl) rfl rfl rfl (by omega) fun _ _ hs55 => ?_); clear hs54
             refine sq rfl (st_min hs55 (.const _) (Ev.t 0 rfl) rfl rfl fun _ _ hs56 => ?_); clear hs55
             refine sq rfl (st_field (o' := 6) hs56 (Ev.t 9 rfl) rfl rfl Tryd.runUnderlying27 rfl Tryd.sizeOf3 rfl rfl fun _ _ hs57 => ?_); clear hs56
             refine sq rfl (st_store (l' := [.int .i64 b.coal.lo, .int .i64 b.coal.hi, .int .i64 b.water.lo, .int .i64 b.water.hi, .int .i64 b.bunker, .int .i64 b.tank, .int .i64 (min 20 (b.scoop + y)), .int .i64 b.pail, .int .i64 b.burn0.lo, .int .i64 b.burn0.hi, .int .i64 b.burn1.lo, .int .i64 b.burn1.hi, .int .i64 b.drink0.lo, .int .i64 b.drink0.hi, .int .i64 b.drink1.lo, .int .i64 b.drink1.hi, .int .i64 b.full.lo, .int .i64 b.full.hi, .int .i64 b.weak.lo, .int .i64 b.weak.hi, .int .i64 b.mark, .int .i64 b.lamp, .slice A7 n c7]) (vs := [.int .i64 (min 20 (b.scoop + y))]) (i := 1) hs57 (Ev.t 0 rfl) (Ev.t 1 rfl) Tryd.sizeOf3 rfl rfl rfl rfl rfl rfl fun _ _ hs58 => ?_); clear hs57
             have hs59 := Sx.as (T' := [_, _, _, _, _, _, _, _, _, _, _, _, _]) (B' := [_, _, _, _]) rfl rfl hs58; clear hs58
             refine wpListIn_nil ?_
             have hs60 := Sx.keepT [10, 11, 12] [_, _, _] ⟨rfl, rfl, rfl, trivial⟩ hs59; clear hs59
             refine in_norm ?_
             refine th_norm ?_
             refine ⟨({ b with scoop := min 20 (b.scoop + y) } : Book), oq, ?_, ?_, ?_⟩
             · exact easy3 hok hty.1
             · exact hown
             exact Sx.keepE [0, 1, 2] _ ⟨⟨_, rfl, rfl⟩, ⟨_, rfl, rfl⟩, ⟨_, rfl, rfl⟩, trivial⟩ hs60
           · refine cd_region fun K33 hK33 => ?_
             refine sq rfl (st_cmp (c := (z : Int) == 4) hs51 (Ev.t 1 rfl) (.const _) rfl rfl rfl rfl fun _ _ hs52 => ?_); clear hs51
             refine sq rfl (st_assign hs52 (Ev.t 0 rfl) rfl rfl fun _ _ hs53 => ?_); clear hs52
             refine hK33 _ _ ?_; clear hK33
             have hs54 := Sx.keepT [0, 3, 4, 5, 6, 7, 8] [_, _, _, _, _, _, _] ⟨rfl, rfl, rfl, rfl, rfl, rfl, rfl, trivial⟩ hs53; clear hs53
             refine cd_cond hs54 (Ev.t 0 rfl) (fun hc34 => ?_) (fun hc34 => ?_)
             · refine cd_region1 ?_
               refine sq rfl (st_field (o' := 7) hs54 (Ev.t 6 rfl) rfl rfl Tryd.runUnderlying27 rfl Tryd.sizeOf3 rfl rfl fun _ _ hs55 => ?_); clear hs54
               refine sq rfl (st_load1 (o := 0) (off := 7) (v := .int .i64 b.pail) hs55 (Ev.t 0 rfl) rfl rfl Tryd.isAgg3 (hs55.cells 3 rfl) rfl fun _ _ hs56 => ?_); clear hs55
               refine sq rfl (st_move hs56 (Ev.t 5 rfl) rfl rfl fun _ _ hs57 => ?_); clear hs56
               refine sq rfl (st_add (z := b.pail + y) hs57 (Ev.t 1 rfl) (Ev.t 0 rfl) rfl rfl rfl (by omega) fun _ _ hs58 => ?_); clear hs57
               refine sq rfl (st_min hs58 (.const _) (Ev.t 0 rfl) rfl rfl fun _ _ hs59 => ?_); clear hs58
               refine sq rfl (st_field (o' := 7) hs59 (Ev.t 9 rfl) rfl rfl Tryd.runUnderlying27 rfl Tryd.sizeOf3 rfl rfl fun _ _ hs60 => ?_); clear hs59
               refine sq rfl (st_store (l' := [.int .i64 b.coal.lo, .int .i64 b.coal.hi, .int .i64 b.water.lo, .int .i64 b.water.hi, .int .i64 b.bunker, .int .i64 b.tank, .int .i64 b.scoop, .int .i64 (min 20 (b.pail + y)), .int .i64 b.burn0.lo, .int .i64 b.burn0.hi, .int .i64 b.burn1.lo, .int .i64 b.burn1.hi, .int .i64 b.drink0.lo, .int .i64 b.drink0.hi, .int .i64 b.drink1.lo, .int .i64 b.drink1.hi, .int .i64 b.full.lo, .int .i64 b.full.hi, .int .i64 b.weak.lo, .int .i64 b.weak.hi, .int .i64 b.mark, .int .i64 b.lamp, .slice A7 n c7]) (vs := [.int .i64 (min 20 (b.pail + y))]) (i := 1) hs60 (Ev.t 0 rfl) (Ev.t 1 rfl) Tryd.sizeOf3 rfl rfl rfl rfl rfl rfl fun _ _ hs61 => ?_); clear hs60
               have hs62 := Sx.as (T' := [_, _, _, _, _, _, _, _, _, _, _, _, _]) (B' := [_, _, _, _]) rfl rfl hs61; clear hs61
               refine wpListIn_nil ?_
               have hs63 := Sx.keepT [10, 11, 12] [_, _, _] ⟨rfl, rfl, rfl, trivial⟩ hs62; clear hs62
               refine in_norm ?_
               refine th_norm ?_
               refine ⟨({ b with pail := min 20 (b.pail + y) } : Book), oq, ?_, ?_, ?_⟩
               · exact easy4 hok hty.1
               · exact hown
               exact Sx.keepE [0, 1, 2] _ ⟨⟨_, rfl, rfl⟩, ⟨_, rfl, rfl⟩, ⟨_, rfl, rfl⟩, trivial⟩ hs63
             · refine cd_region fun K35 hK35 => ?_
               refine sq rfl (st_cmp (c := (z : Int) == 5) hs54 (Ev.t 1 rfl) (.const _) rfl rfl rfl rfl fun _ _ hs55 => ?_); clear hs54
               refine sq rfl (st_assign hs55 (Ev.t 0 rfl) rfl rfl fun _ _ hs56 => ?_); clear hs55
               refine hK35 _ _ ?_; clear hK35
               have hs57 := Sx.keepT [0, 3, 4, 5, 6, 7, 8] [_, _, _, _, _, _, _] ⟨rfl, rfl, rfl, rfl, rfl, rfl, rfl, trivial⟩ hs56; clear hs56
               refine cd_cond hs57 (Ev.t 0 rfl) (fun hc36 => ?_) (fun hc36 => ?_)
               · obtain ⟨hAo, lo9, hoo, hro⟩ := hown.open hx
                 refine cd_drawn1 mixed hs57 [⟨117, [], Is (.pointer (some ⟨b16, 22, none⟩))⟩,
      ⟨118, [0], Is (.slice A7 n c7)⟩,
      ⟨119, [], Is (.int .i64 (q : Int))⟩,
      ⟨120, [], Is (.pointer (some ⟨b10, 22, none⟩))⟩,
      ⟨121, [3], Is (.slice A n cp)⟩,
      ⟨122, [], Is (.int .i64 (q : Int))⟩,
      ⟨123, [4, 5], Is (.pointer (some ⟨b8, o8 + q * 4, none⟩))⟩,
      ⟨124, [6], Is (.pointer (some ⟨b8, o8 + q * 4 + 3, none⟩))⟩,
      ⟨125, [7], Is (.int .i64 x.walks)⟩,
      ⟨126, [], Is (.int .i64 y)⟩,
      ⟨127, [8, 9], Is (.int .i64 (x.walks + y))⟩,
      ⟨128, [10], Is (.int .i64 (min 5 (x.walks + y)))⟩] (by kernel_rfl) (by kernel_rfl) ⟨⟨?_, ?_, ?_, ?_, ?_, ?_, ?_, ?_, ?_, ?_, ?_, ?_, trivial⟩, ?_⟩
                 · intro T_ B_ a_ w_ K_ hT hB
                   intro hf hsD hk
                   exact ob rfl rfl (st_field (o' := 22) hsD (Ev.tmp (hT _ (mem_nth (i := 4) rfl))) rfl hf Tryd.runUnderlying27 rfl Tryd.sizeOf25 rfl rfl fun a_1 w_1 h1 => hk _ _ _ _ ⟨rfl, rfl⟩ h1)
                 · intro T_ B_ a_ w_ K_ hT hB
                   rintro _ _ ⟨rfl, rfl⟩ h117 -
                   intro hf hsD hk
                   exact ob rfl rfl (st_load1 (o := 0) (off := 22) (v := .slice A7 n c7) hsD (Ev.tmp h117) rfl hf Tryd.isAgg25 (hsD.cellsM (hB _ (mem_nth (i := 1) rfl))) rfl fun a_1 w_1 h1 => hk _ _ _ _ ⟨rfl, rfl⟩ h1)
                 · intro T_ B_ a_ w_ K_ hT hB
                   intro hf hsD hk
                   exact ob rfl rfl (st_move hsD (Ev.tmp (hT _ (mem_nth (i := 2) rfl))) rfl hf fun a_1 w_1 h1 => hk _ _ _ _ ⟨rfl, rfl⟩ h1)
                 · intro T_ B_ a_ w_ K_ hT hB
                   intro hf hsD hk
                   exact ob rfl rfl (st_field (o' := 22) hsD (Ev.tmp (hT _ (mem_nth (i := 6) rfl))) rfl hf Tryd.runUnderlying27 rfl Tryd.sizeOf25 rfl rfl fun a_1 w_1 h1 => hk _ _ _ _ ⟨rfl, rfl⟩ h1)
                 · intro T_ B_ a_ w_ K_ hT hB
                   rintro _ _ ⟨rfl, rfl⟩ h120 -
                   intro hf hsD hk
                   exact ob rfl rfl (st_load1 (o := 0) (off := 22) (v := .slice A n cp) hsD (Ev.tmp h120) rfl hf Tryd.isAgg25 (hsD.cellsM (hB _ (mem_nth (i := 3) rfl))) rfl fun a_1 w_1 h1 => hk _ _ _ _ ⟨rfl, rfl⟩ h1)
                 · intro T_ B_ a_ w_ K_ hT hB
                   intro hf hsD hk
                   exact ob rfl rfl (st_move hsD (Ev.tmp (hT _ (mem_nth (i := 2) rfl))) rfl hf fun a_1 w_1 h1 => hk _ _ _ _ ⟨rfl, rfl⟩ h1)
                 · intro T_ B_ a_ w_ K_ hT hB
                   rintro _ _ ⟨rfl, rfl⟩ h121 -
                   rintro _ _ ⟨rfl, rfl⟩ h122 -
                   intro hf hsD hk
                   exact ob rfl rfl (st_indexM (o' := o8 + q * 4) hsD (Ev.tmp h121) (Ev.tmp h122) rfl hf hA8 Tryd.runUnderlying25 Tryd.sizeOf66 ⟨by omega, by have := hP.len; have := (List.getElem?_eq_some_iff.1 hx).1; omega⟩ rfl fun a_1 w_1 h1 => hk _ _ _ _ ⟨rfl, rfl⟩ h1)
                 · intro T_ B_ a_ w_ K_ hT hB
                   rintro _ _ ⟨rfl, rfl⟩ h123 -
                   intro hf hsD hk
                   exact ob rfl rfl (st_field (o' := o8 + q * 4 + 3) hsD (Ev.tmp h123) rfl hf Tryd.runUnderlying66 rfl Tryd.sizeOf3 rfl rfl fun a_1 w_1 h1 => hk _ _ _ _ ⟨rfl, rfl⟩ h1)
                 · intro T_ B_ a_ w_ K_ hT hB
                   rintro _ _ ⟨rfl, rfl⟩ h124 -
                   intro hf hsD hk
                   exact ob rfl rfl (st_load1 (o := o8 + q * 4) (off := 3) (v := .int .i64 x.walks) hsD (Ev.tmp h124) rfl hf Tryd.isAgg3 (hsD.old hc8 (by simp)) rfl fun a_1 w_1 h1 => hk _ _ _ _ ⟨rfl, rfl⟩ h1)
                 · intro T_ B_ a_ w_ K_ hT hB
                   intro hf hsD hk
                   exact ob rfl rfl (st_move hsD (Ev.tmp (hT _ (mem_nth (i := 3) rfl))) rfl hf fun a_1 w_1 h1 => hk _ _ _ _ ⟨rfl, rfl⟩ h1)
                 · intro T_ B_ a_ w_ K_ hT hB
                   rintro _ _ ⟨rfl, rfl⟩ h125 -
                   rintro _ _ ⟨rfl, rfl⟩ h126 -
                   intro hf hsD hk
                   exact ob rfl rfl (st_add (z := x.walks + y) hsD (Ev.tmp h125) (Ev.tmp h126) rfl hf rfl (by omega) fun a_1 w_1 h1 => hk _ _ _ _ ⟨rfl, rfl⟩ h1)
                 · intro T_ B_ a_ w_ K_ hT hB
                   rintro _ _ ⟨rfl, rfl⟩ h127 -
                   intro hf hsD hk
                   exact ob rfl rfl (st_min hsD (.const _) (Ev.tmp h127) rfl hf fun a_1 w_1 h1 => hk _ _ _ _ ⟨rfl, rfl⟩ h1)
                 rintro _ _ ⟨rfl, rfl⟩
                 rintro _ _ ⟨rfl, rfl⟩
                 rintro _ _ ⟨rfl, rfl⟩
                 rintro _ _ ⟨rfl, rfl⟩
                 rintro _ _ ⟨rfl, rfl⟩
                 rintro _ _ ⟨rfl, rfl⟩
                 rintro _ _ ⟨rfl, rfl⟩
                 rintro _ _ ⟨rfl, rfl⟩
                 rintro _ _ ⟨rfl, rfl⟩
                 rintro _ _ ⟨rfl, rfl⟩
                 rintro _ _ ⟨rfl, rfl⟩
                 rintro _ _ ⟨rfl, rfl⟩
                 intro a_58 w_58 hs58
                 clear hs57
                 have hs59 := Sx.as (T' := [_, _, _, _, _, _, _, _, _, _, _, _, _, _, _, _, _, _, _]) (B' := [_, _, _, _]) rfl rfl hs58; clear hs58
                 refine sq rfl (st_indexM (o' := q * 4) hs59 (Ev.t 1 rfl) (Ev.t 2 rfl) rfl rfl hAo Tryd.runUnderlying25 Tryd.sizeOf66 ⟨by omega, by have := (List.getElem?_eq_some_iff.1 hx).1; omega⟩ (by simp) fun _ _ hs60 => ?_); clear hs59
                 refine sq rfl (st_field (o' := q * 4 + 3) hs60 (Ev.t 0 rfl) rfl rfl Tryd.runUnderlying66 rfl Tryd.sizeOf3 rfl rfl fun _ _ hs61 => ?_); clear hs60
                 refine sq rfl (st_storeOwn (enc := partL) (sz := 4) (off := 3) (kk := q) (i := 0) (u := x) (u' := (Part.mk x.mi x.light (min 5 (x.walks + y)))) hs61 (Ev.t 0 rfl) (Ev.t 13 rfl) Tryd.sizeOf3 rfl hown hx (fun _ => rfl) (by decide) rfl rfl rfl (fun o8 _ _ hown8 hs62 => ?_)); clear hs61
                 have hs63 := Sx.as (T' := [_, _, _, _, _, _, _, _, _, _, _, _, _, _, _, _, _, _, _, _, _]) (B' := [_, _, _, _]) rfl rfl hs62; clear hs62
                 refine wpListIn_nil ?_
                 have hs64 := Sx.keepT [18, 19, 20] [_, _, _] ⟨rfl, rfl, rfl, trivial⟩ hs63; clear hs63
                 refine in_norm ?_
                 refine th_norm ?_
                 refine ⟨({ b with parts := b.parts.set q (Part.mk x.mi x.light (min 5 (x.walks + y))) } : Book), o8, ?_, ?_, ?_⟩
                 · exact easy5 hok hty.1 hx
                 · exact hown8
                 exact Sx.keepE [0, 1, 2] _ ⟨⟨_, rfl, rfl⟩, ⟨_, rfl, rfl⟩, ⟨_, rfl, rfl⟩, trivial⟩ hs64
               · refine cd_region fun K37 hK37 => ?_
                 refine sq rfl (st_cmp (c := (z : Int) == 6) hs57 (Ev.t 1 rfl) (.const _) rfl rfl rfl rfl fun _ _ hs58 => ?_); clear hs57
                 refine sq rfl (st_assign hs58 (Ev.t 0 rfl) rfl rfl fun _ _ hs59 => ?_); clear hs58
                 refine hK37 _ _ ?_; clear hK37
                 have hs60 := Sx.keepT [0, 3, 4, 5, 6, 7, 8] [_, _, _, _, _, _, _] ⟨rfl, rfl, rfl, rfl, rfl, rfl, rfl, trivial⟩ hs59; clear hs59
                 refine cd_cond hs60 (Ev.t 0 rfl) (fun hc38 => ?_) (fun hc38 => ?_)
                 · obtain ⟨hAo, lo9, hoo, hro⟩ := hown.open hx
                   refine cd_drawn1 mixed hs60 [⟨133, [], Is (.pointer (some ⟨b16, 22, none⟩))⟩,
      ⟨134, [0], Is (.slice A7 n c7)⟩,
      ⟨135, [], Is (.int .i64 (q : Int))⟩,
      ⟨136, [], Is (.pointer (some ⟨b10, 22, none⟩))⟩,
      ⟨137, [3], Is (.slice A n cp)⟩,
      ⟨138, [], Is (.int .i64 (q : Int))⟩,
      ⟨139, [4, 5], Is (.pointer (some ⟨b8, o8 + q * 4, none⟩))⟩,
      ⟨140, [6], Is (.pointer (some ⟨b8, o8 + q * 4, none⟩))⟩,
      ⟨141, [7], Is (.pointer (some ⟨b8, o8 + q * 4, none⟩))⟩,
      ⟨142, [8], Is (.int .i64 x.mi.lo)⟩,
      ⟨143, [], Is (.pointer (some ⟨b10, 22, none⟩))⟩,
      ⟨144, [10], Is (.slice A n cp)⟩,
      ⟨145, [], Is (.int .i64 (q : Int))⟩,
      ⟨146, [11, 12], Is (.pointer (some ⟨b8, o8 + q * 4, none⟩))⟩,
      ⟨147, [13], Is (.pointer (some ⟨b8, o8 + q * 4, none⟩))⟩,
      ⟨148, [14], Is (.pointer (some ⟨b8, o8 + q * 4 + 1, none⟩))⟩,
      ⟨149, [15], Is (.int .i64 x.mi.hi)⟩,
      ⟨150, [], Is (.int .i64 y)⟩,
      ⟨151, [16, 17], Is (.int .i64 (x.mi.hi - y))⟩,
      ⟨152, [9, 18], Is (.int .i64 (max x.mi.lo (x.mi.hi - y)))⟩] (by kernel_rfl) (by kernel_rfl) ⟨⟨?_, ?_, ?_, ?_, ?_, ?_, ?_, ?_, ?_, ?_, ?_, ?_, ?_, ?_, ?_, ?_, ?_, ?_, ?_, ?_, trivial⟩, ?_⟩
                   · intro T_ B_ a_ w_ K_ hT hB
                     intro hf hsD hk
                     exact ob rfl rfl (st_field (o' := 22) hsD (Ev.tmp (hT _ (mem_nth (i := 4) rfl))) rfl hf Tryd.runUnderlying27 rfl Tryd.sizeOf25 rfl rfl fun a_1 w_1 h1 => hk _ _ _ _ ⟨rfl, rfl⟩ h1)
                   · intro T_ B_ a_ w_ K_ hT hB
                     rintro _ _ ⟨rfl, rfl⟩ h133 -
                     intro hf hsD hk
                     exact ob rfl rfl (st_load1 (o := 0) (off := 22) (v := .slice A7 n c7) hsD (Ev.tmp h133) rfl hf Tryd.isAgg25 (hsD.cellsM (hB _ (mem_nth (i := 1) rfl))) rfl fun a_1 w_1 h1 => hk _ _ _ _ ⟨rfl, rfl⟩ h1)
                   · intro T_ B_ a_ w_ K_ hT hB
                     intro hf hsD hk
                     exact ob rfl rfl (st_move hsD (Ev.tmp (hT _ (mem_nth (i := 2) rfl))) rfl hf fun a_1 w_1 h1 => hk _ _ _ _ ⟨rfl, rfl⟩ h1)
                   · intro T_ B_ a_ w_ K_ hT hB
                     intro hf hsD hk
                     exact ob rfl rfl (st_field (o' := 22) hsD (Ev.tmp (hT _ (mem_nth (i := 6) rfl))) rfl hf Tryd.runUnderlying27 rfl Tryd.sizeOf25 rfl rfl fun a_1 w_1 h1 => hk _ _ _ _ ⟨rfl, rfl⟩ h1)
                   · intro T_ B_ a_ w_ K_ hT hB
                     rintro _ _ ⟨rfl, rfl⟩ h136 -
                     intro hf hsD hk
                     exact ob rfl rfl (st_load1 (o := 0) (off := 22) (v := .slice A n cp) hsD (Ev.tmp h136) rfl hf Tryd.isAgg25 (hsD.cellsM (hB _ (mem_nth (i := 3) rfl))) rfl fun a_1 w_1 h1 => hk _ _ _ _ ⟨rfl, rfl⟩ h1)
                   · intro T_ B_ a_ w_ K_ hT hB
                     intro hf hsD hk
                     exact ob rfl rfl (st_move hsD (Ev.tmp (hT _ (mem_nth (i := 2) rfl))) rfl hf fun a_1 w_1 h1 => hk _ _ _ _ ⟨rfl, rfl⟩ h1)
                   · intro T_ B_ a_ w_ K_ hT hB
                     rintro _ _ ⟨rfl, rfl⟩ h137 -
                     rintro _ _ ⟨rfl, rfl⟩ h138 -
                     intro hf hsD hk
                     exact ob rfl rfl (st_indexM (o' := o8 + q * 4) hsD (Ev.tmp h137) (Ev.tmp h138) rfl hf hA8 Tryd.runUnderlying25 Tryd.sizeOf66 ⟨by omega, by have := hP.len; have := (List.getElem?_eq_some_iff.1 hx).1; omega⟩ rfl fun a_1 w_1 h1 => hk _ _ _ _ ⟨rfl, rfl⟩ h1)
                   · intro T_ B_ a_ w_ K_ hT hB
                     rintro _ _ ⟨rfl, rfl⟩ h139 -
                     intro hf hsD hk
                     exact ob rfl rfl (st_field (o' := o8 + q * 4) hsD (Ev.tmp h139) rfl hf Tryd.runUnderlying66 rfl Tryd.sizeOf23 rfl rfl fun a_1 w_1 h1 => hk _ _ _ _ ⟨rfl, rfl⟩ h1)
                   · intro T_ B_ a_ w_ K_ hT hB
                     rintro _ _ ⟨rfl, rfl⟩ h140 -
                     intro hf hsD hk
                     exact ob rfl rfl (st_field (o' := o8 + q * 4) hsD (Ev.tmp h140) rfl hf Tryd.runUnderlying23 rfl Tryd.sizeOf3 rfl rfl fun a_1 w_1 h1 => hk _ _ _ _ ⟨rfl, rfl⟩ h1)
                   · intro T_ B_ a_ w_ K_ hT hB
                     rintro _ _ ⟨rfl, rfl⟩ h141 -
                     intro hf hsD hk
                     exact ob rfl rfl (st_load1 (o := o8 + q * 4) (off := 0) (v := .int .i64 x.mi.lo) hsD (Ev.tmp h141) rfl hf Tryd.isAgg3 (hsD.old hc8 (by simp)) rfl fun a_1 w_1 h1 => hk _ _ _ _ ⟨rfl, rfl⟩ h1)
                   · intro T_ B_ a_ w_ K_ hT hB
                     intro hf hsD hk
                     exact ob rfl rfl (st_field (o' := 22) hsD (Ev.tmp (hT _ (mem_nth (i := 6) rfl))) rfl hf Tryd.runUnderlying27 rfl Tryd.sizeOf25 rfl rfl fun a_1 w_1 h1 => hk _ _ _ _ ⟨rfl, rfl⟩ h1)
                   · intro T_ B_ a_ w_ K_ hT hB
                     rintro _ _ ⟨rfl, rfl⟩ h143 -
                     intro hf hsD hk
                     exact ob rfl rfl (st_load1 (o := 0) (off := 22) (v := .slice A n cp) hsD (Ev.tmp h143) rfl hf Tryd.isAgg25 (hsD.cellsM (hB _ (mem_nth (i := 3) rfl))) rfl fun a_1 w_1 h1 => hk _ _ _ _ ⟨rfl, rfl⟩ h1)
                   · intro T_ B_ a_ w_ K_ hT hB
                     intro hf hsD hk
                     exact ob rfl rfl (st_move hsD (Ev.tmp (hT _ (mem_nth (i := 2) rfl))) rfl hf fun a_1 w_1 h1 => hk _ _ _ _ ⟨rfl, rfl⟩ h1)
                   · intro T_ B_ a_ w_ K_ hT hB
                     rintro _ _ ⟨rfl, rfl⟩ h144 -
                     rintro _ _ ⟨rfl, rfl⟩ h145 -
                     intro hf hsD hk
                     exact ob rfl rfl (st_indexM (o' := o8 + q * 4) hsD (Ev.tmp h144) (Ev.tmp h145) rfl hf hA8 Tryd.runUnderlying25 Tryd.sizeOf66 ⟨by omega, by have := hP.len; have := (List.getElem?_eq_some_iff.1 hx).1; omega⟩ rfl fun a_1 w_1 h1 => hk _ _ _ _ ⟨rfl, rfl⟩ h1)
                   · intro T_ B_ a_ w_ K_ hT hB
                     rintro _ _ ⟨rfl, rfl⟩ h146 -
                     intro hf hsD hk
                     exact ob rfl rfl (st_field (o' := o8 + q * 4) hsD (Ev.tmp h146) rfl hf Tryd.runUnderlying66 rfl Tryd.sizeOf23 rfl rfl fun a_1 w_1 h1 => hk _ _ _ _ ⟨rfl, rfl⟩ h1)
                   · intro T_ B_ a_ w_ K_ hT hB
                     rintro _ _ ⟨rfl, rfl⟩ h147 -
                     intro hf hsD hk
                     exact ob rfl rfl (st_field (o' := o8 + q * 4 + 1) hsD (Ev.tmp h147) rfl hf Tryd.runUnderlying23 rfl Tryd.sizeOf3 rfl rfl fun a_1 w_1 h1 => hk _ _ _ _ ⟨rfl, rfl⟩ h1)
                   · intro T_ B_ a_ w_ K_ hT hB
                     rintro _ _ ⟨rfl, rfl⟩ h148 -
                     intro hf hsD hk
                     exact ob rfl rfl (st_load1 (o := o8 + q * 4) (off := 1) (v := .int .i64 x.mi.hi) hsD (Ev.tmp h148) rfl hf Tryd.isAgg3 (hsD.old hc8 (by simp)) rfl fun a_1 w_1 h1 => hk _ _ _ _ ⟨rfl, rfl⟩ h1)
                   · intro T_ B_ a_ w_ K_ hT hB
                     intro hf hsD hk
                     exact ob rfl rfl (st_move hsD (Ev.tmp (hT _ (mem_nth (i := 3) rfl))) rfl hf fun a_1 w_1 h1 => hk _ _ _ _ ⟨rfl, rfl⟩ h1)
                   · intro T_ B_ a_ w_ K_ hT hB
                     rintro _ _ ⟨rfl, rfl⟩ h149 -
                     rintro _ _ ⟨rfl, rfl⟩ h150 -
                     intro hf hsD hk
                     exact ob rfl rfl (st_sub (z := x.mi.hi - y) hsD (Ev.tmp h149) (Ev.tmp h150) rfl hf rfl (by omega) fun a_1 w_1 h1 => hk _ _ _ _ ⟨rfl, rfl⟩ h1)
                   · intro T_ B_ a_ w_ K_ hT hB
                     rintro _ _ ⟨rfl, rfl⟩ h142 -
                     rintro _ _ ⟨rfl, rfl⟩ h151 -
                     intro hf hsD hk
                     exact ob rfl rfl (st_max hsD (Ev.tmp h142) (Ev.tmp h151) rfl hf fun a_1 w_1 h1 => hk _ _ _ _ ⟨rfl, rfl⟩ h1)
                   rintro _ _ ⟨rfl, rfl⟩
                   rintro _ _ ⟨rfl, rfl⟩
                   rintro _ _ ⟨rfl, rfl⟩
                   rintro _ _ ⟨rfl, rfl⟩
                   rintro _ _ ⟨rfl, rfl⟩
                   rintro _ _ ⟨rfl, rfl⟩
                   rintro _ _ ⟨rfl, rfl⟩
                   rintro _ _ ⟨rfl, rfl⟩
                   rintro _ _ ⟨rfl, rfl⟩
                   rintro _ _ ⟨rfl, rfl⟩
                   rintro _ _ ⟨rfl, rfl⟩
                   rintro _ _ ⟨rfl, rfl⟩
                   rintro _ _ ⟨rfl, rfl⟩
                   rintro _ _ ⟨rfl, rfl⟩
                   rintro _ _ ⟨rfl, rfl⟩
                   rintro _ _ ⟨rfl, rfl⟩
                   rintro _ _ ⟨rfl, rfl⟩
                   rintro _ _ ⟨rfl, rfl⟩
                   rintro _ _ ⟨rfl, rfl⟩
                   rintro _ _ ⟨rfl, rfl⟩
                   intro a_61 w_61 hs61
                   clear hs60
                   have hs62 := Sx.as (T' := [_, _, _, _, _, _, _, _, _, _, _, _, _, _, _, _, _, _, _, _, _, _, _, _, _, _, _]) (B' := [_, _, _, _]) rfl rfl hs61; clear hs61
                   refine sq rfl (st_indexM (o' := q * 4) hs62 (Ev.t 1 rfl) (Ev.t 2 rfl) rfl rfl hAo Tryd.runUnderlying25 Tryd.sizeOf66 ⟨by omega, by have := (List.getElem?_eq_some_iff.1 hx).1; omega⟩ (by simp) fun _ _ hs63 => ?_); clear hs62
                   refine sq rfl (st_field (o' := q * 4) hs63 (Ev.t 0 rfl) rfl rfl Tryd.runUnderlying66 rfl Tryd.sizeOf23 rfl rfl fun _ _ hs64 => ?_); clear hs63
                   refine sq rfl (st_field (o' := q * 4 + 1) hs64 (Ev.t 0 rfl) rfl rfl Tryd.runUnderlying23 rfl Tryd.sizeOf3 rfl rfl fun _ _ hs65 => ?_); clear hs64
                   refine sq rfl (st_storeOwn (enc := partL) (sz := 4) (off := 1) (kk := q) (i := 0) (u := x) (u' := (x.upto (max x.mi.lo (x.mi.hi - y)))) hs65 (Ev.t 0 rfl) (Ev.t 22 rfl) Tryd.sizeOf3 rfl hown hx (fun _ => rfl) (by decide) rfl rfl rfl (fun o8 _ _ hown8 hs66 => ?_)); clear hs65
                   have hs67 := Sx.as (T' := [_, _, _, _, _, _, _, _, _, _, _, _, _, _, _, _, _, _, _, _, _, _, _, _, _, _, _, _, _, _]) (B' := [_, _, _, _]) rfl rfl hs66; clear hs66
                   refine wpListIn_nil ?_
                   have hs68 := Sx.keepT [27, 28, 29] [_, _, _] ⟨rfl, rfl, rfl, trivial⟩ hs67; clear hs67
                   refine in_norm ?_
                   refine th_norm ?_
                   refine ⟨({ b with parts := b.parts.set q (x.upto (max x.mi.lo (x.mi.hi - y))) } : Book), o8, ?_, ?_, ?_⟩
                   · exact easy6 hok hty.1 hx
                   · exact hown8
                   exact Sx.keepE [0, 1, 2] _ ⟨⟨_, rfl, rfl⟩, ⟨_, rfl, rfl⟩, ⟨_, rfl, rfl⟩, trivial⟩ hs68
                 · refine cd_region fun K39 hK39 => ?_
                   refine sq rfl (st_cmp (c := (z : Int) == 7) hs60 (Ev.t 1 rfl) (.const _) rfl rfl rfl rfl fun _ _ hs61 => ?_); clear hs60
                   refine sq rfl (st_assign hs61 (Ev.t 0 rfl) rfl rfl fun _ _ hs62 => ?_); clear hs61
                   refine hK39 _ _ ?_; clear hK39
                   have hs63 := Sx.keepT [0, 3, 5, 6, 7, 8] [_, _, _, _, _, _] ⟨rfl, rfl, rfl, rfl, rfl, rfl, trivial⟩ hs62; clear hs62
                   refine cd_cond hs63 (Ev.t 0 rfl) (fun hc40 => ?_) (fun hc40 => ?_)
                   · refine cd_region1 ?_
                     refine sq rfl (st_field (o' := 21) hs63 (Ev.t 5 rfl) rfl rfl Tryd.runUnderlying27 rfl Tryd.sizeOf3 rfl rfl fun _ _ hs64 => ?_); clear hs63
                     refine sq rfl (st_load1 (o := 0) (off := 21) (v := .int .i64 b.lamp) hs64 (Ev.t 0 rfl) rfl rfl Tryd.isAgg3 (hs64.cells 3 rfl) rfl fun _ _ hs65 => ?_); clear hs64
                     refine sq rfl (st_move hs65 (Ev.t 4 rfl) rfl rfl fun _ _ hs66 => ?_); clear hs65
                     refine sq rfl (st_sub (z := b.lamp - y) hs66 (Ev.t 1 rfl) (Ev.t 0 rfl) rfl rfl rfl (by omega) fun _ _ hs67 => ?_); clear hs66
                     refine sq rfl (st_max hs67 (.const _) (Ev.t 0 rfl) rfl rfl fun _ _ hs68 => ?_); clear hs67
                     refine sq rfl (st_field (o' := 21) hs68 (Ev.t 8 rfl) rfl rfl Tryd.runUnderlying27 rfl Tryd.sizeOf3 rfl rfl fun _ _ hs69 => ?_); clear hs68
                     refine sq rfl (st_store (l' := [.int .i64 b.coal.lo, .int .i64 b.coal.hi, .int .i64 b.water.lo, .int .i64 b.water.hi, .int .i64 b.bunker, .int .i64 b.tank, .int .i64 b.scoop, .int .i64 b.pail, .int .i64 b.burn0.lo, .int .i64 b.burn0.hi, .int .i64 b.burn1.lo, .int .i64 b.burn1.hi, .int .i64 b.drink0.lo, .int .i64 b.drink0.hi, .int .i64 b.drink1.lo, .int .i64 b.drink1.hi, .int .i64 b.full.lo, .int .i64 b.full.hi, .int .i64 b.weak.lo, .int .i64 b.weak.hi, .int .i64 b.mark, .int .i64 (max 0 (b.lamp - y)), .slice A7 n c7]) (vs := [.int .i64 (max 0 (b.lamp - y))]) (i := 1) hs69 (Ev.t 0 rfl) (Ev.t 1 rfl) Tryd.sizeOf3 rfl rfl rfl rfl rfl rfl fun _ _ hs70 => ?_); clear hs69
                     have hs71 := Sx.as (T' := [_, _, _, _, _, _, _, _, _, _, _, _]) (B' := [_, _, _, _]) rfl rfl hs70; clear hs70
                     refine wpListIn_nil ?_
                     have hs72 := Sx.keepT [9, 10, 11] [_, _, _] ⟨rfl, rfl, rfl, trivial⟩ hs71; clear hs71
                     refine in_norm ?_
                     refine th_norm ?_
                     refine ⟨({ b with lamp := max 0 (b.lamp - y) } : Book), oq, ?_, ?_, ?_⟩
                     · exact easy7 hok hty.1
                     · exact hown
                     exact Sx.keepE [0, 1, 2] _ ⟨⟨_, rfl, rfl⟩, ⟨_, rfl, rfl⟩, ⟨_, rfl, rfl⟩, trivial⟩ hs72
                   · refine cd_region fun K41 hK41 => ?_
                     refine sq rfl (st_cmp (c := (z : Int) == 8) hs63 (Ev.t 1 rfl) (.const _) rfl rfl rfl rfl fun _ _ hs64 => ?_); clear hs63
                     refine sq rfl (st_assign hs64 (Ev.t 0 rfl) rfl rfl fun _ _ hs65 => ?_); clear hs64
                     refine hK41 _ _ ?_; clear hK41
                     have hs66 := Sx.keepT [0, 4, 5, 6, 7] [_, _, _, _, _] ⟨rfl, rfl, rfl, rfl, rfl, trivial⟩ hs65; clear hs65
                     refine cd_cond hs66 (Ev.t 0 rfl) (fun hc42 => ?_) (fun hc42 => ?_)
                     · refine cd_region1 ?_
                       refine sq rfl (st_field (o' := 20) hs66 (Ev.t 4 rfl) rfl rfl Tryd.runUnderlying27 rfl Tryd.sizeOf3 rfl rfl fun _ _ hs67 => ?_); clear hs66
                       refine sq rfl (st_load1 (o := 0) (off := 20) (v := .int .i64 b.mark) hs67 (Ev.t 0 rfl) rfl rfl Tryd.isAgg3 (hs67.cells 3 rfl) rfl fun _ _ hs68 => ?_); clear hs67
                       refine sq rfl (st_move hs68 (Ev.t 3 rfl) rfl rfl fun _ _ hs69 => ?_); clear hs68
                       refine sq rfl (st_sub (z := b.mark - y) hs69 (Ev.t 1 rfl) (Ev.t 0 rfl) rfl rfl rfl (by omega) fun _ _ hs70 => ?_); clear hs69
                       refine sq rfl (st_max hs70 (.const _) (Ev.t 0 rfl) rfl rfl fun _ _ hs71 => ?_); clear hs70
                       refine sq rfl (st_field (o' := 20) hs71 (Ev.t 7 rfl) rfl rfl Tryd.runUnderlying27 rfl Tryd.sizeOf3 rfl rfl fun _ _ hs72 => ?_); clear hs71
                       refine sq rfl (st_store (l' := [.int .i64 b.coal.lo, .int .i64 b.coal.hi, .int .i64 b.water.lo, .int .i64 b.water.hi, .int .i64 b.bunker, .int .i64 b.tank, .int .i64 b.scoop, .int .i64 b.pail, .int .i64 b.burn0.lo, .int .i64 b.burn0.hi, .int .i64 b.burn1.lo, .int .i64 b.burn1.hi, .int .i64 b.drink0.lo, .int .i64 b.drink0.hi, .int .i64 b.drink1.lo, .int .i64 b.drink1.hi, .int .i64 b.full.lo, .int .i64 b.full.hi, .int .i64 b.weak.lo, .int .i64 b.weak.hi, .int .i64 (max 0 (b.mark - y)), .int .i64 b.lamp, .slice A7 n c7]) (vs := [.int .i64 (max 0 (b.mark - y))]) (i := 1) hs72 (Ev.t 0 rfl) (Ev.t 1 rfl) Tryd.sizeOf3 rfl rfl rfl rfl rfl rfl fun _ _ hs73 => ?_); clear hs72
                       have hs74 := Sx.as (T' := [_, _, _, _, _, _, _, _, _, _, _]) (B' := [_, _, _, _]) rfl rfl hs73; clear hs73
                       refine wpListIn_nil ?_
                       have hs75 := Sx.keepT [8, 9, 10] [_, _, _] ⟨rfl, rfl, rfl, trivial⟩ hs74; clear hs74
                       refine in_norm ?_
                       refine th_norm ?_
                       refine ⟨({ b with mark := max 0 (b.mark - y) } : Book), oq, ?_, ?_, ?_⟩
                       · exact easy8 hok hty.1
                       · exact hown
                       exact Sx.keepE [0, 1, 2] _ ⟨⟨_, rfl, rfl⟩, ⟨_, rfl, rfl⟩, ⟨_, rfl, rfl⟩, trivial⟩ hs75
                     · refine cd_region fun K43 hK43 => ?_
                       refine sq rfl (st_move hs66 (Ev.t 1 rfl) rfl rfl fun _ _ hs67 => ?_); clear hs66
                       refine sq rfl (st_callv (vs := [.int .i64 y, .int .i64 2]) hs67 (.func _) ⟨(Ev.t 0 rfl), (.const _), trivial⟩ rfl rfl Tryd.call38 rfl (turn_v y 2 (by omega) _) fun _ _ hs68 => ?_); clear hs67
                       refine sq rfl (st_assign hs68 (Ev.t 0 rfl) rfl rfl fun _ _ hs69 => ?_); clear hs68
                       refine hK43 _ _ ?_; clear hK43
                       have hs70 := Sx.keepT [0, 5, 6, 7] [_, _, _, _] ⟨rfl, rfl, rfl, rfl, trivial⟩ hs69; clear hs69
                       have htk := turn_bd (n := y) (m := 2) (by omega)
                       rcases (by omega : turn y 2 = 0 ∨ turn y 2 = 1) with hk | hk
                       · skip
                         have hs71 := Sx.keepE [0, 1, 2, 3] [(8, .int .i64 0), (5, _), (4, _), (2, _)] ⟨⟨_, rfl, (by rw [hk])⟩, ⟨_, rfl, rfl⟩, ⟨_, rfl, rfl⟩, ⟨_, rfl, rfl⟩, trivial⟩ hs70; clear hs70
                         have hs72 : Sx 236 [] [(8, .int .i64 0), (5, .pointer (some ⟨b16, 0, none⟩)), (4, .bool false), (2, .pointer (some ⟨b10, 0, none⟩))] [(b16, some (.cells ⟨[.int .i64 b.coal.lo, .int .i64 b.coal.hi, .int .i64 b.water.lo, .int .i64 b.water.hi, .int .i64 b.bunker, .int .i64 b.tank, .int .i64 b.scoop, .int .i64 b.pail, .int .i64 b.burn0.lo, .int .i64 b.burn0.hi, .int .i64 b.burn1.lo, .int .i64 b.burn1.hi, .int .i64 b.drink0.lo, .int .i64 b.drink0.hi, .int .i64 b.drink1.lo, .int .i64 b.drink1.hi, .int .i64 b.full.lo, .int .i64 b.full.hi, .int .i64 b.weak.lo, .int .i64 b.weak.hi, .int .i64 b.mark, .int .i64 b.lamp, .slice A7 n c7]⟩ 27 (0, 0))), (bq, oq), (b11, some (.cells ⟨[.int .i64 k0, .int .i64 k1]⟩ 29 (0, 0))), (b10, some (.cells ⟨(bookL b A n cp)⟩ 27 (0, 0)))] [] w _ _ := Sx.front hs71 1 rfl; clear hs71
                         refine cd_drawS1 mixed [15] ⟨Unit, fun n_ x_ => match n_ with | 0 => [] | _ => [], fun n_ x_ => match n_ with | 0 => [(b16, some (.cells ⟨[.int .i64 b.coal.lo, .int .i64 b.coal.hi, .int .i64 b.water.lo, .int .i64 b.water.hi, .int .i64 b.bunker, .int .i64 b.tank, .int .i64 b.scoop, .int .i64 b.pail, .int .i64 b.burn0.lo, .int .i64 b.burn0.hi, .int .i64 b.burn1.lo, .int .i64 b.burn1.hi, .int .i64 b.drink0.lo, .int .i64 b.drink0.hi, .int .i64 b.drink1.lo, .int .i64 b.drink1.hi, .int .i64 b.full.lo, .int .i64 b.full.hi, .int .i64 b.weak.lo, .int .i64 b.weak.hi, .int .i64 b.mark, .int .i64 b.lamp, .slice A7 n c7]⟩ 27 (0, 0)))] | _ => [(b16, some (.cells ⟨[.int .i64 b.coal.lo, .int .i64 b.coal.hi, .int .i64 b.water.lo, .int .i64 b.water.hi, .int .i64 b.bunker, .int .i64 b.tank, .int .i64 b.scoop, .int .i64 b.pail, .int .i64 b.burn0.lo, .int .i64 b.burn0.lo, .int .i64 b.burn1.lo, .int .i64 b.burn1.hi, .int .i64 b.drink0.lo, .int .i64 b.drink0.hi, .int .i64 b.drink1.lo, .int .i64 b.drink1.hi, .int .i64 b.full.lo, .int .i64 b.full.hi, .int .i64 b.weak.lo, .int .i64 b.weak.hi, .int .i64 b.mark, .int .i64 b.lamp, .slice A7 n c7]⟩ 27 (0, 0)))]⟩ () hs72 [⟨41, [], Is (.int .i64 0)⟩,
      ⟨42, [], Is (.int .i64 0)⟩,
      ⟨43, [], Is (.int .i64 0)⟩,
      ⟨44, [], Is (.pointer (some ⟨b10, 8, none⟩))⟩,
      ⟨45, [2, 3], Is (.pointer (some ⟨b10, 8, none⟩))⟩,
      ⟨46, [4], Is (.pointer (some ⟨b10, 8, none⟩))⟩,
      ⟨47, [5], Is (.int .i64 b.burn0.lo)⟩,
      ⟨48, [], Is (.int .i64 0)⟩,
      ⟨49, [], Is (.pointer (some ⟨b10, 12, none⟩))⟩,
      ⟨50, [7, 8], Is (.pointer (some ⟨b10, 12, none⟩))⟩,
      ⟨51, [9], Is (.pointer (some ⟨b10, 12, none⟩))⟩,
      ⟨52, [10], Is (.int .i64 b.drink0.lo)⟩,
      ⟨53, [], Is (.pointer (some ⟨b16, 8, none⟩))⟩,
      ⟨54, [0, 12], Is (.pointer (some ⟨b16, 8, none⟩))⟩,
      ⟨55, [13], Is (.pointer (some ⟨b16, 9, none⟩))⟩,
      ⟨251, [6, 14], Is undef⟩,
      ⟨56, [], Is (.pointer (some ⟨b16, 12, none⟩))⟩] (by kernel_rfl) (fun n_ _ => by rcases n_ with _ | _ <;> rfl) (by kernel_rfl) ⟨⟨?_, ?_, ?_, ?_, ?_, ?_, ?_, ?_, ?_, ?_, ?_, ?_, ?_, ?_, ?_, ?_, ?_, trivial⟩, ?_⟩
                         · intro T_ B_ a_ w_ K_ hT hB
                           intro hf hsD hk
                           exact ob rfl rfl (st_move hsD (Ev.tmp (hT _ (mem_nth (i := 0) rfl))) rfl hf fun a_1 w_1 h1 => hk _ _ _ _ ⟨rfl, rfl⟩ h1)
                         · intro T_ B_ a_ w_ K_ hT hB
                           intro hf hsD hk
                           exact ob rfl rfl (st_move hsD (Ev.tmp (hT _ (mem_nth (i := 0) rfl))) rfl hf fun a_1 w_1 h1 => hk _ _ _ _ ⟨rfl, rfl⟩ h1)
                         · intro T_ B_ a_ w_ K_ hT hB
                           intro hf hsD hk
                           exact ob rfl rfl (st_move hsD (Ev.tmp (hT _ (mem_nth (i := 0) rfl))) rfl hf fun a_1 w_1 h1 => hk _ _ _ _ ⟨rfl, rfl⟩ h1)
                         · intro T_ B_ a_ w_ K_ hT hB
                           intro hf hsD hk
                           exact ob rfl rfl (st_field (o' := 8) hsD (Ev.tmp (hT _ (mem_nth (i := 3) rfl))) rfl hf Tryd.runUnderlying27 rfl Tryd.sizeOf24 rfl rfl fun a_1 w_1 h1 => hk _ _ _ _ ⟨rfl, rfl⟩ h1)
                         · intro T_ B_ a_ w_ K_ hT hB
                           rintro _ _ ⟨rfl, rfl⟩ h43 -
                           rintro _ _ ⟨rfl, rfl⟩ h44 -
                           intro hf hsD hk
                           exact ob rfl rfl (st_indexArr (o' := 8) hsD (Ev.tmp h44) (Ev.tmp h43) rfl hf Tryd.runUnderlying24 Tryd.sizeOf23 (by decide) rfl fun a_1 w_1 h1 => hk _ _ _ _ ⟨rfl, rfl⟩ h1)
                         · intro T_ B_ a_ w_ K_ hT hB
                           rintro _ _ ⟨rfl, rfl⟩ h45 -
                           intro hf hsD hk
                           exact ob rfl rfl (st_field (o' := 8) hsD (Ev.tmp h45) rfl hf Tryd.runUnderlying23 rfl Tryd.sizeOf3 rfl rfl fun a_1 w_1 h1 => hk _ _ _ _ ⟨rfl, rfl⟩ h1)
                         · intro T_ B_ a_ w_ K_ hT hB
                           rintro _ _ ⟨rfl, rfl⟩ h46 -
                           intro hf hsD hk
                           exact ob rfl rfl (st_load1 (o := 0) (off := 8) (v := .int .i64 b.burn0.lo) hsD (Ev.tmp h46) rfl hf Tryd.isAgg3 (hsD.cellsM (hB _ (mem_nth (i := 2) rfl))) rfl fun a_1 w_1 h1 => hk _ _ _ _ ⟨rfl, rfl⟩ h1)
                         · intro T_ B_ a_ w_ K_ hT hB
                           intro hf hsD hk
                           exact ob rfl rfl (st_move hsD (Ev.tmp (hT _ (mem_nth (i := 0) rfl))) rfl hf fun a_1 w_1 h1 => hk _ _ _ _ ⟨rfl, rfl⟩ h1)
                         · intro T_ B_ a_ w_ K_ hT hB
                           intro hf hsD hk
                           exact ob rfl rfl (st_field (o' := 12) hsD (Ev.tmp (hT _ (mem_nth (i := 3) rfl))) rfl hf Tryd.runUnderlying27 rfl Tryd.sizeOf24 rfl rfl fun a_1 w_1 h1 => hk _ _ _ _ ⟨rfl, rfl⟩ h1)
                         · intro T_ B_ a_ w_ K_ hT hB
                           rintro _ _ ⟨rfl, rfl⟩ h48 -
                           rintro _ _ ⟨rfl, rfl⟩ h49 -
                           intro hf hsD hk
                           exact ob rfl rfl (st_indexArr (o' := 12) hsD (Ev.tmp h49) (Ev.tmp h48) rfl hf Tryd.runUnderlying24 Tryd.sizeOf23 (by decide) rfl fun a_1 w_1 h1 => hk _ _ _ _ ⟨rfl, rfl⟩ h1)
                         · intro T_ B_ a_ w_ K_ hT hB
                           rintro _ _ ⟨rfl, rfl⟩ h50 -
                           intro hf hsD hk
                           exact ob rfl rfl (st_field (o' := 12) hsD (Ev.tmp h50) rfl hf Tryd.runUnderlying23 rfl Tryd.sizeOf3 rfl rfl fun a_1 w_1 h1 => hk _ _ _ _ ⟨rfl, rfl⟩ h1)
                         · intro T_ B_ a_ w_ K_ hT hB
                           rintro _ _ ⟨rfl, rfl⟩ h51 -
                           intro hf hsD hk
                           exact ob rfl rfl (st_load1 (o := 0) (off := 12) (v := .int .i64 b.drink0.lo) hsD (Ev.tmp h51) rfl hf Tryd.isAgg3 (hsD.cellsM (hB _ (mem_nth (i := 2) rfl))) rfl fun a_1 w_1 h1 => hk _ _ _ _ ⟨rfl, rfl⟩ h1)
                         · intro T_ B_ a_ w_ K_ hT hB
                           intro hf hsD hk
                           exact ob rfl rfl (st_field (o' := 8) hsD (Ev.tmp (hT _ (mem_nth (i := 1) rfl))) rfl hf Tryd.runUnderlying27 rfl Tryd.sizeOf24 rfl rfl fun a_1 w_1 h1 => hk _ _ _ _ ⟨rfl, rfl⟩ h1)
                         · intro T_ B_ a_ w_ K_ hT hB
                           rintro _ _ ⟨rfl, rfl⟩ h41 -
                           rintro _ _ ⟨rfl, rfl⟩ h53 -
                           intro hf hsD hk
                           exact ob rfl rfl (st_indexArr (o' := 8) hsD (Ev.tmp h53) (Ev.tmp h41) rfl hf Tryd.runUnderlying24 Tryd.sizeOf23 (by decide) rfl fun a_1 w_1 h1 => hk _ _ _ _ ⟨rfl, rfl⟩ h1)
                         · intro T_ B_ a_ w_ K_ hT hB
                           rintro _ _ ⟨rfl, rfl⟩ h54 -
                           intro hf hsD hk
                           exact ob rfl rfl (st_field (o' := 9) hsD (Ev.tmp h54) rfl hf Tryd.runUnderlying23 rfl Tryd.sizeOf3 rfl rfl fun a_1 w_1 h1 => hk _ _ _ _ ⟨rfl, rfl⟩ h1)
                         · intro T_ B_ a_ w_ K_ x_ hT hB
                           rintro _ _ ⟨rfl, rfl⟩ h47 -
                           rintro _ _ ⟨rfl, rfl⟩ h55 -
                           intro hf hsD hk
                           exact ob rfl rfl (st_store (l' := [.int .i64 b.coal.lo, .int .i64 b.coal.hi, .int .i64 b.water.lo, .int .i64 b.water.hi, .int .i64 b.bunker, .int .i64 b.tank, .int .i64 b.scoop, .int .i64 b.pail, .int .i64 b.burn0.lo, .int .i64 b.burn0.lo, .int .i64 b.burn1.lo, .int .i64 b.burn1.hi, .int .i64 b.drink0.lo, .int .i64 b.drink0.hi, .int .i64 b.drink1.lo, .int .i64 b.drink1.hi, .int .i64 b.full.lo, .int .i64 b.full.hi, .int .i64 b.weak.lo, .int .i64 b.weak.hi, .int .i64 b.mark, .int .i64 b.lamp, .slice A7 n c7]) (vs := [.int .i64 b.burn0.lo]) (i := 0) hsD (Ev.tmp (List.mem_append_right _ h55)) (Ev.tmp (List.mem_append_right _ h47)) Tryd.sizeOf3 rfl rfl rfl rfl rfl rfl fun a_1 w_1 h1 => hk x_ _ _ h1)
                         · intro T_ B_ a_ w_ K_ hT hB
                           intro hf hsD hk
                           exact ob rfl rfl (st_field (o' := 12) hsD (Ev.tmp (hT _ (mem_nth (i := 1) rfl))) rfl hf Tryd.runUnderlying27 rfl Tryd.sizeOf24 rfl rfl fun a_1 w_1 h1 => hk _ _ _ _ ⟨rfl, rfl⟩ h1)
                         rintro _ _ ⟨rfl, rfl⟩
                         rintro _ _ ⟨rfl, rfl⟩
                         rintro _ _ ⟨rfl, rfl⟩
                         rintro _ _ ⟨rfl, rfl⟩
                         rintro _ _ ⟨rfl, rfl⟩
                         rintro _ _ ⟨rfl, rfl⟩
                         rintro _ _ ⟨rfl, rfl⟩
                         rintro _ _ ⟨rfl, rfl⟩
                         rintro _ _ ⟨rfl, rfl⟩
                         rintro _ _ ⟨rfl, rfl⟩
                         rintro _ _ ⟨rfl, rfl⟩
                         rintro _ _ ⟨rfl, rfl⟩
                         rintro _ _ ⟨rfl, rfl⟩
                         rintro _ _ ⟨rfl, rfl⟩
                         rintro _ _ ⟨rfl, rfl⟩
                         rintro _ _ ⟨rfl, rfl⟩
                         intro _ a_73 w_73 hs73
                         clear hs72
                         have hs74 := Sx.as (T' := [_, _, _, _, _, _, _, _, _, _, _, _, _, _, _, _, _, _, _, _]) (B' := [_, _, _, _]) rfl rfl hs73; clear hs73
                         refine sq rfl (st_indexArr (o' := 12) hs74 (Ev.t 15 rfl) (Ev.t 1 rfl) rfl rfl Tryd.runUnderlying24 Tryd.sizeOf23 (by decide) rfl fun _ _ hs75 => ?_); clear hs74
                         refine sq rfl (st_field (o' := 13) hs75 (Ev.t 0 rfl) rfl rfl Tryd.runUnderlying23 rfl Tryd.sizeOf3 rfl rfl fun _ _ hs76 => ?_); clear hs75
                         refine sq rfl (st_store (l' := [.int .i64 b.coal.lo, .int .i64 b.coal.hi, .int .i64 b.water.lo, .int .i64 b.water.hi, .int .i64 b.bunker, .int .i64 b.tank, .int .i64 b.scoop, .int .i64 b.pail, .int .i64 b.burn0.lo, .int .i64 b.burn0.lo, .int .i64 b.burn1.lo, .int .i64 b.burn1.hi, .int .i64 b.drink0.lo, .int .i64 b.drink0.lo, .int .i64 b.drink1.lo, .int .i64 b.drink1.hi, .int .i64 b.full.lo, .int .i64 b.full.hi, .int .i64 b.weak.lo, .int .i64 b.weak.hi, .int .i64 b.mark, .int .i64 b.lamp, .slice A7 n c7]) (vs := [.int .i64 b.drink0.lo]) (i := 0) hs76 (Ev.t 0 rfl) (Ev.t 13 rfl) Tryd.sizeOf3 rfl rfl rfl rfl rfl rfl fun _ _ hs77 => ?_); clear hs76
                         have hs78 := Sx.as (T' := [_, _, _, _, _, _, _, _, _, _, _, _, _, _, _, _, _, _, _, _, _, _]) (B' := [_, _, _, _]) rfl rfl hs77; clear hs77
                         refine wpListIn_nil ?_
                         have hs79 := Sx.keepT [19, 20, 21] [_, _, _] ⟨rfl, rfl, rfl, trivial⟩ hs78; clear hs78
                         refine in_norm ?_
                         refine th_norm ?_
                         have hp44 := Sx.front hs79 3 rfl; clear hs79
                         have hp45 := Sx.front hp44 3 rfl; clear hp44
                         have hp46 := Sx.front hp45 2 rfl; clear hp45
                         have hp47 := Sx.front hp46 3 rfl; clear hp46
                         refine ⟨({ b with burn0 := ⟨b.burn0.lo, b.burn0.lo⟩, drink0 := ⟨b.drink0.lo, b.drink0.lo⟩ } : Book), oq, ?_, ?_, ?_⟩
                         · exact easy9a hok
                         · exact hown
                         exact Sx.keepE [0, 1, 2] _ ⟨⟨_, rfl, rfl⟩, ⟨_, rfl, rfl⟩, ⟨_, rfl, rfl⟩, trivial⟩ hp47
                       · skip
                         have hs71 := Sx.keepE [0, 1, 2, 3] [(8, .int .i64 1), (5, _), (4, _), (2, _)] ⟨⟨_, rfl, (by rw [hk])⟩, ⟨_, rfl, rfl⟩, ⟨_, rfl, rfl⟩, ⟨_, rfl, rfl⟩, trivial⟩ hs70; clear hs70
                         have hs72 : Sx 236 [] [(8, .int .i64 1), (5, .pointer (some ⟨b16, 0, none⟩)), (4, .bool false), (2, .pointer (some ⟨b10, 0, none⟩))] [(b16, some (.cells ⟨[.int .i64 b.coal.lo, .int .i64 b.coal.hi, .int .i64 b.water.lo, .int .i64 b.water.hi, .int .i64 b.bunker, .int .i64 b.tank, .int .i64 b.scoop, .int .i64 b.pail, .int .i64 b.burn0.lo, .int .i64 b.burn0.hi, .int .i64 b.burn1.lo, .int .i64 b.burn1.hi, .int .i64 b.drink0.lo, .int .i64 b.drink0.hi, .int .i64 b.drink1.lo, .int .i64 b.drink1.hi, .int .i64 b.full.lo, .int .i64 b.full.hi, .int .i64 b.weak.lo, .int .i64 b.weak.hi, .int .i64 b.mark, .int .i64 b.lamp, .slice A7 n c7]⟩ 27 (0, 0))), (bq, oq), (b11, some (.cells ⟨[.int .i64 k0, .int .i64 k1]⟩ 29 (0, 0))), (b10, some (.cells ⟨(bookL b A n cp)⟩ 27 (0, 0)))] [] w _ _ := Sx.front hs71 1 rfl; clear hs71
                         refine cd_drawS1 mixed [15] ⟨Unit, fun n_ x_ => match n_ with | 0 => [] | _ => [], fun n_ x_ => match n_ with | 0 => [(b16, some (.cells ⟨[.int .i64 b.coal.lo, .int .i64 b.coal.hi, .int .i64 b.water.lo, .int .i64 b.water.hi, .int .i64 b.bunker, .int .i64 b.tank, .int .i64 b.scoop, .int .i64 b.pail, .int .i64 b.burn0.lo, .int .i64 b.burn0.hi, .int .i64 b.burn1.lo, .int .i64 b.burn1.hi, .int .i64 b.drink0.lo, .int .i64 b.drink0.hi, .int .i64 b.drink1.lo, .int .i64 b.drink1.hi, .int .i64 b.full.lo, .int .i64 b.full.hi, .int .i64 b.weak.lo, .int .i64 b.weak.hi, .int .i64 b.mark, .int .i64 b.lamp, .slice A7 n c7]⟩ 27 (0, 0)))] | _ => [(b16, some (.cells ⟨[.int .i64 b.coal.lo, .int .i64 b.coal.hi, .int .i64 b.water.lo, .int .i64 b.water.hi, .int .i64 b.bunker, .int .i64 b.tank, .int .i64 b.scoop, .int .i64 b.pail, .int .i64 b.burn0.lo, .int .i64 b.burn0.hi, .int .i64 b.burn1.lo, .int .i64 b.burn1.lo, .int .i64 b.drink0.lo, .int .i64 b.drink0.hi, .int .i64 b.drink1.lo, .int .i64 b.drink1.hi, .int .i64 b.full.lo, .int .i64 b.full.hi, .int .i64 b.weak.lo, .int .i64 b.weak.hi, .int .i64 b.mark, .int .i64 b.lamp, .slice A7 n c7]⟩ 27 (0, 0)))]⟩ () hs72 [⟨41, [], Is (.int .i64 1)⟩,
      ⟨42, [], Is (.int .i64 1)⟩,
      ⟨43, [], Is (.int .i64 1)⟩,
      ⟨44, [], Is (.pointer (some ⟨b10, 8, none⟩))⟩,
      ⟨45, [2, 3], Is (.pointer (some ⟨b10, 10, none⟩))⟩,
      ⟨46, [4], Is (.pointer (some ⟨b10, 10, none⟩))⟩,
      ⟨47, [5], Is (.int .i64 b.burn1.lo)⟩,
      ⟨48, [], Is (.int .i64 1)⟩,
      ⟨49, [], Is (.pointer (some ⟨b10, 12, none⟩))⟩,
      ⟨50, [7, 8], Is (.pointer (some ⟨b10, 14, none⟩))⟩,
      ⟨51, [9], Is (.pointer (some ⟨b10, 14, none⟩))⟩,
      ⟨52, [10], Is (.int .i64 b.drink1.lo)⟩,
      ⟨53, [], Is (.pointer (some ⟨b16, 8, none⟩))⟩,
      ⟨54, [0, 12], Is (.pointer (some ⟨b16, 10, none⟩))⟩,
      ⟨55, [13], Is (.pointer (some ⟨b16, 11, none⟩))⟩,
      ⟨251, [6, 14], Is undef⟩,
      ⟨56, [], Is (.pointer (some ⟨b16, 12, none⟩))⟩] (by kernel_rfl) (fun n_ _ => by rcases n_ with _ | _ <;> rfl) (by kernel_rfl) ⟨⟨?_, ?_, ?_, ?_, ?_, ?_, ?_, ?_, ?_, ?_, ?_, ?_, ?_, ?_, ?_, ?_, ?_, trivial⟩, ?_⟩
                         · intro T_ B_ a_ w_ K_ hT hB
                           intro hf hsD hk
                           exact ob rfl rfl (st_move hsD (Ev.tmp (hT _ (mem_nth (i := 0) rfl))) rfl hf fun a_1 w_1 h1 => hk _ _ _ _ ⟨rfl, rfl⟩ h1)
                         · intro T_ B_ a_ w_ K_ hT hB
                           intro hf hsD hk
                           exact ob rfl rfl (st_move hsD (Ev.tmp (hT _ (mem_nth (i := 0) rfl))) rfl hf fun a_1 w_1 h1 => hk _ _ _ _ ⟨rfl, rfl⟩ h1)
                         · intro T_ B_ a_ w_ K_ hT hB
                           intro hf hsD hk
                           exact ob rfl rfl (st_move hsD (Ev.tmp (hT _ (mem_nth (i := 0) rfl))) rfl hf fun a_1 w_1 h1 => hk _ _ _ _ ⟨rfl, rfl⟩ h1)
                         · intro T_ B_ a_ w_ K_ hT hB
                           intro hf hsD hk
                           exact ob rfl rfl (st_field (o' := 8) hsD (Ev.tmp (hT _ (mem_nth (i := 3) rfl))) rfl hf Tryd.runUnderlying27 rfl Tryd.sizeOf24 rfl rfl fun a_1 w_1 h1 => hk _ _ _ _ ⟨rfl, rfl⟩ h1)
                         · intro T_ B_ a_ w_ K_ hT hB
                           rintro _ _ ⟨rfl, rfl⟩ h43 -
                           rintro _ _ ⟨rfl, rfl⟩ h44 -
                           intro hf hsD hk
                           exact ob rfl rfl (st_indexArr (o' := 10) hsD (Ev.tmp h44) (Ev.tmp h43) rfl hf Tryd.runUnderlying24 Tryd.sizeOf23 (by decide) rfl fun a_1 w_1 h1 => hk _ _ _ _ ⟨rfl, rfl⟩ h1)
                         · intro T_ B_ a_ w_ K_ hT hB
                           rintro _ _ ⟨rfl, rfl⟩ h45 -
                           intro hf hsD hk
                           exact ob rfl rfl (st_field (o' := 10) hsD (Ev.tmp h45) rfl hf Tryd.runUnderlying23 rfl Tryd.sizeOf3 rfl rfl fun a_1 w_1 h1 => hk _ _ _ _ ⟨rfl, rfl⟩ h1)
                         · intro T_ B_ a_ w_ K_ hT hB
                           rintro _ _ ⟨rfl, rfl⟩ h46 -
                           intro hf hsD hk
                           exact ob rfl rfl (st_load1 (o := 0) (off := 10) (v := .int .i64 b.burn1.lo) hsD (Ev.tmp h46) rfl hf Tryd.isAgg3 (hsD.cellsM (hB _ (mem_nth (i := 2) rfl))) rfl fun a_1 w_1 h1 => hk _ _ _ _ ⟨rfl, rfl⟩ h1)
                         · intro T_ B_ a_ w_ K_ hT hB
                           intro hf hsD hk
                           exact ob rfl rfl (st_move hsD (Ev.tmp (hT _ (mem_nth (i := 0) rfl))) rfl hf fun a_1 w_1 h1 => hk _ _ _ _ ⟨rfl, rfl⟩ h1)
                         · intro T_ B_ a_ w_ K_ hT hB
                           intro hf hsD hk
                           exact ob rfl rfl (st_field (o' := 12) hsD (Ev.tmp (hT _ (mem_nth (i := 3) rfl))) rfl hf Tryd.runUnderlying27 rfl Tryd.sizeOf24 rfl rfl fun a_1 w_1 h1 => hk _ _ _ _ ⟨rfl, rfl⟩ h1)
                         · intro T_ B_ a_ w_ K_ hT hB
                           rintro _ _ ⟨rfl, rfl⟩ h48 -
                           rintro _ _ ⟨rfl, rfl⟩ h49 -
                           intro hf hsD hk
                           exact ob rfl rfl (st_indexArr (o' := 14) hsD (Ev.tmp h49) (Ev.tmp h48) rfl hf Tryd.runUnderlying24 Tryd.sizeOf23 (by decide) rfl fun a_1 w_1 h1 => hk _ _ _ _ ⟨rfl, rfl⟩ h1)
                         · intro T_ B_ a_ w_ K_ hT hB
                           rintro _ _ ⟨rfl, rfl⟩ h50 -
                           intro hf hsD hk
                           exact ob rfl rfl (st_field (o' := 14) hsD (Ev.tmp h50) rfl hf Tryd.runUnderlying23 rfl Tryd.sizeOf3 rfl rfl fun a_1 w_1 h1 => hk _ _ _ _ ⟨rfl, rfl⟩ h1)
                         · intro T_ B_ a_ w_ K_ hT hB
                           rintro _ _ ⟨rfl, rfl⟩ h51 -
                           intro hf hsD hk
                           exact ob rfl rfl (st_load1 (o := 0) (off := 14) (v := .int .i64 b.drink1.lo) hsD (Ev.tmp h51) rfl hf Tryd.isAgg3 (hsD.cellsM (hB _ (mem_nth (i := 2) rfl))) rfl fun a_1 w_1 h1 => hk _ _ _ _ ⟨rfl, rfl⟩ h1)
                         · intro T_ B_ a_ w_ K_ hT hB
                           intro hf hsD hk
                           exact ob rfl rfl (st_field (o' := 8) hsD (Ev.tmp (hT _ (mem_nth (i := 1) rfl))) rfl hf Tryd.runUnderlying27 rfl Tryd.sizeOf24 rfl rfl fun a_1 w_1 h1 => hk _ _ _ _ ⟨rfl, rfl⟩ h1)
                         · intro T_ B_ a_ w_ K_ hT hB
                           rintro _ _ ⟨rfl, rfl⟩ h41 -
                           rintro _ _ ⟨rfl, rfl⟩ h53 -
                           intro hf hsD hk
                           exact ob rfl rfl (st_indexArr (o' := 10) hsD (Ev.tmp h53) (Ev.tmp h41) rfl hf Tryd.runUnderlying24 Tryd.sizeOf23 (by decide) rfl fun a_1 w_1 h1 => hk _ _ _ _ ⟨rfl, rfl⟩ h1)
                         · intro T_ B_ a_ w_ K_ hT hB
                           rintro _ _ ⟨rfl, rfl⟩ h54 -
                           intro hf hsD hk
                           exact ob rfl rfl (st_field (o' := 11) hsD (Ev.tmp h54) rfl hf Tryd.runUnderlying23 rfl Tryd.sizeOf3 rfl rfl fun a_1 w_1 h1 => hk _ _ _ _ ⟨rfl, rfl⟩ h1)
                         · intro T_ B_ a_ w_ K_ x_ hT hB
                           rintro _ _ ⟨rfl, rfl⟩ h47 -
                           rintro _ _ ⟨rfl, rfl⟩ h55 -
                           intro hf hsD hk
                           exact ob rfl rfl (st_store (l' := [.int .i64 b.coal.lo, .int .i64 b.coal.hi, .int .i64 b.water.lo, .int .i64 b.water.hi, .int .i64 b.bunker, .int .i64 b.tank, .int .i64 b.scoop, .int .i64 b.pail, .int .i64 b.burn0.lo, .int .i64 b.burn0.hi, .int .i64 b.burn1.lo, .int .i64 b.burn1.lo, .int .i64 b.drink0.lo, .int .i64 b.drink0.hi, .int .i64 b.drink1.lo, .int .i64 b.drink1.hi, .int .i64 b.full.lo, .int .i64 b.full.hi, .int .i64 b.weak.lo, .int .i64 b.weak.hi, .int .i64 b.mark, .int .i64 b.lamp, .slice A7 n c7]) (vs := [.int .i64 b.burn1.lo]) (i := 0) hsD (Ev.tmp (List.mem_append_right _ h55)) (Ev.tmp (List.mem_append_right _ h47)) Tryd.sizeOf3 rfl rfl rfl rfl rfl rfl fun a_1 w_1 h1 => hk x_ _ _ h1)
                         · intro T_ B_ a_ w_ K_ hT hB
                           intro hf hsD hk
                           exact ob rfl rfl (st_field (o' := 12) hsD (Ev.tmp (hT _ (mem_nth (i := 1) rfl))) rfl hf Tryd.runUnderlying27 rfl Tryd.sizeOf24 rfl rfl fun a_1 w_1 h1 => hk _ _ _ _ ⟨rfl, rfl⟩ h1)
                         rintro _ _ ⟨rfl, rfl⟩
                         rintro _ _ ⟨rfl, rfl⟩
                         rintro _ _ ⟨rfl, rfl⟩
                         rintro _ _ ⟨rfl, rfl⟩
                         rintro _ _ ⟨rfl, rfl⟩
                         rintro _ _ ⟨rfl, rfl⟩
                         rintro _ _ ⟨rfl, rfl⟩
                         rintro _ _ ⟨rfl, rfl⟩
                         rintro _ _ ⟨rfl, rfl⟩
                         rintro _ _ ⟨rfl, rfl⟩
                         rintro _ _ ⟨rfl, rfl⟩
                         rintro _ _ ⟨rfl, rfl⟩
                         rintro _ _ ⟨rfl, rfl⟩
                         rintro _ _ ⟨rfl, rfl⟩
                         rintro _ _ ⟨rfl, rfl⟩
                         rintro _ _ ⟨rfl, rfl⟩
                         intro _ a_73 w_73 hs73
                         clear hs72
                         have hs74 := Sx.as (T' := [_, _, _, _, _, _, _, _, _, _, _, _, _, _, _, _, _, _, _, _]) (B' := [_, _, _, _]) rfl rfl hs73; clear hs73
                         refine sq rfl (st_indexArr (o' := 14) hs74 (Ev.t 15 rfl) (Ev.t 1 rfl) rfl rfl Tryd.runUnderlying24 Tryd.sizeOf23 (by decide) rfl fun _ _ hs75 => ?_); clear hs74
                         refine sq rfl (st_field (o' := 15) hs75 (Ev.t 0 rfl) rfl rfl Tryd.runUnderlying23 rfl Tryd.sizeOf3 rfl rfl fun _ _ hs76 => ?_); clear hs75
                         refine sq rfl (st_store (l' := [.int .i64 b.coal.lo, .int .i64 b.coal.hi, .int .i64 b.water.lo, .int .i64 b.water.hi, .int .i64 b.bunker, .int .i64 b.tank, .int .i64 b.scoop, .int .i64 b.pail, .int .i64 b.burn0.lo, .int .i64 b.burn0.hi, .int .i64 b.burn1.lo, .int .i64 b.burn1.lo, .int .i64 b.drink0.lo, .int .i64 b.drink0.hi, .int .i64 b.drink1.lo, .int .i64 b.drink1.lo, .int .i64 b.full.lo, .int .i64 b.full.hi, .int .i64 b.weak.lo, .int .i64 b.weak.hi, .int .i64 b.mark, .int .i64 b.lamp, .slice A7 n c7]) (vs := [.int .i64 b.drink1.lo]) (i := 0) hs76 (Ev.t 0 rfl) (Ev.t 13 rfl) Tryd.sizeOf3 rfl rfl rfl rfl rfl rfl fun _ _ hs77 => ?_); clear hs76
                         have hs78 := Sx.as (T' := [_, _, _, _, _, _, _, _, _, _, _, _, _, _, _, _, _, _, _, _, _, _]) (B' := [_, _, _, _]) rfl rfl hs77; clear hs77
                         refine wpListIn_nil ?_
                         have hs79 := Sx.keepT [19, 20, 21] [_, _, _] ⟨rfl, rfl, rfl, trivial⟩ hs78; clear hs78
                         refine in_norm ?_
                         refine th_norm ?_
                         have hp48 := Sx.front hs79 3 rfl; clear hs79
                         have hp49 := Sx.front hp48 3 rfl; clear hp48
                         have hp50 := Sx.front hp49 2 rfl; clear hp49
                         have hp51 := Sx.front hp50 3 rfl; clear hp50
                         refine ⟨({ b with burn1 := ⟨b.burn1.lo, b.burn1.lo⟩, drink1 := ⟨b.drink1.lo, b.drink1.lo⟩ } : Book), oq, ?_, ?_, ?_⟩
                         · exact easy9b hok
                         · exact hown
                         exact Sx.keepE [0, 1, 2] _ ⟨⟨_, rfl, rfl⟩, ⟨_, rfl, rfl⟩, ⟨_, rfl, rfl⟩, trivial⟩ hp51
   · intro a_35 w_35 ⟨d, o9, heas, hown9, hs35⟩
     clear hs34
     have hokd := heas.ok
     have hdl : n = d.parts.length := by rw [all2_len heas.parts]; exact hl2
     have hc7 : n ≤ c7 := by rw [hdl]; exact own_le hown9
     have hbd := ok_bd hokd
     obtain ⟨r2, hr2⟩ : ∃ r, d.most d.parts.length = r := ⟨_, rfl⟩
     have hRd : d.partsR = ((r2 : Int), 0) := by rw [partsR_ok hokd, hr2]
     have hrr : r ≤ r2 := by rw [← hr, ← hr2, ← hdl, ← hl2]; exact easier_most hok heas n
     refine cd_region fun K52 hK52 => ?_
     refine sq rfl (st_loadA (o := 0) (off := 0) (vs := (bookL b A n cp)) hs35 (Ev.t 2 rfl) rfl rfl Tryd.isAgg27 Tryd.sizeOf27 (hs35.cells 3 rfl) rfl fun _ _ hs36 => ?_); clear hs35
     refine sq rfl (st_call (vs := [.agg ⟨(bookL b A n cp)⟩]) hs36 (.func _) ⟨(Ev.t 0 rfl), trivial⟩ rfl rfl Tryd.call23 rfl (Plan_b b A n cp _ (hP.kp hs36.kp) hn (hG.kp hs36.kp (by simp))) (fun v_ bs_ a_37 w_37 hp9 hs37 => ?_)); clear hs36
     rcases hR : b.planR with ⟨_ | pl, e5⟩
     · skip
       obtain ⟨rfl, hbad⟩ := planR_none hok hR
       rw [hR] at hp9
       obtain ⟨rfl, rfl⟩ := hp9
       have hs38 : Sx 236 [] [(174, .tuple ⟨[.slice none 0 0, .int .i64 4]⟩), (173, .agg ⟨(bookL b A n cp)⟩), (5, .pointer (some ⟨b16, 0, none⟩)), (4, .bool false), (2, .pointer (some ⟨b10, 0, none⟩))] [(bq, o9), (b16, some (.cells ⟨(bookL d A7 n c7)⟩ 27 (0, 0))), (b11, some (.cells ⟨[.int .i64 k0, .int .i64 k1]⟩ 29 (0, 0))), (b10, some (.cells ⟨(bookL b A n cp)⟩ 27 (0, 0)))] [] w _ _ := hs37; clear hs37
       obtain ⟨e6, he6⟩ : ∃ e, d.planR.2 = e := ⟨_, rfl⟩
       have h06 := planR_04 hokd
       rw [he6] at h06
       refine sq rfl (st_move hs38 (Ev.t 0 rfl) rfl rfl fun _ _ hs39 => ?_); clear hs38
       refine sq rfl (st_extract hs39 (Ev.t 0 rfl) rfl rfl rfl fun _ _ hs40 => ?_); clear hs39
       refine sq rfl (st_extract hs40 (Ev.t 1 rfl) rfl rfl rfl fun _ _ hs41 => ?_); clear hs40
       refine sq rfl (st_assign hs41 (Ev.t 1 rfl) rfl rfl fun _ _ hs42 => ?_); clear hs41
       refine sq rfl (st_assign hs42 (Ev.t 1 rfl) rfl rfl fun _ _ hs43 => ?_); clear hs42
       refine hK52 _ _ ?_; clear hK52
       have hs44 := Sx.keepT [0, 1, 7, 8, 9] [_, _, _, _, _] ⟨rfl, rfl, rfl, rfl, rfl, trivial⟩ hs43; clear hs43
       refine cd_region fun K53 hK53 => ?_
       refine sq rfl (st_loadA (o := 0) (off := 0) (vs := (bookL d A7 n c7)) hs44 (Ev.t 2 rfl) rfl rfl Tryd.isAgg27 Tryd.sizeOf27 (hs44.cells 1 rfl) rfl fun _ _ hs45 => ?_); clear hs44
       refine sq rfl (st_call (vs := [.agg ⟨(bookL d A7 n c7)⟩]) hs45 (.func _) ⟨(Ev.t 0 rfl), trivial⟩ rfl rfl Tryd.call23 rfl (plansLx he6 (Plan_b d A7 n c7 _ (by rw [hdl]; exact hown9.at hs45 0 rfl) hn (hG.kp hs45.kp (by simp)))) fun v55 bs56 a_46 w_46 hp46 hs46 => ?_); clear hs45
       obtain ⟨Ap54, np54, cq54, rfl, rfl⟩ := hp46
       have hs47 := Sx.as (T' := [_, _, _, _, _, _, _]) (B' := [_, _, _, _]) rfl rfl hs46; clear hs46
       refine sq rfl (st_move hs47 (Ev.t 0 rfl) rfl rfl fun _ _ hs48 => ?_); clear hs47
       refine sq rfl (st_extract hs48 (Ev.t 0 rfl) rfl rfl rfl fun _ _ hs49 => ?_); clear hs48
       refine sq rfl (st_extract hs49 (Ev.t 1 rfl) rfl rfl rfl fun _ _ hs50 => ?_); clear hs49
       refine sq rfl (st_assign hs50 (Ev.t 1 rfl) rfl rfl fun _ _ hs51 => ?_); clear hs50
       refine sq rfl (st_assign hs51 (Ev.t 1 rfl) rfl rfl fun _ _ hs52 => ?_); clear hs51
       refine hK53 _ _ ?_; clear hK53
       have hs53 := Sx.keepT [0, 1, 7, 8, 9, 10, 11] [_, _, _, _, _, _, _] ⟨rfl, rfl, rfl, rfl, rfl, rfl, rfl, trivial⟩ hs52; clear hs52
       refine cd_region fun K57 hK57 => ?_
       refine sq rfl (st_loadA (o := 0) (off := 0) (vs := (bookL b A n cp)) hs53 (Ev.t 6 rfl) rfl rfl Tryd.isAgg27 Tryd.sizeOf27 (hs53.cells 3 rfl) rfl fun _ _ hs54 => ?_); clear hs53
       refine sq rfl (st_callv (vs := [.agg ⟨(bookL b A n cp)⟩]) hs54 (.func _) ⟨(Ev.t 0 rfl), trivial⟩ rfl rfl Tryd.call26 rfl (callsV_eq (v' := .tuple ⟨[.int .i64 (r : Int), .int .i64 0]⟩) (Parts_v b A n cp _ (hP.kp hs54.kp) hn (hG.kp hs54.kp (by simp)) hcp) (by rw [hRp])) fun _ _ hs55 => ?_); clear hs54
       refine sq rfl (st_move hs55 (Ev.t 0 rfl) rfl rfl fun _ _ hs56 => ?_); clear hs55
       refine sq rfl (st_extract hs56 (Ev.t 0 rfl) rfl rfl rfl fun _ _ hs57 => ?_); clear hs56
       refine sq rfl (st_extract hs57 (Ev.t 1 rfl) rfl rfl rfl fun _ _ hs58 => ?_); clear hs57
       refine sq rfl (st_assign hs58 (Ev.t 1 rfl) rfl rfl fun _ _ hs59 => ?_); clear hs58
       refine sq rfl (st_assign hs59 (Ev.t 1 rfl) rfl rfl fun _ _ hs60 => ?_); clear hs59
       refine hK57 _ _ ?_; clear hK57
       have hs61 := Sx.keepT [0, 1, 7, 8, 9, 10, 11, 12] [_, _, _, _, _, _, _, _] ⟨rfl, rfl, rfl, rfl, rfl, rfl, rfl, rfl, trivial⟩ hs60; clear hs60
       refine cd_region fun K58 hK58 => ?_
       refine sq rfl (st_loadA (o := 0) (off := 0) (vs := (bookL d A7 n c7)) hs61 (Ev.t 6 rfl) rfl rfl Tryd.isAgg27 Tryd.sizeOf27 (hs61.cells 1 rfl) rfl fun _ _ hs62 => ?_); clear hs61
       refine sq rfl (st_callv (vs := [.agg ⟨(bookL d A7 n c7)⟩]) hs62 (.func _) ⟨(Ev.t 0 rfl), trivial⟩ rfl rfl Tryd.call26 rfl (callsV_eq (v' := .tuple ⟨[.int .i64 (r2 : Int), .int .i64 0]⟩) (Parts_v d A7 n c7 _ (by rw [hdl]; exact hown9.at hs62 0 rfl) hn (hG.kp hs62.kp (by simp)) hc7) (by rw [hRd])) fun _ _ hs63 => ?_); clear hs62
       refine sq rfl (st_move hs63 (Ev.t 0 rfl) rfl rfl fun _ _ hs64 => ?_); clear hs63
       refine sq rfl (st_extract hs64 (Ev.t 0 rfl) rfl rfl rfl fun _ _ hs65 => ?_); clear hs64
       refine sq rfl (st_extract hs65 (Ev.t 1 rfl) rfl rfl rfl fun _ _ hs66 => ?_); clear hs65
       refine sq rfl (st_assign hs66 (Ev.t 1 rfl) rfl rfl fun _ _ hs67 => ?_); clear hs66
       refine sq rfl (st_assign hs67 (Ev.t 1 rfl) rfl rfl fun _ _ hs68 => ?_); clear hs67
       refine hK58 _ _ ?_; clear hK58
       have hs69 := Sx.keepT [0, 1, 7, 8, 9, 10, 11, 12, 13, 14] [_, _, _, _, _, _, _, _, _, _] ⟨rfl, rfl, rfl, rfl, rfl, rfl, rfl, rfl, rfl, rfl, trivial⟩ hs68; clear hs68
       refine cd_seq fun K59 hK59 => ?_
       refine cd_region fun K60 hK60 => ?_
       refine sq rfl (st_move hs69 (Ev.t 2 rfl) rfl rfl fun _ _ hs70 => ?_); clear hs69
       refine sq rfl (st_cmp (c := false) hs70 (Ev.t 0 rfl) (.const _) rfl rfl rfl rfl fun _ _ hs71 => ?_); clear hs70
       refine sq rfl (st_move hs71 (Ev.t 0 rfl) rfl rfl fun _ _ hs72 => ?_); clear hs71
       refine sq_on hs72 rfl rfl 0 rfl rfl (st_move hs72 (Ev.t 3 rfl) rfl rfl fun _ _ hs73 => ?_); clear hs72
       refine sq_on hs73 rfl rfl 1 rfl rfl (st_cmp (c := false) hs73 (Ev.t 0 rfl) (.const _) rfl rfl rfl rfl fun _ _ hs74 => ?_); clear hs73
       refine sq rfl (st_pick hs74 (Ev.t 2 rfl) rfl rfl (fun h => by cases h) (fun h => (Ev.t 0 rfl)) fun _ _ hs75 => ?_); clear hs74
       refine sq rfl (st_move hs75 (Ev.t 0 rfl) rfl rfl fun _ _ hs76 => ?_); clear hs75
       refine sq_on hs76 rfl rfl 0 rfl rfl (st_move hs76 (Ev.t 8 rfl) rfl rfl fun _ _ hs77 => ?_); clear hs76
       refine sq_on hs77 rfl rfl 1 rfl rfl (st_move hs77 (Ev.t 11 rfl) rfl rfl fun _ _ hs78 => ?_); clear hs77
       refine sq_on hs78 rfl rfl 2 rfl rfl (st_cmp (c := decide (((r2 : Int) : Int) < (r : Int))) hs78 (Ev.t 1 rfl) (Ev.t 0 rfl) rfl rfl rfl rfl fun _ _ hs79 => ?_); clear hs78
       refine sq rfl (st_pick hs79 (Ev.t 3 rfl) rfl rfl (fun h => by cases h) (fun h => (Ev.t 0 rfl)) fun _ _ hs80 => ?_); clear hs79
       refine hK60 _ _ ?_; clear hK60
       have hs81 := Sx.keepT [0, 15, 16, 17, 18, 19, 20] [_, _, _, _, _, _, _] ⟨rfl, rfl, rfl, rfl, rfl, rfl, rfl, trivial⟩ hs80; clear hs80
       have hc61 : (decide (((r2 : Int) : Int) < (r : Int))) = false := by simp; omega
       refine cd_cond hs81 (Ev.t 0 rfl) (fun h => absurd (hc61.symm.trans h) (by decide)) (fun _ => ?_)
       refine cd_skip ?_
       refine th_norm (hK59 _ _ ?_)
       refine cd_seq fun K62 hK62 => ?_
       refine cd_region fun K63 hK63 => ?_
       refine sq rfl (st_move hs81 (Ev.t 3 rfl) rfl rfl fun _ _ hs82 => ?_); clear hs81
       refine sq rfl (st_cmp (c := true) hs82 (Ev.t 0 rfl) (.const _) rfl rfl rfl rfl fun _ _ hs83 => ?_); clear hs82
       refine hK63 _ _ ?_; clear hK63
       have hs84 := Sx.keepT [0, 3, 4, 5, 6, 7, 8] [_, _, _, _, _, _, _] ⟨rfl, rfl, rfl, rfl, rfl, rfl, rfl, trivial⟩ hs83; clear hs83
       have hc64 : true = true := rfl
       refine cd_cond hs84 (Ev.t 0 rfl) (fun _ => ?_) (fun h => absurd (hc64.symm.trans h) (by decide))
       refine cd_region fun K65 hK65 => ?_
       refine sq rfl (st_move hs84 (Ev.t 3 rfl) rfl rfl fun _ _ hs85 => ?_); clear hs84
       refine sq rfl (st_cmp (c := true) hs85 (Ev.t 0 rfl) (.const _) rfl rfl rfl rfl fun _ _ hs86 => ?_); clear hs85
       refine sq rfl (st_move hs86 (Ev.t 0 rfl) rfl rfl fun _ _ hs87 => ?_); clear hs86
       refine sq_on hs87 rfl rfl 0 rfl rfl (st_move hs87 (Ev.t 4 rfl) rfl rfl fun _ _ hs88 => ?_); clear hs87
       refine sq_on hs88 rfl rfl 1 rfl rfl (st_cmp (c := (e6 : Int) == 0) hs88 (Ev.t 0 rfl) (.const _) rfl rfl rfl rfl fun _ _ hs89 => ?_); clear hs88
       refine sq_on hs89 rfl rfl 2 rfl rfl (st_move hs89 (Ev.t 0 rfl) rfl rfl fun _ _ hs90 => ?_); clear hs89
       refine sq_gv hs90 (gg := !((e6 : Int) == 0)) (v := .int .i64 e6) rfl rfl 0 rfl (ison_f _) rfl rfl rfl (fun hg66 K67 hK67 => st_move hs90 (Ev.t 7 rfl) rfl rfl hK67) fun _ _ hs91 => ?_; clear hs90
       refine sq_gv hs91 (gg := !((e6 : Int) == 0)) (v := .int .i64 4) rfl rfl 1 rfl (ison_f _) rfl rfl rfl (fun hg68 K69 hK69 => st_move hs91 (Ev.t 10 rfl) rfl rfl hK69) fun _ _ hs92 => ?_; clear hs91
       refine sq_gv hs92 (gg := !((e6 : Int) == 0)) (v := .bool ((e6 : Int) == 4)) rfl rfl 2 rfl (ison_f _) rfl rfl rfl (fun hg70 K71 hK71 => st_cmp (c := (e6 : Int) == 4) hs92 ((Ev.t 1 rfl).un hg70) ((Ev.t 0 rfl).un hg70) rfl rfl rfl rfl hK71) fun _ _ hs93 => ?_; clear hs92
       refine sq_on hs93 rfl rfl 6 rfl rfl (st_or hs93 (gx := true) (gy := !((e6 : Int) == 0)) (Ev.t 3 rfl) rfl (Ev.t 0 rfl) (fun h => (by first | exact absurd h (by decide) | (rw [h]; rfl))) rfl rfl fun _ _ hs94 => ?_); clear hs93
       refine sq rfl (st_pick hs94 (Ev.t 7 rfl) rfl rfl (fun h => (Ev.t 0 rfl)) (fun h => by cases h) fun _ _ hs95 => ?_); clear hs94
       refine sq rfl (st_move hs95 (Ev.t 0 rfl) rfl rfl fun _ _ hs96 => ?_); clear hs95
       refine sq_gv hs96 (gg := ((e6 : Int) == 0) || ((e6 : Int) == 4)) (v := .bool true) rfl rfl 0 rfl (ison_t _) rfl rfl rfl (fun hg72 K73 hK73 => st_callv (vs := []) hs96 (.func _) trivial rfl rfl Tryd.call20 rfl (fired_v _ (hG.kp hs96.kp (by simp))) hK73) fun _ _ hs97 => ?_; clear hs96
       refine sq rfl (st_and hs97 (gx := true) (gy := ((e6 : Int) == 0) || ((e6 : Int) == 4)) (Ev.t 1 rfl) rfl (Ev.t 0 rfl) (fun h => h) rfl rfl fun _ _ hs98 => ?_); clear hs97
       have hs99 := Sx.keepT [0, 1, 2, 3, 4, 5, 6, 7, 8, 9, 10, 11, 12, 13, 14, 15, 16, 17, 18, 19] [_, _, _, _, _, _, _, _, _, _, _, _, _, _, _, _, _, _, _, _] ⟨rfl, rfl, rfl, rfl, rfl, rfl, rfl, rfl, rfl, rfl, rfl, rfl, rfl, rfl, rfl, rfl, rfl, rfl, rfl, rfl, trivial⟩ hs98; clear hs98
       refine sq rfl (st_assign hs99 (Ev.t 0 rfl) rfl rfl fun _ _ hs100 => ?_); clear hs99
       refine hK65 _ _ ?_; clear hK65
       have hs101 := Sx.keepT [0] [_] ⟨rfl, trivial⟩ hs100; clear hs100
       refine cd_retv (vs := [.bool ((((e6 : Int) == 0) || ((e6 : Int) == 4)) && true)]) hs101 (fun a_ w_ h => th_ret (hQ0 a_ w_ h)) rfl ⟨.tmp 0 rfl, trivial⟩ ?_
       clear hs101 hQ0 hN0 hK62
       first | rfl | (simp [pack]; done) | (rcases h06 with rfl | rfl <;> simp [pack]; done) | (simp [pack]; omega)
     · skip
       obtain ⟨rfl, hgood, hmin⟩ := planR_some hok hR
       rw [hR] at hp9
       obtain ⟨A9, c9, b9, o5, rfl, hown5, rfl⟩ := hp9
       have hs38 : Sx 236 [] [(174, .tuple ⟨[.slice A9 pl.length c9, .int .i64 0]⟩), (173, .agg ⟨(bookL b A n cp)⟩), (5, .pointer (some ⟨b16, 0, none⟩)), (4, .bool false), (2, .pointer (some ⟨b10, 0, none⟩))] [(b9, o5), (bq, o9), (b16, some (.cells ⟨(bookL d A7 n c7)⟩ 27 (0, 0))), (b11, some (.cells ⟨[.int .i64 k0, .int .i64 k1]⟩ 29 (0, 0))), (b10, some (.cells ⟨(bookL b A n cp)⟩ 27 (0, 0)))] [] w _ _ := hs37; clear hs37
       obtain ⟨pl2, hR2, hgood2, hle⟩ := easier_plan hok heas hR
       have hsmp := isPlan_smallx hb (good_isPlan hgood)
       have hsm2 := isPlan_smallx hbd (good_isPlan hgood2)
       have hpll := isPlan_len (good_isPlan hgood)
       have hpl2 := isPlan_len (good_isPlan hgood2)
       refine sq rfl (st_move hs38 (Ev.t 0 rfl) rfl rfl fun _ _ hs39 => ?_); clear hs38
       refine sq rfl (st_extract hs39 (Ev.t 0 rfl) rfl rfl rfl fun _ _ hs40 => ?_); clear hs39
       refine sq rfl (st_extract hs40 (Ev.t 1 rfl) rfl rfl rfl fun _ _ hs41 => ?_); clear hs40
       refine sq rfl (st_assign hs41 (Ev.t 1 rfl) rfl rfl fun _ _ hs42 => ?_); clear hs41
       refine sq rfl (st_assign hs42 (Ev.t 1 rfl) rfl rfl fun _ _ hs43 => ?_); clear hs42
       refine hK52 _ _ ?_; clear hK52
       have hs44 := Sx.keepT [0, 1, 7, 8, 9] [_, _, _, _, _] ⟨rfl, rfl, rfl, rfl, rfl, trivial⟩ hs43; clear hs43
       refine cd_region fun K74 hK74 => ?_
       refine sq rfl (st_loadA (o := 0) (off := 0) (vs := (bookL d A7 n c7)) hs44 (Ev.t 2 rfl) rfl rfl Tryd.isAgg27 Tryd.sizeOf27 (hs44.cells 2 rfl) rfl fun _ _ hs45 => ?_); clear hs44
       refine sq rfl (st_call (vs := [.agg ⟨(bookL d A7 n c7)⟩]) hs45 (.func _) ⟨(Ev.t 0 rfl), trivial⟩ rfl rfl Tryd.call23 rfl (plansV_some hR2 (Plan_b d A7 n c7 _ (by rw [hdl]; exact hown9.at hs45 1 rfl) hn (hG.kp hs45.kp (by simp)))) fun v76 bs77 a_46 w_46 hp46 hs46 => ?_); clear hs45
       obtain ⟨A75, c75, b75, o75, rfl, hO75, rfl⟩ := hp46
       have hs47 := Sx.as (T' := [_, _, _, _, _, _, _]) (B' := [_, _, _, _, _, _]) rfl rfl hs46; clear hs46
       refine sq rfl (st_move hs47 (Ev.t 0 rfl) rfl rfl fun _ _ hs48 => ?_); clear hs47
       refine sq rfl (st_extract hs48 (Ev.t 0 rfl) rfl rfl rfl fun _ _ hs49 => ?_); clear hs48
       refine sq rfl (st_extract hs49 (Ev.t 1 rfl) rfl rfl rfl fun _ _ hs50 => ?_); clear hs49
       refine sq rfl (st_assign hs50 (Ev.t 1 rfl) rfl rfl fun _ _ hs51 => ?_); clear hs50
       refine sq rfl (st_assign hs51 (Ev.t 1 rfl) rfl rfl fun _ _ hs52 => ?_); clear hs51
       refine hK74 _ _ ?_; clear hK74
       have hs53 := Sx.keepT [0, 1, 7, 8, 9, 10, 11] [_, _, _, _, _, _, _] ⟨rfl, rfl, rfl, rfl, rfl, rfl, rfl, trivial⟩ hs52; clear hs52
       refine cd_region fun K78 hK78 => ?_
       refine sq rfl (st_loadA (o := 0) (off := 0) (vs := (bookL b A n cp)) hs53 (Ev.t 6 rfl) rfl rfl Tryd.isAgg27 Tryd.sizeOf27 (hs53.cells 5 rfl) rfl fun _ _ hs54 => ?_); clear hs53
       refine sq rfl (st_callv (vs := [.agg ⟨(bookL b A n cp)⟩]) hs54 (.func _) ⟨(Ev.t 0 rfl), trivial⟩ rfl rfl Tryd.call26 rfl (callsV_eq (v' := .tuple ⟨[.int .i64 (r : Int), .int .i64 0]⟩) (Parts_v b A n cp _ (hP.kp hs54.kp) hn (hG.kp hs54.kp (by simp)) hcp) (by rw [hRp])) fun _ _ hs55 => ?_); clear hs54
       refine sq rfl (st_move hs55 (Ev.t 0 rfl) rfl rfl fun _ _ hs56 => ?_); clear hs55
       refine sq rfl (st_extract hs56 (Ev.t 0 rfl) rfl rfl rfl fun _ _ hs57 => ?_); clear hs56
       refine sq rfl (st_extract hs57 (Ev.t 1 rfl) rfl rfl rfl fun _ _ hs58 => ?_); clear hs57
       refine sq rfl (st_assign hs58 (Ev.t 1 rfl) rfl rfl fun _ _ hs59 => ?_); clear hs58
       refine sq rfl (st_assign hs59 (Ev.t 1 rfl) rfl rfl fun _ _ hs60 => ?_); clear hs59
       refine hK78 _ _ ?_; clear hK78
       have hs61 := Sx.keepT [0, 1, 7, 8, 9, 10, 11, 12] [_, _, _, _, _, _, _, _] ⟨rfl, rfl, rfl, rfl, rfl, rfl, rfl, rfl, trivial⟩ hs60; clear hs60
       refine cd_region fun K79 hK79 => ?_
       refine sq rfl (st_loadA (o := 0) (off := 0) (vs := (bookL d A7 n c7)) hs61 (Ev.t 6 rfl) rfl rfl Tryd.isAgg27 Tryd.sizeOf27 (hs61.cells 3 rfl) rfl fun _ _ hs62 => ?_); clear hs61
       refine sq rfl (st_callv (vs := [.agg ⟨(bookL d A7 n c7)⟩]) hs62 (.func _) ⟨(Ev.t 0 rfl), trivial⟩ rfl rfl Tryd.call26 rfl (callsV_eq (v' := .tuple ⟨[.int .i64 (r2 : Int), .int .i64 0]⟩) (Parts_v d A7 n c7 _ (by rw [hdl]; exact hown9.at hs62 2 rfl) hn (hG.kp hs62.kp (by simp)) hc7) (by rw [hRd])) fun _ _ hs63 => ?_); clear hs62
       refine sq rfl (st_move hs63 (Ev.t 0 rfl) rfl rfl fun _ _ hs64 => ?_); clear hs63
       refine sq rfl (st_extract hs64 (Ev.t 0 rfl) rfl rfl rfl fun _ _ hs65 => ?_); clear hs64
       refine sq rfl (st_extract hs65 (Ev.t 1 rfl) rfl rfl rfl fun _ _ hs66 => ?_); clear hs65
       refine sq rfl (st_assign hs66 (Ev.t 1 rfl) rfl rfl fun _ _ hs67 => ?_); clear hs66
       refine sq rfl (st_assign hs67 (Ev.t 1 rfl) rfl rfl fun _ _ hs68 => ?_); clear hs67
       refine hK79 _ _ ?_; clear hK79
       have hs69 := Sx.keepT [0, 1, 7, 8, 9, 10, 11, 12, 13, 14] [_, _, _, _, _, _, _, _, _, _] ⟨rfl, rfl, rfl, rfl, rfl, rfl, rfl, rfl, rfl, rfl, trivial⟩ hs68; clear hs68
       refine cd_seq fun K80 hK80 => ?_
       refine cd_region fun K81 hK81 => ?_
       refine sq rfl (st_move hs69 (Ev.t 2 rfl) rfl rfl fun _ _ hs70 => ?_); clear hs69
       refine sq rfl (st_cmp (c := false) hs70 (Ev.t 0 rfl) (.const _) rfl rfl rfl rfl fun _ _ hs71 => ?_); clear hs70
       refine sq rfl (st_move hs71 (Ev.t 0 rfl) rfl rfl fun _ _ hs72 => ?_); clear hs71
       refine sq_on hs72 rfl rfl 0 rfl rfl (st_move hs72 (Ev.t 3 rfl) rfl rfl fun _ _ hs73 => ?_); clear hs72
       refine sq_on hs73 rfl rfl 1 rfl rfl (st_cmp (c := false) hs73 (Ev.t 0 rfl) (.const _) rfl rfl rfl rfl fun _ _ hs74 => ?_); clear hs73
       refine sq rfl (st_pick hs74 (Ev.t 2 rfl) rfl rfl (fun h => by cases h) (fun h => (Ev.t 0 rfl)) fun _ _ hs75 => ?_); clear hs74
       refine sq rfl (st_move hs75 (Ev.t 0 rfl) rfl rfl fun _ _ hs76 => ?_); clear hs75
       refine sq_on hs76 rfl rfl 0 rfl rfl (st_move hs76 (Ev.t 8 rfl) rfl rfl fun _ _ hs77 => ?_); clear hs76
       refine sq_on hs77 rfl rfl 1 rfl rfl (st_move hs77 (Ev.t 11 rfl) rfl rfl fun _ _ hs78 => ?_); clear hs77
       refine sq_on hs78 rfl rfl 2 rfl rfl (st_cmp (c := decide (((r2 : Int) : Int) < (r : Int))) hs78 (Ev.t 1 rfl) (Ev.t 0 rfl) rfl rfl rfl rfl fun _ _ hs79 => ?_); clear hs78
       refine sq rfl (st_pick hs79 (Ev.t 3 rfl) rfl rfl (fun h => by cases h) (fun h => (Ev.t 0 rfl)) fun _ _ hs80 => ?_); clear hs79
       refine hK81 _ _ ?_; clear hK81
       have hs81 := Sx.keepT [0, 15, 16, 17, 18, 19, 20] [_, _, _, _, _, _, _] ⟨rfl, rfl, rfl, rfl, rfl, rfl, rfl, trivial⟩ hs80; clear hs80
       have hc82 : (decide (((r2 : Int) : Int) < (r : Int))) = false := by simp; omega
       refine cd_cond hs81 (Ev.t 0 rfl) (fun h => absurd (hc82.symm.trans h) (by decide)) (fun _ => ?_)
       refine cd_skip ?_
       refine th_norm (hK80 _ _ ?_)
       refine cd_seq fun K83 hK83 => ?_
       refine cd_region fun K84 hK84 => ?_
       refine sq rfl (st_move hs81 (Ev.t 3 rfl) rfl rfl fun _ _ hs82 => ?_); clear hs81
       refine sq rfl (st_cmp (c := false) hs82 (Ev.t 0 rfl) (.const _) rfl rfl rfl rfl fun _ _ hs83 => ?_); clear hs82
       refine hK84 _ _ ?_; clear hK84
       have hs84 := Sx.keepT [0, 3, 4, 5, 6, 7, 8] [_, _, _, _, _, _, _] ⟨rfl, rfl, rfl, rfl, rfl, rfl, rfl, trivial⟩ hs83; clear hs83
       have hc85 : false = false := rfl
       refine cd_cond hs84 (Ev.t 0 rfl) (fun h => absurd (hc85.symm.trans h) (by decide)) (fun _ => ?_)
       refine cd_skip ?_
       refine th_norm (hK83 _ _ ?_)
       refine cd_region fun K86 hK86 => ?_
       refine sq rfl (st_move hs84 (Ev.t 1 rfl) rfl rfl fun _ _ hs85 => ?_); clear hs84
       refine sq rfl (st_cmp (c := true) hs85 (Ev.t 0 rfl) (.const _) rfl rfl rfl rfl fun _ _ hs86 => ?_); clear hs85
       refine sq rfl (st_move hs86 (Ev.t 0 rfl) rfl rfl fun _ _ hs87 => ?_); clear hs86
       refine sq_on hs87 rfl rfl 0 rfl rfl (st_loadA (o := 0) (off := 0) (vs := (bookL d A7 n c7)) hs87 (Ev.t 8 rfl) rfl rfl Tryd.isAgg27 Tryd.sizeOf27 (hs87.cells 3 rfl) rfl fun _ _ hs88 => ?_); clear hs87
       refine sq_on hs88 rfl rfl 1 rfl rfl (st_move hs88 (Ev.t 6 rfl) rfl rfl fun _ _ hs89 => ?_); clear hs88
       refine sq_on hs89 rfl rfl 2 rfl rfl (st_callv (vs := [.agg ⟨(bookL d A7 n c7)⟩, .slice A75 pl2.length c75]) hs89 (.func _) ⟨(Ev.t 1 rfl), (Ev.t 0 rfl), trivial⟩ rfl rfl Tryd.call33 rfl (callsV_eq (v' := .bool true) (allowed_v d A7 n c7 A75 pl2.length c75 pl2 _ (by rw [hdl]; exact hown9.at hs89 2 rfl) hn (hO75.at hs89 0 rfl) (by omega) hbd) (by rw [good_isPlan hgood2])) fun _ _ hs90 => ?_); clear hs89
       refine sq rfl (st_pick hs90 (Ev.t 3 rfl) rfl rfl (fun h => (Ev.t 0 rfl)) (fun h => by cases h) fun _ _ hs91 => ?_); clear hs90
       refine sq rfl (st_move hs91 (Ev.t 0 rfl) rfl rfl fun _ _ hs92 => ?_); clear hs91
       refine sq_on hs92 rfl rfl 0 rfl rfl (st_move hs92 (Ev.t 10 rfl) rfl rfl fun _ _ hs93 => ?_); clear hs92
       refine sq_on hs93 rfl rfl 1 rfl rfl (st_callv (vs := [.slice A75 pl2.length c75]) hs93 (.func _) ⟨(Ev.t 0 rfl), trivial⟩ rfl rfl Tryd.call41 rfl (many_v A75 pl2.length c75 pl2 _ (hO75.at hs93 0 rfl) (by omega) hsm2) fun _ _ hs94 => ?_); clear hs93
       refine sq_on hs94 rfl rfl 2 rfl rfl (st_move hs94 (Ev.t 14 rfl) rfl rfl fun _ _ hs95 => ?_); clear hs94
       refine sq_on hs95 rfl rfl 3 rfl rfl (st_callv (vs := [.slice A9 pl.length c9]) hs95 (.func _) ⟨(Ev.t 0 rfl), trivial⟩ rfl rfl Tryd.call41 rfl (many_v A9 pl.length c9 pl _ (hown5.at hs95 1 rfl) (by omega) hsmp) fun _ _ hs96 => ?_); clear hs95
       refine sq_on hs96 rfl rfl 4 rfl rfl (st_cmp (c := decide ((sumW pl2 : Int) ≤ (sumW pl))) hs96 (Ev.t 2 rfl) (Ev.t 0 rfl) rfl rfl rfl rfl fun _ _ hs97 => ?_); clear hs96
       refine sq rfl (st_pick hs97 (Ev.t 5 rfl) rfl rfl (fun h => (Ev.t 0 rfl)) (fun h => by cases h) fun _ _ hs98 => ?_); clear hs97
       refine sq rfl (st_move hs98 (Ev.t 0 rfl) rfl rfl fun _ _ hs99 => ?_); clear hs98
       refine sq_gv hs99 (gg := decide ((sumW pl2 : Int) ≤ (sumW pl))) (v := .bool true) rfl rfl 0 rfl (ison_t _) rfl rfl rfl (fun hg87 K88 hK88 => st_callv (vs := []) hs99 (.func _) trivial rfl rfl Tryd.call20 rfl (fired_v _ (hG.kp hs99.kp (by simp))) hK88) fun _ _ hs100 => ?_; clear hs99
       refine sq rfl (st_and hs100 (gx := true) (gy := decide ((sumW pl2 : Int) ≤ (sumW pl))) (Ev.t 1 rfl) rfl (Ev.t 0 rfl) (fun h => h) rfl rfl fun _ _ hs101 => ?_); clear hs100
       have hs102 := Sx.keepT [0, 1, 2, 3, 4, 5, 6, 7, 8, 9, 10, 11, 12, 13, 14, 15, 16, 17, 18, 19, 20, 21, 22] [_, _, _, _, _, _, _, _, _, _, _, _, _, _, _, _, _, _, _, _, _, _, _] ⟨rfl, rfl, rfl, rfl, rfl, rfl, rfl, rfl, rfl, rfl, rfl, rfl, rfl, rfl, rfl, rfl, rfl, rfl, rfl, rfl, rfl, rfl, rfl, trivial⟩ hs101; clear hs101
       refine sq rfl (st_assign hs102 (Ev.t 0 rfl) rfl rfl fun _ _ hs103 => ?_); clear hs102
       refine hK86 _ _ ?_; clear hK86
       have hs104 := Sx.keepT [0] [_] ⟨rfl, trivial⟩ hs103; clear hs103
       refine cd_retv (vs := [.bool ((decide ((sumW pl2 : Int) ≤ (sumW pl))) && true)]) hs104 hQ0 rfl ⟨.tmp 0 rfl, trivial⟩ ?_
       clear hs104 hQ0 hN0
       first | rfl | (simp [pack]; done) | (rcases h06 with rfl | rfl <;> simp [pack]; done) | (simp [pack]; omega)
end Go.Proofs.YtdbcedmofoakmaaDoor
