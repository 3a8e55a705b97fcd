/- The till: a box is opened; the numbers of a roll, by an iterator. -/
import Derived.Test.YtcnndpedeofbmaaDoorUb
set_option maxRecDepth 100000
namespace Go.Proofs.YtcnndpedeofbmaaDoor
open Go Go.Sx Go.Till Go.Proofs.Tryd
theorem soldlen {b : Bx} (hO : Ok b) : b.sold.length = b.rolls.length := by
  have := hO.len; simp [Bx.sold]; omega

set_option maxHeartbeats 1000000 in
theorem opened_b (b : Bx) (A : Option Addr) (n cp : Nat) (A2 : Option Addr) (n2 c2 : Nat) (w : World) (hP : RollsAt w A n b.rolls) (_hn : n ≤ 140737488351232) (hF : SpsAt w A2 n2 b.free) (hn2 : n2 ≤ 140737488351232) (hO : Ok b) :
    CallsB Tryd.prog 51 [.agg ⟨bxL b A n cp A2 n2 c2⟩] w (fun v bs => ∃ A7 c7 b7 o7 m, v = .agg ⟨boxL b A n cp A2 n2 c2 A7 n c7 m⟩ ∧ Sx.Own spL 2 35 A7 c7 b.sold b7 o7 ∧ bs = [(b7, o7), (m, some (.map #[] 0))]) := by
 have hl1 := hP.len
 have hl2 := hF.len
 have hlen := hO.len
 have hn4 := hO.n
 refine enter (N := 63) (M := []) w func51 rfl rfl rfl (fun Q0 a_0 hQ0 hN0 hs0 => ?_)
 refine cd_region fun K1 hK1 => ?_
 refine sq rfl (st_box hs0 (Ev.t 0 rfl) rfl rfl rfl fun b2 _ _ hs1 => ?_); clear hs0
 refine sq rfl (st_alloc hs1 rfl rfl zeroValue66 rfl fun b3 _ _ hs2 => ?_); clear hs1
 refine hK1 _ _ ?_; clear hK1
 have hs3 := hs2.keep [0, 1] [_, _] rfl; clear hs2
 refine cd_region fun K4 hK4 => ?_
 refine sq rfl (st_loadA (o := 0) (off := 0) (vs := (bxL b A n cp A2 n2 c2)) hs3 (Ev.t 1 rfl) rfl rfl isAgg25 sizeOf25 (hs3.cells 1 rfl) rfl fun _ _ hs4 => ?_); clear hs3
 refine sq rfl (st_makeMap hs4 rfl rfl fun b5 _ _ hs5 => ?_); clear hs4
 refine sq rfl (st_build hs5 (qs := [(0, .agg ⟨(bxL b A n cp A2 n2 c2)⟩), (1, .slice none 0 0), (2, .map (some b5))]) (v := .agg ⟨[.slice A n cp, .slice A2 n2 c2, .int .i64 b.count, .int .i64 b.err, .int .i64 b.duty, .int .i64 b.share, .int .i64 b.guar, .slice none 0 0, .map (some b5)]⟩) ⟨(Ev.t 1 rfl), (.const _), (Ev.t 0 rfl), trivial⟩ rfl rfl rfl (fun _ => by kernel_rfl) fun _ _ hs6 => ?_); clear hs5
 refine sq rfl (st_alloc hs6 rfl rfl zeroValue66 rfl fun b6 _ _ hs7 => ?_); clear hs6
 refine sq rfl (st_store (l' := [.slice A n cp, .slice A2 n2 c2, .int .i64 b.count, .int .i64 b.err, .int .i64 b.duty, .int .i64 b.share, .int .i64 b.guar, .slice none 0 0, .map (some b5)]) (vs := [.slice A n cp, .slice A2 n2 c2, .int .i64 b.count, .int .i64 b.err, .int .i64 b.duty, .int .i64 b.share, .int .i64 b.guar, .slice none 0 0, .map (some b5)]) (i := 0) hs7 (Ev.t 0 rfl) (Ev.t 1 rfl) sizeOf66 rfl rfl rfl rfl rfl rfl fun _ _ hs8 => ?_); clear hs7
 have hs9 := hs8.asB [_, _, _, _] rfl; clear hs8
 refine hK4 _ _ ?_; clear hK4
 have hs10 := hs9.keep [0, 4, 5] [_, _, _] rfl; clear hs9
 have hs11 := hs10.hide 0; clear hs10
 refine cd_seq fun K7 hK7 => ?_
 refine cd_region fun K8 hK8 => ?_
 refine sq rfl (st_field (o' := 0) hs11 (Ev.t 2 rfl) rfl rfl runUnderlying25 rfl sizeOf22 rfl rfl fun _ _ hs12 => ?_); clear hs11
 refine sq rfl (st_load1 (o := 0) (off := 0) (v := .slice A n cp) hs12 (Ev.t 0 rfl) rfl rfl isAgg22 (hs12.cells 4 rfl) rfl fun _ _ hs13 => ?_); clear hs12
 refine sq rfl (st_len hs13 (Ev.t 0 rfl) rfl rfl runUnderlying22 fun _ _ hs14 => ?_); clear hs13
 refine sq rfl (st_move hs14 (.const _) rfl rfl fun _ _ hs15 => ?_); clear hs14
 refine hK8 _ _ ?_; clear hK8
 have hs16 := hs15.keep [0, 1, 2, 4, 5, 6] [_, _, _, _, _, _] rfl; clear hs15
 refine cd_block ?_
 have hs17 : Sx 63 [] [(13, .int .i64 ((OwG.mk 0 none 0 ([] : List Sp) 0 none).k : Int)), (12, .int .i64 (n : Int)), (11, .slice A n cp), (3, .pointer (some ⟨b6, 0, none⟩)), (2, .pointer (some ⟨b3, 0, none⟩)), (1, .pointer (some ⟨b2, 0, none⟩))] [((OwG.mk 0 none 0 ([] : List Sp) 0 none).b, (OwG.mk 0 none 0 ([] : List Sp) 0 none).o), (b6, some (.cells ⟨[.slice A n cp, .slice A2 n2 c2, .int .i64 b.count, .int .i64 b.err, .int .i64 b.duty, .int .i64 b.share, .int .i64 b.guar, .slice ((OwG.mk 0 none 0 ([] : List Sp) 0 none).A) ((OwG.mk 0 none 0 ([] : List Sp) 0 none).l.length) ((OwG.mk 0 none 0 ([] : List Sp) 0 none).c), .map (some b5)]⟩ 66 (0, 0))), (b5, some (.map #[] 0)), (b3, some (.cells ⟨[.slice none 0 0, .slice none 0 0, .int .i64 0, .int .i64 0, .int .i64 0, .int .i64 0, .int .i64 0, .slice none 0 0, .map none]⟩ 66 (0, 0))), (b2, some (.cells ⟨(bxL b A n cp A2 n2 c2)⟩ 25 (0, 0)))] [] w _ _ := Sx.keepE [0, 1, 2, 3, 4, 5] _ ⟨⟨_, rfl, rfl⟩, ⟨_, rfl, rfl⟩, ⟨_, rfl, rfl⟩, ⟨_, rfl, rfl⟩, ⟨_, rfl, rfl⟩, ⟨_, rfl, rfl⟩, trivial⟩ hs16; clear hs16
 refine cd_loop (X := OwG Sp) (fun g a_ w_ => (g.k ≤ n) ∧ (g.l = b.sold.take g.k) ∧ (Sx.Own spL 2 35 g.A g.c g.l g.b g.o) ∧ Sx 63 [] [(13, .int .i64 (g.k : Int)), (12, .int .i64 (n : Int)), (11, .slice A n cp), (3, .pointer (some ⟨b6, 0, none⟩)), (2, .pointer (some ⟨b3, 0, none⟩)), (1, .pointer (some ⟨b2, 0, none⟩))] [(g.b, g.o), (b6, some (.cells ⟨[.slice A n cp, .slice A2 n2 c2, .int .i64 b.count, .int .i64 b.err, .int .i64 b.duty, .int .i64 b.share, .int .i64 b.guar, .slice g.A g.l.length g.c, .map (some b5)]⟩ 66 (0, 0))), (b5, some (.map #[] 0)), (b3, some (.cells ⟨[.slice none 0 0, .slice none 0 0, .int .i64 0, .int .i64 0, .int .i64 0, .int .i64 0, .int .i64 0, .slice none 0 0, .map none]⟩ 66 (0, 0))), (b2, some (.cells ⟨(bxL b A n cp A2 n2 c2)⟩ 25 (0, 0)))] [] w a_ w_) (fun g => n - g.k) ((OwG.mk 0 none 0 ([] : List Sp) 0 none)) ⟨?_, ?_, ?_, hs17⟩ ?_
 · exact Nat.zero_le _
 · simp
 · exact .inl ⟨rfl, rfl⟩
 intro g a_18 w_18 ⟨hk, hgl, hown, hs18⟩; clear hs17
 refine cd_region fun K9 hK9 => ?_
 refine sq rfl (st_cmp (c := decide (((g.k : Int) : Int) < (n : Int))) hs18 (Ev.t 0 rfl) (Ev.t 1 rfl) rfl rfl rfl rfl fun _ _ hs19 => ?_); clear hs18
 refine hK9 _ _ ?_; clear hK9
 refine cd_seq fun K10 hK10 => ?_
 refine cd_cond hs19 (Ev.t 0 rfl) (fun hc11 => ?_) (fun hc11 => ?_)
 · have hin : g.k < n := by simpa using hc11
   have hil : g.k < b.rolls.length := by omega
   have hil2 : g.k < b.free.length := by omega
   obtain ⟨x12, hx12⟩ : ∃ x, b.rolls[g.k]? = some x := ⟨_, List.getElem?_eq_getElem (by have := hP.len; omega)⟩
   obtain ⟨b13, o13, hA13, -, hc13⟩ := hP.el g.k x12 hx12
   obtain ⟨x14, hx14⟩ : ∃ x, b.free[g.k]? = some x := ⟨_, List.getElem?_eq_getElem (by have := hF.len; omega)⟩
   obtain ⟨b15, o15, hA15, -, hc15⟩ := hF.el g.k x14 hx14
   have h1 := ok_roll (hO.roll _ _ hx12); have h2 := ok_free (hO.free _ _ hx14)
   have hgl9 : g.l.length = g.k := by rw [hgl, List.length_take, soldlen hO]; omega
   refine cd_skip ?_
   refine th_norm (hK10 _ _ ?_)
   refine cd_seq fun K16 hK16 => ?_
   refine cd_block ?_
   refine cd_region fun K17 hK17 => ?_
   refine sq rfl (st_move hs19 (Ev.t 1 rfl) rfl rfl fun _ _ hs20 => ?_); clear hs19
   refine sq rfl (st_indexM (o' := o13 + g.k * 5) hs20 (Ev.t 4 rfl) (Ev.t 2 rfl) rfl rfl hA13 runUnderlying22 sizeOf46 ⟨by omega, by have := hP.len; have := (List.getElem?_eq_some_iff.1 hx12).1; omega⟩ rfl fun _ _ hs21 => ?_); clear hs20
   refine sq rfl (st_loadA (o := o13 + g.k * 5) (off := 0) (vs := (rollL x12)) hs21 (Ev.t 0 rfl) rfl rfl isAgg46 sizeOf46 (hs21.old hc13 (by simp)) rfl fun _ _ hs22 => ?_); clear hs21
   refine sq rfl (st_alloc hs22 rfl rfl zeroValue46 rfl fun b18 _ _ hs23 => ?_); clear hs22
   refine sq rfl (st_assign hs23 (Ev.t 3 rfl) rfl rfl fun _ _ hs24 => ?_); clear hs23
   refine sq rfl (st_store (l' := (rollL x12)) (vs := (rollL x12)) (i := 0) hs24 (Ev.t 1 rfl) (Ev.t 2 rfl) sizeOf46 rfl rfl rfl rfl rfl rfl fun _ _ hs25 => ?_); clear hs24
   have hs26 := hs25.asB [_, _, _, _, _, _] rfl; clear hs25
   refine hK17 _ _ ?_; clear hK17
   have hs27 := hs26.keep [0, 1, 6, 7, 8, 9, 10, 11] [_, _, _, _, _, _, _, _] rfl; clear hs26
   refine cd_drawn mixed hs27 [⟨18, [], Is (.pointer (some ⟨b18, 3, none⟩))⟩, ⟨19, [0], Is (.pointer (some ⟨b18, 3, none⟩))⟩, ⟨20, [1], Is (.int .i64 x12.fin.lo)⟩, ⟨21, [], Is (.pointer (some ⟨b18, 1, none⟩))⟩, ⟨22, [3], Is (.pointer (some ⟨b18, 2, none⟩))⟩, ⟨23, [4], Is (.int .i64 x12.first.hi)⟩, ⟨24, [2, 5], Is (.int .i64 (x12.fin.lo - x12.first.hi))⟩, ⟨25, [6], fun v_ bs_ => ∃ b20, v_ = .slice (some ⟨b20, 0, none⟩) 1 1 ∧ bs_ = [(b20, some (.cells ⟨[.int .i64 (x12.fin.lo - x12.first.hi)]⟩ 3 (0, 0)))]⟩, ⟨26, [7], Is (.int .i64 (max 0 (x12.fin.lo - x12.first.hi)))⟩, ⟨27, [], Is (.pointer (some ⟨b18, 3, none⟩))⟩, ⟨28, [9], Is (.pointer (some ⟨b18, 4, none⟩))⟩, ⟨29, [10], Is (.int .i64 x12.fin.hi)⟩, ⟨30, [], Is (.pointer (some ⟨b18, 1, none⟩))⟩, ⟨31, [12], Is (.pointer (some ⟨b18, 1, none⟩))⟩, ⟨32, [13], Is (.int .i64 x12.first.lo)⟩, ⟨33, [11, 14], Is (.int .i64 (x12.fin.hi - x12.first.lo))⟩, ⟨34, [8, 15], Is (.agg ⟨[.int .i64 (max 0 (x12.fin.lo - x12.first.hi)), .int .i64 (x12.fin.hi - x12.first.lo)]⟩)⟩, ⟨6, [], fun v_ bs_ => ∃ b21, v_ = .pointer (some ⟨b21, 0, none⟩) ∧ bs_ = [(b21, some (.cells ⟨[.int .i64 0, .int .i64 0]⟩ 35 (0, 0)))]⟩] (by kernel_rfl) (by kernel_rfl) fun K19 hK19 => ⟨⟨?_, ?_, ?_, ?_, ?_, ?_, ?_, ?_, ?_, ?_, ?_, ?_, ?_, ?_, ?_, ?_, ?_, ?_, trivial⟩, ?_⟩
   · rintro T_ B_ a_ w_ K_ hT hB hf hsD hk
     exact ob rfl rfl (st_field (o' := 3) hsD (evT hT 1 rfl) rfl hf runUnderlying46 rfl sizeOf35 rfl rfl fun _ _ => hk _ _ _ _ ⟨rfl, rfl⟩)
   · rintro T_ B_ a_ w_ K_ hT hB _ _ ⟨rfl, rfl⟩ h18 - hf hsD hk
     exact ob rfl rfl (st_field (o' := 3) hsD (Ev.tmp h18) rfl hf runUnderlying35 rfl sizeOf3 rfl rfl fun _ _ => hk _ _ _ _ ⟨rfl, rfl⟩)
   · rintro T_ B_ a_ w_ K_ hT hB _ _ ⟨rfl, rfl⟩ h19 - hf hsD hk
     exact ob rfl rfl (st_load1 (o := 0) (off := 3) (v := .int .i64 x12.fin.lo) hsD (Ev.tmp h19) rfl hf isAgg3 (hsD.cellsM (inB hB 0 rfl)) rfl fun _ _ => hk _ _ _ _ ⟨rfl, rfl⟩)
   · rintro T_ B_ a_ w_ K_ hT hB hf hsD hk
     exact ob rfl rfl (st_field (o' := 1) hsD (evT hT 1 rfl) rfl hf runUnderlying46 rfl sizeOf35 rfl rfl fun _ _ => hk _ _ _ _ ⟨rfl, rfl⟩)
   · rintro T_ B_ a_ w_ K_ hT hB _ _ ⟨rfl, rfl⟩ h21 - hf hsD hk
     exact ob rfl rfl (st_field (o' := 2) hsD (Ev.tmp h21) rfl hf runUnderlying35 rfl sizeOf3 rfl rfl fun _ _ => hk _ _ _ _ ⟨rfl, rfl⟩)
   · rintro T_ B_ a_ w_ K_ hT hB _ _ ⟨rfl, rfl⟩ h22 - hf hsD hk
     exact ob rfl rfl (st_load1 (o := 0) (off := 2) (v := .int .i64 x12.first.hi) hsD (Ev.tmp h22) rfl hf isAgg3 (hsD.cellsM (inB hB 0 rfl)) rfl fun _ _ => hk _ _ _ _ ⟨rfl, rfl⟩)
   · rintro T_ B_ a_ w_ K_ hT hB _ _ ⟨rfl, rfl⟩ h20 - _ _ ⟨rfl, rfl⟩ h23 - hf hsD hk
     exact ob rfl rfl (st_sub (z := x12.fin.lo - x12.first.hi) hsD (Ev.tmp h20) (Ev.tmp h23) rfl hf rfl (by omega) fun _ _ => hk _ _ _ _ ⟨rfl, rfl⟩)
   · rintro T_ B_ a_ w_ K_ hT hB _ _ ⟨rfl, rfl⟩ h24 - hf hsD hk
     exact ob rfl rfl (st_buildSlice hsD (qs := [(0, .int .i64 (x12.fin.lo - x12.first.hi))]) (e := 3) (l := [.int .i64 (x12.fin.lo - x12.first.hi)]) ⟨(Ev.tmp h24), trivial⟩ rfl hf rfl (fun _ => by kernel_rfl) fun b20 _ _ => hk _ _ _ _ ⟨b20, rfl, rfl⟩)
   · rintro T_ B_ a_ w_ K_ hT hB _ _ ⟨b20, rfl, rfl⟩ h25 hB25 hf hsD hk
     exact ob rfl rfl (st_callv (vs := [.int .i64 0, .slice (some ⟨b20, 0, none⟩) 1 1]) hsD (.func _) ⟨(.const _), (Ev.tmp h25), trivial⟩ rfl hf call49 rfl (great_v 0 (x12.fin.lo - x12.first.hi) b20 _ (hsD.cellsM (hB25 _ List.mem_cons_self))) fun _ _ => hk _ _ _ _ ⟨rfl, rfl⟩)
   · rintro T_ B_ a_ w_ K_ hT hB hf hsD hk
     exact ob rfl rfl (st_field (o' := 3) hsD (evT hT 1 rfl) rfl hf runUnderlying46 rfl sizeOf35 rfl rfl fun _ _ => hk _ _ _ _ ⟨rfl, rfl⟩)
   · rintro T_ B_ a_ w_ K_ hT hB _ _ ⟨rfl, rfl⟩ h27 - hf hsD hk
     exact ob rfl rfl (st_field (o' := 4) hsD (Ev.tmp h27) rfl hf runUnderlying35 rfl sizeOf3 rfl rfl fun _ _ => hk _ _ _ _ ⟨rfl, rfl⟩)
   · rintro T_ B_ a_ w_ K_ hT hB _ _ ⟨rfl, rfl⟩ h28 - hf hsD hk
     exact ob rfl rfl (st_load1 (o := 0) (off := 4) (v := .int .i64 x12.fin.hi) hsD (Ev.tmp h28) rfl hf isAgg3 (hsD.cellsM (inB hB 0 rfl)) rfl fun _ _ => hk _ _ _ _ ⟨rfl, rfl⟩)
   · rintro T_ B_ a_ w_ K_ hT hB hf hsD hk
     exact ob rfl rfl (st_field (o' := 1) hsD (evT hT 1 rfl) rfl hf runUnderlying46 rfl sizeOf35 rfl rfl fun _ _ => hk _ _ _ _ ⟨rfl, rfl⟩)
   · rintro T_ B_ a_ w_ K_ hT hB _ _ ⟨rfl, rfl⟩ h30 - hf hsD hk
     exact ob rfl rfl (st_field (o' := 1) hsD (Ev.tmp h30) rfl hf runUnderlying35 rfl sizeOf3 rfl rfl fun _ _ => hk _ _ _ _ ⟨rfl, rfl⟩)
   · rintro T_ B_ a_ w_ K_ hT hB _ _ ⟨rfl, rfl⟩ h31 - hf hsD hk
     exact ob rfl rfl (st_load1 (o := 0) (off := 1) (v := .int .i64 x12.first.lo) hsD (Ev.tmp h31) rfl hf isAgg3 (hsD.cellsM (inB hB 0 rfl)) rfl fun _ _ => hk _ _ _ _ ⟨rfl, rfl⟩)
   · rintro T_ B_ a_ w_ K_ hT hB _ _ ⟨rfl, rfl⟩ h29 - _ _ ⟨rfl, rfl⟩ h32 - hf hsD hk
     exact ob rfl rfl (st_sub (z := x12.fin.hi - x12.first.lo) hsD (Ev.tmp h29) (Ev.tmp h32) rfl hf rfl (by omega) fun _ _ => hk _ _ _ _ ⟨rfl, rfl⟩)
   · rintro T_ B_ a_ w_ K_ hT hB _ _ ⟨rfl, rfl⟩ h26 - _ _ ⟨rfl, rfl⟩ h33 - hf hsD hk
     exact ob rfl rfl (st_build hsD (qs := [(0, .int .i64 (max 0 (x12.fin.lo - x12.first.hi))), (1, .int .i64 (x12.fin.hi - x12.first.lo))]) (v := .agg ⟨[.int .i64 (max 0 (x12.fin.lo - x12.first.hi)), .int .i64 (x12.fin.hi - x12.first.lo)]⟩) ⟨(Ev.tmp h26), (Ev.tmp h33), trivial⟩ rfl hf rfl (fun _ => by kernel_rfl) fun _ _ => hk _ _ _ _ ⟨rfl, rfl⟩)
   · rintro T_ B_ a_ w_ K_ hT hB hf hsD hk
     exact ob rfl rfl (st_alloc hsD rfl hf zeroValue35 rfl fun b21 _ _ => hk _ _ _ _ ⟨b21, rfl, rfl⟩)
   rintro _ _ ⟨rfl, rfl⟩ _ _ ⟨rfl, rfl⟩ _ _ ⟨rfl, rfl⟩ _ _ ⟨rfl, rfl⟩ _ _ ⟨rfl, rfl⟩ _ _ ⟨rfl, rfl⟩ _ _ ⟨rfl, rfl⟩ _ _ ⟨b20, rfl, rfl⟩ _ _ ⟨rfl, rfl⟩ _ _ ⟨rfl, rfl⟩ _ _ ⟨rfl, rfl⟩ _ _ ⟨rfl, rfl⟩ _ _ ⟨rfl, rfl⟩ _ _ ⟨rfl, rfl⟩ _ _ ⟨rfl, rfl⟩ _ _ ⟨rfl, rfl⟩ _ _ ⟨rfl, rfl⟩ _ _ ⟨b21, rfl, rfl⟩ a_28 w_28 hs28; clear hs27
   have hs29 := Sx.as (T' := [_, _, _, _, _, _, _, _, _, _, _, _, _, _, _, _, _, _, _, _, _, _, _, _, _, _]) (B' := [_, _, _, _, _, _, _, _]) rfl rfl hs28; clear hs28
   refine sq rfl (st_store (l' := [.int .i64 (max 0 (x12.fin.lo - x12.first.hi)), .int .i64 (x12.fin.hi - x12.first.lo)]) (vs := [.int .i64 (max 0 (x12.fin.lo - x12.first.hi)), .int .i64 (x12.fin.hi - x12.first.lo)]) (i := 1) hs29 (Ev.t 17 rfl) (Ev.t 16 rfl) sizeOf35 rfl rfl rfl rfl rfl rfl fun _ _ hs30 => ?_); clear hs29
   have hs31 := hs30.asB [_, _, _, _, _, _, _, _] rfl; clear hs30
   refine hK19 _ _ ?_; clear hK19
   have hs32 := hs31.keep [17, 18, 20, 21, 22, 23, 24, 25] [_, _, _, _, _, _, _, _] rfl; clear hs31
   refine cd_drawnP1 mixed hs32 [⟨35, [], Is (.pointer (some ⟨b6, 7, none⟩))⟩, ⟨36, [0], Is (.slice g.A g.l.length g.c)⟩, ⟨37, [], Is (.pointer (some ⟨b21, 0, none⟩))⟩, ⟨38, [2], Is (.int .i64 (max 0 (x12.fin.lo - x12.first.hi)))⟩, ⟨39, [], Is (.pointer (some ⟨b2, 1, none⟩))⟩, ⟨40, [4], Is (.slice A2 n2 c2)⟩, ⟨41, [], Is (.int .i64 (g.k : Int))⟩, ⟨42, [5, 6], Is (.pointer (some ⟨b15, o15 + g.k * 2, none⟩))⟩, ⟨43, [7], Is (.pointer (some ⟨b15, o15 + g.k * 2 + 1, none⟩))⟩, ⟨44, [8], Is (.int .i64 x14.hi)⟩, ⟨45, [3, 9], Is (.int .i64 ((max 0 (x12.fin.lo - x12.first.hi)) - x14.hi))⟩, ⟨46, [10], fun v_ bs_ => ∃ b22, v_ = .slice (some ⟨b22, 0, none⟩) 1 1 ∧ bs_ = [(b22, some (.cells ⟨[.int .i64 ((max 0 (x12.fin.lo - x12.first.hi)) - x14.hi)]⟩ 3 (0, 0)))]⟩, ⟨47, [11], Is (.int .i64 (max 0 ((max 0 (x12.fin.lo - x12.first.hi)) - x14.hi)))⟩, ⟨48, [], Is (.pointer (some ⟨b21, 1, none⟩))⟩, ⟨49, [13], Is (.int .i64 (x12.fin.hi - x12.first.lo))⟩, ⟨50, [], Is (.pointer (some ⟨b2, 1, none⟩))⟩, ⟨51, [15], Is (.slice A2 n2 c2)⟩, ⟨52, [], Is (.int .i64 (g.k : Int))⟩, ⟨53, [16, 17], Is (.pointer (some ⟨b15, o15 + g.k * 2, none⟩))⟩, ⟨54, [18], Is (.pointer (some ⟨b15, o15 + g.k * 2, none⟩))⟩, ⟨55, [19], Is (.int .i64 x14.lo)⟩, ⟨56, [14, 20], Is (.int .i64 ((x12.fin.hi - x12.first.lo) - x14.lo))⟩, ⟨57, [12, 21], Is (.agg ⟨[.int .i64 (max 0 ((max 0 (x12.fin.lo - x12.first.hi)) - x14.hi)), .int .i64 ((x12.fin.hi - x12.first.lo) - x14.lo)]⟩)⟩, ⟨58, [22], fun v_ bs_ => ∃ b23, v_ = .slice (some ⟨b23, 0, none⟩) 1 1 ∧ bs_ = [(b23, some (.cells ⟨[.int .i64 (max 0 ((max 0 (x12.fin.lo - x12.first.hi)) - x14.hi)), .int .i64 ((x12.fin.hi - x12.first.lo) - x14.lo)]⟩ 35 (0, 0)))]⟩] (by kernel_rfl) (by kernel_rfl) ⟨⟨?_, ?_, ?_, ?_, ?_, ?_, ?_, ?_, ?_, ?_, ?_, ?_, ?_, ?_, ?_, ?_, ?_, ?_, ?_, ?_, ?_, ?_, ?_, ?_, trivial⟩, ?_⟩
   · rintro T_ B_ a_ w_ K_ hT hB hf hsD hk
     exact ob rfl rfl (st_field (o' := 7) hsD (evT hT 5 rfl) rfl hf runUnderlying66 rfl sizeOf23 rfl rfl fun _ _ => hk _ _ _ _ ⟨rfl, rfl⟩)
   · rintro T_ B_ a_ w_ K_ hT hB _ _ ⟨rfl, rfl⟩ h35 - hf hsD hk
     exact ob rfl rfl (st_load1 (o := 0) (off := 7) (v := .slice g.A g.l.length g.c) hsD (Ev.tmp h35) rfl hf isAgg23 (hsD.cellsM (inB hB 4 rfl)) rfl fun _ _ => hk _ _ _ _ ⟨rfl, rfl⟩)
   · rintro T_ B_ a_ w_ K_ hT hB hf hsD hk
     exact ob rfl rfl (st_field (o' := 0) hsD (evT hT 0 rfl) rfl hf runUnderlying35 rfl sizeOf3 rfl rfl fun _ _ => hk _ _ _ _ ⟨rfl, rfl⟩)
   · rintro T_ B_ a_ w_ K_ hT hB _ _ ⟨rfl, rfl⟩ h37 - hf hsD hk
     exact ob rfl rfl (st_load1 (o := 0) (off := 0) (v := .int .i64 (max 0 (x12.fin.lo - x12.first.hi))) hsD (Ev.tmp h37) rfl hf isAgg3 (hsD.cellsM (inB hB 1 rfl)) rfl fun _ _ => hk _ _ _ _ ⟨rfl, rfl⟩)
   · rintro T_ B_ a_ w_ K_ hT hB hf hsD hk
     exact ob rfl rfl (st_field (o' := 1) hsD (evT hT 7 rfl) rfl hf runUnderlying25 rfl sizeOf23 rfl rfl fun _ _ => hk _ _ _ _ ⟨rfl, rfl⟩)
   · rintro T_ B_ a_ w_ K_ hT hB _ _ ⟨rfl, rfl⟩ h39 - hf hsD hk
     exact ob rfl rfl (st_load1 (o := 0) (off := 1) (v := .slice A2 n2 c2) hsD (Ev.tmp h39) rfl hf isAgg23 (hsD.cellsM (inB hB 7 rfl)) rfl fun _ _ => hk _ _ _ _ ⟨rfl, rfl⟩)
   · rintro T_ B_ a_ w_ K_ hT hB hf hsD hk
     exact ob rfl rfl (st_move hsD (evT hT 1 rfl) rfl hf fun _ _ => hk _ _ _ _ ⟨rfl, rfl⟩)
   · rintro T_ B_ a_ w_ K_ hT hB _ _ ⟨rfl, rfl⟩ h40 - _ _ ⟨rfl, rfl⟩ h41 - hf hsD hk
     exact ob rfl rfl (st_indexM (o' := o15 + g.k * 2) hsD (Ev.tmp h40) (Ev.tmp h41) rfl hf hA15 runUnderlying23 sizeOf35 ⟨by omega, by have := hF.len; have := (List.getElem?_eq_some_iff.1 hx14).1; omega⟩ rfl fun _ _ => hk _ _ _ _ ⟨rfl, rfl⟩)
   · rintro T_ B_ a_ w_ K_ hT hB _ _ ⟨rfl, rfl⟩ h42 - hf hsD hk
     exact ob rfl rfl (st_field (o' := o15 + g.k * 2 + 1) hsD (Ev.tmp h42) rfl hf runUnderlying35 rfl sizeOf3 rfl rfl fun _ _ => hk _ _ _ _ ⟨rfl, rfl⟩)
   · rintro T_ B_ a_ w_ K_ hT hB _ _ ⟨rfl, rfl⟩ h43 - hf hsD hk
     exact ob rfl rfl (st_load1 (o := o15 + g.k * 2) (off := 1) (v := .int .i64 x14.hi) hsD (Ev.tmp h43) rfl hf isAgg3 (hsD.old hc15 (by simp)) rfl fun _ _ => hk _ _ _ _ ⟨rfl, rfl⟩)
   · rintro T_ B_ a_ w_ K_ hT hB _ _ ⟨rfl, rfl⟩ h38 - _ _ ⟨rfl, rfl⟩ h44 - hf hsD hk
     exact ob rfl rfl (st_sub (z := (max 0 (x12.fin.lo - x12.first.hi)) - x14.hi) hsD (Ev.tmp h38) (Ev.tmp h44) rfl hf rfl (by omega) fun _ _ => hk _ _ _ _ ⟨rfl, rfl⟩)
   · rintro T_ B_ a_ w_ K_ hT hB _ _ ⟨rfl, rfl⟩ h45 - hf hsD hk
     exact ob rfl rfl (st_buildSlice hsD (qs := [(0, .int .i64 ((max 0 (x12.fin.lo - x12.first.hi)) - x14.hi))]) (e := 3) (l := [.int .i64 ((max 0 (x12.fin.lo - x12.first.hi)) - x14.hi)]) ⟨(Ev.tmp h45), trivial⟩ rfl hf rfl (fun _ => by kernel_rfl) fun b22 _ _ => hk _ _ _ _ ⟨b22, rfl, rfl⟩)
   · rintro T_ B_ a_ w_ K_ hT hB _ _ ⟨b22, rfl, rfl⟩ h46 hB46 hf hsD hk
     exact ob rfl rfl (st_callv (vs := [.int .i64 0, .slice (some ⟨b22, 0, none⟩) 1 1]) hsD (.func _) ⟨(.const _), (Ev.tmp h46), trivial⟩ rfl hf call49 rfl (great_v 0 ((max 0 (x12.fin.lo - x12.first.hi)) - x14.hi) b22 _ (hsD.cellsM (hB46 _ List.mem_cons_self))) fun _ _ => hk _ _ _ _ ⟨rfl, rfl⟩)
   · rintro T_ B_ a_ w_ K_ hT hB hf hsD hk
     exact ob rfl rfl (st_field (o' := 1) hsD (evT hT 0 rfl) rfl hf runUnderlying35 rfl sizeOf3 rfl rfl fun _ _ => hk _ _ _ _ ⟨rfl, rfl⟩)
   · rintro T_ B_ a_ w_ K_ hT hB _ _ ⟨rfl, rfl⟩ h48 - hf hsD hk
     exact ob rfl rfl (st_load1 (o := 0) (off := 1) (v := .int .i64 (x12.fin.hi - x12.first.lo)) hsD (Ev.tmp h48) rfl hf isAgg3 (hsD.cellsM (inB hB 1 rfl)) rfl fun _ _ => hk _ _ _ _ ⟨rfl, rfl⟩)
   · rintro T_ B_ a_ w_ K_ hT hB hf hsD hk
     exact ob rfl rfl (st_field (o' := 1) hsD (evT hT 7 rfl) rfl hf runUnderlying25 rfl sizeOf23 rfl rfl fun _ _ => hk _ _ _ _ ⟨rfl, rfl⟩)
   · rintro T_ B_ a_ w_ K_ hT hB _ _ ⟨rfl, rfl⟩ h50 - hf hsD hk
     exact ob rfl rfl (st_load1 (o := 0) (off := 1) (v := .slice A2 n2 c2) hsD (Ev.tmp h50) rfl hf isAgg23 (hsD.cellsM (inB hB 7 rfl)) rfl fun _ _ => hk _ _ _ _ ⟨rfl, rfl⟩)
   · rintro T_ B_ a_ w_ K_ hT hB hf hsD hk
     exact ob rfl rfl (st_move hsD (evT hT 1 rfl) rfl hf fun _ _ => hk _ _ _ _ ⟨rfl, rfl⟩)
   · rintro T_ B_ a_ w_ K_ hT hB _ _ ⟨rfl, rfl⟩ h51 - _ _ ⟨rfl, rfl⟩ h52 - hf hsD hk
     exact ob rfl rfl (st_indexM (o' := o15 + g.k * 2) hsD (Ev.tmp h51) (Ev.tmp h52) rfl hf hA15 runUnderlying23 sizeOf35 ⟨by omega, by have := hF.len; have := (List.getElem?_eq_some_iff.1 hx14).1; omega⟩ rfl fun _ _ => hk _ _ _ _ ⟨rfl, rfl⟩)
   · rintro T_ B_ a_ w_ K_ hT hB _ _ ⟨rfl, rfl⟩ h53 - hf hsD hk
     exact ob rfl rfl (st_field (o' := o15 + g.k * 2) hsD (Ev.tmp h53) rfl hf runUnderlying35 rfl sizeOf3 rfl rfl fun _ _ => hk _ _ _ _ ⟨rfl, rfl⟩)
   · rintro T_ B_ a_ w_ K_ hT hB _ _ ⟨rfl, rfl⟩ h54 - hf hsD hk
     exact ob rfl rfl (st_load1 (o := o15 + g.k * 2) (off := 0) (v := .int .i64 x14.lo) hsD (Ev.tmp h54) rfl hf isAgg3 (hsD.old hc15 (by simp)) rfl fun _ _ => hk _ _ _ _ ⟨rfl, rfl⟩)
   · rintro T_ B_ a_ w_ K_ hT hB _ _ ⟨rfl, rfl⟩ h49 - _ _ ⟨rfl, rfl⟩ h55 - hf hsD hk
     exact ob rfl rfl (st_sub (z := (x12.fin.hi - x12.first.lo) - x14.lo) hsD (Ev.tmp h49) (Ev.tmp h55) rfl hf rfl (by omega) fun _ _ => hk _ _ _ _ ⟨rfl, rfl⟩)
   · rintro T_ B_ a_ w_ K_ hT hB _ _ ⟨rfl, rfl⟩ h47 - _ _ ⟨rfl, rfl⟩ h56 - hf hsD hk
     exact ob rfl rfl (st_build hsD (qs := [(0, .int .i64 (max 0 ((max 0 (x12.fin.lo - x12.first.hi)) - x14.hi))), (1, .int .i64 ((x12.fin.hi - x12.first.lo) - x14.lo))]) (v := .agg ⟨[.int .i64 (max 0 ((max 0 (x12.fin.lo - x12.first.hi)) - x14.hi)), .int .i64 ((x12.fin.hi - x12.first.lo) - x14.lo)]⟩) ⟨(Ev.tmp h47), (Ev.tmp h56), trivial⟩ rfl hf rfl (fun _ => by kernel_rfl) fun _ _ => hk _ _ _ _ ⟨rfl, rfl⟩)
   · rintro T_ B_ a_ w_ K_ hT hB _ _ ⟨rfl, rfl⟩ h57 - hf hsD hk
     exact ob rfl rfl (st_buildSlice hsD (qs := [(0, .agg ⟨[.int .i64 (max 0 ((max 0 (x12.fin.lo - x12.first.hi)) - x14.hi)), .int .i64 ((x12.fin.hi - x12.first.lo) - x14.lo)]⟩)]) (e := 35) (l := [.int .i64 (max 0 ((max 0 (x12.fin.lo - x12.first.hi)) - x14.hi)), .int .i64 ((x12.fin.hi - x12.first.lo) - x14.lo)]) ⟨(Ev.tmp h57), trivial⟩ rfl hf rfl (fun _ => by kernel_rfl) fun b23 _ _ => hk _ _ _ _ ⟨b23, rfl, rfl⟩)
   rintro _ _ ⟨rfl, rfl⟩ _ _ ⟨rfl, rfl⟩ _ _ ⟨rfl, rfl⟩ _ _ ⟨rfl, rfl⟩ _ _ ⟨rfl, rfl⟩ _ _ ⟨rfl, rfl⟩ _ _ ⟨rfl, rfl⟩ _ _ ⟨rfl, rfl⟩ _ _ ⟨rfl, rfl⟩ _ _ ⟨rfl, rfl⟩ _ _ ⟨rfl, rfl⟩ _ _ ⟨b22, rfl, rfl⟩ _ _ ⟨rfl, rfl⟩ _ _ ⟨rfl, rfl⟩ _ _ ⟨rfl, rfl⟩ _ _ ⟨rfl, rfl⟩ _ _ ⟨rfl, rfl⟩ _ _ ⟨rfl, rfl⟩ _ _ ⟨rfl, rfl⟩ _ _ ⟨rfl, rfl⟩ _ _ ⟨rfl, rfl⟩ _ _ ⟨rfl, rfl⟩ _ _ ⟨rfl, rfl⟩ _ _ ⟨b23, rfl, rfl⟩ a_33 w_33 hs33; clear hs32
   have hs34 := Sx.as (T' := [_, _, _, _, _, _, _, _, _, _, _, _, _, _, _, _, _, _, _, _, _, _, _, _, _, _, _, _, _, _, _, _]) (B' := [_, _, _, _, _, _, _, _, _, _]) rfl rfl hs33; clear hs33
   refine tw_step (by kernel_rfl) (ob rfl rfl (st_append (enc := spL) (zs := g.l) (ys := [x12.sold x14]) (c := g.c) (i := 5) hs34 (Ev.t 1 rfl) (Ev.t 23 rfl) rfl rfl underlying23 (show (Tryd.prog.info? 35).map (fun i => (i.zero, i.size, i.bytes)) = some (some (.agg #[.int .i64 0, .int .i64 0]), 2, 16) by kernel_rfl) rfl (fun _ => rfl) (fun _ u hu => by simp only [spL, List.mem_cons, List.not_mem_nil, or_false] at hu; rcases hu with rfl | rfl <;> rfl) hown rfl (sl_at (enc := spL) (sz := 2) (ys := [x12.sold x14]) (fun _ => rfl) (by decide) (hs34.cells 1 rfl)) (by omega) (by omega) (fun A7 c7 b7 o7 _ _ hown7 hs35 => ?_))); clear hs34
   have hs36 := Sx.as (T' := [_, _, _, _, _, _, _, _, _, _, _, _, _, _, _, _, _, _, _, _, _, _, _, _, _, _, _, _, _, _, _, _, _]) (B' := [_, _, _, _, _, _, _, _, _, _]) rfl rfl hs35; clear hs35
   refine tw_step (by kernel_rfl) (ob rfl rfl (st_field (o' := 7) hs36 (Ev.t 30 rfl) rfl rfl runUnderlying66 rfl sizeOf23 rfl rfl fun _ _ hs37 => ?_)); clear hs36
   refine tw_step (by kernel_rfl) (ob rfl rfl (st_store (l' := [.slice A n cp, .slice A2 n2 c2, .int .i64 b.count, .int .i64 b.err, .int .i64 b.duty, .int .i64 b.share, .int .i64 b.guar, .slice A7 (g.l.length + 1) c7, .map (some b5)]) (vs := [.slice A7 (g.l.length + 1) c7]) (i := 6) hs37 (Ev.t 0 rfl) (Ev.t 1 rfl) sizeOf23 rfl rfl rfl rfl rfl rfl fun _ _ hs38 => ?_)); clear hs37
   have hs39 := hs38.asB [_, _, _, _, _, _, _, _, _, _] rfl; clear hs38
   refine tw_nil ?_
   have hs40 := hs39.keep [28, 29, 30, 31, 32, 33] [_, _, _, _, _, _] rfl; clear hs39
   refine in_norm ?_
   refine th_norm (hK16 _ _ ?_)
   refine cd_region1 ?_
   refine sq rfl (st_add (z := (g.k : Int) + 1) hs40 (Ev.t 0 rfl) (.const _) rfl rfl rfl (by omega) fun _ _ hs41 => ?_); clear hs40
   have hs42 := hs41.keep [0, 2, 3, 4, 5, 6] [_, _, _, _, _, _] rfl; clear hs41
   refine sq rfl (st_move hs42 (Ev.t 0 rfl) rfl rfl fun _ _ hs43 => ?_); clear hs42
   refine wpListIn_nil ?_
   have hs44 := hs43.keep [0, 2, 3, 4, 5, 6] [_, _, _, _, _, _] rfl; clear hs43
   refine ⟨(OwG.mk (g.k + 1) A7 c7 (g.l ++ [x12.sold x14]) b7 o7), ⟨?_, ?_, ?_, ?_⟩, by (show n - (g.k + 1) < n - g.k; omega)⟩
   · exact hin
   · show g.l ++ _ = b.sold.take (g.k + 1)
     rw [List.take_add_one, sold_at hx12 hx14, hgl]; simp
   · exact hown7
   have hs45 : Sx 63 [] [(13, .int .i64 ((g.k : Int) + 1)), (12, .int .i64 (n : Int)), (11, .slice A n cp), (3, .pointer (some ⟨b6, 0, none⟩)), (2, .pointer (some ⟨b3, 0, none⟩)), (1, .pointer (some ⟨b2, 0, none⟩))] [(b7, o7), (b6, some (.cells ⟨[.slice A n cp, .slice A2 n2 c2, .int .i64 b.count, .int .i64 b.err, .int .i64 b.duty, .int .i64 b.share, .int .i64 b.guar, .slice A7 (g.l.length + 1) c7, .map (some b5)]⟩ 66 (0, 0))), (b5, some (.map #[] 0)), (b3, some (.cells ⟨[.slice none 0 0, .slice none 0 0, .int .i64 0, .int .i64 0, .int .i64 0, .int .i64 0, .int .i64 0, .slice none 0 0, .map none]⟩ 66 (0, 0))), (b2, some (.cells ⟨(bxL b A n cp A2 n2 c2)⟩ 25 (0, 0)))] [] w _ _ := Sx.blks hs44 ((List.Sublist.cons _ (List.Sublist.cons _ (List.Sublist.cons _ (List.Sublist.cons _ (List.Sublist.cons _ (List.Sublist.cons_cons _ (List.Sublist.cons_cons _ (List.Sublist.cons_cons _ (List.Sublist.cons_cons _ (List.Sublist.cons_cons _ List.Sublist.slnil)))))))))))
   rw [show g.l.length + 1 = (g.l ++ [x12.sold x14]).length by simp] at hs45
   exact Sx.keepE [0, 1, 2, 3, 4, 5] _ ⟨⟨_, rfl, rfl⟩, ⟨_, rfl, rfl⟩, ⟨_, rfl, rfl⟩, ⟨_, rfl, rfl⟩, ⟨_, rfl, rfl⟩, ⟨_, rfl, rfl⟩, trivial⟩ hs45
 · have hge : g.k = n := by simp at hc11; omega
   refine cd_exit ?_
   refine th_exit ?_
   refine th_exit ?_
   refine in_hit ?_
   refine th_norm (hK7 _ _ ?_)
   refine cd_region fun K24 hK24 => ?_
   refine sq rfl (st_loadA (o := 0) (off := 0) (vs := [.slice A n cp, .slice A2 n2 c2, .int .i64 b.count, .int .i64 b.err, .int .i64 b.duty, .int .i64 b.share, .int .i64 b.guar, .slice g.A g.l.length g.c, .map (some b5)]) hs19 (Ev.t 4 rfl) rfl rfl isAgg66 sizeOf66 (hs19.cells 1 rfl) rfl fun _ _ hs20 => ?_); clear hs19
   refine sq rfl (st_store (l' := [.slice A n cp, .slice A2 n2 c2, .int .i64 b.count, .int .i64 b.err, .int .i64 b.duty, .int .i64 b.share, .int .i64 b.guar, .slice g.A g.l.length g.c, .map (some b5)]) (vs := [.slice A n cp, .slice A2 n2 c2, .int .i64 b.count, .int .i64 b.err, .int .i64 b.duty, .int .i64 b.share, .int .i64 b.guar, .slice g.A g.l.length g.c, .map (some b5)]) (i := 3) hs20 (Ev.t 6 rfl) (Ev.t 0 rfl) sizeOf66 rfl rfl rfl rfl rfl rfl fun _ _ hs21 => ?_); clear hs20
   have hs22 := hs21.asB [_, _, _, _, _] rfl; clear hs21
   refine hK24 _ _ ?_; clear hK24
   have hs23 := hs22.keep [6] [_] rfl; clear hs22
   have hfin : g.l = b.sold := by rw [hgl, hge, List.take_of_length_le (by rw [soldlen hO]; omega)]
   have hgn : g.l.length = n := by rw [hfin, soldlen hO]; omega
   exact cd_ret (vs := [.agg ⟨[.slice A n cp, .slice A2 n2 c2, .int .i64 b.count, .int .i64 b.err, .int .i64 b.duty, .int .i64 b.share, .int .i64 b.guar, .slice g.A g.l.length g.c, .map (some b5)]⟩]) (bs := [(g.b, g.o), (b5, some (.map #[] 0))]) hs23 hQ0 rfl ⟨resA (o := 0) (off := 0) (vs := [.slice A n cp, .slice A2 n2 c2, .int .i64 b.count, .int .i64 b.err, .int .i64 b.duty, .int .i64 b.share, .int .i64 b.guar, .slice g.A g.l.length g.c, .map (some b5)]) 0 rfl isAgg66 sizeOf66 (hs23.cells 3 rfl) rfl, trivial⟩ (.cons_cons _ (.cons _ (.cons_cons _ (List.nil_sublist _)))) ⟨g.A, g.c, g.b, g.o, b5, by rw [hgn]; rfl, hfin ▸ hown, rfl⟩

theorem numbers_b (b : Bx) (A : Option Addr) (n cp : Nat) (A2 : Option Addr) (n2 c2 : Nat) (A3 : Option Addr) (n3 c3 m : Nat) (k : Int) (w : World)  :
    CallsB Tryd.prog 48 [.agg ⟨boxL b A n cp A2 n2 c2 A3 n3 c3 m⟩, .int .i64 k] w (fun v bs => ∃ b2 b3, v = .func (.func 74) #[] ⟨[.pointer (some ⟨b2, 0, none⟩), .pointer (some ⟨b3, 0, none⟩)]⟩ ∧ bs = [(b3, some (.cells ⟨[.int .i64 k]⟩ 3 (0, 0))), (b2, some (.cells ⟨boxL b A n cp A2 n2 c2 A3 n3 c3 m⟩ 66 (0, 0)))]) := by
 refine enter (N := 6) (M := []) w func48 rfl rfl rfl (fun Q0 a_0 hQ0 hN0 hs0 => ?_)
 refine cd_region fun K1 hK1 => ?_
 refine sq rfl (st_box hs0 (Ev.t 0 rfl) rfl rfl rfl fun b2 _ _ hs1 => ?_); clear hs0
 refine sq rfl (st_box hs1 (Ev.t 2 rfl) rfl rfl rfl fun b3 _ _ hs2 => ?_); clear hs1
 refine sq rfl (st_assign hs2 (.const _) rfl rfl fun _ _ hs3 => ?_); clear hs2
 refine hK1 _ _ ?_; clear hK1
 have hs4 := hs3.keep [0, 1, 2] [_, _, _] rfl; clear hs3
 refine cd_region fun K4 hK4 => ?_
 refine sq rfl (st_makeFunc (us := []) (vs := [.pointer (some ⟨b2, 0, none⟩), .pointer (some ⟨b3, 0, none⟩)]) hs4 trivial ⟨(Ev.t 2 rfl), (Ev.t 1 rfl), trivial⟩ rfl rfl fun _ _ hs5 => ?_); clear hs4
 have hs6 := hs5.keep [0, 2, 3] [_, _, _] rfl; clear hs5
 refine sq rfl (st_assign hs6 (Ev.t 0 rfl) rfl rfl fun _ _ hs7 => ?_); clear hs6
 refine hK4 _ _ ?_; clear hK4
 have hs8 := hs7.keep [0] [_] rfl; clear hs7
 refine cd_ret (vs := [.func (.func 74) ⟨[]⟩ ⟨[.pointer (some ⟨b2, 0, none⟩), .pointer (some ⟨b3, 0, none⟩)]⟩]) (bs := [(b3, some (.cells ⟨[.int .i64 k]⟩ 3 (0, 0))), (b2, some (.cells ⟨(boxL b A n cp A2 n2 c2 A3 n3 c3 m)⟩ 66 (0, 0)))]) hs8 hQ0 rfl ⟨.tmp 0 rfl, trivial⟩ (List.Sublist.refl _) ⟨b2, b3, rfl, rfl⟩

/-- What the iterator reads. -/
def numR (b : Bx) (A : Option Addr) (n cp : Nat) (A2 : Option Addr) (n2 c2 : Nat) (A3 : Option Addr) (n3 c3 m : Nat) (ss : List Sp) (k t1 t2 : Nat) (W : World) : Prop :=
  SpsAt W A3 n3 ss ∧ CellsAt W t1 0 (boxL b A n cp A2 n2 c2 A3 n3 c3 m) ∧ CellsAt W t2 0 [.int .i64 (k : Int)]

theorem numbers_seq (b : Bx) (A : Option Addr) (n cp : Nat) (A2 : Option Addr) (n2 c2 : Nat) (A3 : Option Addr) (n3 c3 m : Nat) (ss : List Sp) (k : Nat) (s : Sp) (hs : ss[k]? = some s) (t1 t2 : Nat) (_hn3 : n3 ≤ 1000) (hb : 0 ≤ s.lo ∧ s.lo ≤ 300 ∧ -1000 ≤ s.hi ∧ s.hi ≤ 300) :
    Seq Tryd.prog 74 [.pointer (some ⟨t1, 0, none⟩), .pointer (some ⟨t2, 0, none⟩)] intL1 (nums s) (numR b A n cp A2 n2 c2 A3 n3 c3 m ss k t1 t2) := by
 intro l J R W hJst hRst hJR hyield hJ
 show Calls Tryd.prog 74 ⟨[.func (.yield l) #[] #[], .pointer (some ⟨t1, 0, none⟩), .pointer (some ⟨t2, 0, none⟩)]⟩ W _
 obtain ⟨hS, hq1, hq2⟩ := hJR _ _ hJ
 have hSW := hS
 have hsl : s.len ≤ 1301 := by unfold Sp.len; omega
 have ht1 := blk_lt' hq1 (Nat.succ_pos _); have ht2 := blk_lt' hq2 (Nat.succ_pos _)
 have hWw : W.heap.size ≤ W.heap.size := Nat.le_refl _
 have hM : ∀ k ∈ ([] : List Nat), W.heap.size ≤ k := fun k hk => by cases hk
 refine enter (N := 30) (M := []) W func74 rfl rfl rfl (fun Q0 a_0 hQ0 hN0 hs0 => ?_)
 obtain ⟨b1, o1, hA1, -, hc1⟩ := hS.el k s hs
 refine cd_region fun K2 hK2 => ?_
 refine sq rfl (st_field (o' := 7) hs0 (Ev.t 1 rfl) rfl rfl runUnderlying66 rfl sizeOf23 rfl rfl fun _ _ hs1 => ?_); clear hs0
 refine sq rfl (st_load1 (o := 0) (off := 7) (v := .slice A3 n3 c3) hs1 (Ev.t 0 rfl) rfl rfl isAgg23 (hq1.kp hs1.kp (by simp)) rfl fun _ _ hs2 => ?_); clear hs1
 refine sq rfl (st_load1 (o := 0) (off := 0) (v := .int .i64 (k : Int)) hs2 (Ev.t 4 rfl) rfl rfl isAgg3 (hq2.kp hs2.kp (by simp)) rfl fun _ _ hs3 => ?_); clear hs2
 refine sq rfl (st_indexM (o' := o1 + k * 2) hs3 (Ev.t 1 rfl) (Ev.t 0 rfl) rfl rfl hA1 runUnderlying23 sizeOf35 ⟨by omega, by have := hS.len; have := (List.getElem?_eq_some_iff.1 hs).1; omega⟩ rfl fun _ _ hs4 => ?_); clear hs3
 refine sq rfl (st_loadA (o := o1 + k * 2) (off := 0) (vs := (spL s)) hs4 (Ev.t 0 rfl) rfl rfl isAgg35 sizeOf35 (hs4.old hc1 (by first | (simp; done) | (simp only [List.mem_cons, List.not_mem_nil, or_false, not_or]; omega))) rfl fun _ _ hs5 => ?_); clear hs4
 refine sq rfl (st_alloc hs5 rfl rfl zeroValue35 rfl fun b3 _ _ hs6 => ?_); clear hs5
 refine sq rfl (st_store (l' := (spL s)) (vs := (spL s)) (i := 0) hs6 (Ev.t 0 rfl) (Ev.t 1 rfl) sizeOf35 rfl rfl rfl rfl rfl rfl fun _ _ hs7 => ?_); clear hs6
 have hs8 := hs7.asB [_] rfl; clear hs7
 refine hK2 _ _ ?_; clear hK2
 have hs9 := hs8.keep [0, 6] [_, _] rfl; clear hs8
 have hlob3 : W.heap.size ≤ b3 := by rcases (hs9.blk _ (mem_nth (i := 0) rfl) _ rfl).1 with h | h; exact hM _ h; exact Nat.le_trans hWw h
 refine cd_region fun K4 hK4 => ?_
 refine sq rfl (st_field (o' := 1) hs9 (Ev.t 0 rfl) rfl rfl runUnderlying35 rfl sizeOf3 rfl rfl fun _ _ hs10 => ?_); clear hs9
 refine sq rfl (st_load1 (o := 0) (off := 1) (v := .int .i64 s.hi) hs10 (Ev.t 0 rfl) rfl rfl isAgg3 (hs10.cells 0 rfl) rfl fun _ _ hs11 => ?_); clear hs10
 refine sq rfl (st_field (o' := 0) hs11 (Ev.t 2 rfl) rfl rfl runUnderlying35 rfl sizeOf3 rfl rfl fun _ _ hs12 => ?_); clear hs11
 refine sq rfl (st_load1 (o := 0) (off := 0) (v := .int .i64 s.lo) hs12 (Ev.t 0 rfl) rfl rfl isAgg3 (hs12.cells 0 rfl) rfl fun _ _ hs13 => ?_); clear hs12
 refine sq rfl (st_sub (z := s.hi - s.lo) hs13 (Ev.t 2 rfl) (Ev.t 0 rfl) rfl rfl rfl (by omega) fun _ _ hs14 => ?_); clear hs13
 refine sq rfl (st_add (z := (s.hi - s.lo) + 1) hs14 (Ev.t 0 rfl) (.const _) rfl rfl rfl (by omega) fun _ _ hs15 => ?_); clear hs14
 refine sq rfl (st_buildSlice hs15 (qs := [(0, .int .i64 ((s.hi - s.lo) + 1))]) (e := 3) (l := [.int .i64 ((s.hi - s.lo) + 1)]) ⟨(Ev.t 0 rfl), trivial⟩ rfl rfl rfl (fun _ => by kernel_rfl) fun b5 _ _ hs16 => ?_); clear hs15
 refine sq rfl (st_callv (vs := [.int .i64 0, .slice (some ⟨b5, 0, none⟩) 1 1]) hs16 (.func _) ⟨(.const _), (Ev.t 0 rfl), trivial⟩ rfl rfl call49 rfl (great_v 0 ((s.hi - s.lo) + 1) b5 _ (hs16.cells 0 rfl)) fun _ _ hs17 => ?_); clear hs16
 refine sq rfl (st_move hs17 (.const _) rfl rfl fun _ _ hs18 => ?_); clear hs17
 refine hK4 _ _ ?_; clear hK4
 have hs19 := hs18.keep [0, 1, 9, 10] [_, _, _, _] rfl; clear hs18
 have hlob5 : W.heap.size ≤ b5 := by rcases (hs19.blk _ (mem_nth (i := 0) rfl) _ rfl).1 with h | h; exact hM _ h; exact Nat.le_trans hWw h
 have hlob3 : W.heap.size ≤ b3 := by rcases (hs19.blk _ (mem_nth (i := 1) rfl) _ rfl).1 with h | h; exact hM _ h; exact Nat.le_trans hWw h
 have hs20 := Sx.keepE [0, 1, 2, 3] [(19, _), (18, .int .i64 (s.len : Int)), (4, _), (0, _)] ⟨⟨_, rfl, rfl⟩, ⟨_, rfl, (by rw [show (s.len : Int) = max 0 (s.hi - s.lo + 1) from by unfold Sp.len; omega])⟩, ⟨_, rfl, rfl⟩, ⟨_, rfl, rfl⟩, trivial⟩ hs19; clear hs19
 refine cd_block ?_
 have hs21 : Sx 30 [] [(19, .int .i64 (0 : Int)), (18, .int .i64 (s.len : Int)), (4, .pointer (some ⟨b3, 0, none⟩)), (0, .func (.yield l) #[] #[])] [(b5, some (.cells ⟨[.int .i64 ((s.hi - s.lo) + 1)]⟩ 3 (0, 0))), (b3, some (.cells ⟨(spL s)⟩ 35 (0, 0)))] [] W _ _ := Sx.keepE [0, 1, 2, 3] _ ⟨⟨_, rfl, rfl⟩, ⟨_, rfl, rfl⟩, ⟨_, rfl, rfl⟩, ⟨_, rfl, rfl⟩, trivial⟩ hs20; clear hs20
 refine cd_loop (X := Nat) (fun i a_ w_ => (W.heap.size ≤ w_.heap.size) ∧ (i ≤ s.len) ∧ (J i w_) ∧ Sx 30 [] [(19, .int .i64 (i : Int)), (18, .int .i64 (s.len : Int)), (4, .pointer (some ⟨b3, 0, none⟩)), (0, .func (.yield l) #[] #[])] [(b5, some (.cells ⟨[.int .i64 ((s.hi - s.lo) + 1)]⟩ 3 (0, 0))), (b3, some (.cells ⟨(spL s)⟩ 35 (0, 0)))] [b5, b3] w_ a_ w_) (fun i => s.len - i) (0) ⟨?_, ?_, ?_, hs21.rebase⟩ ?_
 · exact Nat.le_trans hWw hs21.kp.size
 · first | omega | simp
 · exact hJst 0 _ _ hJ (Kp.sm hs21.kp hM (Nat.le_refl _))
 intro i a_22 w_22 ⟨hWw, hid, hJ, hs22⟩; clear hs21
 obtain ⟨hS, hq1, hq2⟩ := hJR _ _ hJ
 have hM : ∀ k ∈ [b5, b3], W.heap.size ≤ k := by intro k hk; simp only [List.mem_cons, List.not_mem_nil, or_false] at hk; omega
 refine cd_region fun K6 hK6 => ?_
 refine sq rfl (st_cmp (c := decide (((i : Int) : Int) < (s.len : Int))) hs22 (Ev.t 0 rfl) (Ev.t 1 rfl) rfl rfl rfl rfl fun _ _ hs23 => ?_); clear hs22
 refine hK6 _ _ ?_; clear hK6
 refine cd_seq fun K7 hK7 => ?_
 refine cd_cond hs23 (Ev.t 0 rfl) (fun hc8 => ?_) (fun hc8 => ?_)
 · simp only [decide_eq_true_eq] at hc8
   have hil : i < s.len := by omega
   refine cd_skip ?_
   refine th_norm (hK7 _ _ ?_)
   refine cd_seq fun K9 hK9 => ?_
   refine cd_block ?_
   refine cd_region fun K10 hK10 => ?_
   refine sq rfl (st_move hs23 (Ev.t 1 rfl) rfl rfl fun _ _ hs24 => ?_); clear hs23
   refine sq rfl (st_assign hs24 (Ev.t 0 rfl) rfl rfl fun _ _ hs25 => ?_); clear hs24
   refine hK10 _ _ ?_; clear hK10
   have hs26 := hs25.keep [0, 3, 4, 5, 6] [_, _, _, _, _] rfl; clear hs25
   refine cd_region fun K11 hK11 => ?_
   refine sq rfl (st_move hs26 (Ev.t 4 rfl) rfl rfl fun _ _ hs27 => ?_); clear hs26
   refine sq rfl (st_field (o' := 0) hs27 (Ev.t 4 rfl) rfl rfl runUnderlying35 rfl sizeOf3 rfl rfl fun _ _ hs28 => ?_); clear hs27
   refine sq rfl (st_load1 (o := 0) (off := 0) (v := .int .i64 s.lo) hs28 (Ev.t 0 rfl) rfl rfl isAgg3 (hs28.cells 1 rfl) rfl fun _ _ hs29 => ?_); clear hs28
   refine sq rfl (st_move hs29 (Ev.t 3 rfl) rfl rfl fun _ _ hs30 => ?_); clear hs29
   refine sq rfl (st_add (z := s.lo + (i : Int)) hs30 (Ev.t 1 rfl) (Ev.t 0 rfl) rfl rfl rfl (by omega) fun _ _ hs31 => ?_); clear hs30
   have hlo13 : ∀ p ∈ ([(b5, some (.cells ⟨[.int .i64 ((s.hi - s.lo) + 1)]⟩ 3 (0, 0))), (b3, some (.cells ⟨(spL s)⟩ 35 (0, 0)))] : List (Nat × Option Obj)), W.heap.size ≤ p.1 := by intro p hp; simp only [List.mem_cons, List.not_mem_nil, or_false] at hp; rcases hp with rfl | rfl <;> simp only <;> omega
   have hMk : ∀ k ∈ [b5, b3], W.heap.size ≤ k := by intro k hk; simp only [List.mem_cons, List.not_mem_nil, or_false] at hk; omega
   have hJw := hJst i _ _ hJ (Kp.sm hs31.kp hMk hWw)
   refine sq rfl (st_yield (vs := [.int .i64 (s.lo + (i : Int))]) (n := W.heap.size) (J1 := J (i + 1)) (R := R) hs31 (Ev.t 4 rfl) ⟨(Ev.t 0 rfl), trivial⟩ rfl rfl hlo13 (hyield i (s.lo + (i : Int)) _ (nums_get hil) (Nat.le_trans hWw hs31.kp.size) hJw) (fun y12 a_32 w_32 hy1 hy0 hyn hs32 => ?_) (Nat.le_trans hWw hs31.kp.size)); clear hs31
   have hs33 : Sx 30 [] [(27, .bool y12), (26, .int .i64 (s.lo + (i : Int))), (25, .int .i64 (i : Int)), (24, .int .i64 s.lo), (23, .pointer (some ⟨b3, 0, none⟩)), (22, .func (.yield l) #[] #[]), (5, .int .i64 (i : Int)), (19, .int .i64 (i : Int)), (18, .int .i64 (s.len : Int)), (4, .pointer (some ⟨b3, 0, none⟩)), (0, .func (.yield l) #[] #[])] [(b5, some (.cells ⟨[.int .i64 ((s.hi - s.lo) + 1)]⟩ 3 (0, 0))), (b3, some (.cells ⟨(spL s)⟩ 35 (0, 0)))] [b5, b3] w_32 _ _ := hs32; clear hs32
   refine sq rfl (st_not hs33 (Ev.t 0 rfl) rfl rfl fun _ _ hs34 => ?_); clear hs33
   refine hK11 _ _ ?_; clear hK11
   have hs35 := hs34.keep [0, 8, 9, 10, 11] [_, _, _, _, _] rfl; clear hs34
   refine cd_cond hs35 (Ev.t 0 rfl) (fun hc14 => ?_) (fun hc14 => ?_)
   · refine cd_retX (vs := []) hs35 (fun a_ w_ h => in_ret (th_ret (th_ret (in_ret (hQ0 a_ w_ h))))) rfl trivial ⟨⟨_, rfl⟩, ?_⟩
     have hMk : ∀ k ∈ [b5, b3], W.heap.size ≤ k := by intro k hk; simp only [List.mem_cons, List.not_mem_nil, or_false] at hk; omega
     have hr := hy0 (by simpa using hc14)
     exact .inr (hRst _ _ hr (Kp.sm hs35.kp hMk hyn))
   · refine cd_skip ?_
     refine in_norm ?_
     refine th_norm (hK9 _ _ ?_)
     refine cd_region1 ?_
     refine sq rfl (st_add (z := (i : Int) + 1) hs35 (Ev.t 1 rfl) (.const _) rfl rfl rfl (by omega) fun _ _ hs36 => ?_); clear hs35
     have hs37 := hs36.keep [0, 1, 3, 4, 5] [_, _, _, _, _] rfl; clear hs36
     refine sq rfl (st_move hs37 (Ev.t 0 rfl) rfl rfl fun _ _ hs38 => ?_); clear hs37
     refine wpListIn_nil ?_
     have hs39 := hs38.keep [0, 3, 4, 5] [_, _, _, _] rfl; clear hs38
     refine ⟨i + 1, ⟨?_, ?_, ?_, ?_⟩, by omega⟩
     · exact Nat.le_trans hyn hs39.kp.size
     · first | omega | (simp; done) | (simp; omega)
     · have hMk : ∀ k ∈ [b5, b3], W.heap.size ≤ k := by intro k hk; simp only [List.mem_cons, List.not_mem_nil, or_false] at hk; omega
       exact hJst (i + 1) _ _ (hy1 (by simpa using hc14)) (Kp.sm hs39.kp hMk hyn)
     exact Sx.keepE [0, 1, 2, 3] _ ⟨⟨_, rfl, rfl⟩, ⟨_, rfl, rfl⟩, ⟨_, rfl, rfl⟩, ⟨_, rfl, rfl⟩, trivial⟩ hs39.rebase
 · have hie : i = s.len := by simp at hc8; omega
   refine cd_exit ?_
   refine th_exit ?_
   refine th_exit ?_
   refine in_hit ?_
   have hMk : ∀ k ∈ [b5, b3], W.heap.size ≤ k := by intro k hk; simp only [List.mem_cons, List.not_mem_nil, or_false] at hk; omega
   refine endX (vs := []) hs23 hN0 rfl trivial ⟨⟨_, rfl⟩, .inl ?_⟩
   rw [nums_len, ← hie]
   exact hJst i _ _ hJ (Kp.sm hs23.kp hMk hWw)
end Go.Proofs.YtcnndpedeofbmaaDoor
