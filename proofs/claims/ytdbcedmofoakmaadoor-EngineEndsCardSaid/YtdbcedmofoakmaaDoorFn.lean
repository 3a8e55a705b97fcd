/- The law EngineEnds: its walk. -/
import Derived.Test.YtdbcedmofoakmaaDoorFx
set_option maxRecDepth 100000
namespace Go.Proofs.YtdbcedmofoakmaaDoor
open Go Go.Sx Go.Eng Go.Proofs.Tryd
theorem EngineEnds_v (b : Book) (A : Option Addr) (n cp : Nat) (A4 : Option Addr) (m4 c4 : Nat) (bits : List Int) (k : Int) (w : World) (hP : PartsAt w A n b.parts) (hn : n ≤ 140737488351232) (hI : SlAt intL 1 w A4 m4 bits) (hm4 : m4 ≤ 140737488351232) (hG : CellsAt w 0 0 stuffsL) :
    CallsV Tryd.prog 7 [.agg ⟨(bookL b A n cp)⟩, .slice A4 m4 c4, .int .i64 k] w (.bool true) := by
 refine enter (N := 149) (M := []) w func7 rfl rfl rfl (fun Q0 a_0 hQ0 hN0 hs0 => ?_)
 rcases hok : b.ok with _ | _
 · skip
   have hR := planR_no hok
   refine cd_region fun K1 hK1 => ?_
   refine sq rfl (st_box hs0 (Ev.t 0 rfl) rfl rfl rfl fun b2 _ _ hs1 => ?_); clear hs0
   refine sq rfl (st_assign hs1 (.const _) rfl rfl fun _ _ hs2 => ?_); clear hs1
   refine hK1 _ _ ?_; clear hK1
   have hs3 := hs2.keep [0, 1, 3, 4] [_, _, _, _] rfl; clear hs2
   refine cd_seq fun K3 hK3 => ?_
   refine cd_region fun K4 hK4 => ?_
   refine sq rfl (st_loadA (o := 0) (off := 0) (vs := (bookL b A n cp)) hs3 (Ev.t 1 rfl) rfl rfl isAgg27 sizeOf27 (hs3.cells 0 rfl) rfl fun _ _ hs4 => ?_); clear hs3
   refine sq rfl (st_callv (vs := [.agg ⟨(bookL b A n cp)⟩]) hs4 (.func _) ⟨(Ev.t 0 rfl), trivial⟩ rfl rfl call32 rfl (callsV_eq (v' := .bool false) (sound_v b A n cp _ (hP.kp hs4.kp) hn) (by rw [hok])) fun _ _ hs5 => ?_); clear hs4
   refine sq rfl (st_not hs5 (Ev.t 0 rfl) rfl rfl fun _ _ hs6 => ?_); clear hs5
   refine hK4 _ _ ?_; clear hK4
   have hs7 := hs6.keep [0, 3, 4, 5, 6] [_, _, _, _, _] rfl; clear hs6
   have hc5 : true = true := rfl
   refine cd_cond hs7 (Ev.t 0 rfl) (fun _ => ?_) (fun h => absurd (hc5.symm.trans h) (by decide))
   refine cd_region fun K6 hK6 => ?_
   refine sq rfl (st_callv (vs := []) hs7 (.func _) trivial rfl rfl call20 rfl (fired_v _ (hG.kp hs7.kp (by simp))) fun _ _ hs8 => ?_); clear hs7
   have hs9 := hs8.keep [0, 1, 3, 4, 5] [_, _, _, _, _] rfl; clear hs8
   refine sq rfl (st_assign hs9 (Ev.t 0 rfl) rfl rfl fun _ _ hs10 => ?_); clear hs9
   refine hK6 _ _ ?_; clear hK6
   have hs11 := hs10.keep [0] [_] rfl; clear hs10
   refine cd_retv (vs := [.bool true]) hs11 (fun a_ w_ h => th_ret (hQ0 a_ w_ h)) rfl ⟨.tmp 0 rfl, trivial⟩ ?_
   clear hs11 hQ0 hN0 hK3
   first | rfl | (simp [pack]; done)
 · skip
   have hb := ok_bd hok
   have hl2 := hP.len
   have hl5 := ok_len hok
   have hlw : n = (b.edge false).parts.length := by simp [Book.edge]; omega
   have hlx : n = (b.edge true).parts.length := by simp [Book.edge]; omega
   obtain ⟨q, hq⟩ : ∃ q : Nat, (q : Int) = turn k (n : Int) := ⟨(turn k (n : Int)).toNat, Int.toNat_of_nonneg (turn_bd (by omega)).1⟩
   have htb := turn_bd (n := k) (m := (n : Int)) (by omega)
   have hqb : q < b.parts.length := by omega
   refine cd_region fun K7 hK7 => ?_
   refine sq rfl (st_box hs0 (Ev.t 0 rfl) rfl rfl rfl fun b8 _ _ hs1 => ?_); clear hs0
   refine sq rfl (st_assign hs1 (.const _) rfl rfl fun _ _ hs2 => ?_); clear hs1
   refine hK7 _ _ ?_; clear hK7
   have hs3 := hs2.keep [0, 1, 3, 4] [_, _, _, _] rfl; clear hs2
   refine cd_seq fun K9 hK9 => ?_
   refine cd_region fun K10 hK10 => ?_
   refine sq rfl (st_loadA (o := 0) (off := 0) (vs := (bookL b A n cp)) hs3 (Ev.t 1 rfl) rfl rfl isAgg27 sizeOf27 (hs3.cells 0 rfl) rfl fun _ _ hs4 => ?_); clear hs3
   refine sq rfl (st_callv (vs := [.agg ⟨(bookL b A n cp)⟩]) hs4 (.func _) ⟨(Ev.t 0 rfl), trivial⟩ rfl rfl call32 rfl (callsV_eq (v' := .bool true) (sound_v b A n cp _ (hP.kp hs4.kp) hn) (by rw [hok])) fun _ _ hs5 => ?_); clear hs4
   refine sq rfl (st_not hs5 (Ev.t 0 rfl) rfl rfl fun _ _ hs6 => ?_); clear hs5
   refine hK10 _ _ ?_; clear hK10
   have hs7 := hs6.keep [0, 3, 4, 5, 6] [_, _, _, _, _] rfl; clear hs6
   have hc11 : false = false := rfl
   refine cd_cond hs7 (Ev.t 0 rfl) (fun h => absurd (hc11.symm.trans h) (by decide)) (fun _ => ?_)
   refine cd_skip ?_
   refine th_norm (hK9 _ _ ?_)
   refine cd_drawn mixed hs7 [⟨24, [], Is (.agg ⟨(bookL b A n cp)⟩)⟩, ⟨25, [], Is (.slice A4 m4 c4)⟩, ⟨26, [0, 1], fun v_ bs_ => ∃ l A7 c7 b7 o7, v_ = .slice A7 l.length c7 ∧ Sx.Own walksL 2 64 A7 c7 l b7 o7 ∧ bs_ = [(b7, o7)] ∧ b.isPlan l = true⟩, ⟨27, [], Is (.int .i64 k)⟩, ⟨28, [], Is (.pointer (some ⟨b8, 22, none⟩))⟩, ⟨29, [4], Is (.slice A n cp)⟩, ⟨30, [5], Is (.int .i64 (n : Int))⟩] (by kernel_rfl) (by kernel_rfl) fun K12 hK12 => ⟨⟨?_, ?_, ?_, ?_, ?_, ?_, ?_, trivial⟩, ?_⟩
   · rintro T_ B_ a_ w_ K_ hT hB hf hsD hk
     exact ob rfl rfl (st_loadA (o := 0) (off := 0) (vs := (bookL b A n cp)) hsD (evT hT 2 rfl) rfl hf isAgg27 sizeOf27 (hsD.cellsM (inB hB 0 rfl)) rfl fun _ _ => hk _ _ _ _ ⟨rfl, rfl⟩)
   · rintro T_ B_ a_ w_ K_ hT hB hf hsD hk
     exact ob rfl rfl (st_move hsD (evT hT 3 rfl) rfl hf fun _ _ => hk _ _ _ _ ⟨rfl, rfl⟩)
   · rintro T_ B_ a_ w_ K_ hT hB _ _ ⟨rfl, rfl⟩ h24 - _ _ ⟨rfl, rfl⟩ h25 - hf hsD hk
     exact ob rfl rfl (st_call (vs := [.agg ⟨(bookL b A n cp)⟩, .slice A4 m4 c4]) hsD (.func _) ⟨(Ev.tmp h24), (Ev.tmp h25), trivial⟩ rfl hf call36 rfl (chosen_b b A n cp A4 m4 c4 bits _ (hP.kp hsD.kp) hn (hI.kp hsD.kp) (by omega) hb) fun _ _ _ _ => hk _ _ _ _)
   · rintro T_ B_ a_ w_ K_ hT hB hf hsD hk
     exact ob rfl rfl (st_move hsD (evT hT 4 rfl) rfl hf fun _ _ => hk _ _ _ _ ⟨rfl, rfl⟩)
   · rintro T_ B_ a_ w_ K_ hT hB hf hsD hk
     exact ob rfl rfl (st_field (o' := 22) hsD (evT hT 2 rfl) rfl hf runUnderlying27 rfl sizeOf25 rfl rfl fun _ _ => hk _ _ _ _ ⟨rfl, rfl⟩)
   · rintro T_ B_ a_ w_ K_ hT hB _ _ ⟨rfl, rfl⟩ h28 - hf hsD hk
     exact ob rfl rfl (st_load1 (o := 0) (off := 22) (v := .slice A n cp) hsD (Ev.tmp h28) rfl hf isAgg25 (hsD.cellsM (inB hB 0 rfl)) rfl fun _ _ => hk _ _ _ _ ⟨rfl, rfl⟩)
   · rintro T_ B_ a_ w_ K_ hT hB _ _ ⟨rfl, rfl⟩ h29 - hf hsD hk
     exact ob rfl rfl (st_len hsD (Ev.tmp h29) rfl hf runUnderlying25 fun _ _ => hk _ _ _ _ ⟨rfl, rfl⟩)
   rintro _ _ ⟨rfl, rfl⟩ _ _ ⟨rfl, rfl⟩ _ _ ⟨ol, Ao13, co13, bo13, oo13, rfl, hOo13, rfl, hol⟩ _ _ ⟨rfl, rfl⟩ _ _ ⟨rfl, rfl⟩ _ _ ⟨rfl, rfl⟩ _ _ ⟨rfl, rfl⟩ a_8 w_8 hs8; clear hs7
   have hs9 := Sx.as (T' := [_, _, _, _, _, _, _, _, _, _, _, _]) (B' := [_, _]) rfl rfl hs8; clear hs8
   refine sq rfl (st_callv (vs := [.int .i64 k, .int .i64 (n : Int)]) hs9 (.func _) ⟨(Ev.t 3 rfl), (Ev.t 6 rfl), trivial⟩ rfl rfl call38 rfl (turn_v k (n : Int) (by omega) _) fun _ _ hs10 => ?_); clear hs9
   refine sq rfl (st_assign hs10 (Ev.t 3 rfl) rfl rfl fun _ _ hs11 => ?_); clear hs10
   refine sq rfl (st_assign hs11 (Ev.t 1 rfl) rfl rfl fun _ _ hs12 => ?_); clear hs11
   refine hK12 _ _ ?_; clear hK12
   have hs13 := hs12.keep [0, 1, 11, 12] [_, _, _, _] rfl; clear hs12
   have hs14 := Sx.keepE [0, 1, 2, 3] [(8, .int .i64 (q : Int)), (7, _), (6, _), (3, _)] ⟨⟨_, rfl, (by rw [hq])⟩, ⟨_, rfl, rfl⟩, ⟨_, rfl, rfl⟩, ⟨_, rfl, rfl⟩, trivial⟩ hs13; clear hs13
   have holl := isPlan_len hol
   refine cd_drawn mixed hs14 [⟨32, [], Is (.agg ⟨(bookL b A n cp)⟩)⟩, ⟨33, [0], fun v_ bs_ => ∃ A7 c7 b7 o7, v_ = .agg ⟨bookL (b.edge false) A7 n c7⟩ ∧ Sx.Own partL 4 66 A7 c7 (b.edge false).parts b7 o7 ∧ bs_ = [(b7, o7)]⟩, ⟨34, [], Is (.agg ⟨(bookL b A n cp)⟩)⟩, ⟨35, [2], fun v_ bs_ => ∃ A7 c7 b7 o7, v_ = .agg ⟨bookL (b.edge true) A7 n c7⟩ ∧ Sx.Own partL 4 66 A7 c7 (b.edge true).parts b7 o7 ∧ bs_ = [(b7, o7)]⟩, ⟨9, [], fun v_ bs_ => ∃ b15, v_ = .pointer (some ⟨b15, 0, none⟩) ∧ bs_ = [(b15, some (.cells ⟨[.int .i64 0, .int .i64 0, .int .i64 0, .int .i64 0, .int .i64 0, .int .i64 0, .int .i64 0, .int .i64 0, .int .i64 0, .int .i64 0, .int .i64 0, .int .i64 0, .int .i64 0, .int .i64 0, .int .i64 0, .int .i64 0, .int .i64 0, .int .i64 0, .int .i64 0, .int .i64 0, .int .i64 0, .int .i64 0, .slice none 0 0]⟩ 27 (0, 0)))]⟩, ⟨10, [], fun v_ bs_ => ∃ b16, v_ = .pointer (some ⟨b16, 0, none⟩) ∧ bs_ = [(b16, some (.cells ⟨[.int .i64 0, .int .i64 0, .int .i64 0, .int .i64 0, .int .i64 0, .int .i64 0, .int .i64 0, .int .i64 0, .int .i64 0, .int .i64 0, .int .i64 0, .int .i64 0, .int .i64 0, .int .i64 0, .int .i64 0, .int .i64 0, .int .i64 0, .int .i64 0, .int .i64 0, .int .i64 0, .int .i64 0, .int .i64 0, .slice none 0 0]⟩ 27 (0, 0)))]⟩] (by kernel_rfl) (by kernel_rfl) fun K14 hK14 => ⟨⟨?_, ?_, ?_, ?_, ?_, ?_, trivial⟩, ?_⟩
   · rintro T_ B_ a_ w_ K_ hT hB hf hsD hk
     exact ob rfl rfl (st_loadA (o := 0) (off := 0) (vs := (bookL b A n cp)) hsD (evT hT 3 rfl) rfl hf isAgg27 sizeOf27 (hsD.cellsM (inB hB 1 rfl)) rfl fun _ _ => hk _ _ _ _ ⟨rfl, rfl⟩)
   · rintro T_ B_ a_ w_ K_ hT hB _ _ ⟨rfl, rfl⟩ h32 - hf hsD hk
     exact ob rfl rfl (st_call (vs := [.agg ⟨(bookL b A n cp)⟩, .bool false]) hsD (.func _) ⟨(Ev.tmp h32), (.const _), trivial⟩ rfl hf call39 rfl (edge_b b A n cp false _ (hP.kp hsD.kp) hn hb) fun _ _ _ _ => hk _ _ _ _)
   · rintro T_ B_ a_ w_ K_ hT hB hf hsD hk
     exact ob rfl rfl (st_loadA (o := 0) (off := 0) (vs := (bookL b A n cp)) hsD (evT hT 3 rfl) rfl hf isAgg27 sizeOf27 (hsD.cellsM (inB hB 1 rfl)) rfl fun _ _ => hk _ _ _ _ ⟨rfl, rfl⟩)
   · rintro T_ B_ a_ w_ K_ hT hB _ _ ⟨rfl, rfl⟩ h34 - hf hsD hk
     exact ob rfl rfl (st_call (vs := [.agg ⟨(bookL b A n cp)⟩, .bool true]) hsD (.func _) ⟨(Ev.tmp h34), (.const _), trivial⟩ rfl hf call39 rfl (edge_b b A n cp true _ (hP.kp hsD.kp) hn hb) fun _ _ _ _ => hk _ _ _ _)
   · rintro T_ B_ a_ w_ K_ hT hB hf hsD hk
     exact ob rfl rfl (st_alloc hsD rfl hf zeroValue27 rfl fun b15 _ _ => hk _ _ _ _ ⟨b15, rfl, rfl⟩)
   · rintro T_ B_ a_ w_ K_ hT hB hf hsD hk
     exact ob rfl rfl (st_alloc hsD rfl hf zeroValue27 rfl fun b16 _ _ => hk _ _ _ _ ⟨b16, rfl, rfl⟩)
   rintro _ _ ⟨rfl, rfl⟩ _ _ ⟨Aw, cw, bw, ow, rfl, hOw, rfl⟩ _ _ ⟨rfl, rfl⟩ _ _ ⟨Ax, cx, bx, ox, rfl, hOx, rfl⟩ _ _ ⟨b15, rfl, rfl⟩ _ _ ⟨b16, rfl, rfl⟩ a_15 w_15 hs15; clear hs14
   have hs16 := Sx.as (T' := [_, _, _, _, _, _, _, _, _, _]) (B' := [_, _, _, _, _, _]) rfl rfl hs15; clear hs15
   refine sq rfl (st_store (l' := (bookL (b.edge false) Aw n cw)) (vs := (bookL (b.edge false) Aw n cw)) (i := 2) hs16 (Ev.t 4 rfl) (Ev.t 1 rfl) sizeOf27 rfl rfl rfl rfl rfl rfl fun _ _ hs17 => ?_); clear hs16
   have hs18 := hs17.asB [_, _, _, _, _, _] rfl; clear hs17
   refine sq rfl (st_store (l' := (bookL (b.edge true) Ax n cx)) (vs := (bookL (b.edge true) Ax n cx)) (i := 3) hs18 (Ev.t 5 rfl) (Ev.t 3 rfl) sizeOf27 rfl rfl rfl rfl rfl rfl fun _ _ hs19 => ?_); clear hs18
   have hs20 := hs19.asB [_, _, _, _, _, _] rfl; clear hs19
   refine hK14 _ _ ?_; clear hK14
   have hs21 := hs20.keep [4, 5, 6, 7, 8, 9] [_, _, _, _, _, _] rfl; clear hs20
   refine cd_drawn mixed hs21 [⟨36, [], Is (.agg ⟨(bookL (b.edge false) Aw n cw)⟩)⟩, ⟨37, [], Is (.slice Ao13 ol.length co13)⟩, ⟨38, [0, 1], fun v_ bs_ => ∃ cs ws fl A1 c1 b1 o1 A2 c2 b2 o2, v_ = .agg ⟨[.slice A1 cs.length c1, .slice A2 ws.length c2, .int .i64 fl]⟩ ∧ Sx.Own intL 1 3 A1 c1 cs b1 o1 ∧ Sx.Own intL 1 3 A2 c2 ws b2 o2 ∧ bs_ = [(b1, o1), (b2, o2)] ∧ Hap (b.edge false) ol cs ws fl⟩, ⟨39, [], Is (.agg ⟨(bookL (b.edge true) Ax n cx)⟩)⟩, ⟨40, [], Is (.slice Ao13 ol.length co13)⟩, ⟨41, [3, 4], fun v_ bs_ => ∃ cs ws fl A1 c1 b1 o1 A2 c2 b2 o2, v_ = .agg ⟨[.slice A1 cs.length c1, .slice A2 ws.length c2, .int .i64 fl]⟩ ∧ Sx.Own intL 1 3 A1 c1 cs b1 o1 ∧ Sx.Own intL 1 3 A2 c2 ws b2 o2 ∧ bs_ = [(b1, o1), (b2, o2)] ∧ Hap (b.edge true) ol cs ws fl⟩, ⟨11, [], fun v_ bs_ => ∃ b18, v_ = .pointer (some ⟨b18, 0, none⟩) ∧ bs_ = [(b18, some (.cells ⟨[.slice none 0 0, .slice none 0 0, .int .i64 0]⟩ 50 (0, 0)))]⟩, ⟨12, [], fun v_ bs_ => ∃ b19, v_ = .pointer (some ⟨b19, 0, none⟩) ∧ bs_ = [(b19, some (.cells ⟨[.slice none 0 0, .slice none 0 0, .int .i64 0]⟩ 50 (0, 0)))]⟩] (by kernel_rfl) (by kernel_rfl) fun K17 hK17 => ⟨⟨?_, ?_, ?_, ?_, ?_, ?_, ?_, ?_, trivial⟩, ?_⟩
   · rintro T_ B_ a_ w_ K_ hT hB hf hsD hk
     exact ob rfl rfl (st_loadA (o := 0) (off := 0) (vs := (bookL (b.edge false) Aw n cw)) hsD (evT hT 0 rfl) rfl hf isAgg27 sizeOf27 (hsD.cellsM (inB hB 2 rfl)) rfl fun _ _ => hk _ _ _ _ ⟨rfl, rfl⟩)
   · rintro T_ B_ a_ w_ K_ hT hB hf hsD hk
     exact ob rfl rfl (st_move hsD (evT hT 3 rfl) rfl hf fun _ _ => hk _ _ _ _ ⟨rfl, rfl⟩)
   · rintro T_ B_ a_ w_ K_ hT hB _ _ ⟨rfl, rfl⟩ h36 - _ _ ⟨rfl, rfl⟩ h37 - hf hsD hk
     exact ob rfl rfl (st_call (vs := [.agg ⟨(bookL (b.edge false) Aw n cw)⟩, .slice Ao13 ol.length co13, .slice none 0 0]) hsD (.func _) ⟨(Ev.tmp h36), (Ev.tmp h37), (.const _), trivial⟩ rfl hf call34 rfl (happened_b (b.edge false) Aw n cw Ao13 ol.length co13 ol none 0 0 ([] : List Int) _ (by rw [hlw]; exact (hOw.atMem hsD (fun _ => hB _ (mem_nth (i := 0) rfl)))) hn (hOo13.atMem hsD (fun _ => hB _ (mem_nth (i := 4) rfl))) (by omega) ⟨rfl, fun _ _ h => by simp at h⟩ (by omega) (edge_ok hok _) (by rw [edge_isPlan]; exact hol)) fun _ _ _ _ => hk _ _ _ _)
   · rintro T_ B_ a_ w_ K_ hT hB hf hsD hk
     exact ob rfl rfl (st_loadA (o := 0) (off := 0) (vs := (bookL (b.edge true) Ax n cx)) hsD (evT hT 1 rfl) rfl hf isAgg27 sizeOf27 (hsD.cellsM (inB hB 3 rfl)) rfl fun _ _ => hk _ _ _ _ ⟨rfl, rfl⟩)
   · rintro T_ B_ a_ w_ K_ hT hB hf hsD hk
     exact ob rfl rfl (st_move hsD (evT hT 3 rfl) rfl hf fun _ _ => hk _ _ _ _ ⟨rfl, rfl⟩)
   · rintro T_ B_ a_ w_ K_ hT hB _ _ ⟨rfl, rfl⟩ h39 - _ _ ⟨rfl, rfl⟩ h40 - hf hsD hk
     exact ob rfl rfl (st_call (vs := [.agg ⟨(bookL (b.edge true) Ax n cx)⟩, .slice Ao13 ol.length co13, .slice none 0 0]) hsD (.func _) ⟨(Ev.tmp h39), (Ev.tmp h40), (.const _), trivial⟩ rfl hf call34 rfl (happened_b (b.edge true) Ax n cx Ao13 ol.length co13 ol none 0 0 ([] : List Int) _ (by rw [hlx]; exact (hOx.atMem hsD (fun _ => hB _ (mem_nth (i := 1) rfl)))) hn (hOo13.atMem hsD (fun _ => hB _ (mem_nth (i := 4) rfl))) (by omega) ⟨rfl, fun _ _ h => by simp at h⟩ (by omega) (edge_ok hok _) (by rw [edge_isPlan]; exact hol)) fun _ _ _ _ => hk _ _ _ _)
   · rintro T_ B_ a_ w_ K_ hT hB hf hsD hk
     exact ob rfl rfl (st_alloc hsD rfl hf zeroValue50 rfl fun b18 _ _ => hk _ _ _ _ ⟨b18, rfl, rfl⟩)
   · rintro T_ B_ a_ w_ K_ hT hB hf hsD hk
     exact ob rfl rfl (st_alloc hsD rfl hf zeroValue50 rfl fun b19 _ _ => hk _ _ _ _ ⟨b19, rfl, rfl⟩)
   rintro _ _ ⟨rfl, rfl⟩ _ _ ⟨rfl, rfl⟩ _ _ ⟨csw, wsw, flw, Ah1w, ch1w, bh1w, oh1w, Ah2w, ch2w, bh2w, oh2w, rfl, h1w, h2w, rfl, hHw⟩ _ _ ⟨rfl, rfl⟩ _ _ ⟨rfl, rfl⟩ _ _ ⟨csx, wsx, flx, Ah1x, ch1x, bh1x, oh1x, Ah2x, ch2x, bh2x, oh2x, rfl, h1x, h2x, rfl, hHx⟩ _ _ ⟨b18, rfl, rfl⟩ _ _ ⟨b19, rfl, rfl⟩ a_22 w_22 hs22; clear hs21
   have hs23 := Sx.as (T' := [_, _, _, _, _, _, _, _, _, _, _, _, _, _]) (B' := [_, _, _, _, _, _, _, _, _, _, _, _]) rfl rfl hs22; clear hs22
   refine sq rfl (st_store (l' := [.slice Ah1w csw.length ch1w, .slice Ah2w wsw.length ch2w, .int .i64 flw]) (vs := [.slice Ah1w csw.length ch1w, .slice Ah2w wsw.length ch2w, .int .i64 flw]) (i := 4) hs23 (Ev.t 6 rfl) (Ev.t 2 rfl) sizeOf50 rfl rfl rfl rfl rfl rfl fun _ _ hs24 => ?_); clear hs23
   have hs25 := hs24.asB [_, _, _, _, _, _, _, _, _, _, _, _] rfl; clear hs24
   refine sq rfl (st_store (l' := [.slice Ah1x csx.length ch1x, .slice Ah2x wsx.length ch2x, .int .i64 flx]) (vs := [.slice Ah1x csx.length ch1x, .slice Ah2x wsx.length ch2x, .int .i64 flx]) (i := 5) hs25 (Ev.t 7 rfl) (Ev.t 5 rfl) sizeOf50 rfl rfl rfl rfl rfl rfl fun _ _ hs26 => ?_); clear hs25
   have hs27 := hs26.asB [_, _, _, _, _, _, _, _, _, _, _, _] rfl; clear hs26
   refine hK17 _ _ ?_; clear hK17
   have hs28 := hs27.keep [6, 7, 8, 10, 11, 12, 13] [_, _, _, _, _, _, _] rfl; clear hs27
   refine cd_region fun K20 hK20 => ?_
   refine sq rfl (st_loadA (o := 0) (off := 0) (vs := (bookL b A n cp)) hs28 (Ev.t 6 rfl) rfl rfl isAgg27 sizeOf27 (hs28.cells 11 rfl) rfl fun _ _ hs29 => ?_); clear hs28
   refine sq rfl (st_move hs29 (Ev.t 5 rfl) rfl rfl fun _ _ hs30 => ?_); clear hs29
   refine sq rfl (st_callv (vs := [.agg ⟨(bookL b A n cp)⟩, .slice Ao13 ol.length co13]) hs30 (.func _) ⟨(Ev.t 1 rfl), (Ev.t 0 rfl), trivial⟩ rfl rfl call21 rfl (Fails_v b A n cp Ao13 ol.length co13 ol _ (hP.kp hs30.kp) hn (hOo13.at hs30 10 rfl) (by omega) (hG.kp hs30.kp (by simp))) fun _ _ hs31 => ?_); clear hs30
   refine sq rfl (st_move hs31 (Ev.t 0 rfl) rfl rfl fun _ _ hs32 => ?_); clear hs31
   refine sq rfl (st_extract hs32 (Ev.t 0 rfl) rfl rfl rfl fun _ _ hs33 => ?_); clear hs32
   refine sq rfl (st_extract hs33 (Ev.t 1 rfl) rfl rfl rfl fun _ _ hs34 => ?_); clear hs33
   refine sq rfl (st_assign hs34 (Ev.t 1 rfl) rfl rfl fun _ _ hs35 => ?_); clear hs34
   refine sq rfl (st_assign hs35 (Ev.t 1 rfl) rfl rfl fun _ _ hs36 => ?_); clear hs35
   refine hK20 _ _ ?_; clear hK20
   have hs37 := hs36.keep [0, 1, 8, 9, 10, 11, 12, 13, 14] [_, _, _, _, _, _, _, _, _] rfl; clear hs36
   refine cd_cut (fun a_ w_ => ∃ (t9 : Int), (flw = t9) ∧ Sx 149 [] [(13, .int .i64 t9), (11, .pointer (some ⟨b18, 0, none⟩)), (12, .pointer (some ⟨b19, 0, none⟩)), (9, .pointer (some ⟨b15, 0, none⟩)), (8, .int .i64 (q : Int)), (7, .slice Ao13 ol.length co13), (6, .bool false), (3, .pointer (some ⟨b8, 0, none⟩))] [(bh1w, oh1w), (bh2w, oh2w), (bh1x, oh1x), (bh2x, oh2x), (b18, some (.cells ⟨[.slice Ah1w csw.length ch1w, .slice Ah2w wsw.length ch2w, .int .i64 flw]⟩ 50 (0, 0))), (b19, some (.cells ⟨[.slice Ah1x csx.length ch1x, .slice Ah2x wsx.length ch2x, .int .i64 flx]⟩ 50 (0, 0))), (bw, ow), (bx, ox), (b15, some (.cells ⟨(bookL (b.edge false) Aw n cw)⟩ 27 (0, 0))), (b16, some (.cells ⟨(bookL (b.edge true) Ax n cx)⟩ 27 (0, 0))), (bo13, oo13), (b8, some (.cells ⟨(bookL b A n cp)⟩ 27 (0, 0)))] [] w a_ w_) ?_ ?_
   · skip
     refine cd_region fun K21 hK21 => ?_
     refine sq rfl (st_move hs37 (Ev.t 0 rfl) rfl rfl fun _ _ hs38 => ?_); clear hs37
     refine sq rfl (st_cmp (c := ((b.failsR ol).2 : Int) == 4) hs38 (Ev.t 0 rfl) (.const _) rfl rfl rfl rfl fun _ _ hs39 => ?_); clear hs38
     refine hK21 _ _ ?_; clear hK21
     have hs40 := hs39.keep [0, 2, 3, 4, 5, 6, 7, 8, 9, 10] [_, _, _, _, _, _, _, _, _, _] rfl; clear hs39
     rcases fails_cases hok hol with ⟨hfo, -, hall9⟩ | ⟨q9, hfo, hq9, hmq9, hall9⟩
     · skip
       rw [hfo] at hs40
       have hs41 : Sx 149 [] [(49, .bool true), (14, .int .i64 4), (13, .int .i64 0), (11, .pointer (some ⟨b18, 0, none⟩)), (12, .pointer (some ⟨b19, 0, none⟩)), (9, .pointer (some ⟨b15, 0, none⟩)), (8, .int .i64 (q : Int)), (7, .slice Ao13 ol.length co13), (6, .bool false), (3, .pointer (some ⟨b8, 0, none⟩))] [(bh1w, oh1w), (bh2w, oh2w), (bh1x, oh1x), (bh2x, oh2x), (b18, some (.cells ⟨[.slice Ah1w csw.length ch1w, .slice Ah2w wsw.length ch2w, .int .i64 flw]⟩ 50 (0, 0))), (b19, some (.cells ⟨[.slice Ah1x csx.length ch1x, .slice Ah2x wsx.length ch2x, .int .i64 flx]⟩ 50 (0, 0))), (bw, ow), (bx, ox), (b15, some (.cells ⟨(bookL (b.edge false) Aw n cw)⟩ 27 (0, 0))), (b16, some (.cells ⟨(bookL (b.edge true) Ax n cx)⟩ 27 (0, 0))), (bo13, oo13), (b8, some (.cells ⟨(bookL b A n cp)⟩ 27 (0, 0)))] [] w _ _ := hs40; clear hs40
       have hfe := hap_fl_all (edge_known hok false ol) hHw (fun j hj => by rw [mayAt_edge]; exact hall9 j (by omega))
       rw [← hlw] at hfe
       have hc22 : true = true := rfl
       refine cd_cond hs41 (Ev.t 0 rfl) (fun _ => ?_) (fun h => absurd (hc22.symm.trans h) (by decide))
       refine cd_region1 ?_
       refine sq rfl (st_field (o' := 22) hs41 (Ev.t 9 rfl) rfl rfl runUnderlying27 rfl sizeOf25 rfl rfl fun _ _ hs42 => ?_); clear hs41
       refine sq rfl (st_load1 (o := 0) (off := 22) (v := .slice A n cp) hs42 (Ev.t 0 rfl) rfl rfl isAgg25 (hs42.cells 11 rfl) rfl fun _ _ hs43 => ?_); clear hs42
       refine sq rfl (st_len hs43 (Ev.t 0 rfl) rfl rfl runUnderlying25 fun _ _ hs44 => ?_); clear hs43
       have hs45 := hs44.keep [0, 1, 2, 3, 4, 6, 7, 8, 9, 10, 11, 12] [_, _, _, _, _, _, _, _, _, _, _, _] rfl; clear hs44
       refine sq rfl (st_assign hs45 (Ev.t 0 rfl) rfl rfl fun _ _ hs46 => ?_); clear hs45
       refine wpListIn_nil ?_
       have hs47 := hs46.keep [0, 6, 7, 8, 9, 10, 11, 12] [_, _, _, _, _, _, _, _] rfl; clear hs46
       refine th_norm ?_
       refine ⟨(n : Int), ?_, ?_⟩
       · exact hfe
       exact Sx.keepE [0, 1, 2, 3, 4, 5, 6, 7] _ ⟨⟨_, rfl, rfl⟩, ⟨_, rfl, rfl⟩, ⟨_, rfl, rfl⟩, ⟨_, rfl, rfl⟩, ⟨_, rfl, rfl⟩, ⟨_, rfl, rfl⟩, ⟨_, rfl, rfl⟩, ⟨_, rfl, rfl⟩, trivial⟩ hs47
     · skip
       rw [hfo] at hs40
       have hs41 : Sx 149 [] [(49, .bool false), (14, .int .i64 0), (13, .int .i64 (q9 : Int)), (11, .pointer (some ⟨b18, 0, none⟩)), (12, .pointer (some ⟨b19, 0, none⟩)), (9, .pointer (some ⟨b15, 0, none⟩)), (8, .int .i64 (q : Int)), (7, .slice Ao13 ol.length co13), (6, .bool false), (3, .pointer (some ⟨b8, 0, none⟩))] [(bh1w, oh1w), (bh2w, oh2w), (bh1x, oh1x), (bh2x, oh2x), (b18, some (.cells ⟨[.slice Ah1w csw.length ch1w, .slice Ah2w wsw.length ch2w, .int .i64 flw]⟩ 50 (0, 0))), (b19, some (.cells ⟨[.slice Ah1x csx.length ch1x, .slice Ah2x wsx.length ch2x, .int .i64 flx]⟩ 50 (0, 0))), (bw, ow), (bx, ox), (b15, some (.cells ⟨(bookL (b.edge false) Aw n cw)⟩ 27 (0, 0))), (b16, some (.cells ⟨(bookL (b.edge true) Ax n cx)⟩ 27 (0, 0))), (bo13, oo13), (b8, some (.cells ⟨(bookL b A n cp)⟩ 27 (0, 0)))] [] w _ _ := hs40; clear hs40
       have hfe := hap_fl_eq (edge_known hok false ol) hHw (fun j hj => by rw [mayAt_edge]; exact hall9 j hj) (by omega) (by rw [mayAt_edge]; exact hmq9)
       have hc23 : false = false := rfl
       refine cd_cond hs41 (Ev.t 0 rfl) (fun h => absurd (hc23.symm.trans h) (by decide)) (fun _ => ?_)
       refine cd_region fun K24 hK24 => ?_
       refine sq rfl (st_move hs41 (Ev.t 1 rfl) rfl rfl fun _ _ hs42 => ?_); clear hs41
       refine sq rfl (st_cmp (c := false) hs42 (Ev.t 0 rfl) (.const _) rfl rfl rfl rfl fun _ _ hs43 => ?_); clear hs42
       refine hK24 _ _ ?_; clear hK24
       have hs44 := hs43.keep [0, 4, 5, 6, 7, 8, 9, 10, 11] [_, _, _, _, _, _, _, _, _] rfl; clear hs43
       have hc25 : false = false := rfl
       refine cd_cond hs44 (Ev.t 0 rfl) (fun h => absurd (hc25.symm.trans h) (by decide)) (fun _ => ?_)
       refine cd_skip ?_
       refine th_norm ?_
       refine ⟨(q9 : Int), ?_, ?_⟩
       · exact hfe
       exact Sx.keepE [1, 2, 3, 4, 5, 6, 7, 8] _ ⟨⟨_, rfl, rfl⟩, ⟨_, rfl, rfl⟩, ⟨_, rfl, rfl⟩, ⟨_, rfl, rfl⟩, ⟨_, rfl, rfl⟩, ⟨_, rfl, rfl⟩, ⟨_, rfl, rfl⟩, ⟨_, rfl, rfl⟩, trivial⟩ hs44
   · intro a_38 w_38 ⟨t9, hfe, hs38⟩
     clear hs37
     refine cd_region fun K26 hK26 => ?_
     refine sq rfl (st_loadA (o := 0) (off := 0) (vs := (bookL b A n cp)) hs38 (Ev.t 7 rfl) rfl rfl isAgg27 sizeOf27 (hs38.cells 11 rfl) rfl fun _ _ hs39 => ?_); clear hs38
     refine sq rfl (st_move hs39 (Ev.t 6 rfl) rfl rfl fun _ _ hs40 => ?_); clear hs39
     refine sq rfl (st_move hs40 (Ev.t 6 rfl) rfl rfl fun _ _ hs41 => ?_); clear hs40
     refine sq rfl (st_callv (vs := [.agg ⟨(bookL b A n cp)⟩, .slice Ao13 ol.length co13, .int .i64 (q : Int)]) hs41 (.func _) ⟨(Ev.t 2 rfl), (Ev.t 1 rfl), (Ev.t 0 rfl), trivial⟩ rfl rfl call18 rfl (Left_v b A n cp Ao13 ol.length co13 ol (q : Int) _ (hP.kp hs41.kp) hn (hOo13.at hs41 10 rfl) (by omega) (hG.kp hs41.kp (by simp))) fun _ _ hs42 => ?_); clear hs41
     refine sq rfl (st_move hs42 (Ev.t 0 rfl) rfl rfl fun _ _ hs43 => ?_); clear hs42
     refine sq rfl (st_extract hs43 (Ev.t 0 rfl) rfl rfl rfl fun _ _ hs44 => ?_); clear hs43
     refine sq rfl (st_extract hs44 (Ev.t 1 rfl) rfl rfl rfl fun _ _ hs45 => ?_); clear hs44
     refine sq rfl (st_extract hs45 (Ev.t 2 rfl) rfl rfl rfl fun _ _ hs46 => ?_); clear hs45
     refine sq rfl (st_alloc hs46 rfl rfl zeroValue23 rfl fun b27 _ _ hs47 => ?_); clear hs46
     refine sq rfl (st_alloc hs47 rfl rfl zeroValue23 rfl fun b28 _ _ hs48 => ?_); clear hs47
     refine sq rfl (st_store (l' := [.int .i64 ((b.leftR ol (q : Int)).1.lo), .int .i64 ((b.leftR ol (q : Int)).1.hi)]) (vs := [.int .i64 ((b.leftR ol (q : Int)).1.lo), .int .i64 ((b.leftR ol (q : Int)).1.hi)]) (i := 1) hs48 (Ev.t 1 rfl) (Ev.t 4 rfl) sizeOf23 rfl rfl rfl rfl rfl rfl fun _ _ hs49 => ?_); clear hs48
     have hs50 := hs49.asB [_, _, _, _, _, _, _, _, _, _, _, _, _, _] rfl; clear hs49
     refine sq rfl (st_store (l' := [.int .i64 ((b.leftR ol (q : Int)).2.1.lo), .int .i64 ((b.leftR ol (q : Int)).2.1.hi)]) (vs := [.int .i64 ((b.leftR ol (q : Int)).2.1.lo), .int .i64 ((b.leftR ol (q : Int)).2.1.hi)]) (i := 0) hs50 (Ev.t 0 rfl) (Ev.t 3 rfl) sizeOf23 rfl rfl rfl rfl rfl rfl fun _ _ hs51 => ?_); clear hs50
     have hs52 := hs51.asB [_, _, _, _, _, _, _, _, _, _, _, _, _, _] rfl; clear hs51
     refine sq rfl (st_assign hs52 (Ev.t 2 rfl) rfl rfl fun _ _ hs53 => ?_); clear hs52
     refine hK26 _ _ ?_; clear hK26
     have hs54 := hs53.keep [0, 1, 2, 11, 12, 13, 14, 15, 17, 18] [_, _, _, _, _, _, _, _, _, _] rfl; clear hs53
     refine cd_cut (fun a_ w_ => Sx 149 [] [(13, .int .i64 t9), (11, .pointer (some ⟨b18, 0, none⟩)), (9, .pointer (some ⟨b15, 0, none⟩)), (6, .bool false), (3, .pointer (some ⟨b8, 0, none⟩))] [(bh1w, oh1w), (bh2w, oh2w), (bh1x, oh1x), (bh2x, oh2x), (b18, some (.cells ⟨[.slice Ah1w csw.length ch1w, .slice Ah2w wsw.length ch2w, .int .i64 flw]⟩ 50 (0, 0))), (b19, some (.cells ⟨[.slice Ah1x csx.length ch1x, .slice Ah2x wsx.length ch2x, .int .i64 flx]⟩ 50 (0, 0))), (bw, ow), (bx, ox), (b15, some (.cells ⟨(bookL (b.edge false) Aw n cw)⟩ 27 (0, 0))), (b16, some (.cells ⟨(bookL (b.edge true) Ax n cx)⟩ 27 (0, 0))), (bo13, oo13), (b8, some (.cells ⟨(bookL b A n cp)⟩ 27 (0, 0)))] [] w a_ w_) ?_ ?_
     · skip
       refine cd_region fun K29 hK29 => ?_
       refine sq rfl (st_move hs54 (Ev.t 0 rfl) rfl rfl fun _ _ hs55 => ?_); clear hs54
       refine sq rfl (st_cmp (c := ((b.leftR ol (q : Int)).2.2 : Int) == 0) hs55 (Ev.t 0 rfl) (.const _) rfl rfl rfl rfl fun _ _ hs56 => ?_); clear hs55
       refine hK29 _ _ ?_; clear hK29
       have hs57 := hs56.keep [0, 2, 3, 4, 5, 6, 7, 8, 9, 10, 11] [_, _, _, _, _, _, _, _, _, _, _] rfl; clear hs56
       rcases left_cases hok hol hqb with ⟨hL9, hdd⟩ | ⟨hL9, jd, hjd, hdd⟩
       · skip
         rw [hL9] at hs57
         have hs58 : Sx 149 [] [(64, .bool true), (14, .int .i64 0), (16, .pointer (some ⟨b28, 0, none⟩)), (15, .pointer (some ⟨b27, 0, none⟩)), (13, .int .i64 t9), (11, .pointer (some ⟨b18, 0, none⟩)), (12, .pointer (some ⟨b19, 0, none⟩)), (9, .pointer (some ⟨b15, 0, none⟩)), (8, .int .i64 (q : Int)), (6, .bool false), (3, .pointer (some ⟨b8, 0, none⟩))] [(b28, some (.cells ⟨[.int .i64 ((b.run false ol (q + 1)).2), .int .i64 ((b.run true ol (q + 1)).2)]⟩ 23 (0, 0))), (b27, some (.cells ⟨[.int .i64 ((b.run false ol (q + 1)).1), .int .i64 ((b.run true ol (q + 1)).1)]⟩ 23 (0, 0))), (bh1w, oh1w), (bh2w, oh2w), (bh1x, oh1x), (bh2x, oh2x), (b18, some (.cells ⟨[.slice Ah1w csw.length ch1w, .slice Ah2w wsw.length ch2w, .int .i64 flw]⟩ 50 (0, 0))), (b19, some (.cells ⟨[.slice Ah1x csx.length ch1x, .slice Ah2x wsx.length ch2x, .int .i64 flx]⟩ 50 (0, 0))), (bw, ow), (bx, ox), (b15, some (.cells ⟨(bookL (b.edge false) Aw n cw)⟩ 27 (0, 0))), (b16, some (.cells ⟨(bookL (b.edge true) Ax n cx)⟩ 27 (0, 0))), (bo13, oo13), (b8, some (.cells ⟨(bookL b A n cp)⟩ 27 (0, 0)))] [] w _ _ := hs57; clear hs57
         obtain ⟨hcw, hww⟩ := hap_left (edge_known hok false ol) hHw (i := q) (by omega) (fun j hj => by rw [dead_edge]; exact hdd j hj)
         obtain ⟨hcx, hwx⟩ := hap_left (edge_known hok true ol) hHx (i := q) (by omega) (fun j hj => by have h1 := hdd j hj; have h2 := run_le hok (plan := ol) (j + 1); simp only [Book.dead, run_edge, Bool.or_eq_false_iff, decide_eq_false_iff_not] at h1 ⊢; omega)
         rw [run_edge] at hcw hww hcx hwx
         have g1 := (List.getElem?_eq_some_iff.1 hcw).1
         have g2 := (List.getElem?_eq_some_iff.1 hcx).1
         have g3 := (List.getElem?_eq_some_iff.1 hww).1
         have g4 := (List.getElem?_eq_some_iff.1 hwx).1
         obtain ⟨hAh1w, lh1w, hoh1w, hrh1w⟩ := h1w.open hcw
         obtain ⟨hAh2w, lh2w, hoh2w, hrh2w⟩ := h2w.open hww
         obtain ⟨hAh1x, lh1x, hoh1x, hrh1x⟩ := h1x.open hcx
         obtain ⟨hAh2x, lh2x, hoh2x, hrh2x⟩ := h2x.open hwx
         have hc30 : true = true := rfl
         refine cd_cond hs58 (Ev.t 0 rfl) (fun _ => ?_) (fun h => absurd (hc30.symm.trans h) (by decide))
         refine cd_drawn mixed hs58 [⟨65, [], Is (.int .i64 (q : Int))⟩, ⟨66, [], Is (.pointer (some ⟨b18, 0, none⟩))⟩, ⟨67, [1], Is (.slice Ah1w csw.length ch1w)⟩, ⟨68, [2], Is (.int .i64 (csw.length : Int))⟩, ⟨69, [0, 3], Is (.bool (decide (((q : Int) : Int) ≥ (csw.length : Int))))⟩, ⟨70, [4], Is (.bool (decide (((q : Int) : Int) ≥ (csw.length : Int))))⟩, ⟨71, [5], Is (Gv (!(decide (((q : Int) : Int) ≥ (csw.length : Int)))) (.int .i64 (q : Int)))⟩, ⟨72, [5], Is (Gv (!(decide (((q : Int) : Int) ≥ (csw.length : Int)))) (.pointer (some ⟨b19, 0, none⟩)))⟩, ⟨73, [5, 7], Is (Gv (!(decide (((q : Int) : Int) ≥ (csw.length : Int)))) (.slice Ah1x csx.length ch1x))⟩, ⟨74, [5, 8], Is (Gv (!(decide (((q : Int) : Int) ≥ (csw.length : Int)))) (.int .i64 (csx.length : Int)))⟩, ⟨75, [5, 6, 9], Is (Gv (!(decide (((q : Int) : Int) ≥ (csw.length : Int)))) (.bool (decide (((q : Int) : Int) ≥ (csx.length : Int)))))⟩, ⟨76, [5, 10], Is (.bool ((decide (((q : Int) : Int) ≥ (csw.length : Int))) || (decide (((q : Int) : Int) ≥ (csx.length : Int)))))⟩, ⟨77, [11], Is (.bool ((decide (((q : Int) : Int) ≥ (csw.length : Int))) || (decide (((q : Int) : Int) ≥ (csx.length : Int)))))⟩, ⟨78, [12], Is (Gv (!((decide (((q : Int) : Int) ≥ (csw.length : Int))) || (decide (((q : Int) : Int) ≥ (csx.length : Int))))) (.agg ⟨[.int .i64 ((b.run false ol (q + 1)).1), .int .i64 ((b.run true ol (q + 1)).1)]⟩))⟩, ⟨79, [12], Is (Gv (!((decide (((q : Int) : Int) ≥ (csw.length : Int))) || (decide (((q : Int) : Int) ≥ (csx.length : Int))))) (.pointer (some ⟨b18, 0, none⟩)))⟩, ⟨80, [12, 14], Is (Gv (!((decide (((q : Int) : Int) ≥ (csw.length : Int))) || (decide (((q : Int) : Int) ≥ (csx.length : Int))))) (.slice Ah1w csw.length ch1w))⟩, ⟨81, [12], Is (Gv (!((decide (((q : Int) : Int) ≥ (csw.length : Int))) || (decide (((q : Int) : Int) ≥ (csx.length : Int))))) (.int .i64 (q : Int)))⟩, ⟨82, [12, 15, 16], Is (Gv (!((decide (((q : Int) : Int) ≥ (csw.length : Int))) || (decide (((q : Int) : Int) ≥ (csx.length : Int))))) (.pointer (some ⟨bh1w, q * 1, none⟩)))⟩, ⟨83, [12, 17], Is (Gv (!((decide (((q : Int) : Int) ≥ (csw.length : Int))) || (decide (((q : Int) : Int) ≥ (csx.length : Int))))) (.int .i64 ((b.run false ol (q + 1)).1)))⟩, ⟨84, [12], Is (Gv (!((decide (((q : Int) : Int) ≥ (csw.length : Int))) || (decide (((q : Int) : Int) ≥ (csx.length : Int))))) (.pointer (some ⟨b19, 0, none⟩)))⟩, ⟨85, [12, 19], Is (Gv (!((decide (((q : Int) : Int) ≥ (csw.length : Int))) || (decide (((q : Int) : Int) ≥ (csx.length : Int))))) (.slice Ah1x csx.length ch1x))⟩, ⟨86, [12], Is (Gv (!((decide (((q : Int) : Int) ≥ (csw.length : Int))) || (decide (((q : Int) : Int) ≥ (csx.length : Int))))) (.int .i64 (q : Int)))⟩, ⟨87, [12, 20, 21], Is (Gv (!((decide (((q : Int) : Int) ≥ (csw.length : Int))) || (decide (((q : Int) : Int) ≥ (csx.length : Int))))) (.pointer (some ⟨bh1x, q * 1, none⟩)))⟩, ⟨88, [12, 22], Is (Gv (!((decide (((q : Int) : Int) ≥ (csw.length : Int))) || (decide (((q : Int) : Int) ≥ (csx.length : Int))))) (.int .i64 ((b.run true ol (q + 1)).1)))⟩, ⟨89, [12, 18, 23], Is (Gv (!((decide (((q : Int) : Int) ≥ (csw.length : Int))) || (decide (((q : Int) : Int) ≥ (csx.length : Int))))) (.agg ⟨[.int .i64 ((b.run false ol (q + 1)).1), .int .i64 ((b.run true ol (q + 1)).1)]⟩))⟩, ⟨90, [12, 13, 24], Is (Gv (!((decide (((q : Int) : Int) ≥ (csw.length : Int))) || (decide (((q : Int) : Int) ≥ (csx.length : Int))))) (.bool (!((((b.run false ol (q + 1)).1 : Int) == ((b.run false ol (q + 1)).1)) && (((b.run true ol (q + 1)).1 : Int) == ((b.run true ol (q + 1)).1))))))⟩, ⟨91, [12, 25], Is (.bool (((decide (((q : Int) : Int) ≥ (csw.length : Int))) || (decide (((q : Int) : Int) ≥ (csx.length : Int)))) || (!((((b.run false ol (q + 1)).1 : Int) == ((b.run false ol (q + 1)).1)) && (((b.run true ol (q + 1)).1 : Int) == ((b.run true ol (q + 1)).1))))))⟩, ⟨92, [26], Is (.bool (((decide (((q : Int) : Int) ≥ (csw.length : Int))) || (decide (((q : Int) : Int) ≥ (csx.length : Int)))) || (!((((b.run false ol (q + 1)).1 : Int) == ((b.run false ol (q + 1)).1)) && (((b.run true ol (q + 1)).1 : Int) == ((b.run true ol (q + 1)).1))))))⟩, ⟨93, [27], Is (Gv (!(((decide (((q : Int) : Int) ≥ (csw.length : Int))) || (decide (((q : Int) : Int) ≥ (csx.length : Int)))) || (!((((b.run false ol (q + 1)).1 : Int) == ((b.run false ol (q + 1)).1)) && (((b.run true ol (q + 1)).1 : Int) == ((b.run true ol (q + 1)).1)))))) (.agg ⟨[.int .i64 ((b.run false ol (q + 1)).2), .int .i64 ((b.run true ol (q + 1)).2)]⟩))⟩, ⟨94, [27], Is (Gv (!(((decide (((q : Int) : Int) ≥ (csw.length : Int))) || (decide (((q : Int) : Int) ≥ (csx.length : Int)))) || (!((((b.run false ol (q + 1)).1 : Int) == ((b.run false ol (q + 1)).1)) && (((b.run true ol (q + 1)).1 : Int) == ((b.run true ol (q + 1)).1)))))) (.pointer (some ⟨b18, 1, none⟩)))⟩, ⟨95, [27, 29], Is (Gv (!(((decide (((q : Int) : Int) ≥ (csw.length : Int))) || (decide (((q : Int) : Int) ≥ (csx.length : Int)))) || (!((((b.run false ol (q + 1)).1 : Int) == ((b.run false ol (q + 1)).1)) && (((b.run true ol (q + 1)).1 : Int) == ((b.run true ol (q + 1)).1)))))) (.slice Ah2w wsw.length ch2w))⟩, ⟨96, [27], Is (Gv (!(((decide (((q : Int) : Int) ≥ (csw.length : Int))) || (decide (((q : Int) : Int) ≥ (csx.length : Int)))) || (!((((b.run false ol (q + 1)).1 : Int) == ((b.run false ol (q + 1)).1)) && (((b.run true ol (q + 1)).1 : Int) == ((b.run true ol (q + 1)).1)))))) (.int .i64 (q : Int)))⟩, ⟨97, [27, 30, 31], Is (Gv (!(((decide (((q : Int) : Int) ≥ (csw.length : Int))) || (decide (((q : Int) : Int) ≥ (csx.length : Int)))) || (!((((b.run false ol (q + 1)).1 : Int) == ((b.run false ol (q + 1)).1)) && (((b.run true ol (q + 1)).1 : Int) == ((b.run true ol (q + 1)).1)))))) (.pointer (some ⟨bh2w, q * 1, none⟩)))⟩, ⟨98, [27, 32], Is (Gv (!(((decide (((q : Int) : Int) ≥ (csw.length : Int))) || (decide (((q : Int) : Int) ≥ (csx.length : Int)))) || (!((((b.run false ol (q + 1)).1 : Int) == ((b.run false ol (q + 1)).1)) && (((b.run true ol (q + 1)).1 : Int) == ((b.run true ol (q + 1)).1)))))) (.int .i64 ((b.run false ol (q + 1)).2)))⟩, ⟨99, [27], Is (Gv (!(((decide (((q : Int) : Int) ≥ (csw.length : Int))) || (decide (((q : Int) : Int) ≥ (csx.length : Int)))) || (!((((b.run false ol (q + 1)).1 : Int) == ((b.run false ol (q + 1)).1)) && (((b.run true ol (q + 1)).1 : Int) == ((b.run true ol (q + 1)).1)))))) (.pointer (some ⟨b19, 1, none⟩)))⟩, ⟨100, [27, 34], Is (Gv (!(((decide (((q : Int) : Int) ≥ (csw.length : Int))) || (decide (((q : Int) : Int) ≥ (csx.length : Int)))) || (!((((b.run false ol (q + 1)).1 : Int) == ((b.run false ol (q + 1)).1)) && (((b.run true ol (q + 1)).1 : Int) == ((b.run true ol (q + 1)).1)))))) (.slice Ah2x wsx.length ch2x))⟩, ⟨101, [27], Is (Gv (!(((decide (((q : Int) : Int) ≥ (csw.length : Int))) || (decide (((q : Int) : Int) ≥ (csx.length : Int)))) || (!((((b.run false ol (q + 1)).1 : Int) == ((b.run false ol (q + 1)).1)) && (((b.run true ol (q + 1)).1 : Int) == ((b.run true ol (q + 1)).1)))))) (.int .i64 (q : Int)))⟩, ⟨102, [27, 35, 36], Is (Gv (!(((decide (((q : Int) : Int) ≥ (csw.length : Int))) || (decide (((q : Int) : Int) ≥ (csx.length : Int)))) || (!((((b.run false ol (q + 1)).1 : Int) == ((b.run false ol (q + 1)).1)) && (((b.run true ol (q + 1)).1 : Int) == ((b.run true ol (q + 1)).1)))))) (.pointer (some ⟨bh2x, q * 1, none⟩)))⟩, ⟨103, [27, 37], Is (Gv (!(((decide (((q : Int) : Int) ≥ (csw.length : Int))) || (decide (((q : Int) : Int) ≥ (csx.length : Int)))) || (!((((b.run false ol (q + 1)).1 : Int) == ((b.run false ol (q + 1)).1)) && (((b.run true ol (q + 1)).1 : Int) == ((b.run true ol (q + 1)).1)))))) (.int .i64 ((b.run true ol (q + 1)).2)))⟩, ⟨104, [27, 33, 38], Is (Gv (!(((decide (((q : Int) : Int) ≥ (csw.length : Int))) || (decide (((q : Int) : Int) ≥ (csx.length : Int)))) || (!((((b.run false ol (q + 1)).1 : Int) == ((b.run false ol (q + 1)).1)) && (((b.run true ol (q + 1)).1 : Int) == ((b.run true ol (q + 1)).1)))))) (.agg ⟨[.int .i64 ((b.run false ol (q + 1)).2), .int .i64 ((b.run true ol (q + 1)).2)]⟩))⟩, ⟨105, [27, 28, 39], Is (Gv (!(((decide (((q : Int) : Int) ≥ (csw.length : Int))) || (decide (((q : Int) : Int) ≥ (csx.length : Int)))) || (!((((b.run false ol (q + 1)).1 : Int) == ((b.run false ol (q + 1)).1)) && (((b.run true ol (q + 1)).1 : Int) == ((b.run true ol (q + 1)).1)))))) (.bool (!((((b.run false ol (q + 1)).2 : Int) == ((b.run false ol (q + 1)).2)) && (((b.run true ol (q + 1)).2 : Int) == ((b.run true ol (q + 1)).2))))))⟩, ⟨106, [27, 40], Is (.bool ((((decide (((q : Int) : Int) ≥ (csw.length : Int))) || (decide (((q : Int) : Int) ≥ (csx.length : Int)))) || (!((((b.run false ol (q + 1)).1 : Int) == ((b.run false ol (q + 1)).1)) && (((b.run true ol (q + 1)).1 : Int) == ((b.run true ol (q + 1)).1))))) || (!((((b.run false ol (q + 1)).2 : Int) == ((b.run false ol (q + 1)).2)) && (((b.run true ol (q + 1)).2 : Int) == ((b.run true ol (q + 1)).2))))))⟩] (by kernel_rfl) (by kernel_rfl) fun K31 hK31 => ⟨⟨?_, ?_, ?_, ?_, ?_, ?_, ?_, ?_, ?_, ?_, ?_, ?_, ?_, ?_, ?_, ?_, ?_, ?_, ?_, ?_, ?_, ?_, ?_, ?_, ?_, ?_, ?_, ?_, ?_, ?_, ?_, ?_, ?_, ?_, ?_, ?_, ?_, ?_, ?_, ?_, ?_, ?_, trivial⟩, ?_⟩
         · rintro T_ B_ a_ w_ K_ hT hB hf hsD hk
           exact ob rfl rfl (st_move hsD (evT hT 8 rfl) rfl hf fun _ _ => hk _ _ _ _ ⟨rfl, rfl⟩)
         · rintro T_ B_ a_ w_ K_ hT hB hf hsD hk
           exact ob rfl rfl (st_field (o' := 0) hsD (evT hT 5 rfl) rfl hf runUnderlying50 rfl sizeOf47 rfl rfl fun _ _ => hk _ _ _ _ ⟨rfl, rfl⟩)
         · rintro T_ B_ a_ w_ K_ hT hB _ _ ⟨rfl, rfl⟩ h66 - hf hsD hk
           exact ob rfl rfl (st_load1 (o := 0) (off := 0) (v := .slice Ah1w csw.length ch1w) hsD (Ev.tmp h66) rfl hf isAgg47 (hsD.cellsM (inB hB 6 rfl)) rfl fun _ _ => hk _ _ _ _ ⟨rfl, rfl⟩)
         · rintro T_ B_ a_ w_ K_ hT hB _ _ ⟨rfl, rfl⟩ h67 - hf hsD hk
           exact ob rfl rfl (st_len hsD (Ev.tmp h67) rfl hf runUnderlying47 fun _ _ => hk _ _ _ _ ⟨rfl, rfl⟩)
         · rintro T_ B_ a_ w_ K_ hT hB _ _ ⟨rfl, rfl⟩ h65 - _ _ ⟨rfl, rfl⟩ h68 - hf hsD hk
           exact ob rfl rfl (st_cmp (c := decide (((q : Int) : Int) ≥ (csw.length : Int))) hsD (Ev.tmp h65) (Ev.tmp h68) rfl hf rfl rfl fun _ _ => hk _ _ _ _ ⟨rfl, rfl⟩)
         · rintro T_ B_ a_ w_ K_ hT hB _ _ ⟨rfl, rfl⟩ h69 - hf hsD hk
           exact ob rfl rfl (st_move hsD (Ev.tmp h69) rfl hf fun _ _ => hk _ _ _ _ ⟨rfl, rfl⟩)
         · rintro T_ B_ a_ w_ K_ hT hB _ _ ⟨rfl, rfl⟩ h70 - hf hsD hk
           exact ob_gv hsD (gg := !(decide (((q : Int) : Int) ≥ (csw.length : Int)))) (v := .int .i64 (q : Int)) rfl rfl rfl h70 (ison_f _) rfl rfl hf (fun hg K1 hK1 => st_move hsD (evT hT 8 rfl) rfl hf hK1) fun _ _ => hk _ _ _ _ ⟨rfl, rfl⟩
         · rintro T_ B_ a_ w_ K_ hT hB _ _ ⟨rfl, rfl⟩ h70 - hf hsD hk
           exact ob_gv hsD (gg := !(decide (((q : Int) : Int) ≥ (csw.length : Int)))) (v := .pointer (some ⟨b19, 0, none⟩)) rfl rfl rfl h70 (ison_f _) rfl rfl hf (fun hg K1 hK1 => st_field (o' := 0) hsD (evT hT 6 rfl) rfl hf runUnderlying50 rfl sizeOf47 rfl rfl hK1) fun _ _ => hk _ _ _ _ ⟨rfl, rfl⟩
         · rintro T_ B_ a_ w_ K_ hT hB _ _ ⟨rfl, rfl⟩ h70 - _ _ ⟨rfl, rfl⟩ h72 - hf hsD hk
           exact ob_gv hsD (gg := !(decide (((q : Int) : Int) ≥ (csw.length : Int)))) (v := .slice Ah1x csx.length ch1x) rfl rfl rfl h70 (ison_f _) rfl rfl hf (fun hg K1 hK1 => st_load1 (o := 0) (off := 0) (v := .slice Ah1x csx.length ch1x) hsD ((Ev.tmp h72).un hg) rfl hf isAgg47 (hsD.cellsM (inB hB 7 rfl)) rfl hK1) fun _ _ => hk _ _ _ _ ⟨rfl, rfl⟩
         · rintro T_ B_ a_ w_ K_ hT hB _ _ ⟨rfl, rfl⟩ h70 - _ _ ⟨rfl, rfl⟩ h73 - hf hsD hk
           exact ob_gv hsD (gg := !(decide (((q : Int) : Int) ≥ (csw.length : Int)))) (v := .int .i64 (csx.length : Int)) rfl rfl rfl h70 (ison_f _) rfl rfl hf (fun hg K1 hK1 => st_len hsD ((Ev.tmp h73).un hg) rfl hf runUnderlying47 hK1) fun _ _ => hk _ _ _ _ ⟨rfl, rfl⟩
         · rintro T_ B_ a_ w_ K_ hT hB _ _ ⟨rfl, rfl⟩ h70 - _ _ ⟨rfl, rfl⟩ h71 - _ _ ⟨rfl, rfl⟩ h74 - hf hsD hk
           exact ob_gv hsD (gg := !(decide (((q : Int) : Int) ≥ (csw.length : Int)))) (v := .bool (decide (((q : Int) : Int) ≥ (csx.length : Int)))) rfl rfl rfl h70 (ison_f _) rfl rfl hf (fun hg K1 hK1 => st_cmp (c := decide (((q : Int) : Int) ≥ (csx.length : Int))) hsD ((Ev.tmp h71).un hg) ((Ev.tmp h74).un hg) rfl hf rfl rfl hK1) fun _ _ => hk _ _ _ _ ⟨rfl, rfl⟩
         · rintro T_ B_ a_ w_ K_ hT hB _ _ ⟨rfl, rfl⟩ h70 - _ _ ⟨rfl, rfl⟩ h75 - hf hsD hk
           exact ob rfl rfl (st_or hsD (gx := true) (gy := !(decide (((q : Int) : Int) ≥ (csw.length : Int)))) (Ev.tmp h70) rfl (Ev.tmp h75) (fun h => (by first | exact absurd h (by decide) | (rw [h]; rfl))) rfl hf fun _ _ => hk _ _ _ _ ⟨rfl, rfl⟩)
         · rintro T_ B_ a_ w_ K_ hT hB _ _ ⟨rfl, rfl⟩ h76 - hf hsD hk
           exact ob rfl rfl (st_move hsD (Ev.tmp h76) rfl hf fun _ _ => hk _ _ _ _ ⟨rfl, rfl⟩)
         · rintro T_ B_ a_ w_ K_ hT hB _ _ ⟨rfl, rfl⟩ h77 - hf hsD hk
           exact ob_gv hsD (gg := !((decide (((q : Int) : Int) ≥ (csw.length : Int))) || (decide (((q : Int) : Int) ≥ (csx.length : Int))))) (v := .agg ⟨[.int .i64 ((b.run false ol (q + 1)).1), .int .i64 ((b.run true ol (q + 1)).1)]⟩) rfl rfl rfl h77 (ison_f _) rfl rfl hf (fun hg K1 hK1 => st_loadA (o := 0) (off := 0) (vs := [.int .i64 ((b.run false ol (q + 1)).1), .int .i64 ((b.run true ol (q + 1)).1)]) hsD (evT hT 3 rfl) rfl hf isAgg23 sizeOf23 (hsD.cellsM (inB hB 1 rfl)) rfl hK1) fun _ _ => hk _ _ _ _ ⟨rfl, rfl⟩
         · rintro T_ B_ a_ w_ K_ hT hB _ _ ⟨rfl, rfl⟩ h77 - hf hsD hk
           exact ob_gv hsD (gg := !((decide (((q : Int) : Int) ≥ (csw.length : Int))) || (decide (((q : Int) : Int) ≥ (csx.length : Int))))) (v := .pointer (some ⟨b18, 0, none⟩)) rfl rfl rfl h77 (ison_f _) rfl rfl hf (fun hg K1 hK1 => st_field (o' := 0) hsD (evT hT 5 rfl) rfl hf runUnderlying50 rfl sizeOf47 rfl rfl hK1) fun _ _ => hk _ _ _ _ ⟨rfl, rfl⟩
         · rintro T_ B_ a_ w_ K_ hT hB _ _ ⟨rfl, rfl⟩ h77 - _ _ ⟨rfl, rfl⟩ h79 - hf hsD hk
           exact ob_gv hsD (gg := !((decide (((q : Int) : Int) ≥ (csw.length : Int))) || (decide (((q : Int) : Int) ≥ (csx.length : Int))))) (v := .slice Ah1w csw.length ch1w) rfl rfl rfl h77 (ison_f _) rfl rfl hf (fun hg K1 hK1 => st_load1 (o := 0) (off := 0) (v := .slice Ah1w csw.length ch1w) hsD ((Ev.tmp h79).un hg) rfl hf isAgg47 (hsD.cellsM (inB hB 6 rfl)) rfl hK1) fun _ _ => hk _ _ _ _ ⟨rfl, rfl⟩
         · rintro T_ B_ a_ w_ K_ hT hB _ _ ⟨rfl, rfl⟩ h77 - hf hsD hk
           exact ob_gv hsD (gg := !((decide (((q : Int) : Int) ≥ (csw.length : Int))) || (decide (((q : Int) : Int) ≥ (csx.length : Int))))) (v := .int .i64 (q : Int)) rfl rfl rfl h77 (ison_f _) rfl rfl hf (fun hg K1 hK1 => st_move hsD (evT hT 8 rfl) rfl hf hK1) fun _ _ => hk _ _ _ _ ⟨rfl, rfl⟩
         · rintro T_ B_ a_ w_ K_ hT hB _ _ ⟨rfl, rfl⟩ h77 - _ _ ⟨rfl, rfl⟩ h80 - _ _ ⟨rfl, rfl⟩ h81 - hf hsD hk
           exact ob_gv hsD (gg := !((decide (((q : Int) : Int) ≥ (csw.length : Int))) || (decide (((q : Int) : Int) ≥ (csx.length : Int))))) (v := .pointer (some ⟨bh1w, q * 1, none⟩)) rfl rfl rfl h77 (ison_f _) rfl rfl hf (fun hg K1 hK1 => st_indexM (o' := q * 1) hsD ((Ev.tmp h80).un hg) ((Ev.tmp h81).un hg) rfl hf hAh1w runUnderlying47 sizeOf3 ⟨by omega, by have := (List.getElem?_eq_some_iff.1 hcw).1; omega⟩ (by simp) hK1) fun _ _ => hk _ _ _ _ ⟨rfl, rfl⟩
         · rintro T_ B_ a_ w_ K_ hT hB _ _ ⟨rfl, rfl⟩ h77 - _ _ ⟨rfl, rfl⟩ h82 - hf hsD hk
           exact ob_gv hsD (gg := !((decide (((q : Int) : Int) ≥ (csw.length : Int))) || (decide (((q : Int) : Int) ≥ (csx.length : Int))))) (v := .int .i64 ((b.run false ol (q + 1)).1)) rfl rfl rfl h77 (ison_f _) rfl rfl hf (fun hg K1 hK1 => st_load1 (o := (q * 1)) (off := 0) (v := .int .i64 ((b.run false ol (q + 1)).1)) hsD ((Ev.tmp h82).un hg) rfl hf isAgg3 (hrh1w.at (hsD.cellsM (by rw [← hoh1w]; exact hB _ (mem_nth (i := 2) rfl))) hcw) rfl hK1) fun _ _ => hk _ _ _ _ ⟨rfl, rfl⟩
         · rintro T_ B_ a_ w_ K_ hT hB _ _ ⟨rfl, rfl⟩ h77 - hf hsD hk
           exact ob_gv hsD (gg := !((decide (((q : Int) : Int) ≥ (csw.length : Int))) || (decide (((q : Int) : Int) ≥ (csx.length : Int))))) (v := .pointer (some ⟨b19, 0, none⟩)) rfl rfl rfl h77 (ison_f _) rfl rfl hf (fun hg K1 hK1 => st_field (o' := 0) hsD (evT hT 6 rfl) rfl hf runUnderlying50 rfl sizeOf47 rfl rfl hK1) fun _ _ => hk _ _ _ _ ⟨rfl, rfl⟩
         · rintro T_ B_ a_ w_ K_ hT hB _ _ ⟨rfl, rfl⟩ h77 - _ _ ⟨rfl, rfl⟩ h84 - hf hsD hk
           exact ob_gv hsD (gg := !((decide (((q : Int) : Int) ≥ (csw.length : Int))) || (decide (((q : Int) : Int) ≥ (csx.length : Int))))) (v := .slice Ah1x csx.length ch1x) rfl rfl rfl h77 (ison_f _) rfl rfl hf (fun hg K1 hK1 => st_load1 (o := 0) (off := 0) (v := .slice Ah1x csx.length ch1x) hsD ((Ev.tmp h84).un hg) rfl hf isAgg47 (hsD.cellsM (inB hB 7 rfl)) rfl hK1) fun _ _ => hk _ _ _ _ ⟨rfl, rfl⟩
         · rintro T_ B_ a_ w_ K_ hT hB _ _ ⟨rfl, rfl⟩ h77 - hf hsD hk
           exact ob_gv hsD (gg := !((decide (((q : Int) : Int) ≥ (csw.length : Int))) || (decide (((q : Int) : Int) ≥ (csx.length : Int))))) (v := .int .i64 (q : Int)) rfl rfl rfl h77 (ison_f _) rfl rfl hf (fun hg K1 hK1 => st_move hsD (evT hT 8 rfl) rfl hf hK1) fun _ _ => hk _ _ _ _ ⟨rfl, rfl⟩
         · rintro T_ B_ a_ w_ K_ hT hB _ _ ⟨rfl, rfl⟩ h77 - _ _ ⟨rfl, rfl⟩ h85 - _ _ ⟨rfl, rfl⟩ h86 - hf hsD hk
           exact ob_gv hsD (gg := !((decide (((q : Int) : Int) ≥ (csw.length : Int))) || (decide (((q : Int) : Int) ≥ (csx.length : Int))))) (v := .pointer (some ⟨bh1x, q * 1, none⟩)) rfl rfl rfl h77 (ison_f _) rfl rfl hf (fun hg K1 hK1 => st_indexM (o' := q * 1) hsD ((Ev.tmp h85).un hg) ((Ev.tmp h86).un hg) rfl hf hAh1x runUnderlying47 sizeOf3 ⟨by omega, by have := (List.getElem?_eq_some_iff.1 hcx).1; omega⟩ (by simp) hK1) fun _ _ => hk _ _ _ _ ⟨rfl, rfl⟩
         · rintro T_ B_ a_ w_ K_ hT hB _ _ ⟨rfl, rfl⟩ h77 - _ _ ⟨rfl, rfl⟩ h87 - hf hsD hk
           exact ob_gv hsD (gg := !((decide (((q : Int) : Int) ≥ (csw.length : Int))) || (decide (((q : Int) : Int) ≥ (csx.length : Int))))) (v := .int .i64 ((b.run true ol (q + 1)).1)) rfl rfl rfl h77 (ison_f _) rfl rfl hf (fun hg K1 hK1 => st_load1 (o := (q * 1)) (off := 0) (v := .int .i64 ((b.run true ol (q + 1)).1)) hsD ((Ev.tmp h87).un hg) rfl hf isAgg3 (hrh1x.at (hsD.cellsM (by rw [← hoh1x]; exact hB _ (mem_nth (i := 4) rfl))) hcx) rfl hK1) fun _ _ => hk _ _ _ _ ⟨rfl, rfl⟩
         · rintro T_ B_ a_ w_ K_ hT hB _ _ ⟨rfl, rfl⟩ h77 - _ _ ⟨rfl, rfl⟩ h83 - _ _ ⟨rfl, rfl⟩ h88 - hf hsD hk
           exact ob_gv hsD (gg := !((decide (((q : Int) : Int) ≥ (csw.length : Int))) || (decide (((q : Int) : Int) ≥ (csx.length : Int))))) (v := .agg ⟨[.int .i64 ((b.run false ol (q + 1)).1), .int .i64 ((b.run true ol (q + 1)).1)]⟩) rfl rfl rfl h77 (ison_f _) rfl rfl hf (fun hg K1 hK1 => st_callv (vs := [.int .i64 ((b.run false ol (q + 1)).1), .int .i64 ((b.run true ol (q + 1)).1)]) hsD (.func _) ⟨((Ev.tmp h83).un hg), ((Ev.tmp h88).un hg), trivial⟩ rfl hf call40 rfl (S_v ((b.run false ol (q + 1)).1) ((b.run true ol (q + 1)).1) _) hK1) fun _ _ => hk _ _ _ _ ⟨rfl, rfl⟩
         · rintro T_ B_ a_ w_ K_ hT hB _ _ ⟨rfl, rfl⟩ h77 - _ _ ⟨rfl, rfl⟩ h78 - _ _ ⟨rfl, rfl⟩ h89 - hf hsD hk
           exact ob_gv hsD (gg := !((decide (((q : Int) : Int) ≥ (csw.length : Int))) || (decide (((q : Int) : Int) ≥ (csx.length : Int))))) (v := .bool (!((((b.run false ol (q + 1)).1 : Int) == ((b.run false ol (q + 1)).1)) && (((b.run true ol (q + 1)).1 : Int) == ((b.run true ol (q + 1)).1))))) rfl rfl rfl h77 (ison_f _) rfl rfl hf (fun hg K1 hK1 => st_bin hsD ((Ev.tmp h78).un hg) ((Ev.tmp h89).un hg) (run_neq_23 _ _ ((b.run false ol (q + 1)).1) ((b.run true ol (q + 1)).1) ((b.run false ol (q + 1)).1) ((b.run true ol (q + 1)).1)) rfl hf hK1) fun _ _ => hk _ _ _ _ ⟨rfl, rfl⟩
         · rintro T_ B_ a_ w_ K_ hT hB _ _ ⟨rfl, rfl⟩ h77 - _ _ ⟨rfl, rfl⟩ h90 - hf hsD hk
           exact ob rfl rfl (st_or hsD (gx := true) (gy := !((decide (((q : Int) : Int) ≥ (csw.length : Int))) || (decide (((q : Int) : Int) ≥ (csx.length : Int))))) (Ev.tmp h77) rfl (Ev.tmp h90) (fun h => (by first | exact absurd h (by decide) | (rw [h]; rfl))) rfl hf fun _ _ => hk _ _ _ _ ⟨rfl, rfl⟩)
         · rintro T_ B_ a_ w_ K_ hT hB _ _ ⟨rfl, rfl⟩ h91 - hf hsD hk
           exact ob rfl rfl (st_move hsD (Ev.tmp h91) rfl hf fun _ _ => hk _ _ _ _ ⟨rfl, rfl⟩)
         · rintro T_ B_ a_ w_ K_ hT hB _ _ ⟨rfl, rfl⟩ h92 - hf hsD hk
           exact ob_gv hsD (gg := !(((decide (((q : Int) : Int) ≥ (csw.length : Int))) || (decide (((q : Int) : Int) ≥ (csx.length : Int)))) || (!((((b.run false ol (q + 1)).1 : Int) == ((b.run false ol (q + 1)).1)) && (((b.run true ol (q + 1)).1 : Int) == ((b.run true ol (q + 1)).1)))))) (v := .agg ⟨[.int .i64 ((b.run false ol (q + 1)).2), .int .i64 ((b.run true ol (q + 1)).2)]⟩) rfl rfl rfl h92 (ison_f _) rfl rfl hf (fun hg K1 hK1 => st_loadA (o := 0) (off := 0) (vs := [.int .i64 ((b.run false ol (q + 1)).2), .int .i64 ((b.run true ol (q + 1)).2)]) hsD (evT hT 2 rfl) rfl hf isAgg23 sizeOf23 (hsD.cellsM (inB hB 0 rfl)) rfl hK1) fun _ _ => hk _ _ _ _ ⟨rfl, rfl⟩
         · rintro T_ B_ a_ w_ K_ hT hB _ _ ⟨rfl, rfl⟩ h92 - hf hsD hk
           exact ob_gv hsD (gg := !(((decide (((q : Int) : Int) ≥ (csw.length : Int))) || (decide (((q : Int) : Int) ≥ (csx.length : Int)))) || (!((((b.run false ol (q + 1)).1 : Int) == ((b.run false ol (q + 1)).1)) && (((b.run true ol (q + 1)).1 : Int) == ((b.run true ol (q + 1)).1)))))) (v := .pointer (some ⟨b18, 1, none⟩)) rfl rfl rfl h92 (ison_f _) rfl rfl hf (fun hg K1 hK1 => st_field (o' := 1) hsD (evT hT 5 rfl) rfl hf runUnderlying50 rfl sizeOf47 rfl rfl hK1) fun _ _ => hk _ _ _ _ ⟨rfl, rfl⟩
         · rintro T_ B_ a_ w_ K_ hT hB _ _ ⟨rfl, rfl⟩ h92 - _ _ ⟨rfl, rfl⟩ h94 - hf hsD hk
           exact ob_gv hsD (gg := !(((decide (((q : Int) : Int) ≥ (csw.length : Int))) || (decide (((q : Int) : Int) ≥ (csx.length : Int)))) || (!((((b.run false ol (q + 1)).1 : Int) == ((b.run false ol (q + 1)).1)) && (((b.run true ol (q + 1)).1 : Int) == ((b.run true ol (q + 1)).1)))))) (v := .slice Ah2w wsw.length ch2w) rfl rfl rfl h92 (ison_f _) rfl rfl hf (fun hg K1 hK1 => st_load1 (o := 0) (off := 1) (v := .slice Ah2w wsw.length ch2w) hsD ((Ev.tmp h94).un hg) rfl hf isAgg47 (hsD.cellsM (inB hB 6 rfl)) rfl hK1) fun _ _ => hk _ _ _ _ ⟨rfl, rfl⟩
         · rintro T_ B_ a_ w_ K_ hT hB _ _ ⟨rfl, rfl⟩ h92 - hf hsD hk
           exact ob_gv hsD (gg := !(((decide (((q : Int) : Int) ≥ (csw.length : Int))) || (decide (((q : Int) : Int) ≥ (csx.length : Int)))) || (!((((b.run false ol (q + 1)).1 : Int) == ((b.run false ol (q + 1)).1)) && (((b.run true ol (q + 1)).1 : Int) == ((b.run true ol (q + 1)).1)))))) (v := .int .i64 (q : Int)) rfl rfl rfl h92 (ison_f _) rfl rfl hf (fun hg K1 hK1 => st_move hsD (evT hT 8 rfl) rfl hf hK1) fun _ _ => hk _ _ _ _ ⟨rfl, rfl⟩
         · rintro T_ B_ a_ w_ K_ hT hB _ _ ⟨rfl, rfl⟩ h92 - _ _ ⟨rfl, rfl⟩ h95 - _ _ ⟨rfl, rfl⟩ h96 - hf hsD hk
           exact ob_gv hsD (gg := !(((decide (((q : Int) : Int) ≥ (csw.length : Int))) || (decide (((q : Int) : Int) ≥ (csx.length : Int)))) || (!((((b.run false ol (q + 1)).1 : Int) == ((b.run false ol (q + 1)).1)) && (((b.run true ol (q + 1)).1 : Int) == ((b.run true ol (q + 1)).1)))))) (v := .pointer (some ⟨bh2w, q * 1, none⟩)) rfl rfl rfl h92 (ison_f _) rfl rfl hf (fun hg K1 hK1 => st_indexM (o' := q * 1) hsD ((Ev.tmp h95).un hg) ((Ev.tmp h96).un hg) rfl hf hAh2w runUnderlying47 sizeOf3 ⟨by omega, by have := (List.getElem?_eq_some_iff.1 hww).1; omega⟩ (by simp) hK1) fun _ _ => hk _ _ _ _ ⟨rfl, rfl⟩
         · rintro T_ B_ a_ w_ K_ hT hB _ _ ⟨rfl, rfl⟩ h92 - _ _ ⟨rfl, rfl⟩ h97 - hf hsD hk
           exact ob_gv hsD (gg := !(((decide (((q : Int) : Int) ≥ (csw.length : Int))) || (decide (((q : Int) : Int) ≥ (csx.length : Int)))) || (!((((b.run false ol (q + 1)).1 : Int) == ((b.run false ol (q + 1)).1)) && (((b.run true ol (q + 1)).1 : Int) == ((b.run true ol (q + 1)).1)))))) (v := .int .i64 ((b.run false ol (q + 1)).2)) rfl rfl rfl h92 (ison_f _) rfl rfl hf (fun hg K1 hK1 => st_load1 (o := (q * 1)) (off := 0) (v := .int .i64 ((b.run false ol (q + 1)).2)) hsD ((Ev.tmp h97).un hg) rfl hf isAgg3 (hrh2w.at (hsD.cellsM (by rw [← hoh2w]; exact hB _ (mem_nth (i := 3) rfl))) hww) rfl hK1) fun _ _ => hk _ _ _ _ ⟨rfl, rfl⟩
         · rintro T_ B_ a_ w_ K_ hT hB _ _ ⟨rfl, rfl⟩ h92 - hf hsD hk
           exact ob_gv hsD (gg := !(((decide (((q : Int) : Int) ≥ (csw.length : Int))) || (decide (((q : Int) : Int) ≥ (csx.length : Int)))) || (!((((b.run false ol (q + 1)).1 : Int) == ((b.run false ol (q + 1)).1)) && (((b.run true ol (q + 1)).1 : Int) == ((b.run true ol (q + 1)).1)))))) (v := .pointer (some ⟨b19, 1, none⟩)) rfl rfl rfl h92 (ison_f _) rfl rfl hf (fun hg K1 hK1 => st_field (o' := 1) hsD (evT hT 6 rfl) rfl hf runUnderlying50 rfl sizeOf47 rfl rfl hK1) fun _ _ => hk _ _ _ _ ⟨rfl, rfl⟩
         · rintro T_ B_ a_ w_ K_ hT hB _ _ ⟨rfl, rfl⟩ h92 - _ _ ⟨rfl, rfl⟩ h99 - hf hsD hk
           exact ob_gv hsD (gg := !(((decide (((q : Int) : Int) ≥ (csw.length : Int))) || (decide (((q : Int) : Int) ≥ (csx.length : Int)))) || (!((((b.run false ol (q + 1)).1 : Int) == ((b.run false ol (q + 1)).1)) && (((b.run true ol (q + 1)).1 : Int) == ((b.run true ol (q + 1)).1)))))) (v := .slice Ah2x wsx.length ch2x) rfl rfl rfl h92 (ison_f _) rfl rfl hf (fun hg K1 hK1 => st_load1 (o := 0) (off := 1) (v := .slice Ah2x wsx.length ch2x) hsD ((Ev.tmp h99).un hg) rfl hf isAgg47 (hsD.cellsM (inB hB 7 rfl)) rfl hK1) fun _ _ => hk _ _ _ _ ⟨rfl, rfl⟩
         · rintro T_ B_ a_ w_ K_ hT hB _ _ ⟨rfl, rfl⟩ h92 - hf hsD hk
           exact ob_gv hsD (gg := !(((decide (((q : Int) : Int) ≥ (csw.length : Int))) || (decide (((q : Int) : Int) ≥ (csx.length : Int)))) || (!((((b.run false ol (q + 1)).1 : Int) == ((b.run false ol (q + 1)).1)) && (((b.run true ol (q + 1)).1 : Int) == ((b.run true ol (q + 1)).1)))))) (v := .int .i64 (q : Int)) rfl rfl rfl h92 (ison_f _) rfl rfl hf (fun hg K1 hK1 => st_move hsD (evT hT 8 rfl) rfl hf hK1) fun _ _ => hk _ _ _ _ ⟨rfl, rfl⟩
         · rintro T_ B_ a_ w_ K_ hT hB _ _ ⟨rfl, rfl⟩ h92 - _ _ ⟨rfl, rfl⟩ h100 - _ _ ⟨rfl, rfl⟩ h101 - hf hsD hk
           exact ob_gv hsD (gg := !(((decide (((q : Int) : Int) ≥ (csw.length : Int))) || (decide (((q : Int) : Int) ≥ (csx.length : Int)))) || (!((((b.run false ol (q + 1)).1 : Int) == ((b.run false ol (q + 1)).1)) && (((b.run true ol (q + 1)).1 : Int) == ((b.run true ol (q + 1)).1)))))) (v := .pointer (some ⟨bh2x, q * 1, none⟩)) rfl rfl rfl h92 (ison_f _) rfl rfl hf (fun hg K1 hK1 => st_indexM (o' := q * 1) hsD ((Ev.tmp h100).un hg) ((Ev.tmp h101).un hg) rfl hf hAh2x runUnderlying47 sizeOf3 ⟨by omega, by have := (List.getElem?_eq_some_iff.1 hwx).1; omega⟩ (by simp) hK1) fun _ _ => hk _ _ _ _ ⟨rfl, rfl⟩
         · rintro T_ B_ a_ w_ K_ hT hB _ _ ⟨rfl, rfl⟩ h92 - _ _ ⟨rfl, rfl⟩ h102 - hf hsD hk
           exact ob_gv hsD (gg := !(((decide (((q : Int) : Int) ≥ (csw.length : Int))) || (decide (((q : Int) : Int) ≥ (csx.length : Int)))) || (!((((b.run false ol (q + 1)).1 : Int) == ((b.run false ol (q + 1)).1)) && (((b.run true ol (q + 1)).1 : Int) == ((b.run true ol (q + 1)).1)))))) (v := .int .i64 ((b.run true ol (q + 1)).2)) rfl rfl rfl h92 (ison_f _) rfl rfl hf (fun hg K1 hK1 => st_load1 (o := (q * 1)) (off := 0) (v := .int .i64 ((b.run true ol (q + 1)).2)) hsD ((Ev.tmp h102).un hg) rfl hf isAgg3 (hrh2x.at (hsD.cellsM (by rw [← hoh2x]; exact hB _ (mem_nth (i := 5) rfl))) hwx) rfl hK1) fun _ _ => hk _ _ _ _ ⟨rfl, rfl⟩
         · rintro T_ B_ a_ w_ K_ hT hB _ _ ⟨rfl, rfl⟩ h92 - _ _ ⟨rfl, rfl⟩ h98 - _ _ ⟨rfl, rfl⟩ h103 - hf hsD hk
           exact ob_gv hsD (gg := !(((decide (((q : Int) : Int) ≥ (csw.length : Int))) || (decide (((q : Int) : Int) ≥ (csx.length : Int)))) || (!((((b.run false ol (q + 1)).1 : Int) == ((b.run false ol (q + 1)).1)) && (((b.run true ol (q + 1)).1 : Int) == ((b.run true ol (q + 1)).1)))))) (v := .agg ⟨[.int .i64 ((b.run false ol (q + 1)).2), .int .i64 ((b.run true ol (q + 1)).2)]⟩) rfl rfl rfl h92 (ison_f _) rfl rfl hf (fun hg K1 hK1 => st_callv (vs := [.int .i64 ((b.run false ol (q + 1)).2), .int .i64 ((b.run true ol (q + 1)).2)]) hsD (.func _) ⟨((Ev.tmp h98).un hg), ((Ev.tmp h103).un hg), trivial⟩ rfl hf call40 rfl (S_v ((b.run false ol (q + 1)).2) ((b.run true ol (q + 1)).2) _) hK1) fun _ _ => hk _ _ _ _ ⟨rfl, rfl⟩
         · rintro T_ B_ a_ w_ K_ hT hB _ _ ⟨rfl, rfl⟩ h92 - _ _ ⟨rfl, rfl⟩ h93 - _ _ ⟨rfl, rfl⟩ h104 - hf hsD hk
           exact ob_gv hsD (gg := !(((decide (((q : Int) : Int) ≥ (csw.length : Int))) || (decide (((q : Int) : Int) ≥ (csx.length : Int)))) || (!((((b.run false ol (q + 1)).1 : Int) == ((b.run false ol (q + 1)).1)) && (((b.run true ol (q + 1)).1 : Int) == ((b.run true ol (q + 1)).1)))))) (v := .bool (!((((b.run false ol (q + 1)).2 : Int) == ((b.run false ol (q + 1)).2)) && (((b.run true ol (q + 1)).2 : Int) == ((b.run true ol (q + 1)).2))))) rfl rfl rfl h92 (ison_f _) rfl rfl hf (fun hg K1 hK1 => st_bin hsD ((Ev.tmp h93).un hg) ((Ev.tmp h104).un hg) (run_neq_23 _ _ ((b.run false ol (q + 1)).2) ((b.run true ol (q + 1)).2) ((b.run false ol (q + 1)).2) ((b.run true ol (q + 1)).2)) rfl hf hK1) fun _ _ => hk _ _ _ _ ⟨rfl, rfl⟩
         · rintro T_ B_ a_ w_ K_ hT hB _ _ ⟨rfl, rfl⟩ h92 - _ _ ⟨rfl, rfl⟩ h105 - hf hsD hk
           exact ob rfl rfl (st_or hsD (gx := true) (gy := !(((decide (((q : Int) : Int) ≥ (csw.length : Int))) || (decide (((q : Int) : Int) ≥ (csx.length : Int)))) || (!((((b.run false ol (q + 1)).1 : Int) == ((b.run false ol (q + 1)).1)) && (((b.run true ol (q + 1)).1 : Int) == ((b.run true ol (q + 1)).1)))))) (Ev.tmp h92) rfl (Ev.tmp h105) (fun h => (by first | exact absurd h (by decide) | (rw [h]; rfl))) rfl hf fun _ _ => hk _ _ _ _ ⟨rfl, rfl⟩)
         rintro _ _ ⟨rfl, rfl⟩ _ _ ⟨rfl, rfl⟩ _ _ ⟨rfl, rfl⟩ _ _ ⟨rfl, rfl⟩ _ _ ⟨rfl, rfl⟩ _ _ ⟨rfl, rfl⟩ _ _ ⟨rfl, rfl⟩ _ _ ⟨rfl, rfl⟩ _ _ ⟨rfl, rfl⟩ _ _ ⟨rfl, rfl⟩ _ _ ⟨rfl, rfl⟩ _ _ ⟨rfl, rfl⟩ _ _ ⟨rfl, rfl⟩ _ _ ⟨rfl, rfl⟩ _ _ ⟨rfl, rfl⟩ _ _ ⟨rfl, rfl⟩ _ _ ⟨rfl, rfl⟩ _ _ ⟨rfl, rfl⟩ _ _ ⟨rfl, rfl⟩ _ _ ⟨rfl, rfl⟩ _ _ ⟨rfl, rfl⟩ _ _ ⟨rfl, rfl⟩ _ _ ⟨rfl, rfl⟩ _ _ ⟨rfl, rfl⟩ _ _ ⟨rfl, rfl⟩ _ _ ⟨rfl, rfl⟩ _ _ ⟨rfl, rfl⟩ _ _ ⟨rfl, rfl⟩ _ _ ⟨rfl, rfl⟩ _ _ ⟨rfl, rfl⟩ _ _ ⟨rfl, rfl⟩ _ _ ⟨rfl, rfl⟩ _ _ ⟨rfl, rfl⟩ _ _ ⟨rfl, rfl⟩ _ _ ⟨rfl, rfl⟩ _ _ ⟨rfl, rfl⟩ _ _ ⟨rfl, rfl⟩ _ _ ⟨rfl, rfl⟩ _ _ ⟨rfl, rfl⟩ _ _ ⟨rfl, rfl⟩ _ _ ⟨rfl, rfl⟩ _ _ ⟨rfl, rfl⟩ a_59 w_59 hs59; clear hs58
         have hs60 := Sx.as (T' := [_, _, _, _, _, _, _, _, _, _, _, _, _, _, _, _, _, _, _, _, _, _, _, _, _, _, _, _, _, _, _, _, _, _, _, _, _, _, _, _, _, _, _, _, _, _, _, _, _, _, _, _, _]) (B' := [_, _, _, _, _, _, _, _, _, _, _, _, _, _]) rfl rfl hs59; clear hs59
         refine hK31 _ _ ?_; clear hK31
         have hs61 := hs60.keep [41, 46, 47, 49, 51, 52] [_, _, _, _, _, _] rfl; clear hs60
         have hc32 : ((((decide (((q : Int) : Int) ≥ (csw.length : Int))) || (decide (((q : Int) : Int) ≥ (csx.length : Int)))) || (!((((b.run false ol (q + 1)).1 : Int) == ((b.run false ol (q + 1)).1)) && (((b.run true ol (q + 1)).1 : Int) == ((b.run true ol (q + 1)).1))))) || (!((((b.run false ol (q + 1)).2 : Int) == ((b.run false ol (q + 1)).2)) && (((b.run true ol (q + 1)).2 : Int) == ((b.run true ol (q + 1)).2))))) = false := by simp; omega
         refine cd_cond hs61 (Ev.t 0 rfl) (fun h => absurd (hc32.symm.trans h) (by decide)) (fun _ => ?_)
         refine cd_skip ?_
         refine th_norm ?_
         have hs61b := Sx.blks hs61 ((List.Sublist.cons _ (List.Sublist.cons _ (List.Sublist.cons_cons _ (List.Sublist.cons_cons _ (List.Sublist.cons_cons _ (List.Sublist.cons_cons _ (List.Sublist.cons_cons _ (List.Sublist.cons_cons _ (List.Sublist.cons_cons _ (List.Sublist.cons_cons _ (List.Sublist.cons_cons _ (List.Sublist.cons_cons _ (List.Sublist.cons_cons _ (List.Sublist.cons_cons _ List.Sublist.slnil)))))))))))))))
         exact Sx.keepE [1, 2, 3, 4, 5] _ ⟨⟨_, rfl, rfl⟩, ⟨_, rfl, rfl⟩, ⟨_, rfl, rfl⟩, ⟨_, rfl, rfl⟩, ⟨_, rfl, rfl⟩, trivial⟩ hs61b
       · skip
         rw [hL9] at hs57
         have hs58 : Sx 149 [] [(64, .bool false), (14, .int .i64 42), (16, .pointer (some ⟨b28, 0, none⟩)), (15, .pointer (some ⟨b27, 0, none⟩)), (13, .int .i64 t9), (11, .pointer (some ⟨b18, 0, none⟩)), (12, .pointer (some ⟨b19, 0, none⟩)), (9, .pointer (some ⟨b15, 0, none⟩)), (8, .int .i64 (q : Int)), (6, .bool false), (3, .pointer (some ⟨b8, 0, none⟩))] [(b28, some (.cells ⟨[.int .i64 0, .int .i64 0]⟩ 23 (0, 0))), (b27, some (.cells ⟨[.int .i64 0, .int .i64 0]⟩ 23 (0, 0))), (bh1w, oh1w), (bh2w, oh2w), (bh1x, oh1x), (bh2x, oh2x), (b18, some (.cells ⟨[.slice Ah1w csw.length ch1w, .slice Ah2w wsw.length ch2w, .int .i64 flw]⟩ 50 (0, 0))), (b19, some (.cells ⟨[.slice Ah1x csx.length ch1x, .slice Ah2x wsx.length ch2x, .int .i64 flx]⟩ 50 (0, 0))), (bw, ow), (bx, ox), (b15, some (.cells ⟨(bookL (b.edge false) Aw n cw)⟩ 27 (0, 0))), (b16, some (.cells ⟨(bookL (b.edge true) Ax n cx)⟩ 27 (0, 0))), (bo13, oo13), (b8, some (.cells ⟨(bookL b A n cp)⟩ 27 (0, 0)))] [] w _ _ := hs57; clear hs57
         have hdx := hap_dead (edge_known hok false ol) hHw (j := jd) (by omega) (by rw [dead_edge]; exact hdd)
         have hc33 : false = false := rfl
         refine cd_cond hs58 (Ev.t 0 rfl) (fun h => absurd (hc33.symm.trans h) (by decide)) (fun _ => ?_)
         refine cd_region fun K34 hK34 => ?_
         refine sq rfl (st_move hs58 (Ev.t 1 rfl) rfl rfl fun _ _ hs59 => ?_); clear hs58
         refine sq rfl (st_cmp (c := false) hs59 (Ev.t 0 rfl) (.const _) rfl rfl rfl rfl fun _ _ hs60 => ?_); clear hs59
         refine sq rfl (st_move hs60 (Ev.t 0 rfl) rfl rfl fun _ _ hs61 => ?_); clear hs60
         refine sq_on hs61 rfl rfl 0 rfl rfl (st_move hs61 (Ev.t 11 rfl) rfl rfl fun _ _ hs62 => ?_); clear hs61
         refine sq_on hs62 rfl rfl 1 rfl rfl (st_field (o' := 0) hs62 (Ev.t 9 rfl) rfl rfl runUnderlying50 rfl sizeOf47 rfl rfl fun _ _ hs63 => ?_); clear hs62
         refine sq_on hs63 rfl rfl 2 rfl rfl (st_load1 (o := 0) (off := 0) (v := .slice Ah1w csw.length ch1w) hs63 (Ev.t 0 rfl) rfl rfl isAgg47 (hs63.cells 6 rfl) rfl fun _ _ hs64 => ?_); clear hs63
         refine sq_on hs64 rfl rfl 3 rfl rfl (st_len hs64 (Ev.t 0 rfl) rfl rfl runUnderlying47 fun _ _ hs65 => ?_); clear hs64
         refine sq_on hs65 rfl rfl 4 rfl rfl (st_cmp (c := decide (((q : Int) : Int) < (csw.length : Int))) hs65 (Ev.t 3 rfl) (Ev.t 0 rfl) rfl rfl rfl rfl fun _ _ hs66 => ?_); clear hs65
         have hs67 := Sx.keepE [0, 1, 2, 3, 4, 5, 6, 7, 8, 9, 10, 11, 12, 13, 14, 15, 16, 17, 18] [(114, .bool false), (113, _), (112, _), (111, _), (110, _), (109, _), (108, _), (107, _), (64, _), (14, _), (16, _), (15, _), (13, _), (11, _), (12, _), (9, _), (8, _), (6, _), (3, _)] ⟨⟨_, rfl, (by congr 1; simp; omega)⟩, ⟨_, rfl, rfl⟩, ⟨_, rfl, rfl⟩, ⟨_, rfl, rfl⟩, ⟨_, rfl, rfl⟩, ⟨_, rfl, rfl⟩, ⟨_, rfl, rfl⟩, ⟨_, rfl, rfl⟩, ⟨_, rfl, rfl⟩, ⟨_, rfl, rfl⟩, ⟨_, rfl, rfl⟩, ⟨_, rfl, rfl⟩, ⟨_, rfl, rfl⟩, ⟨_, rfl, rfl⟩, ⟨_, rfl, rfl⟩, ⟨_, rfl, rfl⟩, ⟨_, rfl, rfl⟩, ⟨_, rfl, rfl⟩, ⟨_, rfl, rfl⟩, trivial⟩ hs66; clear hs66
         refine sq rfl (st_pick hs67 (Ev.t 5 rfl) rfl rfl (fun h => by cases h) (fun h => (Ev.t 0 rfl)) fun _ _ hs68 => ?_); clear hs67
         refine sq rfl (st_move hs68 (Ev.t 0 rfl) rfl rfl fun _ _ hs69 => ?_); clear hs68
         refine sq_on hs69 rfl rfl 0 rfl rfl (st_field (o' := 2) hs69 (Ev.t 15 rfl) rfl rfl runUnderlying50 rfl sizeOf3 rfl rfl fun _ _ hs70 => ?_); clear hs69
         refine sq_on hs70 rfl rfl 1 rfl rfl (st_load1 (o := 0) (off := 2) (v := .int .i64 flw) hs70 (Ev.t 0 rfl) rfl rfl isAgg3 (hs70.cells 6 rfl) rfl fun _ _ hs71 => ?_); clear hs70
         refine sq_on hs71 rfl rfl 2 rfl rfl (st_move hs71 (Ev.t 20 rfl) rfl rfl fun _ _ hs72 => ?_); clear hs71
         refine sq_on hs72 rfl rfl 3 rfl rfl (st_cmp (c := decide ((flw : Int) > (q : Int))) hs72 (Ev.t 1 rfl) (Ev.t 0 rfl) rfl rfl rfl rfl fun _ _ hs73 => ?_); clear hs72
         have hs74 := Sx.keepE [0, 1, 2, 3, 4, 5, 6, 7, 8, 9, 10, 11, 12, 13, 14, 15, 16, 17, 18, 19, 20, 21, 22, 23, 24] [(120, .bool false), (119, _), (118, _), (117, _), (116, _), (115, _), (114, _), (113, _), (112, _), (111, _), (110, _), (109, _), (108, _), (107, _), (64, _), (14, _), (16, _), (15, _), (13, _), (11, _), (12, _), (9, _), (8, _), (6, _), (3, _)] ⟨⟨_, rfl, (by congr 1; simp; omega)⟩, ⟨_, rfl, rfl⟩, ⟨_, rfl, rfl⟩, ⟨_, rfl, rfl⟩, ⟨_, rfl, rfl⟩, ⟨_, rfl, rfl⟩, ⟨_, rfl, rfl⟩, ⟨_, rfl, rfl⟩, ⟨_, rfl, rfl⟩, ⟨_, rfl, rfl⟩, ⟨_, rfl, rfl⟩, ⟨_, rfl, rfl⟩, ⟨_, rfl, rfl⟩, ⟨_, rfl, rfl⟩, ⟨_, rfl, rfl⟩, ⟨_, rfl, rfl⟩, ⟨_, rfl, rfl⟩, ⟨_, rfl, rfl⟩, ⟨_, rfl, rfl⟩, ⟨_, rfl, rfl⟩, ⟨_, rfl, rfl⟩, ⟨_, rfl, rfl⟩, ⟨_, rfl, rfl⟩, ⟨_, rfl, rfl⟩, ⟨_, rfl, rfl⟩, trivial⟩ hs73; clear hs73
         refine sq rfl (st_pick hs74 (Ev.t 4 rfl) rfl rfl (fun h => by cases h) (fun h => (Ev.t 0 rfl)) fun _ _ hs75 => ?_); clear hs74
         refine hK34 _ _ ?_; clear hK34
         have hs76 := hs75.keep [0, 19, 20, 22, 24, 25] [_, _, _, _, _, _] rfl; clear hs75
         have hc35 : false = false := rfl
         refine cd_cond hs76 (Ev.t 0 rfl) (fun h => absurd (hc35.symm.trans h) (by decide)) (fun _ => ?_)
         refine cd_skip ?_
         refine th_norm ?_
         have hs76b := Sx.blks hs76 ((List.Sublist.cons _ (List.Sublist.cons _ (List.Sublist.cons_cons _ (List.Sublist.cons_cons _ (List.Sublist.cons_cons _ (List.Sublist.cons_cons _ (List.Sublist.cons_cons _ (List.Sublist.cons_cons _ (List.Sublist.cons_cons _ (List.Sublist.cons_cons _ (List.Sublist.cons_cons _ (List.Sublist.cons_cons _ (List.Sublist.cons_cons _ (List.Sublist.cons_cons _ List.Sublist.slnil)))))))))))))))
         exact Sx.keepE [1, 2, 3, 4, 5] _ ⟨⟨_, rfl, rfl⟩, ⟨_, rfl, rfl⟩, ⟨_, rfl, rfl⟩, ⟨_, rfl, rfl⟩, ⟨_, rfl, rfl⟩, trivial⟩ hs76b
     · intro a_55 w_55 hs55
       clear hs54
       refine cd_region fun K36 hK36 => ?_
       refine sq rfl (st_loadA (o := 0) (off := 0) (vs := (bookL b A n cp)) hs55 (Ev.t 4 rfl) rfl rfl isAgg27 sizeOf27 (hs55.cells 11 rfl) rfl fun _ _ hs56 => ?_); clear hs55
       refine sq rfl (st_call (vs := [.agg ⟨(bookL b A n cp)⟩]) hs56 (.func _) ⟨(Ev.t 0 rfl), trivial⟩ rfl rfl call23 rfl (Plan_b b A n cp _ (hP.kp hs56.kp) hn (hG.kp hs56.kp (by simp))) (fun v_ bs_ a_57 w_57 hp9 hs57 => ?_)); clear hs56
       rcases hR : b.planR with ⟨_ | pl, e5⟩
       · skip
         obtain ⟨rfl, -⟩ := planR_none hok hR
         have hRe : (b.edge false).planR = (none, 4) := by rw [planR_edge hok, hR]
         rw [hR] at hp9
         obtain ⟨rfl, rfl⟩ := hp9
         have hs58 : Sx 149 [] [(124, .tuple ⟨[.slice none 0 0, .int .i64 4]⟩), (123, .agg ⟨(bookL b A n cp)⟩), (13, .int .i64 t9), (11, .pointer (some ⟨b18, 0, none⟩)), (9, .pointer (some ⟨b15, 0, none⟩)), (6, .bool false), (3, .pointer (some ⟨b8, 0, none⟩))] [(bh1w, oh1w), (bh2w, oh2w), (bh1x, oh1x), (bh2x, oh2x), (b18, some (.cells ⟨[.slice Ah1w csw.length ch1w, .slice Ah2w wsw.length ch2w, .int .i64 flw]⟩ 50 (0, 0))), (b19, some (.cells ⟨[.slice Ah1x csx.length ch1x, .slice Ah2x wsx.length ch2x, .int .i64 flx]⟩ 50 (0, 0))), (bw, ow), (bx, ox), (b15, some (.cells ⟨(bookL (b.edge false) Aw n cw)⟩ 27 (0, 0))), (b16, some (.cells ⟨(bookL (b.edge true) Ax n cx)⟩ 27 (0, 0))), (bo13, oo13), (b8, some (.cells ⟨(bookL b A n cp)⟩ 27 (0, 0)))] [] w _ _ := hs57; clear hs57
         refine sq rfl (st_move hs58 (Ev.t 0 rfl) rfl rfl fun _ _ hs59 => ?_); clear hs58
         refine sq rfl (st_extract hs59 (Ev.t 0 rfl) rfl rfl rfl fun _ _ hs60 => ?_); clear hs59
         refine sq rfl (st_extract hs60 (Ev.t 1 rfl) rfl rfl rfl fun _ _ hs61 => ?_); clear hs60
         refine sq rfl (st_assign hs61 (Ev.t 1 rfl) rfl rfl fun _ _ hs62 => ?_); clear hs61
         refine sq rfl (st_assign hs62 (Ev.t 1 rfl) rfl rfl fun _ _ hs63 => ?_); clear hs62
         refine hK36 _ _ ?_; clear hK36
         have hs64 := hs63.keep [0, 1, 7, 8, 9, 10] [_, _, _, _, _, _] rfl; clear hs63
         refine cd_region fun K37 hK37 => ?_
         refine sq rfl (st_loadA (o := 0) (off := 0) (vs := (bookL (b.edge false) Aw n cw)) hs64 (Ev.t 4 rfl) rfl rfl isAgg27 sizeOf27 (hs64.cells 8 rfl) rfl fun _ _ hs65 => ?_); clear hs64
         refine sq rfl (st_callv (vs := [.agg ⟨(bookL (b.edge false) Aw n cw)⟩]) hs65 (.func _) ⟨(Ev.t 0 rfl), trivial⟩ rfl rfl call23 rfl (plansV_none hRe (Plan_b (b.edge false) Aw n cw _ (by rw [hlw]; exact (hOw.at hs65 6 rfl)) hn (hG.kp hs65.kp (by simp)))) fun _ _ hs66 => ?_); clear hs65
         refine sq rfl (st_move hs66 (Ev.t 0 rfl) rfl rfl fun _ _ hs67 => ?_); clear hs66
         refine sq rfl (st_extract hs67 (Ev.t 0 rfl) rfl rfl rfl fun _ _ hs68 => ?_); clear hs67
         refine sq rfl (st_extract hs68 (Ev.t 1 rfl) rfl rfl rfl fun _ _ hs69 => ?_); clear hs68
         refine sq rfl (st_assign hs69 (Ev.t 1 rfl) rfl rfl fun _ _ hs70 => ?_); clear hs69
         refine sq rfl (st_assign hs70 (Ev.t 1 rfl) rfl rfl fun _ _ hs71 => ?_); clear hs70
         refine hK37 _ _ ?_; clear hK37
         have hs72 := hs71.keep [0, 1, 7, 8, 9, 10, 12] [_, _, _, _, _, _, _] rfl; clear hs71
         refine cd_region fun K38 hK38 => ?_
         refine sq rfl (st_move hs72 (Ev.t 4 rfl) rfl rfl fun _ _ hs73 => ?_); clear hs72
         refine sq rfl (st_field (o' := 2) hs73 (Ev.t 6 rfl) rfl rfl runUnderlying50 rfl sizeOf3 rfl rfl fun _ _ hs74 => ?_); clear hs73
         refine sq rfl (st_load1 (o := 0) (off := 2) (v := .int .i64 flw) hs74 (Ev.t 0 rfl) rfl rfl isAgg3 (hs74.cells 4 rfl) rfl fun _ _ hs75 => ?_); clear hs74
         refine sq rfl (st_cmp (c := (t9 : Int) == flw) hs75 (Ev.t 2 rfl) (Ev.t 0 rfl) rfl rfl rfl rfl fun _ _ hs76 => ?_); clear hs75
         have hs77 := Sx.keepE [0, 1, 2, 3, 4, 5, 6, 7, 8, 9, 10] [(135, .bool true), (134, _), (133, _), (132, _), (19, _), (18, _), (14, _), (17, _), (13, _), (11, _), (6, _)] ⟨⟨_, rfl, (by congr 1; simp; omega)⟩, ⟨_, rfl, rfl⟩, ⟨_, rfl, rfl⟩, ⟨_, rfl, rfl⟩, ⟨_, rfl, rfl⟩, ⟨_, rfl, rfl⟩, ⟨_, rfl, rfl⟩, ⟨_, rfl, rfl⟩, ⟨_, rfl, rfl⟩, ⟨_, rfl, rfl⟩, ⟨_, rfl, rfl⟩, trivial⟩ hs76; clear hs76
         refine sq rfl (st_move hs77 (Ev.t 0 rfl) rfl rfl fun _ _ hs78 => ?_); clear hs77
         refine sq_on hs78 rfl rfl 0 rfl rfl (st_move hs78 (Ev.t 7 rfl) rfl rfl fun _ _ hs79 => ?_); clear hs78
         refine sq_on hs79 rfl rfl 1 rfl rfl (st_move hs79 (Ev.t 6 rfl) rfl rfl fun _ _ hs80 => ?_); clear hs79
         refine sq_on hs80 rfl rfl 2 rfl rfl (st_cmp (c := true) hs80 (Ev.t 1 rfl) (Ev.t 0 rfl) rfl rfl rfl rfl fun _ _ hs81 => ?_); clear hs80
         refine sq rfl (st_pick hs81 (Ev.t 3 rfl) rfl rfl (fun h => (Ev.t 0 rfl)) (fun h => by cases h) fun _ _ hs82 => ?_); clear hs81
         refine sq rfl (st_move hs82 (Ev.t 0 rfl) rfl rfl fun _ _ hs83 => ?_); clear hs82
         refine sq_on hs83 rfl rfl 0 rfl rfl (st_move hs83 (Ev.t 13 rfl) rfl rfl fun _ _ hs84 => ?_); clear hs83
         refine sq_on hs84 rfl rfl 1 rfl rfl (st_move hs84 (Ev.t 12 rfl) rfl rfl fun _ _ hs85 => ?_); clear hs84
         refine sq_on hs85 rfl rfl 2 rfl rfl (st_callv (vs := [.slice none 0 0, .slice none 0 0]) hs85 (.func _) ⟨(Ev.t 1 rfl), (Ev.t 0 rfl), trivial⟩ rfl rfl call25 rfl (callsV_eq (v' := .bool true) (samePlans_v none 0 0 [] none 0 0 [] _ (nil_at _) (by decide) (nil_at _) (by decide)) (by rw [samePl_eq.2 rfl])) fun _ _ hs86 => ?_); clear hs85
         refine sq rfl (st_pick hs86 (Ev.t 3 rfl) rfl rfl (fun h => (Ev.t 0 rfl)) (fun h => by cases h) fun _ _ hs87 => ?_); clear hs86
         refine sq rfl (st_move hs87 (Ev.t 0 rfl) rfl rfl fun _ _ hs88 => ?_); clear hs87
         refine sq_on hs88 rfl rfl 0 rfl rfl (st_callv (vs := []) hs88 (.func _) trivial rfl rfl call20 rfl (fired_v _ (hG.kp hs88.kp (by simp))) fun _ _ hs89 => ?_); clear hs88
         refine sq rfl (st_pick hs89 (Ev.t 1 rfl) rfl rfl (fun h => (Ev.t 0 rfl)) (fun h => by cases h) fun _ _ hs90 => ?_); clear hs89
         have hs91 := hs90.keep [0, 1, 2, 3, 4, 5, 6, 7, 8, 9, 10, 11, 12, 13, 14, 15, 16, 17, 18, 19, 20, 21, 22] [_, _, _, _, _, _, _, _, _, _, _, _, _, _, _, _, _, _, _, _, _, _, _] rfl; clear hs90
         refine sq rfl (st_assign hs91 (Ev.t 0 rfl) rfl rfl fun _ _ hs92 => ?_); clear hs91
         refine hK38 _ _ ?_; clear hK38
         have hs93 := hs92.keep [0] [_] rfl; clear hs92
         refine cd_retv (vs := [.bool true]) hs93 hQ0 rfl ⟨.tmp 0 rfl, trivial⟩ ?_
         clear hs93 hQ0 hN0
         first | rfl | (simp [pack]; done)
       · skip
         obtain ⟨rfl, -, -⟩ := planR_some hok hR
         have hRe : (b.edge false).planR = (some pl, 0) := by rw [planR_edge hok, hR]
         have hplm := planR_len hR
         rw [hR] at hp9
         obtain ⟨A9, c9, b9, o5, rfl, hown5, rfl⟩ := hp9
         have hs58 : Sx 149 [] [(124, .tuple ⟨[.slice A9 pl.length c9, .int .i64 0]⟩), (123, .agg ⟨(bookL b A n cp)⟩), (13, .int .i64 t9), (11, .pointer (some ⟨b18, 0, none⟩)), (9, .pointer (some ⟨b15, 0, none⟩)), (6, .bool false), (3, .pointer (some ⟨b8, 0, none⟩))] [(b9, o5), (bh1w, oh1w), (bh2w, oh2w), (bh1x, oh1x), (bh2x, oh2x), (b18, some (.cells ⟨[.slice Ah1w csw.length ch1w, .slice Ah2w wsw.length ch2w, .int .i64 flw]⟩ 50 (0, 0))), (b19, some (.cells ⟨[.slice Ah1x csx.length ch1x, .slice Ah2x wsx.length ch2x, .int .i64 flx]⟩ 50 (0, 0))), (bw, ow), (bx, ox), (b15, some (.cells ⟨(bookL (b.edge false) Aw n cw)⟩ 27 (0, 0))), (b16, some (.cells ⟨(bookL (b.edge true) Ax n cx)⟩ 27 (0, 0))), (bo13, oo13), (b8, some (.cells ⟨(bookL b A n cp)⟩ 27 (0, 0)))] [] w _ _ := hs57; clear hs57
         refine sq rfl (st_move hs58 (Ev.t 0 rfl) rfl rfl fun _ _ hs59 => ?_); clear hs58
         refine sq rfl (st_extract hs59 (Ev.t 0 rfl) rfl rfl rfl fun _ _ hs60 => ?_); clear hs59
         refine sq rfl (st_extract hs60 (Ev.t 1 rfl) rfl rfl rfl fun _ _ hs61 => ?_); clear hs60
         refine sq rfl (st_assign hs61 (Ev.t 1 rfl) rfl rfl fun _ _ hs62 => ?_); clear hs61
         refine sq rfl (st_assign hs62 (Ev.t 1 rfl) rfl rfl fun _ _ hs63 => ?_); clear hs62
         refine hK36 _ _ ?_; clear hK36
         have hs64 := hs63.keep [0, 1, 7, 8, 9, 10] [_, _, _, _, _, _] rfl; clear hs63
         refine cd_region fun K39 hK39 => ?_
         refine sq rfl (st_loadA (o := 0) (off := 0) (vs := (bookL (b.edge false) Aw n cw)) hs64 (Ev.t 4 rfl) rfl rfl isAgg27 sizeOf27 (hs64.cells 9 rfl) rfl fun _ _ hs65 => ?_); clear hs64
         refine sq rfl (st_call (vs := [.agg ⟨(bookL (b.edge false) Aw n cw)⟩]) hs65 (.func _) ⟨(Ev.t 0 rfl), trivial⟩ rfl rfl call23 rfl (plansV_some hRe (Plan_b (b.edge false) Aw n cw _ (by rw [hlw]; exact (hOw.at hs65 7 rfl)) hn (hG.kp hs65.kp (by simp)))) fun v41 bs42 a_66 w_66 hp66 hs66 => ?_); clear hs65
         obtain ⟨A40, c40, b40, o40, rfl, hO40, rfl⟩ := hp66
         have hs67 := Sx.as (T' := [_, _, _, _, _, _, _, _]) (B' := [_, _, _, _, _, _, _, _, _, _, _, _, _, _]) rfl rfl hs66; clear hs66
         refine sq rfl (st_move hs67 (Ev.t 0 rfl) rfl rfl fun _ _ hs68 => ?_); clear hs67
         refine sq rfl (st_extract hs68 (Ev.t 0 rfl) rfl rfl rfl fun _ _ hs69 => ?_); clear hs68
         refine sq rfl (st_extract hs69 (Ev.t 1 rfl) rfl rfl rfl fun _ _ hs70 => ?_); clear hs69
         refine sq rfl (st_assign hs70 (Ev.t 1 rfl) rfl rfl fun _ _ hs71 => ?_); clear hs70
         refine sq rfl (st_assign hs71 (Ev.t 1 rfl) rfl rfl fun _ _ hs72 => ?_); clear hs71
         refine hK39 _ _ ?_; clear hK39
         have hs73 := hs72.keep [0, 1, 7, 8, 9, 10, 12] [_, _, _, _, _, _, _] rfl; clear hs72
         refine cd_region fun K43 hK43 => ?_
         refine sq rfl (st_move hs73 (Ev.t 4 rfl) rfl rfl fun _ _ hs74 => ?_); clear hs73
         refine sq rfl (st_field (o' := 2) hs74 (Ev.t 6 rfl) rfl rfl runUnderlying50 rfl sizeOf3 rfl rfl fun _ _ hs75 => ?_); clear hs74
         refine sq rfl (st_load1 (o := 0) (off := 2) (v := .int .i64 flw) hs75 (Ev.t 0 rfl) rfl rfl isAgg3 (hs75.cells 6 rfl) rfl fun _ _ hs76 => ?_); clear hs75
         refine sq rfl (st_cmp (c := (t9 : Int) == flw) hs76 (Ev.t 2 rfl) (Ev.t 0 rfl) rfl rfl rfl rfl fun _ _ hs77 => ?_); clear hs76
         have hs78 := Sx.keepE [0, 1, 2, 3, 4, 5, 6, 7, 8, 9, 10] [(135, .bool true), (134, _), (133, _), (132, _), (19, _), (18, _), (14, _), (17, _), (13, _), (11, _), (6, _)] ⟨⟨_, rfl, (by congr 1; simp; omega)⟩, ⟨_, rfl, rfl⟩, ⟨_, rfl, rfl⟩, ⟨_, rfl, rfl⟩, ⟨_, rfl, rfl⟩, ⟨_, rfl, rfl⟩, ⟨_, rfl, rfl⟩, ⟨_, rfl, rfl⟩, ⟨_, rfl, rfl⟩, ⟨_, rfl, rfl⟩, ⟨_, rfl, rfl⟩, trivial⟩ hs77; clear hs77
         refine sq rfl (st_move hs78 (Ev.t 0 rfl) rfl rfl fun _ _ hs79 => ?_); clear hs78
         refine sq_on hs79 rfl rfl 0 rfl rfl (st_move hs79 (Ev.t 7 rfl) rfl rfl fun _ _ hs80 => ?_); clear hs79
         refine sq_on hs80 rfl rfl 1 rfl rfl (st_move hs80 (Ev.t 6 rfl) rfl rfl fun _ _ hs81 => ?_); clear hs80
         refine sq_on hs81 rfl rfl 2 rfl rfl (st_cmp (c := true) hs81 (Ev.t 1 rfl) (Ev.t 0 rfl) rfl rfl rfl rfl fun _ _ hs82 => ?_); clear hs81
         refine sq rfl (st_pick hs82 (Ev.t 3 rfl) rfl rfl (fun h => (Ev.t 0 rfl)) (fun h => by cases h) fun _ _ hs83 => ?_); clear hs82
         refine sq rfl (st_move hs83 (Ev.t 0 rfl) rfl rfl fun _ _ hs84 => ?_); clear hs83
         refine sq_on hs84 rfl rfl 0 rfl rfl (st_move hs84 (Ev.t 13 rfl) rfl rfl fun _ _ hs85 => ?_); clear hs84
         refine sq_on hs85 rfl rfl 1 rfl rfl (st_move hs85 (Ev.t 12 rfl) rfl rfl fun _ _ hs86 => ?_); clear hs85
         refine sq_on hs86 rfl rfl 2 rfl rfl (st_callv (vs := [.slice A9 pl.length c9, .slice A40 pl.length c40]) hs86 (.func _) ⟨(Ev.t 1 rfl), (Ev.t 0 rfl), trivial⟩ rfl rfl call25 rfl (callsV_eq (v' := .bool true) (samePlans_v A9 pl.length c9 pl A40 pl.length c40 pl _ (hown5.at hs86 1 rfl) hplm (hO40.at hs86 0 rfl) hplm) (by rw [samePl_eq.2 rfl])) fun _ _ hs87 => ?_); clear hs86
         refine sq rfl (st_pick hs87 (Ev.t 3 rfl) rfl rfl (fun h => (Ev.t 0 rfl)) (fun h => by cases h) fun _ _ hs88 => ?_); clear hs87
         refine sq rfl (st_move hs88 (Ev.t 0 rfl) rfl rfl fun _ _ hs89 => ?_); clear hs88
         refine sq_on hs89 rfl rfl 0 rfl rfl (st_callv (vs := []) hs89 (.func _) trivial rfl rfl call20 rfl (fired_v _ (hG.kp hs89.kp (by simp))) fun _ _ hs90 => ?_); clear hs89
         refine sq rfl (st_pick hs90 (Ev.t 1 rfl) rfl rfl (fun h => (Ev.t 0 rfl)) (fun h => by cases h) fun _ _ hs91 => ?_); clear hs90
         have hs92 := hs91.keep [0, 1, 2, 3, 4, 5, 6, 7, 8, 9, 10, 11, 12, 13, 14, 15, 16, 17, 18, 19, 20, 21, 22] [_, _, _, _, _, _, _, _, _, _, _, _, _, _, _, _, _, _, _, _, _, _, _] rfl; clear hs91
         refine sq rfl (st_assign hs92 (Ev.t 0 rfl) rfl rfl fun _ _ hs93 => ?_); clear hs92
         refine hK43 _ _ ?_; clear hK43
         have hs94 := hs93.keep [0] [_] rfl; clear hs93
         refine cd_retv (vs := [.bool true]) hs94 hQ0 rfl ⟨.tmp 0 rfl, trivial⟩ ?_
         clear hs94 hQ0 hN0
         first | rfl | (simp [pack]; done)
end Go.Proofs.YtdbcedmofoakmaaDoor
