/- The law: an evening as numbers choose it, and its box. -/
import Derived.Test.YtcnndpedeofbmaaDoorUn
import Derived.Test.YtcnndpedeofbmaaDoorTw
set_option maxRecDepth 100000
namespace Go.Proofs.YtcnndpedeofbmaaDoor
open Go Go.Sx Go.Till Go.Proofs.Tryd
def ClosedP (b : Bx) (A : Option Addr) (n cp : Nat) (A2 : Option Addr) (n2 c2 : Nat) (v : Value) (bs : List (Nat × Option Obj)) : Prop :=
  ∃ A7 c7 b7 o7 l7 d7 k7, v = .tuple ⟨[.agg ⟨bxL (b.setCount d7) A n cp A2 n2 c2⟩, .slice A7 l7.length c7, .bool k7]⟩ ∧ bs = [(b7, o7)] ∧ Sx.Own intL1 1 3 A7 c7 l7 b7 o7 ∧ (k7 = true → l7.length = b.rolls.length ∧ canB b b.sold l7 = true ∧ (0 ≤ d7 ∧ d7 ≤ 60000) ∧ right (b.setCount d7) (tak b.rolls l7) = true)

theorem closed_b (b : Bx) (A : Option Addr) (n cp : Nat) (A2 : Option Addr) (n2 c2 : Nat) (A4 : Option Addr) (n4 c4 : Nat) (xs : List Int) (w : World) (hP : RollsAt w A n b.rolls) (_hn : n ≤ 140737488351232) (hF : SpsAt w A2 n2 b.free) (hn2 : n2 ≤ 140737488351232) (hX : IntsAt w A4 n4 xs) (hn4 : n4 ≤ 140737488351232) (hO : Ok b) :
    CallsB Tryd.prog 40 [.agg ⟨bxL b A n cp A2 n2 c2⟩, .slice A4 n4 c4] w (ClosedP b A n cp A2 n2 c2) := by
 have hl1 := hP.len
 have hl2 := hF.len
 have hlen := hO.len
 have hn14 := hO.n
 have her := hO.err; have hct := hO.count
 refine enter (N := 92) (M := []) w func40 rfl rfl rfl (fun Q0 a_0 hQ0 hN0 hs0 => ?_)
 refine cd_region fun K1 hK1 => ?_
 refine sq rfl (st_box hs0 (Ev.t 0 rfl) rfl rfl rfl fun b2 _ _ hs1 => ?_); clear hs0
 refine sq rfl (st_alloc hs1 rfl rfl zeroValue25 rfl fun b3 _ _ hs2 => ?_); clear hs1
 refine sq rfl (st_assign hs2 (.const _) rfl rfl fun _ _ hs3 => ?_); clear hs2
 refine sq rfl (st_assign hs3 (.const _) rfl rfl fun _ _ hs4 => ?_); clear hs3
 refine hK1 _ _ ?_; clear hK1
 have hs5 := hs4.keep [0, 1, 2, 3, 5] [_, _, _, _, _] rfl; clear hs4
 have hs6 := hs5.hide 0; clear hs5
 refine cd_region fun K4 hK4 => ?_
 refine sq rfl (st_loadA (o := 0) (off := 0) (vs := (bxL b A n cp A2 n2 c2)) hs6 (Ev.t 3 rfl) rfl rfl isAgg25 sizeOf25 (hs6.cells 2 rfl) rfl fun _ _ hs7 => ?_); clear hs6
 refine sq rfl (st_alloc hs7 rfl rfl zeroValue25 rfl fun b5 _ _ hs8 => ?_); clear hs7
 refine sq rfl (st_store (l' := (bxL b A n cp A2 n2 c2)) (vs := (bxL b A n cp A2 n2 c2)) (i := 0) hs8 (Ev.t 0 rfl) (Ev.t 1 rfl) sizeOf25 rfl rfl rfl rfl rfl rfl fun _ _ hs9 => ?_); clear hs8
 have hs10 := hs9.asB [_, _, _, _] rfl; clear hs9
 refine hK4 _ _ ?_; clear hK4
 have hs11 := hs10.keep [0, 2, 3, 4, 5, 6] [_, _, _, _, _, _] rfl; clear hs10
 refine cd_region fun K6 hK6 => ?_
 refine sq rfl (st_assign hs11 (.const _) rfl rfl fun _ _ hs12 => ?_); clear hs11
 refine hK6 _ _ ?_; clear hK6
 refine cd_region fun K7 hK7 => ?_
 refine sq rfl (st_assign hs12 (.const _) rfl rfl fun _ _ hs13 => ?_); clear hs12
 refine hK7 _ _ ?_; clear hK7
 refine cd_seq fun K8 hK8 => ?_
 refine cd_region fun K9 hK9 => ?_
 refine sq rfl (st_assign hs13 (.const _) rfl rfl fun _ _ hs14 => ?_); clear hs13
 refine hK9 _ _ ?_; clear hK9
 refine cd_block ?_
 have hs15 : Sx 92 [] [(10, .int .i64 ((OwG.mk 0 none 0 ([] : List Int) 0 none).k : Int)), (9, .int .i64 (tak b.rolls (OwG.mk 0 none 0 ([] : List Int) 0 none).l)), (8, .slice ((OwG.mk 0 none 0 ([] : List Int) 0 none).A) ((OwG.mk 0 none 0 ([] : List Int) 0 none).l.length) ((OwG.mk 0 none 0 ([] : List Int) 0 none).c)), (7, .pointer (some ⟨b5, 0, none⟩)), (6, .bool false), (5, .slice none 0 0), (4, .pointer (some ⟨b3, 0, none⟩)), (2, .pointer (some ⟨b2, 0, none⟩)), (1, .slice A4 n4 c4)] [(b5, some (.cells ⟨(bxL b A n cp A2 n2 c2)⟩ 25 (0, 0))), ((OwG.mk 0 none 0 ([] : List Int) 0 none).b, (OwG.mk 0 none 0 ([] : List Int) 0 none).o), (b3, some (.cells ⟨[.slice none 0 0, .slice none 0 0, .int .i64 0, .int .i64 0, .int .i64 0, .int .i64 0, .int .i64 0]⟩ 25 (0, 0))), (b2, some (.cells ⟨(bxL b A n cp A2 n2 c2)⟩ 25 (0, 0)))] [] w _ _ := Sx.keepE [0, 1, 2, 3, 4, 5, 6, 7, 8] _ ⟨⟨_, rfl, rfl⟩, ⟨_, rfl, by cases b.rolls <;> rfl⟩, ⟨_, rfl, rfl⟩, ⟨_, rfl, rfl⟩, ⟨_, rfl, rfl⟩, ⟨_, rfl, rfl⟩, ⟨_, rfl, rfl⟩, ⟨_, rfl, rfl⟩, ⟨_, rfl, rfl⟩, trivial⟩ hs14; clear hs14
 refine cd_loop (X := OwG Int) (fun g a_ w_ => (g.k ≤ n) ∧ (g.l.length = g.k) ∧ (canB b b.sold g.l = true) ∧ (Sx.Own intL1 1 3 g.A g.c g.l g.b g.o) ∧ Sx 92 [] [(10, .int .i64 (g.k : Int)), (9, .int .i64 (tak b.rolls g.l)), (8, .slice g.A g.l.length g.c), (7, .pointer (some ⟨b5, 0, none⟩)), (6, .bool false), (5, .slice none 0 0), (4, .pointer (some ⟨b3, 0, none⟩)), (2, .pointer (some ⟨b2, 0, none⟩)), (1, .slice A4 n4 c4)] [(b5, some (.cells ⟨(bxL b A n cp A2 n2 c2)⟩ 25 (0, 0))), (g.b, g.o), (b3, some (.cells ⟨[.slice none 0 0, .slice none 0 0, .int .i64 0, .int .i64 0, .int .i64 0, .int .i64 0, .int .i64 0]⟩ 25 (0, 0))), (b2, some (.cells ⟨(bxL b A n cp A2 n2 c2)⟩ 25 (0, 0)))] [] w a_ w_) (fun g => n - g.k) ((OwG.mk 0 none 0 ([] : List Int) 0 none)) ⟨?_, ?_, ?_, ?_, hs15⟩ ?_
 · exact Nat.zero_le _
 · rfl
 · rfl
 · exact .inl ⟨rfl, rfl⟩
 intro g a_16 w_16 ⟨hk, hgl, hgc, hown, hs16⟩; clear hs15
 refine cd_seq fun K10 hK10 => ?_
 refine cd_region fun K11 hK11 => ?_
 refine sq rfl (st_move hs16 (Ev.t 0 rfl) rfl rfl fun _ _ hs17 => ?_); clear hs16
 refine sq rfl (st_field (o' := 0) hs17 (Ev.t 8 rfl) rfl rfl runUnderlying25 rfl sizeOf22 rfl rfl fun _ _ hs18 => ?_); clear hs17
 refine sq rfl (st_load1 (o := 0) (off := 0) (v := .slice A n cp) hs18 (Ev.t 0 rfl) rfl rfl isAgg22 (hs18.cells 3 rfl) rfl fun _ _ hs19 => ?_); clear hs18
 refine sq rfl (st_len hs19 (Ev.t 0 rfl) rfl rfl runUnderlying22 fun _ _ hs20 => ?_); clear hs19
 refine sq rfl (st_cmp (c := decide (((g.k : Int) : Int) < (n : Int))) hs20 (Ev.t 3 rfl) (Ev.t 0 rfl) rfl rfl rfl rfl fun _ _ hs21 => ?_); clear hs20
 refine hK11 _ _ ?_; clear hK11
 have hs22 := hs21.keep [0, 5, 6, 7, 8, 9, 10, 11, 12, 13] [_, _, _, _, _, _, _, _, _, _] rfl; clear hs21
 refine cd_cond hs22 (Ev.t 0 rfl) (fun hc12 => ?_) (fun hc12 => ?_)
 · have hin : g.k < n := by simpa using hc12
   have hil : g.k < b.rolls.length := by omega
   have hil2 : g.k < b.free.length := by omega
   obtain ⟨x13, hx13⟩ : ∃ x, b.rolls[g.k]? = some x := ⟨_, List.getElem?_eq_getElem (by have := hP.len; omega)⟩
   obtain ⟨b14, o14, hA14, -, hc14⟩ := hP.el g.k x13 hx13
   obtain ⟨x15, hx15⟩ : ∃ x, b.free[g.k]? = some x := ⟨_, List.getElem?_eq_getElem (by have := hF.len; omega)⟩
   obtain ⟨b16, o16, hA16, -, hc16⟩ := hF.el g.k x15 hx15
   have h1 := ok_roll (hO.roll _ _ hx13); have h2 := ok_free (hO.free _ _ hx15)
   obtain ⟨z0, hz0⟩ : ∃ z, chooseN ⟨x13.first.lo, x13.first.hi⟩ (pickN xs (3 * (g.k : Int))) = z := ⟨_, rfl⟩
   have hb0 : x13.first.lo ≤ z0 ∧ z0 ≤ x13.first.hi := by rw [← hz0]; exact choose_in (s := ⟨x13.first.lo, x13.first.hi⟩) (by simp only; omega) _
   obtain ⟨z1, hz1⟩ : ∃ z, chooseN ⟨x13.fin.lo, x13.fin.hi⟩ (pickN xs (3 * (g.k : Int) + 1)) = z := ⟨_, rfl⟩
   have hb1 : x13.fin.lo ≤ z1 ∧ z1 ≤ x13.fin.hi := by rw [← hz1]; exact choose_in (s := ⟨x13.fin.lo, x13.fin.hi⟩) (by simp only; omega) _
   obtain ⟨z2, hz2⟩ : ∃ z, chooseN ⟨x15.lo, x15.hi⟩ (pickN xs (3 * (g.k : Int) + 2)) = z := ⟨_, rfl⟩
   have hb2 : x15.lo ≤ z2 ∧ z2 ≤ x15.hi := by rw [← hz2]; exact choose_in (s := ⟨x15.lo, x15.hi⟩) (by simp only; omega) _
   have htr := tak_range hO (xs := g.l) (by omega) hgc
   refine cd_skip ?_
   refine th_norm (hK10 _ _ ?_)
   refine cd_seq fun K17 hK17 => ?_
   refine cd_block ?_
   refine cd_region fun K18 hK18 => ?_
   refine sq rfl (st_field (o' := 0) hs22 (Ev.t 8 rfl) rfl rfl runUnderlying25 rfl sizeOf22 rfl rfl fun _ _ hs23 => ?_); clear hs22
   refine sq rfl (st_load1 (o := 0) (off := 0) (v := .slice A n cp) hs23 (Ev.t 0 rfl) rfl rfl isAgg22 (hs23.cells 3 rfl) rfl fun _ _ hs24 => ?_); clear hs23
   refine sq rfl (st_move hs24 (Ev.t 3 rfl) rfl rfl fun _ _ hs25 => ?_); clear hs24
   refine sq rfl (st_indexM (o' := o14 + g.k * 5) hs25 (Ev.t 1 rfl) (Ev.t 0 rfl) rfl rfl hA14 runUnderlying22 sizeOf46 ⟨by omega, by have := hP.len; have := (List.getElem?_eq_some_iff.1 hx13).1; omega⟩ rfl fun _ _ hs26 => ?_); clear hs25
   refine sq rfl (st_loadA (o := o14 + g.k * 5) (off := 0) (vs := (rollL x13)) hs26 (Ev.t 0 rfl) rfl rfl isAgg46 sizeOf46 (hs26.old hc14 (by simp)) rfl fun _ _ hs27 => ?_); clear hs26
   refine sq rfl (st_alloc hs27 rfl rfl zeroValue46 rfl fun b19 _ _ hs28 => ?_); clear hs27
   refine sq rfl (st_store (l' := (rollL x13)) (vs := (rollL x13)) (i := 0) hs28 (Ev.t 0 rfl) (Ev.t 1 rfl) sizeOf46 rfl rfl rfl rfl rfl rfl fun _ _ hs29 => ?_); clear hs28
   have hs30 := hs29.asB [_, _, _, _, _] rfl; clear hs29
   refine hK18 _ _ ?_; clear hK18
   have hs31 := hs30.keep [0, 7, 8, 9, 10, 11, 12, 13, 14, 15] [_, _, _, _, _, _, _, _, _, _] rfl; clear hs30
   refine cd_drawn mixed hs31 [⟨28, [], Is (.pointer (some ⟨b19, 1, none⟩))⟩, ⟨29, [0], Is (.agg ⟨[.int .i64 x13.first.lo, .int .i64 x13.first.hi]⟩)⟩, ⟨30, [], Is (.slice A4 n4 c4)⟩, ⟨31, [], Is (.int .i64 (g.k : Int))⟩, ⟨32, [3], Is (.int .i64 (3 * (g.k : Int)))⟩, ⟨33, [2, 4], Is (.int .i64 (pickN xs (3 * (g.k : Int))))⟩] (by kernel_rfl) (by kernel_rfl) fun K20 hK20 => ⟨⟨?_, ?_, ?_, ?_, ?_, ?_, trivial⟩, ?_⟩
   · rintro T_ B_ a_ w_ K_ hT hB hf hsD hk
     exact ob rfl rfl (st_field (o' := 1) hsD (evT hT 0 rfl) rfl hf runUnderlying46 rfl sizeOf35 rfl rfl fun _ _ => hk _ _ _ _ ⟨rfl, rfl⟩)
   · rintro T_ B_ a_ w_ K_ hT hB _ _ ⟨rfl, rfl⟩ h28 - hf hsD hk
     exact ob rfl rfl (st_loadA (o := 0) (off := 1) (vs := [.int .i64 x13.first.lo, .int .i64 x13.first.hi]) hsD (Ev.tmp h28) rfl hf isAgg35 sizeOf35 (hsD.cellsM (inB hB 0 rfl)) rfl fun _ _ => hk _ _ _ _ ⟨rfl, rfl⟩)
   · rintro T_ B_ a_ w_ K_ hT hB hf hsD hk
     exact ob rfl rfl (st_move hsD (evT hT 9 rfl) rfl hf fun _ _ => hk _ _ _ _ ⟨rfl, rfl⟩)
   · rintro T_ B_ a_ w_ K_ hT hB hf hsD hk
     exact ob rfl rfl (st_move hsD (evT hT 1 rfl) rfl hf fun _ _ => hk _ _ _ _ ⟨rfl, rfl⟩)
   · rintro T_ B_ a_ w_ K_ hT hB _ _ ⟨rfl, rfl⟩ h31 - hf hsD hk
     exact ob rfl rfl (st_mul (z := 3 * (g.k : Int)) hsD (.const _) (Ev.tmp h31) rfl hf rfl (by omega) fun _ _ => hk _ _ _ _ ⟨rfl, rfl⟩)
   · rintro T_ B_ a_ w_ K_ hT hB _ _ ⟨rfl, rfl⟩ h30 - _ _ ⟨rfl, rfl⟩ h32 - hf hsD hk
     exact ob rfl rfl (st_callv (vs := [.slice A4 n4 c4, .int .i64 (3 * (g.k : Int))]) hsD (.func _) ⟨(Ev.tmp h30), (Ev.tmp h32), trivial⟩ rfl hf call71 rfl (pick_v A4 n4 c4 xs (3 * (g.k : Int)) _ (hX.kp hsD.kp) (by omega)) fun _ _ => hk _ _ _ _ ⟨rfl, rfl⟩)
   rintro _ _ ⟨rfl, rfl⟩ _ _ ⟨rfl, rfl⟩ _ _ ⟨rfl, rfl⟩ _ _ ⟨rfl, rfl⟩ _ _ ⟨rfl, rfl⟩ _ _ ⟨rfl, rfl⟩ a_32 w_32 hs32; clear hs31
   have hs33 := Sx.as (T' := [_, _, _, _, _, _, _, _, _, _, _, _, _, _, _, _]) (B' := [_, _, _, _, _]) rfl rfl hs32; clear hs32
   refine sq rfl (st_callv (vs := [.agg ⟨[.int .i64 x13.first.lo, .int .i64 x13.first.hi]⟩, .int .i64 (pickN xs (3 * (g.k : Int)))]) hs33 (.func _) ⟨(Ev.t 1 rfl), (Ev.t 5 rfl), trivial⟩ rfl rfl call43 rfl (callsV_eq (v' := .int .i64 z0) (choose_v x13.first.lo x13.first.hi (pickN xs (3 * (g.k : Int))) _ (by omega) (by omega)) (by rw [hz0])) fun _ _ hs34 => ?_); clear hs33
   refine sq rfl (st_assign hs34 (Ev.t 0 rfl) rfl rfl fun _ _ hs35 => ?_); clear hs34
   refine hK20 _ _ ?_; clear hK20
   have hs36 := hs35.keep [0, 8, 9, 10, 11, 12, 13, 14, 15, 16, 17] [_, _, _, _, _, _, _, _, _, _, _] rfl; clear hs35
   refine cd_drawn mixed hs36 [⟨35, [], Is (.pointer (some ⟨b19, 3, none⟩))⟩, ⟨36, [0], Is (.agg ⟨[.int .i64 x13.fin.lo, .int .i64 x13.fin.hi]⟩)⟩, ⟨37, [], Is (.slice A4 n4 c4)⟩, ⟨38, [], Is (.int .i64 (g.k : Int))⟩, ⟨39, [3], Is (.int .i64 (3 * (g.k : Int)))⟩, ⟨40, [4], Is (.int .i64 ((3 * (g.k : Int)) + 1))⟩, ⟨41, [2, 5], Is (.int .i64 (pickN xs ((3 * (g.k : Int)) + 1)))⟩] (by kernel_rfl) (by kernel_rfl) fun K21 hK21 => ⟨⟨?_, ?_, ?_, ?_, ?_, ?_, ?_, trivial⟩, ?_⟩
   · rintro T_ B_ a_ w_ K_ hT hB hf hsD hk
     exact ob rfl rfl (st_field (o' := 3) hsD (evT hT 1 rfl) rfl hf runUnderlying46 rfl sizeOf35 rfl rfl fun _ _ => hk _ _ _ _ ⟨rfl, rfl⟩)
   · rintro T_ B_ a_ w_ K_ hT hB _ _ ⟨rfl, rfl⟩ h35 - hf hsD hk
     exact ob rfl rfl (st_loadA (o := 0) (off := 3) (vs := [.int .i64 x13.fin.lo, .int .i64 x13.fin.hi]) hsD (Ev.tmp h35) rfl hf isAgg35 sizeOf35 (hsD.cellsM (inB hB 0 rfl)) rfl fun _ _ => hk _ _ _ _ ⟨rfl, rfl⟩)
   · rintro T_ B_ a_ w_ K_ hT hB hf hsD hk
     exact ob rfl rfl (st_move hsD (evT hT 10 rfl) rfl hf fun _ _ => hk _ _ _ _ ⟨rfl, rfl⟩)
   · rintro T_ B_ a_ w_ K_ hT hB hf hsD hk
     exact ob rfl rfl (st_move hsD (evT hT 2 rfl) rfl hf fun _ _ => hk _ _ _ _ ⟨rfl, rfl⟩)
   · rintro T_ B_ a_ w_ K_ hT hB _ _ ⟨rfl, rfl⟩ h38 - hf hsD hk
     exact ob rfl rfl (st_mul (z := 3 * (g.k : Int)) hsD (.const _) (Ev.tmp h38) rfl hf rfl (by omega) fun _ _ => hk _ _ _ _ ⟨rfl, rfl⟩)
   · rintro T_ B_ a_ w_ K_ hT hB _ _ ⟨rfl, rfl⟩ h39 - hf hsD hk
     exact ob rfl rfl (st_add (z := (3 * (g.k : Int)) + 1) hsD (Ev.tmp h39) (.const _) rfl hf rfl (by omega) fun _ _ => hk _ _ _ _ ⟨rfl, rfl⟩)
   · rintro T_ B_ a_ w_ K_ hT hB _ _ ⟨rfl, rfl⟩ h37 - _ _ ⟨rfl, rfl⟩ h40 - hf hsD hk
     exact ob rfl rfl (st_callv (vs := [.slice A4 n4 c4, .int .i64 ((3 * (g.k : Int)) + 1)]) hsD (.func _) ⟨(Ev.tmp h37), (Ev.tmp h40), trivial⟩ rfl hf call71 rfl (pick_v A4 n4 c4 xs ((3 * (g.k : Int)) + 1) _ (hX.kp hsD.kp) (by omega)) fun _ _ => hk _ _ _ _ ⟨rfl, rfl⟩)
   rintro _ _ ⟨rfl, rfl⟩ _ _ ⟨rfl, rfl⟩ _ _ ⟨rfl, rfl⟩ _ _ ⟨rfl, rfl⟩ _ _ ⟨rfl, rfl⟩ _ _ ⟨rfl, rfl⟩ _ _ ⟨rfl, rfl⟩ a_37 w_37 hs37; clear hs36
   have hs38 := Sx.as (T' := [_, _, _, _, _, _, _, _, _, _, _, _, _, _, _, _, _, _]) (B' := [_, _, _, _, _]) rfl rfl hs37; clear hs37
   refine sq rfl (st_callv (vs := [.agg ⟨[.int .i64 x13.fin.lo, .int .i64 x13.fin.hi]⟩, .int .i64 (pickN xs ((3 * (g.k : Int)) + 1))]) hs38 (.func _) ⟨(Ev.t 1 rfl), (Ev.t 6 rfl), trivial⟩ rfl rfl call43 rfl (callsV_eq (v' := .int .i64 z1) (choose_v x13.fin.lo x13.fin.hi (pickN xs ((3 * (g.k : Int)) + 1)) _ (by omega) (by omega)) (by rw [hz1])) fun _ _ hs39 => ?_); clear hs38
   refine sq rfl (st_assign hs39 (Ev.t 0 rfl) rfl rfl fun _ _ hs40 => ?_); clear hs39
   refine hK21 _ _ ?_; clear hK21
   have hs41 := hs40.keep [0, 9, 10, 11, 12, 13, 14, 15, 16, 17, 18, 19] [_, _, _, _, _, _, _, _, _, _, _, _] rfl; clear hs40
   refine cd_drawn mixed hs41 [⟨43, [], Is (.int .i64 z1)⟩, ⟨44, [], Is (.int .i64 z0)⟩, ⟨45, [0, 1], Is (.int .i64 (z1 - z0))⟩, ⟨46, [], Is (.pointer (some ⟨b2, 1, none⟩))⟩, ⟨47, [3], Is (.slice A2 n2 c2)⟩, ⟨48, [], Is (.int .i64 (g.k : Int))⟩, ⟨49, [4, 5], Is (.pointer (some ⟨b16, o16 + g.k * 2, none⟩))⟩, ⟨50, [6], Is (.agg ⟨(spL x15)⟩)⟩, ⟨51, [], Is (.slice A4 n4 c4)⟩, ⟨52, [], Is (.int .i64 (g.k : Int))⟩, ⟨53, [9], Is (.int .i64 (3 * (g.k : Int)))⟩, ⟨54, [10], Is (.int .i64 ((3 * (g.k : Int)) + 2))⟩, ⟨55, [8, 11], Is (.int .i64 (pickN xs ((3 * (g.k : Int)) + 2)))⟩, ⟨56, [7, 12], Is (.int .i64 z2)⟩] (by kernel_rfl) (by kernel_rfl) fun K22 hK22 => ⟨⟨?_, ?_, ?_, ?_, ?_, ?_, ?_, ?_, ?_, ?_, ?_, ?_, ?_, ?_, trivial⟩, ?_⟩
   · rintro T_ B_ a_ w_ K_ hT hB hf hsD hk
     exact ob rfl rfl (st_move hsD (evT hT 0 rfl) rfl hf fun _ _ => hk _ _ _ _ ⟨rfl, rfl⟩)
   · rintro T_ B_ a_ w_ K_ hT hB hf hsD hk
     exact ob rfl rfl (st_move hsD (evT hT 1 rfl) rfl hf fun _ _ => hk _ _ _ _ ⟨rfl, rfl⟩)
   · rintro T_ B_ a_ w_ K_ hT hB _ _ ⟨rfl, rfl⟩ h43 - _ _ ⟨rfl, rfl⟩ h44 - hf hsD hk
     exact ob rfl rfl (st_sub (z := z1 - z0) hsD (Ev.tmp h43) (Ev.tmp h44) rfl hf rfl (by omega) fun _ _ => hk _ _ _ _ ⟨rfl, rfl⟩)
   · rintro T_ B_ a_ w_ K_ hT hB hf hsD hk
     exact ob rfl rfl (st_field (o' := 1) hsD (evT hT 10 rfl) rfl hf runUnderlying25 rfl sizeOf23 rfl rfl fun _ _ => hk _ _ _ _ ⟨rfl, rfl⟩)
   · rintro T_ B_ a_ w_ K_ hT hB _ _ ⟨rfl, rfl⟩ h46 - hf hsD hk
     exact ob rfl rfl (st_load1 (o := 0) (off := 1) (v := .slice A2 n2 c2) hsD (Ev.tmp h46) rfl hf isAgg23 (hsD.cellsM (inB hB 4 rfl)) rfl fun _ _ => hk _ _ _ _ ⟨rfl, rfl⟩)
   · rintro T_ B_ a_ w_ K_ hT hB hf hsD hk
     exact ob rfl rfl (st_move hsD (evT hT 3 rfl) rfl hf fun _ _ => hk _ _ _ _ ⟨rfl, rfl⟩)
   · rintro T_ B_ a_ w_ K_ hT hB _ _ ⟨rfl, rfl⟩ h47 - _ _ ⟨rfl, rfl⟩ h48 - hf hsD hk
     exact ob rfl rfl (st_indexM (o' := o16 + g.k * 2) hsD (Ev.tmp h47) (Ev.tmp h48) rfl hf hA16 runUnderlying23 sizeOf35 ⟨by omega, by have := hF.len; have := (List.getElem?_eq_some_iff.1 hx15).1; omega⟩ rfl fun _ _ => hk _ _ _ _ ⟨rfl, rfl⟩)
   · rintro T_ B_ a_ w_ K_ hT hB _ _ ⟨rfl, rfl⟩ h49 - hf hsD hk
     exact ob rfl rfl (st_loadA (o := o16 + g.k * 2) (off := 0) (vs := (spL x15)) hsD (Ev.tmp h49) rfl hf isAgg35 sizeOf35 (hsD.old hc16 (by simp)) rfl fun _ _ => hk _ _ _ _ ⟨rfl, rfl⟩)
   · rintro T_ B_ a_ w_ K_ hT hB hf hsD hk
     exact ob rfl rfl (st_move hsD (evT hT 11 rfl) rfl hf fun _ _ => hk _ _ _ _ ⟨rfl, rfl⟩)
   · rintro T_ B_ a_ w_ K_ hT hB hf hsD hk
     exact ob rfl rfl (st_move hsD (evT hT 3 rfl) rfl hf fun _ _ => hk _ _ _ _ ⟨rfl, rfl⟩)
   · rintro T_ B_ a_ w_ K_ hT hB _ _ ⟨rfl, rfl⟩ h52 - hf hsD hk
     exact ob rfl rfl (st_mul (z := 3 * (g.k : Int)) hsD (.const _) (Ev.tmp h52) rfl hf rfl (by omega) fun _ _ => hk _ _ _ _ ⟨rfl, rfl⟩)
   · rintro T_ B_ a_ w_ K_ hT hB _ _ ⟨rfl, rfl⟩ h53 - hf hsD hk
     exact ob rfl rfl (st_add (z := (3 * (g.k : Int)) + 2) hsD (Ev.tmp h53) (.const _) rfl hf rfl (by omega) fun _ _ => hk _ _ _ _ ⟨rfl, rfl⟩)
   · rintro T_ B_ a_ w_ K_ hT hB _ _ ⟨rfl, rfl⟩ h51 - _ _ ⟨rfl, rfl⟩ h54 - hf hsD hk
     exact ob rfl rfl (st_callv (vs := [.slice A4 n4 c4, .int .i64 ((3 * (g.k : Int)) + 2)]) hsD (.func _) ⟨(Ev.tmp h51), (Ev.tmp h54), trivial⟩ rfl hf call71 rfl (pick_v A4 n4 c4 xs ((3 * (g.k : Int)) + 2) _ (hX.kp hsD.kp) (by omega)) fun _ _ => hk _ _ _ _ ⟨rfl, rfl⟩)
   · rintro T_ B_ a_ w_ K_ hT hB _ _ ⟨rfl, rfl⟩ h50 - _ _ ⟨rfl, rfl⟩ h55 - hf hsD hk
     exact ob rfl rfl (st_callv (vs := [.agg ⟨(spL x15)⟩, .int .i64 (pickN xs ((3 * (g.k : Int)) + 2))]) hsD (.func _) ⟨(Ev.tmp h50), (Ev.tmp h55), trivial⟩ rfl hf call43 rfl (callsV_eq (v' := .int .i64 z2) (choose_v x15.lo x15.hi (pickN xs ((3 * (g.k : Int)) + 2)) _ (by omega) (by omega)) (by rw [hz2])) fun _ _ => hk _ _ _ _ ⟨rfl, rfl⟩)
   rintro _ _ ⟨rfl, rfl⟩ _ _ ⟨rfl, rfl⟩ _ _ ⟨rfl, rfl⟩ _ _ ⟨rfl, rfl⟩ _ _ ⟨rfl, rfl⟩ _ _ ⟨rfl, rfl⟩ _ _ ⟨rfl, rfl⟩ _ _ ⟨rfl, rfl⟩ _ _ ⟨rfl, rfl⟩ _ _ ⟨rfl, rfl⟩ _ _ ⟨rfl, rfl⟩ _ _ ⟨rfl, rfl⟩ _ _ ⟨rfl, rfl⟩ _ _ ⟨rfl, rfl⟩ a_42 w_42 hs42; clear hs41
   have hs43 := Sx.as (T' := [_, _, _, _, _, _, _, _, _, _, _, _, _, _, _, _, _, _, _, _, _, _, _, _, _, _]) (B' := [_, _, _, _, _]) rfl rfl hs42; clear hs42
   refine sq rfl (st_sub (z := (z1 - z0) - z2) hs43 (Ev.t 2 rfl) (Ev.t 13 rfl) rfl rfl rfl (by omega) fun _ _ hs44 => ?_); clear hs43
   refine sq rfl (st_assign hs44 (Ev.t 0 rfl) rfl rfl fun _ _ hs45 => ?_); clear hs44
   refine hK22 _ _ ?_; clear hK22
   have hs46 := hs45.keep [0, 16, 17, 18, 19, 20, 21, 22, 23, 24, 25, 26, 27] [_, _, _, _, _, _, _, _, _, _, _, _, _] rfl; clear hs45
   refine cd_seq fun K23 hK23 => ?_
   refine cd_region fun K24 hK24 => ?_
   refine sq rfl (st_move hs46 (Ev.t 1 rfl) rfl rfl fun _ _ hs47 => ?_); clear hs46
   refine sq rfl (st_move hs47 (Ev.t 3 rfl) rfl rfl fun _ _ hs48 => ?_); clear hs47
   refine sq rfl (st_cmp (c := decide ((z1 : Int) < z0)) hs48 (Ev.t 1 rfl) (Ev.t 0 rfl) rfl rfl rfl rfl fun _ _ hs49 => ?_); clear hs48
   refine sq rfl (st_move hs49 (Ev.t 0 rfl) rfl rfl fun _ _ hs50 => ?_); clear hs49
   refine sq_gv hs50 (gg := !(decide ((z1 : Int) < z0))) (v := .int .i64 ((z1 - z0) - z2)) rfl rfl 0 rfl (ison_f _) rfl rfl rfl (fun hg25 K26 hK26 => st_move hs50 (Ev.t 4 rfl) rfl rfl hK26) fun _ _ hs51 => ?_; clear hs50
   refine sq_gv hs51 (gg := !(decide ((z1 : Int) < z0))) (v := .bool (decide (((z1 - z0) - z2 : Int) < 0))) rfl rfl 1 rfl (ison_f _) rfl rfl rfl (fun hg27 K28 hK28 => st_cmp (c := decide (((z1 - z0) - z2 : Int) < 0)) hs51 ((Ev.t 0 rfl).un hg27) (.const _) rfl rfl rfl rfl hK28) fun _ _ hs52 => ?_; clear hs51
   refine sq rfl (st_or hs52 (gx := true) (gy := !(decide ((z1 : Int) < z0))) (Ev.t 2 rfl) rfl (Ev.t 0 rfl) (fun h => (by first | exact absurd h (by decide) | (rw [h]; rfl))) rfl rfl fun _ _ hs53 => ?_); clear hs52
   refine hK24 _ _ ?_; clear hK24
   have hs54 := hs53.keep [0, 7, 10, 11, 12, 13, 14, 15, 16, 17, 18, 19] [_, _, _, _, _, _, _, _, _, _, _, _] rfl; clear hs53
   refine cd_cond hs54 (Ev.t 0 rfl) (fun hc29 => ?_) (fun hc29 => ?_)
   · refine cd_region fun K30 hK30 => ?_
     refine sq rfl (st_loadA (o := 0) (off := 0) (vs := (bxL b A n cp A2 n2 c2)) hs54 (Ev.t 10 rfl) rfl rfl isAgg25 sizeOf25 (hs54.cells 4 rfl) rfl fun _ _ hs55 => ?_); clear hs54
     refine sq rfl (st_store (l' := (bxL b A n cp A2 n2 c2)) (vs := (bxL b A n cp A2 n2 c2)) (i := 3) hs55 (Ev.t 10 rfl) (Ev.t 0 rfl) sizeOf25 rfl rfl rfl rfl rfl rfl fun _ _ hs56 => ?_); clear hs55
     have hs57 := hs56.asB [_, _, _, _, _] rfl; clear hs56
     have hs58 := hs57.keep [0, 1, 2, 3, 4, 5, 6, 7, 8, 10, 11, 12] [_, _, _, _, _, _, _, _, _, _, _, _] rfl; clear hs57
     refine sq rfl (st_assign hs58 (.const _) rfl rfl fun _ _ hs59 => ?_); clear hs58
     have hs60 := hs59.keep [0, 1, 2, 3, 4, 5, 6, 7, 8, 10, 11, 12] [_, _, _, _, _, _, _, _, _, _, _, _] rfl; clear hs59
     refine sq rfl (st_assign hs60 (.const _) rfl rfl fun _ _ hs61 => ?_); clear hs60
     refine hK30 _ _ ?_; clear hK30
     have hs62 := hs61.keep [0, 1, 10] [_, _, _] rfl; clear hs61
     exact cd_ret (vs := [.agg ⟨(bxL b A n cp A2 n2 c2)⟩, .slice none 0 0, .bool false]) (bs := [(g.b, g.o)]) hs62 (fun a_ w_ h => th_ret (in_ret (th_ret (th_ret (in_ret (th_ret (hQ0 a_ w_ h))))))) rfl ⟨resA (o := 0) (off := 0) (vs := (bxL b A n cp A2 n2 c2)) 2 rfl isAgg25 sizeOf25 (hs62.cells 3 rfl) rfl, .tmp 1 rfl, .tmp 0 rfl, trivial⟩ (.cons _ (.cons _ (.cons_cons _ (List.nil_sublist _)))) ⟨none, 0, g.b, g.o, [], b.count, false, rfl, rfl, .inl ⟨rfl, rfl⟩, fun h => by cases h⟩
   · have hge0 : z0 ≤ z1 ∧ 0 ≤ z1 - z0 - z2 := by have h := hc29; simp only [Bool.or_eq_false_iff, decide_eq_false_iff_not] at h; omega
     have hgi := gone_in (r := x13) (f := x15) hb0 hb1 hb2 hge0.1 hge0.2
     have hgs := sold_at hx13 hx15
     rw [← hgl] at hgs
     have hgc2 := canB_add hgs hgc hgi
     have hrl : b.rolls[g.l.length]? = some x13 := by rw [hgl]; exact hx13
     have htk := tak_add (x := z1 - z0 - z2) hrl
     have htr2 := tak_range hO (xs := g.l ++ [z1 - z0 - z2]) (by simp; omega) hgc2
     have hmb := mul_bd (m := z1 - z0 - z2) (p := x13.price) (by have := hO.wf.sp _ _ hgs; omega) h1.1
     refine cd_skip ?_
     refine th_norm (hK23 _ _ ?_)
     refine cd_region fun K31 hK31 => ?_
     refine sq rfl (st_move hs54 (Ev.t 5 rfl) rfl rfl fun _ _ hs55 => ?_); clear hs54
     refine sq rfl (st_move hs55 (Ev.t 2 rfl) rfl rfl fun _ _ hs56 => ?_); clear hs55
     refine sq rfl (st_buildSlice hs56 (qs := [(0, .int .i64 ((z1 - z0) - z2))]) (e := 3) (l := [.int .i64 ((z1 - z0) - z2)]) ⟨(Ev.t 0 rfl), trivial⟩ rfl rfl rfl (fun _ => by kernel_rfl) fun b32 _ _ hs57 => ?_); clear hs56
     refine sq rfl (st_append (enc := intL1) (zs := g.l) (ys := [z1 - z0 - z2]) (c := g.c) (i := 3) hs57 (Ev.t 2 rfl) (Ev.t 0 rfl) rfl rfl underlying33 (show (Tryd.prog.info? 3).map (fun i => (i.zero, i.size, i.bytes)) = some (some (.int .i64 0), 1, 8) by kernel_rfl) rfl (fun _ => rfl) (fun _ u hu => by simp only [intL1, List.mem_cons, List.not_mem_nil, or_false] at hu; subst hu; rfl) hown rfl (sl_at (enc := intL1) (sz := 1) (ys := [z1 - z0 - z2]) (fun _ => rfl) (by decide) (hs57.cells 0 rfl)) (by omega) (by omega) (fun A7 c7 b7 o7 _ _ hown7 hs58 => ?_)); clear hs57
     have hs59 := Sx.as (T' := [_, _, _, _, _, _, _, _, _, _, _, _, _, _, _, _]) (B' := [_, _, _, _, _, _]) rfl rfl hs58; clear hs58
     have hs60 := hs59.keep [0, 1, 2, 3, 4, 5, 6, 7, 8, 10, 11, 12, 13, 14, 15] [_, _, _, _, _, _, _, _, _, _, _, _, _, _, _] rfl; clear hs59
     refine sq rfl (st_assign hs60 (Ev.t 0 rfl) rfl rfl fun _ _ hs61 => ?_); clear hs60
     refine hK31 _ _ ?_; clear hK31
     have hs62 := hs61.keep [0, 6, 7, 8, 9, 10, 11, 12, 13, 14, 15] [_, _, _, _, _, _, _, _, _, _, _] rfl; clear hs61
     refine cd_region1 ?_
     refine sq rfl (st_move hs62 (Ev.t 4 rfl) rfl rfl fun _ _ hs63 => ?_); clear hs62
     refine sq rfl (st_move hs63 (Ev.t 2 rfl) rfl rfl fun _ _ hs64 => ?_); clear hs63
     refine sq rfl (st_field (o' := 0) hs64 (Ev.t 4 rfl) rfl rfl runUnderlying46 rfl sizeOf3 rfl rfl fun _ _ hs65 => ?_); clear hs64
     refine sq rfl (st_load1 (o := 0) (off := 0) (v := .int .i64 x13.price) hs65 (Ev.t 0 rfl) rfl rfl isAgg3 (hs65.cells 1 rfl) rfl fun _ _ hs66 => ?_); clear hs65
     refine sq rfl (st_mul (z := ((z1 - z0) - z2) * x13.price) hs66 (Ev.t 2 rfl) (Ev.t 0 rfl) rfl rfl rfl (by omega) fun _ _ hs67 => ?_); clear hs66
     refine sq rfl (st_add (z := (tak b.rolls g.l) + (((z1 - z0) - z2) * x13.price)) hs67 (Ev.t 4 rfl) (Ev.t 0 rfl) rfl rfl rfl (by omega) fun _ _ hs68 => ?_); clear hs67
     have hs69 := hs68.keep [0, 1, 2, 3, 4, 5, 6, 7, 8, 9, 11, 12, 13, 14, 15, 16] [_, _, _, _, _, _, _, _, _, _, _, _, _, _, _, _] rfl; clear hs68
     refine sq rfl (st_assign hs69 (Ev.t 0 rfl) rfl rfl fun _ _ hs70 => ?_); clear hs69
     refine wpListIn_nil ?_
     have hs71 := hs70.keep [0, 7, 10, 11, 12, 13, 14, 15, 16] [_, _, _, _, _, _, _, _, _] rfl; clear hs70
     refine in_norm ?_
     refine th_norm (hK17 _ _ ?_)
     refine cd_region1 ?_
     refine sq rfl (st_move hs71 (Ev.t 2 rfl) rfl rfl fun _ _ hs72 => ?_); clear hs71
     refine sq rfl (st_add (z := (g.k : Int) + 1) hs72 (Ev.t 0 rfl) (.const _) rfl rfl rfl (by omega) fun _ _ hs73 => ?_); clear hs72
     have hs74 := hs73.keep [0, 1, 2, 3, 5, 6, 7, 8, 9, 10] [_, _, _, _, _, _, _, _, _, _] rfl; clear hs73
     refine sq rfl (st_assign hs74 (Ev.t 0 rfl) rfl rfl fun _ _ hs75 => ?_); clear hs74
     refine wpListIn_nil ?_
     have hs76 := hs75.keep [0, 3, 4, 5, 6, 7, 8, 9, 10] [_, _, _, _, _, _, _, _, _] rfl; clear hs75
     refine ⟨(OwG.mk (g.k + 1) A7 c7 (g.l ++ [z1 - z0 - z2]) b7 o7), ⟨?_, ?_, ?_, ?_, ?_⟩, by (show n - (g.k + 1) < n - g.k; omega)⟩
     · exact hin
     · show (g.l ++ [z1 - z0 - z2]).length = g.k + 1
       simp [hgl]
     · exact hgc2
     · exact hown7
     have hs77 : Sx 92 [] [(10, .int .i64 ((g.k : Int) + 1)), (9, .int .i64 ((tak b.rolls g.l) + (((z1 - z0) - z2) * x13.price))), (8, .slice A7 (g.l.length + 1) c7), (7, .pointer (some ⟨b5, 0, none⟩)), (6, .bool false), (5, .slice none 0 0), (4, .pointer (some ⟨b3, 0, none⟩)), (2, .pointer (some ⟨b2, 0, none⟩)), (1, .slice A4 n4 c4)] [(b5, some (.cells ⟨(bxL b A n cp A2 n2 c2)⟩ 25 (0, 0))), (b7, o7), (b3, some (.cells ⟨[.slice none 0 0, .slice none 0 0, .int .i64 0, .int .i64 0, .int .i64 0, .int .i64 0, .int .i64 0]⟩ 25 (0, 0))), (b2, some (.cells ⟨(bxL b A n cp A2 n2 c2)⟩ 25 (0, 0)))] [] w _ _ := Sx.blks hs76 ((List.Sublist.cons _ (List.Sublist.cons _ (List.Sublist.cons_cons _ (List.Sublist.cons_cons _ (List.Sublist.cons_cons _ (List.Sublist.cons_cons _ List.Sublist.slnil)))))))
     exact Sx.keepE [0, 1, 2, 3, 4, 5, 6, 7, 8] _ ⟨⟨_, rfl, rfl⟩, ⟨_, rfl, by rw [htk]⟩, ⟨_, rfl, by simp⟩, ⟨_, rfl, rfl⟩, ⟨_, rfl, rfl⟩, ⟨_, rfl, rfl⟩, ⟨_, rfl, rfl⟩, ⟨_, rfl, rfl⟩, ⟨_, rfl, rfl⟩, trivial⟩ hs77
 · have hge : g.k = n := by simp at hc12; omega
   have htr := tak_range hO (xs := g.l) (by omega) hgc
   have hbz := choose_in (s := ⟨-b.err, b.err⟩) (by simp only; omega) (pickN xs 1)
   simp only at hbz
   refine cd_exit ?_
   refine th_exit ?_
   refine th_exit ?_
   refine in_hit ?_
   refine th_norm (hK8 _ _ ?_)
   refine cd_region fun K33 hK33 => ?_
   refine sq rfl (st_move hs22 (Ev.t 2 rfl) rfl rfl fun _ _ hs23 => ?_); clear hs22
   refine sq rfl (st_field (o' := 3) hs23 (Ev.t 9 rfl) rfl rfl runUnderlying25 rfl sizeOf3 rfl rfl fun _ _ hs24 => ?_); clear hs23
   refine sq rfl (st_load1 (o := 0) (off := 3) (v := .int .i64 b.err) hs24 (Ev.t 0 rfl) rfl rfl isAgg3 (hs24.cells 3 rfl) rfl fun _ _ hs25 => ?_); clear hs24
   refine sq rfl (st_neg hs25 (Ev.t 0 rfl) rfl rfl (by omega) fun _ _ hs26 => ?_); clear hs25
   refine sq rfl (st_field (o' := 3) hs26 (Ev.t 12 rfl) rfl rfl runUnderlying25 rfl sizeOf3 rfl rfl fun _ _ hs27 => ?_); clear hs26
   refine sq rfl (st_load1 (o := 0) (off := 3) (v := .int .i64 b.err) hs27 (Ev.t 0 rfl) rfl rfl isAgg3 (hs27.cells 3 rfl) rfl fun _ _ hs28 => ?_); clear hs27
   refine sq rfl (st_callv (vs := [.int .i64 (-b.err), .int .i64 b.err]) hs28 (.func _) ⟨(Ev.t 2 rfl), (Ev.t 0 rfl), trivial⟩ rfl rfl call23 rfl (S_v (-b.err) b.err _) fun _ _ hs29 => ?_); clear hs28
   refine sq rfl (st_move hs29 (Ev.t 16 rfl) rfl rfl fun _ _ hs30 => ?_); clear hs29
   refine sq rfl (st_callv (vs := [.slice A4 n4 c4, .int .i64 1]) hs30 (.func _) ⟨(Ev.t 0 rfl), (.const _), trivial⟩ rfl rfl call71 rfl (pick_v A4 n4 c4 xs 1 _ (hX.kp hs30.kp) (by omega)) fun _ _ hs31 => ?_); clear hs30
   refine sq rfl (st_callv (vs := [.agg ⟨[.int .i64 (-b.err), .int .i64 b.err]⟩, .int .i64 (pickN xs 1)]) hs31 (.func _) ⟨(Ev.t 2 rfl), (Ev.t 0 rfl), trivial⟩ rfl rfl call43 rfl (choose_v (-b.err) b.err (pickN xs 1) _ (by omega) (by omega)) fun _ _ hs32 => ?_); clear hs31
   refine sq rfl (st_add (z := (tak b.rolls g.l) + (chooseN ⟨-b.err, b.err⟩ (pickN xs 1))) hs32 (Ev.t 9 rfl) (Ev.t 0 rfl) rfl rfl rfl (by omega) fun _ _ hs33 => ?_); clear hs32
   refine sq rfl (st_min hs33 (.const _) (Ev.t 0 rfl) rfl rfl fun _ _ hs34 => ?_); clear hs33
   refine sq rfl (st_max hs34 (.const _) (Ev.t 0 rfl) rfl rfl fun _ _ hs35 => ?_); clear hs34
   refine sq rfl (st_field (o' := 2) hs35 (Ev.t 17 rfl) rfl rfl runUnderlying25 rfl sizeOf3 rfl rfl fun _ _ hs36 => ?_); clear hs35
   refine sq rfl (st_store (l' := [.slice A n cp, .slice A2 n2 c2, .int .i64 (max 0 (min 60000 ((tak b.rolls g.l) + (chooseN ⟨-b.err, b.err⟩ (pickN xs 1))))), .int .i64 b.err, .int .i64 b.duty, .int .i64 b.share, .int .i64 b.guar]) (vs := [.int .i64 (max 0 (min 60000 ((tak b.rolls g.l) + (chooseN ⟨-b.err, b.err⟩ (pickN xs 1)))))]) (i := 0) hs36 (Ev.t 0 rfl) (Ev.t 1 rfl) sizeOf3 rfl rfl rfl rfl rfl rfl fun _ _ hs37 => ?_); clear hs36
   have hs38 := hs37.asB [_, _, _, _] rfl; clear hs37
   refine hK33 _ _ ?_; clear hK33
   have hs39 := hs38.keep [17, 18, 19, 20, 21] [_, _, _, _, _] rfl; clear hs38
   refine cd_region fun K34 hK34 => ?_
   refine sq rfl (st_loadA (o := 0) (off := 0) (vs := [.slice A n cp, .slice A2 n2 c2, .int .i64 (max 0 (min 60000 ((tak b.rolls g.l) + (chooseN ⟨-b.err, b.err⟩ (pickN xs 1))))), .int .i64 b.err, .int .i64 b.duty, .int .i64 b.share, .int .i64 b.guar]) hs39 (Ev.t 1 rfl) rfl rfl isAgg25 sizeOf25 (hs39.cells 0 rfl) rfl fun _ _ hs40 => ?_); clear hs39
   refine sq rfl (st_move hs40 (Ev.t 1 rfl) rfl rfl fun _ _ hs41 => ?_); clear hs40
   refine sq rfl (st_store (l' := [.slice A n cp, .slice A2 n2 c2, .int .i64 (max 0 (min 60000 ((tak b.rolls g.l) + (chooseN ⟨-b.err, b.err⟩ (pickN xs 1))))), .int .i64 b.err, .int .i64 b.duty, .int .i64 b.share, .int .i64 b.guar]) (vs := [.slice A n cp, .slice A2 n2 c2, .int .i64 (max 0 (min 60000 ((tak b.rolls g.l) + (chooseN ⟨-b.err, b.err⟩ (pickN xs 1))))), .int .i64 b.err, .int .i64 b.duty, .int .i64 b.share, .int .i64 b.guar]) (i := 2) hs41 (Ev.t 6 rfl) (Ev.t 1 rfl) sizeOf25 rfl rfl rfl rfl rfl rfl fun _ _ hs42 => ?_); clear hs41
   have hs43 := hs42.asB [_, _, _, _] rfl; clear hs42
   have hs44 := hs43.keep [0, 1, 2, 3, 4, 6] [_, _, _, _, _, _] rfl; clear hs43
   refine sq rfl (st_assign hs44 (Ev.t 0 rfl) rfl rfl fun _ _ hs45 => ?_); clear hs44
   have hs46 := hs45.keep [0, 1, 2, 3, 4, 6] [_, _, _, _, _, _] rfl; clear hs45
   refine sq rfl (st_assign hs46 (.const _) rfl rfl fun _ _ hs47 => ?_); clear hs46
   refine hK34 _ _ ?_; clear hK34
   have hs48 := hs47.keep [0, 1, 6] [_, _, _] rfl; clear hs47
   obtain ⟨zc, hzc⟩ : ∃ z, chooseN ⟨-b.err, b.err⟩ (pickN xs 1) = z := ⟨_, rfl⟩
   have hbc : -b.err ≤ zc ∧ zc ≤ b.err := by rw [← hzc]; exact choose_in (s := ⟨-b.err, b.err⟩) (by simp only; omega) _
   have htr := tak_range hO (xs := g.l) (by omega) hgc
   exact cd_ret (vs := [.agg ⟨[.slice A n cp, .slice A2 n2 c2, .int .i64 (max 0 (min 60000 ((tak b.rolls g.l) + (chooseN ⟨-b.err, b.err⟩ (pickN xs 1))))), .int .i64 b.err, .int .i64 b.duty, .int .i64 b.share, .int .i64 b.guar]⟩, .slice g.A g.l.length g.c, .bool true]) (bs := [(g.b, g.o)]) hs48 hQ0 rfl ⟨resA (o := 0) (off := 0) (vs := [.slice A n cp, .slice A2 n2 c2, .int .i64 (max 0 (min 60000 ((tak b.rolls g.l) + (chooseN ⟨-b.err, b.err⟩ (pickN xs 1))))), .int .i64 b.err, .int .i64 b.duty, .int .i64 b.share, .int .i64 b.guar]) 2 rfl isAgg25 sizeOf25 (hs48.cells 2 rfl) rfl, .tmp 1 rfl, .tmp 0 rfl, trivial⟩ (.cons _ (.cons_cons _ (List.nil_sublist _))) ⟨g.A, g.c, g.b, g.o, g.l, max 0 (min 60000 ((tak b.rolls g.l) + (chooseN ⟨-b.err, b.err⟩ (pickN xs 1)))), true, rfl, rfl, hown, fun _ => ⟨by omega, hgc, by omega, by rw [right_far]; show max (tak b.rolls g.l - (max 0 (min 60000 ((tak b.rolls g.l) + (chooseN ⟨-b.err, b.err⟩ (pickN xs 1)))))) ((max 0 (min 60000 ((tak b.rolls g.l) + (chooseN ⟨-b.err, b.err⟩ (pickN xs 1))))) - tak b.rolls g.l) ≤ b.err; omega⟩⟩
end Go.Proofs.YtcnndpedeofbmaaDoor
