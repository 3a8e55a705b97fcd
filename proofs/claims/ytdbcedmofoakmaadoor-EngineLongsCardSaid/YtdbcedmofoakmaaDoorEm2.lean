/- The reference of the engine: can, longer, Parts, Longer, Coal. -/
import Derived.Test.YtdbcedmofoakmaaDoorEl
import Derived.Test.YtdbcedmofoakmaaDoorEn
set_option maxRecDepth 100000
namespace Go.Proofs.YtdbcedmofoakmaaDoor
open Go Go.Sx Go.Eng
/-- The contract of 'can' at part i. -/
def canOk (b : Book) (A : Option Addr) (n cp i : Nat) : Prop := ∀ (cl ch vl vh : Int) (w : World), PartsAt w A n b.parts → (-1000000 * (i : Int) ≤ cl ∧ cl ≤ 1000 ∧ -1000000 * (i : Int) ≤ vl ∧ vl ≤ 1000) → (-1000000 * (i : Int) ≤ ch ∧ ch ≤ 1000 ∧ -1000000 * (i : Int) ≤ vh ∧ vh ≤ 1000) →
  CallsV Tryd.prog 63 [.agg ⟨bookL b A n cp⟩, .agg ⟨[.int .i64 cl, .int .i64 ch, .int .i64 vl, .int .i64 vh]⟩, .int .i64 (i : Int)] w (.bool (b.canL (b.parts.drop i) cl vl))

theorem can_step (b : Book) (A : Option Addr) (n cp : Nat) (i : Nat) (hi : i ≤ b.parts.length) (hb : Bd b) (hn : n ≤ 140737488351232) (ih0 : i < b.parts.length → canOk b A n cp (i + 1)) :
    canOk b A n cp i := by
 intro cl ch vl vh w hP hc hv
 have hl2 := hP.len
 refine enter (N := 60) (M := []) w Tryd.func63 rfl rfl rfl (fun Q0 a_0 hQ0 hN0 hs0 => ?_)
 refine cd_region fun K1 hK1 => ?_
 refine sq rfl (st_box hs0 (Ev.t 0 rfl) rfl rfl rfl fun b2 _ _ hs1 => ?_); clear hs0
 refine sq rfl (st_box hs1 (Ev.t 2 rfl) rfl rfl rfl fun b3 _ _ hs2 => ?_); clear hs1
 refine sq rfl (st_assign hs2 (.const _) rfl rfl fun _ _ hs3 => ?_); clear hs2
 refine hK1 _ _ ?_; clear hK1
 have hs4 := Sx.keepT [0, 1, 2, 5] [_, _, _, _] ⟨rfl, rfl, rfl, rfl, trivial⟩ hs3; clear hs3
 refine cd_seq fun K4 hK4 => ?_
 refine cd_region fun K5 hK5 => ?_
 refine sq rfl (st_move hs4 (Ev.t 3 rfl) rfl rfl fun _ _ hs5 => ?_); clear hs4
 refine sq rfl (st_field (o' := 22) hs5 (Ev.t 3 rfl) rfl rfl Tryd.runUnderlying27 rfl Tryd.sizeOf25 rfl rfl fun _ _ hs6 => ?_); clear hs5
 refine sq rfl (st_load1 (o := 0) (off := 22) (v := .slice A n cp) hs6 (Ev.t 0 rfl) rfl rfl Tryd.isAgg25 (hs6.cells 1 rfl) rfl fun _ _ hs7 => ?_); clear hs6
 refine sq rfl (st_len hs7 (Ev.t 0 rfl) rfl rfl Tryd.runUnderlying25 fun _ _ hs8 => ?_); clear hs7
 refine sq rfl (st_cmp (c := ((i : Int) : Int) == (n : Int)) hs8 (Ev.t 3 rfl) (Ev.t 0 rfl) rfl rfl rfl rfl fun _ _ hs9 => ?_); clear hs8
 refine hK5 _ _ ?_; clear hK5
 have hs10 := Sx.keepT [0, 5, 6, 7, 8] [_, _, _, _, _] ⟨rfl, rfl, rfl, rfl, rfl, trivial⟩ hs9; clear hs9
 refine cd_cond hs10 (Ev.t 0 rfl) (fun hc6 => ?_) (fun hc6 => ?_)
 · have hin : b.parts.length ≤ i := by simp at hc6; omega
   refine cd_region fun K7 hK7 => ?_
   have hs11 := Sx.keepT [0, 2, 3, 4] [_, _, _, _] ⟨rfl, rfl, rfl, rfl, trivial⟩ hs10; clear hs10
   refine sq rfl (st_assign hs11 (.const _) rfl rfl fun _ _ hs12 => ?_); clear hs11
   refine hK7 _ _ ?_; clear hK7
   have hs13 := Sx.keepT [0] [_] ⟨rfl, trivial⟩ hs12; clear hs12
   refine cd_retv (vs := [.bool true]) hs13 (fun a_ w_ h => th_ret (hQ0 a_ w_ h)) rfl ⟨.tmp 0 rfl, trivial⟩ ?_
   clear hs13 hQ0 hN0 hK4
   first | (rw [canL_nil hin]; rfl) | (rw [hF]; simp [pack]; done) | (rw [hF]; rfl)
 · have hil : i < b.parts.length := by simp at hc6; omega
   have ih := ih0 hil
   obtain ⟨x8, hx8⟩ : ∃ x, b.parts[i]? = some x := ⟨_, List.getElem?_eq_getElem (by have := hP.len; omega)⟩
   obtain ⟨b9, o9, hA9, -, hc9⟩ := hP.el i x8 hx8
   have hxw := (hb.parts i x8 hx8).2
   have hxy := (hb.parts i x8 hx8).1
   have hlen100 := hb.len
   have hr := hb.room
   have hwt : (x8.walks.toNat : Int) = x8.walks := Int.toNat_of_nonneg hxw.1
   rw [canL_drop hx8] at hQ0
   refine cd_skip ?_
   refine th_norm (hK4 _ _ ?_)
   refine cd_seq fun K10 hK10 => ?_
   refine cd_region fun K11 hK11 => ?_
   refine sq rfl (st_assign hs10 (.const _) rfl rfl fun _ _ hs11 => ?_); clear hs10
   refine hK11 _ _ ?_; clear hK11
   have hs12 := Sx.keepT [0, 2, 3, 4, 5] [_, _, _, _, _] ⟨rfl, rfl, rfl, rfl, rfl, trivial⟩ hs11; clear hs11
   refine cd_block ?_
   have hs13 : Sx 60 [] [(7, .int .i64 (0 : Int)), (6, .bool false), (4, .pointer (some ⟨b3, 0, none⟩)), (3, .pointer (some ⟨b2, 0, none⟩)), (2, .int .i64 (i : Int))] [(b3, some (.cells ⟨[.int .i64 cl, .int .i64 ch, .int .i64 vl, .int .i64 vh]⟩ 82 (0, 0))), (b2, some (.cells ⟨(bookL b A n cp)⟩ 27 (0, 0)))] [] w _ _ := Sx.keepE [0, 1, 2, 3, 4] _ ⟨⟨_, rfl, rfl⟩, ⟨_, rfl, rfl⟩, ⟨_, rfl, rfl⟩, ⟨_, rfl, rfl⟩, ⟨_, rfl, rfl⟩, trivial⟩ hs12; clear hs12
   refine cd_loop (X := Nat) (fun j a_ w_ => (j ≤ x8.walks.toNat + 1) ∧ (first (b.tryC x8 (b.canL (b.parts.drop (i + 1))) cl vl) (x8.walks.toNat + 1) 0 = first (b.tryC x8 (b.canL (b.parts.drop (i + 1))) cl vl) (x8.walks.toNat + 1 - j) j) ∧ Sx 60 [] [(7, .int .i64 (j : Int)), (6, .bool false), (4, .pointer (some ⟨b3, 0, none⟩)), (3, .pointer (some ⟨b2, 0, none⟩)), (2, .int .i64 (i : Int))] [(b3, some (.cells ⟨[.int .i64 cl, .int .i64 ch, .int .i64 vl, .int .i64 vh]⟩ 82 (0, 0))), (b2, some (.cells ⟨(bookL b A n cp)⟩ 27 (0, 0)))] [] w a_ w_) (fun j => x8.walks.toNat + 1 - j) (0) ⟨?_, ?_, hs13⟩ ?_
   · exact Nat.zero_le _
   · rfl
   intro j a_14 w_14 ⟨hj, hf, hs14⟩; clear hs13
   refine cd_seq fun K12 hK12 => ?_
   refine cd_region fun K13 hK13 => ?_
   refine sq rfl (st_move hs14 (Ev.t 0 rfl) rfl rfl fun _ _ hs15 => ?_); clear hs14
   refine sq rfl (st_field (o' := 22) hs15 (Ev.t 4 rfl) rfl rfl Tryd.runUnderlying27 rfl Tryd.sizeOf25 rfl rfl fun _ _ hs16 => ?_); clear hs15
   refine sq rfl (st_load1 (o := 0) (off := 22) (v := .slice A n cp) hs16 (Ev.t 0 rfl) rfl rfl Tryd.isAgg25 (hs16.cells 1 rfl) rfl fun _ _ hs17 => ?_); clear hs16
   refine sq rfl (st_move hs17 (Ev.t 7 rfl) rfl rfl fun _ _ hs18 => ?_); clear hs17
   refine sq rfl (st_indexM (o' := o9 + i * 4) hs18 (Ev.t 1 rfl) (Ev.t 0 rfl) rfl rfl hA9 Tryd.runUnderlying25 Tryd.sizeOf66 ⟨by omega, by have := hP.len; have := (List.getElem?_eq_some_iff.1 hx8).1; omega⟩ rfl fun _ _ hs19 => ?_); clear hs18
   refine sq rfl (st_field (o' := o9 + i * 4 + 3) hs19 (Ev.t 0 rfl) rfl rfl Tryd.runUnderlying66 rfl Tryd.sizeOf3 rfl rfl fun _ _ hs20 => ?_); clear hs19
   refine sq rfl (st_load1 (o := o9 + i * 4) (off := 3) (v := .int .i64 x8.walks) hs20 (Ev.t 0 rfl) rfl rfl Tryd.isAgg3 (hs20.old hc9 (by simp)) rfl fun _ _ hs21 => ?_); clear hs20
   refine sq rfl (st_cmp (c := decide (((j : Int) : Int) ≤ x8.walks)) hs21 (Ev.t 6 rfl) (Ev.t 0 rfl) rfl rfl rfl rfl fun _ _ hs22 => ?_); clear hs21
   refine hK13 _ _ ?_; clear hK13
   have hs23 := Sx.keepT [0, 8, 9, 10, 11, 12] [_, _, _, _, _, _] ⟨rfl, rfl, rfl, rfl, rfl, rfl, trivial⟩ hs22; clear hs22
   refine cd_cond hs23 (Ev.t 0 rfl) (fun hc14 => ?_) (fun hc14 => ?_)
   · have hjn : j < x8.walks.toNat + 1 := by simp at hc14; omega
     have hwy : 0 ≤ (Walks.mk (j : Int) (x8.walks - (j : Int))).c ∧ (Walks.mk (j : Int) (x8.walks - (j : Int))).c ≤ 1000 ∧ 0 ≤ (Walks.mk (j : Int) (x8.walks - (j : Int))).w ∧ (Walks.mk (j : Int) (x8.walks - (j : Int))).w ≤ 1000 := ⟨by simp only; omega, by simp only; omega, by simp only; omega, by simp only; omega⟩
     have m1 := mulbd ⟨hwy.1, hwy.2.1⟩ ⟨hb.load.1, hb.load.2.1⟩
     have m2 := mulbd ⟨hwy.2.2.1, hwy.2.2.2⟩ hb.load.2.2
     have hab1 := after_bd hb hx8 hwy false cl vl
     have hab2 := after_bd hb hx8 hwy true ch vh
     simp only [Book.afterC, Book.afterW, Span.end, Bool.not_false, Bool.not_true, if_true, if_false, Bool.false_eq_true] at hab1 hab2
     simp only at m1 m2
     refine cd_skip ?_
     refine th_norm (hK12 _ _ ?_)
     refine cd_seq fun K15 hK15 => ?_
     refine cd_block ?_
     refine cd_drawn mixed hs23 [⟨24, [], Is (.agg ⟨(bookL b A n cp)⟩)⟩,
      ⟨25, [], Is (.agg ⟨(bookL b A n cp)⟩)⟩,
      ⟨26, [], Is (.agg ⟨[.int .i64 cl, .int .i64 ch, .int .i64 vl, .int .i64 vh]⟩)⟩,
      ⟨27, [], Is (.int .i64 (j : Int))⟩,
      ⟨28, [], Is (.pointer (some ⟨b2, 22, none⟩))⟩,
      ⟨29, [4], Is (.slice A n cp)⟩,
      ⟨30, [], Is (.int .i64 (i : Int))⟩,
      ⟨31, [5, 6], Is (.pointer (some ⟨b9, o9 + i * 4, none⟩))⟩,
      ⟨32, [7], Is (.pointer (some ⟨b9, o9 + i * 4 + 3, none⟩))⟩,
      ⟨33, [8], Is (.int .i64 x8.walks)⟩,
      ⟨34, [], Is (.int .i64 (j : Int))⟩,
      ⟨35, [9, 10], Is (.int .i64 (x8.walks - (j : Int)))⟩,
      ⟨36, [3, 11], Is (.agg ⟨[.int .i64 (j : Int), .int .i64 (x8.walks - (j : Int))]⟩)⟩,
      ⟨37, [1, 2, 12], Is (.agg ⟨[.int .i64 (min b.bunker (cl + (j : Int) * b.scoop)), .int .i64 (min b.bunker (ch + (j : Int) * b.scoop)), .int .i64 (min b.tank (vl + (x8.walks - (j : Int)) * b.pail)), .int .i64 (min b.tank (vh + (x8.walks - (j : Int)) * b.pail))]⟩)⟩,
      ⟨38, [], Is (.pointer (some ⟨b2, 22, none⟩))⟩,
      ⟨39, [14], Is (.slice A n cp)⟩,
      ⟨40, [], Is (.int .i64 (i : Int))⟩,
      ⟨41, [15, 16], Is (.pointer (some ⟨b9, o9 + i * 4, none⟩))⟩,
      ⟨42, [17], Is (.agg ⟨(partL x8)⟩)⟩,
      ⟨43, [0, 13, 18], Is (.agg ⟨[.int .i64 ((min b.bunker (cl + (j : Int) * b.scoop)) - x8.mi.hi * (b.burn x8.light).hi), .int .i64 ((min b.bunker (ch + (j : Int) * b.scoop)) - x8.mi.lo * (b.burn x8.light).lo), .int .i64 ((min b.tank (vl + (x8.walks - (j : Int)) * b.pail)) - x8.mi.hi * (b.drink x8.light).hi), .int .i64 ((min b.tank (vh + (x8.walks - (j : Int)) * b.pail)) - x8.mi.lo * (b.drink x8.light).lo)]⟩)⟩,
      ⟨8, [], fun v_ bs_ => ∃ b17, v_ = .pointer (some ⟨b17, 0, none⟩) ∧ bs_ = [(b17, some (.cells ⟨[.int .i64 0, .int .i64 0, .int .i64 0, .int .i64 0]⟩ 82 (0, 0)))]⟩] (by kernel_rfl) (by kernel_rfl) fun K16 hK16 => ⟨⟨?_, ?_, ?_, ?_, ?_, ?_, ?_, ?_, ?_, ?_, ?_, ?_, ?_, ?_, ?_, ?_, ?_, ?_, ?_, ?_, ?_, trivial⟩, ?_⟩
     · intro T_ B_ a_ w_ K_ hT hB
       intro hf hsD hk
       exact ob rfl rfl (st_loadA (o := 0) (off := 0) (vs := (bookL b A n cp)) hsD (Ev.tmp (hT _ (mem_nth (i := 4) rfl))) rfl hf Tryd.isAgg27 Tryd.sizeOf27 (hsD.cellsM (hB _ (mem_nth (i := 1) rfl))) rfl fun a_1 w_1 h1 => hk _ _ _ _ ⟨rfl, rfl⟩ h1)
     · intro T_ B_ a_ w_ K_ hT hB
       intro hf hsD hk
       exact ob rfl rfl (st_loadA (o := 0) (off := 0) (vs := (bookL b A n cp)) hsD (Ev.tmp (hT _ (mem_nth (i := 4) rfl))) rfl hf Tryd.isAgg27 Tryd.sizeOf27 (hsD.cellsM (hB _ (mem_nth (i := 1) rfl))) rfl fun a_1 w_1 h1 => hk _ _ _ _ ⟨rfl, rfl⟩ h1)
     · intro T_ B_ a_ w_ K_ hT hB
       intro hf hsD hk
       exact ob rfl rfl (st_loadA (o := 0) (off := 0) (vs := [.int .i64 cl, .int .i64 ch, .int .i64 vl, .int .i64 vh]) hsD (Ev.tmp (hT _ (mem_nth (i := 3) rfl))) rfl hf Tryd.isAgg82 Tryd.sizeOf82 (hsD.cellsM (hB _ (mem_nth (i := 0) rfl))) rfl fun a_1 w_1 h1 => hk _ _ _ _ ⟨rfl, rfl⟩ h1)
     · intro T_ B_ a_ w_ K_ hT hB
       intro hf hsD hk
       exact ob rfl rfl (st_move hsD (Ev.tmp (hT _ (mem_nth (i := 1) rfl))) rfl hf fun a_1 w_1 h1 => hk _ _ _ _ ⟨rfl, rfl⟩ h1)
     · intro T_ B_ a_ w_ K_ hT hB
       intro hf hsD hk
       exact ob rfl rfl (st_field (o' := 22) hsD (Ev.tmp (hT _ (mem_nth (i := 4) rfl))) rfl hf Tryd.runUnderlying27 rfl Tryd.sizeOf25 rfl rfl fun a_1 w_1 h1 => hk _ _ _ _ ⟨rfl, rfl⟩ h1)
     · intro T_ B_ a_ w_ K_ hT hB
       rintro _ _ ⟨rfl, rfl⟩ h28 -
       intro hf hsD hk
       exact ob rfl rfl (st_load1 (o := 0) (off := 22) (v := .slice A n cp) hsD (Ev.tmp h28) rfl hf Tryd.isAgg25 (hsD.cellsM (hB _ (mem_nth (i := 1) rfl))) rfl fun a_1 w_1 h1 => hk _ _ _ _ ⟨rfl, rfl⟩ h1)
     · intro T_ B_ a_ w_ K_ hT hB
       intro hf hsD hk
       exact ob rfl rfl (st_move hsD (Ev.tmp (hT _ (mem_nth (i := 5) rfl))) rfl hf fun a_1 w_1 h1 => hk _ _ _ _ ⟨rfl, rfl⟩ h1)
     · intro T_ B_ a_ w_ K_ hT hB
       rintro _ _ ⟨rfl, rfl⟩ h29 -
       rintro _ _ ⟨rfl, rfl⟩ h30 -
       intro hf hsD hk
       exact ob rfl rfl (st_indexM (o' := o9 + i * 4) hsD (Ev.tmp h29) (Ev.tmp h30) rfl hf hA9 Tryd.runUnderlying25 Tryd.sizeOf66 ⟨by omega, by have := hP.len; have := (List.getElem?_eq_some_iff.1 hx8).1; omega⟩ rfl fun a_1 w_1 h1 => hk _ _ _ _ ⟨rfl, rfl⟩ h1)
     · intro T_ B_ a_ w_ K_ hT hB
       rintro _ _ ⟨rfl, rfl⟩ h31 -
       intro hf hsD hk
       exact ob rfl rfl (st_field (o' := o9 + i * 4 + 3) hsD (Ev.tmp h31) rfl hf Tryd.runUnderlying66 rfl Tryd.sizeOf3 rfl rfl fun a_1 w_1 h1 => hk _ _ _ _ ⟨rfl, rfl⟩ h1)
     · intro T_ B_ a_ w_ K_ hT hB
       rintro _ _ ⟨rfl, rfl⟩ h32 -
       intro hf hsD hk
       exact ob rfl rfl (st_load1 (o := o9 + i * 4) (off := 3) (v := .int .i64 x8.walks) hsD (Ev.tmp h32) rfl hf Tryd.isAgg3 (hsD.old hc9 (by simp)) rfl fun a_1 w_1 h1 => hk _ _ _ _ ⟨rfl, rfl⟩ h1)
     · intro T_ B_ a_ w_ K_ hT hB
       intro hf hsD hk
       exact ob rfl rfl (st_move hsD (Ev.tmp (hT _ (mem_nth (i := 1) rfl))) rfl hf fun a_1 w_1 h1 => hk _ _ _ _ ⟨rfl, rfl⟩ h1)
     · intro T_ B_ a_ w_ K_ hT hB
       rintro _ _ ⟨rfl, rfl⟩ h33 -
       rintro _ _ ⟨rfl, rfl⟩ h34 -
       intro hf hsD hk
       exact ob rfl rfl (st_sub (z := x8.walks - (j : Int)) hsD (Ev.tmp h33) (Ev.tmp h34) rfl hf rfl (by omega) fun a_1 w_1 h1 => hk _ _ _ _ ⟨rfl, rfl⟩ h1)
     · intro T_ B_ a_ w_ K_ hT hB
       rintro _ _ ⟨rfl, rfl⟩ h27 -
       rintro _ _ ⟨rfl, rfl⟩ h35 -
       intro hf hsD hk
       exact ob rfl rfl (st_build hsD (qs := [(0, .int .i64 (j : Int)), (1, .int .i64 (x8.walks - (j : Int)))]) (v := .agg ⟨[.int .i64 (j : Int), .int .i64 (x8.walks - (j : Int))]⟩) ⟨(Ev.tmp h27), (Ev.tmp h35), trivial⟩ rfl hf rfl (fun _ => by kernel_rfl) fun a_1 w_1 h1 => hk _ _ _ _ ⟨rfl, rfl⟩ h1)
     · intro T_ B_ a_ w_ K_ hT hB
       rintro _ _ ⟨rfl, rfl⟩ h25 -
       rintro _ _ ⟨rfl, rfl⟩ h26 -
       rintro _ _ ⟨rfl, rfl⟩ h36 -
       intro hf hsD hk
       exact ob rfl rfl (st_callv (vs := [.agg ⟨(bookL b A n cp)⟩, .agg ⟨[.int .i64 cl, .int .i64 ch, .int .i64 vl, .int .i64 vh]⟩, .agg ⟨[.int .i64 (j : Int), .int .i64 (x8.walks - (j : Int))]⟩]) hsD (.func _) ⟨(Ev.tmp h25), (Ev.tmp h26), (Ev.tmp h36), trivial⟩ rfl hf Tryd.call57 rfl (brought_v b A n cp (Walks.mk (j : Int) (x8.walks - (j : Int))) cl ch vl vh _ hb hwy (by omega) (by omega)) fun a_1 w_1 h1 => hk _ _ _ _ ⟨rfl, rfl⟩ h1)
     · intro T_ B_ a_ w_ K_ hT hB
       intro hf hsD hk
       exact ob rfl rfl (st_field (o' := 22) hsD (Ev.tmp (hT _ (mem_nth (i := 4) rfl))) rfl hf Tryd.runUnderlying27 rfl Tryd.sizeOf25 rfl rfl fun a_1 w_1 h1 => hk _ _ _ _ ⟨rfl, rfl⟩ h1)
     · intro T_ B_ a_ w_ K_ hT hB
       rintro _ _ ⟨rfl, rfl⟩ h38 -
       intro hf hsD hk
       exact ob rfl rfl (st_load1 (o := 0) (off := 22) (v := .slice A n cp) hsD (Ev.tmp h38) rfl hf Tryd.isAgg25 (hsD.cellsM (hB _ (mem_nth (i := 1) rfl))) rfl fun a_1 w_1 h1 => hk _ _ _ _ ⟨rfl, rfl⟩ h1)
     · intro T_ B_ a_ w_ K_ hT hB
       intro hf hsD hk
       exact ob rfl rfl (st_move hsD (Ev.tmp (hT _ (mem_nth (i := 5) rfl))) rfl hf fun a_1 w_1 h1 => hk _ _ _ _ ⟨rfl, rfl⟩ h1)
     · intro T_ B_ a_ w_ K_ hT hB
       rintro _ _ ⟨rfl, rfl⟩ h39 -
       rintro _ _ ⟨rfl, rfl⟩ h40 -
       intro hf hsD hk
       exact ob rfl rfl (st_indexM (o' := o9 + i * 4) hsD (Ev.tmp h39) (Ev.tmp h40) rfl hf hA9 Tryd.runUnderlying25 Tryd.sizeOf66 ⟨by omega, by have := hP.len; have := (List.getElem?_eq_some_iff.1 hx8).1; omega⟩ rfl fun a_1 w_1 h1 => hk _ _ _ _ ⟨rfl, rfl⟩ h1)
     · intro T_ B_ a_ w_ K_ hT hB
       rintro _ _ ⟨rfl, rfl⟩ h41 -
       intro hf hsD hk
       exact ob rfl rfl (st_loadA (o := o9 + i * 4) (off := 0) (vs := (partL x8)) hsD (Ev.tmp h41) rfl hf Tryd.isAgg66 Tryd.sizeOf66 (hsD.old hc9 (by simp)) rfl fun a_1 w_1 h1 => hk _ _ _ _ ⟨rfl, rfl⟩ h1)
     · intro T_ B_ a_ w_ K_ hT hB
       rintro _ _ ⟨rfl, rfl⟩ h24 -
       rintro _ _ ⟨rfl, rfl⟩ h37 -
       rintro _ _ ⟨rfl, rfl⟩ h42 -
       intro hf hsD hk
       exact ob rfl rfl (st_callv (vs := [.agg ⟨(bookL b A n cp)⟩, .agg ⟨[.int .i64 (min b.bunker (cl + (j : Int) * b.scoop)), .int .i64 (min b.bunker (ch + (j : Int) * b.scoop)), .int .i64 (min b.tank (vl + (x8.walks - (j : Int)) * b.pail)), .int .i64 (min b.tank (vh + (x8.walks - (j : Int)) * b.pail))]⟩, .agg ⟨(partL x8)⟩]) hsD (.func _) ⟨(Ev.tmp h24), (Ev.tmp h37), (Ev.tmp h42), trivial⟩ rfl hf Tryd.call56 rfl (worked_v b A n cp x8 (min b.bunker (cl + (j : Int) * b.scoop)) (min b.bunker (ch + (j : Int) * b.scoop)) (min b.tank (vl + (x8.walks - (j : Int)) * b.pail)) (min b.tank (vh + (x8.walks - (j : Int)) * b.pail)) _ hb hxy (by omega) (by omega)) fun a_1 w_1 h1 => hk _ _ _ _ ⟨rfl, rfl⟩ h1)
     · intro T_ B_ a_ w_ K_ hT hB
       intro hf hsD hk
       exact ob rfl rfl (st_alloc hsD rfl hf Tryd.zeroValue82 rfl fun b17 a_1 w_1 h1 => hk _ _ _ _ ⟨b17, rfl, rfl⟩ h1)
     rintro _ _ ⟨rfl, rfl⟩
     rintro _ _ ⟨rfl, rfl⟩
     rintro _ _ ⟨rfl, rfl⟩
     rintro _ _ ⟨rfl, rfl⟩
     rintro _ _ ⟨rfl, rfl⟩
     rintro _ _ ⟨rfl, rfl⟩
     rintro _ _ ⟨rfl, rfl⟩
     rintro _ _ ⟨rfl, rfl⟩
     rintro _ _ ⟨rfl, rfl⟩
     rintro _ _ ⟨rfl, rfl⟩
     rintro _ _ ⟨rfl, rfl⟩
     rintro _ _ ⟨rfl, rfl⟩
     rintro _ _ ⟨rfl, rfl⟩
     rintro _ _ ⟨rfl, rfl⟩
     rintro _ _ ⟨rfl, rfl⟩
     rintro _ _ ⟨rfl, rfl⟩
     rintro _ _ ⟨rfl, rfl⟩
     rintro _ _ ⟨rfl, rfl⟩
     rintro _ _ ⟨rfl, rfl⟩
     rintro _ _ ⟨rfl, rfl⟩
     rintro _ _ ⟨b17, rfl, rfl⟩
     intro a_24 w_24 hs24
     clear hs23
     have hs25 := Sx.as (T' := [_, _, _, _, _, _, _, _, _, _, _, _, _, _, _, _, _, _, _, _, _, _, _, _, _, _, _]) (B' := [_, _, _]) rfl rfl hs24; clear hs24
     refine sq rfl (st_store (l' := [.int .i64 ((min b.bunker (cl + (j : Int) * b.scoop)) - x8.mi.hi * (b.burn x8.light).hi), .int .i64 ((min b.bunker (ch + (j : Int) * b.scoop)) - x8.mi.lo * (b.burn x8.light).lo), .int .i64 ((min b.tank (vl + (x8.walks - (j : Int)) * b.pail)) - x8.mi.hi * (b.drink x8.light).hi), .int .i64 ((min b.tank (vh + (x8.walks - (j : Int)) * b.pail)) - x8.mi.lo * (b.drink x8.light).lo)]) (vs := [.int .i64 ((min b.bunker (cl + (j : Int) * b.scoop)) - x8.mi.hi * (b.burn x8.light).hi), .int .i64 ((min b.bunker (ch + (j : Int) * b.scoop)) - x8.mi.lo * (b.burn x8.light).lo), .int .i64 ((min b.tank (vl + (x8.walks - (j : Int)) * b.pail)) - x8.mi.hi * (b.drink x8.light).hi), .int .i64 ((min b.tank (vh + (x8.walks - (j : Int)) * b.pail)) - x8.mi.lo * (b.drink x8.light).lo)]) (i := 0) hs25 (Ev.t 20 rfl) (Ev.t 19 rfl) Tryd.sizeOf82 rfl rfl rfl rfl rfl rfl fun _ _ hs26 => ?_); clear hs25
     have hs27 := Sx.as (T' := [_, _, _, _, _, _, _, _, _, _, _, _, _, _, _, _, _, _, _, _, _, _, _, _, _, _, _]) (B' := [_, _, _]) rfl rfl hs26; clear hs26
     refine hK16 _ _ ?_; clear hK16
     have hs28 := Sx.keepT [20, 22, 23, 24, 25, 26] [_, _, _, _, _, _] ⟨rfl, rfl, rfl, rfl, rfl, rfl, trivial⟩ hs27; clear hs27
     refine cd_drawn mixed hs28 [⟨44, [], Is (.agg ⟨(bookL b A n cp)⟩)⟩,
      ⟨45, [], Is (.agg ⟨[.int .i64 ((min b.bunker (cl + (j : Int) * b.scoop)) - x8.mi.hi * (b.burn x8.light).hi), .int .i64 ((min b.bunker (ch + (j : Int) * b.scoop)) - x8.mi.lo * (b.burn x8.light).lo), .int .i64 ((min b.tank (vl + (x8.walks - (j : Int)) * b.pail)) - x8.mi.hi * (b.drink x8.light).hi), .int .i64 ((min b.tank (vh + (x8.walks - (j : Int)) * b.pail)) - x8.mi.lo * (b.drink x8.light).lo)]⟩)⟩,
      ⟨46, [], Is (.pointer (some ⟨b2, 22, none⟩))⟩,
      ⟨47, [2], Is (.slice A n cp)⟩,
      ⟨48, [], Is (.int .i64 (i : Int))⟩,
      ⟨49, [3, 4], Is (.pointer (some ⟨b9, o9 + i * 4, none⟩))⟩,
      ⟨50, [5], Is (.agg ⟨(partL x8)⟩)⟩,
      ⟨51, [0, 1, 6], Is (.bool (b.may x8 ((min b.bunker (cl + (j : Int) * b.scoop)) - x8.mi.hi * (b.burn x8.light).hi) ((min b.tank (vl + (x8.walks - (j : Int)) * b.pail)) - x8.mi.hi * (b.drink x8.light).hi)))⟩,
      ⟨52, [7], Is (.bool (!(b.may x8 ((min b.bunker (cl + (j : Int) * b.scoop)) - x8.mi.hi * (b.burn x8.light).hi) ((min b.tank (vl + (x8.walks - (j : Int)) * b.pail)) - x8.mi.hi * (b.drink x8.light).hi))))⟩,
      ⟨53, [8], Is (.bool (!(b.may x8 ((min b.bunker (cl + (j : Int) * b.scoop)) - x8.mi.hi * (b.burn x8.light).hi) ((min b.tank (vl + (x8.walks - (j : Int)) * b.pail)) - x8.mi.hi * (b.drink x8.light).hi))))⟩,
      ⟨54, [9], Is (Gv (!(b.may x8 ((min b.bunker (cl + (j : Int) * b.scoop)) - x8.mi.hi * (b.burn x8.light).hi) ((min b.tank (vl + (x8.walks - (j : Int)) * b.pail)) - x8.mi.hi * (b.drink x8.light).hi))) (.agg ⟨(bookL b A n cp)⟩))⟩,
      ⟨55, [9], Is (Gv (!(b.may x8 ((min b.bunker (cl + (j : Int) * b.scoop)) - x8.mi.hi * (b.burn x8.light).hi) ((min b.tank (vl + (x8.walks - (j : Int)) * b.pail)) - x8.mi.hi * (b.drink x8.light).hi))) (.agg ⟨[.int .i64 ((min b.bunker (cl + (j : Int) * b.scoop)) - x8.mi.hi * (b.burn x8.light).hi), .int .i64 ((min b.bunker (ch + (j : Int) * b.scoop)) - x8.mi.lo * (b.burn x8.light).lo), .int .i64 ((min b.tank (vl + (x8.walks - (j : Int)) * b.pail)) - x8.mi.hi * (b.drink x8.light).hi), .int .i64 ((min b.tank (vh + (x8.walks - (j : Int)) * b.pail)) - x8.mi.lo * (b.drink x8.light).lo)]⟩))⟩,
      ⟨56, [9], Is (Gv (!(b.may x8 ((min b.bunker (cl + (j : Int) * b.scoop)) - x8.mi.hi * (b.burn x8.light).hi) ((min b.tank (vl + (x8.walks - (j : Int)) * b.pail)) - x8.mi.hi * (b.drink x8.light).hi))) (.int .i64 (i : Int)))⟩,
      ⟨57, [9, 12], Is (Gv (!(b.may x8 ((min b.bunker (cl + (j : Int) * b.scoop)) - x8.mi.hi * (b.burn x8.light).hi) ((min b.tank (vl + (x8.walks - (j : Int)) * b.pail)) - x8.mi.hi * (b.drink x8.light).hi))) (.int .i64 ((i : Int) + 1)))⟩,
      ⟨58, [9, 10, 11, 13], Is (Gv (!(b.may x8 ((min b.bunker (cl + (j : Int) * b.scoop)) - x8.mi.hi * (b.burn x8.light).hi) ((min b.tank (vl + (x8.walks - (j : Int)) * b.pail)) - x8.mi.hi * (b.drink x8.light).hi))) (.bool (b.canL (b.parts.drop (i + 1)) ((min b.bunker (cl + (j : Int) * b.scoop)) - x8.mi.hi * (b.burn x8.light).hi) ((min b.tank (vl + (x8.walks - (j : Int)) * b.pail)) - x8.mi.hi * (b.drink x8.light).hi))))⟩,
      ⟨59, [9, 14], Is (.bool ((!(b.may x8 ((min b.bunker (cl + (j : Int) * b.scoop)) - x8.mi.hi * (b.burn x8.light).hi) ((min b.tank (vl + (x8.walks - (j : Int)) * b.pail)) - x8.mi.hi * (b.drink x8.light).hi))) && (b.canL (b.parts.drop (i + 1)) ((min b.bunker (cl + (j : Int) * b.scoop)) - x8.mi.hi * (b.burn x8.light).hi) ((min b.tank (vl + (x8.walks - (j : Int)) * b.pail)) - x8.mi.hi * (b.drink x8.light).hi))))⟩] (by kernel_rfl) (by kernel_rfl) fun K18 hK18 => ⟨⟨?_, ?_, ?_, ?_, ?_, ?_, ?_, ?_, ?_, ?_, ?_, ?_, ?_, ?_, ?_, ?_, trivial⟩, ?_⟩
     · intro T_ B_ a_ w_ K_ hT hB
       intro hf hsD hk
       exact ob rfl rfl (st_loadA (o := 0) (off := 0) (vs := (bookL b A n cp)) hsD (Ev.tmp (hT _ (mem_nth (i := 4) rfl))) rfl hf Tryd.isAgg27 Tryd.sizeOf27 (hsD.cellsM (hB _ (mem_nth (i := 2) rfl))) rfl fun a_1 w_1 h1 => hk _ _ _ _ ⟨rfl, rfl⟩ h1)
     · intro T_ B_ a_ w_ K_ hT hB
       intro hf hsD hk
       exact ob rfl rfl (st_loadA (o := 0) (off := 0) (vs := [.int .i64 ((min b.bunker (cl + (j : Int) * b.scoop)) - x8.mi.hi * (b.burn x8.light).hi), .int .i64 ((min b.bunker (ch + (j : Int) * b.scoop)) - x8.mi.lo * (b.burn x8.light).lo), .int .i64 ((min b.tank (vl + (x8.walks - (j : Int)) * b.pail)) - x8.mi.hi * (b.drink x8.light).hi), .int .i64 ((min b.tank (vh + (x8.walks - (j : Int)) * b.pail)) - x8.mi.lo * (b.drink x8.light).lo)]) hsD (Ev.tmp (hT _ (mem_nth (i := 0) rfl))) rfl hf Tryd.isAgg82 Tryd.sizeOf82 (hsD.cellsM (hB _ (mem_nth (i := 0) rfl))) rfl fun a_1 w_1 h1 => hk _ _ _ _ ⟨rfl, rfl⟩ h1)
     · intro T_ B_ a_ w_ K_ hT hB
       intro hf hsD hk
       exact ob rfl rfl (st_field (o' := 22) hsD (Ev.tmp (hT _ (mem_nth (i := 4) rfl))) rfl hf Tryd.runUnderlying27 rfl Tryd.sizeOf25 rfl rfl fun a_1 w_1 h1 => hk _ _ _ _ ⟨rfl, rfl⟩ h1)
     · intro T_ B_ a_ w_ K_ hT hB
       rintro _ _ ⟨rfl, rfl⟩ h46 -
       intro hf hsD hk
       exact ob rfl rfl (st_load1 (o := 0) (off := 22) (v := .slice A n cp) hsD (Ev.tmp h46) rfl hf Tryd.isAgg25 (hsD.cellsM (hB _ (mem_nth (i := 2) rfl))) rfl fun a_1 w_1 h1 => hk _ _ _ _ ⟨rfl, rfl⟩ h1)
     · intro T_ B_ a_ w_ K_ hT hB
       intro hf hsD hk
       exact ob rfl rfl (st_move hsD (Ev.tmp (hT _ (mem_nth (i := 5) rfl))) rfl hf fun a_1 w_1 h1 => hk _ _ _ _ ⟨rfl, rfl⟩ h1)
     · intro T_ B_ a_ w_ K_ hT hB
       rintro _ _ ⟨rfl, rfl⟩ h47 -
       rintro _ _ ⟨rfl, rfl⟩ h48 -
       intro hf hsD hk
       exact ob rfl rfl (st_indexM (o' := o9 + i * 4) hsD (Ev.tmp h47) (Ev.tmp h48) rfl hf hA9 Tryd.runUnderlying25 Tryd.sizeOf66 ⟨by omega, by have := hP.len; have := (List.getElem?_eq_some_iff.1 hx8).1; omega⟩ rfl fun a_1 w_1 h1 => hk _ _ _ _ ⟨rfl, rfl⟩ h1)
     · intro T_ B_ a_ w_ K_ hT hB
       rintro _ _ ⟨rfl, rfl⟩ h49 -
       intro hf hsD hk
       exact ob rfl rfl (st_loadA (o := o9 + i * 4) (off := 0) (vs := (partL x8)) hsD (Ev.tmp h49) rfl hf Tryd.isAgg66 Tryd.sizeOf66 (hsD.old hc9 (by simp)) rfl fun a_1 w_1 h1 => hk _ _ _ _ ⟨rfl, rfl⟩ h1)
     · intro T_ B_ a_ w_ K_ hT hB
       rintro _ _ ⟨rfl, rfl⟩ h44 -
       rintro _ _ ⟨rfl, rfl⟩ h45 -
       rintro _ _ ⟨rfl, rfl⟩ h50 -
       intro hf hsD hk
       exact ob rfl rfl (st_callv (vs := [.agg ⟨(bookL b A n cp)⟩, .agg ⟨[.int .i64 ((min b.bunker (cl + (j : Int) * b.scoop)) - x8.mi.hi * (b.burn x8.light).hi), .int .i64 ((min b.bunker (ch + (j : Int) * b.scoop)) - x8.mi.lo * (b.burn x8.light).lo), .int .i64 ((min b.tank (vl + (x8.walks - (j : Int)) * b.pail)) - x8.mi.hi * (b.drink x8.light).hi), .int .i64 ((min b.tank (vh + (x8.walks - (j : Int)) * b.pail)) - x8.mi.lo * (b.drink x8.light).lo)]⟩, .agg ⟨(partL x8)⟩]) hsD (.func _) ⟨(Ev.tmp h44), (Ev.tmp h45), (Ev.tmp h50), trivial⟩ rfl hf Tryd.call60 rfl (rfails_v b A n cp x8 ((min b.bunker (cl + (j : Int) * b.scoop)) - x8.mi.hi * (b.burn x8.light).hi) ((min b.bunker (ch + (j : Int) * b.scoop)) - x8.mi.lo * (b.burn x8.light).lo) ((min b.tank (vl + (x8.walks - (j : Int)) * b.pail)) - x8.mi.hi * (b.drink x8.light).hi) ((min b.tank (vh + (x8.walks - (j : Int)) * b.pail)) - x8.mi.lo * (b.drink x8.light).lo) _ hb) fun a_1 w_1 h1 => hk _ _ _ _ ⟨rfl, rfl⟩ h1)
     · intro T_ B_ a_ w_ K_ hT hB
       rintro _ _ ⟨rfl, rfl⟩ h51 -
       intro hf hsD hk
       exact ob rfl rfl (st_not hsD (Ev.tmp h51) rfl hf fun a_1 w_1 h1 => hk _ _ _ _ ⟨rfl, rfl⟩ h1)
     · intro T_ B_ a_ w_ K_ hT hB
       rintro _ _ ⟨rfl, rfl⟩ h52 -
       intro hf hsD hk
       exact ob rfl rfl (st_move hsD (Ev.tmp h52) rfl hf fun a_1 w_1 h1 => hk _ _ _ _ ⟨rfl, rfl⟩ h1)
     · intro T_ B_ a_ w_ K_ hT hB
       rintro _ _ ⟨rfl, rfl⟩ h53 -
       intro hf hsD hk
       exact ob_gv hsD (gg := !(b.may x8 ((min b.bunker (cl + (j : Int) * b.scoop)) - x8.mi.hi * (b.burn x8.light).hi) ((min b.tank (vl + (x8.walks - (j : Int)) * b.pail)) - x8.mi.hi * (b.drink x8.light).hi))) (v := .agg ⟨(bookL b A n cp)⟩) rfl rfl rfl h53 (ison_t _) rfl rfl hf (fun hg K1 hK1 => st_loadA (o := 0) (off := 0) (vs := (bookL b A n cp)) hsD (Ev.tmp (hT _ (mem_nth (i := 4) rfl))) rfl hf Tryd.isAgg27 Tryd.sizeOf27 (hsD.cellsM (hB _ (mem_nth (i := 2) rfl))) rfl hK1) fun a_1 w_1 h1 => hk _ _ _ _ ⟨rfl, rfl⟩ h1
     · intro T_ B_ a_ w_ K_ hT hB
       rintro _ _ ⟨rfl, rfl⟩ h53 -
       intro hf hsD hk
       exact ob_gv hsD (gg := !(b.may x8 ((min b.bunker (cl + (j : Int) * b.scoop)) - x8.mi.hi * (b.burn x8.light).hi) ((min b.tank (vl + (x8.walks - (j : Int)) * b.pail)) - x8.mi.hi * (b.drink x8.light).hi))) (v := .agg ⟨[.int .i64 ((min b.bunker (cl + (j : Int) * b.scoop)) - x8.mi.hi * (b.burn x8.light).hi), .int .i64 ((min b.bunker (ch + (j : Int) * b.scoop)) - x8.mi.lo * (b.burn x8.light).lo), .int .i64 ((min b.tank (vl + (x8.walks - (j : Int)) * b.pail)) - x8.mi.hi * (b.drink x8.light).hi), .int .i64 ((min b.tank (vh + (x8.walks - (j : Int)) * b.pail)) - x8.mi.lo * (b.drink x8.light).lo)]⟩) rfl rfl rfl h53 (ison_t _) rfl rfl hf (fun hg K1 hK1 => st_loadA (o := 0) (off := 0) (vs := [.int .i64 ((min b.bunker (cl + (j : Int) * b.scoop)) - x8.mi.hi * (b.burn x8.light).hi), .int .i64 ((min b.bunker (ch + (j : Int) * b.scoop)) - x8.mi.lo * (b.burn x8.light).lo), .int .i64 ((min b.tank (vl + (x8.walks - (j : Int)) * b.pail)) - x8.mi.hi * (b.drink x8.light).hi), .int .i64 ((min b.tank (vh + (x8.walks - (j : Int)) * b.pail)) - x8.mi.lo * (b.drink x8.light).lo)]) hsD (Ev.tmp (hT _ (mem_nth (i := 0) rfl))) rfl hf Tryd.isAgg82 Tryd.sizeOf82 (hsD.cellsM (hB _ (mem_nth (i := 0) rfl))) rfl hK1) fun a_1 w_1 h1 => hk _ _ _ _ ⟨rfl, rfl⟩ h1
     · intro T_ B_ a_ w_ K_ hT hB
       rintro _ _ ⟨rfl, rfl⟩ h53 -
       intro hf hsD hk
       exact ob_gv hsD (gg := !(b.may x8 ((min b.bunker (cl + (j : Int) * b.scoop)) - x8.mi.hi * (b.burn x8.light).hi) ((min b.tank (vl + (x8.walks - (j : Int)) * b.pail)) - x8.mi.hi * (b.drink x8.light).hi))) (v := .int .i64 (i : Int)) rfl rfl rfl h53 (ison_t _) rfl rfl hf (fun hg K1 hK1 => st_move hsD (Ev.tmp (hT _ (mem_nth (i := 5) rfl))) rfl hf hK1) fun a_1 w_1 h1 => hk _ _ _ _ ⟨rfl, rfl⟩ h1
     · intro T_ B_ a_ w_ K_ hT hB
       rintro _ _ ⟨rfl, rfl⟩ h53 -
       rintro _ _ ⟨rfl, rfl⟩ h56 -
       intro hf hsD hk
       exact ob_gv hsD (gg := !(b.may x8 ((min b.bunker (cl + (j : Int) * b.scoop)) - x8.mi.hi * (b.burn x8.light).hi) ((min b.tank (vl + (x8.walks - (j : Int)) * b.pail)) - x8.mi.hi * (b.drink x8.light).hi))) (v := .int .i64 ((i : Int) + 1)) rfl rfl rfl h53 (ison_t _) rfl rfl hf (fun hg K1 hK1 => st_add (z := (i : Int) + 1) hsD ((Ev.tmp h56).un hg) (.const _) rfl hf rfl (by omega) hK1) fun a_1 w_1 h1 => hk _ _ _ _ ⟨rfl, rfl⟩ h1
     · intro T_ B_ a_ w_ K_ hT hB
       rintro _ _ ⟨rfl, rfl⟩ h53 -
       rintro _ _ ⟨rfl, rfl⟩ h54 -
       rintro _ _ ⟨rfl, rfl⟩ h55 -
       rintro _ _ ⟨rfl, rfl⟩ h57 -
       intro hf hsD hk
       exact ob_gv hsD (gg := !(b.may x8 ((min b.bunker (cl + (j : Int) * b.scoop)) - x8.mi.hi * (b.burn x8.light).hi) ((min b.tank (vl + (x8.walks - (j : Int)) * b.pail)) - x8.mi.hi * (b.drink x8.light).hi))) (v := .bool (b.canL (b.parts.drop (i + 1)) ((min b.bunker (cl + (j : Int) * b.scoop)) - x8.mi.hi * (b.burn x8.light).hi) ((min b.tank (vl + (x8.walks - (j : Int)) * b.pail)) - x8.mi.hi * (b.drink x8.light).hi))) rfl rfl rfl h53 (ison_t _) rfl rfl hf (fun hg K1 hK1 => st_callv (vs := [.agg ⟨(bookL b A n cp)⟩, .agg ⟨[.int .i64 ((min b.bunker (cl + (j : Int) * b.scoop)) - x8.mi.hi * (b.burn x8.light).hi), .int .i64 ((min b.bunker (ch + (j : Int) * b.scoop)) - x8.mi.lo * (b.burn x8.light).lo), .int .i64 ((min b.tank (vl + (x8.walks - (j : Int)) * b.pail)) - x8.mi.hi * (b.drink x8.light).hi), .int .i64 ((min b.tank (vh + (x8.walks - (j : Int)) * b.pail)) - x8.mi.lo * (b.drink x8.light).lo)]⟩, .int .i64 ((i : Int) + 1)]) hsD (.func _) ⟨((Ev.tmp h54).un hg), ((Ev.tmp h55).un hg), ((Ev.tmp h57).un hg), trivial⟩ rfl hf Tryd.call63 rfl ((by have h := ih ((min b.bunker (cl + (j : Int) * b.scoop)) - x8.mi.hi * (b.burn x8.light).hi) ((min b.bunker (ch + (j : Int) * b.scoop)) - x8.mi.lo * (b.burn x8.light).lo) ((min b.tank (vl + (x8.walks - (j : Int)) * b.pail)) - x8.mi.hi * (b.drink x8.light).hi) ((min b.tank (vh + (x8.walks - (j : Int)) * b.pail)) - x8.mi.lo * (b.drink x8.light).lo) _ (hP.kp hsD.kp) (by omega) (by omega); rw [Int.natCast_add] at h; exact h)) hK1) fun a_1 w_1 h1 => hk _ _ _ _ ⟨rfl, rfl⟩ h1
     · intro T_ B_ a_ w_ K_ hT hB
       rintro _ _ ⟨rfl, rfl⟩ h53 -
       rintro _ _ ⟨rfl, rfl⟩ h58 -
       intro hf hsD hk
       exact ob rfl rfl (st_and hsD (gx := true) (gy := !(b.may x8 ((min b.bunker (cl + (j : Int) * b.scoop)) - x8.mi.hi * (b.burn x8.light).hi) ((min b.tank (vl + (x8.walks - (j : Int)) * b.pail)) - x8.mi.hi * (b.drink x8.light).hi))) (Ev.tmp h53) rfl (Ev.tmp h58) (fun h => h) rfl hf fun a_1 w_1 h1 => hk _ _ _ _ ⟨rfl, rfl⟩ h1)
     rintro _ _ ⟨rfl, rfl⟩
     rintro _ _ ⟨rfl, rfl⟩
     rintro _ _ ⟨rfl, rfl⟩
     rintro _ _ ⟨rfl, rfl⟩
     rintro _ _ ⟨rfl, rfl⟩
     rintro _ _ ⟨rfl, rfl⟩
     rintro _ _ ⟨rfl, rfl⟩
     rintro _ _ ⟨rfl, rfl⟩
     rintro _ _ ⟨rfl, rfl⟩
     rintro _ _ ⟨rfl, rfl⟩
     rintro _ _ ⟨rfl, rfl⟩
     rintro _ _ ⟨rfl, rfl⟩
     rintro _ _ ⟨rfl, rfl⟩
     rintro _ _ ⟨rfl, rfl⟩
     rintro _ _ ⟨rfl, rfl⟩
     rintro _ _ ⟨rfl, rfl⟩
     intro a_29 w_29 hs29
     clear hs28
     have hs30 := Sx.as (T' := [_, _, _, _, _, _, _, _, _, _, _, _, _, _, _, _, _, _, _, _, _, _]) (B' := [_, _, _]) rfl rfl hs29; clear hs29
     refine hK18 _ _ ?_; clear hK18
     have hs31 := Sx.keepT [15, 17, 18, 19, 20, 21] [_, _, _, _, _, _] ⟨rfl, rfl, rfl, rfl, rfl, rfl, trivial⟩ hs30; clear hs30
     refine cd_cond hs31 (Ev.t 0 rfl) (fun hc19 => ?_) (fun hc19 => ?_)
     · have hF : first (b.tryC x8 (b.canL (b.parts.drop (i + 1))) cl vl) (x8.walks.toNat + 1) 0 = (j : Int) := hf.trans (first_yes hjn hc19)
       refine cd_region fun K20 hK20 => ?_
       have hs32 := Sx.keepT [0, 1, 3, 4, 5] [_, _, _, _, _] ⟨rfl, rfl, rfl, rfl, rfl, trivial⟩ hs31; clear hs31
       refine sq rfl (st_assign hs32 (.const _) rfl rfl fun _ _ hs33 => ?_); clear hs32
       refine hK20 _ _ ?_; clear hK20
       have hs34 := Sx.keepT [0] [_] ⟨rfl, trivial⟩ hs33; clear hs33
       refine cd_retv (vs := [.bool true]) hs34 (fun a_ w_ h => in_ret (th_ret (th_ret (in_ret (th_ret (hQ0 a_ w_ h)))))) rfl ⟨.tmp 0 rfl, trivial⟩ ?_
       clear hs34 hQ0 hN0 hK15 hK10
       first | (rw [canL_nil hin]; rfl) | (rw [hF]; simp [pack]; done) | (rw [hF]; rfl)
     · refine cd_skip ?_
       refine in_norm ?_
       refine th_norm (hK15 _ _ ?_)
       refine cd_region1 ?_
       refine sq rfl (st_move hs31 (Ev.t 1 rfl) rfl rfl fun _ _ hs32 => ?_); clear hs31
       refine sq rfl (st_add (z := (j : Int) + 1) hs32 (Ev.t 0 rfl) (.const _) rfl rfl rfl (by omega) fun _ _ hs33 => ?_); clear hs32
       have hs34 := Sx.keepT [0, 1, 2, 4, 5, 6, 7] [_, _, _, _, _, _, _] ⟨rfl, rfl, rfl, rfl, rfl, rfl, rfl, trivial⟩ hs33; clear hs33
       refine sq rfl (st_assign hs34 (Ev.t 0 rfl) rfl rfl fun _ _ hs35 => ?_); clear hs34
       refine wpListIn_nil ?_
       have hs36 := Sx.keepT [0, 4, 5, 6, 7] [_, _, _, _, _] ⟨rfl, rfl, rfl, rfl, rfl, trivial⟩ hs35; clear hs35
       refine ⟨j + 1, ⟨?_, ?_, ?_⟩, by omega⟩
       · exact hjn
       · exact hf.trans (first_no hjn hc19)
       have hs37 : Sx 60 [] [(7, .int .i64 ((j : Int) + 1)), (6, .bool false), (4, .pointer (some ⟨b3, 0, none⟩)), (3, .pointer (some ⟨b2, 0, none⟩)), (2, .int .i64 (i : Int))] [(b3, some (.cells ⟨[.int .i64 cl, .int .i64 ch, .int .i64 vl, .int .i64 vh]⟩ 82 (0, 0))), (b2, some (.cells ⟨(bookL b A n cp)⟩ 27 (0, 0)))] [] w _ _ := Sx.blks hs36 ((List.Sublist.cons _ (List.Sublist.cons_cons _ (List.Sublist.cons_cons _ List.Sublist.slnil))))
       exact Sx.keepE [0, 1, 2, 3, 4] _ ⟨⟨_, rfl, rfl⟩, ⟨_, rfl, rfl⟩, ⟨_, rfl, rfl⟩, ⟨_, rfl, rfl⟩, ⟨_, rfl, rfl⟩, trivial⟩ hs37
   · have hjn : j = x8.walks.toNat + 1 := by simp at hc14; omega
     have hF : first (b.tryC x8 (b.canL (b.parts.drop (i + 1))) cl vl) (x8.walks.toNat + 1) 0 = -1 := by rw [hf, hjn, Nat.sub_self]; rfl
     refine cd_exit ?_
     refine th_exit ?_
     refine th_exit ?_
     refine in_hit ?_
     refine th_norm (hK10 _ _ ?_)
     refine cd_region fun K21 hK21 => ?_
     have hs24 := Sx.keepT [0, 1, 3, 4, 5] [_, _, _, _, _] ⟨rfl, rfl, rfl, rfl, rfl, trivial⟩ hs23; clear hs23
     refine sq rfl (st_assign hs24 (.const _) rfl rfl fun _ _ hs25 => ?_); clear hs24
     refine hK21 _ _ ?_; clear hK21
     have hs26 := Sx.keepT [0] [_] ⟨rfl, trivial⟩ hs25; clear hs25
     refine cd_retv (vs := [.bool false]) hs26 hQ0 rfl ⟨.tmp 0 rfl, trivial⟩ ?_
     clear hs26 hQ0 hN0
     first | (rw [canL_nil hin]; rfl) | (rw [hF]; simp [pack]; done) | (rw [hF]; rfl)

theorem can_all (b : Book) (A : Option Addr) (n cp : Nat) (hb : Bd b) (hn : n ≤ 140737488351232) : ∀ j i : Nat, i + j = b.parts.length → canOk b A n cp i := by
  intro j
  induction j with
  | zero => intro i h; exact can_step b A n cp i (by omega) hb hn (fun h' => by omega)
  | succ j ih => intro i h; exact can_step b A n cp i (by omega) hb hn (fun _ => ih (i + 1) (by omega))
/-- 'can' from the evening's begin. -/
theorem can_at (b : Book) (A : Option Addr) (n cp : Nat) (hb : Bd b) (hn : n ≤ 140737488351232) (w : World) (hP : PartsAt w A n b.parts) :
    CallsV Tryd.prog 63 [.agg ⟨bookL b A n cp⟩, .agg ⟨[.int .i64 b.coal.lo, .int .i64 b.coal.hi, .int .i64 b.water.lo, .int .i64 b.water.hi]⟩, .int .i64 0] w (.bool (b.canL b.parts b.coal.lo b.water.lo)) := by
  have h := can_all b A n cp hb hn b.parts.length 0 (by omega) b.coal.lo b.coal.hi b.water.lo b.water.hi w hP (by have := hb.coal; have := hb.water; simp; omega) (by have := hb.coal; have := hb.water; simp; omega)
  rw [List.drop_zero] at h; exact h

theorem rParts_v (b : Book) (A : Option Addr) (n cp : Nat) (w : World) (hP : PartsAt w A n b.parts) (hn : n ≤ 140737488351232) (hcp : n ≤ cp) :
    CallsV Tryd.prog 27 [.agg ⟨(bookL b A n cp)⟩] w (.tuple ⟨[.int .i64 b.partsR.1, .int .i64 b.partsR.2]⟩) := by
 refine enter (N := 30) (M := []) w Tryd.func27 rfl rfl rfl (fun Q0 a_0 hQ0 hN0 hs0 => ?_)
 refine cd_region fun K1 hK1 => ?_
 refine sq rfl (st_box hs0 (Ev.t 0 rfl) rfl rfl rfl fun b2 _ _ hs1 => ?_); clear hs0
 refine sq rfl (st_assign hs1 (.const _) rfl rfl fun _ _ hs2 => ?_); clear hs1
 refine sq rfl (st_assign hs2 (.const _) rfl rfl fun _ _ hs3 => ?_); clear hs2
 refine hK1 _ _ ?_; clear hK1
 have hs4 := Sx.keepT [0, 1, 2] [_, _, _] ⟨rfl, rfl, rfl, trivial⟩ hs3; clear hs3
 refine cd_seq fun K3 hK3 => ?_
 refine cd_region fun K4 hK4 => ?_
 refine sq rfl (st_loadA (o := 0) (off := 0) (vs := (bookL b A n cp)) hs4 (Ev.t 2 rfl) rfl rfl Tryd.isAgg27 Tryd.sizeOf27 (hs4.cells 0 rfl) rfl fun _ _ hs5 => ?_); clear hs4
 refine sq rfl (st_callv (vs := [.agg ⟨(bookL b A n cp)⟩]) hs5 (.func _) ⟨(Ev.t 0 rfl), trivial⟩ rfl rfl Tryd.call17 rfl (rcheck_v b A n cp _ (hP.kp hs5.kp) hn) fun _ _ hs6 => ?_); clear hs5
 refine sq rfl (st_assign hs6 (Ev.t 0 rfl) rfl rfl fun _ _ hs7 => ?_); clear hs6
 refine hK4 _ _ ?_; clear hK4
 have hs8 := Sx.keepT [0, 3, 4, 5] [_, _, _, _] ⟨rfl, rfl, rfl, rfl, trivial⟩ hs7; clear hs7
 refine cd_region fun K5 hK5 => ?_
 refine sq rfl (st_move hs8 (Ev.t 0 rfl) rfl rfl fun _ _ hs9 => ?_); clear hs8
 refine sq rfl (st_cmp (c := (if b.ok then 0 else 40 : Int) != 0) hs9 (Ev.t 0 rfl) (.const _) rfl rfl rfl rfl fun _ _ hs10 => ?_); clear hs9
 refine hK5 _ _ ?_; clear hK5
 have hs11 := Sx.keepT [0, 2, 3, 4, 5] [_, _, _, _, _] ⟨rfl, rfl, rfl, rfl, rfl, trivial⟩ hs10; clear hs10
 refine cd_cond hs11 (Ev.t 0 rfl) (fun hc6 => ?_) (fun hc6 => ?_)
 · have hok : b.ok = false := by cases h : b.ok <;> simp [h] at hc6 ⊢
   refine cd_region fun K7 hK7 => ?_
   refine sq rfl (st_move hs11 (Ev.t 1 rfl) rfl rfl fun _ _ hs12 => ?_); clear hs11
   have hs13 := Sx.keepT [0, 1, 2, 3, 5] [_, _, _, _, _] ⟨rfl, rfl, rfl, rfl, rfl, trivial⟩ hs12; clear hs12
   refine sq rfl (st_assign hs13 (.const _) rfl rfl fun _ _ hs14 => ?_); clear hs13
   have hs15 := Sx.keepT [0, 1, 2, 3, 5] [_, _, _, _, _] ⟨rfl, rfl, rfl, rfl, rfl, trivial⟩ hs14; clear hs14
   refine sq rfl (st_assign hs15 (Ev.t 1 rfl) rfl rfl fun _ _ hs16 => ?_); clear hs15
   refine hK7 _ _ ?_; clear hK7
   have hs17 := Sx.keepT [0, 1] [_, _] ⟨rfl, rfl, trivial⟩ hs16; clear hs16
   refine cd_retv (vs := [.int .i64 0, .int .i64 (if b.ok then 0 else 40)]) hs17 (fun a_ w_ h => th_ret (hQ0 a_ w_ h)) rfl ⟨.tmp 1 rfl, .tmp 0 rfl, trivial⟩ ?_
   clear hs17 hQ0 hN0 hK3
   first | (simp [pack, Book.partsR, hok, hm, hyes]; done) | (simp [pack, Book.partsR, hok, hm, Book.most]; done) | simp [pack, Book.partsR, hok]
 · have hok : b.ok = true := by cases h : b.ok <;> simp [h] at hc6 ⊢
   have hb := ok_bd hok
   have hl2 := hP.len
   refine cd_skip ?_
   refine th_norm (hK3 _ _ ?_)
   refine cd_region fun K8 hK8 => ?_
   refine sq rfl (st_loadA (o := 0) (off := 0) (vs := (bookL b A n cp)) hs11 (Ev.t 4 rfl) rfl rfl Tryd.isAgg27 Tryd.sizeOf27 (hs11.cells 0 rfl) rfl fun _ _ hs12 => ?_); clear hs11
   refine sq rfl (st_alloc hs12 rfl rfl Tryd.zeroValue27 rfl fun b9 _ _ hs13 => ?_); clear hs12
   refine sq rfl (st_store (l' := (bookL b A n cp)) (vs := (bookL b A n cp)) (i := 0) hs13 (Ev.t 0 rfl) (Ev.t 1 rfl) Tryd.sizeOf27 rfl rfl rfl rfl rfl rfl fun _ _ hs14 => ?_); clear hs13
   have hs15 := Sx.as (T' := [_, _, _, _, _, _, _]) (B' := [_, _]) rfl rfl hs14; clear hs14
   refine hK8 _ _ ?_; clear hK8
   have hs16 := Sx.keepT [0, 4, 5, 6] [_, _, _, _] ⟨rfl, rfl, rfl, rfl, trivial⟩ hs15; clear hs15
   refine cd_seq fun K10 hK10 => ?_
   refine cd_region fun K11 hK11 => ?_
   refine sq rfl (st_field (o' := 22) hs16 (Ev.t 3 rfl) rfl rfl Tryd.runUnderlying27 rfl Tryd.sizeOf25 rfl rfl fun _ _ hs17 => ?_); clear hs16
   refine sq rfl (st_load1 (o := 0) (off := 22) (v := .slice A n cp) hs17 (Ev.t 0 rfl) rfl rfl Tryd.isAgg25 (hs17.cells 1 rfl) rfl fun _ _ hs18 => ?_); clear hs17
   refine sq rfl (st_len hs18 (Ev.t 0 rfl) rfl rfl Tryd.runUnderlying25 fun _ _ hs19 => ?_); clear hs18
   refine sq rfl (st_assign hs19 (Ev.t 0 rfl) rfl rfl fun _ _ hs20 => ?_); clear hs19
   refine hK11 _ _ ?_; clear hK11
   have hs21 := Sx.keepT [0, 4, 5, 6, 7] [_, _, _, _, _] ⟨rfl, rfl, rfl, rfl, rfl, trivial⟩ hs20; clear hs20
   refine cd_block ?_
   have hs22 : Sx 30 [] [(6, .int .i64 ((n, n).1 : Int)), (5, .pointer (some ⟨b9, 0, none⟩)), (3, .int .i64 0), (2, .int .i64 0), (1, .pointer (some ⟨b2, 0, none⟩))] [(b9, some (.cells ⟨[.int .i64 b.coal.lo, .int .i64 b.coal.hi, .int .i64 b.water.lo, .int .i64 b.water.hi, .int .i64 b.bunker, .int .i64 b.tank, .int .i64 b.scoop, .int .i64 b.pail, .int .i64 b.burn0.lo, .int .i64 b.burn0.hi, .int .i64 b.burn1.lo, .int .i64 b.burn1.hi, .int .i64 b.drink0.lo, .int .i64 b.drink0.hi, .int .i64 b.drink1.lo, .int .i64 b.drink1.hi, .int .i64 b.full.lo, .int .i64 b.full.hi, .int .i64 b.weak.lo, .int .i64 b.weak.hi, .int .i64 b.mark, .int .i64 b.lamp, .slice A ((n, n).2) cp]⟩ 27 (0, 0))), (b2, some (.cells ⟨(bookL b A n cp)⟩ 27 (0, 0)))] [] w _ _ := Sx.keepE [0, 1, 2, 3, 4] _ ⟨⟨_, rfl, rfl⟩, ⟨_, rfl, rfl⟩, ⟨_, rfl, rfl⟩, ⟨_, rfl, rfl⟩, ⟨_, rfl, rfl⟩, trivial⟩ hs21; clear hs21
   refine cd_loop (X := (Nat × Nat)) (fun g a_ w_ => (g.1 ≤ n) ∧ (b.most b.parts.length = b.most g.1) ∧ Sx 30 [] [(6, .int .i64 (g.1 : Int)), (5, .pointer (some ⟨b9, 0, none⟩)), (3, .int .i64 0), (2, .int .i64 0), (1, .pointer (some ⟨b2, 0, none⟩))] [(b9, some (.cells ⟨[.int .i64 b.coal.lo, .int .i64 b.coal.hi, .int .i64 b.water.lo, .int .i64 b.water.hi, .int .i64 b.bunker, .int .i64 b.tank, .int .i64 b.scoop, .int .i64 b.pail, .int .i64 b.burn0.lo, .int .i64 b.burn0.hi, .int .i64 b.burn1.lo, .int .i64 b.burn1.hi, .int .i64 b.drink0.lo, .int .i64 b.drink0.hi, .int .i64 b.drink1.lo, .int .i64 b.drink1.hi, .int .i64 b.full.lo, .int .i64 b.full.hi, .int .i64 b.weak.lo, .int .i64 b.weak.hi, .int .i64 b.mark, .int .i64 b.lamp, .slice A g.2 cp]⟩ 27 (0, 0))), (b2, some (.cells ⟨(bookL b A n cp)⟩ 27 (0, 0)))] [] w a_ w_) (fun g => g.1) ((n, n)) ⟨?_, ?_, hs22⟩ ?_
   · exact Nat.le_refl _
   · rw [hl2]
   intro g a_23 w_23 ⟨hi, hm, hs23⟩; clear hs22
   refine cd_seq fun K12 hK12 => ?_
   refine cd_region fun K13 hK13 => ?_
   refine sq rfl (st_move hs23 (Ev.t 0 rfl) rfl rfl fun _ _ hs24 => ?_); clear hs23
   refine sq rfl (st_cmp (c := decide (((g.1 : Int) : Int) > 0)) hs24 (Ev.t 0 rfl) (.const _) rfl rfl rfl rfl fun _ _ hs25 => ?_); clear hs24
   refine hK13 _ _ ?_; clear hK13
   have hs26 := Sx.keepT [0, 2, 3, 4, 5, 6] [_, _, _, _, _, _] ⟨rfl, rfl, rfl, rfl, rfl, rfl, trivial⟩ hs25; clear hs25
   refine cd_cond hs26 (Ev.t 0 rfl) (fun hc14 => ?_) (fun hc14 => ?_)
   · have hip : 0 < g.1 := by simpa using hc14
     refine cd_skip ?_
     refine th_norm (hK12 _ _ ?_)
     refine cd_seq fun K15 hK15 => ?_
     refine cd_block ?_
     refine cd_region fun K16 hK16 => ?_
     refine sq rfl (st_field (o' := 22) hs26 (Ev.t 5 rfl) rfl rfl Tryd.runUnderlying27 rfl Tryd.sizeOf25 rfl rfl fun _ _ hs27 => ?_); clear hs26
     refine sq rfl (st_load1 (o := 0) (off := 22) (v := .slice A n cp) hs27 (Ev.t 0 rfl) rfl rfl Tryd.isAgg25 (hs27.cells 1 rfl) rfl fun _ _ hs28 => ?_); clear hs27
     refine sq rfl (st_move hs28 (Ev.t 3 rfl) rfl rfl fun _ _ hs29 => ?_); clear hs28
     refine sq rfl (st_slice2 (h := g.1) hs29 (Ev.t 1 rfl) (Ev.t 0 rfl) rfl rfl Tryd.runUnderlying25 Tryd.sizeOf66 (by omega) (fun a_30 w_30 hs30 => ?_)); clear hs29
     have hs31 : Sx 30 [] [(23, .slice A g.1 cp), (22, .int .i64 (g.1 : Int)), (21, .slice A n cp), (20, .pointer (some ⟨b2, 22, none⟩)), (17, .bool (decide (((g.1 : Int) : Int) > 0))), (6, .int .i64 (g.1 : Int)), (5, .pointer (some ⟨b9, 0, none⟩)), (3, .int .i64 0), (2, .int .i64 0), (1, .pointer (some ⟨b2, 0, none⟩))] [(b9, some (.cells ⟨[.int .i64 b.coal.lo, .int .i64 b.coal.hi, .int .i64 b.water.lo, .int .i64 b.water.hi, .int .i64 b.bunker, .int .i64 b.tank, .int .i64 b.scoop, .int .i64 b.pail, .int .i64 b.burn0.lo, .int .i64 b.burn0.hi, .int .i64 b.burn1.lo, .int .i64 b.burn1.hi, .int .i64 b.drink0.lo, .int .i64 b.drink0.hi, .int .i64 b.drink1.lo, .int .i64 b.drink1.hi, .int .i64 b.full.lo, .int .i64 b.full.hi, .int .i64 b.weak.lo, .int .i64 b.weak.hi, .int .i64 b.mark, .int .i64 b.lamp, .slice A g.2 cp]⟩ 27 (0, 0))), (b2, some (.cells ⟨(bookL b A n cp)⟩ 27 (0, 0)))] [] w _ _ := hs30; clear hs30
     refine sq rfl (st_field (o' := 22) hs31 (Ev.t 6 rfl) rfl rfl Tryd.runUnderlying27 rfl Tryd.sizeOf25 rfl rfl fun _ _ hs32 => ?_); clear hs31
     refine sq rfl (st_store (l' := [.int .i64 b.coal.lo, .int .i64 b.coal.hi, .int .i64 b.water.lo, .int .i64 b.water.hi, .int .i64 b.bunker, .int .i64 b.tank, .int .i64 b.scoop, .int .i64 b.pail, .int .i64 b.burn0.lo, .int .i64 b.burn0.hi, .int .i64 b.burn1.lo, .int .i64 b.burn1.hi, .int .i64 b.drink0.lo, .int .i64 b.drink0.hi, .int .i64 b.drink1.lo, .int .i64 b.drink1.hi, .int .i64 b.full.lo, .int .i64 b.full.hi, .int .i64 b.weak.lo, .int .i64 b.weak.hi, .int .i64 b.mark, .int .i64 b.lamp, .slice A g.1 cp]) (vs := [.slice A g.1 cp]) (i := 0) hs32 (Ev.t 0 rfl) (Ev.t 1 rfl) Tryd.sizeOf25 rfl rfl rfl rfl rfl rfl fun _ _ hs33 => ?_); clear hs32
     have hs34 := Sx.as (T' := [_, _, _, _, _, _, _, _, _, _, _]) (B' := [_, _]) rfl rfl hs33; clear hs33
     refine hK16 _ _ ?_; clear hK16
     have hs35 := Sx.keepT [6, 7, 8, 9, 10] [_, _, _, _, _] ⟨rfl, rfl, rfl, rfl, rfl, trivial⟩ hs34; clear hs34
     refine cd_drawn mixed hs35 [⟨25, [], Is (.agg ⟨[.int .i64 b.coal.lo, .int .i64 b.coal.hi, .int .i64 b.water.lo, .int .i64 b.water.hi, .int .i64 b.bunker, .int .i64 b.tank, .int .i64 b.scoop, .int .i64 b.pail, .int .i64 b.burn0.lo, .int .i64 b.burn0.hi, .int .i64 b.burn1.lo, .int .i64 b.burn1.hi, .int .i64 b.drink0.lo, .int .i64 b.drink0.hi, .int .i64 b.drink1.lo, .int .i64 b.drink1.hi, .int .i64 b.full.lo, .int .i64 b.full.hi, .int .i64 b.weak.lo, .int .i64 b.weak.hi, .int .i64 b.mark, .int .i64 b.lamp, .slice A g.1 cp]⟩)⟩,
      ⟨26, [], Is (.agg ⟨[.int .i64 b.coal.lo, .int .i64 b.coal.hi, .int .i64 b.water.lo, .int .i64 b.water.hi, .int .i64 b.bunker, .int .i64 b.tank, .int .i64 b.scoop, .int .i64 b.pail, .int .i64 b.burn0.lo, .int .i64 b.burn0.hi, .int .i64 b.burn1.lo, .int .i64 b.burn1.hi, .int .i64 b.drink0.lo, .int .i64 b.drink0.hi, .int .i64 b.drink1.lo, .int .i64 b.drink1.hi, .int .i64 b.full.lo, .int .i64 b.full.hi, .int .i64 b.weak.lo, .int .i64 b.weak.hi, .int .i64 b.mark, .int .i64 b.lamp, .slice A g.1 cp]⟩)⟩,
      ⟨27, [1], Is (.agg ⟨[.int .i64 ((b.head g.1).coal.lo), .int .i64 ((b.head g.1).coal.hi), .int .i64 ((b.head g.1).water.lo), .int .i64 ((b.head g.1).water.hi)]⟩)⟩,
      ⟨28, [0, 2], Is (.bool ((b.head g.1).can))⟩] (by kernel_rfl) (by kernel_rfl) fun K17 hK17 => ⟨⟨?_, ?_, ?_, ?_, trivial⟩, ?_⟩
     · intro T_ B_ a_ w_ K_ hT hB
       intro hf hsD hk
       exact ob rfl rfl (st_loadA (o := 0) (off := 0) (vs := [.int .i64 b.coal.lo, .int .i64 b.coal.hi, .int .i64 b.water.lo, .int .i64 b.water.hi, .int .i64 b.bunker, .int .i64 b.tank, .int .i64 b.scoop, .int .i64 b.pail, .int .i64 b.burn0.lo, .int .i64 b.burn0.hi, .int .i64 b.burn1.lo, .int .i64 b.burn1.hi, .int .i64 b.drink0.lo, .int .i64 b.drink0.hi, .int .i64 b.drink1.lo, .int .i64 b.drink1.hi, .int .i64 b.full.lo, .int .i64 b.full.hi, .int .i64 b.weak.lo, .int .i64 b.weak.hi, .int .i64 b.mark, .int .i64 b.lamp, .slice A g.1 cp]) hsD (Ev.tmp (hT _ (mem_nth (i := 1) rfl))) rfl hf Tryd.isAgg27 Tryd.sizeOf27 (hsD.cellsM (hB _ (mem_nth (i := 0) rfl))) rfl fun a_1 w_1 h1 => hk _ _ _ _ ⟨rfl, rfl⟩ h1)
     · intro T_ B_ a_ w_ K_ hT hB
       intro hf hsD hk
       exact ob rfl rfl (st_loadA (o := 0) (off := 0) (vs := [.int .i64 b.coal.lo, .int .i64 b.coal.hi, .int .i64 b.water.lo, .int .i64 b.water.hi, .int .i64 b.bunker, .int .i64 b.tank, .int .i64 b.scoop, .int .i64 b.pail, .int .i64 b.burn0.lo, .int .i64 b.burn0.hi, .int .i64 b.burn1.lo, .int .i64 b.burn1.hi, .int .i64 b.drink0.lo, .int .i64 b.drink0.hi, .int .i64 b.drink1.lo, .int .i64 b.drink1.hi, .int .i64 b.full.lo, .int .i64 b.full.hi, .int .i64 b.weak.lo, .int .i64 b.weak.hi, .int .i64 b.mark, .int .i64 b.lamp, .slice A g.1 cp]) hsD (Ev.tmp (hT _ (mem_nth (i := 1) rfl))) rfl hf Tryd.isAgg27 Tryd.sizeOf27 (hsD.cellsM (hB _ (mem_nth (i := 0) rfl))) rfl fun a_1 w_1 h1 => hk _ _ _ _ ⟨rfl, rfl⟩ h1)
     · intro T_ B_ a_ w_ K_ hT hB
       rintro _ _ ⟨rfl, rfl⟩ h26 -
       intro hf hsD hk
       exact ob rfl rfl (st_callv (vs := [.agg ⟨[.int .i64 b.coal.lo, .int .i64 b.coal.hi, .int .i64 b.water.lo, .int .i64 b.water.hi, .int .i64 b.bunker, .int .i64 b.tank, .int .i64 b.scoop, .int .i64 b.pail, .int .i64 b.burn0.lo, .int .i64 b.burn0.hi, .int .i64 b.burn1.lo, .int .i64 b.burn1.hi, .int .i64 b.drink0.lo, .int .i64 b.drink0.hi, .int .i64 b.drink1.lo, .int .i64 b.drink1.hi, .int .i64 b.full.lo, .int .i64 b.full.hi, .int .i64 b.weak.lo, .int .i64 b.weak.hi, .int .i64 b.mark, .int .i64 b.lamp, .slice A g.1 cp]⟩]) hsD (.func _) ⟨(Ev.tmp h26), trivial⟩ rfl hf Tryd.call55 rfl (rat_v (b.head g.1) A g.1 cp _) fun a_1 w_1 h1 => hk _ _ _ _ ⟨rfl, rfl⟩ h1)
     · intro T_ B_ a_ w_ K_ hT hB
       rintro _ _ ⟨rfl, rfl⟩ h25 -
       rintro _ _ ⟨rfl, rfl⟩ h27 -
       intro hf hsD hk
       exact ob rfl rfl (st_callv (vs := [.agg ⟨[.int .i64 b.coal.lo, .int .i64 b.coal.hi, .int .i64 b.water.lo, .int .i64 b.water.hi, .int .i64 b.bunker, .int .i64 b.tank, .int .i64 b.scoop, .int .i64 b.pail, .int .i64 b.burn0.lo, .int .i64 b.burn0.hi, .int .i64 b.burn1.lo, .int .i64 b.burn1.hi, .int .i64 b.drink0.lo, .int .i64 b.drink0.hi, .int .i64 b.drink1.lo, .int .i64 b.drink1.hi, .int .i64 b.full.lo, .int .i64 b.full.hi, .int .i64 b.weak.lo, .int .i64 b.weak.hi, .int .i64 b.mark, .int .i64 b.lamp, .slice A g.1 cp]⟩, .agg ⟨[.int .i64 ((b.head g.1).coal.lo), .int .i64 ((b.head g.1).coal.hi), .int .i64 ((b.head g.1).water.lo), .int .i64 ((b.head g.1).water.hi)]⟩, .int .i64 0]) hsD (.func _) ⟨(Ev.tmp h25), (Ev.tmp h27), (.const _), trivial⟩ rfl hf Tryd.call63 rfl ((by have h := can_at (b.head g.1) A g.1 cp (head_bd hb g.1) (by omega) _ ((head_at hP hi).kp hsD.kp); rw [← can_eq (head_bd hb g.1)] at h; exact h)) fun a_1 w_1 h1 => hk _ _ _ _ ⟨rfl, rfl⟩ h1)
     rintro _ _ ⟨rfl, rfl⟩
     rintro _ _ ⟨rfl, rfl⟩
     rintro _ _ ⟨rfl, rfl⟩
     rintro _ _ ⟨rfl, rfl⟩
     intro a_36 w_36 hs36
     clear hs35
     have hs37 := Sx.as (T' := [_, _, _, _, _, _, _, _, _]) (B' := [_, _]) rfl rfl hs36; clear hs36
     refine hK17 _ _ ?_; clear hK17
     have hs38 := Sx.keepT [3, 4, 5, 6, 7, 8] [_, _, _, _, _, _] ⟨rfl, rfl, rfl, rfl, rfl, rfl, trivial⟩ hs37; clear hs37
     refine cd_cond hs38 (Ev.t 0 rfl) (fun hc18 => ?_) (fun hc18 => ?_)
     · have hyes := most_yes hip hc18
       refine cd_region fun K19 hK19 => ?_
       refine sq rfl (st_move hs38 (Ev.t 1 rfl) rfl rfl fun _ _ hs39 => ?_); clear hs38
       have hs40 := Sx.keepT [0, 1, 2, 3, 4, 6] [_, _, _, _, _, _] ⟨rfl, rfl, rfl, rfl, rfl, rfl, trivial⟩ hs39; clear hs39
       refine sq rfl (st_assign hs40 (Ev.t 0 rfl) rfl rfl fun _ _ hs41 => ?_); clear hs40
       have hs42 := Sx.keepT [0, 1, 2, 3, 4, 6] [_, _, _, _, _, _] ⟨rfl, rfl, rfl, rfl, rfl, rfl, trivial⟩ hs41; clear hs41
       refine sq rfl (st_assign hs42 (.const _) rfl rfl fun _ _ hs43 => ?_); clear hs42
       refine hK19 _ _ ?_; clear hK19
       have hs44 := Sx.keepT [0, 1] [_, _] ⟨rfl, rfl, trivial⟩ hs43; clear hs43
       refine cd_retv (vs := [.int .i64 (g.1 : Int), .int .i64 0]) hs44 (fun a_ w_ h => in_ret (th_ret (th_ret (in_ret (th_ret (hQ0 a_ w_ h)))))) rfl ⟨.tmp 1 rfl, .tmp 0 rfl, trivial⟩ ?_
       clear hs44 hQ0 hN0 hK15 hK10
       first | (simp [pack, Book.partsR, hok, hm, hyes]; done) | (simp [pack, Book.partsR, hok, hm, Book.most]; done) | simp [pack, Book.partsR, hok]
     · have hno := most_no hip hc18
       refine cd_skip ?_
       refine in_norm ?_
       refine th_norm (hK15 _ _ ?_)
       refine cd_region1 ?_
       refine sq rfl (st_move hs38 (Ev.t 1 rfl) rfl rfl fun _ _ hs39 => ?_); clear hs38
       refine sq rfl (st_sub (z := (g.1 : Int) - 1) hs39 (Ev.t 0 rfl) (.const _) rfl rfl rfl (by omega) fun _ _ hs40 => ?_); clear hs39
       have hs41 := Sx.keepT [0, 1, 2, 4, 5, 6, 7] [_, _, _, _, _, _, _] ⟨rfl, rfl, rfl, rfl, rfl, rfl, rfl, trivial⟩ hs40; clear hs40
       refine sq rfl (st_assign hs41 (Ev.t 0 rfl) rfl rfl fun _ _ hs42 => ?_); clear hs41
       refine wpListIn_nil ?_
       have hs43 := Sx.keepT [0, 4, 5, 6, 7] [_, _, _, _, _] ⟨rfl, rfl, rfl, rfl, rfl, trivial⟩ hs42; clear hs42
       refine ⟨(g.1 - 1, g.1), ⟨?_, ?_, ?_⟩, by (show g.1 - 1 < g.1; omega)⟩
       · show g.1 - 1 ≤ n; omega
       · rw [hm, hno]
       exact Sx.keepE [0, 1, 2, 3, 4] _ ⟨⟨_, rfl, by congr 1; simp only; omega⟩, ⟨_, rfl, rfl⟩, ⟨_, rfl, rfl⟩, ⟨_, rfl, rfl⟩, ⟨_, rfl, rfl⟩, trivial⟩ hs43
   · have hi0 : g.1 = 0 := by simp at hc14; omega
     rw [hi0] at hm
     refine cd_exit ?_
     refine th_exit ?_
     refine th_exit ?_
     refine in_hit ?_
     refine th_norm (hK10 _ _ ?_)
     refine cd_region fun K20 hK20 => ?_
     have hs27 := Sx.keepT [0, 1, 2, 3, 5] [_, _, _, _, _] ⟨rfl, rfl, rfl, rfl, rfl, trivial⟩ hs26; clear hs26
     refine sq rfl (st_assign hs27 (.const _) rfl rfl fun _ _ hs28 => ?_); clear hs27
     have hs29 := Sx.keepT [0, 1, 2, 3, 5] [_, _, _, _, _] ⟨rfl, rfl, rfl, rfl, rfl, trivial⟩ hs28; clear hs28
     refine sq rfl (st_assign hs29 (.const _) rfl rfl fun _ _ hs30 => ?_); clear hs29
     refine hK20 _ _ ?_; clear hK20
     have hs31 := Sx.keepT [0, 1] [_, _] ⟨rfl, rfl, trivial⟩ hs30; clear hs30
     refine cd_retv (vs := [.int .i64 0, .int .i64 0]) hs31 hQ0 rfl ⟨.tmp 1 rfl, .tmp 0 rfl, trivial⟩ ?_
     clear hs31 hQ0 hN0
     first | (simp [pack, Book.partsR, hok, hm, hyes]; done) | (simp [pack, Book.partsR, hok, hm, Book.most]; done) | simp [pack, Book.partsR, hok]

theorem rCoal_v (b : Book) (A : Option Addr) (n cp : Nat) (w : World) (hP : PartsAt w A n b.parts) (hn : n ≤ 140737488351232) :
    CallsV Tryd.prog 31 [.agg ⟨(bookL b A n cp)⟩] w (.tuple ⟨[.int .i64 b.coalR.1, .int .i64 b.coalR.2]⟩) := by
 refine enter (N := 28) (M := []) w Tryd.func31 rfl rfl rfl (fun Q0 a_0 hQ0 hN0 hs0 => ?_)
 refine cd_region fun K1 hK1 => ?_
 refine sq rfl (st_box hs0 (Ev.t 0 rfl) rfl rfl rfl fun b2 _ _ hs1 => ?_); clear hs0
 refine sq rfl (st_assign hs1 (.const _) rfl rfl fun _ _ hs2 => ?_); clear hs1
 refine sq rfl (st_assign hs2 (.const _) rfl rfl fun _ _ hs3 => ?_); clear hs2
 refine hK1 _ _ ?_; clear hK1
 have hs4 := Sx.keepT [0, 1, 2] [_, _, _] ⟨rfl, rfl, rfl, trivial⟩ hs3; clear hs3
 refine cd_seq fun K3 hK3 => ?_
 refine cd_region fun K4 hK4 => ?_
 refine sq rfl (st_loadA (o := 0) (off := 0) (vs := (bookL b A n cp)) hs4 (Ev.t 2 rfl) rfl rfl Tryd.isAgg27 Tryd.sizeOf27 (hs4.cells 0 rfl) rfl fun _ _ hs5 => ?_); clear hs4
 refine sq rfl (st_callv (vs := [.agg ⟨(bookL b A n cp)⟩]) hs5 (.func _) ⟨(Ev.t 0 rfl), trivial⟩ rfl rfl Tryd.call17 rfl (rcheck_v b A n cp _ (hP.kp hs5.kp) hn) fun _ _ hs6 => ?_); clear hs5
 refine sq rfl (st_assign hs6 (Ev.t 0 rfl) rfl rfl fun _ _ hs7 => ?_); clear hs6
 refine hK4 _ _ ?_; clear hK4
 have hs8 := Sx.keepT [0, 3, 4, 5] [_, _, _, _] ⟨rfl, rfl, rfl, rfl, trivial⟩ hs7; clear hs7
 refine cd_region fun K5 hK5 => ?_
 refine sq rfl (st_move hs8 (Ev.t 0 rfl) rfl rfl fun _ _ hs9 => ?_); clear hs8
 refine sq rfl (st_cmp (c := (if b.ok then 0 else 40 : Int) != 0) hs9 (Ev.t 0 rfl) (.const _) rfl rfl rfl rfl fun _ _ hs10 => ?_); clear hs9
 refine hK5 _ _ ?_; clear hK5
 have hs11 := Sx.keepT [0, 2, 3, 4, 5] [_, _, _, _, _] ⟨rfl, rfl, rfl, rfl, rfl, trivial⟩ hs10; clear hs10
 refine cd_cond hs11 (Ev.t 0 rfl) (fun hc6 => ?_) (fun hc6 => ?_)
 · have hok : b.ok = false := by cases h : b.ok <;> simp [h] at hc6 ⊢
   refine cd_region fun K7 hK7 => ?_
   refine sq rfl (st_move hs11 (Ev.t 1 rfl) rfl rfl fun _ _ hs12 => ?_); clear hs11
   have hs13 := Sx.keepT [0, 1, 2, 3, 5] [_, _, _, _, _] ⟨rfl, rfl, rfl, rfl, rfl, trivial⟩ hs12; clear hs12
   refine sq rfl (st_assign hs13 (.const _) rfl rfl fun _ _ hs14 => ?_); clear hs13
   have hs15 := Sx.keepT [0, 1, 2, 3, 5] [_, _, _, _, _] ⟨rfl, rfl, rfl, rfl, rfl, trivial⟩ hs14; clear hs14
   refine sq rfl (st_assign hs15 (Ev.t 1 rfl) rfl rfl fun _ _ hs16 => ?_); clear hs15
   refine hK7 _ _ ?_; clear hK7
   have hs17 := Sx.keepT [0, 1] [_, _] ⟨rfl, rfl, trivial⟩ hs16; clear hs16
   refine cd_retv (vs := [.int .i64 0, .int .i64 (if b.ok then 0 else 40)]) hs17 (fun a_ w_ h => th_ret (hQ0 a_ w_ h)) rfl ⟨.tmp 1 rfl, .tmp 0 rfl, trivial⟩ ?_
   clear hs17 hQ0 hN0 hK3
   first | (simp [pack, Book.coalR, hok, hF]; done) | (simp [pack, Book.coalR, hok, hF, hi0]; done) | (simp only [pack, Book.coalR, hok, if_true, hF, if_neg hi0]; done) | simp [pack, Book.coalR, hok]
 · have hok : b.ok = true := by cases h : b.ok <;> simp [h] at hc6 ⊢
   have hb := ok_bd hok
   have hr := hb.room
   have hbt : (b.bunker.toNat : Int) = b.bunker := Int.toNat_of_nonneg hr.1
   refine cd_skip ?_
   refine th_norm (hK3 _ _ ?_)
   refine cd_region fun K8 hK8 => ?_
   refine sq rfl (st_loadA (o := 0) (off := 0) (vs := (bookL b A n cp)) hs11 (Ev.t 4 rfl) rfl rfl Tryd.isAgg27 Tryd.sizeOf27 (hs11.cells 0 rfl) rfl fun _ _ hs12 => ?_); clear hs11
   refine sq rfl (st_alloc hs12 rfl rfl Tryd.zeroValue27 rfl fun b9 _ _ hs13 => ?_); clear hs12
   refine sq rfl (st_store (l' := (bookL b A n cp)) (vs := (bookL b A n cp)) (i := 0) hs13 (Ev.t 0 rfl) (Ev.t 1 rfl) Tryd.sizeOf27 rfl rfl rfl rfl rfl rfl fun _ _ hs14 => ?_); clear hs13
   have hs15 := Sx.as (T' := [_, _, _, _, _, _, _]) (B' := [_, _]) rfl rfl hs14; clear hs14
   refine hK8 _ _ ?_; clear hK8
   have hs16 := Sx.keepT [0, 4, 5, 6] [_, _, _, _] ⟨rfl, rfl, rfl, rfl, trivial⟩ hs15; clear hs15
   refine cd_seq fun K10 hK10 => ?_
   refine cd_region fun K11 hK11 => ?_
   refine sq rfl (st_assign hs16 (.const _) rfl rfl fun _ _ hs17 => ?_); clear hs16
   refine hK11 _ _ ?_; clear hK11
   refine cd_block ?_
   have hs18 : Sx 28 [] [(6, .int .i64 ((0, b.coal).1 : Int)), (5, .pointer (some ⟨b9, 0, none⟩)), (3, .int .i64 0), (2, .int .i64 0), (1, .pointer (some ⟨b2, 0, none⟩))] [(b9, some (.cells ⟨[.int .i64 ((0, b.coal).2.lo), .int .i64 ((0, b.coal).2.hi), .int .i64 b.water.lo, .int .i64 b.water.hi, .int .i64 b.bunker, .int .i64 b.tank, .int .i64 b.scoop, .int .i64 b.pail, .int .i64 b.burn0.lo, .int .i64 b.burn0.hi, .int .i64 b.burn1.lo, .int .i64 b.burn1.hi, .int .i64 b.drink0.lo, .int .i64 b.drink0.hi, .int .i64 b.drink1.lo, .int .i64 b.drink1.hi, .int .i64 b.full.lo, .int .i64 b.full.hi, .int .i64 b.weak.lo, .int .i64 b.weak.hi, .int .i64 b.mark, .int .i64 b.lamp, .slice A n cp]⟩ 27 (0, 0))), (b2, some (.cells ⟨(bookL b A n cp)⟩ 27 (0, 0)))] [] w _ _ := Sx.keepE [0, 1, 2, 3, 4] _ ⟨⟨_, rfl, rfl⟩, ⟨_, rfl, rfl⟩, ⟨_, rfl, rfl⟩, ⟨_, rfl, rfl⟩, ⟨_, rfl, rfl⟩, trivial⟩ hs17; clear hs17
   refine cd_loop (X := (Nat × Span)) (fun g a_ w_ => (g.1 ≤ b.bunker.toNat + 1) ∧ (first (fun k : Nat => (b.withCoal (k : Int)).can) (b.bunker.toNat + 1) 0 = first (fun k : Nat => (b.withCoal (k : Int)).can) (b.bunker.toNat + 1 - g.1) g.1) ∧ Sx 28 [] [(6, .int .i64 (g.1 : Int)), (5, .pointer (some ⟨b9, 0, none⟩)), (3, .int .i64 0), (2, .int .i64 0), (1, .pointer (some ⟨b2, 0, none⟩))] [(b9, some (.cells ⟨[.int .i64 g.2.lo, .int .i64 g.2.hi, .int .i64 b.water.lo, .int .i64 b.water.hi, .int .i64 b.bunker, .int .i64 b.tank, .int .i64 b.scoop, .int .i64 b.pail, .int .i64 b.burn0.lo, .int .i64 b.burn0.hi, .int .i64 b.burn1.lo, .int .i64 b.burn1.hi, .int .i64 b.drink0.lo, .int .i64 b.drink0.hi, .int .i64 b.drink1.lo, .int .i64 b.drink1.hi, .int .i64 b.full.lo, .int .i64 b.full.hi, .int .i64 b.weak.lo, .int .i64 b.weak.hi, .int .i64 b.mark, .int .i64 b.lamp, .slice A n cp]⟩ 27 (0, 0))), (b2, some (.cells ⟨(bookL b A n cp)⟩ 27 (0, 0)))] [] w a_ w_) (fun g => b.bunker.toNat + 1 - g.1) ((0, b.coal)) ⟨?_, ?_, hs18⟩ ?_
   · exact Nat.zero_le _
   · rfl
   intro g a_19 w_19 ⟨hi, hf, hs19⟩; clear hs18
   refine cd_seq fun K12 hK12 => ?_
   refine cd_region fun K13 hK13 => ?_
   refine sq rfl (st_move hs19 (Ev.t 0 rfl) rfl rfl fun _ _ hs20 => ?_); clear hs19
   refine sq rfl (st_field (o' := 4) hs20 (Ev.t 5 rfl) rfl rfl Tryd.runUnderlying27 rfl Tryd.sizeOf3 rfl rfl fun _ _ hs21 => ?_); clear hs20
   refine sq rfl (st_load1 (o := 0) (off := 4) (v := .int .i64 b.bunker) hs21 (Ev.t 0 rfl) rfl rfl Tryd.isAgg3 (hs21.cells 1 rfl) rfl fun _ _ hs22 => ?_); clear hs21
   refine sq rfl (st_cmp (c := decide (((g.1 : Int) : Int) ≤ b.bunker)) hs22 (Ev.t 2 rfl) (Ev.t 0 rfl) rfl rfl rfl rfl fun _ _ hs23 => ?_); clear hs22
   refine hK13 _ _ ?_; clear hK13
   have hs24 := Sx.keepT [0, 4, 5, 6, 7, 8] [_, _, _, _, _, _] ⟨rfl, rfl, rfl, rfl, rfl, rfl, trivial⟩ hs23; clear hs23
   refine cd_cond hs24 (Ev.t 0 rfl) (fun hc14 => ?_) (fun hc14 => ?_)
   · have hin : g.1 < b.bunker.toNat + 1 := by simp at hc14; omega
     refine cd_skip ?_
     refine th_norm (hK12 _ _ ?_)
     refine cd_seq fun K15 hK15 => ?_
     refine cd_block ?_
     refine cd_region fun K16 hK16 => ?_
     refine sq rfl (st_move hs24 (Ev.t 1 rfl) rfl rfl fun _ _ hs25 => ?_); clear hs24
     refine sq rfl (st_move hs25 (Ev.t 2 rfl) rfl rfl fun _ _ hs26 => ?_); clear hs25
     refine sq rfl (st_callv (vs := [.int .i64 (g.1 : Int), .int .i64 (g.1 : Int)]) hs26 (.func _) ⟨(Ev.t 1 rfl), (Ev.t 0 rfl), trivial⟩ rfl rfl Tryd.call40 rfl (S_v (g.1 : Int) (g.1 : Int) _) fun _ _ hs27 => ?_); clear hs26
     refine sq rfl (st_field (o' := 0) hs27 (Ev.t 5 rfl) rfl rfl Tryd.runUnderlying27 rfl Tryd.sizeOf23 rfl rfl fun _ _ hs28 => ?_); clear hs27
     refine sq rfl (st_store (l' := [.int .i64 (g.1 : Int), .int .i64 (g.1 : Int), .int .i64 b.water.lo, .int .i64 b.water.hi, .int .i64 b.bunker, .int .i64 b.tank, .int .i64 b.scoop, .int .i64 b.pail, .int .i64 b.burn0.lo, .int .i64 b.burn0.hi, .int .i64 b.burn1.lo, .int .i64 b.burn1.hi, .int .i64 b.drink0.lo, .int .i64 b.drink0.hi, .int .i64 b.drink1.lo, .int .i64 b.drink1.hi, .int .i64 b.full.lo, .int .i64 b.full.hi, .int .i64 b.weak.lo, .int .i64 b.weak.hi, .int .i64 b.mark, .int .i64 b.lamp, .slice A n cp]) (vs := [.int .i64 (g.1 : Int), .int .i64 (g.1 : Int)]) (i := 0) hs28 (Ev.t 0 rfl) (Ev.t 1 rfl) Tryd.sizeOf23 rfl rfl rfl rfl rfl rfl fun _ _ hs29 => ?_); clear hs28
     have hs30 := Sx.as (T' := [_, _, _, _, _, _, _, _, _, _]) (B' := [_, _]) rfl rfl hs29; clear hs29
     refine hK16 _ _ ?_; clear hK16
     have hs31 := Sx.keepT [5, 6, 7, 8, 9] [_, _, _, _, _] ⟨rfl, rfl, rfl, rfl, rfl, trivial⟩ hs30; clear hs30
     refine cd_drawn mixed hs31 [⟨23, [], Is (.agg ⟨[.int .i64 (g.1 : Int), .int .i64 (g.1 : Int), .int .i64 b.water.lo, .int .i64 b.water.hi, .int .i64 b.bunker, .int .i64 b.tank, .int .i64 b.scoop, .int .i64 b.pail, .int .i64 b.burn0.lo, .int .i64 b.burn0.hi, .int .i64 b.burn1.lo, .int .i64 b.burn1.hi, .int .i64 b.drink0.lo, .int .i64 b.drink0.hi, .int .i64 b.drink1.lo, .int .i64 b.drink1.hi, .int .i64 b.full.lo, .int .i64 b.full.hi, .int .i64 b.weak.lo, .int .i64 b.weak.hi, .int .i64 b.mark, .int .i64 b.lamp, .slice A n cp]⟩)⟩,
      ⟨24, [], Is (.agg ⟨[.int .i64 (g.1 : Int), .int .i64 (g.1 : Int), .int .i64 b.water.lo, .int .i64 b.water.hi, .int .i64 b.bunker, .int .i64 b.tank, .int .i64 b.scoop, .int .i64 b.pail, .int .i64 b.burn0.lo, .int .i64 b.burn0.hi, .int .i64 b.burn1.lo, .int .i64 b.burn1.hi, .int .i64 b.drink0.lo, .int .i64 b.drink0.hi, .int .i64 b.drink1.lo, .int .i64 b.drink1.hi, .int .i64 b.full.lo, .int .i64 b.full.hi, .int .i64 b.weak.lo, .int .i64 b.weak.hi, .int .i64 b.mark, .int .i64 b.lamp, .slice A n cp]⟩)⟩,
      ⟨25, [1], Is (.agg ⟨[.int .i64 ((b.withCoal (g.1 : Int)).coal.lo), .int .i64 ((b.withCoal (g.1 : Int)).coal.hi), .int .i64 ((b.withCoal (g.1 : Int)).water.lo), .int .i64 ((b.withCoal (g.1 : Int)).water.hi)]⟩)⟩,
      ⟨26, [0, 2], Is (.bool ((b.withCoal (g.1 : Int)).can))⟩] (by kernel_rfl) (by kernel_rfl) fun K17 hK17 => ⟨⟨?_, ?_, ?_, ?_, trivial⟩, ?_⟩
     · intro T_ B_ a_ w_ K_ hT hB
       intro hf hsD hk
       exact ob rfl rfl (st_loadA (o := 0) (off := 0) (vs := [.int .i64 (g.1 : Int), .int .i64 (g.1 : Int), .int .i64 b.water.lo, .int .i64 b.water.hi, .int .i64 b.bunker, .int .i64 b.tank, .int .i64 b.scoop, .int .i64 b.pail, .int .i64 b.burn0.lo, .int .i64 b.burn0.hi, .int .i64 b.burn1.lo, .int .i64 b.burn1.hi, .int .i64 b.drink0.lo, .int .i64 b.drink0.hi, .int .i64 b.drink1.lo, .int .i64 b.drink1.hi, .int .i64 b.full.lo, .int .i64 b.full.hi, .int .i64 b.weak.lo, .int .i64 b.weak.hi, .int .i64 b.mark, .int .i64 b.lamp, .slice A n cp]) hsD (Ev.tmp (hT _ (mem_nth (i := 1) rfl))) rfl hf Tryd.isAgg27 Tryd.sizeOf27 (hsD.cellsM (hB _ (mem_nth (i := 0) rfl))) rfl fun a_1 w_1 h1 => hk _ _ _ _ ⟨rfl, rfl⟩ h1)
     · intro T_ B_ a_ w_ K_ hT hB
       intro hf hsD hk
       exact ob rfl rfl (st_loadA (o := 0) (off := 0) (vs := [.int .i64 (g.1 : Int), .int .i64 (g.1 : Int), .int .i64 b.water.lo, .int .i64 b.water.hi, .int .i64 b.bunker, .int .i64 b.tank, .int .i64 b.scoop, .int .i64 b.pail, .int .i64 b.burn0.lo, .int .i64 b.burn0.hi, .int .i64 b.burn1.lo, .int .i64 b.burn1.hi, .int .i64 b.drink0.lo, .int .i64 b.drink0.hi, .int .i64 b.drink1.lo, .int .i64 b.drink1.hi, .int .i64 b.full.lo, .int .i64 b.full.hi, .int .i64 b.weak.lo, .int .i64 b.weak.hi, .int .i64 b.mark, .int .i64 b.lamp, .slice A n cp]) hsD (Ev.tmp (hT _ (mem_nth (i := 1) rfl))) rfl hf Tryd.isAgg27 Tryd.sizeOf27 (hsD.cellsM (hB _ (mem_nth (i := 0) rfl))) rfl fun a_1 w_1 h1 => hk _ _ _ _ ⟨rfl, rfl⟩ h1)
     · intro T_ B_ a_ w_ K_ hT hB
       rintro _ _ ⟨rfl, rfl⟩ h24 -
       intro hf hsD hk
       exact ob rfl rfl (st_callv (vs := [.agg ⟨[.int .i64 (g.1 : Int), .int .i64 (g.1 : Int), .int .i64 b.water.lo, .int .i64 b.water.hi, .int .i64 b.bunker, .int .i64 b.tank, .int .i64 b.scoop, .int .i64 b.pail, .int .i64 b.burn0.lo, .int .i64 b.burn0.hi, .int .i64 b.burn1.lo, .int .i64 b.burn1.hi, .int .i64 b.drink0.lo, .int .i64 b.drink0.hi, .int .i64 b.drink1.lo, .int .i64 b.drink1.hi, .int .i64 b.full.lo, .int .i64 b.full.hi, .int .i64 b.weak.lo, .int .i64 b.weak.hi, .int .i64 b.mark, .int .i64 b.lamp, .slice A n cp]⟩]) hsD (.func _) ⟨(Ev.tmp h24), trivial⟩ rfl hf Tryd.call55 rfl (rat_v (b.withCoal (g.1 : Int)) A n cp _) fun a_1 w_1 h1 => hk _ _ _ _ ⟨rfl, rfl⟩ h1)
     · intro T_ B_ a_ w_ K_ hT hB
       rintro _ _ ⟨rfl, rfl⟩ h23 -
       rintro _ _ ⟨rfl, rfl⟩ h25 -
       intro hf hsD hk
       exact ob rfl rfl (st_callv (vs := [.agg ⟨[.int .i64 (g.1 : Int), .int .i64 (g.1 : Int), .int .i64 b.water.lo, .int .i64 b.water.hi, .int .i64 b.bunker, .int .i64 b.tank, .int .i64 b.scoop, .int .i64 b.pail, .int .i64 b.burn0.lo, .int .i64 b.burn0.hi, .int .i64 b.burn1.lo, .int .i64 b.burn1.hi, .int .i64 b.drink0.lo, .int .i64 b.drink0.hi, .int .i64 b.drink1.lo, .int .i64 b.drink1.hi, .int .i64 b.full.lo, .int .i64 b.full.hi, .int .i64 b.weak.lo, .int .i64 b.weak.hi, .int .i64 b.mark, .int .i64 b.lamp, .slice A n cp]⟩, .agg ⟨[.int .i64 ((b.withCoal (g.1 : Int)).coal.lo), .int .i64 ((b.withCoal (g.1 : Int)).coal.hi), .int .i64 ((b.withCoal (g.1 : Int)).water.lo), .int .i64 ((b.withCoal (g.1 : Int)).water.hi)]⟩, .int .i64 0]) hsD (.func _) ⟨(Ev.tmp h23), (Ev.tmp h25), (.const _), trivial⟩ rfl hf Tryd.call63 rfl ((by have h := can_at (b.withCoal (g.1 : Int)) A n cp (coal_bd hb (by omega)) hn _ (show PartsAt _ A n b.parts from hP.kp hsD.kp); rw [← can_eq (coal_bd hb (by omega))] at h; exact h)) fun a_1 w_1 h1 => hk _ _ _ _ ⟨rfl, rfl⟩ h1)
     rintro _ _ ⟨rfl, rfl⟩
     rintro _ _ ⟨rfl, rfl⟩
     rintro _ _ ⟨rfl, rfl⟩
     rintro _ _ ⟨rfl, rfl⟩
     intro a_32 w_32 hs32
     clear hs31
     have hs33 := Sx.as (T' := [_, _, _, _, _, _, _, _, _]) (B' := [_, _]) rfl rfl hs32; clear hs32
     refine hK17 _ _ ?_; clear hK17
     have hs34 := Sx.keepT [3, 4, 5, 6, 7, 8] [_, _, _, _, _, _] ⟨rfl, rfl, rfl, rfl, rfl, rfl, trivial⟩ hs33; clear hs33
     refine cd_cond hs34 (Ev.t 0 rfl) (fun hc18 => ?_) (fun hc18 => ?_)
     · have hF : first (fun k : Nat => (b.withCoal (k : Int)).can) (b.bunker.toNat + 1) 0 = (g.1 : Int) := hf.trans (first_yes (by omega) hc18); have hi0 : ¬ ((g.1 : Int) < 0) := by omega
       refine cd_region fun K19 hK19 => ?_
       refine sq rfl (st_move hs34 (Ev.t 1 rfl) rfl rfl fun _ _ hs35 => ?_); clear hs34
       have hs36 := Sx.keepT [0, 1, 2, 3, 4, 6] [_, _, _, _, _, _] ⟨rfl, rfl, rfl, rfl, rfl, rfl, trivial⟩ hs35; clear hs35
       refine sq rfl (st_assign hs36 (Ev.t 0 rfl) rfl rfl fun _ _ hs37 => ?_); clear hs36
       have hs38 := Sx.keepT [0, 1, 2, 3, 4, 6] [_, _, _, _, _, _] ⟨rfl, rfl, rfl, rfl, rfl, rfl, trivial⟩ hs37; clear hs37
       refine sq rfl (st_assign hs38 (.const _) rfl rfl fun _ _ hs39 => ?_); clear hs38
       refine hK19 _ _ ?_; clear hK19
       have hs40 := Sx.keepT [0, 1] [_, _] ⟨rfl, rfl, trivial⟩ hs39; clear hs39
       refine cd_retv (vs := [.int .i64 (g.1 : Int), .int .i64 0]) hs40 (fun a_ w_ h => in_ret (th_ret (th_ret (in_ret (th_ret (hQ0 a_ w_ h)))))) rfl ⟨.tmp 1 rfl, .tmp 0 rfl, trivial⟩ ?_
       clear hs40 hQ0 hN0 hK15 hK10
       first | (simp [pack, Book.coalR, hok, hF]; done) | (simp [pack, Book.coalR, hok, hF, hi0]; done) | (simp only [pack, Book.coalR, hok, if_true, hF, if_neg hi0]; done) | simp [pack, Book.coalR, hok]
     · have hno := first_no (f := (fun k : Nat => (b.withCoal (k : Int)).can)) hin hc18
       refine cd_skip ?_
       refine in_norm ?_
       refine th_norm (hK15 _ _ ?_)
       refine cd_region1 ?_
       refine sq rfl (st_move hs34 (Ev.t 1 rfl) rfl rfl fun _ _ hs35 => ?_); clear hs34
       refine sq rfl (st_add (z := (g.1 : Int) + 1) hs35 (Ev.t 0 rfl) (.const _) rfl rfl rfl (by omega) fun _ _ hs36 => ?_); clear hs35
       have hs37 := Sx.keepT [0, 1, 2, 4, 5, 6, 7] [_, _, _, _, _, _, _] ⟨rfl, rfl, rfl, rfl, rfl, rfl, rfl, trivial⟩ hs36; clear hs36
       refine sq rfl (st_assign hs37 (Ev.t 0 rfl) rfl rfl fun _ _ hs38 => ?_); clear hs37
       refine wpListIn_nil ?_
       have hs39 := Sx.keepT [0, 4, 5, 6, 7] [_, _, _, _, _] ⟨rfl, rfl, rfl, rfl, rfl, trivial⟩ hs38; clear hs38
       refine ⟨(g.1 + 1, (⟨(g.1 : Int), (g.1 : Int)⟩ : Span)), ⟨?_, ?_, ?_⟩, by (show b.bunker.toNat + 1 - (g.1 + 1) < b.bunker.toNat + 1 - g.1; omega)⟩
       · exact hin
       · exact hf.trans hno
       exact Sx.keepE [0, 1, 2, 3, 4] _ ⟨⟨_, rfl, rfl⟩, ⟨_, rfl, rfl⟩, ⟨_, rfl, rfl⟩, ⟨_, rfl, rfl⟩, ⟨_, rfl, rfl⟩, trivial⟩ hs39
   · have hin : g.1 = b.bunker.toNat + 1 := by simp at hc14; omega
     have hF : first (fun k : Nat => (b.withCoal (k : Int)).can) (b.bunker.toNat + 1) 0 = -1 := by rw [hf, hin, Nat.sub_self]; rfl
     refine cd_exit ?_
     refine th_exit ?_
     refine th_exit ?_
     refine in_hit ?_
     refine th_norm (hK10 _ _ ?_)
     refine cd_region fun K20 hK20 => ?_
     have hs25 := Sx.keepT [0, 1, 2, 3, 5] [_, _, _, _, _] ⟨rfl, rfl, rfl, rfl, rfl, trivial⟩ hs24; clear hs24
     refine sq rfl (st_assign hs25 (.const _) rfl rfl fun _ _ hs26 => ?_); clear hs25
     have hs27 := Sx.keepT [0, 1, 2, 3, 5] [_, _, _, _, _] ⟨rfl, rfl, rfl, rfl, rfl, trivial⟩ hs26; clear hs26
     refine sq rfl (st_assign hs27 (.const _) rfl rfl fun _ _ hs28 => ?_); clear hs27
     refine hK20 _ _ ?_; clear hK20
     have hs29 := Sx.keepT [0, 1] [_, _] ⟨rfl, rfl, trivial⟩ hs28; clear hs28
     refine cd_retv (vs := [.int .i64 0, .int .i64 4]) hs29 hQ0 rfl ⟨.tmp 1 rfl, .tmp 0 rfl, trivial⟩ ?_
     clear hs29 hQ0 hN0
     first | (simp [pack, Book.coalR, hok, hF]; done) | (simp [pack, Book.coalR, hok, hF, hi0]; done) | (simp only [pack, Book.coalR, hok, if_true, hF, if_neg hi0]; done) | simp [pack, Book.coalR, hok]

theorem rlonger_b (b : Book) (A : Option Addr) (n cp : Nat) (q : Nat) (x : Part) (hx : b.parts[q]? = some x) (d : Int) (hb : Bd b) (hd : 0 ≤ d ∧ d ≤ 100) (w : World) (hP : PartsAt w A n b.parts) (hn : n ≤ 140737488351232) :
    CallsB Tryd.prog 64 [.agg ⟨bookL b A n cp⟩, .int .i64 (q : Int), .int .i64 d] w (fun v bs => ∃ A7 c7 b7 o7, v = .agg ⟨bookL (b.upto q x (x.mi.hi + d)) A7 n c7⟩ ∧ Sx.Own partL 4 66 A7 c7 (b.upto q x (x.mi.hi + d)).parts b7 o7 ∧ bs = [(b7, o7)]) := by
 have hl2 := hP.len
 have hqp := (List.getElem?_eq_some_iff.1 hx).1
 have hxm := (hb.parts q x hx).1 true
 simp only [Span.end, if_true] at hxm
 refine enter (N := 27) (M := []) w Tryd.func64 rfl rfl rfl (fun Q0 a_0 hQ0 hN0 hs0 => ?_)
 refine cd_region fun K1 hK1 => ?_
 refine sq rfl (st_box hs0 (Ev.t 0 rfl) rfl rfl rfl fun b2 _ _ hs1 => ?_); clear hs0
 refine sq rfl (st_alloc hs1 rfl rfl Tryd.zeroValue27 rfl fun b3 _ _ hs2 => ?_); clear hs1
 refine hK1 _ _ ?_; clear hK1
 have hs3 := Sx.keepT [0, 1, 3, 4] [_, _, _, _] ⟨rfl, rfl, rfl, rfl, trivial⟩ hs2; clear hs2
 refine cd_region fun K4 hK4 => ?_
 refine sq rfl (st_loadA (o := 0) (off := 0) (vs := (bookL b A n cp)) hs3 (Ev.t 1 rfl) rfl rfl Tryd.isAgg27 Tryd.sizeOf27 (hs3.cells 1 rfl) rfl fun _ _ hs4 => ?_); clear hs3
 refine sq rfl (st_alloc hs4 rfl rfl Tryd.zeroValue27 rfl fun b5 _ _ hs5 => ?_); clear hs4
 refine sq rfl (st_store (l' := (bookL b A n cp)) (vs := (bookL b A n cp)) (i := 0) hs5 (Ev.t 0 rfl) (Ev.t 1 rfl) Tryd.sizeOf27 rfl rfl rfl rfl rfl rfl fun _ _ hs6 => ?_); clear hs5
 have hs7 := Sx.as (T' := [_, _, _, _, _, _]) (B' := [_, _, _]) rfl rfl hs6; clear hs6
 refine hK4 _ _ ?_; clear hK4
 have hs8 := Sx.keepT [0, 2, 3, 4, 5] [_, _, _, _, _] ⟨rfl, rfl, rfl, rfl, rfl, trivial⟩ hs7; clear hs7
 refine cd_region fun K6 hK6 => ?_
 refine sq rfl (st_buildSlice hs8 (qs := []) (e := 66) (l := []) trivial rfl rfl rfl (fun _ => by kernel_rfl) fun b7 _ _ hs9 => ?_); clear hs8
 refine sq rfl (st_field (o' := 22) hs9 (Ev.t 3 rfl) rfl rfl Tryd.runUnderlying27 rfl Tryd.sizeOf25 rfl rfl fun _ _ hs10 => ?_); clear hs9
 refine sq rfl (st_load1 (o := 0) (off := 22) (v := .slice A n cp) hs10 (Ev.t 0 rfl) rfl rfl Tryd.isAgg25 (hs10.cells 3 rfl) rfl fun _ _ hs11 => ?_); clear hs10
 refine sq rfl (st_append (enc := partL) (zs := ([] : List Part)) (ys := b.parts) (c := 0) (i := 0) hs11 (Ev.t 2 rfl) (Ev.t 0 rfl) rfl rfl Tryd.underlying25 (show (Tryd.prog.info? 66).map (fun i => (i.zero, i.size, i.bytes)) = some (some (.agg #[.int .i64 0, .int .i64 0, .bool false, .int .i64 0]), 4, 32) by kernel_rfl) rfl (fun _ => rfl) (fun _ u hu => by simp only [partL, List.mem_cons, List.not_mem_nil, or_false] at hu; rcases hu with rfl | rfl | rfl | rfl <;> rfl) (.inl ⟨rfl, rfl⟩) rfl (hP.kp hs11.kp) (by have := hb.len; simp; omega) (by have := hb.len; simp; omega) (fun A7 c7 bq oq a_12 w_12 hown hs12 => ?_)); clear hs11
 have hs13 : Sx 27 [] [(12, .slice A7 (([] : List Part).length + n) c7), (11, .slice A n cp), (10, .pointer (some ⟨b2, 22, none⟩)), (9, .slice (some ⟨b7, 0, none⟩) 0 0), (7, .pointer (some ⟨b5, 0, none⟩)), (6, .pointer (some ⟨b3, 0, none⟩)), (3, .pointer (some ⟨b2, 0, none⟩)), (1, .int .i64 (q : Int)), (2, .int .i64 d)] [(bq, oq), (b5, some (.cells ⟨(bookL b A n cp)⟩ 27 (0, 0))), (b3, some (.cells ⟨[.int .i64 0, .int .i64 0, .int .i64 0, .int .i64 0, .int .i64 0, .int .i64 0, .int .i64 0, .int .i64 0, .int .i64 0, .int .i64 0, .int .i64 0, .int .i64 0, .int .i64 0, .int .i64 0, .int .i64 0, .int .i64 0, .int .i64 0, .int .i64 0, .int .i64 0, .int .i64 0, .int .i64 0, .int .i64 0, .slice none 0 0]⟩ 27 (0, 0))), (b2, some (.cells ⟨(bookL b A n cp)⟩ 27 (0, 0)))] [] w _ _ := hs12; clear hs12
 rw [List.nil_append] at hown
 have hs14 := Sx.keepE [0, 1, 2, 3, 4, 5, 6, 7, 8] [(12, .slice A7 n c7), (11, _), (10, _), (9, _), (7, _), (6, _), (3, _), (1, _), (2, _)] ⟨⟨_, rfl, (by simp)⟩, ⟨_, rfl, rfl⟩, ⟨_, rfl, rfl⟩, ⟨_, rfl, rfl⟩, ⟨_, rfl, rfl⟩, ⟨_, rfl, rfl⟩, ⟨_, rfl, rfl⟩, ⟨_, rfl, rfl⟩, ⟨_, rfl, rfl⟩, trivial⟩ hs13; clear hs13
 refine sq rfl (st_field (o' := 22) hs14 (Ev.t 4 rfl) rfl rfl Tryd.runUnderlying27 rfl Tryd.sizeOf25 rfl rfl fun _ _ hs15 => ?_); clear hs14
 refine sq rfl (st_store (l' := [.int .i64 b.coal.lo, .int .i64 b.coal.hi, .int .i64 b.water.lo, .int .i64 b.water.hi, .int .i64 b.bunker, .int .i64 b.tank, .int .i64 b.scoop, .int .i64 b.pail, .int .i64 b.burn0.lo, .int .i64 b.burn0.hi, .int .i64 b.burn1.lo, .int .i64 b.burn1.hi, .int .i64 b.drink0.lo, .int .i64 b.drink0.hi, .int .i64 b.drink1.lo, .int .i64 b.drink1.hi, .int .i64 b.full.lo, .int .i64 b.full.hi, .int .i64 b.weak.lo, .int .i64 b.weak.hi, .int .i64 b.mark, .int .i64 b.lamp, .slice A7 n c7]) (vs := [.slice A7 n c7]) (i := 1) hs15 (Ev.t 0 rfl) (Ev.t 1 rfl) Tryd.sizeOf25 rfl rfl rfl rfl rfl rfl fun _ _ hs16 => ?_); clear hs15
 have hs17 := Sx.as (T' := [_, _, _, _, _, _, _, _, _, _]) (B' := [_, _, _, _]) rfl rfl hs16; clear hs16
 refine hK6 _ _ ?_; clear hK6
 have hs18 := Sx.keepT [5, 6, 8, 9] [_, _, _, _] ⟨rfl, rfl, rfl, rfl, trivial⟩ hs17; clear hs17
 refine cd_region fun K8 hK8 => ?_
 refine sq rfl (st_field (o' := 22) hs18 (Ev.t 0 rfl) rfl rfl Tryd.runUnderlying27 rfl Tryd.sizeOf25 rfl rfl fun _ _ hs19 => ?_); clear hs18
 refine sq rfl (st_load1 (o := 0) (off := 22) (v := .slice A7 n c7) hs19 (Ev.t 0 rfl) rfl rfl Tryd.isAgg25 (hs19.cells 1 rfl) rfl fun _ _ hs20 => ?_); clear hs19
 refine sq rfl (st_move hs20 (Ev.t 4 rfl) rfl rfl fun _ _ hs21 => ?_); clear hs20
 obtain ⟨hA9, l9, ho9, hr9⟩ := hown.open hx
 refine sq rfl (st_indexM (o' := q * 4) hs21 (Ev.t 1 rfl) (Ev.t 0 rfl) rfl rfl hA9 Tryd.runUnderlying25 Tryd.sizeOf66 ⟨by omega, by have := (List.getElem?_eq_some_iff.1 hx).1; omega⟩ (by simp) fun _ _ hs22 => ?_); clear hs21
 refine sq rfl (st_field (o' := q * 4) hs22 (Ev.t 0 rfl) rfl rfl Tryd.runUnderlying66 rfl Tryd.sizeOf23 rfl rfl fun _ _ hs23 => ?_); clear hs22
 refine sq rfl (st_field (o' := q * 4 + 1) hs23 (Ev.t 0 rfl) rfl rfl Tryd.runUnderlying23 rfl Tryd.sizeOf3 rfl rfl fun _ _ hs24 => ?_); clear hs23
 refine sq rfl (st_load1 (o := (q * 4)) (off := 1) (v := .int .i64 x.mi.hi) hs24 (Ev.t 0 rfl) rfl rfl Tryd.isAgg3 (hr9.at (hs24.cellsO 0 rfl ho9) hx) rfl fun _ _ hs25 => ?_); clear hs24
 refine sq rfl (st_move hs25 (Ev.t 10 rfl) rfl rfl fun _ _ hs26 => ?_); clear hs25
 refine sq rfl (st_add (z := x.mi.hi + d) hs26 (Ev.t 1 rfl) (Ev.t 0 rfl) rfl rfl rfl (by omega) fun _ _ hs27 => ?_); clear hs26
 refine sq rfl (st_indexM (o' := q * 4) hs27 (Ev.t 7 rfl) (Ev.t 6 rfl) rfl rfl hA9 Tryd.runUnderlying25 Tryd.sizeOf66 ⟨by omega, by have := (List.getElem?_eq_some_iff.1 hx).1; omega⟩ (by simp) fun _ _ hs28 => ?_); clear hs27
 refine sq rfl (st_field (o' := q * 4) hs28 (Ev.t 0 rfl) rfl rfl Tryd.runUnderlying66 rfl Tryd.sizeOf23 rfl rfl fun _ _ hs29 => ?_); clear hs28
 refine sq rfl (st_field (o' := q * 4 + 1) hs29 (Ev.t 0 rfl) rfl rfl Tryd.runUnderlying23 rfl Tryd.sizeOf3 rfl rfl fun _ _ hs30 => ?_); clear hs29
 refine sq rfl (st_storeOwn (enc := partL) (sz := 4) (off := 1) (kk := q) (i := 0) (u := x) (u' := x.upto (x.mi.hi + d)) hs30 (Ev.t 0 rfl) (Ev.t 3 rfl) Tryd.sizeOf3 rfl hown hx (fun _ => rfl) (by decide) rfl rfl rfl (fun o8 a_31 w_31 hown8 hs31 => ?_)); clear hs30
 have hs32 : Sx 27 [] [(25, .pointer (some ⟨bq, q * 4 + 1, none⟩)), (24, .pointer (some ⟨bq, q * 4, none⟩)), (23, .pointer (some ⟨bq, q * 4, none⟩)), (22, .int .i64 (x.mi.hi + d)), (21, .int .i64 d), (20, .int .i64 x.mi.hi), (19, .pointer (some ⟨bq, q * 4 + 1, none⟩)), (18, .pointer (some ⟨bq, q * 4, none⟩)), (17, .pointer (some ⟨bq, q * 4, none⟩)), (16, .int .i64 (q : Int)), (15, .slice A7 n c7), (14, .pointer (some ⟨b5, 22, none⟩)), (7, .pointer (some ⟨b5, 0, none⟩)), (6, .pointer (some ⟨b3, 0, none⟩)), (1, .int .i64 (q : Int)), (2, .int .i64 d)] [(bq, o8), (b5, some (.cells ⟨[.int .i64 b.coal.lo, .int .i64 b.coal.hi, .int .i64 b.water.lo, .int .i64 b.water.hi, .int .i64 b.bunker, .int .i64 b.tank, .int .i64 b.scoop, .int .i64 b.pail, .int .i64 b.burn0.lo, .int .i64 b.burn0.hi, .int .i64 b.burn1.lo, .int .i64 b.burn1.hi, .int .i64 b.drink0.lo, .int .i64 b.drink0.hi, .int .i64 b.drink1.lo, .int .i64 b.drink1.hi, .int .i64 b.full.lo, .int .i64 b.full.hi, .int .i64 b.weak.lo, .int .i64 b.weak.hi, .int .i64 b.mark, .int .i64 b.lamp, .slice A7 n c7]⟩ 27 (0, 0))), (b3, some (.cells ⟨[.int .i64 0, .int .i64 0, .int .i64 0, .int .i64 0, .int .i64 0, .int .i64 0, .int .i64 0, .int .i64 0, .int .i64 0, .int .i64 0, .int .i64 0, .int .i64 0, .int .i64 0, .int .i64 0, .int .i64 0, .int .i64 0, .int .i64 0, .int .i64 0, .int .i64 0, .int .i64 0, .int .i64 0, .int .i64 0, .slice none 0 0]⟩ 27 (0, 0))), (b2, some (.cells ⟨(bookL b A n cp)⟩ 27 (0, 0)))] [] w _ _ := hs31; clear hs31
 refine hK8 _ _ ?_; clear hK8
 have hs33 := Sx.keepT [12, 13] [_, _] ⟨rfl, rfl, trivial⟩ hs32; clear hs32
 refine cd_region fun K10 hK10 => ?_
 refine sq rfl (st_loadA (o := 0) (off := 0) (vs := [.int .i64 b.coal.lo, .int .i64 b.coal.hi, .int .i64 b.water.lo, .int .i64 b.water.hi, .int .i64 b.bunker, .int .i64 b.tank, .int .i64 b.scoop, .int .i64 b.pail, .int .i64 b.burn0.lo, .int .i64 b.burn0.hi, .int .i64 b.burn1.lo, .int .i64 b.burn1.hi, .int .i64 b.drink0.lo, .int .i64 b.drink0.hi, .int .i64 b.drink1.lo, .int .i64 b.drink1.hi, .int .i64 b.full.lo, .int .i64 b.full.hi, .int .i64 b.weak.lo, .int .i64 b.weak.hi, .int .i64 b.mark, .int .i64 b.lamp, .slice A7 n c7]) hs33 (Ev.t 0 rfl) rfl rfl Tryd.isAgg27 Tryd.sizeOf27 (hs33.cells 1 rfl) rfl fun _ _ hs34 => ?_); clear hs33
 refine sq rfl (st_store (l' := [.int .i64 b.coal.lo, .int .i64 b.coal.hi, .int .i64 b.water.lo, .int .i64 b.water.hi, .int .i64 b.bunker, .int .i64 b.tank, .int .i64 b.scoop, .int .i64 b.pail, .int .i64 b.burn0.lo, .int .i64 b.burn0.hi, .int .i64 b.burn1.lo, .int .i64 b.burn1.hi, .int .i64 b.drink0.lo, .int .i64 b.drink0.hi, .int .i64 b.drink1.lo, .int .i64 b.drink1.hi, .int .i64 b.full.lo, .int .i64 b.full.hi, .int .i64 b.weak.lo, .int .i64 b.weak.hi, .int .i64 b.mark, .int .i64 b.lamp, .slice A7 n c7]) (vs := [.int .i64 b.coal.lo, .int .i64 b.coal.hi, .int .i64 b.water.lo, .int .i64 b.water.hi, .int .i64 b.bunker, .int .i64 b.tank, .int .i64 b.scoop, .int .i64 b.pail, .int .i64 b.burn0.lo, .int .i64 b.burn0.hi, .int .i64 b.burn1.lo, .int .i64 b.burn1.hi, .int .i64 b.drink0.lo, .int .i64 b.drink0.hi, .int .i64 b.drink1.lo, .int .i64 b.drink1.hi, .int .i64 b.full.lo, .int .i64 b.full.hi, .int .i64 b.weak.lo, .int .i64 b.weak.hi, .int .i64 b.mark, .int .i64 b.lamp, .slice A7 n c7]) (i := 2) hs34 (Ev.t 2 rfl) (Ev.t 0 rfl) Tryd.sizeOf27 rfl rfl rfl rfl rfl rfl fun _ _ hs35 => ?_); clear hs34
 have hs36 := Sx.as (T' := [_, _, _]) (B' := [_, _, _, _]) rfl rfl hs35; clear hs35
 refine hK10 _ _ ?_; clear hK10
 have hs37 := Sx.keepT [2] [_] ⟨rfl, trivial⟩ hs36; clear hs36
 exact cd_ret (vs := [.agg ⟨[.int .i64 b.coal.lo, .int .i64 b.coal.hi, .int .i64 b.water.lo, .int .i64 b.water.hi, .int .i64 b.bunker, .int .i64 b.tank, .int .i64 b.scoop, .int .i64 b.pail, .int .i64 b.burn0.lo, .int .i64 b.burn0.hi, .int .i64 b.burn1.lo, .int .i64 b.burn1.hi, .int .i64 b.drink0.lo, .int .i64 b.drink0.hi, .int .i64 b.drink1.lo, .int .i64 b.drink1.hi, .int .i64 b.full.lo, .int .i64 b.full.hi, .int .i64 b.weak.lo, .int .i64 b.weak.hi, .int .i64 b.mark, .int .i64 b.lamp, .slice A7 n c7]⟩]) (bs := [(bq, o8)]) hs37 hQ0 rfl ⟨resA (o := 0) (off := 0) (vs := [.int .i64 b.coal.lo, .int .i64 b.coal.hi, .int .i64 b.water.lo, .int .i64 b.water.hi, .int .i64 b.bunker, .int .i64 b.tank, .int .i64 b.scoop, .int .i64 b.pail, .int .i64 b.burn0.lo, .int .i64 b.burn0.hi, .int .i64 b.burn1.lo, .int .i64 b.burn1.hi, .int .i64 b.drink0.lo, .int .i64 b.drink0.hi, .int .i64 b.drink1.lo, .int .i64 b.drink1.hi, .int .i64 b.full.lo, .int .i64 b.full.hi, .int .i64 b.weak.lo, .int .i64 b.weak.hi, .int .i64 b.mark, .int .i64 b.lamp, .slice A7 n c7]) 0 rfl Tryd.isAgg27 Tryd.sizeOf27 (hs37.cells 2 rfl) rfl, trivial⟩ (.cons_cons _ (List.nil_sublist _)) ⟨A7, c7, bq, o8, rfl, hown8, rfl⟩

theorem rLonger_v (b : Book) (A : Option Addr) (n cp : Nat) (k : Int) (w : World) (hP : PartsAt w A n b.parts) (hn : n ≤ 140737488351232) :
    CallsV Tryd.prog 29 [.agg ⟨(bookL b A n cp)⟩, .int .i64 k] w (.tuple ⟨[.int .i64 ((b.longerR k).1), .int .i64 ((b.longerR k).2)]⟩) := by
 refine enter (N := 34) (M := []) w Tryd.func29 rfl rfl rfl (fun Q0 a_0 hQ0 hN0 hs0 => ?_)
 refine cd_region fun K1 hK1 => ?_
 refine sq rfl (st_box hs0 (Ev.t 0 rfl) rfl rfl rfl fun b2 _ _ hs1 => ?_); clear hs0
 refine sq rfl (st_assign hs1 (.const _) rfl rfl fun _ _ hs2 => ?_); clear hs1
 refine sq rfl (st_assign hs2 (.const _) rfl rfl fun _ _ hs3 => ?_); clear hs2
 refine hK1 _ _ ?_; clear hK1
 have hs4 := Sx.keepT [0, 1, 2, 4] [_, _, _, _] ⟨rfl, rfl, rfl, rfl, trivial⟩ hs3; clear hs3
 refine cd_seq fun K3 hK3 => ?_
 refine cd_region fun K4 hK4 => ?_
 refine sq rfl (st_loadA (o := 0) (off := 0) (vs := (bookL b A n cp)) hs4 (Ev.t 2 rfl) rfl rfl Tryd.isAgg27 Tryd.sizeOf27 (hs4.cells 0 rfl) rfl fun _ _ hs5 => ?_); clear hs4
 refine sq rfl (st_callv (vs := [.agg ⟨(bookL b A n cp)⟩]) hs5 (.func _) ⟨(Ev.t 0 rfl), trivial⟩ rfl rfl Tryd.call17 rfl (rcheck_v b A n cp _ (hP.kp hs5.kp) hn) fun _ _ hs6 => ?_); clear hs5
 refine sq rfl (st_assign hs6 (Ev.t 0 rfl) rfl rfl fun _ _ hs7 => ?_); clear hs6
 refine hK4 _ _ ?_; clear hK4
 have hs8 := Sx.keepT [0, 3, 4, 5, 6] [_, _, _, _, _] ⟨rfl, rfl, rfl, rfl, rfl, trivial⟩ hs7; clear hs7
 refine cd_region fun K5 hK5 => ?_
 refine sq rfl (st_move hs8 (Ev.t 0 rfl) rfl rfl fun _ _ hs9 => ?_); clear hs8
 refine sq rfl (st_cmp (c := (if b.ok then 0 else 40 : Int) != 0) hs9 (Ev.t 0 rfl) (.const _) rfl rfl rfl rfl fun _ _ hs10 => ?_); clear hs9
 refine hK5 _ _ ?_; clear hK5
 have hs11 := Sx.keepT [0, 2, 3, 4, 5, 6] [_, _, _, _, _, _] ⟨rfl, rfl, rfl, rfl, rfl, rfl, trivial⟩ hs10; clear hs10
 refine cd_cond hs11 (Ev.t 0 rfl) (fun hc6 => ?_) (fun hc6 => ?_)
 · have hok : b.ok = false := by cases h : b.ok <;> simp [h] at hc6 ⊢
   refine cd_region fun K7 hK7 => ?_
   refine sq rfl (st_move hs11 (Ev.t 1 rfl) rfl rfl fun _ _ hs12 => ?_); clear hs11
   have hs13 := Sx.keepT [0, 1, 2, 3, 5, 6] [_, _, _, _, _, _] ⟨rfl, rfl, rfl, rfl, rfl, rfl, trivial⟩ hs12; clear hs12
   refine sq rfl (st_assign hs13 (.const _) rfl rfl fun _ _ hs14 => ?_); clear hs13
   have hs15 := Sx.keepT [0, 1, 2, 3, 5, 6] [_, _, _, _, _, _] ⟨rfl, rfl, rfl, rfl, rfl, rfl, trivial⟩ hs14; clear hs14
   refine sq rfl (st_assign hs15 (Ev.t 1 rfl) rfl rfl fun _ _ hs16 => ?_); clear hs15
   refine hK7 _ _ ?_; clear hK7
   have hs17 := Sx.keepT [0, 1] [_, _] ⟨rfl, rfl, trivial⟩ hs16; clear hs16
   refine cd_retv (vs := [.int .i64 0, .int .i64 (if b.ok then 0 else 40)]) hs17 (fun a_ w_ h => th_ret (hQ0 a_ w_ h)) rfl ⟨.tmp 1 rfl, .tmp 0 rfl, trivial⟩ ?_
   clear hs17 hQ0 hN0 hK3
   first | (simp [pack, Book.longerR, hok, hwl, hqn, hx, hF]; done) | (simp [pack, Book.longerR, hok, hwl, hqn, hx, hF, hi0]; done) | (simp only [pack, Book.longerR, hok, hwl, hqn, hx, hF, if_true, if_neg hi0]; done) | (simp [pack, Book.longerR, hok, hwl]; done) | simp [pack, Book.longerR, hok]
 · have hok : b.ok = true := by cases h : b.ok <;> simp [h] at hc6 ⊢
   have hb := ok_bd hok
   refine cd_skip ?_
   refine th_norm (hK3 _ _ ?_)
   refine cd_seq fun K8 hK8 => ?_
   refine cd_region fun K9 hK9 => ?_
   refine sq rfl (st_move hs11 (Ev.t 5 rfl) rfl rfl fun _ _ hs12 => ?_); clear hs11
   refine sq rfl (st_field (o' := 22) hs12 (Ev.t 5 rfl) rfl rfl Tryd.runUnderlying27 rfl Tryd.sizeOf25 rfl rfl fun _ _ hs13 => ?_); clear hs12
   refine sq rfl (st_load1 (o := 0) (off := 22) (v := .slice A n cp) hs13 (Ev.t 0 rfl) rfl rfl Tryd.isAgg25 (hs13.cells 0 rfl) rfl fun _ _ hs14 => ?_); clear hs13
   refine sq rfl (st_len hs14 (Ev.t 0 rfl) rfl rfl Tryd.runUnderlying25 fun _ _ hs15 => ?_); clear hs14
   refine sq rfl (st_sub (z := (n : Int) - 1) hs15 (Ev.t 0 rfl) (.const _) rfl rfl rfl (by omega) fun _ _ hs16 => ?_); clear hs15
   refine sq rfl (st_callv (vs := [.int .i64 k, .int .i64 0, .int .i64 ((n : Int) - 1)]) hs16 (.func _) ⟨(Ev.t 4 rfl), (.const _), (Ev.t 0 rfl), trivial⟩ rfl rfl Tryd.call37 rfl (amid_v k 0 ((n : Int) - 1) _) fun _ _ hs17 => ?_); clear hs16
   refine sq rfl (st_not hs17 (Ev.t 0 rfl) rfl rfl fun _ _ hs18 => ?_); clear hs17
   refine hK9 _ _ ?_; clear hK9
   have hs19 := Sx.keepT [0, 9, 10, 11, 12] [_, _, _, _, _] ⟨rfl, rfl, rfl, rfl, rfl, trivial⟩ hs18; clear hs18
   refine cd_cond hs19 (Ev.t 0 rfl) (fun hc10 => ?_) (fun hc10 => ?_)
   · have hwl : ¬ (within k 0 ((b.parts.length : Int) - 1) = true) := by rw [← hP.len]; intro h1; simp [h1] at hc10
     refine cd_region fun K11 hK11 => ?_
     have hs20 := Sx.keepT [0, 1, 3, 4] [_, _, _, _] ⟨rfl, rfl, rfl, rfl, trivial⟩ hs19; clear hs19
     refine sq rfl (st_assign hs20 (.const _) rfl rfl fun _ _ hs21 => ?_); clear hs20
     have hs22 := Sx.keepT [0, 1, 3, 4] [_, _, _, _] ⟨rfl, rfl, rfl, rfl, trivial⟩ hs21; clear hs21
     refine sq rfl (st_assign hs22 (.const _) rfl rfl fun _ _ hs23 => ?_); clear hs22
     refine hK11 _ _ ?_; clear hK11
     have hs24 := Sx.keepT [0, 1] [_, _] ⟨rfl, rfl, trivial⟩ hs23; clear hs23
     refine cd_retv (vs := [.int .i64 0, .int .i64 41]) hs24 (fun a_ w_ h => th_ret (hQ0 a_ w_ h)) rfl ⟨.tmp 1 rfl, .tmp 0 rfl, trivial⟩ ?_
     clear hs24 hQ0 hN0 hK8
     first | (simp [pack, Book.longerR, hok, hwl, hqn, hx, hF]; done) | (simp [pack, Book.longerR, hok, hwl, hqn, hx, hF, hi0]; done) | (simp only [pack, Book.longerR, hok, hwl, hqn, hx, hF, if_true, if_neg hi0]; done) | (simp [pack, Book.longerR, hok, hwl]; done) | simp [pack, Book.longerR, hok]
   · simp only [Bool.not_eq_false'] at hc10
     have hwi := hc10
     have hwj := Eng.within_iff.1 hwi
     have hl2 := hP.len
     have hwl : within k 0 ((b.parts.length : Int) - 1) = true := by rw [← hl2]; exact hwi
     obtain ⟨q, hq⟩ : ∃ q : Nat, (q : Int) = k := ⟨k.toNat, Int.toNat_of_nonneg hwj.1⟩
     have hqn : k.toNat = q := by omega
     have hqp : q < b.parts.length := by omega
     obtain ⟨x, hx⟩ : ∃ x, b.parts[q]? = some x := ⟨_, List.getElem?_eq_getElem hqp⟩
     have hx60 := ok_hi hok hx
     have hxm := (hb.parts q x hx).1 true
     simp only [Span.end, if_true] at hxm
     have hs20 := Sx.keepE [0, 1, 2, 3, 4] [(20, _), (5, _), (4, _), (2, _), (1, .int .i64 (q : Int))] ⟨⟨_, rfl, rfl⟩, ⟨_, rfl, rfl⟩, ⟨_, rfl, rfl⟩, ⟨_, rfl, rfl⟩, ⟨_, rfl, (by rw [hq])⟩, trivial⟩ hs19; clear hs19
     obtain ⟨b12, o12, hA12, -, hc12⟩ := hP.el q x hx
     refine cd_skip ?_
     refine th_norm (hK8 _ _ ?_)
     refine cd_seq fun K13 hK13 => ?_
     refine cd_region fun K14 hK14 => ?_
     refine sq rfl (st_assign hs20 (.const _) rfl rfl fun _ _ hs21 => ?_); clear hs20
     refine hK14 _ _ ?_; clear hK14
     have hs22 := Sx.keepT [0, 2, 3, 4, 5] [_, _, _, _, _] ⟨rfl, rfl, rfl, rfl, rfl, trivial⟩ hs21; clear hs21
     refine cd_block ?_
     have hs23 : Sx 34 [] [(7, .int .i64 ((61 : Int) - 1)), (5, .int .i64 0), (4, .int .i64 0), (2, .pointer (some ⟨b2, 0, none⟩)), (1, .int .i64 (q : Int))] [(b2, some (.cells ⟨(bookL b A n cp)⟩ 27 (0, 0)))] [] w _ _ := Sx.keepE [0, 1, 2, 3, 4] _ ⟨⟨_, rfl, rfl⟩, ⟨_, rfl, rfl⟩, ⟨_, rfl, rfl⟩, ⟨_, rfl, rfl⟩, ⟨_, rfl, rfl⟩, trivial⟩ hs22; clear hs22
     refine cd_loop (X := Nat) (fun j a_ w_ => (j ≤ 61) ∧ (b.longest q x 61 = b.longest q x j) ∧ Sx 34 [] [(7, .int .i64 ((j : Int) - 1)), (5, .int .i64 0), (4, .int .i64 0), (2, .pointer (some ⟨b2, 0, none⟩)), (1, .int .i64 (q : Int))] [(b2, some (.cells ⟨(bookL b A n cp)⟩ 27 (0, 0)))] [] w a_ w_) (fun j => j) (61) ⟨?_, ?_, hs23⟩ ?_
     · exact Nat.le_refl _
     · rfl
     intro j a_24 w_24 ⟨hj, hf, hs24⟩; clear hs23
     refine cd_seq fun K15 hK15 => ?_
     refine cd_region fun K16 hK16 => ?_
     refine sq rfl (st_move hs24 (Ev.t 0 rfl) rfl rfl fun _ _ hs25 => ?_); clear hs24
     refine sq rfl (st_cmp (c := decide (((j : Int) - 1 : Int) ≥ 0)) hs25 (Ev.t 0 rfl) (.const _) rfl rfl rfl rfl fun _ _ hs26 => ?_); clear hs25
     refine hK16 _ _ ?_; clear hK16
     have hs27 := Sx.keepT [0, 2, 3, 4, 5, 6] [_, _, _, _, _, _] ⟨rfl, rfl, rfl, rfl, rfl, rfl, trivial⟩ hs26; clear hs26
     refine cd_cond hs27 (Ev.t 0 rfl) (fun hc17 => ?_) (fun hc17 => ?_)
     · have hjp : 0 < j := by simp at hc17; omega
       refine cd_skip ?_
       refine th_norm (hK15 _ _ ?_)
       refine cd_seq fun K18 hK18 => ?_
       refine cd_block ?_
       refine cd_region fun K19 hK19 => ?_
       refine sq rfl (st_loadA (o := 0) (off := 0) (vs := (bookL b A n cp)) hs27 (Ev.t 4 rfl) rfl rfl Tryd.isAgg27 Tryd.sizeOf27 (hs27.cells 0 rfl) rfl fun _ _ hs28 => ?_); clear hs27
       refine sq rfl (st_move hs28 (Ev.t 6 rfl) rfl rfl fun _ _ hs29 => ?_); clear hs28
       refine sq rfl (st_move hs29 (Ev.t 3 rfl) rfl rfl fun _ _ hs30 => ?_); clear hs29
       refine sq rfl (st_call (vs := [.agg ⟨(bookL b A n cp)⟩, .int .i64 (q : Int), .int .i64 ((j : Int) - 1)]) hs30 (.func _) ⟨(Ev.t 2 rfl), (Ev.t 1 rfl), (Ev.t 0 rfl), trivial⟩ rfl rfl Tryd.call64 rfl (rlonger_b b A n cp q x hx ((j : Int) - 1) hb (by omega) _ (hP.kp hs30.kp) hn) fun v21 bs22 a_31 w_31 hp31 hs31 => ?_); clear hs30
       obtain ⟨A20, c20, b20, o20, rfl, hw20, rfl⟩ := hp31
       have hs32 := Sx.as (T' := [_, _, _, _, _, _, _, _, _, _]) (B' := [_, _]) rfl rfl hs31; clear hs31
       refine sq rfl (st_alloc hs32 rfl rfl Tryd.zeroValue27 rfl fun b23 _ _ hs33 => ?_); clear hs32
       refine sq rfl (st_store (l' := (bookL (b.upto q x (x.mi.hi + ((j : Int) - 1))) A20 n c20)) (vs := (bookL (b.upto q x (x.mi.hi + ((j : Int) - 1))) A20 n c20)) (i := 0) hs33 (Ev.t 0 rfl) (Ev.t 1 rfl) Tryd.sizeOf27 rfl rfl rfl rfl rfl rfl fun _ _ hs34 => ?_); clear hs33
       have hs35 := Sx.as (T' := [_, _, _, _, _, _, _, _, _, _, _]) (B' := [_, _, _]) rfl rfl hs34; clear hs34
       refine hK19 _ _ ?_; clear hK19
       have hs36 := Sx.keepT [0, 6, 7, 8, 9, 10] [_, _, _, _, _, _] ⟨rfl, rfl, rfl, rfl, rfl, rfl, trivial⟩ hs35; clear hs35
       refine cd_drawn mixed hs36 [⟨29, [], Is (.agg ⟨(bookL (b.upto q x (x.mi.hi + ((j : Int) - 1))) A20 n c20)⟩)⟩,
      ⟨30, [], Is (.agg ⟨(bookL (b.upto q x (x.mi.hi + ((j : Int) - 1))) A20 n c20)⟩)⟩,
      ⟨31, [1], Is (.agg ⟨[.int .i64 ((b.upto q x (x.mi.hi + ((j : Int) - 1))).coal.lo), .int .i64 ((b.upto q x (x.mi.hi + ((j : Int) - 1))).coal.hi), .int .i64 ((b.upto q x (x.mi.hi + ((j : Int) - 1))).water.lo), .int .i64 ((b.upto q x (x.mi.hi + ((j : Int) - 1))).water.hi)]⟩)⟩,
      ⟨32, [0, 2], Is (.bool ((b.upto q x (x.mi.hi + ((j : Int) - 1))).can))⟩] (by kernel_rfl) (by kernel_rfl) fun K24 hK24 => ⟨⟨?_, ?_, ?_, ?_, trivial⟩, ?_⟩
       · intro T_ B_ a_ w_ K_ hT hB
         intro hf hsD hk
         exact ob rfl rfl (st_loadA (o := 0) (off := 0) (vs := (bookL (b.upto q x (x.mi.hi + ((j : Int) - 1))) A20 n c20)) hsD (Ev.tmp (hT _ (mem_nth (i := 0) rfl))) rfl hf Tryd.isAgg27 Tryd.sizeOf27 (hsD.cellsM (hB _ (mem_nth (i := 0) rfl))) rfl fun a_1 w_1 h1 => hk _ _ _ _ ⟨rfl, rfl⟩ h1)
       · intro T_ B_ a_ w_ K_ hT hB
         intro hf hsD hk
         exact ob rfl rfl (st_loadA (o := 0) (off := 0) (vs := (bookL (b.upto q x (x.mi.hi + ((j : Int) - 1))) A20 n c20)) hsD (Ev.tmp (hT _ (mem_nth (i := 0) rfl))) rfl hf Tryd.isAgg27 Tryd.sizeOf27 (hsD.cellsM (hB _ (mem_nth (i := 0) rfl))) rfl fun a_1 w_1 h1 => hk _ _ _ _ ⟨rfl, rfl⟩ h1)
       · intro T_ B_ a_ w_ K_ hT hB
         rintro _ _ ⟨rfl, rfl⟩ h30 -
         intro hf hsD hk
         exact ob rfl rfl (st_callv (vs := [.agg ⟨(bookL (b.upto q x (x.mi.hi + ((j : Int) - 1))) A20 n c20)⟩]) hsD (.func _) ⟨(Ev.tmp h30), trivial⟩ rfl hf Tryd.call55 rfl (rat_v (b.upto q x (x.mi.hi + ((j : Int) - 1))) A20 n c20 _) fun a_1 w_1 h1 => hk _ _ _ _ ⟨rfl, rfl⟩ h1)
       · intro T_ B_ a_ w_ K_ hT hB
         rintro _ _ ⟨rfl, rfl⟩ h29 -
         rintro _ _ ⟨rfl, rfl⟩ h31 -
         intro hf hsD hk
         exact ob rfl rfl (st_callv (vs := [.agg ⟨(bookL (b.upto q x (x.mi.hi + ((j : Int) - 1))) A20 n c20)⟩, .agg ⟨[.int .i64 ((b.upto q x (x.mi.hi + ((j : Int) - 1))).coal.lo), .int .i64 ((b.upto q x (x.mi.hi + ((j : Int) - 1))).coal.hi), .int .i64 ((b.upto q x (x.mi.hi + ((j : Int) - 1))).water.lo), .int .i64 ((b.upto q x (x.mi.hi + ((j : Int) - 1))).water.hi)]⟩, .int .i64 0]) hsD (.func _) ⟨(Ev.tmp h29), (Ev.tmp h31), (.const _), trivial⟩ rfl hf Tryd.call63 rfl ((by have h := can_at (b.upto q x (x.mi.hi + ((j : Int) - 1))) A20 n c20 (upto_bd hb hx (by omega)) hn _ (by rw [show n = (b.upto q x (x.mi.hi + ((j : Int) - 1))).parts.length from by simp only [Book.upto, List.length_set]; exact hl2]; exact hw20.atMem hsD (fun _ => (hB _ (mem_nth (i := 1) rfl)))); rw [← can_eq (upto_bd hb hx (by omega))] at h; exact h)) fun a_1 w_1 h1 => hk _ _ _ _ ⟨rfl, rfl⟩ h1)
       rintro _ _ ⟨rfl, rfl⟩
       rintro _ _ ⟨rfl, rfl⟩
       rintro _ _ ⟨rfl, rfl⟩
       rintro _ _ ⟨rfl, rfl⟩
       intro a_37 w_37 hs37
       clear hs36
       have hs38 := Sx.as (T' := [_, _, _, _, _, _, _, _, _, _]) (B' := [_, _, _]) rfl rfl hs37; clear hs37
       refine hK24 _ _ ?_; clear hK24
       have hs39 := Sx.keepT [3, 5, 6, 7, 8, 9] [_, _, _, _, _, _] ⟨rfl, rfl, rfl, rfl, rfl, rfl, trivial⟩ hs38; clear hs38
       refine cd_cond hs39 (Ev.t 0 rfl) (fun hc25 => ?_) (fun hc25 => ?_)
       · have hF := hf.trans (longest_yes hjp hc25); have hi0 : ¬ ((j : Int) - 1 < 0) := by omega
         refine cd_region fun K26 hK26 => ?_
         refine sq rfl (st_move hs39 (Ev.t 1 rfl) rfl rfl fun _ _ hs40 => ?_); clear hs39
         have hs41 := Sx.keepT [0, 1, 2, 3, 5, 6] [_, _, _, _, _, _] ⟨rfl, rfl, rfl, rfl, rfl, rfl, trivial⟩ hs40; clear hs40
         refine sq rfl (st_assign hs41 (Ev.t 0 rfl) rfl rfl fun _ _ hs42 => ?_); clear hs41
         have hs43 := Sx.keepT [0, 1, 2, 3, 5, 6] [_, _, _, _, _, _] ⟨rfl, rfl, rfl, rfl, rfl, rfl, trivial⟩ hs42; clear hs42
         refine sq rfl (st_assign hs43 (.const _) rfl rfl fun _ _ hs44 => ?_); clear hs43
         refine hK26 _ _ ?_; clear hK26
         have hs45 := Sx.keepT [0, 1] [_, _] ⟨rfl, rfl, trivial⟩ hs44; clear hs44
         refine cd_retv (vs := [.int .i64 ((j : Int) - 1), .int .i64 0]) hs45 (fun a_ w_ h => in_ret (th_ret (th_ret (in_ret (th_ret (hQ0 a_ w_ h)))))) rfl ⟨.tmp 1 rfl, .tmp 0 rfl, trivial⟩ ?_
         clear hs45 hQ0 hN0 hK18 hK13
         first | (simp [pack, Book.longerR, hok, hwl, hqn, hx, hF]; done) | (simp [pack, Book.longerR, hok, hwl, hqn, hx, hF, hi0]; done) | (simp only [pack, Book.longerR, hok, hwl, hqn, hx, hF, if_true, if_neg hi0]; done) | (simp [pack, Book.longerR, hok, hwl]; done) | simp [pack, Book.longerR, hok]
       · have hno := longest_no hjp hc25
         refine cd_skip ?_
         refine in_norm ?_
         refine th_norm (hK18 _ _ ?_)
         refine cd_region1 ?_
         refine sq rfl (st_move hs39 (Ev.t 1 rfl) rfl rfl fun _ _ hs40 => ?_); clear hs39
         refine sq rfl (st_sub (z := ((j : Int) - 1) - 1) hs40 (Ev.t 0 rfl) (.const _) rfl rfl rfl (by omega) fun _ _ hs41 => ?_); clear hs40
         have hs42 := Sx.keepT [0, 1, 2, 4, 5, 6, 7] [_, _, _, _, _, _, _] ⟨rfl, rfl, rfl, rfl, rfl, rfl, rfl, trivial⟩ hs41; clear hs41
         refine sq rfl (st_assign hs42 (Ev.t 0 rfl) rfl rfl fun _ _ hs43 => ?_); clear hs42
         refine wpListIn_nil ?_
         have hs44 := Sx.keepT [0, 4, 5, 6, 7] [_, _, _, _, _] ⟨rfl, rfl, rfl, rfl, rfl, trivial⟩ hs43; clear hs43
         refine ⟨j - 1, ⟨?_, ?_, ?_⟩, by omega⟩
         · omega
         · exact hf.trans hno
         have hs45 : Sx 34 [] [(7, .int .i64 (((j : Int) - 1) - 1)), (5, .int .i64 0), (4, .int .i64 0), (2, .pointer (some ⟨b2, 0, none⟩)), (1, .int .i64 (q : Int))] [(b2, some (.cells ⟨(bookL b A n cp)⟩ 27 (0, 0)))] [] w _ _ := Sx.blks hs44 ((List.Sublist.cons _ (List.Sublist.cons _ (List.Sublist.cons_cons _ List.Sublist.slnil))))
         exact Sx.keepE [0, 1, 2, 3, 4] _ ⟨⟨_, rfl, by congr 1; omega⟩, ⟨_, rfl, rfl⟩, ⟨_, rfl, rfl⟩, ⟨_, rfl, rfl⟩, ⟨_, rfl, rfl⟩, trivial⟩ hs45
     · have hj0 : j = 0 := by simp at hc17; omega
       have hF : b.longest q x 61 = -1 := by rw [hf, hj0]; rfl
       refine cd_exit ?_
       refine th_exit ?_
       refine th_exit ?_
       refine in_hit ?_
       refine th_norm (hK13 _ _ ?_)
       refine cd_region fun K27 hK27 => ?_
       have hs28 := Sx.keepT [0, 1, 2, 4, 5] [_, _, _, _, _] ⟨rfl, rfl, rfl, rfl, rfl, trivial⟩ hs27; clear hs27
       refine sq rfl (st_assign hs28 (.const _) rfl rfl fun _ _ hs29 => ?_); clear hs28
       have hs30 := Sx.keepT [0, 1, 2, 4, 5] [_, _, _, _, _] ⟨rfl, rfl, rfl, rfl, rfl, trivial⟩ hs29; clear hs29
       refine sq rfl (st_assign hs30 (.const _) rfl rfl fun _ _ hs31 => ?_); clear hs30
       refine hK27 _ _ ?_; clear hK27
       have hs32 := Sx.keepT [0, 1] [_, _] ⟨rfl, rfl, trivial⟩ hs31; clear hs31
       refine cd_retv (vs := [.int .i64 0, .int .i64 4]) hs32 hQ0 rfl ⟨.tmp 1 rfl, .tmp 0 rfl, trivial⟩ ?_
       clear hs32 hQ0 hN0
       first | (simp [pack, Book.longerR, hok, hwl, hqn, hx, hF]; done) | (simp [pack, Book.longerR, hok, hwl, hqn, hx, hF, hi0]; done) | (simp only [pack, Book.longerR, hok, hwl, hqn, hx, hF, if_true, if_neg hi0]; done) | (simp [pack, Book.longerR, hok, hwl]; done) | simp [pack, Book.longerR, hok]
end Go.Proofs.YtdbcedmofoakmaaDoor
