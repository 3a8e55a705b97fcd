/- The engine: the evenings' iterator, Left. -/
import Derived.Test.YtdbcedmofoakmaaDoorEf
import Derived.Test.YtdbcedmofoakmaaDoorSr
set_option maxRecDepth 100000
namespace Go.Proofs.YtdbcedmofoakmaaDoor
open Go Go.Sx Go.Eng Go.Proofs.Tryd
/-- What the iterator hands over behind part i. -/
def eveL (b : Book) (plan : List Walks) (i : Nat) : List Value :=
  [.int .i64 (i : Int), .agg ⟨[.int .i64 (b.run false plan (i + 1)).1, .int .i64 (b.run true plan (i + 1)).1, .int .i64 (b.run false plan (i + 1)).2, .int .i64 (b.run true plan (i + 1)).2]⟩]
/-- What it reads. -/
def eveR (b : Book) (A : Option Addr) (n cp : Nat) (A2 : Option Addr) (m c2 : Nat) (plan : List Walks) (t1 t2 : Nat) (W : World) : Prop :=
  PartsAt W A n b.parts ∧ PlanAt W A2 m plan ∧ CellsAt W 0 0 stuffsL ∧ CellsAt W t1 0 (bookL b A n cp) ∧ CellsAt W t2 0 [.slice A2 m c2]

theorem evenings_seq (b : Book) (A : Option Addr) (n cp : Nat) (A2 : Option Addr) (m c2 : Nat) (plan : List Walks) (t1 t2 : Nat) (hn : n ≤ 140737488351232) (_hm : m ≤ 140737488351232) (hb : Bd b) (hpl : b.isPlan plan = true)
    (d : Nat) (hdm : d ≤ m) (hal : ∀ i, i < d → b.dead plan i = false) (hdd : d < m → b.dead plan d = true) :
    Seq Tryd.prog 70 [.pointer (some ⟨t1, 0, none⟩), .pointer (some ⟨t2, 0, none⟩)] (eveL b plan) (List.range d) (eveR b A n cp A2 m c2 plan t1 t2) := by
 intro l J R W hJst hRst hJR hyield hJ
 show Calls Tryd.prog 70 ⟨[.func (.yield l) #[] #[], .pointer (some ⟨t1, 0, none⟩), .pointer (some ⟨t2, 0, none⟩)]⟩ W _
 obtain ⟨hP, hL, hG, hc1, hc2⟩ := hJR _ _ hJ
 have hlen := isPlan_len hpl
 have hl1 := hL.len
 have hl2 := hP.len
 have hPW := hP; have hLW := hL
 have ht1 := hc1.blk_lt (Nat.succ_pos _); have ht2 := hc2.blk_lt (Nat.succ_pos _)
 have h0W := hG.blk_lt (Nat.succ_pos _)
 have hWw : W.heap.size ≤ W.heap.size := Nat.le_refl _
 have hM : ∀ k ∈ ([] : List Nat), W.heap.size ≤ k := fun k hk => by cases hk
 refine enter (N := 53) (M := []) W func70 rfl rfl rfl (fun Q0 a_0 hQ0 hN0 hs0 => ?_)
 refine cd_drawS mixed [6, 8] ⟨Nat, fun n_ x_ => match n_ with | 0 => [] | 1 => [(4, .pointer (some ⟨x_, 0, none⟩))] | _ => [(4, .pointer (some ⟨x_, 0, none⟩))], fun n_ x_ => match n_ with | 0 => [] | 1 => [(x_, some (.cells ⟨[.int .i64 0, .int .i64 0]⟩ 103 (0, 0)))] | _ => [(x_, some (.cells ⟨[.int .i64 b.coal.lo, .int .i64 b.water.lo]⟩ 103 (0, 0)))]⟩ (0 : Nat) hs0 [⟨8, [], Is (.agg ⟨(bookL b A n cp)⟩)⟩, ⟨9, [], Is (.agg ⟨[.func (.func 81) ⟨[]⟩ ⟨[]⟩]⟩)⟩, ⟨10, [0, 1], Is (.agg ⟨[.int .i64 b.coal.lo, .int .i64 b.water.lo]⟩)⟩, ⟨11, [], Is (.agg ⟨(bookL b A n cp)⟩)⟩, ⟨12, [], Is (.agg ⟨[.func (.func 82) ⟨[]⟩ ⟨[]⟩]⟩)⟩, ⟨13, [3, 4], Is (.agg ⟨[.int .i64 b.coal.hi, .int .i64 b.water.hi]⟩)⟩, ⟨4, [], Is undef⟩, ⟨5, [], fun v_ bs_ => ∃ b2, v_ = .pointer (some ⟨b2, 0, none⟩) ∧ bs_ = [(b2, some (.cells ⟨[.int .i64 0, .int .i64 0]⟩ 103 (0, 0)))]⟩, ⟨61, [2], Is undef⟩] (by kernel_rfl) (fun n_ _ => by rcases n_ with _ | _ | _ <;> rfl) (by kernel_rfl) fun K1 hK1 => ⟨⟨?_, ?_, ?_, ?_, ?_, ?_, ?_, ?_, ?_, trivial⟩, ?_⟩
 · rintro T_ B_ a_ w_ K_ hT hB hf hsD hk
   exact ob rfl rfl (st_loadA (o := 0) (off := 0) (vs := (bookL b A n cp)) hsD (evT hT 1 rfl) rfl hf isAgg75 sizeOf75 (hc1.kp hsD.kp (by simp)) rfl fun _ _ => hk _ _ _ _ ⟨rfl, rfl⟩)
 · rintro T_ B_ a_ w_ K_ hT hB hf hsD hk
   exact ob rfl rfl (st_callv (vs := []) hsD (.func _) trivial rfl hf call72 rfl (low_v  _) fun _ _ => hk _ _ _ _ ⟨rfl, rfl⟩)
 · rintro T_ B_ a_ w_ K_ hT hB _ _ ⟨rfl, rfl⟩ h8 - _ _ ⟨rfl, rfl⟩ h9 - hf hsD hk
   exact ob rfl rfl (st_callv (vs := [.agg ⟨(bookL b A n cp)⟩, .agg ⟨[.func (.func 81) ⟨[]⟩ ⟨[]⟩]⟩]) hsD (.func _) ⟨(Ev.tmp h8), (Ev.tmp h9), trivial⟩ rfl hf call71 rfl (at0_v b A n cp _) fun _ _ => hk _ _ _ _ ⟨rfl, rfl⟩)
 · rintro T_ B_ a_ w_ K_ hT hB hf hsD hk
   exact ob rfl rfl (st_loadA (o := 0) (off := 0) (vs := (bookL b A n cp)) hsD (evT hT 1 rfl) rfl hf isAgg75 sizeOf75 (hc1.kp hsD.kp (by simp)) rfl fun _ _ => hk _ _ _ _ ⟨rfl, rfl⟩)
 · rintro T_ B_ a_ w_ K_ hT hB hf hsD hk
   exact ob rfl rfl (st_callv (vs := []) hsD (.func _) trivial rfl hf call73 rfl (high_v  _) fun _ _ => hk _ _ _ _ ⟨rfl, rfl⟩)
 · rintro T_ B_ a_ w_ K_ hT hB _ _ ⟨rfl, rfl⟩ h11 - _ _ ⟨rfl, rfl⟩ h12 - hf hsD hk
   exact ob rfl rfl (st_callv (vs := [.agg ⟨(bookL b A n cp)⟩, .agg ⟨[.func (.func 82) ⟨[]⟩ ⟨[]⟩]⟩]) hsD (.func _) ⟨(Ev.tmp h11), (Ev.tmp h12), trivial⟩ rfl hf call71 rfl (at1_v b A n cp _) fun _ _ => hk _ _ _ _ ⟨rfl, rfl⟩)
 · rintro T_ B_ a_ w_ K_ x_ hT hB hf hsD hk
   exact ob rfl rfl (st_alloc hsD rfl hf zeroValue103 rfl fun b_1 a_1 w_1 h1 => hk b_1 _ _ h1)
 · rintro T_ B_ a_ w_ K_ hT hB hf hsD hk
   exact ob rfl rfl (st_alloc hsD rfl hf zeroValue103 rfl fun b2 _ _ => hk _ _ _ _ ⟨b2, rfl, rfl⟩)
 · rintro T_ B_ a_ w_ K_ x_ hT hB _ _ ⟨rfl, rfl⟩ h10 - hf hsD hk
   exact ob rfl rfl (st_store (l' := [.int .i64 b.coal.lo, .int .i64 b.water.lo]) (vs := [.int .i64 b.coal.lo, .int .i64 b.water.lo]) (i := 0) hsD (Ev.t 0 rfl) (Ev.tmp (List.mem_append_right _ h10)) sizeOf103 rfl rfl rfl rfl rfl rfl fun a_1 w_1 h1 => hk x_ _ _ h1)
 rintro _ _ ⟨rfl, rfl⟩
 rintro _ _ ⟨rfl, rfl⟩
 rintro _ _ ⟨rfl, rfl⟩
 rintro _ _ ⟨rfl, rfl⟩
 rintro _ _ ⟨rfl, rfl⟩
 rintro _ _ ⟨rfl, rfl⟩
 rintro _ _ ⟨b2, rfl, rfl⟩
 intro (b3 : Nat) a_1 w_1 hs1
 clear hs0
 have hs2 := Sx.as (T' := [_, _, _, _, _, _, _, _, _, _, _]) (B' := [_, _]) rfl rfl hs1; clear hs1
 refine sq rfl (st_store (l' := [.int .i64 b.coal.hi, .int .i64 b.water.hi]) (vs := [.int .i64 b.coal.hi, .int .i64 b.water.hi]) (i := 1) hs2 (Ev.t 7 rfl) (Ev.t 6 rfl) sizeOf103 rfl rfl rfl rfl rfl rfl fun _ _ hs3 => ?_); clear hs2
 have hs4 := hs3.asB [_, _] rfl; clear hs3
 refine hK1 _ _ ?_; clear hK1
 have hs5 := hs4.keep [0, 7, 8, 9, 10] [_, _, _, _, _] rfl; clear hs4
 have hlob3 : W.heap.size ≤ b3 := by rcases (hs5.blk _ (mem_nth (i := 0) rfl) _ rfl).1 with h | h; exact hM _ h; exact Nat.le_trans hWw h
 have hlob2 : W.heap.size ≤ b2 := by rcases (hs5.blk _ (mem_nth (i := 1) rfl) _ rfl).1 with h | h; exact hM _ h; exact Nat.le_trans hWw h
 refine cd_region fun K4 hK4 => ?_
 refine sq rfl (st_load1 (o := 0) (off := 0) (v := .slice A2 m c2) hs5 (Ev.t 4 rfl) rfl rfl isAgg28 (hc2.kp hs5.kp (by simp)) rfl fun _ _ hs6 => ?_); clear hs5
 refine sq rfl (st_len hs6 (Ev.t 0 rfl) rfl rfl runUnderlying28 fun _ _ hs7 => ?_); clear hs6
 refine sq rfl (st_move hs7 (.const _) rfl rfl fun _ _ hs8 => ?_); clear hs7
 refine hK4 _ _ ?_; clear hK4
 have hs9 := hs8.keep [0, 1, 2, 3, 4, 5, 6] [_, _, _, _, _, _, _] rfl; clear hs8
 refine cd_block ?_
 have hs10 : Sx 53 [] [(16, .int .i64 (0 : Int)), (15, .int .i64 (m : Int)), (14, .slice A2 m c2), (4, .pointer (some ⟨b3, 0, none⟩)), (5, .pointer (some ⟨b2, 0, none⟩)), (0, .func (.yield l) #[] #[]), (1, .pointer (some ⟨t1, 0, none⟩))] [(b3, some (.cells ⟨[.int .i64 ((b.run false plan 0).1), .int .i64 ((b.run false plan 0).2)]⟩ 103 (0, 0))), (b2, some (.cells ⟨[.int .i64 ((b.run true plan 0).1), .int .i64 ((b.run true plan 0).2)]⟩ 103 (0, 0)))] [] W _ _ := Sx.keepE [0, 1, 2, 3, 4, 5, 6] _ ⟨⟨_, rfl, rfl⟩, ⟨_, rfl, rfl⟩, ⟨_, rfl, rfl⟩, ⟨_, rfl, rfl⟩, ⟨_, rfl, rfl⟩, ⟨_, rfl, rfl⟩, ⟨_, rfl, rfl⟩, trivial⟩ hs9; clear hs9
 refine cd_loop (X := Nat) (fun i a_ w_ => (W.heap.size ≤ w_.heap.size) ∧ (i ≤ d) ∧ (J i w_) ∧ Sx 53 [] [(16, .int .i64 (i : Int)), (15, .int .i64 (m : Int)), (14, .slice A2 m c2), (4, .pointer (some ⟨b3, 0, none⟩)), (5, .pointer (some ⟨b2, 0, none⟩)), (0, .func (.yield l) #[] #[]), (1, .pointer (some ⟨t1, 0, none⟩))] [(b3, some (.cells ⟨[.int .i64 ((b.run false plan i).1), .int .i64 ((b.run false plan i).2)]⟩ 103 (0, 0))), (b2, some (.cells ⟨[.int .i64 ((b.run true plan i).1), .int .i64 ((b.run true plan i).2)]⟩ 103 (0, 0)))] [b3, b2] w_ a_ w_) (fun i => m - i) (0) ⟨?_, ?_, ?_, hs10.rebase⟩ ?_
 · exact Nat.le_trans hWw hs10.kp.size
 · first | omega | simp
 · exact hJst 0 _ _ hJ (Kp.sm hs10.kp hM (Nat.le_refl _))
 intro i a_11 w_11 ⟨hWw, hid, hJ, hs11⟩; clear hs10
 obtain ⟨hP, hL, hG, hc1, hc2⟩ := hJR _ _ hJ
 have hM : ∀ k ∈ [b3, b2], W.heap.size ≤ k := by intro k hk; simp only [List.mem_cons, List.not_mem_nil, or_false] at hk; omega
 refine cd_region fun K5 hK5 => ?_
 refine sq rfl (st_cmp (c := decide (((i : Int) : Int) < (m : Int))) hs11 (Ev.t 0 rfl) (Ev.t 1 rfl) rfl rfl rfl rfl fun _ _ hs12 => ?_); clear hs11
 refine hK5 _ _ ?_; clear hK5
 refine cd_seq fun K6 hK6 => ?_
 refine cd_cond hs12 (Ev.t 0 rfl) (fun hc7 => ?_) (fun hc7 => ?_)
 · simp only [decide_eq_true_eq] at hc7
   have him : i < m := by omega
   have hil : i < b.parts.length := by omega
   obtain ⟨x8, hx8⟩ : ∃ x, plan[i]? = some x := ⟨_, List.getElem?_eq_getElem (by have := hL.len; omega)⟩
   obtain ⟨b9, o9, hA9, -, hc9⟩ := hL.el i x8 hx8
   obtain ⟨x10, hx10⟩ : ∃ x, b.parts[i]? = some x := ⟨_, List.getElem?_eq_getElem (by have := hP.len; omega)⟩
   obtain ⟨b11, o11, hA11, -, hc11⟩ := hP.el i x10 hx10
   have hlt1 := SlAt.blk_lt hLW (fun _ => Nat.succ_pos _) hx8 hA9
   have hlt2 := SlAt.blk_lt hPW (fun _ => Nat.succ_pos _) hx10 hA11
   refine cd_skip ?_
   refine th_norm (hK6 _ _ ?_)
   refine cd_seq fun K12 hK12 => ?_
   refine cd_block ?_
   refine cd_region fun K13 hK13 => ?_
   refine sq rfl (st_move hs12 (Ev.t 1 rfl) rfl rfl fun _ _ hs13 => ?_); clear hs12
   refine sq rfl (st_indexM (o' := o9 + i * 2) hs13 (Ev.t 4 rfl) (Ev.t 2 rfl) rfl rfl hA9 runUnderlying28 sizeOf64 ⟨by omega, by have := hL.len; have := (List.getElem?_eq_some_iff.1 hx8).1; omega⟩ rfl fun _ _ hs14 => ?_); clear hs13
   refine sq rfl (st_loadA (o := o9 + i * 2) (off := 0) (vs := (walksL x8)) hs14 (Ev.t 0 rfl) rfl rfl isAgg64 sizeOf64 (hs14.old hc9 (by simp only [List.mem_cons, List.not_mem_nil, or_false, not_or]; omega)) rfl fun _ _ hs15 => ?_); clear hs14
   refine sq rfl (st_alloc hs15 rfl rfl zeroValue64 rfl fun b14 _ _ hs16 => ?_); clear hs15
   refine sq rfl (st_assign hs16 (Ev.t 3 rfl) rfl rfl fun _ _ hs17 => ?_); clear hs16
   refine sq rfl (st_store (l' := (walksL x8)) (vs := (walksL x8)) (i := 0) hs17 (Ev.t 1 rfl) (Ev.t 2 rfl) sizeOf64 rfl rfl rfl rfl rfl rfl fun _ _ hs18 => ?_); clear hs17
   have hs19 := hs18.asB [_, _, _] rfl; clear hs18
   refine hK13 _ _ ?_; clear hK13
   have hs20 := hs19.keep [0, 1, 6, 7, 8, 9, 10, 11, 12] [_, _, _, _, _, _, _, _, _] rfl; clear hs19
   have hlob14 : W.heap.size ≤ b14 := by rcases (hs20.blk _ (mem_nth (i := 0) rfl) _ rfl).1 with h | h; exact hM _ h; exact Nat.le_trans hWw h
   have hlob3 : W.heap.size ≤ b3 := by rcases (hs20.blk _ (mem_nth (i := 1) rfl) _ rfl).1 with h | h; exact hM _ h; exact Nat.le_trans hWw h
   have hlob2 : W.heap.size ≤ b2 := by rcases (hs20.blk _ (mem_nth (i := 2) rfl) _ rfl).1 with h | h; exact hM _ h; exact Nat.le_trans hWw h
   have hs21 : Sx 53 [] [(6, .int .i64 (i : Int)), (7, .pointer (some ⟨b14, 0, none⟩)), (16, .int .i64 (i : Int)), (15, .int .i64 (m : Int)), (14, .slice A2 m c2), (4, .pointer (some ⟨b3, 0, none⟩)), (5, .pointer (some ⟨b2, 0, none⟩)), (0, .func (.yield l) #[] #[]), (1, .pointer (some ⟨t1, 0, none⟩))] [(b3, some (.cells ⟨[.int .i64 ((b.run false plan i).1), .int .i64 ((b.run false plan i).2)]⟩ 103 (0, 0))), (b14, some (.cells ⟨(walksL x8)⟩ 64 (0, 0))), (b2, some (.cells ⟨[.int .i64 ((b.run true plan i).1), .int .i64 ((b.run true plan i).2)]⟩ 103 (0, 0)))] [b3, b2] w_11 _ _ := Sx.front hs20 1 rfl; clear hs20
   refine cd_drawS mixed [2, 5, 12] ⟨Unit, fun n_ x_ => match n_ with | 0 => [] | 1 => [(23, .agg ⟨[.int .i64 ((b.run false plan i).1), .int .i64 ((b.run false plan i).2)]⟩)] | 2 => [(26, .agg ⟨[.int .i64 (b.afterC false x10 x8.c ((b.run false plan i).1)), .int .i64 (b.afterW false x10 x8.w ((b.run false plan i).2))]⟩), (23, .agg ⟨[.int .i64 ((b.run false plan i).1), .int .i64 ((b.run false plan i).2)]⟩)] | _ => [(26, .agg ⟨[.int .i64 (b.afterC false x10 x8.c ((b.run false plan i).1)), .int .i64 (b.afterW false x10 x8.w ((b.run false plan i).2))]⟩), (23, .agg ⟨[.int .i64 ((b.run false plan i).1), .int .i64 ((b.run false plan i).2)]⟩)], fun n_ x_ => match n_ with | 0 => [(b3, some (.cells ⟨[.int .i64 ((b.run false plan i).1), .int .i64 ((b.run false plan i).2)]⟩ 103 (0, 0)))] | 1 => [(b3, some (.cells ⟨[.int .i64 ((b.run false plan i).1), .int .i64 ((b.run false plan i).2)]⟩ 103 (0, 0)))] | 2 => [(b3, some (.cells ⟨[.int .i64 ((b.run false plan i).1), .int .i64 ((b.run false plan i).2)]⟩ 103 (0, 0)))] | _ => [(b3, some (.cells ⟨[.int .i64 (b.afterC false x10 x8.c ((b.run false plan i).1)), .int .i64 (b.afterW false x10 x8.w ((b.run false plan i).2))]⟩ 103 (0, 0)))]⟩ () hs21 [⟨21, [], Is (.agg ⟨(bookL b A n cp)⟩)⟩, ⟨22, [], Is (.int .i64 (i : Int))⟩, ⟨23, [], Is undef⟩, ⟨24, [], Is (.agg ⟨(walksL x8)⟩)⟩, ⟨25, [], Is (.agg ⟨[.func (.func 81) ⟨[]⟩ ⟨[]⟩]⟩)⟩, ⟨26, [0, 1, 3, 4], Is undef⟩, ⟨27, [], Is (.agg ⟨(bookL b A n cp)⟩)⟩, ⟨28, [], Is (.int .i64 (i : Int))⟩, ⟨29, [], Is (.agg ⟨[.int .i64 ((b.run true plan i).1), .int .i64 ((b.run true plan i).2)]⟩)⟩, ⟨30, [], Is (.agg ⟨(walksL x8)⟩)⟩, ⟨31, [], Is (.agg ⟨[.func (.func 82) ⟨[]⟩ ⟨[]⟩]⟩)⟩, ⟨32, [6, 7, 8, 9, 10], Is (.agg ⟨[.int .i64 (b.afterC true x10 x8.c ((b.run true plan i).1)), .int .i64 (b.afterW true x10 x8.w ((b.run true plan i).2))]⟩)⟩, ⟨65, [], Is undef⟩] (by kernel_rfl) (fun n_ _ => by rcases n_ with _ | _ | _ | _ <;> rfl) (by kernel_rfl) fun K15 hK15 => ⟨⟨?_, ?_, ?_, ?_, ?_, ?_, ?_, ?_, ?_, ?_, ?_, ?_, ?_, trivial⟩, ?_⟩
   · rintro T_ B_ a_ w_ K_ hT hB hf hsD hk
     exact ob rfl rfl (st_loadA (o := 0) (off := 0) (vs := (bookL b A n cp)) hsD (evT hT 8 rfl) rfl hf isAgg75 sizeOf75 (hc1.kp hsD.kp (by simp only [List.mem_cons, List.not_mem_nil, or_false, not_or]; omega)) rfl fun _ _ => hk _ _ _ _ ⟨rfl, rfl⟩)
   · rintro T_ B_ a_ w_ K_ hT hB hf hsD hk
     exact ob rfl rfl (st_move hsD (evT hT 0 rfl) rfl hf fun _ _ => hk _ _ _ _ ⟨rfl, rfl⟩)
   · rintro T_ B_ a_ w_ K_ x_ hT hB hf hsD hk
     exact ob rfl rfl (st_loadA (o := 0) (off := 0) (vs := [.int .i64 ((b.run false plan i).1), .int .i64 ((b.run false plan i).2)]) hsD (Ev.tmp (List.mem_append_right _ (hT _ (mem_nth (i := 5) rfl)))) rfl hf isAgg103 sizeOf103 (hsD.cells 0 rfl) rfl fun a_1 w_1 h1 => hk x_ _ _ h1)
   · rintro T_ B_ a_ w_ K_ hT hB hf hsD hk
     exact ob rfl rfl (st_loadA (o := 0) (off := 0) (vs := (walksL x8)) hsD (evT hT 1 rfl) rfl hf isAgg64 sizeOf64 (hsD.cellsM (inB hB 0 rfl)) rfl fun _ _ => hk _ _ _ _ ⟨rfl, rfl⟩)
   · rintro T_ B_ a_ w_ K_ hT hB hf hsD hk
     exact ob rfl rfl (st_callv (vs := []) hsD (.func _) trivial rfl hf call72 rfl (low_v  _) fun _ _ => hk _ _ _ _ ⟨rfl, rfl⟩)
   · rintro T_ B_ a_ w_ K_ x_ hT hB _ _ ⟨rfl, rfl⟩ h21 - _ _ ⟨rfl, rfl⟩ h22 - _ _ ⟨rfl, rfl⟩ h24 - _ _ ⟨rfl, rfl⟩ h25 - hf hsD hk
     exact ob rfl rfl (st_callv (vs := [.agg ⟨(bookL b A n cp)⟩, .int .i64 (i : Int), .agg ⟨[.int .i64 ((b.run false plan i).1), .int .i64 ((b.run false plan i).2)]⟩, .agg ⟨(walksL x8)⟩, .agg ⟨[.func (.func 81) ⟨[]⟩ ⟨[]⟩]⟩]) hsD (.func _) ⟨(Ev.tmp (List.mem_append_right _ h21)), (Ev.tmp (List.mem_append_right _ h22)), (Ev.t 0 rfl), (Ev.tmp (List.mem_append_right _ h24)), (Ev.tmp (List.mem_append_right _ h25)), trivial⟩ rfl (show fresh 26 ([(23, .agg ⟨[.int .i64 ((b.run false plan i).1), .int .i64 ((b.run false plan i).2)]⟩)] ++ T_) = true from by simp only [List.nil_append, List.cons_append, fresh, hf]; rfl) call74 rfl (after0_v b A n cp i x10 hx10 x8 ((b.run false plan i).1) ((b.run false plan i).2) _ (SlAt.kpW hPW hP hsD.kp hM (fun _ => Nat.succ_pos _)) hn (hG.kp hsD.kp (by simp only [List.mem_cons, List.not_mem_nil, or_false, not_or]; omega)) hb (isPlan_bd hb hpl hx10 hx8) (run_cb hb hpl false (Nat.le_of_lt (List.getElem?_eq_some_iff.1 hx10).1))) fun a_1 w_1 h1 => hk x_ _ _ h1)
   · rintro T_ B_ a_ w_ K_ hT hB hf hsD hk
     exact ob rfl rfl (st_loadA (o := 0) (off := 0) (vs := (bookL b A n cp)) hsD (evT hT 8 rfl) rfl hf isAgg75 sizeOf75 (hc1.kp hsD.kp (by simp only [List.mem_cons, List.not_mem_nil, or_false, not_or]; omega)) rfl fun _ _ => hk _ _ _ _ ⟨rfl, rfl⟩)
   · rintro T_ B_ a_ w_ K_ hT hB hf hsD hk
     exact ob rfl rfl (st_move hsD (evT hT 0 rfl) rfl hf fun _ _ => hk _ _ _ _ ⟨rfl, rfl⟩)
   · rintro T_ B_ a_ w_ K_ hT hB hf hsD hk
     exact ob rfl rfl (st_loadA (o := 0) (off := 0) (vs := [.int .i64 ((b.run true plan i).1), .int .i64 ((b.run true plan i).2)]) hsD (evT hT 6 rfl) rfl hf isAgg103 sizeOf103 (hsD.cellsM (inB hB 1 rfl)) rfl fun _ _ => hk _ _ _ _ ⟨rfl, rfl⟩)
   · rintro T_ B_ a_ w_ K_ hT hB hf hsD hk
     exact ob rfl rfl (st_loadA (o := 0) (off := 0) (vs := (walksL x8)) hsD (evT hT 1 rfl) rfl hf isAgg64 sizeOf64 (hsD.cellsM (inB hB 0 rfl)) rfl fun _ _ => hk _ _ _ _ ⟨rfl, rfl⟩)
   · rintro T_ B_ a_ w_ K_ hT hB hf hsD hk
     exact ob rfl rfl (st_callv (vs := []) hsD (.func _) trivial rfl hf call73 rfl (high_v  _) fun _ _ => hk _ _ _ _ ⟨rfl, rfl⟩)
   · rintro T_ B_ a_ w_ K_ hT hB _ _ ⟨rfl, rfl⟩ h27 - _ _ ⟨rfl, rfl⟩ h28 - _ _ ⟨rfl, rfl⟩ h29 - _ _ ⟨rfl, rfl⟩ h30 - _ _ ⟨rfl, rfl⟩ h31 - hf hsD hk
     exact ob rfl rfl (st_callv (vs := [.agg ⟨(bookL b A n cp)⟩, .int .i64 (i : Int), .agg ⟨[.int .i64 ((b.run true plan i).1), .int .i64 ((b.run true plan i).2)]⟩, .agg ⟨(walksL x8)⟩, .agg ⟨[.func (.func 82) ⟨[]⟩ ⟨[]⟩]⟩]) hsD (.func _) ⟨(Ev.tmp h27), (Ev.tmp h28), (Ev.tmp h29), (Ev.tmp h30), (Ev.tmp h31), trivial⟩ rfl hf call74 rfl (after1_v b A n cp i x10 hx10 x8 ((b.run true plan i).1) ((b.run true plan i).2) _ (SlAt.kpW hPW hP hsD.kp hM (fun _ => Nat.succ_pos _)) hn (hG.kp hsD.kp (by simp only [List.mem_cons, List.not_mem_nil, or_false, not_or]; omega)) hb (isPlan_bd hb hpl hx10 hx8) (run_cb hb hpl true (Nat.le_of_lt (List.getElem?_eq_some_iff.1 hx10).1))) fun _ _ => hk _ _ _ _ ⟨rfl, rfl⟩)
   · rintro T_ B_ a_ w_ K_ x_ hT hB hf hsD hk
     exact ob rfl rfl (st_store (l' := [.int .i64 (b.afterC false x10 x8.c ((b.run false plan i).1)), .int .i64 (b.afterW false x10 x8.w ((b.run false plan i).2))]) (vs := [.int .i64 (b.afterC false x10 x8.c ((b.run false plan i).1)), .int .i64 (b.afterW false x10 x8.w ((b.run false plan i).2))]) (i := 0) hsD (Ev.tmp (List.mem_append_right _ (hT _ (mem_nth (i := 5) rfl)))) (Ev.t 0 rfl) sizeOf103 rfl rfl rfl rfl rfl rfl fun a_1 w_1 h1 => hk x_ _ _ h1)
   rintro _ _ ⟨rfl, rfl⟩
   rintro _ _ ⟨rfl, rfl⟩
   rintro _ _ ⟨rfl, rfl⟩
   rintro _ _ ⟨rfl, rfl⟩
   rintro _ _ ⟨rfl, rfl⟩
   rintro _ _ ⟨rfl, rfl⟩
   rintro _ _ ⟨rfl, rfl⟩
   rintro _ _ ⟨rfl, rfl⟩
   rintro _ _ ⟨rfl, rfl⟩
   rintro _ _ ⟨rfl, rfl⟩
   intro _ a_22 w_22 hs22
   clear hs21
   have hs23 := Sx.as (T' := [_, _, _, _, _, _, _, _, _, _, _, _, _, _, _, _, _, _, _, _, _]) (B' := [_, _, _]) rfl rfl hs22; clear hs22
   refine sq rfl (st_store (l' := [.int .i64 (b.afterC true x10 x8.c ((b.run true plan i).1)), .int .i64 (b.afterW true x10 x8.w ((b.run true plan i).2))]) (vs := [.int .i64 (b.afterC true x10 x8.c ((b.run true plan i).1)), .int .i64 (b.afterW true x10 x8.w ((b.run true plan i).2))]) (i := 2) hs23 (Ev.t 18 rfl) (Ev.t 11 rfl) sizeOf103 rfl rfl rfl rfl rfl rfl fun _ _ hs24 => ?_); clear hs23
   have hs25 := hs24.asB [_, _, _] rfl; clear hs24
   refine hK15 _ _ ?_; clear hK15
   have hs26 := hs25.keep [12, 14, 15, 16, 17, 18, 19, 20] [_, _, _, _, _, _, _, _] rfl; clear hs25
   have e1 := Book.run_succ (hi := false) hx10 hx8
   have e2 := Book.run_succ (hi := true) hx10 hx8
   have f0 : (b.run false plan (i + 1)).1 = b.afterC false x10 x8.c ((b.run false plan i).1) := congrArg Prod.fst e1
   have f1 : (b.run false plan (i + 1)).2 = b.afterW false x10 x8.w ((b.run false plan i).2) := congrArg Prod.snd e1
   have f2 : (b.run true plan (i + 1)).1 = b.afterC true x10 x8.c ((b.run true plan i).1) := congrArg Prod.fst e2
   have f3 : (b.run true plan (i + 1)).2 = b.afterW true x10 x8.w ((b.run true plan i).2) := congrArg Prod.snd e2
   rw [← f0, ← f1, ← f2, ← f3] at hs26
   have hs27 : Sx 53 [] [(6, .int .i64 (i : Int)), (16, .int .i64 (i : Int)), (15, .int .i64 (m : Int)), (14, .slice A2 m c2), (4, .pointer (some ⟨b3, 0, none⟩)), (5, .pointer (some ⟨b2, 0, none⟩)), (0, .func (.yield l) #[] #[]), (1, .pointer (some ⟨t1, 0, none⟩))] [(b3, some (.cells ⟨[.int .i64 ((b.run false plan (i + 1)).1), .int .i64 ((b.run false plan (i + 1)).2)]⟩ 103 (0, 0))), (b14, some (.cells ⟨(walksL x8)⟩ 64 (0, 0))), (b2, some (.cells ⟨[.int .i64 ((b.run true plan (i + 1)).1), .int .i64 ((b.run true plan (i + 1)).2)]⟩ 103 (0, 0)))] [b3, b2] w_11 _ _ := hs26
   clear hs26
   rcases hdd1 : b.dead plan i with _ | _
   · skip
     refine cd_region fun K16 hK16 => ?_
     refine sq rfl (st_loadA (o := 0) (off := 0) (vs := [.int .i64 ((b.run false plan (i + 1)).1), .int .i64 ((b.run false plan (i + 1)).2)]) hs27 (Ev.t 4 rfl) rfl rfl isAgg103 sizeOf103 (hs27.cells 0 rfl) rfl fun _ _ hs28 => ?_); clear hs27
     refine sq rfl (st_callv (vs := [.agg ⟨[.int .i64 ((b.run false plan (i + 1)).1), .int .i64 ((b.run false plan (i + 1)).2)]⟩]) hs28 (.func _) ⟨(Ev.t 0 rfl), trivial⟩ rfl rfl call75 rfl (stands_v ((b.run false plan (i + 1)).1) ((b.run false plan (i + 1)).2) _) fun _ _ hs29 => ?_); clear hs28
     have hs30 := Sx.keepE [0, 1, 2, 3, 4, 5, 6, 7, 8, 9] [(34, .bool false), (33, _), (6, _), (16, _), (15, _), (14, _), (4, _), (5, _), (0, _), (1, _)] ⟨⟨_, rfl, (by have h := hdd1; unfold Book.dead at h; rw [h])⟩, ⟨_, rfl, rfl⟩, ⟨_, rfl, rfl⟩, ⟨_, rfl, rfl⟩, ⟨_, rfl, rfl⟩, ⟨_, rfl, rfl⟩, ⟨_, rfl, rfl⟩, ⟨_, rfl, rfl⟩, ⟨_, rfl, rfl⟩, ⟨_, rfl, rfl⟩, trivial⟩ hs29; clear hs29
     refine sq rfl (st_move hs30 (Ev.t 0 rfl) rfl rfl fun _ _ hs31 => ?_); clear hs30
     refine sq_on hs31 rfl rfl 0 rfl rfl (st_move hs31 (Ev.t 9 rfl) rfl rfl fun _ _ hs32 => ?_); clear hs31
     refine sq_on hs32 rfl rfl 1 rfl rfl (st_move hs32 (Ev.t 4 rfl) rfl rfl fun _ _ hs33 => ?_); clear hs32
     refine sq_on hs33 rfl rfl 2 rfl rfl (st_indexArr (o' := 0) hs33 (Ev.t 9 rfl) (.const _) rfl rfl runUnderlying103 sizeOf3 (by decide) rfl fun _ _ hs34 => ?_); clear hs33
     refine sq_on hs34 rfl rfl 3 rfl rfl (st_load1 (o := 0) (off := 0) (v := .int .i64 ((b.run false plan (i + 1)).1)) hs34 (Ev.t 0 rfl) rfl rfl isAgg3 (hs34.cells 0 rfl) rfl fun _ _ hs35 => ?_); clear hs34
     refine sq_on hs35 rfl rfl 4 rfl rfl (st_indexArr (o' := 0) hs35 (Ev.t 12 rfl) (.const _) rfl rfl runUnderlying103 sizeOf3 (by decide) rfl fun _ _ hs36 => ?_); clear hs35
     refine sq_on hs36 rfl rfl 5 rfl rfl (st_load1 (o := 0) (off := 0) (v := .int .i64 ((b.run true plan (i + 1)).1)) hs36 (Ev.t 0 rfl) rfl rfl isAgg3 (hs36.cells 2 rfl) rfl fun _ _ hs37 => ?_); clear hs36
     refine sq_on hs37 rfl rfl 6 rfl rfl (st_build hs37 (qs := [(0, .int .i64 ((b.run false plan (i + 1)).1)), (1, .int .i64 ((b.run true plan (i + 1)).1))]) (v := .agg ⟨[.int .i64 ((b.run false plan (i + 1)).1), .int .i64 ((b.run true plan (i + 1)).1)]⟩) ⟨(Ev.t 2 rfl), (Ev.t 0 rfl), trivial⟩ rfl rfl rfl (fun _ => by kernel_rfl) fun _ _ hs38 => ?_); clear hs37
     refine sq_on hs38 rfl rfl 7 rfl rfl (st_indexArr (o' := 1) hs38 (Ev.t 14 rfl) (.const _) rfl rfl runUnderlying103 sizeOf3 (by decide) rfl fun _ _ hs39 => ?_); clear hs38
     refine sq_on hs39 rfl rfl 8 rfl rfl (st_load1 (o := 0) (off := 1) (v := .int .i64 ((b.run false plan (i + 1)).2)) hs39 (Ev.t 0 rfl) rfl rfl isAgg3 (hs39.cells 0 rfl) rfl fun _ _ hs40 => ?_); clear hs39
     refine sq_on hs40 rfl rfl 9 rfl rfl (st_indexArr (o' := 1) hs40 (Ev.t 17 rfl) (.const _) rfl rfl runUnderlying103 sizeOf3 (by decide) rfl fun _ _ hs41 => ?_); clear hs40
     refine sq_on hs41 rfl rfl 10 rfl rfl (st_load1 (o := 0) (off := 1) (v := .int .i64 ((b.run true plan (i + 1)).2)) hs41 (Ev.t 0 rfl) rfl rfl isAgg3 (hs41.cells 2 rfl) rfl fun _ _ hs42 => ?_); clear hs41
     refine sq_on hs42 rfl rfl 11 rfl rfl (st_build hs42 (qs := [(0, .int .i64 ((b.run false plan (i + 1)).2)), (1, .int .i64 ((b.run true plan (i + 1)).2))]) (v := .agg ⟨[.int .i64 ((b.run false plan (i + 1)).2), .int .i64 ((b.run true plan (i + 1)).2)]⟩) ⟨(Ev.t 2 rfl), (Ev.t 0 rfl), trivial⟩ rfl rfl rfl (fun _ => by kernel_rfl) fun _ _ hs43 => ?_); clear hs42
     refine sq_on hs43 rfl rfl 12 rfl rfl (st_build hs43 (qs := [(0, .agg ⟨[.int .i64 ((b.run false plan (i + 1)).1), .int .i64 ((b.run true plan (i + 1)).1)]⟩), (1, .agg ⟨[.int .i64 ((b.run false plan (i + 1)).2), .int .i64 ((b.run true plan (i + 1)).2)]⟩)]) (v := .agg ⟨[.int .i64 ((b.run false plan (i + 1)).1), .int .i64 ((b.run true plan (i + 1)).1), .int .i64 ((b.run false plan (i + 1)).2), .int .i64 ((b.run true plan (i + 1)).2)]⟩) ⟨(Ev.t 5 rfl), (Ev.t 0 rfl), trivial⟩ rfl rfl rfl (fun _ => by kernel_rfl) fun _ _ hs44 => ?_); clear hs43
     have hlo18 : ∀ p ∈ ([(b3, some (.cells ⟨[.int .i64 ((b.run false plan (i + 1)).1), .int .i64 ((b.run false plan (i + 1)).2)]⟩ 103 (0, 0))), (b14, some (.cells ⟨(walksL x8)⟩ 64 (0, 0))), (b2, some (.cells ⟨[.int .i64 ((b.run true plan (i + 1)).1), .int .i64 ((b.run true plan (i + 1)).2)]⟩ 103 (0, 0)))] : List (Nat × Option Obj)), W.heap.size ≤ p.1 := by intro p hp; simp only [List.mem_cons, List.not_mem_nil, or_false] at hp; rcases hp with rfl | rfl | rfl <;> simp only <;> omega
     have hMk : ∀ k ∈ [b3, b2], W.heap.size ≤ k := by intro k hk; simp only [List.mem_cons, List.not_mem_nil, or_false] at hk; omega
     have hJw := hJst i _ _ hJ (Kp.sm hs44.kp hMk hWw)
     have hid2 : i < d := by rcases Nat.lt_or_ge i d with h | h; exact h; (have e : i = d := by omega); rw [e, hdd (by omega)] at hdd1; cases hdd1
     refine sq_on hs44 rfl rfl 13 rfl rfl (st_yield (vs := [.int .i64 (i : Int), .agg ⟨[.int .i64 ((b.run false plan (i + 1)).1), .int .i64 ((b.run true plan (i + 1)).1), .int .i64 ((b.run false plan (i + 1)).2), .int .i64 ((b.run true plan (i + 1)).2)]⟩]) (n := W.heap.size) (J1 := J (i + 1)) (R := R) hs44 (Ev.t 12 rfl) ⟨(Ev.t 11 rfl), (Ev.t 0 rfl), trivial⟩ rfl rfl hlo18 (hyield i i _ (by rw [List.getElem?_range hid2]) (Nat.le_trans hWw hs44.kp.size) hJw) (fun y17 a_45 w_45 hy1 hy0 hyn hs45 => ?_) (Nat.le_trans hWw hs44.kp.size)); clear hs44
     have hs46 : Sx 53 [] [(49, .bool y17), (48, .agg ⟨[.int .i64 ((b.run false plan (i + 1)).1), .int .i64 ((b.run true plan (i + 1)).1), .int .i64 ((b.run false plan (i + 1)).2), .int .i64 ((b.run true plan (i + 1)).2)]⟩), (47, .agg ⟨[.int .i64 ((b.run false plan (i + 1)).2), .int .i64 ((b.run true plan (i + 1)).2)]⟩), (46, .int .i64 ((b.run true plan (i + 1)).2)), (45, .pointer (some ⟨b2, 1, none⟩)), (44, .int .i64 ((b.run false plan (i + 1)).2)), (43, .pointer (some ⟨b3, 1, none⟩)), (42, .agg ⟨[.int .i64 ((b.run false plan (i + 1)).1), .int .i64 ((b.run true plan (i + 1)).1)]⟩), (41, .int .i64 ((b.run true plan (i + 1)).1)), (40, .pointer (some ⟨b2, 0, none⟩)), (39, .int .i64 ((b.run false plan (i + 1)).1)), (38, .pointer (some ⟨b3, 0, none⟩)), (37, .int .i64 (i : Int)), (36, .func (.yield l) #[] #[]), (35, .bool false), (34, .bool false), (33, .agg ⟨[.int .i64 ((b.run false plan (i + 1)).1), .int .i64 ((b.run false plan (i + 1)).2)]⟩), (6, .int .i64 (i : Int)), (16, .int .i64 (i : Int)), (15, .int .i64 (m : Int)), (14, .slice A2 m c2), (4, .pointer (some ⟨b3, 0, none⟩)), (5, .pointer (some ⟨b2, 0, none⟩)), (0, .func (.yield l) #[] #[]), (1, .pointer (some ⟨t1, 0, none⟩))] [(b3, some (.cells ⟨[.int .i64 ((b.run false plan (i + 1)).1), .int .i64 ((b.run false plan (i + 1)).2)]⟩ 103 (0, 0))), (b14, some (.cells ⟨(walksL x8)⟩ 64 (0, 0))), (b2, some (.cells ⟨[.int .i64 ((b.run true plan (i + 1)).1), .int .i64 ((b.run true plan (i + 1)).2)]⟩ 103 (0, 0)))] [b3, b14, b2] w_45 _ _ := hs45; clear hs45
     refine sq_on hs46 rfl rfl 14 rfl rfl (st_not hs46 (Ev.t 0 rfl) rfl rfl fun _ _ hs47 => ?_); clear hs46
     refine sq rfl (st_pick hs47 (Ev.t 15 rfl) rfl rfl (fun h => by cases h) (fun h => (Ev.t 0 rfl)) fun _ _ hs48 => ?_); clear hs47
     refine hK16 _ _ ?_; clear hK16
     have hs49 := hs48.keep [0, 20, 21, 22, 23, 24, 25, 26] [_, _, _, _, _, _, _, _] rfl; clear hs48
     refine cd_cond hs49 (Ev.t 0 rfl) (fun hc19 => ?_) (fun hc19 => ?_)
     · refine cd_retX (vs := []) hs49 (fun a_ w_ h => in_ret (th_ret (th_ret (in_ret (hQ0 a_ w_ h))))) rfl trivial ⟨⟨_, rfl⟩, ?_⟩
       have hMk : ∀ k ∈ [b3, b14, b2], W.heap.size ≤ k := by intro k hk; simp only [List.mem_cons, List.not_mem_nil, or_false] at hk; omega
       have hr := hy0 (by simpa using hc19)
       exact .inr (hRst _ _ hr (Kp.sm hs49.kp hMk hyn))
     · refine cd_skip ?_
       refine in_norm ?_
       refine th_norm (hK12 _ _ ?_)
       refine cd_region1 ?_
       refine sq rfl (st_add (z := (i : Int) + 1) hs49 (Ev.t 1 rfl) (.const _) rfl rfl rfl (by omega) fun _ _ hs50 => ?_); clear hs49
       have hs51 := hs50.keep [0, 1, 3, 4, 5, 6, 7, 8] [_, _, _, _, _, _, _, _] rfl; clear hs50
       refine sq rfl (st_move hs51 (Ev.t 0 rfl) rfl rfl fun _ _ hs52 => ?_); clear hs51
       refine wpListIn_nil ?_
       have hs53 := hs52.keep [0, 3, 4, 5, 6, 7, 8] [_, _, _, _, _, _, _] rfl; clear hs52
       refine ⟨i + 1, ⟨?_, ?_, ?_, ?_⟩, by omega⟩
       · exact Nat.le_trans hyn hs53.kp.size
       · first | omega | (simp; done) | (simp; omega)
       · have hMk : ∀ k ∈ [b3, b14, b2], W.heap.size ≤ k := by intro k hk; simp only [List.mem_cons, List.not_mem_nil, or_false] at hk; omega
         exact hJst (i + 1) _ _ (hy1 (by simpa using hc19)) (Kp.sm hs53.kp hMk hyn)
       have hs54 : Sx 53 [] [(16, .int .i64 ((i : Int) + 1)), (15, .int .i64 (m : Int)), (14, .slice A2 m c2), (4, .pointer (some ⟨b3, 0, none⟩)), (5, .pointer (some ⟨b2, 0, none⟩)), (0, .func (.yield l) #[] #[]), (1, .pointer (some ⟨t1, 0, none⟩))] [(b3, some (.cells ⟨[.int .i64 ((b.run false plan (i + 1)).1), .int .i64 ((b.run false plan (i + 1)).2)]⟩ 103 (0, 0))), (b2, some (.cells ⟨[.int .i64 ((b.run true plan (i + 1)).1), .int .i64 ((b.run true plan (i + 1)).2)]⟩ 103 (0, 0)))] [b3, b14, b2] w_45 _ _ := Sx.blks hs53 ((List.Sublist.cons_cons _ (List.Sublist.cons _ (List.Sublist.cons_cons _ List.Sublist.slnil))))
       exact Sx.keepE [0, 1, 2, 3, 4, 5, 6] _ ⟨⟨_, rfl, rfl⟩, ⟨_, rfl, rfl⟩, ⟨_, rfl, rfl⟩, ⟨_, rfl, rfl⟩, ⟨_, rfl, rfl⟩, ⟨_, rfl, rfl⟩, ⟨_, rfl, rfl⟩, trivial⟩ hs54.rebase
   · skip
     refine cd_region fun K20 hK20 => ?_
     refine sq rfl (st_loadA (o := 0) (off := 0) (vs := [.int .i64 ((b.run false plan (i + 1)).1), .int .i64 ((b.run false plan (i + 1)).2)]) hs27 (Ev.t 4 rfl) rfl rfl isAgg103 sizeOf103 (hs27.cells 0 rfl) rfl fun _ _ hs28 => ?_); clear hs27
     refine sq rfl (st_callv (vs := [.agg ⟨[.int .i64 ((b.run false plan (i + 1)).1), .int .i64 ((b.run false plan (i + 1)).2)]⟩]) hs28 (.func _) ⟨(Ev.t 0 rfl), trivial⟩ rfl rfl call75 rfl (stands_v ((b.run false plan (i + 1)).1) ((b.run false plan (i + 1)).2) _) fun _ _ hs29 => ?_); clear hs28
     have hs30 := Sx.keepE [0, 1, 2, 3, 4, 5, 6, 7, 8, 9] [(34, .bool true), (33, _), (6, _), (16, _), (15, _), (14, _), (4, _), (5, _), (0, _), (1, _)] ⟨⟨_, rfl, (by have h := hdd1; unfold Book.dead at h; rw [h])⟩, ⟨_, rfl, rfl⟩, ⟨_, rfl, rfl⟩, ⟨_, rfl, rfl⟩, ⟨_, rfl, rfl⟩, ⟨_, rfl, rfl⟩, ⟨_, rfl, rfl⟩, ⟨_, rfl, rfl⟩, ⟨_, rfl, rfl⟩, ⟨_, rfl, rfl⟩, trivial⟩ hs29; clear hs29
     refine sq rfl (st_move hs30 (Ev.t 0 rfl) rfl rfl fun _ _ hs31 => ?_); clear hs30
     refine sq_off hs31 rfl rfl 0 rfl rfl rfl rfl rfl fun _ _ hs32 => ?_; clear hs31
     refine sq_off hs32 rfl rfl 1 rfl rfl rfl rfl rfl fun _ _ hs33 => ?_; clear hs32
     refine sq_off hs33 rfl rfl 2 rfl rfl rfl rfl rfl fun _ _ hs34 => ?_; clear hs33
     refine sq_off hs34 rfl rfl 3 rfl rfl rfl rfl rfl fun _ _ hs35 => ?_; clear hs34
     refine sq_off hs35 rfl rfl 4 rfl rfl rfl rfl rfl fun _ _ hs36 => ?_; clear hs35
     refine sq_off hs36 rfl rfl 5 rfl rfl rfl rfl rfl fun _ _ hs37 => ?_; clear hs36
     refine sq_off hs37 rfl rfl 6 rfl rfl rfl rfl rfl fun _ _ hs38 => ?_; clear hs37
     refine sq_off hs38 rfl rfl 7 rfl rfl rfl rfl rfl fun _ _ hs39 => ?_; clear hs38
     refine sq_off hs39 rfl rfl 8 rfl rfl rfl rfl rfl fun _ _ hs40 => ?_; clear hs39
     refine sq_off hs40 rfl rfl 9 rfl rfl rfl rfl rfl fun _ _ hs41 => ?_; clear hs40
     refine sq_off hs41 rfl rfl 10 rfl rfl rfl rfl rfl fun _ _ hs42 => ?_; clear hs41
     refine sq_off hs42 rfl rfl 11 rfl rfl rfl rfl rfl fun _ _ hs43 => ?_; clear hs42
     refine sq_off hs43 rfl rfl 12 rfl rfl rfl rfl rfl fun _ _ hs44 => ?_; clear hs43
     refine sq_off hs44 rfl rfl 13 rfl rfl rfl rfl rfl fun _ _ hs45 => ?_; clear hs44
     refine sq_off hs45 rfl rfl 14 rfl rfl rfl rfl rfl fun _ _ hs46 => ?_; clear hs45
     refine sq rfl (st_pick hs46 (Ev.t 15 rfl) rfl rfl (fun h => (.const _)) (fun h => by cases h) fun _ _ hs47 => ?_); clear hs46
     refine hK20 _ _ ?_; clear hK20
     have hs48 := hs47.keep [0, 20, 21, 22, 23, 24, 25, 26] [_, _, _, _, _, _, _, _] rfl; clear hs47
     have hc21 : true = true := rfl
     refine cd_cond hs48 (Ev.t 0 rfl) (fun _ => ?_) (fun h => absurd (hc21.symm.trans h) (by decide))
     refine cd_retX (vs := []) hs48 (fun a_ w_ h => in_ret (th_ret (th_ret (in_ret (hQ0 a_ w_ h))))) rfl trivial ⟨⟨_, rfl⟩, ?_⟩
     have e : i = d := by rcases Nat.lt_or_ge i d with h | h; (rw [hal i h] at hdd1; cases hdd1); omega
     have hMk : ∀ k ∈ [b3, b2], W.heap.size ≤ k := by intro k hk; simp only [List.mem_cons, List.not_mem_nil, or_false] at hk; omega
     rw [List.length_range, ← e]
     exact .inl (hJst i _ _ hJ (Kp.sm hs48.kp hMk hWw))
 · have him : m ≤ i := by simp at hc7; omega
   refine cd_exit ?_
   refine th_exit ?_
   refine th_exit ?_
   refine in_hit ?_
   have hMk : ∀ k ∈ [b3, b2], W.heap.size ≤ k := by intro k hk; simp only [List.mem_cons, List.not_mem_nil, or_false] at hk; omega
   have e : i = d := by omega
   refine endX (vs := []) hs12 hN0 rfl trivial ⟨⟨_, rfl⟩, .inl ?_⟩
   rw [List.length_range, ← e]
   exact hJst i _ _ hJ (Kp.sm hs12.kp hMk hWw)

theorem evenings_b (b : Book) (A : Option Addr) (n cp : Nat) (A2 : Option Addr) (m c2 : Nat) (w : World)  :
    CallsB Tryd.prog 53 [.agg ⟨bookL b A n cp⟩, .slice A2 m c2] w (fun v bs => ∃ b2 b3, v = .func (.func 70) #[] ⟨[.pointer (some ⟨b2, 0, none⟩), .pointer (some ⟨b3, 0, none⟩)]⟩ ∧ bs = [(b3, some (.cells ⟨[.slice A2 m c2]⟩ 28 (0, 0))), (b2, some (.cells ⟨bookL b A n cp⟩ 75 (0, 0)))]) := by
 refine enter (N := 6) (M := []) w func53 rfl rfl rfl (fun Q0 a_0 hQ0 hN0 hs0 => ?_)
 refine cd_region fun K1 hK1 => ?_
 refine sq rfl (st_box hs0 (Ev.t 0 rfl) rfl rfl rfl fun b2 _ _ hs1 => ?_); clear hs0
 refine sq rfl (st_box hs1 (Ev.t 2 rfl) rfl rfl rfl fun b3 _ _ hs2 => ?_); clear hs1
 refine sq rfl (st_assign hs2 (.const _) rfl rfl fun _ _ hs3 => ?_); clear hs2
 refine hK1 _ _ ?_; clear hK1
 have hs4 := hs3.keep [0, 1, 2] [_, _, _] rfl; clear hs3
 refine cd_region fun K4 hK4 => ?_
 refine sq rfl (st_makeFunc (us := []) (vs := [.pointer (some ⟨b2, 0, none⟩), .pointer (some ⟨b3, 0, none⟩)]) hs4 trivial ⟨(Ev.t 2 rfl), (Ev.t 1 rfl), trivial⟩ rfl rfl fun _ _ hs5 => ?_); clear hs4
 have hs6 := hs5.keep [0, 2, 3] [_, _, _] rfl; clear hs5
 refine sq rfl (st_assign hs6 (Ev.t 0 rfl) rfl rfl fun _ _ hs7 => ?_); clear hs6
 refine hK4 _ _ ?_; clear hK4
 have hs8 := hs7.keep [0] [_] rfl; clear hs7
 refine cd_ret (vs := [.func (.func 70) ⟨[]⟩ ⟨[.pointer (some ⟨b2, 0, none⟩), .pointer (some ⟨b3, 0, none⟩)]⟩]) (bs := [(b3, some (.cells ⟨[.slice A2 m c2]⟩ 28 (0, 0))), (b2, some (.cells ⟨(bookL b A n cp)⟩ 75 (0, 0)))]) hs8 hQ0 rfl ⟨.tmp 0 rfl, trivial⟩ (List.Sublist.refl _) ⟨b2, b3, rfl, rfl⟩

/-- The first part behind which the engine stands, or all of them. -/
theorem dead_first {b : Book} {plan : List Walks} (m : Nat) : ∃ d, d ≤ m ∧ (∀ i, i < d → b.dead plan i = false) ∧ (d < m → b.dead plan d = true) := by
  induction m with
  | zero => exact ⟨0, Nat.le_refl _, fun i h => absurd h (Nat.not_lt_zero _), fun h => absurd h (Nat.lt_irrefl _)⟩
  | succ m ih =>
    obtain ⟨d, h1, h2, h3⟩ := ih
    rcases Nat.lt_or_ge d m with h | h
    · exact ⟨d, by omega, h2, fun _ => h3 h⟩
    · have e : d = m := by omega
      subst e
      cases hd : b.dead plan d with
      | true => exact ⟨d, by omega, h2, fun _ => hd⟩
      | false => exact ⟨d + 1, Nat.le_refl _, fun i hi => by rcases Nat.lt_or_ge i d with h' | h'; exact h2 i h'; (have e : i = d := by omega); rw [e]; exact hd, fun h' => absurd h' (Nat.lt_irrefl _)⟩
theorem first_from {f : Nat → Bool} : ∀ (n i d : Nat), i ≤ d → d < i + n → (∀ j, i ≤ j → j < d → f j = false) → f d = true → first f n i = (d : Int) := by
  intro n
  induction n with
  | zero => intro i d h1 h2 _ _; omega
  | succ n ih =>
    intro i d h1 h2 h3 h4
    rcases Nat.lt_or_ge i d with h | h
    · rw [first, if_neg (by simp [h3 i (Nat.le_refl _) h])]; exact ih (i + 1) d (by omega) (by omega) (fun j hj hd => h3 j (by omega) hd) h4
    · have e : i = d := by omega
      rw [first, e, if_pos h4]
theorem first_none {f : Nat → Bool} : ∀ (n i : Nat), (∀ j, i ≤ j → j < i + n → f j = false) → first f n i = -1 := by
  intro n
  induction n with
  | zero => intro i _; rfl
  | succ n ih => intro i h; rw [first, if_neg (by simp [h i (Nat.le_refl _) (by omega)])]; exact ih (i + 1) (fun j h1 h2 => h j (by omega) (by omega))
theorem deadI_at {b : Book} {plan : List Walks} {k d : Nat} (h2 : ∀ i, i < d → b.dead plan i = false) (h3 : b.dead plan d = true) (h : d ≤ k) : b.deadI plan k = (d : Int) :=
  first_from (k + 1) 0 d (Nat.zero_le _) (by omega) (fun j _ hj => h2 j hj) h3
theorem deadI_no {b : Book} {plan : List Walks} {k d : Nat} (h2 : ∀ i, i < d → b.dead plan i = false) (h : k < d) : b.deadI plan k = -1 :=
  first_none (k + 1) 0 (fun j _ hj => h2 j (by omega))

theorem Left_v (b : Book) (A : Option Addr) (n cp : Nat) (A2 : Option Addr) (m c2 : Nat) (plan : List Walks) (k : Int) (w : World) (hP : PartsAt w A n b.parts) (hn : n ≤ 140737488351232) (hL : PlanAt w A2 m plan) (hm : m ≤ 140737488351232) (hG : CellsAt w 0 0 stuffsL) :
    CallsV Tryd.prog 18 [.agg ⟨(bookL b A n cp)⟩, .slice A2 m c2, .int .i64 k] w (.tuple ⟨[.agg ⟨[.int .i64 ((b.leftR plan k).1.lo), .int .i64 ((b.leftR plan k).1.hi)]⟩, .agg ⟨[.int .i64 ((b.leftR plan k).2.1.lo), .int .i64 ((b.leftR plan k).2.1.hi)]⟩, .int .i64 ((b.leftR plan k).2.2)]⟩) := by
 refine enterM (N := 51) (M := []) w func18 rfl rfl rfl (fun Q0 a_0 hQ0 hN0 hs0 => ?_)
 refine cd_region fun K1 hK1 => ?_
 refine sq rfl (st_box hs0 (Ev.t 0 rfl) rfl rfl rfl fun b2 _ _ hs1 => ?_); clear hs0
 refine sq rfl (st_box hs1 (Ev.t 3 rfl) rfl rfl rfl fun b3 _ _ hs2 => ?_); clear hs1
 refine sq rfl (st_alloc hs2 rfl rfl zeroValue23 rfl fun b4 _ _ hs3 => ?_); clear hs2
 refine sq rfl (st_alloc hs3 rfl rfl zeroValue23 rfl fun b5 _ _ hs4 => ?_); clear hs3
 refine sq rfl (st_alloc hs4 rfl rfl zeroValue30 rfl fun b6 _ _ hs5 => ?_); clear hs4
 refine hK1 _ _ ?_; clear hK1
 have hs6 := hs5.keep [0, 1, 2, 3, 4, 6] [_, _, _, _, _, _] rfl; clear hs5
 refine cd_seq fun K7 hK7 => ?_
 refine cd_region fun K8 hK8 => ?_
 refine sq rfl (st_loadA (o := 0) (off := 0) (vs := (bookL b A n cp)) hs6 (Ev.t 4 rfl) rfl rfl isAgg27 sizeOf27 (hs6.cells 4 rfl) rfl fun _ _ hs7 => ?_); clear hs6
 refine sq rfl (st_callv (vs := [.agg ⟨(bookL b A n cp)⟩]) hs7 (.func _) ⟨(Ev.t 0 rfl), trivial⟩ rfl rfl call16 rfl (check_v b A n cp _ (hP.kp hs7.kp) hn) fun _ _ hs8 => ?_); clear hs7
 refine sq rfl (st_assign hs8 (Ev.t 0 rfl) rfl rfl fun _ _ hs9 => ?_); clear hs8
 refine hK8 _ _ ?_; clear hK8
 have hs10 := hs9.keep [0, 3, 4, 5, 6, 7, 8] [_, _, _, _, _, _, _] rfl; clear hs9
 refine cd_region fun K9 hK9 => ?_
 refine sq rfl (st_move hs10 (Ev.t 0 rfl) rfl rfl fun _ _ hs11 => ?_); clear hs10
 refine sq rfl (st_cmp (c := (if b.ok then 0 else 40 : Int) != 0) hs11 (Ev.t 0 rfl) (.const _) rfl rfl rfl rfl fun _ _ hs12 => ?_); clear hs11
 refine hK9 _ _ ?_; clear hK9
 have hs13 := hs12.keep [0, 2, 3, 4, 5, 6, 7, 8] [_, _, _, _, _, _, _, _] rfl; clear hs12
 refine cd_cond hs13 (Ev.t 0 rfl) (fun hc10 => ?_) (fun hc10 => ?_)
 · have hok : b.ok = false := by cases h : b.ok <;> simp [h] at hc10 ⊢
   refine cd_region fun K11 hK11 => ?_
   refine sq rfl (st_build hs13 (qs := []) (v := .agg ⟨[.int .i64 0, .int .i64 0]⟩) trivial rfl rfl rfl (fun _ => by kernel_rfl) fun _ _ hs14 => ?_); clear hs13
   refine sq rfl (st_build hs14 (qs := []) (v := .agg ⟨[.int .i64 0, .int .i64 0]⟩) trivial rfl rfl rfl (fun _ => by kernel_rfl) fun _ _ hs15 => ?_); clear hs14
   refine sq rfl (st_move hs15 (Ev.t 3 rfl) rfl rfl fun _ _ hs16 => ?_); clear hs15
   refine sq rfl (st_store (l' := [.int .i64 0, .int .i64 0]) (vs := [.int .i64 0, .int .i64 0]) (i := 2) hs16 (Ev.t 7 rfl) (Ev.t 2 rfl) sizeOf23 rfl rfl rfl rfl rfl rfl fun _ _ hs17 => ?_); clear hs16
   have hs18 := hs17.asB [_, _, _, _, _] rfl; clear hs17
   refine sq rfl (st_store (l' := [.int .i64 0, .int .i64 0]) (vs := [.int .i64 0, .int .i64 0]) (i := 1) hs18 (Ev.t 6 rfl) (Ev.t 1 rfl) sizeOf23 rfl rfl rfl rfl rfl rfl fun _ _ hs19 => ?_); clear hs18
   have hs20 := hs19.asB [_, _, _, _, _] rfl; clear hs19
   refine sq rfl (st_store (l' := [.int .i64 (if b.ok then 0 else 40)]) (vs := [.int .i64 (if b.ok then 0 else 40)]) (i := 0) hs20 (Ev.t 5 rfl) (Ev.t 0 rfl) sizeOf30 rfl rfl rfl rfl rfl rfl fun _ _ hs21 => ?_); clear hs20
   have hs22 := hs21.asB [_, _, _, _, _] rfl; clear hs21
   refine hK11 _ _ ?_; clear hK11
   have hs23 := hs22.keep [5, 6, 7] [_, _, _] rfl; clear hs22
   refine cd_retM (vs := [.agg ⟨[.int .i64 0, .int .i64 0]⟩, .agg ⟨[.int .i64 0, .int .i64 0]⟩, .int .i64 (if b.ok then 0 else 40)]) hs23 (fun a_ w_ h => th_ret (hQ0 a_ w_ h)) rfl ⟨resA (o := 0) (off := 0) (vs := [.int .i64 0, .int .i64 0]) 2 rfl isAgg23 sizeOf23 (hs23.cells 2 rfl) rfl, resA (o := 0) (off := 0) (vs := [.int .i64 0, .int .i64 0]) 1 rfl isAgg23 sizeOf23 (hs23.cells 1 rfl) rfl, res1 (o := 0) (off := 0) (v := .int .i64 (if b.ok then 0 else 40)) 0 rfl isAgg30 (hs23.cells 0 rfl) rfl, trivial⟩ ?_
   clear hs23 hQ0 hN0 hK7
   first | (simp [pack, Book.leftR, hok, hC, hD]; done) | (simp [pack, Book.leftR, hok, hC, hD, hi0]; done) | (simp [pack, Book.leftR, hok, hC]; done) | simp [pack, Book.leftR, hok]
 · have hok : b.ok = true := by cases h : b.ok <;> simp [h] at hc10 ⊢
   have hb := ok_bd hok
   refine cd_skip ?_
   refine th_norm (hK7 _ _ ?_)
   refine cd_region fun K12 hK12 => ?_
   refine sq rfl (st_loadA (o := 0) (off := 0) (vs := (bookL b A n cp)) hs13 (Ev.t 6 rfl) rfl rfl isAgg27 sizeOf27 (hs13.cells 4 rfl) rfl fun _ _ hs14 => ?_); clear hs13
   refine sq rfl (st_build hs14 (qs := [(0, .agg ⟨(bookL b A n cp)⟩)]) (v := .agg ⟨(bookL b A n cp)⟩) ⟨(Ev.t 0 rfl), trivial⟩ rfl rfl rfl (fun _ => by kernel_rfl) fun _ _ hs15 => ?_); clear hs14
   refine sq rfl (st_alloc hs15 rfl rfl zeroValue75 rfl fun b13 _ _ hs16 => ?_); clear hs15
   refine sq rfl (st_store (l' := (bookL b A n cp)) (vs := (bookL b A n cp)) (i := 0) hs16 (Ev.t 0 rfl) (Ev.t 1 rfl) sizeOf75 rfl rfl rfl rfl rfl rfl fun _ _ hs17 => ?_); clear hs16
   have hs18 := hs17.asB [_, _, _, _, _, _] rfl; clear hs17
   refine hK12 _ _ ?_; clear hK12
   have hs19 := hs18.keep [0, 5, 6, 7, 8, 9, 10] [_, _, _, _, _, _, _] rfl; clear hs18
   refine cd_seq fun K14 hK14 => ?_
   refine cd_region fun K15 hK15 => ?_
   refine sq rfl (st_loadA (o := 0) (off := 0) (vs := (bookL b A n cp)) hs19 (Ev.t 0 rfl) rfl rfl isAgg75 sizeOf75 (hs19.cells 0 rfl) rfl fun _ _ hs20 => ?_); clear hs19
   refine sq rfl (st_move hs20 (Ev.t 7 rfl) rfl rfl fun _ _ hs21 => ?_); clear hs20
   refine sq rfl (st_callv (vs := [.agg ⟨(bookL b A n cp)⟩, .slice A2 m c2]) hs21 (.func _) ⟨(Ev.t 1 rfl), (Ev.t 0 rfl), trivial⟩ rfl rfl call52 rfl (isPlan_v b A n cp A2 m c2 plan _ (hP.kp hs21.kp) hn (hL.kp hs21.kp) hm hb) fun _ _ hs22 => ?_); clear hs21
   refine sq rfl (st_not hs22 (Ev.t 0 rfl) rfl rfl fun _ _ hs23 => ?_); clear hs22
   refine sq rfl (st_move hs23 (Ev.t 0 rfl) rfl rfl fun _ _ hs24 => ?_); clear hs23
   refine sq_gv hs24 (gg := !(!(b.isPlan plan))) (v := .int .i64 k) rfl rfl 0 rfl (ison_f _) rfl rfl rfl (fun hg16 K17 hK17 => st_load1 (o := 0) (off := 0) (v := .int .i64 k) hs24 (Ev.t 9 rfl) rfl rfl isAgg3 (hs24.cells 4 rfl) rfl hK17) fun _ _ hs25 => ?_; clear hs24
   refine sq_gv hs25 (gg := !(!(b.isPlan plan))) (v := .pointer (some ⟨b2, 22, none⟩)) rfl rfl 1 rfl (ison_f _) rfl rfl rfl (fun hg18 K19 hK19 => st_field (o' := 22) hs25 (Ev.t 11 rfl) rfl rfl runUnderlying27 rfl sizeOf25 rfl rfl hK19) fun _ _ hs26 => ?_; clear hs25
   refine sq_gv hs26 (gg := !(!(b.isPlan plan))) (v := .slice A n cp) rfl rfl 2 rfl (ison_f _) rfl rfl rfl (fun hg20 K21 hK21 => st_load1 (o := 0) (off := 22) (v := .slice A n cp) hs26 ((Ev.t 0 rfl).un hg20) rfl rfl isAgg25 (hs26.cells 5 rfl) rfl hK21) fun _ _ hs27 => ?_; clear hs26
   refine sq_gv hs27 (gg := !(!(b.isPlan plan))) (v := .int .i64 (n : Int)) rfl rfl 3 rfl (ison_f _) rfl rfl rfl (fun hg22 K23 hK23 => st_len hs27 ((Ev.t 0 rfl).un hg22) rfl rfl runUnderlying25 hK23) fun _ _ hs28 => ?_; clear hs27
   refine sq_gv hs28 (gg := !(!(b.isPlan plan))) (v := .int .i64 ((n : Int) - 1)) rfl rfl 4 rfl (ison_f _) rfl rfl rfl (fun hg24 K25 hK25 => st_sub (z := (n : Int) - 1) hs28 ((Ev.t 0 rfl).un hg24) (.const _) rfl rfl rfl (by omega) hK25) fun _ _ hs29 => ?_; clear hs28
   refine sq_gv hs29 (gg := !(!(b.isPlan plan))) (v := .bool (within k 0 ((n : Int) - 1))) rfl rfl 5 rfl (ison_f _) rfl rfl rfl (fun hg26 K27 hK27 => st_callv (vs := [.int .i64 k, .int .i64 0, .int .i64 ((n : Int) - 1)]) hs29 (.func _) ⟨((Ev.t 4 rfl).un hg26), (.const _), ((Ev.t 0 rfl).un hg26), trivial⟩ rfl rfl call48 rfl (within_v k 0 ((n : Int) - 1) _) hK27) fun _ _ hs30 => ?_; clear hs29
   refine sq_gv hs30 (gg := !(!(b.isPlan plan))) (v := .bool (!(within k 0 ((n : Int) - 1)))) rfl rfl 6 rfl (ison_f _) rfl rfl rfl (fun hg28 K29 hK29 => st_not hs30 ((Ev.t 0 rfl).un hg28) rfl rfl hK29) fun _ _ hs31 => ?_; clear hs30
   refine sq rfl (st_or hs31 (gx := true) (gy := !(!(b.isPlan plan))) (Ev.t 7 rfl) rfl (Ev.t 0 rfl) (fun h => (by first | exact absurd h (by decide) | (rw [h]; rfl))) rfl rfl fun _ _ hs32 => ?_); clear hs31
   refine hK15 _ _ ?_; clear hK15
   have hs33 := hs32.keep [0, 13, 14, 15, 16, 17, 19] [_, _, _, _, _, _, _] rfl; clear hs32
   refine cd_cond hs33 (Ev.t 0 rfl) (fun hc30 => ?_) (fun hc30 => ?_)
   · have hC : ¬ (b.isPlan plan = true ∧ within k 0 ((b.parts.length : Int) - 1) = true) := by
       rw [← hP.len]; intro ⟨h1, h2⟩; simp [h1, h2] at hc30
     refine cd_region fun K31 hK31 => ?_
     refine sq rfl (st_build hs33 (qs := []) (v := .agg ⟨[.int .i64 0, .int .i64 0]⟩) trivial rfl rfl rfl (fun _ => by kernel_rfl) fun _ _ hs34 => ?_); clear hs33
     refine sq rfl (st_build hs34 (qs := []) (v := .agg ⟨[.int .i64 0, .int .i64 0]⟩) trivial rfl rfl rfl (fun _ => by kernel_rfl) fun _ _ hs35 => ?_); clear hs34
     refine sq rfl (st_store (l' := [.int .i64 0, .int .i64 0]) (vs := [.int .i64 0, .int .i64 0]) (i := 3) hs35 (Ev.t 6 rfl) (Ev.t 1 rfl) sizeOf23 rfl rfl rfl rfl rfl rfl fun _ _ hs36 => ?_); clear hs35
     have hs37 := hs36.asB [_, _, _, _, _, _] rfl; clear hs36
     refine sq rfl (st_store (l' := [.int .i64 0, .int .i64 0]) (vs := [.int .i64 0, .int .i64 0]) (i := 2) hs37 (Ev.t 5 rfl) (Ev.t 0 rfl) sizeOf23 rfl rfl rfl rfl rfl rfl fun _ _ hs38 => ?_); clear hs37
     have hs39 := hs38.asB [_, _, _, _, _, _] rfl; clear hs38
     refine sq rfl (st_store (l' := [.int .i64 41]) (vs := [.int .i64 41]) (i := 1) hs39 (Ev.t 4 rfl) (.const _) sizeOf30 rfl rfl rfl rfl rfl rfl fun _ _ hs40 => ?_); clear hs39
     have hs41 := hs40.asB [_, _, _, _, _, _] rfl; clear hs40
     refine hK31 _ _ ?_; clear hK31
     have hs42 := hs41.keep [4, 5, 6] [_, _, _] rfl; clear hs41
     refine cd_retM (vs := [.agg ⟨[.int .i64 0, .int .i64 0]⟩, .agg ⟨[.int .i64 0, .int .i64 0]⟩, .int .i64 41]) hs42 (fun a_ w_ h => th_ret (hQ0 a_ w_ h)) rfl ⟨resA (o := 0) (off := 0) (vs := [.int .i64 0, .int .i64 0]) 2 rfl isAgg23 sizeOf23 (hs42.cells 3 rfl) rfl, resA (o := 0) (off := 0) (vs := [.int .i64 0, .int .i64 0]) 1 rfl isAgg23 sizeOf23 (hs42.cells 2 rfl) rfl, res1 (o := 0) (off := 0) (v := .int .i64 41) 0 rfl isAgg30 (hs42.cells 1 rfl) rfl, trivial⟩ ?_
     clear hs42 hQ0 hN0 hK14
     first | (simp [pack, Book.leftR, hok, hC, hD]; done) | (simp [pack, Book.leftR, hok, hC, hD, hi0]; done) | (simp [pack, Book.leftR, hok, hC]; done) | simp [pack, Book.leftR, hok]
   · simp only [Bool.or_eq_false_iff, Bool.not_eq_false'] at hc30
     have hpl := hc30.1
     have hwi := hc30.2
     have hwj := Eng.within_iff.1 hwi
     have hlen := isPlan_len hpl
     have hl1 := hL.len
     have hl2 := hP.len
     have hkk : (k.toNat : Int) = k := Int.toNat_of_nonneg hwj.1
     have hC : b.isPlan plan = true ∧ within k 0 ((b.parts.length : Int) - 1) = true := ⟨hpl, by rw [← hl2]; exact hwi⟩
     obtain ⟨d, hdm, hal, hdd⟩ := dead_first (b := b) (plan := plan) m
     refine cd_skip ?_
     refine th_norm (hK14 _ _ ?_)
     refine cd_seq fun K32 hK32 => ?_
     refine cd_region fun K33 hK33 => ?_
     refine sq rfl (st_loadA (o := 0) (off := 0) (vs := (bookL b A n cp)) hs33 (Ev.t 1 rfl) rfl rfl isAgg75 sizeOf75 (hs33.cells 0 rfl) rfl fun _ _ hs34 => ?_); clear hs33
     refine sq rfl (st_move hs34 (Ev.t 7 rfl) rfl rfl fun _ _ hs35 => ?_); clear hs34
     refine sq rfl (st_call (vs := [.agg ⟨(bookL b A n cp)⟩, .slice A2 m c2]) hs35 (.func _) ⟨(Ev.t 1 rfl), (Ev.t 0 rfl), trivial⟩ rfl rfl call53 rfl (evenings_b b A n cp A2 m c2 _) fun v36 bs37 a_36 w_36 hp36 hs36 => ?_); clear hs35
     obtain ⟨b34, b35, rfl, rfl⟩ := hp36
     have hs37 := Sx.as (T' := [_, _, _, _, _, _, _, _, _, _]) (B' := [_, _, _, _, _, _, _, _]) rfl rfl hs36; clear hs36
     refine hK33 _ _ ?_; clear hK33
     have hs38 := hs37.keep [0, 5, 6, 7, 8] [_, _, _, _, _] rfl; clear hs37
     refine cd_block ?_
     refine cd_range (X := Unit) (eveL b plan) (List.range d) (fun i => [(b35, some (.cells ⟨[.slice A2 m c2]⟩ 28 (0, 0))), (b34, some (.cells ⟨(bookL b A n cp)⟩ 75 (0, 0))), (b13, some (.cells ⟨(bookL b A n cp)⟩ 75 (0, 0))), (b6, some (.cells ⟨[.int .i64 0]⟩ 30 (0, 0))), (b5, some (.cells ⟨[.int .i64 0, .int .i64 0]⟩ 23 (0, 0))), (b4, some (.cells ⟨[.int .i64 0, .int .i64 0]⟩ 23 (0, 0))), (b3, some (.cells ⟨[.int .i64 k]⟩ 3 (0, 0))), (b2, some (.cells ⟨(bookL b A n cp)⟩ 27 (0, 0)))]) (fun _ => [(b35, some (.cells ⟨[.slice A2 m c2]⟩ 28 (0, 0))), (b34, some (.cells ⟨(bookL b A n cp)⟩ 75 (0, 0))), (b13, some (.cells ⟨(bookL b A n cp)⟩ 75 (0, 0))), (b6, some (.cells ⟨[.int .i64 0]⟩ 30 (0, 0))), (b5, some (.cells ⟨[.int .i64 ((b.run false plan (k.toNat + 1)).2), .int .i64 ((b.run true plan (k.toNat + 1)).2)]⟩ 23 (0, 0))), (b4, some (.cells ⟨[.int .i64 ((b.run false plan (k.toNat + 1)).1), .int .i64 ((b.run true plan (k.toNat + 1)).1)]⟩ 23 (0, 0))), (b3, some (.cells ⟨[.int .i64 k]⟩ 3 (0, 0))), (b2, some (.cells ⟨(bookL b A n cp)⟩ 27 (0, 0)))]) (fun i => (i : Int) ≤ k) (fun _ => k < (d : Int)) [b35, b34, b13, b6, b5, b4, b3, b2] hs38 (Ev.t 0 rfl) call70 (evenings_seq b A n cp A2 m c2 plan b34 b35 hn hm hb hpl d hdm hal hdd) (fun _ => rfl) (fun _ => rfl) (fun _ => rfl) (fun _ => rfl) (fun _ => rfl) (by kernel_rfl) (by decide) ?_ ?_ ?_ ?_ ?_
     · show ((0 : Nat) : Int) ≤ k; omega
     · exact fun i W _ hk ht => ⟨hP.kp hk, hL.kp hk, hG.kp hk (by simp), (CellsAt.of_block (ht _ (mem_nth (i := 1) rfl) _ rfl)), (CellsAt.of_block (ht _ (mem_nth (i := 0) rfl) _ rfl))⟩
     · intro l_ i j_ a_39 w_39 hxi hpi hkW hs39; clear hs38
       have hs40 : Sx 51 [] [(40, .int .i64 (j_ : Int)), (41, .agg ⟨[.int .i64 ((b.run false plan (j_ + 1)).1), .int .i64 ((b.run true plan (j_ + 1)).1), .int .i64 ((b.run false plan (j_ + 1)).2), .int .i64 ((b.run true plan (j_ + 1)).2)]⟩), (39, .func (.func 70) ⟨[]⟩ ⟨[.pointer (some ⟨b34, 0, none⟩), .pointer (some ⟨b35, 0, none⟩)]⟩), (8, .pointer (some ⟨b6, 0, none⟩)), (7, .pointer (some ⟨b5, 0, none⟩)), (6, .pointer (some ⟨b4, 0, none⟩)), (5, .pointer (some ⟨b3, 0, none⟩))] [(b35, some (.cells ⟨[.slice A2 m c2]⟩ 28 (0, 0))), (b34, some (.cells ⟨(bookL b A n cp)⟩ 75 (0, 0))), (b13, some (.cells ⟨(bookL b A n cp)⟩ 75 (0, 0))), (b6, some (.cells ⟨[.int .i64 0]⟩ 30 (0, 0))), (b5, some (.cells ⟨[.int .i64 0, .int .i64 0]⟩ 23 (0, 0))), (b4, some (.cells ⟨[.int .i64 0, .int .i64 0]⟩ 23 (0, 0))), (b3, some (.cells ⟨[.int .i64 k]⟩ 3 (0, 0))), (b2, some (.cells ⟨(bookL b A n cp)⟩ 27 (0, 0)))] [b35, b34, b13, b6, b5, b4, b3, b2] w_39 _ _ := hs39; clear hs39
       have hxe : j_ = i ∧ i < d := by
         have h := List.getElem?_eq_some_iff.1 hxi
         obtain ⟨h1, h2⟩ := h
         rw [List.getElem_range] at h2; rw [List.length_range] at h1; omega
       obtain ⟨hxe, hidd⟩ := hxe
       subst hxe
       refine cd_region fun K38 hK38 => ?_
       refine sq rfl (st_assign hs40 (Ev.t 0 rfl) rfl rfl fun _ _ hs41 => ?_); clear hs40
       refine hK38 _ _ ?_; clear hK38
       have hs42 := hs41.keep [0, 2, 3, 4, 5, 6, 7] [_, _, _, _, _, _, _] rfl; clear hs41
       refine cd_region1 ?_
       refine sq rfl (st_alloc hs42 rfl rfl zeroValue24 rfl fun b39 _ _ hs43 => ?_); clear hs42
       refine sq rfl (st_store (l' := [.int .i64 ((b.run false plan (j_ + 1)).1), .int .i64 ((b.run true plan (j_ + 1)).1), .int .i64 ((b.run false plan (j_ + 1)).2), .int .i64 ((b.run true plan (j_ + 1)).2)]) (vs := [.int .i64 ((b.run false plan (j_ + 1)).1), .int .i64 ((b.run true plan (j_ + 1)).1), .int .i64 ((b.run false plan (j_ + 1)).2), .int .i64 ((b.run true plan (j_ + 1)).2)]) (i := 0) hs43 (Ev.t 0 rfl) (Ev.t 2 rfl) sizeOf24 rfl rfl rfl rfl rfl rfl fun _ _ hs44 => ?_); clear hs43
       have hs45 := hs44.asB [_, _, _, _, _, _, _, _, _] rfl; clear hs44
       refine wpListIn_nil ?_
       have hs46 := hs45.keep [0, 1, 3, 4, 5, 6, 7] [_, _, _, _, _, _, _] rfl; clear hs45
       refine th_norm ⟨_, _, hs46, rfl, rfl, fun w_47 hkW2 hs47 => ?_⟩; clear hs46
       have hs48 : Sx 51 [] [(12, .pointer (some ⟨b39, 0, none⟩)), (11, .int .i64 (j_ : Int)), (39, .func (.func 70) ⟨[]⟩ ⟨[.pointer (some ⟨b34, 0, none⟩), .pointer (some ⟨b35, 0, none⟩)]⟩), (8, .pointer (some ⟨b6, 0, none⟩)), (7, .pointer (some ⟨b5, 0, none⟩)), (6, .pointer (some ⟨b4, 0, none⟩)), (5, .pointer (some ⟨b3, 0, none⟩))] [(b39, some (.cells ⟨[.int .i64 ((b.run false plan (j_ + 1)).1), .int .i64 ((b.run true plan (j_ + 1)).1), .int .i64 ((b.run false plan (j_ + 1)).2), .int .i64 ((b.run true plan (j_ + 1)).2)]⟩ 24 (0, 0))), (b35, some (.cells ⟨[.slice A2 m c2]⟩ 28 (0, 0))), (b34, some (.cells ⟨(bookL b A n cp)⟩ 75 (0, 0))), (b13, some (.cells ⟨(bookL b A n cp)⟩ 75 (0, 0))), (b6, some (.cells ⟨[.int .i64 0]⟩ 30 (0, 0))), (b5, some (.cells ⟨[.int .i64 0, .int .i64 0]⟩ 23 (0, 0))), (b4, some (.cells ⟨[.int .i64 0, .int .i64 0]⟩ 23 (0, 0))), (b3, some (.cells ⟨[.int .i64 k]⟩ 3 (0, 0))), (b2, some (.cells ⟨(bookL b A n cp)⟩ 27 (0, 0)))] [b39, b35, b34, b13, b6, b5, b4, b3, b2] w_47 _ _ := hs47; clear hs47
       refine cd_block ?_
       refine cd_region fun K40 hK40 => ?_
       refine sq rfl (st_move hs48 (Ev.t 1 rfl) rfl rfl fun _ _ hs49 => ?_); clear hs48
       refine sq rfl (st_load1 (o := 0) (off := 0) (v := .int .i64 k) hs49 (Ev.t 7 rfl) rfl rfl isAgg3 (hs49.cells 7 rfl) rfl fun _ _ hs50 => ?_); clear hs49
       refine sq rfl (st_cmp (c := ((j_ : Int) : Int) == k) hs50 (Ev.t 1 rfl) (Ev.t 0 rfl) rfl rfl rfl rfl fun _ _ hs51 => ?_); clear hs50
       refine hK40 _ _ ?_; clear hK40
       refine cd_cond hs51 (Ev.t 0 rfl) (fun hc41 => ?_) (fun hc41 => ?_)
       · have hke : j_ = k.toNat := by simp at hc41; omega
         have hs52 : Sx 51 [] [(44, .bool (((j_ : Int) : Int) == k)), (43, .int .i64 k), (42, .int .i64 (j_ : Int)), (12, .pointer (some ⟨b39, 0, none⟩)), (11, .int .i64 (j_ : Int)), (39, .func (.func 70) ⟨[]⟩ ⟨[.pointer (some ⟨b34, 0, none⟩), .pointer (some ⟨b35, 0, none⟩)]⟩), (8, .pointer (some ⟨b6, 0, none⟩)), (7, .pointer (some ⟨b5, 0, none⟩)), (6, .pointer (some ⟨b4, 0, none⟩)), (5, .pointer (some ⟨b3, 0, none⟩))] [(b4, some (.cells ⟨[.int .i64 0, .int .i64 0]⟩ 23 (0, 0))), (b39, some (.cells ⟨[.int .i64 ((b.run false plan (j_ + 1)).1), .int .i64 ((b.run true plan (j_ + 1)).1), .int .i64 ((b.run false plan (j_ + 1)).2), .int .i64 ((b.run true plan (j_ + 1)).2)]⟩ 24 (0, 0))), (b35, some (.cells ⟨[.slice A2 m c2]⟩ 28 (0, 0))), (b34, some (.cells ⟨(bookL b A n cp)⟩ 75 (0, 0))), (b13, some (.cells ⟨(bookL b A n cp)⟩ 75 (0, 0))), (b6, some (.cells ⟨[.int .i64 0]⟩ 30 (0, 0))), (b5, some (.cells ⟨[.int .i64 0, .int .i64 0]⟩ 23 (0, 0))), (b3, some (.cells ⟨[.int .i64 k]⟩ 3 (0, 0))), (b2, some (.cells ⟨(bookL b A n cp)⟩ 27 (0, 0)))] [b39, b35, b34, b13, b6, b5, b4, b3, b2] w_47 _ _ := Sx.front hs51 6 rfl; clear hs51
         refine cd_drawS mixed [4] ⟨Unit, fun n_ x_ => match n_ with | 0 => [] | _ => [], fun n_ x_ => match n_ with | 0 => [(b4, some (.cells ⟨[.int .i64 0, .int .i64 0]⟩ 23 (0, 0)))] | _ => [(b4, some (.cells ⟨[.int .i64 ((b.run false plan (j_ + 1)).1), .int .i64 ((b.run true plan (j_ + 1)).1)]⟩ 23 (0, 0)))]⟩ () hs52 [⟨45, [], Is (.pointer (some ⟨b39, 0, none⟩))⟩, ⟨46, [0], Is (.agg ⟨[.int .i64 ((b.run false plan (j_ + 1)).1), .int .i64 ((b.run true plan (j_ + 1)).1)]⟩)⟩, ⟨47, [], Is (.pointer (some ⟨b39, 2, none⟩))⟩, ⟨48, [2], Is (.agg ⟨[.int .i64 ((b.run false plan (j_ + 1)).2), .int .i64 ((b.run true plan (j_ + 1)).2)]⟩)⟩, ⟨55, [1], Is undef⟩] (by kernel_rfl) (fun n_ _ => by rcases n_ with _ | _ <;> rfl) (by kernel_rfl) fun K42 hK42 => ⟨⟨?_, ?_, ?_, ?_, ?_, trivial⟩, ?_⟩
         · rintro T_ B_ a_ w_ K_ hT hB hf hsD hk
           exact ob rfl rfl (st_indexArr (o' := 0) hsD (evT hT 3 rfl) (.const _) rfl hf runUnderlying24 sizeOf23 (by decide) rfl fun _ _ => hk _ _ _ _ ⟨rfl, rfl⟩)
         · rintro T_ B_ a_ w_ K_ hT hB _ _ ⟨rfl, rfl⟩ h45 - hf hsD hk
           exact ob rfl rfl (st_loadA (o := 0) (off := 0) (vs := [.int .i64 ((b.run false plan (j_ + 1)).1), .int .i64 ((b.run true plan (j_ + 1)).1)]) hsD (Ev.tmp h45) rfl hf isAgg23 sizeOf23 (hsD.cellsM (inB hB 0 rfl)) rfl fun _ _ => hk _ _ _ _ ⟨rfl, rfl⟩)
         · rintro T_ B_ a_ w_ K_ hT hB hf hsD hk
           exact ob rfl rfl (st_indexArr (o' := 2) hsD (evT hT 3 rfl) (.const _) rfl hf runUnderlying24 sizeOf23 (by decide) rfl fun _ _ => hk _ _ _ _ ⟨rfl, rfl⟩)
         · rintro T_ B_ a_ w_ K_ hT hB _ _ ⟨rfl, rfl⟩ h47 - hf hsD hk
           exact ob rfl rfl (st_loadA (o := 0) (off := 2) (vs := [.int .i64 ((b.run false plan (j_ + 1)).2), .int .i64 ((b.run true plan (j_ + 1)).2)]) hsD (Ev.tmp h47) rfl hf isAgg23 sizeOf23 (hsD.cellsM (inB hB 0 rfl)) rfl fun _ _ => hk _ _ _ _ ⟨rfl, rfl⟩)
         · rintro T_ B_ a_ w_ K_ x_ hT hB _ _ ⟨rfl, rfl⟩ h46 - hf hsD hk
           exact ob rfl rfl (st_store (l' := [.int .i64 ((b.run false plan (j_ + 1)).1), .int .i64 ((b.run true plan (j_ + 1)).1)]) (vs := [.int .i64 ((b.run false plan (j_ + 1)).1), .int .i64 ((b.run true plan (j_ + 1)).1)]) (i := 0) hsD (Ev.tmp (List.mem_append_right _ (hT _ (mem_nth (i := 8) rfl)))) (Ev.tmp (List.mem_append_right _ h46)) sizeOf23 rfl rfl rfl rfl rfl rfl fun a_1 w_1 h1 => hk x_ _ _ h1)
         rintro _ _ ⟨rfl, rfl⟩
         rintro _ _ ⟨rfl, rfl⟩
         rintro _ _ ⟨rfl, rfl⟩
         rintro _ _ ⟨rfl, rfl⟩
         intro _ a_53 w_53 hs53
         clear hs52
         have hs54 := Sx.as (T' := [_, _, _, _, _, _, _, _, _, _, _, _, _, _]) (B' := [_, _, _, _, _, _, _, _, _]) rfl rfl hs53; clear hs53
         refine sq rfl (st_store (l' := [.int .i64 ((b.run false plan (j_ + 1)).2), .int .i64 ((b.run true plan (j_ + 1)).2)]) (vs := [.int .i64 ((b.run false plan (j_ + 1)).2), .int .i64 ((b.run true plan (j_ + 1)).2)]) (i := 6) hs54 (Ev.t 11 rfl) (Ev.t 3 rfl) sizeOf23 rfl rfl rfl rfl rfl rfl fun _ _ hs55 => ?_); clear hs54
         have hs56 := hs55.asB [_, _, _, _, _, _, _, _, _] rfl; clear hs55
         refine sq rfl (st_store (l' := [.int .i64 0]) (vs := [.int .i64 0]) (i := 5) hs56 (Ev.t 10 rfl) (.const _) sizeOf30 rfl rfl rfl rfl rfl rfl fun _ _ hs57 => ?_); clear hs56
         have hs58 := hs57.asB [_, _, _, _, _, _, _, _, _] rfl; clear hs57
         refine hK42 _ _ ?_; clear hK42
         have hs59 := hs58.keep [10, 11, 12] [_, _, _] rfl; clear hs58
         refine wpIn_ret (in_ret (?_))
         subst hke
         exact ⟨(), _, _, (by omega), (fun p hp => by simp only [List.mem_cons, List.not_mem_nil, or_false] at hp ⊢; rcases hp with rfl | rfl | rfl | rfl | rfl | rfl | rfl | rfl <;> simp), hs59⟩
       · have hke : (j_ : Int) ≠ k := by simp at hc41; omega
         refine cd_skip ?_
         refine in_norm ?_
         exact ⟨(show ((j_ + 1 : Nat) : Int) ≤ k by omega), _, _, (fun p hp => by simp only [List.mem_cons, List.not_mem_nil, or_false] at hp ⊢; rcases hp with rfl | rfl | rfl | rfl | rfl | rfl | rfl | rfl <;> simp), hs51⟩
     · intro d_39 a_39 w_39 hpd hs39; clear hs38
       have hs40 : Sx 51 [markOf d_39] [(39, .func (.func 70) ⟨[]⟩ ⟨[.pointer (some ⟨b34, 0, none⟩), .pointer (some ⟨b35, 0, none⟩)]⟩), (8, .pointer (some ⟨b6, 0, none⟩)), (7, .pointer (some ⟨b5, 0, none⟩)), (6, .pointer (some ⟨b4, 0, none⟩)), (5, .pointer (some ⟨b3, 0, none⟩))] [(d_39, some (.deferred (some []))), (b35, some (.cells ⟨[.slice A2 m c2]⟩ 28 (0, 0))), (b34, some (.cells ⟨(bookL b A n cp)⟩ 75 (0, 0))), (b13, some (.cells ⟨(bookL b A n cp)⟩ 75 (0, 0))), (b6, some (.cells ⟨[.int .i64 0]⟩ 30 (0, 0))), (b5, some (.cells ⟨[.int .i64 0, .int .i64 0]⟩ 23 (0, 0))), (b4, some (.cells ⟨[.int .i64 0, .int .i64 0]⟩ 23 (0, 0))), (b3, some (.cells ⟨[.int .i64 k]⟩ 3 (0, 0))), (b2, some (.cells ⟨(bookL b A n cp)⟩ 27 (0, 0)))] [] w _ _ := hs39; clear hs39
       rw [List.length_range] at hpd
       have hdk : d ≤ k.toNat := by omega
       have hD : b.deadI plan k.toNat = (d : Int) := deadI_at hal (hdd (by omega)) hdk
       have hi0 : ¬ ((d : Int) < 0) := by omega
       refine in_norm ?_
       refine th_norm (hK32 _ _ ?_)
       refine cd_region fun K43 hK43 => ?_
       refine sq rfl (st_build hs40 (qs := []) (v := .agg ⟨[.int .i64 0, .int .i64 0]⟩) trivial rfl rfl rfl (fun _ => by kernel_rfl) fun _ _ hs41 => ?_); clear hs40
       refine sq rfl (st_build hs41 (qs := []) (v := .agg ⟨[.int .i64 0, .int .i64 0]⟩) trivial rfl rfl rfl (fun _ => by kernel_rfl) fun _ _ hs42 => ?_); clear hs41
       refine sq rfl (st_store (l' := [.int .i64 0, .int .i64 0]) (vs := [.int .i64 0, .int .i64 0]) (i := 6) hs42 (Ev.t 5 rfl) (Ev.t 1 rfl) sizeOf23 rfl rfl rfl rfl rfl rfl fun _ _ hs43 => ?_); clear hs42
       have hs44 := hs43.asB [_, _, _, _, _, _, _, _, _] rfl; clear hs43
       refine sq rfl (st_store (l' := [.int .i64 0, .int .i64 0]) (vs := [.int .i64 0, .int .i64 0]) (i := 5) hs44 (Ev.t 4 rfl) (Ev.t 0 rfl) sizeOf23 rfl rfl rfl rfl rfl rfl fun _ _ hs45 => ?_); clear hs44
       have hs46 := hs45.asB [_, _, _, _, _, _, _, _, _] rfl; clear hs45
       refine sq rfl (st_store (l' := [.int .i64 42]) (vs := [.int .i64 42]) (i := 4) hs46 (Ev.t 3 rfl) (.const _) sizeOf30 rfl rfl rfl rfl rfl rfl fun _ _ hs47 => ?_); clear hs46
       have hs48 := hs47.asB [_, _, _, _, _, _, _, _, _] rfl; clear hs47
       refine hK43 _ _ ?_; clear hK43
       have hs49 := hs48.keep [3, 4, 5] [_, _, _] rfl; clear hs48
       refine cd_retM1 (vs := [.agg ⟨[.int .i64 0, .int .i64 0]⟩, .agg ⟨[.int .i64 0, .int .i64 0]⟩, .int .i64 42]) hs49 hQ0 rfl (fun _ hsM => ⟨resA (o := 0) (off := 0) (vs := [.int .i64 0, .int .i64 0]) 2 rfl isAgg23 sizeOf23 (hsM.cells 5 rfl) rfl, resA (o := 0) (off := 0) (vs := [.int .i64 0, .int .i64 0]) 1 rfl isAgg23 sizeOf23 (hsM.cells 4 rfl) rfl, res1 (o := 0) (off := 0) (v := .int .i64 42) 0 rfl isAgg30 (hsM.cells 3 rfl) rfl, trivial⟩) ?_
       clear hs49 hQ0 hN0
       first | (simp [pack, Book.leftR, hok, hC, hD]; done) | (simp [pack, Book.leftR, hok, hC, hD, hi0]; done) | (simp [pack, Book.leftR, hok, hC]; done) | simp [pack, Book.leftR, hok]
     · intro d_39 _ a_39 w_39 hpx hs39; clear hs38
       have hs40 : Sx 51 [markOf d_39] [(39, .func (.func 70) ⟨[]⟩ ⟨[.pointer (some ⟨b34, 0, none⟩), .pointer (some ⟨b35, 0, none⟩)]⟩), (8, .pointer (some ⟨b6, 0, none⟩)), (7, .pointer (some ⟨b5, 0, none⟩)), (6, .pointer (some ⟨b4, 0, none⟩)), (5, .pointer (some ⟨b3, 0, none⟩))] [(d_39, some (.deferred (some []))), (b35, some (.cells ⟨[.slice A2 m c2]⟩ 28 (0, 0))), (b34, some (.cells ⟨(bookL b A n cp)⟩ 75 (0, 0))), (b13, some (.cells ⟨(bookL b A n cp)⟩ 75 (0, 0))), (b6, some (.cells ⟨[.int .i64 0]⟩ 30 (0, 0))), (b5, some (.cells ⟨[.int .i64 ((b.run false plan (k.toNat + 1)).2), .int .i64 ((b.run true plan (k.toNat + 1)).2)]⟩ 23 (0, 0))), (b4, some (.cells ⟨[.int .i64 ((b.run false plan (k.toNat + 1)).1), .int .i64 ((b.run true plan (k.toNat + 1)).1)]⟩ 23 (0, 0))), (b3, some (.cells ⟨[.int .i64 k]⟩ 3 (0, 0))), (b2, some (.cells ⟨(bookL b A n cp)⟩ 27 (0, 0)))] [] w _ _ := hs39; clear hs39
       have hD : b.deadI plan k.toNat = -1 := deadI_no hal (by omega)
       refine cd_retM1 (vs := [.agg ⟨[.int .i64 ((b.run false plan (k.toNat + 1)).1), .int .i64 ((b.run true plan (k.toNat + 1)).1)]⟩, .agg ⟨[.int .i64 ((b.run false plan (k.toNat + 1)).2), .int .i64 ((b.run true plan (k.toNat + 1)).2)]⟩, .int .i64 0]) hs40 (fun a_ w_ h => in_ret (th_ret (hQ0 a_ w_ h))) rfl (fun _ hsM => ⟨resA (o := 0) (off := 0) (vs := [.int .i64 ((b.run false plan (k.toNat + 1)).1), .int .i64 ((b.run true plan (k.toNat + 1)).1)]) 3 rfl isAgg23 sizeOf23 (hsM.cells 5 rfl) rfl, resA (o := 0) (off := 0) (vs := [.int .i64 ((b.run false plan (k.toNat + 1)).2), .int .i64 ((b.run true plan (k.toNat + 1)).2)]) 2 rfl isAgg23 sizeOf23 (hsM.cells 4 rfl) rfl, res1 (o := 0) (off := 0) (v := .int .i64 0) 1 rfl isAgg30 (hsM.cells 3 rfl) rfl, trivial⟩) ?_
       clear hs40 hQ0 hN0 hK32
       first | (simp [pack, Book.leftR, hok, hC, hD]; done) | (simp [pack, Book.leftR, hok, hC, hD, hi0]; done) | (simp [pack, Book.leftR, hok, hC]; done) | simp [pack, Book.leftR, hok]
end Go.Proofs.YtdbcedmofoakmaaDoor
