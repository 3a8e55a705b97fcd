/- The law: what truly happens (drawn, happened, within). -/
import Derived.Test.YtdbcedmofoakmaaDoorFh
import Derived.Test.YtdbcedmofoakmaaDoorEk2
set_option maxRecDepth 100000
namespace Go.Proofs.YtdbcedmofoakmaaDoor
open Go Go.Sx Go.Eng Go.Proofs.Tryd
theorem empty_v (a z : Int) (w : World)  :
    CallsV Tryd.prog 86 [.agg ⟨[.int .i64 a, .int .i64 z]⟩] w (.bool (decide (a > z))) := by
 refine enter (N := 8) (M := []) w func86 rfl rfl rfl (fun Q0 a_0 hQ0 hN0 hs0 => ?_)
 refine cd_region fun K1 hK1 => ?_
 refine sq rfl (st_box hs0 (Ev.t 0 rfl) rfl rfl rfl fun b2 _ _ hs1 => ?_); clear hs0
 refine sq rfl (st_assign hs1 (.const _) rfl rfl fun _ _ hs2 => ?_); clear hs1
 refine hK1 _ _ ?_; clear hK1
 have hs3 := hs2.keep [0, 1] [_, _] rfl; clear hs2
 refine cd_region fun K3 hK3 => ?_
 refine sq rfl (st_field (o' := 0) hs3 (Ev.t 1 rfl) rfl rfl runUnderlying23 rfl sizeOf3 rfl rfl fun _ _ hs4 => ?_); clear hs3
 refine sq rfl (st_load1 (o := 0) (off := 0) (v := .int .i64 a) hs4 (Ev.t 0 rfl) rfl rfl isAgg3 (hs4.cells 0 rfl) rfl fun _ _ hs5 => ?_); clear hs4
 refine sq rfl (st_field (o' := 1) hs5 (Ev.t 3 rfl) rfl rfl runUnderlying23 rfl sizeOf3 rfl rfl fun _ _ hs6 => ?_); clear hs5
 refine sq rfl (st_load1 (o := 0) (off := 1) (v := .int .i64 z) hs6 (Ev.t 0 rfl) rfl rfl isAgg3 (hs6.cells 0 rfl) rfl fun _ _ hs7 => ?_); clear hs6
 refine sq rfl (st_cmp (c := decide ((a : Int) > z)) hs7 (Ev.t 2 rfl) (Ev.t 0 rfl) rfl rfl rfl rfl fun _ _ hs8 => ?_); clear hs7
 have hs9 := hs8.keep [0, 1, 2, 3, 4, 6] [_, _, _, _, _, _] rfl; clear hs8
 refine sq rfl (st_assign hs9 (Ev.t 0 rfl) rfl rfl fun _ _ hs10 => ?_); clear hs9
 refine hK3 _ _ ?_; clear hK3
 have hs11 := hs10.keep [0] [_] rfl; clear hs10
 refine cd_retv (vs := [.bool (decide ((a : Int) > z))]) hs11 hQ0 rfl ⟨.tmp 0 rfl, trivial⟩ ?_
 clear hs11 hQ0 hN0
 rfl

theorem choose_v (a z : Int) (n : Int) (w : World) (ha : -1000000 ≤ a ∧ a ≤ 1000000) (hz : -1000000 ≤ z ∧ z ≤ 1000000) :
    CallsV Tryd.prog 80 [.agg ⟨[.int .i64 a, .int .i64 z]⟩, .int .i64 n] w (.int .i64 (chooseN ⟨a, z⟩ n)) := by
 refine enter (N := 20) (M := []) w func80 rfl rfl rfl (fun Q0 a_0 hQ0 hN0 hs0 => ?_)
 refine cd_region fun K1 hK1 => ?_
 refine sq rfl (st_box hs0 (Ev.t 0 rfl) rfl rfl rfl fun b2 _ _ hs1 => ?_); clear hs0
 refine sq rfl (st_assign hs1 (.const _) rfl rfl fun _ _ hs2 => ?_); clear hs1
 refine hK1 _ _ ?_; clear hK1
 have hs3 := hs2.keep [0, 1, 3] [_, _, _] rfl; clear hs2
 refine cd_seq fun K3 hK3 => ?_
 refine cd_region fun K4 hK4 => ?_
 refine sq rfl (st_loadA (o := 0) (off := 0) (vs := [.int .i64 a, .int .i64 z]) hs3 (Ev.t 1 rfl) rfl rfl isAgg23 sizeOf23 (hs3.cells 0 rfl) rfl fun _ _ hs4 => ?_); clear hs3
 refine sq rfl (st_callv (vs := [.agg ⟨[.int .i64 a, .int .i64 z]⟩]) hs4 (.func _) ⟨(Ev.t 0 rfl), trivial⟩ rfl rfl call86 rfl (empty_v a z _) fun _ _ hs5 => ?_); clear hs4
 refine hK4 _ _ ?_; clear hK4
 have hs6 := hs5.keep [0, 2, 3, 4] [_, _, _, _] rfl; clear hs5
 refine cd_cond hs6 (Ev.t 0 rfl) (fun hc5 => ?_) (fun hc5 => ?_)
 · have hgt : a > z := by simpa using hc5
   refine cd_region fun K6 hK6 => ?_
   refine sq rfl (st_field (o' := 0) hs6 (Ev.t 2 rfl) rfl rfl runUnderlying23 rfl sizeOf3 rfl rfl fun _ _ hs7 => ?_); clear hs6
   refine sq rfl (st_load1 (o := 0) (off := 0) (v := .int .i64 a) hs7 (Ev.t 0 rfl) rfl rfl isAgg3 (hs7.cells 0 rfl) rfl fun _ _ hs8 => ?_); clear hs7
   have hs9 := hs8.keep [0, 1, 2, 4, 5] [_, _, _, _, _] rfl; clear hs8
   refine sq rfl (st_assign hs9 (Ev.t 0 rfl) rfl rfl fun _ _ hs10 => ?_); clear hs9
   refine hK6 _ _ ?_; clear hK6
   have hs11 := hs10.keep [0] [_] rfl; clear hs10
   refine cd_retv (vs := [.int .i64 a]) hs11 (fun a_ w_ h => th_ret (hQ0 a_ w_ h)) rfl ⟨.tmp 0 rfl, trivial⟩ ?_
   clear hs11 hQ0 hN0 hK3
   simp [pack, chooseN, hgt]
 · have hgt : ¬ a > z := by simpa using hc5
   have htb := turn_bd (n := n) (m := z - a + 1) (by omega)
   refine cd_skip ?_
   refine th_norm (hK3 _ _ ?_)
   refine cd_drawn mixed hs6 [⟨9, [], Is (.pointer (some ⟨b2, 0, none⟩))⟩, ⟨10, [0], Is (.int .i64 a)⟩, ⟨11, [], Is (.int .i64 n)⟩, ⟨12, [], Is (.pointer (some ⟨b2, 1, none⟩))⟩, ⟨13, [3], Is (.int .i64 z)⟩, ⟨14, [], Is (.pointer (some ⟨b2, 0, none⟩))⟩, ⟨15, [5], Is (.int .i64 a)⟩, ⟨16, [4, 6], Is (.int .i64 (z - a))⟩, ⟨17, [7], Is (.int .i64 ((z - a) + 1))⟩, ⟨18, [2, 8], Is (.int .i64 (turn n ((z - a) + 1)))⟩, ⟨19, [1, 9], Is (.int .i64 (a + (turn n ((z - a) + 1))))⟩] (by kernel_rfl) (by kernel_rfl) fun K7 hK7 => ⟨⟨?_, ?_, ?_, ?_, ?_, ?_, ?_, ?_, ?_, ?_, ?_, trivial⟩, ?_⟩
   · rintro T_ B_ a_ w_ K_ hT hB hf hsD hk
     exact ob rfl rfl (st_field (o' := 0) hsD (evT hT 2 rfl) rfl hf runUnderlying23 rfl sizeOf3 rfl rfl fun _ _ => hk _ _ _ _ ⟨rfl, rfl⟩)
   · rintro T_ B_ a_ w_ K_ hT hB _ _ ⟨rfl, rfl⟩ h9 - hf hsD hk
     exact ob rfl rfl (st_load1 (o := 0) (off := 0) (v := .int .i64 a) hsD (Ev.tmp h9) rfl hf isAgg3 (hsD.cellsM (inB hB 0 rfl)) rfl fun _ _ => hk _ _ _ _ ⟨rfl, rfl⟩)
   · rintro T_ B_ a_ w_ K_ hT hB hf hsD hk
     exact ob rfl rfl (st_move hsD (evT hT 3 rfl) rfl hf fun _ _ => hk _ _ _ _ ⟨rfl, rfl⟩)
   · rintro T_ B_ a_ w_ K_ hT hB hf hsD hk
     exact ob rfl rfl (st_field (o' := 1) hsD (evT hT 2 rfl) rfl hf runUnderlying23 rfl sizeOf3 rfl rfl fun _ _ => hk _ _ _ _ ⟨rfl, rfl⟩)
   · rintro T_ B_ a_ w_ K_ hT hB _ _ ⟨rfl, rfl⟩ h12 - hf hsD hk
     exact ob rfl rfl (st_load1 (o := 0) (off := 1) (v := .int .i64 z) hsD (Ev.tmp h12) rfl hf isAgg3 (hsD.cellsM (inB hB 0 rfl)) rfl fun _ _ => hk _ _ _ _ ⟨rfl, rfl⟩)
   · rintro T_ B_ a_ w_ K_ hT hB hf hsD hk
     exact ob rfl rfl (st_field (o' := 0) hsD (evT hT 2 rfl) rfl hf runUnderlying23 rfl sizeOf3 rfl rfl fun _ _ => hk _ _ _ _ ⟨rfl, rfl⟩)
   · rintro T_ B_ a_ w_ K_ hT hB _ _ ⟨rfl, rfl⟩ h14 - hf hsD hk
     exact ob rfl rfl (st_load1 (o := 0) (off := 0) (v := .int .i64 a) hsD (Ev.tmp h14) rfl hf isAgg3 (hsD.cellsM (inB hB 0 rfl)) rfl fun _ _ => hk _ _ _ _ ⟨rfl, rfl⟩)
   · rintro T_ B_ a_ w_ K_ hT hB _ _ ⟨rfl, rfl⟩ h13 - _ _ ⟨rfl, rfl⟩ h15 - hf hsD hk
     exact ob rfl rfl (st_sub (z := z - a) hsD (Ev.tmp h13) (Ev.tmp h15) rfl hf rfl (by omega) fun _ _ => hk _ _ _ _ ⟨rfl, rfl⟩)
   · rintro T_ B_ a_ w_ K_ hT hB _ _ ⟨rfl, rfl⟩ h16 - hf hsD hk
     exact ob rfl rfl (st_add (z := (z - a) + 1) hsD (Ev.tmp h16) (.const _) rfl hf rfl (by omega) fun _ _ => hk _ _ _ _ ⟨rfl, rfl⟩)
   · rintro T_ B_ a_ w_ K_ hT hB _ _ ⟨rfl, rfl⟩ h11 - _ _ ⟨rfl, rfl⟩ h17 - hf hsD hk
     exact ob rfl rfl (st_callv (vs := [.int .i64 n, .int .i64 ((z - a) + 1)]) hsD (.func _) ⟨(Ev.tmp h11), (Ev.tmp h17), trivial⟩ rfl hf call38 rfl (turn_v n ((z - a) + 1) (by omega) _) fun _ _ => hk _ _ _ _ ⟨rfl, rfl⟩)
   · rintro T_ B_ a_ w_ K_ hT hB _ _ ⟨rfl, rfl⟩ h10 - _ _ ⟨rfl, rfl⟩ h18 - hf hsD hk
     exact ob rfl rfl (st_add (z := a + (turn n ((z - a) + 1))) hsD (Ev.tmp h10) (Ev.tmp h18) rfl hf rfl (by omega) fun _ _ => hk _ _ _ _ ⟨rfl, rfl⟩)
   rintro _ _ ⟨rfl, rfl⟩ _ _ ⟨rfl, rfl⟩ _ _ ⟨rfl, rfl⟩ _ _ ⟨rfl, rfl⟩ _ _ ⟨rfl, rfl⟩ _ _ ⟨rfl, rfl⟩ _ _ ⟨rfl, rfl⟩ _ _ ⟨rfl, rfl⟩ _ _ ⟨rfl, rfl⟩ _ _ ⟨rfl, rfl⟩ _ _ ⟨rfl, rfl⟩ a_7 w_7 hs7; clear hs6
   have hs8 := Sx.as (T' := [_, _, _, _, _, _, _, _, _, _, _, _, _, _, _]) (B' := [_]) rfl rfl hs7; clear hs7
   have hs9 := hs8.keep [0, 1, 2, 3, 4, 5, 6, 7, 8, 9, 10, 11, 13, 14] [_, _, _, _, _, _, _, _, _, _, _, _, _, _] rfl; clear hs8
   refine sq rfl (st_assign hs9 (Ev.t 10 rfl) rfl rfl fun _ _ hs10 => ?_); clear hs9
   refine hK7 _ _ ?_; clear hK7
   have hs11 := hs10.keep [0] [_] rfl; clear hs10
   refine cd_retv (vs := [.int .i64 (a + (turn n ((z - a) + 1)))]) hs11 hQ0 rfl ⟨.tmp 0 rfl, trivial⟩ ?_
   clear hs11 hQ0 hN0
   simp [pack, chooseN, hgt]

theorem holds_v (a z : Int) (n : Int) (w : World)  :
    CallsV Tryd.prog 66 [.agg ⟨[.int .i64 a, .int .i64 z]⟩, .int .i64 n] w (.bool (within n a z)) := by
 refine enter (N := 11) (M := []) w func66 rfl rfl rfl (fun Q0 a_0 hQ0 hN0 hs0 => ?_)
 refine cd_region fun K1 hK1 => ?_
 refine sq rfl (st_box hs0 (Ev.t 0 rfl) rfl rfl rfl fun b2 _ _ hs1 => ?_); clear hs0
 refine sq rfl (st_assign hs1 (.const _) rfl rfl fun _ _ hs2 => ?_); clear hs1
 refine hK1 _ _ ?_; clear hK1
 have hs3 := hs2.keep [0, 1, 3] [_, _, _] rfl; clear hs2
 refine cd_region fun K3 hK3 => ?_
 refine sq rfl (st_move hs3 (Ev.t 2 rfl) rfl rfl fun _ _ hs4 => ?_); clear hs3
 refine sq rfl (st_field (o' := 0) hs4 (Ev.t 2 rfl) rfl rfl runUnderlying23 rfl sizeOf3 rfl rfl fun _ _ hs5 => ?_); clear hs4
 refine sq rfl (st_load1 (o := 0) (off := 0) (v := .int .i64 a) hs5 (Ev.t 0 rfl) rfl rfl isAgg3 (hs5.cells 0 rfl) rfl fun _ _ hs6 => ?_); clear hs5
 refine sq rfl (st_field (o' := 1) hs6 (Ev.t 4 rfl) rfl rfl runUnderlying23 rfl sizeOf3 rfl rfl fun _ _ hs7 => ?_); clear hs6
 refine sq rfl (st_load1 (o := 0) (off := 1) (v := .int .i64 z) hs7 (Ev.t 0 rfl) rfl rfl isAgg3 (hs7.cells 0 rfl) rfl fun _ _ hs8 => ?_); clear hs7
 refine sq rfl (st_callv (vs := [.int .i64 n, .int .i64 a, .int .i64 z]) hs8 (.func _) ⟨(Ev.t 4 rfl), (Ev.t 2 rfl), (Ev.t 0 rfl), trivial⟩ rfl rfl call37 rfl (amid_v n a z _) fun _ _ hs9 => ?_); clear hs8
 have hs10 := hs9.keep [0, 1, 2, 3, 4, 5, 7, 8] [_, _, _, _, _, _, _, _] rfl; clear hs9
 refine sq rfl (st_assign hs10 (Ev.t 0 rfl) rfl rfl fun _ _ hs11 => ?_); clear hs10
 refine hK3 _ _ ?_; clear hK3
 have hs12 := hs11.keep [0] [_] rfl; clear hs11
 refine cd_retv (vs := [.bool (within n a z)]) hs12 hQ0 rfl ⟨.tmp 0 rfl, trivial⟩ ?_
 clear hs12 hQ0 hN0
 rfl

theorem dropAt_mem {α : Type} {p : α} : ∀ {l : List α} {i : Nat}, p ∈ dropAt l i → p ∈ l
  | [], _, h => h
  | _ :: _, 0, h => List.mem_cons_of_mem _ h
  | x :: l, i + 1, h => by
    rcases List.mem_cons.1 h with h | h
    · exact h ▸ List.mem_cons_self
    · exact List.mem_cons_of_mem _ (dropAt_mem h)
theorem dropT_ {N : Nat} {D : List Deferred} {T : List (Nat × Value)} {B : List (Nat × Option Obj)} {M : List Nat} {w0 : World} {a : Act} {w : World} (hs : Sx N D T B M w0 a w) (i : Nat) : Sx N D (dropAt T i) B M w0 a w := hs.tmps fun _ h => dropAt_mem h

theorem drawn_v (a z : Int) (A4 : Option Addr) (m4 c4 : Nat) (bits : List Int) (p : Int) (w : World) (ha : -1000000 ≤ a ∧ a ≤ 1000000) (hz : -1000000 ≤ z ∧ z ≤ 1000000) (hI : SlAt intL 1 w A4 m4 bits) (hm4 : m4 ≤ 140737488351232) (hp : 0 ≤ p ∧ p ≤ 1000000) :
    CallsV Tryd.prog 65 [.agg ⟨[.int .i64 a, .int .i64 z]⟩, .agg ⟨[.slice A4 m4 c4, .int .i64 p]⟩] w (.tuple ⟨[.int .i64 (chooseN ⟨a, z⟩ (pickN bits p)), .agg ⟨[.slice A4 m4 c4, .int .i64 (p + 1)]⟩]⟩) := by
 refine enter (N := 19) (M := []) w func65 rfl rfl rfl (fun Q0 a_0 hQ0 hN0 hs0 => ?_)
 refine cd_region fun K1 hK1 => ?_
 refine sq rfl (st_box hs0 (Ev.t 0 rfl) rfl rfl rfl fun b2 _ _ hs1 => ?_); clear hs0
 refine sq rfl (st_box hs1 (Ev.t 2 rfl) rfl rfl rfl fun b3 _ _ hs2 => ?_); clear hs1
 refine sq rfl (st_assign hs2 (.const _) rfl rfl fun _ _ hs3 => ?_); clear hs2
 refine sq rfl (st_alloc hs3 rfl rfl zeroValue95 rfl fun b4 _ _ hs4 => ?_); clear hs3
 refine hK1 _ _ ?_; clear hK1
 have hs5 := hs4.keep [0, 1, 2, 3] [_, _, _, _] rfl; clear hs4
 have hs6 := hs5.keep [0, 2, 3] [_, _, _] rfl; clear hs5
 refine cd_drawn mixed hs6 [⟨6, [], Is (.agg ⟨[.int .i64 a, .int .i64 z]⟩)⟩, ⟨7, [], Is (.pointer (some ⟨b3, 0, none⟩))⟩, ⟨8, [1], Is (.slice A4 m4 c4)⟩, ⟨9, [], Is (.pointer (some ⟨b3, 1, none⟩))⟩, ⟨10, [3], Is (.int .i64 p)⟩, ⟨11, [2, 4], Is (.int .i64 (pickN bits p))⟩, ⟨12, [0, 5], Is (.int .i64 (chooseN ⟨a, z⟩ (pickN bits p)))⟩, ⟨13, [], Is (.pointer (some ⟨b3, 0, none⟩))⟩, ⟨14, [7], Is (.slice A4 m4 c4)⟩, ⟨15, [], Is (.pointer (some ⟨b3, 1, none⟩))⟩, ⟨16, [9], Is (.int .i64 p)⟩, ⟨17, [10], Is (.int .i64 (p + 1))⟩, ⟨18, [8, 11], Is (.agg ⟨[.slice A4 m4 c4, .int .i64 (p + 1)]⟩)⟩, ⟨4, [6], Is (.int .i64 (chooseN ⟨a, z⟩ (pickN bits p)))⟩] (by kernel_rfl) (by kernel_rfl) fun K5 hK5 => ⟨⟨?_, ?_, ?_, ?_, ?_, ?_, ?_, ?_, ?_, ?_, ?_, ?_, ?_, ?_, trivial⟩, ?_⟩
 · rintro T_ B_ a_ w_ K_ hT hB hf hsD hk
   exact ob rfl rfl (st_loadA (o := 0) (off := 0) (vs := [.int .i64 a, .int .i64 z]) hsD (evT hT 2 rfl) rfl hf isAgg23 sizeOf23 (hsD.cellsM (inB hB 2 rfl)) rfl fun _ _ => hk _ _ _ _ ⟨rfl, rfl⟩)
 · rintro T_ B_ a_ w_ K_ hT hB hf hsD hk
   exact ob rfl rfl (st_field (o' := 0) hsD (evT hT 1 rfl) rfl hf runUnderlying95 rfl sizeOf47 rfl rfl fun _ _ => hk _ _ _ _ ⟨rfl, rfl⟩)
 · rintro T_ B_ a_ w_ K_ hT hB _ _ ⟨rfl, rfl⟩ h7 - hf hsD hk
   exact ob rfl rfl (st_load1 (o := 0) (off := 0) (v := .slice A4 m4 c4) hsD (Ev.tmp h7) rfl hf isAgg47 (hsD.cellsM (inB hB 1 rfl)) rfl fun _ _ => hk _ _ _ _ ⟨rfl, rfl⟩)
 · rintro T_ B_ a_ w_ K_ hT hB hf hsD hk
   exact ob rfl rfl (st_field (o' := 1) hsD (evT hT 1 rfl) rfl hf runUnderlying95 rfl sizeOf3 rfl rfl fun _ _ => hk _ _ _ _ ⟨rfl, rfl⟩)
 · rintro T_ B_ a_ w_ K_ hT hB _ _ ⟨rfl, rfl⟩ h9 - hf hsD hk
   exact ob rfl rfl (st_load1 (o := 0) (off := 1) (v := .int .i64 p) hsD (Ev.tmp h9) rfl hf isAgg3 (hsD.cellsM (inB hB 1 rfl)) rfl fun _ _ => hk _ _ _ _ ⟨rfl, rfl⟩)
 · rintro T_ B_ a_ w_ K_ hT hB _ _ ⟨rfl, rfl⟩ h8 - _ _ ⟨rfl, rfl⟩ h10 - hf hsD hk
   exact ob rfl rfl (st_callv (vs := [.slice A4 m4 c4, .int .i64 p]) hsD (.func _) ⟨(Ev.tmp h8), (Ev.tmp h10), trivial⟩ rfl hf call67 rfl (pick_v A4 m4 c4 bits p _ (hI.kp hsD.kp) (by omega)) fun _ _ => hk _ _ _ _ ⟨rfl, rfl⟩)
 · rintro T_ B_ a_ w_ K_ hT hB _ _ ⟨rfl, rfl⟩ h6 - _ _ ⟨rfl, rfl⟩ h11 - hf hsD hk
   exact ob rfl rfl (st_callv (vs := [.agg ⟨[.int .i64 a, .int .i64 z]⟩, .int .i64 (pickN bits p)]) hsD (.func _) ⟨(Ev.tmp h6), (Ev.tmp h11), trivial⟩ rfl hf call80 rfl (choose_v a z (pickN bits p) _ (by omega) (by omega)) fun _ _ => hk _ _ _ _ ⟨rfl, rfl⟩)
 · rintro T_ B_ a_ w_ K_ hT hB hf hsD hk
   exact ob rfl rfl (st_field (o' := 0) hsD (evT hT 1 rfl) rfl hf runUnderlying95 rfl sizeOf47 rfl rfl fun _ _ => hk _ _ _ _ ⟨rfl, rfl⟩)
 · rintro T_ B_ a_ w_ K_ hT hB _ _ ⟨rfl, rfl⟩ h13 - hf hsD hk
   exact ob rfl rfl (st_load1 (o := 0) (off := 0) (v := .slice A4 m4 c4) hsD (Ev.tmp h13) rfl hf isAgg47 (hsD.cellsM (inB hB 1 rfl)) rfl fun _ _ => hk _ _ _ _ ⟨rfl, rfl⟩)
 · rintro T_ B_ a_ w_ K_ hT hB hf hsD hk
   exact ob rfl rfl (st_field (o' := 1) hsD (evT hT 1 rfl) rfl hf runUnderlying95 rfl sizeOf3 rfl rfl fun _ _ => hk _ _ _ _ ⟨rfl, rfl⟩)
 · rintro T_ B_ a_ w_ K_ hT hB _ _ ⟨rfl, rfl⟩ h15 - hf hsD hk
   exact ob rfl rfl (st_load1 (o := 0) (off := 1) (v := .int .i64 p) hsD (Ev.tmp h15) rfl hf isAgg3 (hsD.cellsM (inB hB 1 rfl)) rfl fun _ _ => hk _ _ _ _ ⟨rfl, rfl⟩)
 · rintro T_ B_ a_ w_ K_ hT hB _ _ ⟨rfl, rfl⟩ h16 - hf hsD hk
   exact ob rfl rfl (st_add (z := p + 1) hsD (Ev.tmp h16) (.const _) rfl hf rfl (by omega) fun _ _ => hk _ _ _ _ ⟨rfl, rfl⟩)
 · rintro T_ B_ a_ w_ K_ hT hB _ _ ⟨rfl, rfl⟩ h14 - _ _ ⟨rfl, rfl⟩ h17 - hf hsD hk
   exact ob rfl rfl (st_build hsD (qs := [(0, .slice A4 m4 c4), (1, .int .i64 (p + 1))]) (v := .agg ⟨[.slice A4 m4 c4, .int .i64 (p + 1)]⟩) ⟨(Ev.tmp h14), (Ev.tmp h17), trivial⟩ rfl hf rfl (fun _ => by kernel_rfl) fun _ _ => hk _ _ _ _ ⟨rfl, rfl⟩)
 · rintro T_ B_ a_ w_ K_ hT hB _ _ ⟨rfl, rfl⟩ h12 - hf hsD hk
   exact ob rfl rfl (st_assign hsD (Ev.tmp h12) rfl hf fun _ _ => hk _ _ _ _ ⟨rfl, rfl⟩)
 rintro _ _ ⟨rfl, rfl⟩ _ _ ⟨rfl, rfl⟩ _ _ ⟨rfl, rfl⟩ _ _ ⟨rfl, rfl⟩ _ _ ⟨rfl, rfl⟩ _ _ ⟨rfl, rfl⟩ _ _ ⟨rfl, rfl⟩ _ _ ⟨rfl, rfl⟩ _ _ ⟨rfl, rfl⟩ _ _ ⟨rfl, rfl⟩ _ _ ⟨rfl, rfl⟩ _ _ ⟨rfl, rfl⟩ _ _ ⟨rfl, rfl⟩ _ _ ⟨rfl, rfl⟩ a_7 w_7 hs7; clear hs6
 have hs8 := Sx.as (T' := [_, _, _, _, _, _, _, _, _, _, _, _, _, _, _, _, _]) (B' := [_, _, _]) rfl rfl hs7; clear hs7
 refine sq rfl (st_store (l' := [.slice A4 m4 c4, .int .i64 (p + 1)]) (vs := [.slice A4 m4 c4, .int .i64 (p + 1)]) (i := 0) hs8 (Ev.t 14 rfl) (Ev.t 12 rfl) sizeOf95 rfl rfl rfl rfl rfl rfl fun _ _ hs9 => ?_); clear hs8
 have hs10 := hs9.asB [_, _, _] rfl; clear hs9
 refine hK5 _ _ ?_; clear hK5
 have hs11 := hs10.keep [13, 14] [_, _] rfl; clear hs10
 refine cd_retv (vs := [.int .i64 (chooseN ⟨a, z⟩ (pickN bits p)), .agg ⟨[.slice A4 m4 c4, .int .i64 (p + 1)]⟩]) hs11 hQ0 rfl ⟨.tmp 0 rfl, resA (o := 0) (off := 0) (vs := [.slice A4 m4 c4, .int .i64 (p + 1)]) 1 rfl isAgg95 sizeOf95 (hs11.cells 0 rfl) rfl, trivial⟩ ?_
 clear hs11 hQ0 hN0
 rfl

set_option maxHeartbeats 4000000 in
theorem happened_b (b : Book) (A : Option Addr) (n cp : Nat) (A2 : Option Addr) (m c2 : Nat) (plan : List Walks) (A4 : Option Addr) (m4 c4 : Nat) (bits : List Int) (w : World) (hP : PartsAt w A n b.parts) (_hn : n ≤ 140737488351232) (hL : PlanAt w A2 m plan) (hm : m ≤ 140737488351232) (hI : SlAt intL 1 w A4 m4 bits) (hm4 : m4 ≤ 140737488351232) (hok : b.ok = true) (hpl : b.isPlan plan = true) :
    CallsB Tryd.prog 34 [.agg ⟨bookL b A n cp⟩, .slice A2 m c2, .slice A4 m4 c4] w (fun v bs => ∃ cs ws fl A1 c1 b1 o1 A2 c2 b2 o2, v = .agg ⟨[.slice A1 cs.length c1, .slice A2 ws.length c2, .int .i64 fl]⟩ ∧ Sx.Own intL 1 3 A1 c1 cs b1 o1 ∧ Sx.Own intL 1 3 A2 c2 ws b2 o2 ∧ bs = [(b1, o1), (b2, o2)] ∧ Hap b plan cs ws fl) := by
 have hb := ok_bd hok
 have hl2 := hP.len
 have hl1 := hL.len
 have hll := isPlan_len hpl
 have hnum := ok_num.1 hok
 obtain ⟨hnum, -⟩ := hnum
 refine enter (N := 177) (M := []) w func34 rfl rfl rfl (fun Q0 a_0 hQ0 hN0 hs0 => ?_)
 refine cd_region fun K1 hK1 => ?_
 refine sq rfl (st_box hs0 (Ev.t 0 rfl) rfl rfl rfl fun b2 _ _ hs1 => ?_); clear hs0
 refine sq rfl (st_alloc hs1 rfl rfl zeroValue50 rfl fun b3 _ _ hs2 => ?_); clear hs1
 refine hK1 _ _ ?_; clear hK1
 have hs3 := hs2.keep [0, 1, 3, 4] [_, _, _, _] rfl; clear hs2
 refine cd_region fun K4 hK4 => ?_
 refine sq rfl (st_move hs3 (Ev.t 3 rfl) rfl rfl fun _ _ hs4 => ?_); clear hs3
 refine sq rfl (st_build hs4 (qs := [(0, .slice A4 m4 c4), (1, .int .i64 0)]) (v := .agg ⟨[.slice A4 m4 c4, .int .i64 0]⟩) ⟨(Ev.t 0 rfl), (.const _), trivial⟩ rfl rfl rfl (fun _ => by kernel_rfl) fun _ _ hs5 => ?_); clear hs4
 refine sq rfl (st_alloc hs5 rfl rfl zeroValue95 rfl fun b5 _ _ hs6 => ?_); clear hs5
 refine sq rfl (st_store (l' := [.slice A4 m4 c4, .int .i64 0]) (vs := [.slice A4 m4 c4, .int .i64 0]) (i := 0) hs6 (Ev.t 0 rfl) (Ev.t 1 rfl) sizeOf95 rfl rfl rfl rfl rfl rfl fun _ _ hs7 => ?_); clear hs6
 have hs8 := hs7.asB [_, _, _] rfl; clear hs7
 refine hK4 _ _ ?_; clear hK4
 have hs9 := hs8.keep [0, 3, 4, 5] [_, _, _, _] rfl; clear hs8
 have hs10 := hs9.hide 0; clear hs9
 have hs11 := hs10.hide 1; clear hs10
 have hs12 := Sx.front hs11 1 rfl; clear hs11
 refine cd_region fun K6 hK6 => ?_
 refine sq rfl (st_field (o' := 0) hs12 (Ev.t 2 rfl) rfl rfl runUnderlying27 rfl sizeOf23 rfl rfl fun _ _ hs13 => ?_); clear hs12
 refine sq rfl (st_loadA (o := 0) (off := 0) (vs := [.int .i64 b.coal.lo, .int .i64 b.coal.hi]) hs13 (Ev.t 0 rfl) rfl rfl isAgg23 sizeOf23 (hs13.cells 4 rfl) rfl fun _ _ hs14 => ?_); clear hs13
 refine sq rfl (st_loadA (o := 0) (off := 0) (vs := [.slice A4 m4 c4, .int .i64 0]) hs14 (Ev.t 2 rfl) rfl rfl isAgg95 sizeOf95 (hs14.cells 2 rfl) rfl fun _ _ hs15 => ?_); clear hs14
 refine sq rfl (st_callv (vs := [.agg ⟨[.int .i64 b.coal.lo, .int .i64 b.coal.hi]⟩, .agg ⟨[.slice A4 m4 c4, .int .i64 0]⟩]) hs15 (.func _) ⟨(Ev.t 1 rfl), (Ev.t 0 rfl), trivial⟩ rfl rfl call65 rfl (drawn_v b.coal.lo b.coal.hi A4 m4 c4 bits 0 _ (by omega) (by omega) (hI.kp hs15.kp) (by omega) (by omega)) fun _ _ hs16 => ?_); clear hs15
 refine sq rfl (st_move hs16 (Ev.t 0 rfl) rfl rfl fun _ _ hs17 => ?_); clear hs16
 refine sq rfl (st_extract hs17 (Ev.t 0 rfl) rfl rfl rfl fun _ _ hs18 => ?_); clear hs17
 refine sq rfl (st_extract hs18 (Ev.t 1 rfl) rfl rfl rfl fun _ _ hs19 => ?_); clear hs18
 refine sq rfl (st_assign hs19 (Ev.t 1 rfl) rfl rfl fun _ _ hs20 => ?_); clear hs19
 refine sq rfl (st_store (l' := [.slice A4 m4 c4, .int .i64 1]) (vs := [.slice A4 m4 c4, .int .i64 1]) (i := 2) hs20 (Ev.t 8 rfl) (Ev.t 1 rfl) sizeOf95 rfl rfl rfl rfl rfl rfl fun _ _ hs21 => ?_); clear hs20
 have hs22 := hs21.asB [_, _, _, _, _] rfl; clear hs21
 refine hK6 _ _ ?_; clear hK6
 have hs23 := hs22.keep [0, 8, 9, 10, 11] [_, _, _, _, _] rfl; clear hs22
 obtain ⟨cz, hcz⟩ : ∃ z, chooseN ⟨b.coal.lo, b.coal.hi⟩ (pickN bits 0) = z := ⟨_, rfl⟩
 have hic : inS ⟨b.coal.lo, b.coal.hi⟩ cz := by rw [← hcz]; exact choose_in (show b.coal.lo ≤ b.coal.hi by omega) _
 have hicn := hic
 simp only [inS] at hicn
 have hs24 := Sx.keepE [0, 1, 2, 3, 4] [(8, .int .i64 cz), (7, _), (6, _), (3, _), (1, _)] ⟨⟨_, rfl, (by rw [hcz])⟩, ⟨_, rfl, rfl⟩, ⟨_, rfl, rfl⟩, ⟨_, rfl, rfl⟩, ⟨_, rfl, rfl⟩, trivial⟩ hs23; clear hs23
 refine cd_region fun K7 hK7 => ?_
 refine sq rfl (st_field (o' := 2) hs24 (Ev.t 3 rfl) rfl rfl runUnderlying27 rfl sizeOf23 rfl rfl fun _ _ hs25 => ?_); clear hs24
 refine sq rfl (st_loadA (o := 0) (off := 2) (vs := [.int .i64 b.water.lo, .int .i64 b.water.hi]) hs25 (Ev.t 0 rfl) rfl rfl isAgg23 sizeOf23 (hs25.cells 4 rfl) rfl fun _ _ hs26 => ?_); clear hs25
 refine sq rfl (st_loadA (o := 0) (off := 0) (vs := [.slice A4 m4 c4, .int .i64 1]) hs26 (Ev.t 3 rfl) rfl rfl isAgg95 sizeOf95 (hs26.cells 2 rfl) rfl fun _ _ hs27 => ?_); clear hs26
 refine sq rfl (st_callv (vs := [.agg ⟨[.int .i64 b.water.lo, .int .i64 b.water.hi]⟩, .agg ⟨[.slice A4 m4 c4, .int .i64 1]⟩]) hs27 (.func _) ⟨(Ev.t 1 rfl), (Ev.t 0 rfl), trivial⟩ rfl rfl call65 rfl (drawn_v b.water.lo b.water.hi A4 m4 c4 bits 1 _ (by omega) (by omega) (hI.kp hs27.kp) (by omega) (by omega)) fun _ _ hs28 => ?_); clear hs27
 refine sq rfl (st_move hs28 (Ev.t 0 rfl) rfl rfl fun _ _ hs29 => ?_); clear hs28
 refine sq rfl (st_extract hs29 (Ev.t 0 rfl) rfl rfl rfl fun _ _ hs30 => ?_); clear hs29
 refine sq rfl (st_extract hs30 (Ev.t 1 rfl) rfl rfl rfl fun _ _ hs31 => ?_); clear hs30
 refine sq rfl (st_assign hs31 (Ev.t 1 rfl) rfl rfl fun _ _ hs32 => ?_); clear hs31
 refine sq rfl (st_store (l' := [.slice A4 m4 c4, .int .i64 2]) (vs := [.slice A4 m4 c4, .int .i64 2]) (i := 2) hs32 (Ev.t 9 rfl) (Ev.t 1 rfl) sizeOf95 rfl rfl rfl rfl rfl rfl fun _ _ hs33 => ?_); clear hs32
 have hs34 := hs33.asB [_, _, _, _, _] rfl; clear hs33
 refine hK7 _ _ ?_; clear hK7
 have hs35 := hs34.keep [0, 8, 9, 10, 11, 12] [_, _, _, _, _, _] rfl; clear hs34
 obtain ⟨vz, hvz⟩ : ∃ z, chooseN ⟨b.water.lo, b.water.hi⟩ (pickN bits 1) = z := ⟨_, rfl⟩
 have hiv : inS ⟨b.water.lo, b.water.hi⟩ vz := by rw [← hvz]; exact choose_in (show b.water.lo ≤ b.water.hi by omega) _
 have hivn := hiv
 simp only [inS] at hivn
 have hs36 := Sx.keepE [0, 1, 2, 3, 4, 5] [(9, .int .i64 vz), (8, _), (7, _), (6, _), (3, _), (1, _)] ⟨⟨_, rfl, (by rw [hvz])⟩, ⟨_, rfl, rfl⟩, ⟨_, rfl, rfl⟩, ⟨_, rfl, rfl⟩, ⟨_, rfl, rfl⟩, ⟨_, rfl, rfl⟩, trivial⟩ hs35; clear hs35
 refine cd_region fun K8 hK8 => ?_
 refine sq rfl (st_field (o' := 22) hs36 (Ev.t 4 rfl) rfl rfl runUnderlying27 rfl sizeOf25 rfl rfl fun _ _ hs37 => ?_); clear hs36
 refine sq rfl (st_load1 (o := 0) (off := 22) (v := .slice A n cp) hs37 (Ev.t 0 rfl) rfl rfl isAgg25 (hs37.cells 4 rfl) rfl fun _ _ hs38 => ?_); clear hs37
 refine sq rfl (st_len hs38 (Ev.t 0 rfl) rfl rfl runUnderlying25 fun _ _ hs39 => ?_); clear hs38
 refine sq rfl (st_build hs39 (qs := [(0, .slice none 0 0), (1, .slice none 0 0), (2, .int .i64 (n : Int))]) (v := .agg ⟨[.slice none 0 0, .slice none 0 0, .int .i64 (n : Int)]⟩) ⟨(.const _), (.const _), (Ev.t 0 rfl), trivial⟩ rfl rfl rfl (fun _ => by kernel_rfl) fun _ _ hs40 => ?_); clear hs39
 refine sq rfl (st_alloc hs40 rfl rfl zeroValue50 rfl fun b9 _ _ hs41 => ?_); clear hs40
 refine sq rfl (st_store (l' := [.slice none 0 0, .slice none 0 0, .int .i64 (n : Int)]) (vs := [.slice none 0 0, .slice none 0 0, .int .i64 (n : Int)]) (i := 0) hs41 (Ev.t 0 rfl) (Ev.t 1 rfl) sizeOf50 rfl rfl rfl rfl rfl rfl fun _ _ hs42 => ?_); clear hs41
 have hs43 := hs42.asB [_, _, _, _, _, _] rfl; clear hs42
 refine hK8 _ _ ?_; clear hK8
 have hs44 := hs43.keep [0, 5, 6, 7, 8, 9, 10] [_, _, _, _, _, _, _] rfl; clear hs43
 refine cd_seq fun K10 hK10 => ?_
 refine cd_region fun K11 hK11 => ?_
 refine sq rfl (st_assign hs44 (.const _) rfl rfl fun _ _ hs45 => ?_); clear hs44
 refine hK11 _ _ ?_; clear hK11
 refine cd_block ?_
 have hs46 : Sx 177 [] [(11, .int .i64 ((HapG.mk 0 cz vz none 0 ([] : List Int) 0 none none 0 ([] : List Int) 1 none (n : Int) 2).k : Int)), (10, .pointer (some ⟨b9, 0, none⟩)), (9, .int .i64 ((HapG.mk 0 cz vz none 0 ([] : List Int) 0 none none 0 ([] : List Int) 1 none (n : Int) 2).v)), (8, .int .i64 ((HapG.mk 0 cz vz none 0 ([] : List Int) 0 none none 0 ([] : List Int) 1 none (n : Int) 2).c)), (7, .pointer (some ⟨b5, 0, none⟩)), (6, .pointer (some ⟨b3, 0, none⟩)), (3, .pointer (some ⟨b2, 0, none⟩)), (1, .slice A2 m c2)] [(b9, some (.cells ⟨[.slice ((HapG.mk 0 cz vz none 0 ([] : List Int) 0 none none 0 ([] : List Int) 1 none (n : Int) 2).A1) ((HapG.mk 0 cz vz none 0 ([] : List Int) 0 none none 0 ([] : List Int) 1 none (n : Int) 2).cs.length) ((HapG.mk 0 cz vz none 0 ([] : List Int) 0 none none 0 ([] : List Int) 1 none (n : Int) 2).c1), .slice ((HapG.mk 0 cz vz none 0 ([] : List Int) 0 none none 0 ([] : List Int) 1 none (n : Int) 2).A2) ((HapG.mk 0 cz vz none 0 ([] : List Int) 0 none none 0 ([] : List Int) 1 none (n : Int) 2).ws.length) ((HapG.mk 0 cz vz none 0 ([] : List Int) 0 none none 0 ([] : List Int) 1 none (n : Int) 2).c2), .int .i64 ((HapG.mk 0 cz vz none 0 ([] : List Int) 0 none none 0 ([] : List Int) 1 none (n : Int) 2).fl)]⟩ 50 (0, 0))), ((HapG.mk 0 cz vz none 0 ([] : List Int) 0 none none 0 ([] : List Int) 1 none (n : Int) 2).b1, (HapG.mk 0 cz vz none 0 ([] : List Int) 0 none none 0 ([] : List Int) 1 none (n : Int) 2).o1), ((HapG.mk 0 cz vz none 0 ([] : List Int) 0 none none 0 ([] : List Int) 1 none (n : Int) 2).b2, (HapG.mk 0 cz vz none 0 ([] : List Int) 0 none none 0 ([] : List Int) 1 none (n : Int) 2).o2), (b5, some (.cells ⟨[.slice A4 m4 c4, .int .i64 ((HapG.mk 0 cz vz none 0 ([] : List Int) 0 none none 0 ([] : List Int) 1 none (n : Int) 2).p)]⟩ 95 (0, 0))), (b3, some (.cells ⟨[.slice none 0 0, .slice none 0 0, .int .i64 0]⟩ 50 (0, 0))), (b2, some (.cells ⟨(bookL b A n cp)⟩ 27 (0, 0)))] [] w _ _ := Sx.keepE [0, 1, 2, 3, 4, 5, 6, 7] _ ⟨⟨_, rfl, rfl⟩, ⟨_, rfl, rfl⟩, ⟨_, rfl, rfl⟩, ⟨_, rfl, rfl⟩, ⟨_, rfl, rfl⟩, ⟨_, rfl, rfl⟩, ⟨_, rfl, rfl⟩, ⟨_, rfl, rfl⟩, trivial⟩ hs45; clear hs45
 refine cd_loop (X := HapG) (fun g a_ w_ => (g.k ≤ n) ∧ (HP b plan g.k g.c g.v g.cs g.ws g.fl) ∧ (0 ≤ g.c ∧ g.c ≤ 99 ∧ 0 ≤ g.v ∧ g.v ≤ 99) ∧ (0 ≤ g.p ∧ g.p ≤ 2 + 1000 * (g.k : Int)) ∧ (Sx.Own intL 1 3 g.A1 g.c1 g.cs g.b1 g.o1) ∧ (Sx.Own intL 1 3 g.A2 g.c2 g.ws g.b2 g.o2) ∧ Sx 177 [] [(11, .int .i64 (g.k : Int)), (10, .pointer (some ⟨b9, 0, none⟩)), (9, .int .i64 g.v), (8, .int .i64 g.c), (7, .pointer (some ⟨b5, 0, none⟩)), (6, .pointer (some ⟨b3, 0, none⟩)), (3, .pointer (some ⟨b2, 0, none⟩)), (1, .slice A2 m c2)] [(b9, some (.cells ⟨[.slice g.A1 g.cs.length g.c1, .slice g.A2 g.ws.length g.c2, .int .i64 g.fl]⟩ 50 (0, 0))), (g.b1, g.o1), (g.b2, g.o2), (b5, some (.cells ⟨[.slice A4 m4 c4, .int .i64 g.p]⟩ 95 (0, 0))), (b3, some (.cells ⟨[.slice none 0 0, .slice none 0 0, .int .i64 0]⟩ 50 (0, 0))), (b2, some (.cells ⟨(bookL b A n cp)⟩ 27 (0, 0)))] [] w a_ w_) (fun g => n - g.k) ((HapG.mk 0 cz vz none 0 ([] : List Int) 0 none none 0 ([] : List Int) 1 none (n : Int) 2)) ⟨?_, ?_, ?_, ?_, ?_, ?_, hs46⟩ ?_
 · exact Nat.zero_le _
 · exact ⟨hic, hiv, rfl, rfl, by show (n : Int) = _; omega⟩
 · show 0 ≤ cz ∧ cz ≤ 99 ∧ 0 ≤ vz ∧ vz ≤ 99
   omega
 · show (0 : Int) ≤ 2 ∧ (2 : Int) ≤ 2 + 1000 * ((0 : Nat) : Int)
   omega
 · exact .inl ⟨rfl, rfl⟩
 · exact .inl ⟨rfl, rfl⟩
 intro g a_47 w_47 ⟨hgk, hHP, hg4, hgp, ho1, ho2, hs47⟩; clear hs46
 refine cd_seq fun K12 hK12 => ?_
 refine cd_region fun K13 hK13 => ?_
 refine sq rfl (st_move hs47 (Ev.t 0 rfl) rfl rfl fun _ _ hs48 => ?_); clear hs47
 refine sq rfl (st_field (o' := 22) hs48 (Ev.t 7 rfl) rfl rfl runUnderlying27 rfl sizeOf25 rfl rfl fun _ _ hs49 => ?_); clear hs48
 refine sq rfl (st_load1 (o := 0) (off := 22) (v := .slice A n cp) hs49 (Ev.t 0 rfl) rfl rfl isAgg25 (hs49.cells 5 rfl) rfl fun _ _ hs50 => ?_); clear hs49
 refine sq rfl (st_len hs50 (Ev.t 0 rfl) rfl rfl runUnderlying25 fun _ _ hs51 => ?_); clear hs50
 refine sq rfl (st_cmp (c := decide (((g.k : Int) : Int) < (n : Int))) hs51 (Ev.t 3 rfl) (Ev.t 0 rfl) rfl rfl rfl rfl fun _ _ hs52 => ?_); clear hs51
 refine hK13 _ _ ?_; clear hK13
 have hs53 := hs52.keep [0, 5, 6, 7, 8, 9, 10, 11, 12] [_, _, _, _, _, _, _, _, _] rfl; clear hs52
 refine cd_cond hs53 (Ev.t 0 rfl) (fun hc14 => ?_) (fun hc14 => ?_)
 · have hin : g.k < n := by simpa using hc14
   have hil : g.k < b.parts.length := by omega
   obtain ⟨x15, hx15⟩ : ∃ x, b.parts[g.k]? = some x := ⟨_, List.getElem?_eq_getElem (by have := hP.len; omega)⟩
   obtain ⟨b16, o16, hA16, -, hc16⟩ := hP.el g.k x15 hx15
   obtain ⟨x17, hx17⟩ : ∃ x, plan[g.k]? = some x := ⟨_, List.getElem?_eq_getElem (by have := hL.len; omega)⟩
   obtain ⟨b18, o18, hA18, -, hc18⟩ := hL.el g.k x17 hx17
   have hwy := isPlan_bd hb hpl hx15 hx17
   have hxy := ok_part hok hx15
   simp only [okSpan_iff, Eng.within_iff] at hxy
   have m1 := mulbd ⟨hwy.1, hwy.2.1⟩ ⟨hb.load.1, hb.load.2.1⟩
   have m2 := mulbd ⟨hwy.2.2.1, hwy.2.2.2⟩ hb.load.2.2
   have hB := hp_bd hb _ _ _ _ _ _ hHP
   have hB1 := hB.cl
   have hB2 := hB.wl
   refine cd_skip ?_
   refine th_norm (hK12 _ _ ?_)
   refine cd_seq fun K19 hK19 => ?_
   refine cd_block ?_
   refine cd_region fun K20 hK20 => ?_
   refine sq rfl (st_field (o' := 22) hs53 (Ev.t 7 rfl) rfl rfl runUnderlying27 rfl sizeOf25 rfl rfl fun _ _ hs54 => ?_); clear hs53
   refine sq rfl (st_load1 (o := 0) (off := 22) (v := .slice A n cp) hs54 (Ev.t 0 rfl) rfl rfl isAgg25 (hs54.cells 5 rfl) rfl fun _ _ hs55 => ?_); clear hs54
   refine sq rfl (st_move hs55 (Ev.t 3 rfl) rfl rfl fun _ _ hs56 => ?_); clear hs55
   refine sq rfl (st_indexM (o' := o16 + g.k * 4) hs56 (Ev.t 1 rfl) (Ev.t 0 rfl) rfl rfl hA16 runUnderlying25 sizeOf66 ⟨by omega, by have := hP.len; have := (List.getElem?_eq_some_iff.1 hx15).1; omega⟩ rfl fun _ _ hs57 => ?_); clear hs56
   refine sq rfl (st_loadA (o := o16 + g.k * 4) (off := 0) (vs := (partL x15)) hs57 (Ev.t 0 rfl) rfl rfl isAgg66 sizeOf66 (hs57.old hc16 (by simp)) rfl fun _ _ hs58 => ?_); clear hs57
   refine sq rfl (st_alloc hs58 rfl rfl zeroValue66 rfl fun b21 _ _ hs59 => ?_); clear hs58
   refine sq rfl (st_store (l' := (partL x15)) (vs := (partL x15)) (i := 0) hs59 (Ev.t 0 rfl) (Ev.t 1 rfl) sizeOf66 rfl rfl rfl rfl rfl rfl fun _ _ hs60 => ?_); clear hs59
   have hs61 := hs60.asB [_, _, _, _, _, _, _] rfl; clear hs60
   refine hK20 _ _ ?_; clear hK20
   have hs62 := hs61.keep [0, 7, 8, 9, 10, 11, 12, 13, 14] [_, _, _, _, _, _, _, _, _] rfl; clear hs61
   have hs63 := hs62.keep [4, 0, 1, 2, 3, 5, 6, 7, 8] [_, _, _, _, _, _, _, _, _] rfl; clear hs62
   refine cd_drawS mixed [2, 11, 12, 26] ⟨Unit, fun n_ x_ => match n_ with | 0 => [(8, .int .i64 g.c)] | 1 => [(58, .int .i64 g.c), (8, .int .i64 g.c)] | 2 => [(67, .int .i64 (g.c + (x17.c * b.scoop))), (58, .int .i64 g.c), (8, .int .i64 g.c)] | 3 => [(68, .int .i64 (min b.bunker (g.c + (x17.c * b.scoop)))), (67, .int .i64 (g.c + (x17.c * b.scoop))), (58, .int .i64 g.c), (8, .int .i64 g.c)] | _ => [(8, .int .i64 (min b.bunker (g.c + (x17.c * b.scoop)))), (68, .int .i64 (min b.bunker (g.c + (x17.c * b.scoop)))), (67, .int .i64 (g.c + (x17.c * b.scoop))), (58, .int .i64 g.c)], fun n_ x_ => match n_ with | 0 => [] | 1 => [] | 2 => [] | 3 => [] | _ => []⟩ () hs63 [⟨56, [], Is (.pointer (some ⟨b2, 4, none⟩))⟩, ⟨57, [0], Is (.int .i64 b.bunker)⟩, ⟨58, [], Is undef⟩, ⟨59, [], Is (.slice A2 m c2)⟩, ⟨60, [], Is (.int .i64 (g.k : Int))⟩, ⟨61, [3, 4], Is (.pointer (some ⟨b18, o18 + g.k * 2, none⟩))⟩, ⟨62, [5], Is (.pointer (some ⟨b18, o18 + g.k * 2, none⟩))⟩, ⟨63, [6], Is (.int .i64 x17.c)⟩, ⟨64, [], Is (.pointer (some ⟨b2, 6, none⟩))⟩, ⟨65, [8], Is (.int .i64 b.scoop)⟩, ⟨66, [7, 9], Is (.int .i64 (x17.c * b.scoop))⟩, ⟨67, [10], Is undef⟩, ⟨68, [1], Is undef⟩, ⟨69, [], Is (.pointer (some ⟨b2, 5, none⟩))⟩, ⟨70, [13], Is (.int .i64 b.tank)⟩, ⟨71, [], Is (.int .i64 g.v)⟩, ⟨72, [], Is (.slice A2 m c2)⟩, ⟨73, [], Is (.int .i64 (g.k : Int))⟩, ⟨74, [16, 17], Is (.pointer (some ⟨b18, o18 + g.k * 2, none⟩))⟩, ⟨75, [18], Is (.pointer (some ⟨b18, o18 + g.k * 2 + 1, none⟩))⟩, ⟨76, [19], Is (.int .i64 x17.w)⟩, ⟨77, [], Is (.pointer (some ⟨b2, 7, none⟩))⟩, ⟨78, [21], Is (.int .i64 b.pail)⟩, ⟨79, [20, 22], Is (.int .i64 (x17.w * b.pail))⟩, ⟨80, [15, 23], Is (.int .i64 (g.v + (x17.w * b.pail)))⟩, ⟨81, [14, 24], Is (.int .i64 (min b.tank (g.v + (x17.w * b.pail))))⟩, ⟨8, [], Is undef⟩] (by kernel_rfl) (fun n_ _ => by rcases n_ with _ | _ | _ | _ | _ <;> rfl) (by kernel_rfl) fun K22 hK22 => ⟨⟨?_, ?_, ?_, ?_, ?_, ?_, ?_, ?_, ?_, ?_, ?_, ?_, ?_, ?_, ?_, ?_, ?_, ?_, ?_, ?_, ?_, ?_, ?_, ?_, ?_, ?_, ?_, trivial⟩, ?_⟩
   · rintro T_ B_ a_ w_ K_ hT hB hf hsD hk
     exact ob rfl rfl (st_field (o' := 4) hsD (evT hT 6 rfl) rfl hf runUnderlying27 rfl sizeOf3 rfl rfl fun _ _ => hk _ _ _ _ ⟨rfl, rfl⟩)
   · rintro T_ B_ a_ w_ K_ hT hB _ _ ⟨rfl, rfl⟩ h56 - hf hsD hk
     exact ob rfl rfl (st_load1 (o := 0) (off := 4) (v := .int .i64 b.bunker) hsD (Ev.tmp h56) rfl hf isAgg3 (hsD.cellsM (inB hB 6 rfl)) rfl fun _ _ => hk _ _ _ _ ⟨rfl, rfl⟩)
   · rintro T_ B_ a_ w_ K_ x_ hT hB hf hsD hk
     exact ob rfl rfl (st_move hsD (Ev.t 0 rfl) rfl (show fresh 58 ([(8, .int .i64 g.c)] ++ T_) = true from by simp only [List.nil_append, List.cons_append, fresh, hf]; rfl) fun a_1 w_1 h1 => hk x_ _ _ h1)
   · rintro T_ B_ a_ w_ K_ hT hB hf hsD hk
     exact ob rfl rfl (st_move hsD (evT hT 7 rfl) rfl hf fun _ _ => hk _ _ _ _ ⟨rfl, rfl⟩)
   · rintro T_ B_ a_ w_ K_ hT hB hf hsD hk
     exact ob rfl rfl (st_move hsD (evT hT 1 rfl) rfl hf fun _ _ => hk _ _ _ _ ⟨rfl, rfl⟩)
   · rintro T_ B_ a_ w_ K_ hT hB _ _ ⟨rfl, rfl⟩ h59 - _ _ ⟨rfl, rfl⟩ h60 - hf hsD hk
     exact ob rfl rfl (st_indexM (o' := o18 + g.k * 2) hsD (Ev.tmp h59) (Ev.tmp h60) rfl hf hA18 runUnderlying28 sizeOf64 ⟨by omega, by have := hL.len; have := (List.getElem?_eq_some_iff.1 hx17).1; omega⟩ rfl fun _ _ => hk _ _ _ _ ⟨rfl, rfl⟩)
   · rintro T_ B_ a_ w_ K_ hT hB _ _ ⟨rfl, rfl⟩ h61 - hf hsD hk
     exact ob rfl rfl (st_field (o' := o18 + g.k * 2) hsD (Ev.tmp h61) rfl hf runUnderlying64 rfl sizeOf3 rfl rfl fun _ _ => hk _ _ _ _ ⟨rfl, rfl⟩)
   · rintro T_ B_ a_ w_ K_ hT hB _ _ ⟨rfl, rfl⟩ h62 - hf hsD hk
     exact ob rfl rfl (st_load1 (o := o18 + g.k * 2) (off := 0) (v := .int .i64 x17.c) hsD (Ev.tmp h62) rfl hf isAgg3 (hsD.old hc18 (by simp)) rfl fun _ _ => hk _ _ _ _ ⟨rfl, rfl⟩)
   · rintro T_ B_ a_ w_ K_ hT hB hf hsD hk
     exact ob rfl rfl (st_field (o' := 6) hsD (evT hT 6 rfl) rfl hf runUnderlying27 rfl sizeOf3 rfl rfl fun _ _ => hk _ _ _ _ ⟨rfl, rfl⟩)
   · rintro T_ B_ a_ w_ K_ hT hB _ _ ⟨rfl, rfl⟩ h64 - hf hsD hk
     exact ob rfl rfl (st_load1 (o := 0) (off := 6) (v := .int .i64 b.scoop) hsD (Ev.tmp h64) rfl hf isAgg3 (hsD.cellsM (inB hB 6 rfl)) rfl fun _ _ => hk _ _ _ _ ⟨rfl, rfl⟩)
   · rintro T_ B_ a_ w_ K_ hT hB _ _ ⟨rfl, rfl⟩ h63 - _ _ ⟨rfl, rfl⟩ h65 - hf hsD hk
     exact ob rfl rfl (st_mul (z := x17.c * b.scoop) hsD (Ev.tmp h63) (Ev.tmp h65) rfl hf rfl (by omega) fun _ _ => hk _ _ _ _ ⟨rfl, rfl⟩)
   · rintro T_ B_ a_ w_ K_ x_ hT hB _ _ ⟨rfl, rfl⟩ h66 - hf hsD hk
     exact ob rfl rfl (st_add (z := g.c + (x17.c * b.scoop)) hsD (Ev.t 0 rfl) (Ev.tmp (List.mem_append_right _ h66)) rfl (show fresh 67 ([(58, .int .i64 g.c), (8, .int .i64 g.c)] ++ T_) = true from by simp only [List.nil_append, List.cons_append, fresh, hf]; rfl) rfl (by omega) fun a_1 w_1 h1 => hk x_ _ _ h1)
   · rintro T_ B_ a_ w_ K_ x_ hT hB _ _ ⟨rfl, rfl⟩ h57 - hf hsD hk
     exact ob rfl rfl (st_min hsD (Ev.tmp (List.mem_append_right _ h57)) (Ev.t 0 rfl) rfl (show fresh 68 ([(67, .int .i64 (g.c + (x17.c * b.scoop))), (58, .int .i64 g.c), (8, .int .i64 g.c)] ++ T_) = true from by simp only [List.nil_append, List.cons_append, fresh, hf]; rfl) fun a_1 w_1 h1 => hk x_ _ _ h1)
   · rintro T_ B_ a_ w_ K_ hT hB hf hsD hk
     exact ob rfl rfl (st_field (o' := 5) hsD (evT hT 6 rfl) rfl hf runUnderlying27 rfl sizeOf3 rfl rfl fun _ _ => hk _ _ _ _ ⟨rfl, rfl⟩)
   · rintro T_ B_ a_ w_ K_ hT hB _ _ ⟨rfl, rfl⟩ h69 - hf hsD hk
     exact ob rfl rfl (st_load1 (o := 0) (off := 5) (v := .int .i64 b.tank) hsD (Ev.tmp h69) rfl hf isAgg3 (hsD.cellsM (inB hB 6 rfl)) rfl fun _ _ => hk _ _ _ _ ⟨rfl, rfl⟩)
   · rintro T_ B_ a_ w_ K_ hT hB hf hsD hk
     exact ob rfl rfl (st_move hsD (evT hT 3 rfl) rfl hf fun _ _ => hk _ _ _ _ ⟨rfl, rfl⟩)
   · rintro T_ B_ a_ w_ K_ hT hB hf hsD hk
     exact ob rfl rfl (st_move hsD (evT hT 7 rfl) rfl hf fun _ _ => hk _ _ _ _ ⟨rfl, rfl⟩)
   · rintro T_ B_ a_ w_ K_ hT hB hf hsD hk
     exact ob rfl rfl (st_move hsD (evT hT 1 rfl) rfl hf fun _ _ => hk _ _ _ _ ⟨rfl, rfl⟩)
   · rintro T_ B_ a_ w_ K_ hT hB _ _ ⟨rfl, rfl⟩ h72 - _ _ ⟨rfl, rfl⟩ h73 - hf hsD hk
     exact ob rfl rfl (st_indexM (o' := o18 + g.k * 2) hsD (Ev.tmp h72) (Ev.tmp h73) rfl hf hA18 runUnderlying28 sizeOf64 ⟨by omega, by have := hL.len; have := (List.getElem?_eq_some_iff.1 hx17).1; omega⟩ rfl fun _ _ => hk _ _ _ _ ⟨rfl, rfl⟩)
   · rintro T_ B_ a_ w_ K_ hT hB _ _ ⟨rfl, rfl⟩ h74 - hf hsD hk
     exact ob rfl rfl (st_field (o' := o18 + g.k * 2 + 1) hsD (Ev.tmp h74) rfl hf runUnderlying64 rfl sizeOf3 rfl rfl fun _ _ => hk _ _ _ _ ⟨rfl, rfl⟩)
   · rintro T_ B_ a_ w_ K_ hT hB _ _ ⟨rfl, rfl⟩ h75 - hf hsD hk
     exact ob rfl rfl (st_load1 (o := o18 + g.k * 2) (off := 1) (v := .int .i64 x17.w) hsD (Ev.tmp h75) rfl hf isAgg3 (hsD.old hc18 (by simp)) rfl fun _ _ => hk _ _ _ _ ⟨rfl, rfl⟩)
   · rintro T_ B_ a_ w_ K_ hT hB hf hsD hk
     exact ob rfl rfl (st_field (o' := 7) hsD (evT hT 6 rfl) rfl hf runUnderlying27 rfl sizeOf3 rfl rfl fun _ _ => hk _ _ _ _ ⟨rfl, rfl⟩)
   · rintro T_ B_ a_ w_ K_ hT hB _ _ ⟨rfl, rfl⟩ h77 - hf hsD hk
     exact ob rfl rfl (st_load1 (o := 0) (off := 7) (v := .int .i64 b.pail) hsD (Ev.tmp h77) rfl hf isAgg3 (hsD.cellsM (inB hB 6 rfl)) rfl fun _ _ => hk _ _ _ _ ⟨rfl, rfl⟩)
   · rintro T_ B_ a_ w_ K_ hT hB _ _ ⟨rfl, rfl⟩ h76 - _ _ ⟨rfl, rfl⟩ h78 - hf hsD hk
     exact ob rfl rfl (st_mul (z := x17.w * b.pail) hsD (Ev.tmp h76) (Ev.tmp h78) rfl hf rfl (by omega) fun _ _ => hk _ _ _ _ ⟨rfl, rfl⟩)
   · rintro T_ B_ a_ w_ K_ hT hB _ _ ⟨rfl, rfl⟩ h71 - _ _ ⟨rfl, rfl⟩ h79 - hf hsD hk
     exact ob rfl rfl (st_add (z := g.v + (x17.w * b.pail)) hsD (Ev.tmp h71) (Ev.tmp h79) rfl hf rfl (by omega) fun _ _ => hk _ _ _ _ ⟨rfl, rfl⟩)
   · rintro T_ B_ a_ w_ K_ hT hB _ _ ⟨rfl, rfl⟩ h70 - _ _ ⟨rfl, rfl⟩ h80 - hf hsD hk
     exact ob rfl rfl (st_min hsD (Ev.tmp h70) (Ev.tmp h80) rfl hf fun _ _ => hk _ _ _ _ ⟨rfl, rfl⟩)
   · rintro T_ B_ a_ w_ K_ x_ hT hB hf hsD hk
     exact ob rfl rfl (st_assign (dropT_ hsD 3) (Ev.t 0 rfl) rfl (show fresh 8 ([(68, .int .i64 (min b.bunker (g.c + (x17.c * b.scoop)))), (67, .int .i64 (g.c + (x17.c * b.scoop))), (58, .int .i64 g.c)] ++ T_) = true from by simp only [List.nil_append, List.cons_append, fresh, hf]; rfl) fun a_1 w_1 h1 => hk x_ _ _ h1)
   rintro _ _ ⟨rfl, rfl⟩
   rintro _ _ ⟨rfl, rfl⟩
   rintro _ _ ⟨rfl, rfl⟩
   rintro _ _ ⟨rfl, rfl⟩
   rintro _ _ ⟨rfl, rfl⟩
   rintro _ _ ⟨rfl, rfl⟩
   rintro _ _ ⟨rfl, rfl⟩
   rintro _ _ ⟨rfl, rfl⟩
   rintro _ _ ⟨rfl, rfl⟩
   rintro _ _ ⟨rfl, rfl⟩
   rintro _ _ ⟨rfl, rfl⟩
   rintro _ _ ⟨rfl, rfl⟩
   rintro _ _ ⟨rfl, rfl⟩
   rintro _ _ ⟨rfl, rfl⟩
   rintro _ _ ⟨rfl, rfl⟩
   rintro _ _ ⟨rfl, rfl⟩
   rintro _ _ ⟨rfl, rfl⟩
   rintro _ _ ⟨rfl, rfl⟩
   rintro _ _ ⟨rfl, rfl⟩
   rintro _ _ ⟨rfl, rfl⟩
   rintro _ _ ⟨rfl, rfl⟩
   rintro _ _ ⟨rfl, rfl⟩
   rintro _ _ ⟨rfl, rfl⟩
   intro _ a_64 w_64 hs64
   clear hs63
   have hs65 := Sx.as (T' := [_, _, _, _, _, _, _, _, _, _, _, _, _, _, _, _, _, _, _, _, _, _, _, _, _, _, _, _, _, _, _, _, _, _, _]) (B' := [_, _, _, _, _, _, _]) rfl rfl hs64; clear hs64
   have hs66 := hs65.keep [0, 1, 2, 3, 4, 5, 6, 7, 8, 9, 10, 11, 12, 13, 14, 15, 16, 17, 18, 19, 20, 21, 22, 23, 24, 25, 26, 27, 28, 29, 31, 32, 33, 34] [_, _, _, _, _, _, _, _, _, _, _, _, _, _, _, _, _, _, _, _, _, _, _, _, _, _, _, _, _, _, _, _, _, _] rfl; clear hs65
   refine sq rfl (st_assign hs66 (Ev.t 26 rfl) rfl rfl fun _ _ hs67 => ?_); clear hs66
   refine hK22 _ _ ?_; clear hK22
   have hs68 := hs67.keep [0, 1, 28, 29, 30, 31, 32, 33, 34] [_, _, _, _, _, _, _, _, _] rfl; clear hs67
   obtain ⟨c0, hc0⟩ : ∃ z, c0At b x17 g.c = z := ⟨_, rfl⟩
   obtain ⟨v0, hv0⟩ : ∃ z, v0At b x17 g.v = z := ⟨_, rfl⟩
   have hc0e := hc0
   have hv0e := hv0
   simp only [c0At, v0At] at hc0e hv0e
   have hs69 := Sx.keepE [0, 1, 2, 3, 4, 5, 6, 7, 8] [(9, _), (8, .int .i64 c0), (12, _), (11, _), (10, _), (7, _), (6, _), (3, _), (1, _)] ⟨⟨_, rfl, rfl⟩, ⟨_, rfl, (by rw [hc0e])⟩, ⟨_, rfl, rfl⟩, ⟨_, rfl, rfl⟩, ⟨_, rfl, rfl⟩, ⟨_, rfl, rfl⟩, ⟨_, rfl, rfl⟩, ⟨_, rfl, rfl⟩, ⟨_, rfl, rfl⟩, trivial⟩ hs68; clear hs68
   have hs70 := Sx.keepE [0, 1, 2, 3, 4, 5, 6, 7, 8] [(9, .int .i64 v0), (8, _), (12, _), (11, _), (10, _), (7, _), (6, _), (3, _), (1, _)] ⟨⟨_, rfl, (by rw [hv0e])⟩, ⟨_, rfl, rfl⟩, ⟨_, rfl, rfl⟩, ⟨_, rfl, rfl⟩, ⟨_, rfl, rfl⟩, ⟨_, rfl, rfl⟩, ⟨_, rfl, rfl⟩, ⟨_, rfl, rfl⟩, ⟨_, rfl, rfl⟩, trivial⟩ hs69; clear hs69
   have h40 : 0 ≤ c0 ∧ c0 ≤ 99 ∧ 0 ≤ v0 ∧ v0 ≤ 99 := by omega
   clear hc0e hv0e
   refine cd_region fun K23 hK23 => ?_
   refine sq rfl (st_assign hs70 (.const _) rfl rfl fun _ _ hs71 => ?_); clear hs70
   refine hK23 _ _ ?_; clear hK23
   refine cd_cut (fun a_ w_ => ∃ (kk : Nat), ((kk = 0 ∧ x15.light = false) ∨ (kk = 1 ∧ x15.light = true)) ∧ Sx 177 [] [(13, .int .i64 (kk : Int)), (9, .int .i64 v0), (8, .int .i64 c0), (12, .pointer (some ⟨b21, 0, none⟩)), (11, .int .i64 (g.k : Int)), (10, .pointer (some ⟨b9, 0, none⟩)), (7, .pointer (some ⟨b5, 0, none⟩)), (6, .pointer (some ⟨b3, 0, none⟩)), (3, .pointer (some ⟨b2, 0, none⟩)), (1, .slice A2 m c2)] [(b21, some (.cells ⟨(partL x15)⟩ 66 (0, 0))), (b9, some (.cells ⟨[.slice g.A1 g.cs.length g.c1, .slice g.A2 g.ws.length g.c2, .int .i64 g.fl]⟩ 50 (0, 0))), (g.b1, g.o1), (g.b2, g.o2), (b5, some (.cells ⟨[.slice A4 m4 c4, .int .i64 g.p]⟩ 95 (0, 0))), (b3, some (.cells ⟨[.slice none 0 0, .slice none 0 0, .int .i64 0]⟩ 50 (0, 0))), (b2, some (.cells ⟨(bookL b A n cp)⟩ 27 (0, 0)))] [] w a_ w_) ?_ ?_
   · skip
     refine cd_region fun K24 hK24 => ?_
     refine sq rfl (st_field (o' := 2) hs71 (Ev.t 3 rfl) rfl rfl runUnderlying66 rfl sizeOf4 rfl rfl fun _ _ hs72 => ?_); clear hs71
     refine sq rfl (st_load1 (o := 0) (off := 2) (v := .bool x15.light) hs72 (Ev.t 0 rfl) rfl rfl isAgg4 (hs72.cells 0 rfl) rfl fun _ _ hs73 => ?_); clear hs72
     refine hK24 _ _ ?_; clear hK24
     have hs74 := hs73.keep [0, 2, 3, 4, 5, 6, 7, 8, 9, 10, 11] [_, _, _, _, _, _, _, _, _, _, _] rfl; clear hs73
     refine cd_cond hs74 (Ev.t 0 rfl) (fun hc25 => ?_) (fun hc25 => ?_)
     · have hl : x15.light = true := by simpa using hc25
       refine cd_region1 ?_
       have hs75 := hs74.keep [0, 2, 3, 4, 5, 6, 7, 8, 9, 10] [_, _, _, _, _, _, _, _, _, _] rfl; clear hs74
       refine sq rfl (st_assign hs75 (.const _) rfl rfl fun _ _ hs76 => ?_); clear hs75
       refine wpListIn_nil ?_
       have hs77 := hs76.keep [0, 2, 3, 4, 5, 6, 7, 8, 9, 10] [_, _, _, _, _, _, _, _, _, _] rfl; clear hs76
       refine th_norm ?_
       refine ⟨1, ?_, ?_⟩
       · exact .inr ⟨rfl, hl⟩
       exact Sx.keepE [0, 1, 2, 3, 4, 5, 6, 7, 8, 9] _ ⟨⟨_, rfl, rfl⟩, ⟨_, rfl, rfl⟩, ⟨_, rfl, rfl⟩, ⟨_, rfl, rfl⟩, ⟨_, rfl, rfl⟩, ⟨_, rfl, rfl⟩, ⟨_, rfl, rfl⟩, ⟨_, rfl, rfl⟩, ⟨_, rfl, rfl⟩, ⟨_, rfl, rfl⟩, trivial⟩ hs77
     · have hl : x15.light = false := by simpa using hc25
       refine cd_skip ?_
       refine th_norm ?_
       refine ⟨0, ?_, ?_⟩
       · exact .inl ⟨rfl, hl⟩
       exact Sx.keepE [1, 2, 3, 4, 5, 6, 7, 8, 9, 10] _ ⟨⟨_, rfl, rfl⟩, ⟨_, rfl, rfl⟩, ⟨_, rfl, rfl⟩, ⟨_, rfl, rfl⟩, ⟨_, rfl, rfl⟩, ⟨_, rfl, rfl⟩, ⟨_, rfl, rfl⟩, ⟨_, rfl, rfl⟩, ⟨_, rfl, rfl⟩, ⟨_, rfl, rfl⟩, trivial⟩ hs74
   · intro a_72 w_72 ⟨kk, hkk, hs72⟩
     clear hs71
     have hk2 : kk < 2 := by omega
     have hbs := hb.burn x15.light
     have hds := hb.drink x15.light
     have hB8 : sub (bookL b A n cp) (8 + kk * 2) 2 = some [.int .i64 (b.burn x15.light).lo, .int .i64 (b.burn x15.light).hi] := by rcases hkk with ⟨rfl, h⟩ | ⟨rfl, h⟩ <;> rw [h] <;> rfl
     have hB12 : sub (bookL b A n cp) (12 + kk * 2) 2 = some [.int .i64 (b.drink x15.light).lo, .int .i64 (b.drink x15.light).hi] := by rcases hkk with ⟨rfl, h⟩ | ⟨rfl, h⟩ <;> rw [h] <;> rfl
     have hlh : (b.burn x15.light).lo ≤ (b.burn x15.light).hi ∧ (b.burn x15.light).hi ≤ 3 ∧ 0 ≤ (b.burn x15.light).lo ∧ (b.drink x15.light).lo ≤ (b.drink x15.light).hi ∧ (b.drink x15.light).hi ≤ 3 ∧ 0 ≤ (b.drink x15.light).lo := by rcases hkk with ⟨-, h⟩ | ⟨-, h⟩ <;> rw [h] <;> simp only [Book.burn, Book.drink, if_true, if_false, Bool.false_eq_true] <;> omega
     clear hbs hds
     refine cd_region fun K26 hK26 => ?_
     refine sq rfl (st_field (o' := 0) hs72 (Ev.t 3 rfl) rfl rfl runUnderlying66 rfl sizeOf23 rfl rfl fun _ _ hs73 => ?_); clear hs72
     refine sq rfl (st_loadA (o := 0) (off := 0) (vs := [.int .i64 x15.mi.lo, .int .i64 x15.mi.hi]) hs73 (Ev.t 0 rfl) rfl rfl isAgg23 sizeOf23 (hs73.cells 0 rfl) rfl fun _ _ hs74 => ?_); clear hs73
     refine sq rfl (st_loadA (o := 0) (off := 0) (vs := [.slice A4 m4 c4, .int .i64 g.p]) hs74 (Ev.t 8 rfl) rfl rfl isAgg95 sizeOf95 (hs74.cells 4 rfl) rfl fun _ _ hs75 => ?_); clear hs74
     refine sq rfl (st_callv (vs := [.agg ⟨[.int .i64 x15.mi.lo, .int .i64 x15.mi.hi]⟩, .agg ⟨[.slice A4 m4 c4, .int .i64 g.p]⟩]) hs75 (.func _) ⟨(Ev.t 1 rfl), (Ev.t 0 rfl), trivial⟩ rfl rfl call65 rfl (drawn_v x15.mi.lo x15.mi.hi A4 m4 c4 bits g.p _ (by omega) (by omega) (hI.kp hs75.kp) (by omega) (by omega)) fun _ _ hs76 => ?_); clear hs75
     refine sq rfl (st_move hs76 (Ev.t 0 rfl) rfl rfl fun _ _ hs77 => ?_); clear hs76
     refine sq rfl (st_extract hs77 (Ev.t 0 rfl) rfl rfl rfl fun _ _ hs78 => ?_); clear hs77
     refine sq rfl (st_extract hs78 (Ev.t 1 rfl) rfl rfl rfl fun _ _ hs79 => ?_); clear hs78
     refine sq rfl (st_alloc hs79 rfl rfl zeroValue95 rfl fun b27 _ _ hs80 => ?_); clear hs79
     refine sq rfl (st_assign hs80 (Ev.t 2 rfl) rfl rfl fun _ _ hs81 => ?_); clear hs80
     refine sq rfl (st_store (l' := [.slice A4 m4 c4, .int .i64 (g.p + 1)]) (vs := [.slice A4 m4 c4, .int .i64 (g.p + 1)]) (i := 0) hs81 (Ev.t 1 rfl) (Ev.t 2 rfl) sizeOf95 rfl rfl rfl rfl rfl rfl fun _ _ hs82 => ?_); clear hs81
     have hs83 := hs82.asB [_, _, _, _, _, _, _, _] rfl; clear hs82
     refine hK26 _ _ ?_; clear hK26
     have hs84 := hs83.keep [0, 1, 9, 10, 11, 12, 13, 14, 15, 16, 17, 18] [_, _, _, _, _, _, _, _, _, _, _, _] rfl; clear hs83
     obtain ⟨mz, hmz⟩ : ∃ z, chooseN ⟨x15.mi.lo, x15.mi.hi⟩ (pickN bits g.p) = z := ⟨_, rfl⟩
     have him : inS ⟨x15.mi.lo, x15.mi.hi⟩ mz := by rw [← hmz]; exact choose_in (show x15.mi.lo ≤ x15.mi.hi by omega) _
     have himn := him
     simp only [inS] at himn
     have hs85 := Sx.keepE [0, 1, 2, 3, 4, 5, 6, 7, 8, 9, 10, 11] [(14, .int .i64 mz), (15, _), (13, _), (9, _), (8, _), (12, _), (11, _), (10, _), (7, _), (6, _), (3, _), (1, _)] ⟨⟨_, rfl, (by rw [hmz])⟩, ⟨_, rfl, rfl⟩, ⟨_, rfl, rfl⟩, ⟨_, rfl, rfl⟩, ⟨_, rfl, rfl⟩, ⟨_, rfl, rfl⟩, ⟨_, rfl, rfl⟩, ⟨_, rfl, rfl⟩, ⟨_, rfl, rfl⟩, ⟨_, rfl, rfl⟩, ⟨_, rfl, rfl⟩, ⟨_, rfl, rfl⟩, trivial⟩ hs84; clear hs84
     obtain ⟨m5, hm5⟩ : ∃ k : Nat, (k : Int) = mz := ⟨mz.toNat, Int.toNat_of_nonneg (by omega)⟩
     have hs86 := Sx.keepE [0, 1, 2, 3, 4, 5, 6, 7, 8, 9, 10, 11] [(14, .int .i64 (m5 : Int)), (15, _), (13, _), (9, _), (8, _), (12, _), (11, _), (10, _), (7, _), (6, _), (3, _), (1, _)] ⟨⟨_, rfl, (by rw [hm5])⟩, ⟨_, rfl, rfl⟩, ⟨_, rfl, rfl⟩, ⟨_, rfl, rfl⟩, ⟨_, rfl, rfl⟩, ⟨_, rfl, rfl⟩, ⟨_, rfl, rfl⟩, ⟨_, rfl, rfl⟩, ⟨_, rfl, rfl⟩, ⟨_, rfl, rfl⟩, ⟨_, rfl, rfl⟩, ⟨_, rfl, rfl⟩, trivial⟩ hs85; clear hs85
     have him5 : inS x15.mi (m5 : Int) := by rw [hm5]; exact him
     refine cd_region fun K28 hK28 => ?_
     refine sq rfl (st_loadA (o := 0) (off := 0) (vs := [.slice A4 m4 c4, .int .i64 (g.p + 1)]) hs86 (Ev.t 1 rfl) rfl rfl isAgg95 sizeOf95 (hs86.cells 0 rfl) rfl fun _ _ hs87 => ?_); clear hs86
     refine sq rfl (st_store (l' := [.slice A4 m4 c4, .int .i64 (g.p + 1)]) (vs := [.slice A4 m4 c4, .int .i64 (g.p + 1)]) (i := 5) hs87 (Ev.t 9 rfl) (Ev.t 0 rfl) sizeOf95 rfl rfl rfl rfl rfl rfl fun _ _ hs88 => ?_); clear hs87
     have hs89 := hs88.asB [_, _, _, _, _, _, _, _] rfl; clear hs88
     refine hK28 _ _ ?_; clear hK28
     have hs90 := hs89.keep [1, 3, 4, 5, 6, 7, 8, 9, 10, 11, 12] [_, _, _, _, _, _, _, _, _, _, _] rfl; clear hs89
     refine cd_seq fun K29 hK29 => ?_
     refine cd_region fun K30 hK30 => ?_
     refine sq rfl (st_assign hs90 (.const _) rfl rfl fun _ _ hs91 => ?_); clear hs90
     refine hK30 _ _ ?_; clear hK30
     refine cd_block ?_
     have hs92 : Sx 177 [] [(16, .int .i64 ((MinG.mk 0 c0 v0 g.fl (g.p + 1) false).k : Int)), (14, .int .i64 (m5 : Int)), (13, .int .i64 (kk : Int)), (9, .int .i64 ((MinG.mk 0 c0 v0 g.fl (g.p + 1) false).v)), (8, .int .i64 ((MinG.mk 0 c0 v0 g.fl (g.p + 1) false).c)), (12, .pointer (some ⟨b21, 0, none⟩)), (11, .int .i64 (g.k : Int)), (10, .pointer (some ⟨b9, 0, none⟩)), (7, .pointer (some ⟨b5, 0, none⟩)), (6, .pointer (some ⟨b3, 0, none⟩)), (3, .pointer (some ⟨b2, 0, none⟩)), (1, .slice A2 m c2)] [(b27, some (.cells ⟨[.slice A4 m4 c4, .int .i64 (g.p + 1)]⟩ 95 (0, 0))), (b21, some (.cells ⟨(partL x15)⟩ 66 (0, 0))), (b9, some (.cells ⟨[.slice g.A1 g.cs.length g.c1, .slice g.A2 g.ws.length g.c2, .int .i64 ((MinG.mk 0 c0 v0 g.fl (g.p + 1) false).fl)]⟩ 50 (0, 0))), (g.b1, g.o1), (g.b2, g.o2), (b5, some (.cells ⟨[.slice A4 m4 c4, .int .i64 ((MinG.mk 0 c0 v0 g.fl (g.p + 1) false).p)]⟩ 95 (0, 0))), (b3, some (.cells ⟨[.slice none 0 0, .slice none 0 0, .int .i64 0]⟩ 50 (0, 0))), (b2, some (.cells ⟨(bookL b A n cp)⟩ 27 (0, 0)))] [] w _ _ := Sx.keepE [0, 1, 2, 3, 4, 5, 6, 7, 8, 9, 10, 11] _ ⟨⟨_, rfl, rfl⟩, ⟨_, rfl, rfl⟩, ⟨_, rfl, rfl⟩, ⟨_, rfl, rfl⟩, ⟨_, rfl, rfl⟩, ⟨_, rfl, rfl⟩, ⟨_, rfl, rfl⟩, ⟨_, rfl, rfl⟩, ⟨_, rfl, rfl⟩, ⟨_, rfl, rfl⟩, ⟨_, rfl, rfl⟩, ⟨_, rfl, rfl⟩, trivial⟩ hs91; clear hs91
     refine cd_loop (X := MinG) (fun q a_ w_ => (MinF b x15.light c0 v0 q.k q.c q.v q.dk) ∧ (q.k ≤ m5) ∧ (0 ≤ q.c ∧ q.c ≤ 99 ∧ 0 ≤ q.v ∧ q.v ≤ 99) ∧ (q.fl = if q.dk = true then min g.fl (g.k : Int) else g.fl) ∧ (0 ≤ q.p ∧ q.p ≤ g.p + 1 + 3 * (q.k : Int)) ∧ Sx 177 [] [(16, .int .i64 (q.k : Int)), (14, .int .i64 (m5 : Int)), (13, .int .i64 (kk : Int)), (9, .int .i64 q.v), (8, .int .i64 q.c), (12, .pointer (some ⟨b21, 0, none⟩)), (11, .int .i64 (g.k : Int)), (10, .pointer (some ⟨b9, 0, none⟩)), (7, .pointer (some ⟨b5, 0, none⟩)), (6, .pointer (some ⟨b3, 0, none⟩)), (3, .pointer (some ⟨b2, 0, none⟩)), (1, .slice A2 m c2)] [(b27, some (.cells ⟨[.slice A4 m4 c4, .int .i64 (g.p + 1)]⟩ 95 (0, 0))), (b21, some (.cells ⟨(partL x15)⟩ 66 (0, 0))), (b9, some (.cells ⟨[.slice g.A1 g.cs.length g.c1, .slice g.A2 g.ws.length g.c2, .int .i64 q.fl]⟩ 50 (0, 0))), (g.b1, g.o1), (g.b2, g.o2), (b5, some (.cells ⟨[.slice A4 m4 c4, .int .i64 q.p]⟩ 95 (0, 0))), (b3, some (.cells ⟨[.slice none 0 0, .slice none 0 0, .int .i64 0]⟩ 50 (0, 0))), (b2, some (.cells ⟨(bookL b A n cp)⟩ 27 (0, 0)))] [] w a_ w_) (fun q => m5 - q.k) ((MinG.mk 0 c0 v0 g.fl (g.p + 1) false)) ⟨?_, ?_, ?_, ?_, ?_, hs92⟩ ?_
     · exact ⟨rfl, rfl, rfl⟩
     · exact Nat.zero_le _
     · exact h40
     · rfl
     · show 0 ≤ g.p + 1 ∧ g.p + 1 ≤ g.p + 1 + 3 * ((0 : Nat) : Int)
       omega
     intro q a_93 w_93 ⟨hM, hqk, hq4, hqf, hqp, hs93⟩; clear hs92
     refine cd_seq fun K31 hK31 => ?_
     refine cd_region fun K32 hK32 => ?_
     refine sq rfl (st_move hs93 (Ev.t 0 rfl) rfl rfl fun _ _ hs94 => ?_); clear hs93
     refine sq rfl (st_move hs94 (Ev.t 2 rfl) rfl rfl fun _ _ hs95 => ?_); clear hs94
     refine sq rfl (st_cmp (c := decide (((q.k : Int) : Int) < (m5 : Int))) hs95 (Ev.t 1 rfl) (Ev.t 0 rfl) rfl rfl rfl rfl fun _ _ hs96 => ?_); clear hs95
     refine hK32 _ _ ?_; clear hK32
     have hs97 := hs96.keep [0, 3, 4, 5, 6, 7, 8, 9, 10, 11, 12, 13, 14] [_, _, _, _, _, _, _, _, _, _, _, _, _] rfl; clear hs96
     refine cd_cond hs97 (Ev.t 0 rfl) (fun hc33 => ?_) (fun hc33 => ?_)
     · have hqm : q.k < m5 := by simpa using hc33
       refine cd_skip ?_
       refine th_norm (hK31 _ _ ?_)
       refine cd_seq fun K34 hK34 => ?_
       refine cd_block ?_
       refine cd_drawn mixed hs97 [⟨98, [], Is (.int .i64 (kk : Int))⟩, ⟨99, [], Is (.pointer (some ⟨b2, 8, none⟩))⟩, ⟨100, [0, 1], Is (.pointer (some ⟨b2, 0 + (8 + kk * 2), none⟩))⟩, ⟨101, [2], Is (.agg ⟨[.int .i64 ((b.burn x15.light).lo), .int .i64 ((b.burn x15.light).hi)]⟩)⟩, ⟨102, [], Is (.agg ⟨[.slice A4 m4 c4, .int .i64 q.p]⟩)⟩, ⟨103, [3, 4], Is (.tuple ⟨[.int .i64 (chooseN ⟨(b.burn x15.light).lo, (b.burn x15.light).hi⟩ (pickN bits q.p)), .agg ⟨[.slice A4 m4 c4, .int .i64 (q.p + 1)]⟩]⟩)⟩, ⟨97, [5], Is (.tuple ⟨[.int .i64 (chooseN ⟨(b.burn x15.light).lo, (b.burn x15.light).hi⟩ (pickN bits q.p)), .agg ⟨[.slice A4 m4 c4, .int .i64 (q.p + 1)]⟩]⟩)⟩, ⟨104, [6], Is (.int .i64 (chooseN ⟨(b.burn x15.light).lo, (b.burn x15.light).hi⟩ (pickN bits q.p)))⟩, ⟨105, [6], Is (.agg ⟨[.slice A4 m4 c4, .int .i64 (q.p + 1)]⟩)⟩, ⟨18, [], fun v_ bs_ => ∃ b36, v_ = .pointer (some ⟨b36, 0, none⟩) ∧ bs_ = [(b36, some (.cells ⟨[.slice none 0 0, .int .i64 0]⟩ 95 (0, 0)))]⟩, ⟨17, [7], Is (.int .i64 (chooseN ⟨(b.burn x15.light).lo, (b.burn x15.light).hi⟩ (pickN bits q.p)))⟩] (by kernel_rfl) (by kernel_rfl) fun K35 hK35 => ⟨⟨?_, ?_, ?_, ?_, ?_, ?_, ?_, ?_, ?_, ?_, ?_, trivial⟩, ?_⟩
       · rintro T_ B_ a_ w_ K_ hT hB hf hsD hk
         exact ob rfl rfl (st_move hsD (evT hT 3 rfl) rfl hf fun _ _ => hk _ _ _ _ ⟨rfl, rfl⟩)
       · rintro T_ B_ a_ w_ K_ hT hB hf hsD hk
         exact ob rfl rfl (st_field (o' := 8) hsD (evT hT 11 rfl) rfl hf runUnderlying27 rfl sizeOf24 rfl rfl fun _ _ => hk _ _ _ _ ⟨rfl, rfl⟩)
       · rintro T_ B_ a_ w_ K_ hT hB _ _ ⟨rfl, rfl⟩ h98 - _ _ ⟨rfl, rfl⟩ h99 - hf hsD hk
         exact ob rfl rfl (st_indexArr (o' := 0 + (8 + kk * 2)) hsD (Ev.tmp h99) (Ev.tmp h98) rfl hf runUnderlying24 sizeOf23 (by omega) (by omega) fun _ _ => hk _ _ _ _ ⟨rfl, rfl⟩)
       · rintro T_ B_ a_ w_ K_ hT hB _ _ ⟨rfl, rfl⟩ h100 - hf hsD hk
         exact ob rfl rfl (st_loadA (o := 0) (off := 8 + kk * 2) (vs := [.int .i64 ((b.burn x15.light).lo), .int .i64 ((b.burn x15.light).hi)]) hsD (Ev.tmp h100) rfl hf isAgg23 sizeOf23 (hsD.cellsM (inB hB 7 rfl)) hB8 fun _ _ => hk _ _ _ _ ⟨rfl, rfl⟩)
       · rintro T_ B_ a_ w_ K_ hT hB hf hsD hk
         exact ob rfl rfl (st_loadA (o := 0) (off := 0) (vs := [.slice A4 m4 c4, .int .i64 q.p]) hsD (evT hT 9 rfl) rfl hf isAgg95 sizeOf95 (hsD.cellsM (inB hB 5 rfl)) rfl fun _ _ => hk _ _ _ _ ⟨rfl, rfl⟩)
       · rintro T_ B_ a_ w_ K_ hT hB _ _ ⟨rfl, rfl⟩ h101 - _ _ ⟨rfl, rfl⟩ h102 - hf hsD hk
         exact ob rfl rfl (st_callv (vs := [.agg ⟨[.int .i64 ((b.burn x15.light).lo), .int .i64 ((b.burn x15.light).hi)]⟩, .agg ⟨[.slice A4 m4 c4, .int .i64 q.p]⟩]) hsD (.func _) ⟨(Ev.tmp h101), (Ev.tmp h102), trivial⟩ rfl hf call65 rfl (drawn_v ((b.burn x15.light).lo) ((b.burn x15.light).hi) A4 m4 c4 bits q.p _ (by omega) (by omega) (hI.kp hsD.kp) (by omega) (by omega)) fun _ _ => hk _ _ _ _ ⟨rfl, rfl⟩)
       · rintro T_ B_ a_ w_ K_ hT hB _ _ ⟨rfl, rfl⟩ h103 - hf hsD hk
         exact ob rfl rfl (st_move hsD (Ev.tmp h103) rfl hf fun _ _ => hk _ _ _ _ ⟨rfl, rfl⟩)
       · rintro T_ B_ a_ w_ K_ hT hB _ _ ⟨rfl, rfl⟩ h97 - hf hsD hk
         exact ob rfl rfl (st_extract hsD (Ev.tmp h97) rfl hf rfl fun _ _ => hk _ _ _ _ ⟨rfl, rfl⟩)
       · rintro T_ B_ a_ w_ K_ hT hB _ _ ⟨rfl, rfl⟩ h97 - hf hsD hk
         exact ob rfl rfl (st_extract hsD (Ev.tmp h97) rfl hf rfl fun _ _ => hk _ _ _ _ ⟨rfl, rfl⟩)
       · rintro T_ B_ a_ w_ K_ hT hB hf hsD hk
         exact ob rfl rfl (st_alloc hsD rfl hf zeroValue95 rfl fun b36 _ _ => hk _ _ _ _ ⟨b36, rfl, rfl⟩)
       · rintro T_ B_ a_ w_ K_ hT hB _ _ ⟨rfl, rfl⟩ h104 - hf hsD hk
         exact ob rfl rfl (st_assign hsD (Ev.tmp h104) rfl hf fun _ _ => hk _ _ _ _ ⟨rfl, rfl⟩)
       rintro _ _ ⟨rfl, rfl⟩ _ _ ⟨rfl, rfl⟩ _ _ ⟨rfl, rfl⟩ _ _ ⟨rfl, rfl⟩ _ _ ⟨rfl, rfl⟩ _ _ ⟨rfl, rfl⟩ _ _ ⟨rfl, rfl⟩ _ _ ⟨rfl, rfl⟩ _ _ ⟨rfl, rfl⟩ _ _ ⟨b36, rfl, rfl⟩ _ _ ⟨rfl, rfl⟩ a_98 w_98 hs98; clear hs97
       have hs99 := Sx.as (T' := [_, _, _, _, _, _, _, _, _, _, _, _, _, _, _, _, _, _, _, _, _, _, _, _]) (B' := [_, _, _, _, _, _, _, _, _]) rfl rfl hs98; clear hs98
       refine sq rfl (st_store (l' := [.slice A4 m4 c4, .int .i64 (q.p + 1)]) (vs := [.slice A4 m4 c4, .int .i64 (q.p + 1)]) (i := 0) hs99 (Ev.t 9 rfl) (Ev.t 8 rfl) sizeOf95 rfl rfl rfl rfl rfl rfl fun _ _ hs100 => ?_); clear hs99
       have hs101 := hs100.asB [_, _, _, _, _, _, _, _, _] rfl; clear hs100
       refine hK35 _ _ ?_; clear hK35
       have hs102 := hs101.keep [9, 10, 12, 13, 14, 15, 16, 17, 18, 19, 20, 21, 22, 23] [_, _, _, _, _, _, _, _, _, _, _, _, _, _] rfl; clear hs101
       obtain ⟨z1, hz1⟩ : ∃ z, chooseN ⟨(b.burn x15.light).lo, (b.burn x15.light).hi⟩ (pickN bits q.p) = z := ⟨_, rfl⟩
       have hj1 : inS ⟨(b.burn x15.light).lo, (b.burn x15.light).hi⟩ z1 := by rw [← hz1]; exact choose_in (show (b.burn x15.light).lo ≤ (b.burn x15.light).hi by omega) _
       have hj1n := hj1
       simp only [inS] at hj1n
       have hs103 := Sx.keepE [0, 1, 2, 3, 4, 5, 6, 7, 8, 9, 10, 11, 12, 13] [(18, _), (17, .int .i64 z1), (16, _), (14, _), (13, _), (9, _), (8, _), (12, _), (11, _), (10, _), (7, _), (6, _), (3, _), (1, _)] ⟨⟨_, rfl, rfl⟩, ⟨_, rfl, (by rw [hz1])⟩, ⟨_, rfl, rfl⟩, ⟨_, rfl, rfl⟩, ⟨_, rfl, rfl⟩, ⟨_, rfl, rfl⟩, ⟨_, rfl, rfl⟩, ⟨_, rfl, rfl⟩, ⟨_, rfl, rfl⟩, ⟨_, rfl, rfl⟩, ⟨_, rfl, rfl⟩, ⟨_, rfl, rfl⟩, ⟨_, rfl, rfl⟩, ⟨_, rfl, rfl⟩, trivial⟩ hs102; clear hs102
       refine cd_drawn mixed hs103 [⟨107, [], Is (.int .i64 (kk : Int))⟩, ⟨108, [], Is (.pointer (some ⟨b2, 12, none⟩))⟩, ⟨109, [0, 1], Is (.pointer (some ⟨b2, 0 + (12 + kk * 2), none⟩))⟩, ⟨110, [2], Is (.agg ⟨[.int .i64 ((b.drink x15.light).lo), .int .i64 ((b.drink x15.light).hi)]⟩)⟩, ⟨111, [], Is (.agg ⟨[.slice A4 m4 c4, .int .i64 (q.p + 1)]⟩)⟩, ⟨112, [3, 4], Is (.tuple ⟨[.int .i64 (chooseN ⟨(b.drink x15.light).lo, (b.drink x15.light).hi⟩ (pickN bits (q.p + 1))), .agg ⟨[.slice A4 m4 c4, .int .i64 (q.p + 1 + 1)]⟩]⟩)⟩, ⟨106, [5], Is (.tuple ⟨[.int .i64 (chooseN ⟨(b.drink x15.light).lo, (b.drink x15.light).hi⟩ (pickN bits (q.p + 1))), .agg ⟨[.slice A4 m4 c4, .int .i64 (q.p + 1 + 1)]⟩]⟩)⟩, ⟨113, [6], Is (.int .i64 (chooseN ⟨(b.drink x15.light).lo, (b.drink x15.light).hi⟩ (pickN bits (q.p + 1))))⟩, ⟨114, [6], Is (.agg ⟨[.slice A4 m4 c4, .int .i64 (q.p + 1 + 1)]⟩)⟩, ⟨20, [], fun v_ bs_ => ∃ b38, v_ = .pointer (some ⟨b38, 0, none⟩) ∧ bs_ = [(b38, some (.cells ⟨[.slice none 0 0, .int .i64 0]⟩ 95 (0, 0)))]⟩, ⟨19, [7], Is (.int .i64 (chooseN ⟨(b.drink x15.light).lo, (b.drink x15.light).hi⟩ (pickN bits (q.p + 1))))⟩] (by kernel_rfl) (by kernel_rfl) fun K37 hK37 => ⟨⟨?_, ?_, ?_, ?_, ?_, ?_, ?_, ?_, ?_, ?_, ?_, trivial⟩, ?_⟩
       · rintro T_ B_ a_ w_ K_ hT hB hf hsD hk
         exact ob rfl rfl (st_move hsD (evT hT 4 rfl) rfl hf fun _ _ => hk _ _ _ _ ⟨rfl, rfl⟩)
       · rintro T_ B_ a_ w_ K_ hT hB hf hsD hk
         exact ob rfl rfl (st_field (o' := 12) hsD (evT hT 12 rfl) rfl hf runUnderlying27 rfl sizeOf24 rfl rfl fun _ _ => hk _ _ _ _ ⟨rfl, rfl⟩)
       · rintro T_ B_ a_ w_ K_ hT hB _ _ ⟨rfl, rfl⟩ h107 - _ _ ⟨rfl, rfl⟩ h108 - hf hsD hk
         exact ob rfl rfl (st_indexArr (o' := 0 + (12 + kk * 2)) hsD (Ev.tmp h108) (Ev.tmp h107) rfl hf runUnderlying24 sizeOf23 (by omega) (by omega) fun _ _ => hk _ _ _ _ ⟨rfl, rfl⟩)
       · rintro T_ B_ a_ w_ K_ hT hB _ _ ⟨rfl, rfl⟩ h109 - hf hsD hk
         exact ob rfl rfl (st_loadA (o := 0) (off := 12 + kk * 2) (vs := [.int .i64 ((b.drink x15.light).lo), .int .i64 ((b.drink x15.light).hi)]) hsD (Ev.tmp h109) rfl hf isAgg23 sizeOf23 (hsD.cellsM (inB hB 8 rfl)) hB12 fun _ _ => hk _ _ _ _ ⟨rfl, rfl⟩)
       · rintro T_ B_ a_ w_ K_ hT hB hf hsD hk
         exact ob rfl rfl (st_loadA (o := 0) (off := 0) (vs := [.slice A4 m4 c4, .int .i64 (q.p + 1)]) hsD (evT hT 0 rfl) rfl hf isAgg95 sizeOf95 (hsD.cellsM (inB hB 0 rfl)) rfl fun _ _ => hk _ _ _ _ ⟨rfl, rfl⟩)
       · rintro T_ B_ a_ w_ K_ hT hB _ _ ⟨rfl, rfl⟩ h110 - _ _ ⟨rfl, rfl⟩ h111 - hf hsD hk
         exact ob rfl rfl (st_callv (vs := [.agg ⟨[.int .i64 ((b.drink x15.light).lo), .int .i64 ((b.drink x15.light).hi)]⟩, .agg ⟨[.slice A4 m4 c4, .int .i64 (q.p + 1)]⟩]) hsD (.func _) ⟨(Ev.tmp h110), (Ev.tmp h111), trivial⟩ rfl hf call65 rfl (drawn_v ((b.drink x15.light).lo) ((b.drink x15.light).hi) A4 m4 c4 bits (q.p + 1) _ (by omega) (by omega) (hI.kp hsD.kp) (by omega) (by omega)) fun _ _ => hk _ _ _ _ ⟨rfl, rfl⟩)
       · rintro T_ B_ a_ w_ K_ hT hB _ _ ⟨rfl, rfl⟩ h112 - hf hsD hk
         exact ob rfl rfl (st_move hsD (Ev.tmp h112) rfl hf fun _ _ => hk _ _ _ _ ⟨rfl, rfl⟩)
       · rintro T_ B_ a_ w_ K_ hT hB _ _ ⟨rfl, rfl⟩ h106 - hf hsD hk
         exact ob rfl rfl (st_extract hsD (Ev.tmp h106) rfl hf rfl fun _ _ => hk _ _ _ _ ⟨rfl, rfl⟩)
       · rintro T_ B_ a_ w_ K_ hT hB _ _ ⟨rfl, rfl⟩ h106 - hf hsD hk
         exact ob rfl rfl (st_extract hsD (Ev.tmp h106) rfl hf rfl fun _ _ => hk _ _ _ _ ⟨rfl, rfl⟩)
       · rintro T_ B_ a_ w_ K_ hT hB hf hsD hk
         exact ob rfl rfl (st_alloc hsD rfl hf zeroValue95 rfl fun b38 _ _ => hk _ _ _ _ ⟨b38, rfl, rfl⟩)
       · rintro T_ B_ a_ w_ K_ hT hB _ _ ⟨rfl, rfl⟩ h113 - hf hsD hk
         exact ob rfl rfl (st_assign hsD (Ev.tmp h113) rfl hf fun _ _ => hk _ _ _ _ ⟨rfl, rfl⟩)
       rintro _ _ ⟨rfl, rfl⟩ _ _ ⟨rfl, rfl⟩ _ _ ⟨rfl, rfl⟩ _ _ ⟨rfl, rfl⟩ _ _ ⟨rfl, rfl⟩ _ _ ⟨rfl, rfl⟩ _ _ ⟨rfl, rfl⟩ _ _ ⟨rfl, rfl⟩ _ _ ⟨rfl, rfl⟩ _ _ ⟨b38, rfl, rfl⟩ _ _ ⟨rfl, rfl⟩ a_104 w_104 hs104; clear hs103
       have hs105 := Sx.as (T' := [_, _, _, _, _, _, _, _, _, _, _, _, _, _, _, _, _, _, _, _, _, _, _, _, _]) (B' := [_, _, _, _, _, _, _, _, _, _]) rfl rfl hs104; clear hs104
       refine sq rfl (st_store (l' := [.slice A4 m4 c4, .int .i64 (q.p + 1 + 1)]) (vs := [.slice A4 m4 c4, .int .i64 (q.p + 1 + 1)]) (i := 0) hs105 (Ev.t 9 rfl) (Ev.t 8 rfl) sizeOf95 rfl rfl rfl rfl rfl rfl fun _ _ hs106 => ?_); clear hs105
       have hs107 := hs106.asB [_, _, _, _, _, _, _, _, _, _] rfl; clear hs106
       refine hK37 _ _ ?_; clear hK37
       have hs108 := hs107.keep [9, 10, 12, 13, 14, 15, 16, 17, 18, 19, 20, 21, 22, 23, 24] [_, _, _, _, _, _, _, _, _, _, _, _, _, _, _] rfl; clear hs107
       obtain ⟨z2, hz2⟩ : ∃ z, chooseN ⟨(b.drink x15.light).lo, (b.drink x15.light).hi⟩ (pickN bits (q.p + 1)) = z := ⟨_, rfl⟩
       have hj2 : inS ⟨(b.drink x15.light).lo, (b.drink x15.light).hi⟩ z2 := by rw [← hz2]; exact choose_in (show (b.drink x15.light).lo ≤ (b.drink x15.light).hi by omega) _
       have hj2n := hj2
       simp only [inS] at hj2n
       have hs109 := Sx.keepE [0, 1, 2, 3, 4, 5, 6, 7, 8, 9, 10, 11, 12, 13, 14] [(20, _), (19, .int .i64 z2), (17, _), (16, _), (14, _), (13, _), (9, _), (8, _), (12, _), (11, _), (10, _), (7, _), (6, _), (3, _), (1, _)] ⟨⟨_, rfl, rfl⟩, ⟨_, rfl, (by rw [hz2])⟩, ⟨_, rfl, rfl⟩, ⟨_, rfl, rfl⟩, ⟨_, rfl, rfl⟩, ⟨_, rfl, rfl⟩, ⟨_, rfl, rfl⟩, ⟨_, rfl, rfl⟩, ⟨_, rfl, rfl⟩, ⟨_, rfl, rfl⟩, ⟨_, rfl, rfl⟩, ⟨_, rfl, rfl⟩, ⟨_, rfl, rfl⟩, ⟨_, rfl, rfl⟩, ⟨_, rfl, rfl⟩, trivial⟩ hs108; clear hs108
       refine cd_region fun K39 hK39 => ?_
       refine sq rfl (st_loadA (o := 0) (off := 0) (vs := [.slice A4 m4 c4, .int .i64 (q.p + 1 + 1)]) hs109 (Ev.t 0 rfl) rfl rfl isAgg95 sizeOf95 (hs109.cells 0 rfl) rfl fun _ _ hs110 => ?_); clear hs109
       refine sq rfl (st_store (l' := [.slice A4 m4 c4, .int .i64 (q.p + 1 + 1)]) (vs := [.slice A4 m4 c4, .int .i64 (q.p + 1 + 1)]) (i := 7) hs110 (Ev.t 12 rfl) (Ev.t 0 rfl) sizeOf95 rfl rfl rfl rfl rfl rfl fun _ _ hs111 => ?_); clear hs110
       have hs112 := hs111.asB [_, _, _, _, _, _, _, _, _, _] rfl; clear hs111
       refine hK39 _ _ ?_; clear hK39
       have hs113 := hs112.keep [2, 3, 4, 5, 6, 7, 8, 9, 10, 11, 12, 13, 14, 15] [_, _, _, _, _, _, _, _, _, _, _, _, _, _] rfl; clear hs112
       refine cd_seq fun K40 hK40 => ?_
       refine cd_region fun K41 hK41 => ?_
       refine sq rfl (st_move hs113 (Ev.t 1 rfl) rfl rfl fun _ _ hs114 => ?_); clear hs113
       refine sq rfl (st_move hs114 (Ev.t 7 rfl) rfl rfl fun _ _ hs115 => ?_); clear hs114
       refine sq rfl (st_cmp (c := decide ((z1 : Int) > q.c)) hs115 (Ev.t 1 rfl) (Ev.t 0 rfl) rfl rfl rfl rfl fun _ _ hs116 => ?_); clear hs115
       refine sq rfl (st_move hs116 (Ev.t 0 rfl) rfl rfl fun _ _ hs117 => ?_); clear hs116
       refine sq_gv hs117 (gg := !(decide ((z1 : Int) > q.c))) (v := .int .i64 z2) rfl rfl 0 rfl (ison_f _) rfl rfl rfl (fun hg42 K43 hK43 => st_move hs117 (Ev.t 4 rfl) rfl rfl hK43) fun _ _ hs118 => ?_; clear hs117
       refine sq_gv hs118 (gg := !(decide ((z1 : Int) > q.c))) (v := .int .i64 q.v) rfl rfl 1 rfl (ison_f _) rfl rfl rfl (fun hg44 K45 hK45 => st_move hs118 (Ev.t 10 rfl) rfl rfl hK45) fun _ _ hs119 => ?_; clear hs118
       refine sq_gv hs119 (gg := !(decide ((z1 : Int) > q.c))) (v := .bool (decide ((z2 : Int) > q.v))) rfl rfl 2 rfl (ison_f _) rfl rfl rfl (fun hg46 K47 hK47 => st_cmp (c := decide ((z2 : Int) > q.v)) hs119 ((Ev.t 1 rfl).un hg46) ((Ev.t 0 rfl).un hg46) rfl rfl rfl rfl hK47) fun _ _ hs120 => ?_; clear hs119
       refine sq rfl (st_or hs120 (gx := true) (gy := !(decide ((z1 : Int) > q.c))) (Ev.t 3 rfl) rfl (Ev.t 0 rfl) (fun h => (by first | exact absurd h (by decide) | (rw [h]; rfl))) rfl rfl fun _ _ hs121 => ?_); clear hs120
       refine hK41 _ _ ?_; clear hK41
       have hs122 := hs121.keep [0, 8, 9, 10, 11, 12, 13, 14, 15, 16, 17, 18, 19, 20, 21] [_, _, _, _, _, _, _, _, _, _, _, _, _, _, _] rfl; clear hs121
       refine cd_cond hs122 (Ev.t 0 rfl) (fun hc48 => ?_) (fun hc48 => ?_)
       · have hst : q.c < z1 ∨ q.v < z2 := by simp at hc48; omega
         refine cd_region fun K49 hK49 => ?_
         refine sq rfl (st_field (o' := 2) hs122 (Ev.t 10 rfl) rfl rfl runUnderlying50 rfl sizeOf3 rfl rfl fun _ _ hs123 => ?_); clear hs122
         refine sq rfl (st_load1 (o := 0) (off := 2) (v := .int .i64 q.fl) hs123 (Ev.t 0 rfl) rfl rfl isAgg3 (hs123.cells 4 rfl) rfl fun _ _ hs124 => ?_); clear hs123
         refine sq rfl (st_move hs124 (Ev.t 11 rfl) rfl rfl fun _ _ hs125 => ?_); clear hs124
         refine sq rfl (st_min hs125 (Ev.t 1 rfl) (Ev.t 0 rfl) rfl rfl fun _ _ hs126 => ?_); clear hs125
         refine sq rfl (st_field (o' := 2) hs126 (Ev.t 14 rfl) rfl rfl runUnderlying50 rfl sizeOf3 rfl rfl fun _ _ hs127 => ?_); clear hs126
         refine sq rfl (st_store (l' := [.slice g.A1 g.cs.length g.c1, .slice g.A2 g.ws.length g.c2, .int .i64 (min q.fl (g.k : Int))]) (vs := [.int .i64 (min q.fl (g.k : Int))]) (i := 4) hs127 (Ev.t 0 rfl) (Ev.t 1 rfl) sizeOf3 rfl rfl rfl rfl rfl rfl fun _ _ hs128 => ?_); clear hs127
         have hs129 := hs128.asB [_, _, _, _, _, _, _, _, _, _] rfl; clear hs128
         refine hK49 _ _ ?_; clear hK49
         have hs130 := hs129.keep [15, 17] [_, _] rfl; clear hs129
         refine cd_region fun K50 hK50 => ?_
         refine sq rfl (st_loadA (o := 0) (off := 0) (vs := [.slice g.A1 g.cs.length g.c1, .slice g.A2 g.ws.length g.c2, .int .i64 (min q.fl (g.k : Int))]) hs130 (Ev.t 0 rfl) rfl rfl isAgg50 sizeOf50 (hs130.cells 4 rfl) rfl fun _ _ hs131 => ?_); clear hs130
         refine sq rfl (st_store (l' := [.slice g.A1 g.cs.length g.c1, .slice g.A2 g.ws.length g.c2, .int .i64 (min q.fl (g.k : Int))]) (vs := [.slice g.A1 g.cs.length g.c1, .slice g.A2 g.ws.length g.c2, .int .i64 (min q.fl (g.k : Int))]) (i := 8) hs131 (Ev.t 2 rfl) (Ev.t 0 rfl) sizeOf50 rfl rfl rfl rfl rfl rfl fun _ _ hs132 => ?_); clear hs131
         have hs133 := hs132.asB [_, _, _, _, _, _, _, _, _, _] rfl; clear hs132
         refine hK50 _ _ ?_; clear hK50
         have hs134 := hs133.keep [2] [_] rfl; clear hs133
         exact cd_ret (vs := [.agg ⟨[.slice g.A1 g.cs.length g.c1, .slice g.A2 g.ws.length g.c2, .int .i64 (min q.fl (g.k : Int))]⟩]) (bs := [(g.b1, g.o1), (g.b2, g.o2)]) hs134 (fun a_ w_ h => th_ret (in_ret (th_ret (th_ret (in_ret (th_ret (in_ret (th_ret (th_ret (in_ret (th_ret (hQ0 a_ w_ h)))))))))))) rfl ⟨resA (o := 0) (off := 0) (vs := [.slice g.A1 g.cs.length g.c1, .slice g.A2 g.ws.length g.c2, .int .i64 (min q.fl (g.k : Int))]) 0 rfl isAgg50 sizeOf50 (hs134.cells 8 rfl) rfl, trivial⟩ (.cons _ (.cons _ (.cons _ (.cons _ (.cons _ (.cons_cons _ (.cons_cons _ (List.nil_sublist _)))))))) ⟨g.cs, g.ws, _, g.A1, g.c1, g.b1, g.o1, g.A2, g.c2, g.b2, g.o2, rfl, ho1, ho2, rfl, .inr ⟨g.k, g.c, g.v, g.fl, x15, x17, m5, q.k, q.c, q.v, q.dk, z1, z2, hHP, hx15, hx17, him5, hqm, by rw [hc0, hv0]; exact hM, hj1, hj2, hst, by rw [hqf]⟩⟩
       · have hst : z1 ≤ q.c ∧ z2 ≤ q.v := by simp at hc48; omega
         refine cd_skip ?_
         refine th_norm (hK40 _ _ ?_)
         refine cd_region fun K51 hK51 => ?_
         refine sq rfl (st_move hs122 (Ev.t 7 rfl) rfl rfl fun _ _ hs123 => ?_); clear hs122
         refine sq rfl (st_move hs123 (Ev.t 3 rfl) rfl rfl fun _ _ hs124 => ?_); clear hs123
         refine sq rfl (st_sub (z := q.c - z1) hs124 (Ev.t 1 rfl) (Ev.t 0 rfl) rfl rfl rfl (by omega) fun _ _ hs125 => ?_); clear hs124
         refine sq rfl (st_move hs125 (Ev.t 9 rfl) rfl rfl fun _ _ hs126 => ?_); clear hs125
         refine sq rfl (st_move hs126 (Ev.t 5 rfl) rfl rfl fun _ _ hs127 => ?_); clear hs126
         refine sq rfl (st_sub (z := q.v - z2) hs127 (Ev.t 1 rfl) (Ev.t 0 rfl) rfl rfl rfl (by omega) fun _ _ hs128 => ?_); clear hs127
         have hs129 := hs128.keep [0, 1, 2, 3, 4, 5, 6, 7, 8, 9, 10, 11, 12, 14, 15, 16, 17, 18, 19, 20] [_, _, _, _, _, _, _, _, _, _, _, _, _, _, _, _, _, _, _, _] rfl; clear hs128
         refine sq rfl (st_assign hs129 (Ev.t 3 rfl) rfl rfl fun _ _ hs130 => ?_); clear hs129
         have hs131 := hs130.keep [0, 1, 2, 3, 4, 5, 6, 7, 8, 9, 10, 11, 12, 14, 15, 16, 17, 18, 19, 20] [_, _, _, _, _, _, _, _, _, _, _, _, _, _, _, _, _, _, _, _] rfl; clear hs130
         refine sq rfl (st_assign hs131 (Ev.t 1 rfl) rfl rfl fun _ _ hs132 => ?_); clear hs131
         refine hK51 _ _ ?_; clear hK51
         have hs133 := hs132.keep [0, 1, 11, 12, 13, 14, 15, 16, 17, 18, 19, 20] [_, _, _, _, _, _, _, _, _, _, _, _] rfl; clear hs132
         refine cd_region fun K52 hK52 => ?_
         refine sq rfl (st_field (o' := 16) hs133 (Ev.t 10 rfl) rfl rfl runUnderlying27 rfl sizeOf23 rfl rfl fun _ _ hs134 => ?_); clear hs133
         refine sq rfl (st_loadA (o := 0) (off := 16) (vs := [.int .i64 b.full.lo, .int .i64 b.full.hi]) hs134 (Ev.t 0 rfl) rfl rfl isAgg23 sizeOf23 (hs134.cells 9 rfl) rfl fun _ _ hs135 => ?_); clear hs134
         refine sq rfl (st_alloc hs135 rfl rfl zeroValue23 rfl fun b53 _ _ hs136 => ?_); clear hs135
         refine sq rfl (st_store (l' := [.int .i64 b.full.lo, .int .i64 b.full.hi]) (vs := [.int .i64 b.full.lo, .int .i64 b.full.hi]) (i := 0) hs136 (Ev.t 0 rfl) (Ev.t 1 rfl) sizeOf23 rfl rfl rfl rfl rfl rfl fun _ _ hs137 => ?_); clear hs136
         have hs138 := hs137.asB [_, _, _, _, _, _, _, _, _, _, _] rfl; clear hs137
         refine hK52 _ _ ?_; clear hK52
         have hs139 := hs138.keep [0, 3, 4, 5, 6, 7, 8, 9, 10, 11, 12, 13, 14] [_, _, _, _, _, _, _, _, _, _, _, _, _] rfl; clear hs138
         refine cd_cut (fun a_ w_ => ∃ (lo3 hi3 : Int), ((⟨lo3, hi3⟩ : Span) = if q.v - z2 < b.mark then b.weak else b.full) ∧ (lo3 ≤ hi3 ∧ 0 ≤ lo3 ∧ hi3 ≤ 60) ∧ Sx 177 [] [(21, .pointer (some ⟨b53, 0, none⟩)), (9, .int .i64 (q.v - z2)), (8, .int .i64 (q.c - z1)), (16, .int .i64 (q.k : Int)), (14, .int .i64 (m5 : Int)), (13, .int .i64 (kk : Int)), (12, .pointer (some ⟨b21, 0, none⟩)), (11, .int .i64 (g.k : Int)), (10, .pointer (some ⟨b9, 0, none⟩)), (7, .pointer (some ⟨b5, 0, none⟩)), (6, .pointer (some ⟨b3, 0, none⟩)), (3, .pointer (some ⟨b2, 0, none⟩)), (1, .slice A2 m c2)] [(b53, some (.cells ⟨[.int .i64 lo3, .int .i64 hi3]⟩ 23 (0, 0))), (b38, some (.cells ⟨[.slice A4 m4 c4, .int .i64 (q.p + 1 + 1)]⟩ 95 (0, 0))), (b36, some (.cells ⟨[.slice A4 m4 c4, .int .i64 (q.p + 1)]⟩ 95 (0, 0))), (b27, some (.cells ⟨[.slice A4 m4 c4, .int .i64 (g.p + 1)]⟩ 95 (0, 0))), (b21, some (.cells ⟨(partL x15)⟩ 66 (0, 0))), (b9, some (.cells ⟨[.slice g.A1 g.cs.length g.c1, .slice g.A2 g.ws.length g.c2, .int .i64 q.fl]⟩ 50 (0, 0))), (g.b1, g.o1), (g.b2, g.o2), (b5, some (.cells ⟨[.slice A4 m4 c4, .int .i64 (q.p + 1 + 1)]⟩ 95 (0, 0))), (b3, some (.cells ⟨[.slice none 0 0, .slice none 0 0, .int .i64 0]⟩ 50 (0, 0))), (b2, some (.cells ⟨(bookL b A n cp)⟩ 27 (0, 0)))] [] w a_ w_) ?_ ?_
         · skip
           refine cd_region fun K54 hK54 => ?_
           refine sq rfl (st_move hs139 (Ev.t 1 rfl) rfl rfl fun _ _ hs140 => ?_); clear hs139
           refine sq rfl (st_field (o' := 20) hs140 (Ev.t 12 rfl) rfl rfl runUnderlying27 rfl sizeOf3 rfl rfl fun _ _ hs141 => ?_); clear hs140
           refine sq rfl (st_load1 (o := 0) (off := 20) (v := .int .i64 b.mark) hs141 (Ev.t 0 rfl) rfl rfl isAgg3 (hs141.cells 10 rfl) rfl fun _ _ hs142 => ?_); clear hs141
           refine sq rfl (st_cmp (c := decide ((q.v - z2 : Int) < b.mark)) hs142 (Ev.t 2 rfl) (Ev.t 0 rfl) rfl rfl rfl rfl fun _ _ hs143 => ?_); clear hs142
           refine hK54 _ _ ?_; clear hK54
           have hs144 := hs143.keep [0, 4, 5, 6, 7, 8, 9, 10, 11, 12, 13, 14, 15, 16] [_, _, _, _, _, _, _, _, _, _, _, _, _, _] rfl; clear hs143
           refine cd_cond hs144 (Ev.t 0 rfl) (fun hc55 => ?_) (fun hc55 => ?_)
           · have hmk : (q.v - z2 < b.mark) := by simpa using hc55
             refine cd_region1 ?_
             refine sq rfl (st_field (o' := 18) hs144 (Ev.t 12 rfl) rfl rfl runUnderlying27 rfl sizeOf23 rfl rfl fun _ _ hs145 => ?_); clear hs144
             refine sq rfl (st_loadA (o := 0) (off := 18) (vs := [.int .i64 b.weak.lo, .int .i64 b.weak.hi]) hs145 (Ev.t 0 rfl) rfl rfl isAgg23 sizeOf23 (hs145.cells 10 rfl) rfl fun _ _ hs146 => ?_); clear hs145
             refine sq rfl (st_store (l' := [.int .i64 b.weak.lo, .int .i64 b.weak.hi]) (vs := [.int .i64 b.weak.lo, .int .i64 b.weak.hi]) (i := 0) hs146 (Ev.t 3 rfl) (Ev.t 0 rfl) sizeOf23 rfl rfl rfl rfl rfl rfl fun _ _ hs147 => ?_); clear hs146
             have hs148 := hs147.asB [_, _, _, _, _, _, _, _, _, _, _] rfl; clear hs147
             refine wpListIn_nil ?_
             have hs149 := hs148.keep [3, 4, 5, 6, 7, 8, 9, 10, 11, 12, 13, 14, 15] [_, _, _, _, _, _, _, _, _, _, _, _, _] rfl; clear hs148
             refine th_norm ?_
             refine ⟨b.weak.lo, b.weak.hi, ?_, ?_, ?_⟩
             · rw [if_pos hmk]
             · omega
             exact Sx.keepE [0, 1, 2, 3, 4, 5, 6, 7, 8, 9, 10, 11, 12] _ ⟨⟨_, rfl, rfl⟩, ⟨_, rfl, rfl⟩, ⟨_, rfl, rfl⟩, ⟨_, rfl, rfl⟩, ⟨_, rfl, rfl⟩, ⟨_, rfl, rfl⟩, ⟨_, rfl, rfl⟩, ⟨_, rfl, rfl⟩, ⟨_, rfl, rfl⟩, ⟨_, rfl, rfl⟩, ⟨_, rfl, rfl⟩, ⟨_, rfl, rfl⟩, ⟨_, rfl, rfl⟩, trivial⟩ hs149
           · have hmk : ¬ (q.v - z2 < b.mark) := by simpa using hc55
             refine cd_skip ?_
             refine th_norm ?_
             refine ⟨b.full.lo, b.full.hi, ?_, ?_, ?_⟩
             · rw [if_neg hmk]
             · omega
             exact Sx.keepE [1, 2, 3, 4, 5, 6, 7, 8, 9, 10, 11, 12, 13] _ ⟨⟨_, rfl, rfl⟩, ⟨_, rfl, rfl⟩, ⟨_, rfl, rfl⟩, ⟨_, rfl, rfl⟩, ⟨_, rfl, rfl⟩, ⟨_, rfl, rfl⟩, ⟨_, rfl, rfl⟩, ⟨_, rfl, rfl⟩, ⟨_, rfl, rfl⟩, ⟨_, rfl, rfl⟩, ⟨_, rfl, rfl⟩, ⟨_, rfl, rfl⟩, ⟨_, rfl, rfl⟩, trivial⟩ hs144
         · intro a_140 w_140 ⟨lo3, hi3, hS3, hs3, hs140⟩
           clear hs139
           refine cd_region fun K56 hK56 => ?_
           refine sq rfl (st_loadA (o := 0) (off := 0) (vs := [.int .i64 lo3, .int .i64 hi3]) hs140 (Ev.t 0 rfl) rfl rfl isAgg23 sizeOf23 (hs140.cells 0 rfl) rfl fun _ _ hs141 => ?_); clear hs140
           refine sq rfl (st_loadA (o := 0) (off := 0) (vs := [.slice A4 m4 c4, .int .i64 (q.p + 1 + 1)]) hs141 (Ev.t 10 rfl) rfl rfl isAgg95 sizeOf95 (hs141.cells 8 rfl) rfl fun _ _ hs142 => ?_); clear hs141
           refine sq rfl (st_callv (vs := [.agg ⟨[.int .i64 lo3, .int .i64 hi3]⟩, .agg ⟨[.slice A4 m4 c4, .int .i64 (q.p + 1 + 1)]⟩]) hs142 (.func _) ⟨(Ev.t 1 rfl), (Ev.t 0 rfl), trivial⟩ rfl rfl call65 rfl (drawn_v lo3 hi3 A4 m4 c4 bits (q.p + 1 + 1) _ (by omega) (by omega) (hI.kp hs142.kp) (by omega) (by omega)) fun _ _ hs143 => ?_); clear hs142
           refine sq rfl (st_move hs143 (Ev.t 0 rfl) rfl rfl fun _ _ hs144 => ?_); clear hs143
           refine sq rfl (st_extract hs144 (Ev.t 0 rfl) rfl rfl rfl fun _ _ hs145 => ?_); clear hs144
           refine sq rfl (st_extract hs145 (Ev.t 1 rfl) rfl rfl rfl fun _ _ hs146 => ?_); clear hs145
           refine sq rfl (st_alloc hs146 rfl rfl zeroValue95 rfl fun b57 _ _ hs147 => ?_); clear hs146
           refine sq rfl (st_assign hs147 (Ev.t 2 rfl) rfl rfl fun _ _ hs148 => ?_); clear hs147
           refine sq rfl (st_store (l' := [.slice A4 m4 c4, .int .i64 (q.p + 1 + 1 + 1)]) (vs := [.slice A4 m4 c4, .int .i64 (q.p + 1 + 1 + 1)]) (i := 0) hs148 (Ev.t 1 rfl) (Ev.t 2 rfl) sizeOf95 rfl rfl rfl rfl rfl rfl fun _ _ hs149 => ?_); clear hs148
           have hs150 := hs149.asB [_, _, _, _, _, _, _, _, _, _, _, _] rfl; clear hs149
           refine hK56 _ _ ?_; clear hK56
           have hs151 := hs150.keep [0, 1, 9, 10, 11, 12, 13, 14, 15, 16, 17, 18, 19, 20] [_, _, _, _, _, _, _, _, _, _, _, _, _, _] rfl; clear hs150
           obtain ⟨z3, hz3⟩ : ∃ z, chooseN ⟨lo3, hi3⟩ (pickN bits (q.p + 1 + 1)) = z := ⟨_, rfl⟩
           have hi3 : inS ⟨lo3, hi3⟩ z3 := by rw [← hz3]; exact choose_in (show lo3 ≤ hi3 by omega) _
           have hi3n := hi3
           simp only [inS] at hi3n
           have hs152 := Sx.keepE [0, 1, 2, 3, 4, 5, 6, 7, 8, 9, 10, 11, 12, 13] [(22, .int .i64 z3), (23, _), (9, _), (8, _), (16, _), (14, _), (13, _), (12, _), (11, _), (10, _), (7, _), (6, _), (3, _), (1, _)] ⟨⟨_, rfl, (by rw [hz3])⟩, ⟨_, rfl, rfl⟩, ⟨_, rfl, rfl⟩, ⟨_, rfl, rfl⟩, ⟨_, rfl, rfl⟩, ⟨_, rfl, rfl⟩, ⟨_, rfl, rfl⟩, ⟨_, rfl, rfl⟩, ⟨_, rfl, rfl⟩, ⟨_, rfl, rfl⟩, ⟨_, rfl, rfl⟩, ⟨_, rfl, rfl⟩, ⟨_, rfl, rfl⟩, ⟨_, rfl, rfl⟩, trivial⟩ hs151; clear hs151
           have hj3 : inS (if q.v - z2 < b.mark then b.weak else b.full) z3 := by rw [← hS3]; exact hi3
           refine cd_region fun K58 hK58 => ?_
           refine sq rfl (st_loadA (o := 0) (off := 0) (vs := [.slice A4 m4 c4, .int .i64 (q.p + 1 + 1 + 1)]) hs152 (Ev.t 1 rfl) rfl rfl isAgg95 sizeOf95 (hs152.cells 0 rfl) rfl fun _ _ hs153 => ?_); clear hs152
           refine sq rfl (st_store (l' := [.slice A4 m4 c4, .int .i64 (q.p + 1 + 1 + 1)]) (vs := [.slice A4 m4 c4, .int .i64 (q.p + 1 + 1 + 1)]) (i := 9) hs153 (Ev.t 11 rfl) (Ev.t 0 rfl) sizeOf95 rfl rfl rfl rfl rfl rfl fun _ _ hs154 => ?_); clear hs153
           have hs155 := hs154.asB [_, _, _, _, _, _, _, _, _, _, _, _] rfl; clear hs154
           refine hK58 _ _ ?_; clear hK58
           have hs156 := hs155.keep [1, 3, 4, 5, 6, 7, 8, 9, 10, 11, 12, 13, 14] [_, _, _, _, _, _, _, _, _, _, _, _, _] rfl; clear hs155
           refine cd_region fun K59 hK59 => ?_
           refine sq rfl (st_field (o' := 2) hs156 (Ev.t 6 rfl) rfl rfl runUnderlying66 rfl sizeOf4 rfl rfl fun _ _ hs157 => ?_); clear hs156
           refine sq rfl (st_load1 (o := 0) (off := 2) (v := .bool x15.light) hs157 (Ev.t 0 rfl) rfl rfl isAgg4 (hs157.cells 5 rfl) rfl fun _ _ hs158 => ?_); clear hs157
           refine sq rfl (st_move hs158 (Ev.t 0 rfl) rfl rfl fun _ _ hs159 => ?_); clear hs158
           refine sq_gv hs159 (gg := x15.light) (v := .int .i64 z3) rfl rfl 0 rfl (ison_t _) rfl rfl rfl (fun hg60 K61 hK61 => st_move hs159 (Ev.t 3 rfl) rfl rfl hK61) fun _ _ hs160 => ?_; clear hs159
           refine sq_gv hs160 (gg := x15.light) (v := .pointer (some ⟨b2, 21, none⟩)) rfl rfl 1 rfl (ison_t _) rfl rfl rfl (fun hg62 K63 hK63 => st_field (o' := 21) hs160 (Ev.t 15 rfl) rfl rfl runUnderlying27 rfl sizeOf3 rfl rfl hK63) fun _ _ hs161 => ?_; clear hs160
           refine sq_gv hs161 (gg := x15.light) (v := .int .i64 b.lamp) rfl rfl 2 rfl (ison_t _) rfl rfl rfl (fun hg64 K65 hK65 => st_load1 (o := 0) (off := 21) (v := .int .i64 b.lamp) hs161 ((Ev.t 0 rfl).un hg64) rfl rfl isAgg3 (hs161.cells 11 rfl) rfl hK65) fun _ _ hs162 => ?_; clear hs161
           refine sq_gv hs162 (gg := x15.light) (v := .bool (decide ((z3 : Int) < b.lamp))) rfl rfl 3 rfl (ison_t _) rfl rfl rfl (fun hg66 K67 hK67 => st_cmp (c := decide ((z3 : Int) < b.lamp)) hs162 ((Ev.t 2 rfl).un hg66) ((Ev.t 0 rfl).un hg66) rfl rfl rfl rfl hK67) fun _ _ hs163 => ?_; clear hs162
           refine sq rfl (st_and hs163 (gx := true) (gy := x15.light) (Ev.t 4 rfl) rfl (Ev.t 0 rfl) (fun h => h) rfl rfl fun _ _ hs164 => ?_); clear hs163
           refine hK59 _ _ ?_; clear hK59
           have hs165 := hs164.keep [0, 9, 10, 11, 12, 13, 14, 15, 16, 17, 18, 19, 20] [_, _, _, _, _, _, _, _, _, _, _, _, _] rfl; clear hs164
           refine cd_cond hs165 (Ev.t 0 rfl) (fun hc68 => ?_) (fun hc68 => ?_)
           · have hff : min q.fl (g.k : Int) = if (q.dk || (x15.light && decide (z3 < b.lamp))) = true then min g.fl (g.k : Int) else g.fl := by
               rw [hqf, show (x15.light && decide (z3 < b.lamp)) = true from hc68]
               cases q.dk <;> simp <;> omega
             refine cd_region1 ?_
             refine sq rfl (st_field (o' := 2) hs165 (Ev.t 8 rfl) rfl rfl runUnderlying50 rfl sizeOf3 rfl rfl fun _ _ hs166 => ?_); clear hs165
             refine sq rfl (st_load1 (o := 0) (off := 2) (v := .int .i64 q.fl) hs166 (Ev.t 0 rfl) rfl rfl isAgg3 (hs166.cells 6 rfl) rfl fun _ _ hs167 => ?_); clear hs166
             refine sq rfl (st_move hs167 (Ev.t 9 rfl) rfl rfl fun _ _ hs168 => ?_); clear hs167
             refine sq rfl (st_min hs168 (Ev.t 1 rfl) (Ev.t 0 rfl) rfl rfl fun _ _ hs169 => ?_); clear hs168
             refine sq rfl (st_field (o' := 2) hs169 (Ev.t 12 rfl) rfl rfl runUnderlying50 rfl sizeOf3 rfl rfl fun _ _ hs170 => ?_); clear hs169
             refine sq rfl (st_store (l' := [.slice g.A1 g.cs.length g.c1, .slice g.A2 g.ws.length g.c2, .int .i64 (min q.fl (g.k : Int))]) (vs := [.int .i64 (min q.fl (g.k : Int))]) (i := 6) hs170 (Ev.t 0 rfl) (Ev.t 1 rfl) sizeOf3 rfl rfl rfl rfl rfl rfl fun _ _ hs171 => ?_); clear hs170
             have hs172 := hs171.asB [_, _, _, _, _, _, _, _, _, _, _, _] rfl; clear hs171
             refine wpListIn_nil ?_
             have hs173 := hs172.keep [6, 7, 8, 9, 10, 11, 12, 13, 14, 15, 16, 17] [_, _, _, _, _, _, _, _, _, _, _, _] rfl; clear hs172
             refine in_norm ?_
             refine th_norm (hK34 _ _ ?_)
             refine cd_region1 ?_
             refine sq rfl (st_move hs173 (Ev.t 2 rfl) rfl rfl fun _ _ hs174 => ?_); clear hs173
             refine sq rfl (st_add (z := (q.k : Int) + 1) hs174 (Ev.t 0 rfl) (.const _) rfl rfl rfl (by omega) fun _ _ hs175 => ?_); clear hs174
             have hs176 := hs175.keep [0, 1, 2, 3, 5, 6, 7, 8, 9, 10, 11, 12, 13] [_, _, _, _, _, _, _, _, _, _, _, _, _] rfl; clear hs175
             refine sq rfl (st_assign hs176 (Ev.t 0 rfl) rfl rfl fun _ _ hs177 => ?_); clear hs176
             refine wpListIn_nil ?_
             have hs178 := hs177.keep [0, 3, 4, 5, 6, 7, 8, 9, 10, 11, 12, 13] [_, _, _, _, _, _, _, _, _, _, _, _] rfl; clear hs177
             refine ⟨(MinG.mk (q.k + 1) (q.c - z1) (q.v - z2) (min q.fl (g.k : Int)) (q.p + 1 + 1 + 1) (q.dk || (x15.light && decide (z3 < b.lamp)))), ⟨?_, ?_, ?_, ?_, ?_, ?_⟩, by (show m5 - (q.k + 1) < m5 - q.k; omega)⟩
             · exact ⟨q.c, q.v, q.dk, z1, z2, z3, hM, hj1, hj2, hst.1, hst.2, rfl, rfl, hj3, rfl⟩
             · exact hqm
             · show 0 ≤ q.c - z1 ∧ q.c - z1 ≤ 99 ∧ 0 ≤ q.v - z2 ∧ q.v - z2 ≤ 99
               omega
             · exact hff
             · show 0 ≤ q.p + 1 + 1 + 1 ∧ q.p + 1 + 1 + 1 ≤ g.p + 1 + 3 * ((q.k + 1 : Nat) : Int)
               omega
             have hs179 : Sx 177 [] [(16, .int .i64 ((q.k : Int) + 1)), (9, .int .i64 (q.v - z2)), (8, .int .i64 (q.c - z1)), (14, .int .i64 (m5 : Int)), (13, .int .i64 (kk : Int)), (12, .pointer (some ⟨b21, 0, none⟩)), (11, .int .i64 (g.k : Int)), (10, .pointer (some ⟨b9, 0, none⟩)), (7, .pointer (some ⟨b5, 0, none⟩)), (6, .pointer (some ⟨b3, 0, none⟩)), (3, .pointer (some ⟨b2, 0, none⟩)), (1, .slice A2 m c2)] [(b27, some (.cells ⟨[.slice A4 m4 c4, .int .i64 (g.p + 1)]⟩ 95 (0, 0))), (b21, some (.cells ⟨(partL x15)⟩ 66 (0, 0))), (b9, some (.cells ⟨[.slice g.A1 g.cs.length g.c1, .slice g.A2 g.ws.length g.c2, .int .i64 (min q.fl (g.k : Int))]⟩ 50 (0, 0))), (g.b1, g.o1), (g.b2, g.o2), (b5, some (.cells ⟨[.slice A4 m4 c4, .int .i64 (q.p + 1 + 1 + 1)]⟩ 95 (0, 0))), (b3, some (.cells ⟨[.slice none 0 0, .slice none 0 0, .int .i64 0]⟩ 50 (0, 0))), (b2, some (.cells ⟨(bookL b A n cp)⟩ 27 (0, 0)))] [] w _ _ := Sx.blks hs178 ((List.Sublist.cons _ (List.Sublist.cons _ (List.Sublist.cons _ (List.Sublist.cons _ (List.Sublist.cons_cons _ (List.Sublist.cons_cons _ (List.Sublist.cons_cons _ (List.Sublist.cons_cons _ (List.Sublist.cons_cons _ (List.Sublist.cons_cons _ (List.Sublist.cons_cons _ (List.Sublist.cons_cons _ List.Sublist.slnil)))))))))))))
             exact Sx.keepE [0, 3, 4, 1, 2, 5, 6, 7, 8, 9, 10, 11] _ ⟨⟨_, rfl, rfl⟩, ⟨_, rfl, rfl⟩, ⟨_, rfl, rfl⟩, ⟨_, rfl, rfl⟩, ⟨_, rfl, rfl⟩, ⟨_, rfl, rfl⟩, ⟨_, rfl, rfl⟩, ⟨_, rfl, rfl⟩, ⟨_, rfl, rfl⟩, ⟨_, rfl, rfl⟩, ⟨_, rfl, rfl⟩, ⟨_, rfl, rfl⟩, trivial⟩ hs179
           · have hff : q.fl = if (q.dk || (x15.light && decide (z3 < b.lamp))) = true then min g.fl (g.k : Int) else g.fl := by
               rw [hqf, show (x15.light && decide (z3 < b.lamp)) = false from hc68]
               cases q.dk <;> simp
             refine cd_skip ?_
             refine in_norm ?_
             refine th_norm (hK34 _ _ ?_)
             refine cd_region1 ?_
             refine sq rfl (st_move hs165 (Ev.t 3 rfl) rfl rfl fun _ _ hs166 => ?_); clear hs165
             refine sq rfl (st_add (z := (q.k : Int) + 1) hs166 (Ev.t 0 rfl) (.const _) rfl rfl rfl (by omega) fun _ _ hs167 => ?_); clear hs166
             have hs168 := hs167.keep [0, 1, 2, 3, 4, 6, 7, 8, 9, 10, 11, 12, 13, 14] [_, _, _, _, _, _, _, _, _, _, _, _, _, _] rfl; clear hs167
             refine sq rfl (st_assign hs168 (Ev.t 0 rfl) rfl rfl fun _ _ hs169 => ?_); clear hs168
             refine wpListIn_nil ?_
             have hs170 := hs169.keep [0, 4, 5, 6, 7, 8, 9, 10, 11, 12, 13, 14] [_, _, _, _, _, _, _, _, _, _, _, _] rfl; clear hs169
             refine ⟨(MinG.mk (q.k + 1) (q.c - z1) (q.v - z2) (q.fl) (q.p + 1 + 1 + 1) (q.dk || (x15.light && decide (z3 < b.lamp)))), ⟨?_, ?_, ?_, ?_, ?_, ?_⟩, by (show m5 - (q.k + 1) < m5 - q.k; omega)⟩
             · exact ⟨q.c, q.v, q.dk, z1, z2, z3, hM, hj1, hj2, hst.1, hst.2, rfl, rfl, hj3, rfl⟩
             · exact hqm
             · show 0 ≤ q.c - z1 ∧ q.c - z1 ≤ 99 ∧ 0 ≤ q.v - z2 ∧ q.v - z2 ≤ 99
               omega
             · exact hff
             · show 0 ≤ q.p + 1 + 1 + 1 ∧ q.p + 1 + 1 + 1 ≤ g.p + 1 + 3 * ((q.k + 1 : Nat) : Int)
               omega
             have hs171 : Sx 177 [] [(16, .int .i64 ((q.k : Int) + 1)), (9, .int .i64 (q.v - z2)), (8, .int .i64 (q.c - z1)), (14, .int .i64 (m5 : Int)), (13, .int .i64 (kk : Int)), (12, .pointer (some ⟨b21, 0, none⟩)), (11, .int .i64 (g.k : Int)), (10, .pointer (some ⟨b9, 0, none⟩)), (7, .pointer (some ⟨b5, 0, none⟩)), (6, .pointer (some ⟨b3, 0, none⟩)), (3, .pointer (some ⟨b2, 0, none⟩)), (1, .slice A2 m c2)] [(b27, some (.cells ⟨[.slice A4 m4 c4, .int .i64 (g.p + 1)]⟩ 95 (0, 0))), (b21, some (.cells ⟨(partL x15)⟩ 66 (0, 0))), (b9, some (.cells ⟨[.slice g.A1 g.cs.length g.c1, .slice g.A2 g.ws.length g.c2, .int .i64 q.fl]⟩ 50 (0, 0))), (g.b1, g.o1), (g.b2, g.o2), (b5, some (.cells ⟨[.slice A4 m4 c4, .int .i64 (q.p + 1 + 1 + 1)]⟩ 95 (0, 0))), (b3, some (.cells ⟨[.slice none 0 0, .slice none 0 0, .int .i64 0]⟩ 50 (0, 0))), (b2, some (.cells ⟨(bookL b A n cp)⟩ 27 (0, 0)))] [] w _ _ := Sx.blks hs170 ((List.Sublist.cons _ (List.Sublist.cons _ (List.Sublist.cons _ (List.Sublist.cons _ (List.Sublist.cons_cons _ (List.Sublist.cons_cons _ (List.Sublist.cons_cons _ (List.Sublist.cons_cons _ (List.Sublist.cons_cons _ (List.Sublist.cons_cons _ (List.Sublist.cons_cons _ (List.Sublist.cons_cons _ List.Sublist.slnil)))))))))))))
             exact Sx.keepE [0, 3, 4, 1, 2, 5, 6, 7, 8, 9, 10, 11] _ ⟨⟨_, rfl, rfl⟩, ⟨_, rfl, rfl⟩, ⟨_, rfl, rfl⟩, ⟨_, rfl, rfl⟩, ⟨_, rfl, rfl⟩, ⟨_, rfl, rfl⟩, ⟨_, rfl, rfl⟩, ⟨_, rfl, rfl⟩, ⟨_, rfl, rfl⟩, ⟨_, rfl, rfl⟩, ⟨_, rfl, rfl⟩, ⟨_, rfl, rfl⟩, trivial⟩ hs171
     · have hqe : q.k = m5 := by simp at hc33; omega
       refine cd_exit ?_
       refine th_exit ?_
       refine th_exit ?_
       refine in_hit ?_
       refine th_norm (hK29 _ _ ?_)
       have hs98 := Sx.front hs97 4 rfl; clear hs97
       have hs99 := Sx.front hs98 4 rfl; clear hs98
       refine cd_drawS1 mixed [4, 9] ⟨(OwX intL 1 3 (g.cs ++ [q.c]) × OwX intL 1 3 (g.ws ++ [q.v])), fun n_ x_ => match n_ with | 0 => [] | 1 => [(168, .slice x_.1.A (g.cs.length + 1) x_.1.c)] | _ => [(173, .slice x_.2.A (g.ws.length + 1) x_.2.c), (168, .slice x_.1.A (g.cs.length + 1) x_.1.c)], fun n_ x_ => match n_ with | 0 => [(g.b1, g.o1), (g.b2, g.o2)] | 1 => [(x_.1.b, x_.1.o), (g.b2, g.o2)] | _ => [(x_.1.b, x_.1.o), (x_.2.b, x_.2.o)]⟩ ((OwX.zero (enc := intL) (sz := 1) (fun _ => rfl) 3 (g.cs ++ [q.c])), (OwX.zero (enc := intL) (sz := 1) (fun _ => rfl) 3 (g.ws ++ [q.v]))) hs99 [⟨164, [], Is (.pointer (some ⟨b9, 0, none⟩))⟩, ⟨165, [0], Is (.slice g.A1 g.cs.length g.c1)⟩, ⟨166, [], Is (.int .i64 q.c)⟩, ⟨167, [2], fun v_ bs_ => ∃ b69, v_ = .slice (some ⟨b69, 0, none⟩) 1 1 ∧ bs_ = [(b69, some (.cells ⟨[.int .i64 q.c]⟩ 3 (0, 0)))]⟩, ⟨168, [1, 3], Is undef⟩, ⟨169, [], Is (.pointer (some ⟨b9, 1, none⟩))⟩, ⟨170, [5], Is (.slice g.A2 g.ws.length g.c2)⟩, ⟨171, [], Is (.int .i64 q.v)⟩, ⟨172, [7], fun v_ bs_ => ∃ b70, v_ = .slice (some ⟨b70, 0, none⟩) 1 1 ∧ bs_ = [(b70, some (.cells ⟨[.int .i64 q.v]⟩ 3 (0, 0)))]⟩, ⟨173, [6, 8], Is undef⟩, ⟨174, [], Is (.pointer (some ⟨b9, 0, none⟩))⟩] (by kernel_rfl) (fun n_ _ => by rcases n_ with _ | _ | _ <;> rfl) (by kernel_rfl) ⟨⟨?_, ?_, ?_, ?_, ?_, ?_, ?_, ?_, ?_, ?_, ?_, trivial⟩, ?_⟩
       · rintro T_ B_ a_ w_ K_ hT hB hf hsD hk
         exact ob rfl rfl (st_field (o' := 0) hsD (evT hT 8 rfl) rfl hf runUnderlying50 rfl sizeOf47 rfl rfl fun _ _ => hk _ _ _ _ ⟨rfl, rfl⟩)
       · rintro T_ B_ a_ w_ K_ hT hB _ _ ⟨rfl, rfl⟩ h164 - hf hsD hk
         exact ob rfl rfl (st_load1 (o := 0) (off := 0) (v := .slice g.A1 g.cs.length g.c1) hsD (Ev.tmp h164) rfl hf isAgg47 (hsD.cellsM (inB hB 2 rfl)) rfl fun _ _ => hk _ _ _ _ ⟨rfl, rfl⟩)
       · rintro T_ B_ a_ w_ K_ hT hB hf hsD hk
         exact ob rfl rfl (st_move hsD (evT hT 5 rfl) rfl hf fun _ _ => hk _ _ _ _ ⟨rfl, rfl⟩)
       · rintro T_ B_ a_ w_ K_ hT hB _ _ ⟨rfl, rfl⟩ h166 - hf hsD hk
         exact ob rfl rfl (st_buildSlice hsD (qs := [(0, .int .i64 q.c)]) (e := 3) (l := [.int .i64 q.c]) ⟨(Ev.tmp h166), trivial⟩ rfl hf rfl (fun _ => by kernel_rfl) fun b69 _ _ => hk _ _ _ _ ⟨b69, rfl, rfl⟩)
       · rintro T_ B_ a_ w_ K_ x_ hT hB _ _ ⟨rfl, rfl⟩ h165 - _ _ ⟨b69, rfl, rfl⟩ h167 hB167 hf hsD hk
         exact ob rfl rfl (st_append (enc := intL) (zs := g.cs) (ys := [q.c]) (c := g.c1) (i := 0) (b := g.b1) (o := g.o1) hsD (Ev.tmp (List.mem_append_right _ h165)) (Ev.tmp (List.mem_append_right _ h167)) rfl hf underlying47 (show (Tryd.prog.info? 3).map (fun i => (i.zero, i.size, i.bytes)) = some (some (.int .i64 0), 1, 8) by kernel_rfl) rfl (fun _ => rfl) (fun _ u hu => by simp only [intL, List.mem_cons, List.not_mem_nil, or_false] at hu; subst hu; rfl) ho1 rfl (sl_at (enc := intL) (sz := 1) (ys := [q.c]) (fun _ => rfl) (by decide) (hsD.cellsM (List.mem_append_right _ (hB167 _ List.mem_cons_self)))) (by omega) (by omega) (fun A7 c7 b7 o7 a_1 w_1 hown7 h1 => hk (⟨A7, c7, b7, o7, hown7⟩, x_.2) _ _ h1))
       · rintro T_ B_ a_ w_ K_ hT hB hf hsD hk
         exact ob rfl rfl (st_field (o' := 1) hsD (evT hT 8 rfl) rfl hf runUnderlying50 rfl sizeOf47 rfl rfl fun _ _ => hk _ _ _ _ ⟨rfl, rfl⟩)
       · rintro T_ B_ a_ w_ K_ hT hB _ _ ⟨rfl, rfl⟩ h169 - hf hsD hk
         exact ob rfl rfl (st_load1 (o := 0) (off := 1) (v := .slice g.A2 g.ws.length g.c2) hsD (Ev.tmp h169) rfl hf isAgg47 (hsD.cellsM (inB hB 2 rfl)) rfl fun _ _ => hk _ _ _ _ ⟨rfl, rfl⟩)
       · rintro T_ B_ a_ w_ K_ hT hB hf hsD hk
         exact ob rfl rfl (st_move hsD (evT hT 4 rfl) rfl hf fun _ _ => hk _ _ _ _ ⟨rfl, rfl⟩)
       · rintro T_ B_ a_ w_ K_ hT hB _ _ ⟨rfl, rfl⟩ h171 - hf hsD hk
         exact ob rfl rfl (st_buildSlice hsD (qs := [(0, .int .i64 q.v)]) (e := 3) (l := [.int .i64 q.v]) ⟨(Ev.tmp h171), trivial⟩ rfl hf rfl (fun _ => by kernel_rfl) fun b70 _ _ => hk _ _ _ _ ⟨b70, rfl, rfl⟩)
       · rintro T_ B_ a_ w_ K_ x_ hT hB _ _ ⟨rfl, rfl⟩ h170 - _ _ ⟨b70, rfl, rfl⟩ h172 hB172 hf hsD hk
         exact ob rfl rfl (st_append (enc := intL) (zs := g.ws) (ys := [q.v]) (c := g.c2) (i := 1) (b := g.b2) (o := g.o2) hsD (Ev.tmp (List.mem_append_right _ h170)) (Ev.tmp (List.mem_append_right _ h172)) rfl hf underlying47 (show (Tryd.prog.info? 3).map (fun i => (i.zero, i.size, i.bytes)) = some (some (.int .i64 0), 1, 8) by kernel_rfl) rfl (fun _ => rfl) (fun _ u hu => by simp only [intL, List.mem_cons, List.not_mem_nil, or_false] at hu; subst hu; rfl) ho2 rfl (sl_at (enc := intL) (sz := 1) (ys := [q.v]) (fun _ => rfl) (by decide) (hsD.cellsM (List.mem_append_right _ (hB172 _ List.mem_cons_self)))) (by omega) (by omega) (fun A7 c7 b7 o7 a_1 w_1 hown7 h1 => hk (x_.1, ⟨A7, c7, b7, o7, hown7⟩) _ _ h1))
       · rintro T_ B_ a_ w_ K_ hT hB hf hsD hk
         exact ob rfl rfl (st_field (o' := 0) hsD (evT hT 8 rfl) rfl hf runUnderlying50 rfl sizeOf47 rfl rfl fun _ _ => hk _ _ _ _ ⟨rfl, rfl⟩)
       rintro _ _ ⟨rfl, rfl⟩
       rintro _ _ ⟨rfl, rfl⟩
       rintro _ _ ⟨rfl, rfl⟩
       rintro _ _ ⟨b69, rfl, rfl⟩
       rintro _ _ ⟨rfl, rfl⟩
       rintro _ _ ⟨rfl, rfl⟩
       rintro _ _ ⟨rfl, rfl⟩
       rintro _ _ ⟨b70, rfl, rfl⟩
       rintro _ _ ⟨rfl, rfl⟩
       intro x_ a_100 w_100 hs100
       clear hs99
       have hs101 := Sx.as (T' := [_, _, _, _, _, _, _, _, _, _, _, _, _, _, _, _, _, _, _, _, _, _, _, _]) (B' := [_, _, _, _, _, _, _, _, _, _]) rfl rfl hs100; clear hs100
       refine sq rfl (st_store (l' := [.slice x_.1.A (g.cs.length + 1) x_.1.c, .slice g.A2 g.ws.length g.c2, .int .i64 q.fl]) (vs := [.slice x_.1.A (g.cs.length + 1) x_.1.c]) (i := 6) hs101 (Ev.t 10 rfl) (Ev.t 1 rfl) sizeOf47 rfl rfl rfl rfl rfl rfl fun _ _ hs102 => ?_); clear hs101
       have hs103 := hs102.asB [_, _, _, _, _, _, _, _, _, _] rfl; clear hs102
       refine sq rfl (st_field (o' := 1) hs103 (Ev.t 19 rfl) rfl rfl runUnderlying50 rfl sizeOf47 rfl rfl fun _ _ hs104 => ?_); clear hs103
       refine sq rfl (st_store (l' := [.slice x_.1.A (g.cs.length + 1) x_.1.c, .slice x_.2.A (g.ws.length + 1) x_.2.c, .int .i64 q.fl]) (vs := [.slice x_.2.A (g.ws.length + 1) x_.2.c]) (i := 6) hs104 (Ev.t 0 rfl) (Ev.t 1 rfl) sizeOf47 rfl rfl rfl rfl rfl rfl fun _ _ hs105 => ?_); clear hs104
       have hs106 := hs105.asB [_, _, _, _, _, _, _, _, _, _] rfl; clear hs105
       refine wpListIn_nil ?_
       have hs107 := hs106.keep [16, 17, 19, 20, 21, 22, 23, 24] [_, _, _, _, _, _, _, _] rfl; clear hs106
       refine in_norm ?_
       refine th_norm (hK19 _ _ ?_)
       refine cd_region1 ?_
       refine sq rfl (st_move hs107 (Ev.t 2 rfl) rfl rfl fun _ _ hs108 => ?_); clear hs107
       refine sq rfl (st_add (z := (g.k : Int) + 1) hs108 (Ev.t 0 rfl) (.const _) rfl rfl rfl (by omega) fun _ _ hs109 => ?_); clear hs108
       have hs110 := hs109.keep [0, 1, 2, 3, 5, 6, 7, 8, 9] [_, _, _, _, _, _, _, _, _] rfl; clear hs109
       refine sq rfl (st_assign hs110 (Ev.t 0 rfl) rfl rfl fun _ _ hs111 => ?_); clear hs110
       refine wpListIn_nil ?_
       have hs112 := hs111.keep [0, 3, 4, 5, 6, 7, 8, 9] [_, _, _, _, _, _, _, _] rfl; clear hs111
       refine ⟨(HapG.mk (g.k + 1) q.c q.v x_.1.A x_.1.c (g.cs ++ [q.c]) x_.1.b x_.1.o x_.2.A x_.2.c (g.ws ++ [q.v]) x_.2.b x_.2.o q.fl q.p), ⟨?_, ?_, ?_, ?_, ?_, ?_, ?_⟩, by (show n - (g.k + 1) < n - g.k; omega)⟩
       · exact hin
       · exact ⟨g.c, g.v, g.cs, g.ws, g.fl, x15, x17, m5, q.dk, hHP, hx15, hx17, him5, by rw [hc0, hv0, ← hqe]; exact hM, rfl, rfl, hqf⟩
       · exact hq4
       · show 0 ≤ q.p ∧ q.p ≤ 2 + 1000 * ((g.k + 1 : Nat) : Int)
         omega
       · exact x_.1.h
       · exact x_.2.h
       have hs113 := Sx.front hs112 9 rfl; clear hs112
       have hs114 := Sx.front hs113 9 rfl; clear hs113
       have hs115 := Sx.front hs114 9 rfl; clear hs114
       have hs116 := Sx.front hs115 4 rfl; clear hs115
       have hs117 := Sx.front hs116 4 rfl; clear hs116
       have hs118 := Sx.front hs117 9 rfl; clear hs117
       have hs119 : Sx 177 [] [(11, .int .i64 ((g.k : Int) + 1)), (9, .int .i64 q.v), (8, .int .i64 q.c), (10, .pointer (some ⟨b9, 0, none⟩)), (7, .pointer (some ⟨b5, 0, none⟩)), (6, .pointer (some ⟨b3, 0, none⟩)), (3, .pointer (some ⟨b2, 0, none⟩)), (1, .slice A2 m c2)] [(b9, some (.cells ⟨[.slice x_.1.A (g.cs.length + 1) x_.1.c, .slice x_.2.A (g.ws.length + 1) x_.2.c, .int .i64 q.fl]⟩ 50 (0, 0))), (x_.1.b, x_.1.o), (x_.2.b, x_.2.o), (b5, some (.cells ⟨[.slice A4 m4 c4, .int .i64 q.p]⟩ 95 (0, 0))), (b3, some (.cells ⟨[.slice none 0 0, .slice none 0 0, .int .i64 0]⟩ 50 (0, 0))), (b2, some (.cells ⟨(bookL b A n cp)⟩ 27 (0, 0)))] [] w _ _ := Sx.blks hs118 ((List.Sublist.cons_cons _ (List.Sublist.cons_cons _ (List.Sublist.cons_cons _ (List.Sublist.cons_cons _ (List.Sublist.cons_cons _ (List.Sublist.cons_cons _ (List.Sublist.cons _ (List.Sublist.cons _ (List.Sublist.cons _ (List.Sublist.cons _ List.Sublist.slnil)))))))))))
       rw [show g.cs.length + 1 = (g.cs ++ [q.c]).length by simp, show g.ws.length + 1 = (g.ws ++ [q.v]).length by simp] at hs119
       exact Sx.keepE [0, 3, 1, 2, 4, 5, 6, 7] _ ⟨⟨_, rfl, rfl⟩, ⟨_, rfl, rfl⟩, ⟨_, rfl, rfl⟩, ⟨_, rfl, rfl⟩, ⟨_, rfl, rfl⟩, ⟨_, rfl, rfl⟩, ⟨_, rfl, rfl⟩, ⟨_, rfl, rfl⟩, trivial⟩ hs119
 · have hge : g.k = b.parts.length := by simp at hc14; omega
   refine cd_exit ?_
   refine th_exit ?_
   refine th_exit ?_
   refine in_hit ?_
   refine th_norm (hK10 _ _ ?_)
   refine cd_region fun K71 hK71 => ?_
   refine sq rfl (st_loadA (o := 0) (off := 0) (vs := [.slice g.A1 g.cs.length g.c1, .slice g.A2 g.ws.length g.c2, .int .i64 g.fl]) hs53 (Ev.t 2 rfl) rfl rfl isAgg50 sizeOf50 (hs53.cells 0 rfl) rfl fun _ _ hs54 => ?_); clear hs53
   refine sq rfl (st_store (l' := [.slice g.A1 g.cs.length g.c1, .slice g.A2 g.ws.length g.c2, .int .i64 g.fl]) (vs := [.slice g.A1 g.cs.length g.c1, .slice g.A2 g.ws.length g.c2, .int .i64 g.fl]) (i := 4) hs54 (Ev.t 7 rfl) (Ev.t 0 rfl) sizeOf50 rfl rfl rfl rfl rfl rfl fun _ _ hs55 => ?_); clear hs54
   have hs56 := hs55.asB [_, _, _, _, _, _] rfl; clear hs55
   refine hK71 _ _ ?_; clear hK71
   have hs57 := hs56.keep [7] [_] rfl; clear hs56
   exact cd_ret (vs := [.agg ⟨[.slice g.A1 g.cs.length g.c1, .slice g.A2 g.ws.length g.c2, .int .i64 g.fl]⟩]) (bs := [(g.b1, g.o1), (g.b2, g.o2)]) hs57 hQ0 rfl ⟨resA (o := 0) (off := 0) (vs := [.slice g.A1 g.cs.length g.c1, .slice g.A2 g.ws.length g.c2, .int .i64 g.fl]) 0 rfl isAgg50 sizeOf50 (hs57.cells 4 rfl) rfl, trivial⟩ (.cons _ (.cons_cons _ (.cons_cons _ (List.nil_sublist _)))) ⟨g.cs, g.ws, _, g.A1, g.c1, g.b1, g.o1, g.A2, g.c2, g.b2, g.o2, rfl, ho1, ho2, rfl, .inl ⟨g.c, g.v, by rw [← hge]; exact hHP⟩⟩
end Go.Proofs.YtdbcedmofoakmaaDoor
