/- The law: what numbers choose (Turn, Pick, Choose). -/
import Derived.Test.YtcnndpedeofbmaaDoorUl
import Derived.Test.YtcnndpedeofbmaaDoorTr
set_option maxRecDepth 100000
namespace Go.Proofs.YtcnndpedeofbmaaDoor
open Go Go.Sx Go.Till Go.Proofs.Tryd
theorem turn_v (x m : Int) (hm : m ≤ 4611686018427387904) (w : World)  :
    CallsV Tryd.prog 17 [.int .i64 x, .int .i64 m] w (.int .i64 (turn x m)) := by
 refine enter (N := 17) (M := []) w func17 rfl rfl rfl (fun Q0 a_0 hQ0 hN0 hs0 => ?_)
 refine cd_region fun K1 hK1 => ?_
 refine sq rfl (st_assign hs0 (.const _) rfl rfl fun _ _ hs1 => ?_); clear hs0
 refine hK1 _ _ ?_; clear hK1
 refine cd_seq fun K2 hK2 => ?_
 refine cd_region fun K3 hK3 => ?_
 refine sq rfl (st_move hs1 (Ev.t 2 rfl) rfl rfl fun _ _ hs2 => ?_); clear hs1
 refine sq rfl (st_cmp (c := decide ((m : Int) < 1)) hs2 (Ev.t 0 rfl) (.const _) rfl rfl rfl rfl fun _ _ hs3 => ?_); clear hs2
 refine hK3 _ _ ?_; clear hK3
 have hs4 := hs3.keep [0, 2, 3, 4] [_, _, _, _] rfl; clear hs3
 refine cd_cond hs4 (Ev.t 0 rfl) (fun hc4 => ?_) (fun hc4 => ?_)
 · have hlt : m < 1 := by simpa using hc4
   refine cd_region fun K5 hK5 => ?_
   have hs5 := hs4.keep [0, 2, 3] [_, _, _] rfl; clear hs4
   refine sq rfl (st_assign hs5 (.const _) rfl rfl fun _ _ hs6 => ?_); clear hs5
   refine hK5 _ _ ?_; clear hK5
   have hs7 := hs6.keep [0] [_] rfl; clear hs6
   refine cd_retv (vs := [.int .i64 0]) hs7 (fun a_ w_ h => th_ret (hQ0 a_ w_ h)) rfl ⟨.tmp 0 rfl, trivial⟩ ?_
   clear hs7 hQ0 hN0 hK2
   first | (simp [pack, turn, hlt, hneg]; done) | simp [pack, turn, hlt]
 · have hlt : ¬ m < 1 := by simpa using hc4
   have ht1 := Int.tmod_lt_of_pos x (show 0 < m by omega)
   have ht2 := Int.tmod_lt_of_pos (-x) (show 0 < m by omega)
   rw [Int.neg_tmod] at ht2
   refine cd_skip ?_
   refine th_norm (hK2 _ _ ?_)
   refine cd_region fun K6 hK6 => ?_
   refine sq rfl (st_move hs4 (Ev.t 2 rfl) rfl rfl fun _ _ hs5 => ?_); clear hs4
   refine sq rfl (st_move hs5 (Ev.t 4 rfl) rfl rfl fun _ _ hs6 => ?_); clear hs5
   refine sq rfl (st_rem hs6 (Ev.t 1 rfl) (Ev.t 0 rfl) rfl rfl (by omega) fun _ _ hs7 => ?_); clear hs6
   refine sq rfl (st_assign hs7 (Ev.t 0 rfl) rfl rfl fun _ _ hs8 => ?_); clear hs7
   refine hK6 _ _ ?_; clear hK6
   have hs9 := hs8.keep [0, 5, 7] [_, _, _] rfl; clear hs8
   refine cd_seq fun K7 hK7 => ?_
   refine cd_region fun K8 hK8 => ?_
   refine sq rfl (st_move hs9 (Ev.t 0 rfl) rfl rfl fun _ _ hs10 => ?_); clear hs9
   refine sq rfl (st_cmp (c := decide (((x : Int).tmod m : Int) < 0)) hs10 (Ev.t 0 rfl) (.const _) rfl rfl rfl rfl fun _ _ hs11 => ?_); clear hs10
   refine hK8 _ _ ?_; clear hK8
   have hs12 := hs11.keep [0, 2, 3, 4] [_, _, _, _] rfl; clear hs11
   refine cd_cond hs12 (Ev.t 0 rfl) (fun hc9 => ?_) (fun hc9 => ?_)
   · have hneg : x.tmod m < 0 := by simpa using hc9
     refine cd_region1 ?_
     refine sq rfl (st_move hs12 (Ev.t 1 rfl) rfl rfl fun _ _ hs13 => ?_); clear hs12
     refine sq rfl (st_move hs13 (Ev.t 4 rfl) rfl rfl fun _ _ hs14 => ?_); clear hs13
     refine sq rfl (st_add (z := ((x : Int).tmod m) + m) hs14 (Ev.t 1 rfl) (Ev.t 0 rfl) rfl rfl rfl (by omega) fun _ _ hs15 => ?_); clear hs14
     have hs16 := hs15.keep [0, 1, 2, 3, 5, 6] [_, _, _, _, _, _] rfl; clear hs15
     refine sq rfl (st_assign hs16 (Ev.t 0 rfl) rfl rfl fun _ _ hs17 => ?_); clear hs16
     refine wpListIn_nil ?_
     have hs18 := hs17.keep [0, 5] [_, _] rfl; clear hs17
     refine th_norm (hK7 _ _ ?_)
     refine cd_region fun K10 hK10 => ?_
     refine sq rfl (st_move hs18 (Ev.t 0 rfl) rfl rfl fun _ _ hs19 => ?_); clear hs18
     have hs20 := hs19.keep [0, 1] [_, _] rfl; clear hs19
     refine sq rfl (st_assign hs20 (Ev.t 0 rfl) rfl rfl fun _ _ hs21 => ?_); clear hs20
     refine hK10 _ _ ?_; clear hK10
     have hs22 := hs21.keep [0] [_] rfl; clear hs21
     refine cd_retv (vs := [.int .i64 (((x : Int).tmod m) + m)]) hs22 hQ0 rfl ⟨.tmp 0 rfl, trivial⟩ ?_
     clear hs22 hQ0 hN0
     first | (simp [pack, turn, hlt, hneg]; done) | simp [pack, turn, hlt]
   · have hneg : ¬ x.tmod m < 0 := by simpa using hc9
     refine cd_skip ?_
     refine th_norm (hK7 _ _ ?_)
     refine cd_region fun K11 hK11 => ?_
     refine sq rfl (st_move hs12 (Ev.t 1 rfl) rfl rfl fun _ _ hs13 => ?_); clear hs12
     have hs14 := hs13.keep [0, 1, 2, 4] [_, _, _, _] rfl; clear hs13
     refine sq rfl (st_assign hs14 (Ev.t 0 rfl) rfl rfl fun _ _ hs15 => ?_); clear hs14
     refine hK11 _ _ ?_; clear hK11
     have hs16 := hs15.keep [0] [_] rfl; clear hs15
     refine cd_retv (vs := [.int .i64 ((x : Int).tmod m)]) hs16 hQ0 rfl ⟨.tmp 0 rfl, trivial⟩ ?_
     clear hs16 hQ0 hN0
     first | (simp [pack, turn, hlt, hneg]; done) | simp [pack, turn, hlt]

theorem pick_v (A4 : Option Addr) (m4 c4 : Nat) (bits : List Int) (k : Int) (w : World) (hI : IntsAt w A4 m4 bits) (hm4 : m4 ≤ 140737488351232) :
    CallsV Tryd.prog 71 [.slice A4 m4 c4, .int .i64 k] w (.int .i64 (pickN bits k)) := by
 have hl4 := hI.len
 refine enter (N := 15) (M := []) w func71 rfl rfl rfl (fun Q0 a_0 hQ0 hN0 hs0 => ?_)
 refine cd_region fun K1 hK1 => ?_
 refine sq rfl (st_assign hs0 (.const _) rfl rfl fun _ _ hs1 => ?_); clear hs0
 refine hK1 _ _ ?_; clear hK1
 refine cd_seq fun K2 hK2 => ?_
 refine cd_region fun K3 hK3 => ?_
 refine sq rfl (st_move hs1 (Ev.t 1 rfl) rfl rfl fun _ _ hs2 => ?_); clear hs1
 refine sq rfl (st_len hs2 (Ev.t 0 rfl) rfl rfl runUnderlying33 fun _ _ hs3 => ?_); clear hs2
 refine sq rfl (st_cmp (c := ((m4 : Int) : Int) == 0) hs3 (Ev.t 0 rfl) (.const _) rfl rfl rfl rfl fun _ _ hs4 => ?_); clear hs3
 refine hK3 _ _ ?_; clear hK3
 have hs5 := hs4.keep [0, 3, 4, 5] [_, _, _, _] rfl; clear hs4
 refine cd_cond hs5 (Ev.t 0 rfl) (fun hc4 => ?_) (fun hc4 => ?_)
 · have hz : bits.length = 0 := by simp at hc4; omega
   refine cd_region fun K5 hK5 => ?_
   have hs6 := hs5.keep [0, 2, 3] [_, _, _] rfl; clear hs5
   refine sq rfl (st_assign hs6 (.const _) rfl rfl fun _ _ hs7 => ?_); clear hs6
   refine hK5 _ _ ?_; clear hK5
   have hs8 := hs7.keep [0] [_] rfl; clear hs7
   refine cd_retv (vs := [.int .i64 0]) hs8 (fun a_ w_ h => th_ret (hQ0 a_ w_ h)) rfl ⟨.tmp 0 rfl, trivial⟩ ?_
   clear hs8 hQ0 hN0 hK2
   first | (simp [pack, pickN, hz]; done) | (have hne : ¬ bits.length = 0 := (by omega); simp only [pack, pickN, ← hl4, ← hq, Int.toNat_natCast]; simp_all)
 · have hpos : 0 < bits.length := by simp at hc4; omega
   have htb := turn_bd (n := k) (m := (m4 : Int)) (by omega)
   obtain ⟨q, hq⟩ : ∃ q : Nat, (q : Int) = turn k (m4 : Int) := ⟨(turn k (m4 : Int)).toNat, Int.toNat_of_nonneg htb.1⟩
   have hql : q < bits.length := by omega
   refine cd_skip ?_
   refine th_norm (hK2 _ _ ?_)
   refine cd_region fun K6 hK6 => ?_
   refine sq rfl (st_move hs5 (Ev.t 2 rfl) rfl rfl fun _ _ hs6 => ?_); clear hs5
   refine sq rfl (st_move hs6 (Ev.t 4 rfl) rfl rfl fun _ _ hs7 => ?_); clear hs6
   refine sq rfl (st_move hs7 (Ev.t 4 rfl) rfl rfl fun _ _ hs8 => ?_); clear hs7
   refine sq rfl (st_len hs8 (Ev.t 0 rfl) rfl rfl runUnderlying33 fun _ _ hs9 => ?_); clear hs8
   refine sq rfl (st_callv (vs := [.int .i64 k, .int .i64 (m4 : Int)]) hs9 (.func _) ⟨(Ev.t 2 rfl), (Ev.t 0 rfl), trivial⟩ rfl rfl call17 rfl (turn_v k (m4 : Int) (by omega) _) fun _ _ hs10 => ?_); clear hs9
   have hs11 := Sx.keepE [0, 1, 2, 3, 4, 5, 6, 7, 8] [(12, .int .i64 (q : Int)), (11, _), (10, _), (9, _), (8, _), (7, _), (4, _), (0, _), (1, _)] ⟨⟨_, rfl, (by rw [hq])⟩, ⟨_, rfl, rfl⟩, ⟨_, rfl, rfl⟩, ⟨_, rfl, rfl⟩, ⟨_, rfl, rfl⟩, ⟨_, rfl, rfl⟩, ⟨_, rfl, rfl⟩, ⟨_, rfl, rfl⟩, ⟨_, rfl, rfl⟩, trivial⟩ hs10; clear hs10
   obtain ⟨x7, hx7⟩ : ∃ x, bits[q]? = some x := ⟨_, List.getElem?_eq_getElem (by have := hI.len; omega)⟩
   obtain ⟨b8, o8, hA8, -, hc8⟩ := hI.el q x7 hx7
   refine sq rfl (st_indexM (o' := o8 + q * 1) hs11 (Ev.t 4 rfl) (Ev.t 0 rfl) rfl rfl hA8 runUnderlying33 sizeOf3 ⟨by omega, by have := hI.len; have := (List.getElem?_eq_some_iff.1 hx7).1; omega⟩ rfl fun _ _ hs12 => ?_); clear hs11
   refine sq rfl (st_load1 (o := o8 + q * 1) (off := 0) (v := .int .i64 x7) hs12 (Ev.t 0 rfl) rfl rfl isAgg3 (hs12.old hc8 (by simp)) rfl fun _ _ hs13 => ?_); clear hs12
   have hs14 := hs13.keep [0, 1, 2, 3, 4, 5, 6, 7, 9, 10] [_, _, _, _, _, _, _, _, _, _] rfl; clear hs13
   refine sq rfl (st_assign hs14 (Ev.t 0 rfl) rfl rfl fun _ _ hs15 => ?_); clear hs14
   refine hK6 _ _ ?_; clear hK6
   have hs16 := hs15.keep [0] [_] rfl; clear hs15
   refine cd_retv (vs := [.int .i64 x7]) hs16 hQ0 rfl ⟨.tmp 0 rfl, trivial⟩ ?_
   clear hs16 hQ0 hN0
   first | (simp [pack, pickN, hz]; done) | (have hne : ¬ bits.length = 0 := (by omega); simp only [pack, pickN, ← hl4, ← hq, Int.toNat_natCast]; simp_all)

theorem choose_v (a z n : Int) (w : World) (ha : -1000000 ≤ a ∧ a ≤ 1000000) (hz : -1000000 ≤ z ∧ z ≤ 1000000) :
    CallsV Tryd.prog 43 [.agg ⟨[.int .i64 a, .int .i64 z]⟩, .int .i64 n] w (.int .i64 (chooseN ⟨a, z⟩ n)) := by
 refine enter (N := 20) (M := []) w func43 rfl rfl rfl (fun Q0 a_0 hQ0 hN0 hs0 => ?_)
 refine cd_region fun K1 hK1 => ?_
 refine sq rfl (st_box hs0 (Ev.t 0 rfl) rfl rfl rfl fun b2 _ _ hs1 => ?_); clear hs0
 refine sq rfl (st_assign hs1 (.const _) rfl rfl fun _ _ hs2 => ?_); clear hs1
 refine hK1 _ _ ?_; clear hK1
 have hs3 := hs2.keep [0, 1, 3] [_, _, _] rfl; clear hs2
 refine cd_seq fun K3 hK3 => ?_
 refine cd_region fun K4 hK4 => ?_
 refine sq rfl (st_loadA (o := 0) (off := 0) (vs := [.int .i64 a, .int .i64 z]) hs3 (Ev.t 1 rfl) rfl rfl isAgg35 sizeOf35 (hs3.cells 0 rfl) rfl fun _ _ hs4 => ?_); clear hs3
 refine sq rfl (st_callv (vs := [.agg ⟨[.int .i64 a, .int .i64 z]⟩]) hs4 (.func _) ⟨(Ev.t 0 rfl), trivial⟩ rfl rfl call72 rfl (empty_v a z _) fun _ _ hs5 => ?_); clear hs4
 refine hK4 _ _ ?_; clear hK4
 have hs6 := hs5.keep [0, 2, 3, 4] [_, _, _, _] rfl; clear hs5
 refine cd_cond hs6 (Ev.t 0 rfl) (fun hc5 => ?_) (fun hc5 => ?_)
 · have hgt : z < a := by simpa using hc5
   refine cd_region fun K6 hK6 => ?_
   refine sq rfl (st_field (o' := 0) hs6 (Ev.t 2 rfl) rfl rfl runUnderlying35 rfl sizeOf3 rfl rfl fun _ _ hs7 => ?_); clear hs6
   refine sq rfl (st_load1 (o := 0) (off := 0) (v := .int .i64 a) hs7 (Ev.t 0 rfl) rfl rfl isAgg3 (hs7.cells 0 rfl) rfl fun _ _ hs8 => ?_); clear hs7
   have hs9 := hs8.keep [0, 1, 2, 4, 5] [_, _, _, _, _] rfl; clear hs8
   refine sq rfl (st_assign hs9 (Ev.t 0 rfl) rfl rfl fun _ _ hs10 => ?_); clear hs9
   refine hK6 _ _ ?_; clear hK6
   have hs11 := hs10.keep [0] [_] rfl; clear hs10
   refine cd_retv (vs := [.int .i64 a]) hs11 (fun a_ w_ h => th_ret (hQ0 a_ w_ h)) rfl ⟨.tmp 0 rfl, trivial⟩ ?_
   clear hs11 hQ0 hN0 hK3
   simp [pack, chooseN, hgt]
 · have hgt : ¬ z < a := by simpa using hc5
   have htb := turn_bd (n := n) (m := z - a + 1) (by omega)
   refine cd_skip ?_
   refine th_norm (hK3 _ _ ?_)
   refine cd_drawn mixed hs6 [⟨9, [], Is (.pointer (some ⟨b2, 0, none⟩))⟩, ⟨10, [0], Is (.int .i64 a)⟩, ⟨11, [], Is (.int .i64 n)⟩, ⟨12, [], Is (.pointer (some ⟨b2, 1, none⟩))⟩, ⟨13, [3], Is (.int .i64 z)⟩, ⟨14, [], Is (.pointer (some ⟨b2, 0, none⟩))⟩, ⟨15, [5], Is (.int .i64 a)⟩, ⟨16, [4, 6], Is (.int .i64 (z - a))⟩, ⟨17, [7], Is (.int .i64 ((z - a) + 1))⟩, ⟨18, [2, 8], Is (.int .i64 (turn n ((z - a) + 1)))⟩, ⟨19, [1, 9], Is (.int .i64 (a + (turn n ((z - a) + 1))))⟩] (by kernel_rfl) (by kernel_rfl) fun K7 hK7 => ⟨⟨?_, ?_, ?_, ?_, ?_, ?_, ?_, ?_, ?_, ?_, ?_, trivial⟩, ?_⟩
   · rintro T_ B_ a_ w_ K_ hT hB hf hsD hk
     exact ob rfl rfl (st_field (o' := 0) hsD (evT hT 2 rfl) rfl hf runUnderlying35 rfl sizeOf3 rfl rfl fun _ _ => hk _ _ _ _ ⟨rfl, rfl⟩)
   · rintro T_ B_ a_ w_ K_ hT hB _ _ ⟨rfl, rfl⟩ h9 - hf hsD hk
     exact ob rfl rfl (st_load1 (o := 0) (off := 0) (v := .int .i64 a) hsD (Ev.tmp h9) rfl hf isAgg3 (hsD.cellsM (inB hB 0 rfl)) rfl fun _ _ => hk _ _ _ _ ⟨rfl, rfl⟩)
   · rintro T_ B_ a_ w_ K_ hT hB hf hsD hk
     exact ob rfl rfl (st_move hsD (evT hT 3 rfl) rfl hf fun _ _ => hk _ _ _ _ ⟨rfl, rfl⟩)
   · rintro T_ B_ a_ w_ K_ hT hB hf hsD hk
     exact ob rfl rfl (st_field (o' := 1) hsD (evT hT 2 rfl) rfl hf runUnderlying35 rfl sizeOf3 rfl rfl fun _ _ => hk _ _ _ _ ⟨rfl, rfl⟩)
   · rintro T_ B_ a_ w_ K_ hT hB _ _ ⟨rfl, rfl⟩ h12 - hf hsD hk
     exact ob rfl rfl (st_load1 (o := 0) (off := 1) (v := .int .i64 z) hsD (Ev.tmp h12) rfl hf isAgg3 (hsD.cellsM (inB hB 0 rfl)) rfl fun _ _ => hk _ _ _ _ ⟨rfl, rfl⟩)
   · rintro T_ B_ a_ w_ K_ hT hB hf hsD hk
     exact ob rfl rfl (st_field (o' := 0) hsD (evT hT 2 rfl) rfl hf runUnderlying35 rfl sizeOf3 rfl rfl fun _ _ => hk _ _ _ _ ⟨rfl, rfl⟩)
   · rintro T_ B_ a_ w_ K_ hT hB _ _ ⟨rfl, rfl⟩ h14 - hf hsD hk
     exact ob rfl rfl (st_load1 (o := 0) (off := 0) (v := .int .i64 a) hsD (Ev.tmp h14) rfl hf isAgg3 (hsD.cellsM (inB hB 0 rfl)) rfl fun _ _ => hk _ _ _ _ ⟨rfl, rfl⟩)
   · rintro T_ B_ a_ w_ K_ hT hB _ _ ⟨rfl, rfl⟩ h13 - _ _ ⟨rfl, rfl⟩ h15 - hf hsD hk
     exact ob rfl rfl (st_sub (z := z - a) hsD (Ev.tmp h13) (Ev.tmp h15) rfl hf rfl (by omega) fun _ _ => hk _ _ _ _ ⟨rfl, rfl⟩)
   · rintro T_ B_ a_ w_ K_ hT hB _ _ ⟨rfl, rfl⟩ h16 - hf hsD hk
     exact ob rfl rfl (st_add (z := (z - a) + 1) hsD (Ev.tmp h16) (.const _) rfl hf rfl (by omega) fun _ _ => hk _ _ _ _ ⟨rfl, rfl⟩)
   · rintro T_ B_ a_ w_ K_ hT hB _ _ ⟨rfl, rfl⟩ h11 - _ _ ⟨rfl, rfl⟩ h17 - hf hsD hk
     exact ob rfl rfl (st_callv (vs := [.int .i64 n, .int .i64 ((z - a) + 1)]) hsD (.func _) ⟨(Ev.tmp h11), (Ev.tmp h17), trivial⟩ rfl hf call17 rfl (turn_v n ((z - a) + 1) (by omega) _) fun _ _ => hk _ _ _ _ ⟨rfl, rfl⟩)
   · rintro T_ B_ a_ w_ K_ hT hB _ _ ⟨rfl, rfl⟩ h10 - _ _ ⟨rfl, rfl⟩ h18 - hf hsD hk
     exact ob rfl rfl (st_add (z := a + (turn n ((z - a) + 1))) hsD (Ev.tmp h10) (Ev.tmp h18) rfl hf rfl (by omega) fun _ _ => hk _ _ _ _ ⟨rfl, rfl⟩)
   rintro _ _ ⟨rfl, rfl⟩ _ _ ⟨rfl, rfl⟩ _ _ ⟨rfl, rfl⟩ _ _ ⟨rfl, rfl⟩ _ _ ⟨rfl, rfl⟩ _ _ ⟨rfl, rfl⟩ _ _ ⟨rfl, rfl⟩ _ _ ⟨rfl, rfl⟩ _ _ ⟨rfl, rfl⟩ _ _ ⟨rfl, rfl⟩ _ _ ⟨rfl, rfl⟩ a_7 w_7 hs7; clear hs6
   have hs8 := Sx.as (T' := [_, _, _, _, _, _, _, _, _, _, _, _, _, _, _]) (B' := [_]) rfl rfl hs7; clear hs7
   have hs9 := hs8.keep [0, 1, 2, 3, 4, 5, 6, 7, 8, 9, 10, 11, 13, 14] [_, _, _, _, _, _, _, _, _, _, _, _, _, _] rfl; clear hs8
   refine sq rfl (st_assign hs9 (Ev.t 10 rfl) rfl rfl fun _ _ hs10 => ?_); clear hs9
   refine hK7 _ _ ?_; clear hK7
   have hs11 := hs10.keep [0] [_] rfl; clear hs10
   refine cd_retv (vs := [.int .i64 (a + (turn n ((z - a) + 1)))]) hs11 hQ0 rfl ⟨.tmp 0 rfl, trivial⟩ ?_
   clear hs11 hQ0 hN0
   simp [pack, chooseN, hgt]
end Go.Proofs.YtcnndpedeofbmaaDoor
