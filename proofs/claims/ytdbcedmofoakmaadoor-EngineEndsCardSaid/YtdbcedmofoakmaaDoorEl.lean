/- The reference of the engine: walks, same plans, whether a plan is. -/
import Derived.Test.YtdbcedmofoakmaaDoorEk
set_option maxRecDepth 100000
namespace Go.Proofs.YtdbcedmofoakmaaDoor
open Go Go.Sx Go.Eng Go.Proofs.Tryd
theorem rWalks_v (A2 : Option Addr) (m c2 : Nat) (plan : List Walks) (w : World) (hL : PlanAt w A2 m plan) (hm : m ≤ 140737488351232) (hsm : SmallP plan) :
    CallsV Tryd.prog 79 [.slice A2 m c2] w (.int .i64 (sumW plan)) := by
 have hl1 := hL.len
 have hl100 := hsm.1
 refine enter (N := 25) (M := []) w func79 rfl rfl rfl (fun Q0 a_0 hQ0 hN0 hs0 => ?_)
 refine cd_region fun K1 hK1 => ?_
 refine sq rfl (st_assign hs0 (.const _) rfl rfl fun _ _ hs1 => ?_); clear hs0
 refine hK1 _ _ ?_; clear hK1
 refine cd_region fun K2 hK2 => ?_
 refine sq rfl (st_assign hs1 (.const _) rfl rfl fun _ _ hs2 => ?_); clear hs1
 refine hK2 _ _ ?_; clear hK2
 refine cd_seq fun K3 hK3 => ?_
 refine cd_region fun K4 hK4 => ?_
 refine sq rfl (st_assign hs2 (.const _) rfl rfl fun _ _ hs3 => ?_); clear hs2
 refine hK4 _ _ ?_; clear hK4
 refine cd_block ?_
 have hs4 : Sx 25 [] [(4, .int .i64 (0 : Int)), (3, .int .i64 (sumW (plan.take 0))), (2, .int .i64 0), (0, .slice A2 m c2)] [] [] w _ _ := Sx.keepE [0, 1, 2, 3] _ ⟨⟨_, rfl, rfl⟩, ⟨_, rfl, by simp [sumW]⟩, ⟨_, rfl, rfl⟩, ⟨_, rfl, rfl⟩, trivial⟩ hs3; clear hs3
 refine cd_loop (X := Nat) (fun i a_ w_ => (i ≤ m) ∧ Sx 25 [] [(4, .int .i64 (i : Int)), (3, .int .i64 (sumW (plan.take i))), (2, .int .i64 0), (0, .slice A2 m c2)] [] [] w a_ w_) (fun i => m - i) (0) ⟨?_, hs4⟩ ?_
 · first | omega | simp
 intro i a_5 w_5 ⟨hi, hs5⟩; clear hs4
 refine cd_seq fun K5 hK5 => ?_
 refine cd_region fun K6 hK6 => ?_
 refine sq rfl (st_move hs5 (Ev.t 0 rfl) rfl rfl fun _ _ hs6 => ?_); clear hs5
 refine sq rfl (st_move hs6 (Ev.t 4 rfl) rfl rfl fun _ _ hs7 => ?_); clear hs6
 refine sq rfl (st_len hs7 (Ev.t 0 rfl) rfl rfl runUnderlying28 fun _ _ hs8 => ?_); clear hs7
 refine sq rfl (st_cmp (c := decide (((i : Int) : Int) < (m : Int))) hs8 (Ev.t 2 rfl) (Ev.t 0 rfl) rfl rfl rfl rfl fun _ _ hs9 => ?_); clear hs8
 refine hK6 _ _ ?_; clear hK6
 have hs10 := hs9.keep [0, 4, 5, 6, 7] [_, _, _, _, _] rfl; clear hs9
 refine cd_cond hs10 (Ev.t 0 rfl) (fun hc7 => ?_) (fun hc7 => ?_)
 · simp only [decide_eq_true_eq] at hc7
   obtain ⟨x8, hx8⟩ : ∃ x, plan[i]? = some x := ⟨_, List.getElem?_eq_getElem (by have := hL.len; omega)⟩
   obtain ⟨b9, o9, hA9, -, hc9⟩ := hL.el i x8 hx8
   refine cd_skip ?_
   refine th_norm (hK5 _ _ ?_)
   refine cd_seq fun K10 hK10 => ?_
   refine cd_block ?_
   refine cd_drawn1 mixed hs10 [⟨11, [], Is (.int .i64 (sumW (plan.take i)))⟩, ⟨12, [], Is (.slice A2 m c2)⟩, ⟨13, [], Is (.int .i64 (i : Int))⟩, ⟨14, [1, 2], Is (.pointer (some ⟨b9, o9 + i * 2, none⟩))⟩, ⟨15, [3], Is (.pointer (some ⟨b9, o9 + i * 2, none⟩))⟩, ⟨16, [4], Is (.int .i64 x8.c)⟩, ⟨17, [], Is (.slice A2 m c2)⟩, ⟨18, [], Is (.int .i64 (i : Int))⟩, ⟨19, [6, 7], Is (.pointer (some ⟨b9, o9 + i * 2, none⟩))⟩, ⟨20, [8], Is (.pointer (some ⟨b9, o9 + i * 2 + 1, none⟩))⟩, ⟨21, [9], Is (.int .i64 x8.w)⟩, ⟨22, [5, 10], Is (.int .i64 (x8.c + x8.w))⟩, ⟨23, [0, 11], Is (.int .i64 ((sumW (plan.take i)) + (x8.c + x8.w)))⟩] (by kernel_rfl) (by kernel_rfl) ⟨⟨?_, ?_, ?_, ?_, ?_, ?_, ?_, ?_, ?_, ?_, ?_, ?_, ?_, trivial⟩, ?_⟩
   · rintro T_ B_ a_ w_ K_ hT hB hf hsD hk
     exact ob rfl rfl (st_move hsD (evT hT 2 rfl) rfl hf fun _ _ => hk _ _ _ _ ⟨rfl, rfl⟩)
   · rintro T_ B_ a_ w_ K_ hT hB hf hsD hk
     exact ob rfl rfl (st_move hsD (evT hT 4 rfl) rfl hf fun _ _ => hk _ _ _ _ ⟨rfl, rfl⟩)
   · rintro T_ B_ a_ w_ K_ hT hB hf hsD hk
     exact ob rfl rfl (st_move hsD (evT hT 1 rfl) rfl hf fun _ _ => hk _ _ _ _ ⟨rfl, rfl⟩)
   · rintro T_ B_ a_ w_ K_ hT hB _ _ ⟨rfl, rfl⟩ h12 - _ _ ⟨rfl, rfl⟩ h13 - hf hsD hk
     exact ob rfl rfl (st_indexM (o' := o9 + i * 2) hsD (Ev.tmp h12) (Ev.tmp h13) rfl hf hA9 runUnderlying28 sizeOf64 ⟨by omega, by have := hL.len; have := (List.getElem?_eq_some_iff.1 hx8).1; omega⟩ rfl fun _ _ => hk _ _ _ _ ⟨rfl, rfl⟩)
   · rintro T_ B_ a_ w_ K_ hT hB _ _ ⟨rfl, rfl⟩ h14 - hf hsD hk
     exact ob rfl rfl (st_field (o' := o9 + i * 2) hsD (Ev.tmp h14) rfl hf runUnderlying64 rfl sizeOf3 rfl rfl fun _ _ => hk _ _ _ _ ⟨rfl, rfl⟩)
   · rintro T_ B_ a_ w_ K_ hT hB _ _ ⟨rfl, rfl⟩ h15 - hf hsD hk
     exact ob rfl rfl (st_load1 (o := o9 + i * 2) (off := 0) (v := .int .i64 x8.c) hsD (Ev.tmp h15) rfl hf isAgg3 (hsD.old hc9 (by simp)) rfl fun _ _ => hk _ _ _ _ ⟨rfl, rfl⟩)
   · rintro T_ B_ a_ w_ K_ hT hB hf hsD hk
     exact ob rfl rfl (st_move hsD (evT hT 4 rfl) rfl hf fun _ _ => hk _ _ _ _ ⟨rfl, rfl⟩)
   · rintro T_ B_ a_ w_ K_ hT hB hf hsD hk
     exact ob rfl rfl (st_move hsD (evT hT 1 rfl) rfl hf fun _ _ => hk _ _ _ _ ⟨rfl, rfl⟩)
   · rintro T_ B_ a_ w_ K_ hT hB _ _ ⟨rfl, rfl⟩ h17 - _ _ ⟨rfl, rfl⟩ h18 - hf hsD hk
     exact ob rfl rfl (st_indexM (o' := o9 + i * 2) hsD (Ev.tmp h17) (Ev.tmp h18) rfl hf hA9 runUnderlying28 sizeOf64 ⟨by omega, by have := hL.len; have := (List.getElem?_eq_some_iff.1 hx8).1; omega⟩ rfl fun _ _ => hk _ _ _ _ ⟨rfl, rfl⟩)
   · rintro T_ B_ a_ w_ K_ hT hB _ _ ⟨rfl, rfl⟩ h19 - hf hsD hk
     exact ob rfl rfl (st_field (o' := o9 + i * 2 + 1) hsD (Ev.tmp h19) rfl hf runUnderlying64 rfl sizeOf3 rfl rfl fun _ _ => hk _ _ _ _ ⟨rfl, rfl⟩)
   · rintro T_ B_ a_ w_ K_ hT hB _ _ ⟨rfl, rfl⟩ h20 - hf hsD hk
     exact ob rfl rfl (st_load1 (o := o9 + i * 2) (off := 1) (v := .int .i64 x8.w) hsD (Ev.tmp h20) rfl hf isAgg3 (hsD.old hc9 (by simp)) rfl fun _ _ => hk _ _ _ _ ⟨rfl, rfl⟩)
   · rintro T_ B_ a_ w_ K_ hT hB _ _ ⟨rfl, rfl⟩ h16 - _ _ ⟨rfl, rfl⟩ h21 - hf hsD hk
     exact ob rfl rfl (st_add (z := x8.c + x8.w) hsD (Ev.tmp h16) (Ev.tmp h21) rfl hf rfl (by have hq := hsm.2 i x8 hx8; have hs0 := sumW_bd hsm i (by omega); omega) fun _ _ => hk _ _ _ _ ⟨rfl, rfl⟩)
   · rintro T_ B_ a_ w_ K_ hT hB _ _ ⟨rfl, rfl⟩ h11 - _ _ ⟨rfl, rfl⟩ h22 - hf hsD hk
     exact ob rfl rfl (st_add (z := (sumW (plan.take i)) + (x8.c + x8.w)) hsD (Ev.tmp h11) (Ev.tmp h22) rfl hf rfl (by have hq := hsm.2 i x8 hx8; have hs0 := sumW_bd hsm i (by omega); omega) fun _ _ => hk _ _ _ _ ⟨rfl, rfl⟩)
   rintro _ _ ⟨rfl, rfl⟩ _ _ ⟨rfl, rfl⟩ _ _ ⟨rfl, rfl⟩ _ _ ⟨rfl, rfl⟩ _ _ ⟨rfl, rfl⟩ _ _ ⟨rfl, rfl⟩ _ _ ⟨rfl, rfl⟩ _ _ ⟨rfl, rfl⟩ _ _ ⟨rfl, rfl⟩ _ _ ⟨rfl, rfl⟩ _ _ ⟨rfl, rfl⟩ _ _ ⟨rfl, rfl⟩ _ _ ⟨rfl, rfl⟩ a_11 w_11 hs11; clear hs10
   have hs12 := Sx.as (T' := [_, _, _, _, _, _, _, _, _, _, _, _, _, _, _, _, _, _]) (B' := []) rfl rfl hs11; clear hs11
   have hs13 := hs12.keep [0, 1, 2, 3, 4, 5, 6, 7, 8, 9, 10, 11, 12, 13, 14, 16, 17] [_, _, _, _, _, _, _, _, _, _, _, _, _, _, _, _, _] rfl; clear hs12
   refine sq rfl (st_assign hs13 (Ev.t 12 rfl) rfl rfl fun _ _ hs14 => ?_); clear hs13
   refine wpListIn_nil ?_
   have hs15 := hs14.keep [0, 15, 16, 17] [_, _, _, _] rfl; clear hs14
   refine in_norm ?_
   refine th_norm (hK10 _ _ ?_)
   refine cd_region1 ?_
   refine sq rfl (st_move hs15 (Ev.t 1 rfl) rfl rfl fun _ _ hs16 => ?_); clear hs15
   refine sq rfl (st_add (z := (i : Int) + 1) hs16 (Ev.t 0 rfl) (.const _) rfl rfl rfl (by omega) fun _ _ hs17 => ?_); clear hs16
   have hs18 := hs17.keep [0, 1, 2, 4, 5] [_, _, _, _, _] rfl; clear hs17
   refine sq rfl (st_assign hs18 (Ev.t 0 rfl) rfl rfl fun _ _ hs19 => ?_); clear hs18
   refine wpListIn_nil ?_
   have hs20 := hs19.keep [0, 3, 4, 5] [_, _, _, _] rfl; clear hs19
   refine ⟨i + 1, ⟨?_, ?_⟩, by omega⟩
   · first | omega | (simp; done) | (simp; omega)
   exact Sx.keepE [0, 1, 2, 3] _ ⟨⟨_, rfl, rfl⟩, ⟨_, rfl, by rw [sumW_snoc hx8]⟩, ⟨_, rfl, rfl⟩, ⟨_, rfl, rfl⟩, trivial⟩ hs20
 · have hall : plan.take i = plan := List.take_of_length_le (by simp at hc7; omega)
   refine cd_exit ?_
   refine th_exit ?_
   refine th_exit ?_
   refine in_hit ?_
   refine th_norm (hK3 _ _ ?_)
   refine cd_region fun K11 hK11 => ?_
   refine sq rfl (st_move hs10 (Ev.t 2 rfl) rfl rfl fun _ _ hs11 => ?_); clear hs10
   have hs12 := hs11.keep [0, 1, 2, 3, 5] [_, _, _, _, _] rfl; clear hs11
   refine sq rfl (st_assign hs12 (Ev.t 0 rfl) rfl rfl fun _ _ hs13 => ?_); clear hs12
   refine hK11 _ _ ?_; clear hK11
   have hs14 := hs13.keep [0] [_] rfl; clear hs13
   refine cd_retv (vs := [.int .i64 (sumW (plan.take i))]) hs14 hQ0 rfl ⟨.tmp 0 rfl, trivial⟩ ?_
   clear hs14 hQ0 hN0
   rw [hall]; rfl

theorem many_v (A2 : Option Addr) (m c2 : Nat) (plan : List Walks) (w : World) (hL : PlanAt w A2 m plan) (hm : m ≤ 140737488351232) (hsm : SmallP plan) :
    CallsV Tryd.prog 41 [.slice A2 m c2] w (.int .i64 (sumW plan)) := by
 have hl1 := hL.len
 have hl100 := hsm.1
 refine enter (N := 25) (M := []) w func41 rfl rfl rfl (fun Q0 a_0 hQ0 hN0 hs0 => ?_)
 refine cd_region fun K1 hK1 => ?_
 refine sq rfl (st_assign hs0 (.const _) rfl rfl fun _ _ hs1 => ?_); clear hs0
 refine hK1 _ _ ?_; clear hK1
 refine cd_region fun K2 hK2 => ?_
 refine sq rfl (st_assign hs1 (.const _) rfl rfl fun _ _ hs2 => ?_); clear hs1
 refine hK2 _ _ ?_; clear hK2
 refine cd_seq fun K3 hK3 => ?_
 refine cd_region fun K4 hK4 => ?_
 refine sq rfl (st_assign hs2 (.const _) rfl rfl fun _ _ hs3 => ?_); clear hs2
 refine hK4 _ _ ?_; clear hK4
 refine cd_block ?_
 have hs4 : Sx 25 [] [(4, .int .i64 (0 : Int)), (3, .int .i64 (sumW (plan.take 0))), (2, .int .i64 0), (0, .slice A2 m c2)] [] [] w _ _ := Sx.keepE [0, 1, 2, 3] _ ⟨⟨_, rfl, rfl⟩, ⟨_, rfl, by simp [sumW]⟩, ⟨_, rfl, rfl⟩, ⟨_, rfl, rfl⟩, trivial⟩ hs3; clear hs3
 refine cd_loop (X := Nat) (fun i a_ w_ => (i ≤ m) ∧ Sx 25 [] [(4, .int .i64 (i : Int)), (3, .int .i64 (sumW (plan.take i))), (2, .int .i64 0), (0, .slice A2 m c2)] [] [] w a_ w_) (fun i => m - i) (0) ⟨?_, hs4⟩ ?_
 · first | omega | simp
 intro i a_5 w_5 ⟨hi, hs5⟩; clear hs4
 refine cd_seq fun K5 hK5 => ?_
 refine cd_region fun K6 hK6 => ?_
 refine sq rfl (st_move hs5 (Ev.t 0 rfl) rfl rfl fun _ _ hs6 => ?_); clear hs5
 refine sq rfl (st_move hs6 (Ev.t 4 rfl) rfl rfl fun _ _ hs7 => ?_); clear hs6
 refine sq rfl (st_len hs7 (Ev.t 0 rfl) rfl rfl runUnderlying28 fun _ _ hs8 => ?_); clear hs7
 refine sq rfl (st_cmp (c := decide (((i : Int) : Int) < (m : Int))) hs8 (Ev.t 2 rfl) (Ev.t 0 rfl) rfl rfl rfl rfl fun _ _ hs9 => ?_); clear hs8
 refine hK6 _ _ ?_; clear hK6
 have hs10 := hs9.keep [0, 4, 5, 6, 7] [_, _, _, _, _] rfl; clear hs9
 refine cd_cond hs10 (Ev.t 0 rfl) (fun hc7 => ?_) (fun hc7 => ?_)
 · simp only [decide_eq_true_eq] at hc7
   obtain ⟨x8, hx8⟩ : ∃ x, plan[i]? = some x := ⟨_, List.getElem?_eq_getElem (by have := hL.len; omega)⟩
   obtain ⟨b9, o9, hA9, -, hc9⟩ := hL.el i x8 hx8
   refine cd_skip ?_
   refine th_norm (hK5 _ _ ?_)
   refine cd_seq fun K10 hK10 => ?_
   refine cd_block ?_
   refine cd_drawn1 mixed hs10 [⟨11, [], Is (.int .i64 (sumW (plan.take i)))⟩, ⟨12, [], Is (.slice A2 m c2)⟩, ⟨13, [], Is (.int .i64 (i : Int))⟩, ⟨14, [1, 2], Is (.pointer (some ⟨b9, o9 + i * 2, none⟩))⟩, ⟨15, [3], Is (.pointer (some ⟨b9, o9 + i * 2, none⟩))⟩, ⟨16, [4], Is (.int .i64 x8.c)⟩, ⟨17, [], Is (.slice A2 m c2)⟩, ⟨18, [], Is (.int .i64 (i : Int))⟩, ⟨19, [6, 7], Is (.pointer (some ⟨b9, o9 + i * 2, none⟩))⟩, ⟨20, [8], Is (.pointer (some ⟨b9, o9 + i * 2 + 1, none⟩))⟩, ⟨21, [9], Is (.int .i64 x8.w)⟩, ⟨22, [5, 10], Is (.int .i64 (x8.c + x8.w))⟩, ⟨23, [0, 11], Is (.int .i64 ((sumW (plan.take i)) + (x8.c + x8.w)))⟩] (by kernel_rfl) (by kernel_rfl) ⟨⟨?_, ?_, ?_, ?_, ?_, ?_, ?_, ?_, ?_, ?_, ?_, ?_, ?_, trivial⟩, ?_⟩
   · rintro T_ B_ a_ w_ K_ hT hB hf hsD hk
     exact ob rfl rfl (st_move hsD (evT hT 2 rfl) rfl hf fun _ _ => hk _ _ _ _ ⟨rfl, rfl⟩)
   · rintro T_ B_ a_ w_ K_ hT hB hf hsD hk
     exact ob rfl rfl (st_move hsD (evT hT 4 rfl) rfl hf fun _ _ => hk _ _ _ _ ⟨rfl, rfl⟩)
   · rintro T_ B_ a_ w_ K_ hT hB hf hsD hk
     exact ob rfl rfl (st_move hsD (evT hT 1 rfl) rfl hf fun _ _ => hk _ _ _ _ ⟨rfl, rfl⟩)
   · rintro T_ B_ a_ w_ K_ hT hB _ _ ⟨rfl, rfl⟩ h12 - _ _ ⟨rfl, rfl⟩ h13 - hf hsD hk
     exact ob rfl rfl (st_indexM (o' := o9 + i * 2) hsD (Ev.tmp h12) (Ev.tmp h13) rfl hf hA9 runUnderlying28 sizeOf64 ⟨by omega, by have := hL.len; have := (List.getElem?_eq_some_iff.1 hx8).1; omega⟩ rfl fun _ _ => hk _ _ _ _ ⟨rfl, rfl⟩)
   · rintro T_ B_ a_ w_ K_ hT hB _ _ ⟨rfl, rfl⟩ h14 - hf hsD hk
     exact ob rfl rfl (st_field (o' := o9 + i * 2) hsD (Ev.tmp h14) rfl hf runUnderlying64 rfl sizeOf3 rfl rfl fun _ _ => hk _ _ _ _ ⟨rfl, rfl⟩)
   · rintro T_ B_ a_ w_ K_ hT hB _ _ ⟨rfl, rfl⟩ h15 - hf hsD hk
     exact ob rfl rfl (st_load1 (o := o9 + i * 2) (off := 0) (v := .int .i64 x8.c) hsD (Ev.tmp h15) rfl hf isAgg3 (hsD.old hc9 (by simp)) rfl fun _ _ => hk _ _ _ _ ⟨rfl, rfl⟩)
   · rintro T_ B_ a_ w_ K_ hT hB hf hsD hk
     exact ob rfl rfl (st_move hsD (evT hT 4 rfl) rfl hf fun _ _ => hk _ _ _ _ ⟨rfl, rfl⟩)
   · rintro T_ B_ a_ w_ K_ hT hB hf hsD hk
     exact ob rfl rfl (st_move hsD (evT hT 1 rfl) rfl hf fun _ _ => hk _ _ _ _ ⟨rfl, rfl⟩)
   · rintro T_ B_ a_ w_ K_ hT hB _ _ ⟨rfl, rfl⟩ h17 - _ _ ⟨rfl, rfl⟩ h18 - hf hsD hk
     exact ob rfl rfl (st_indexM (o' := o9 + i * 2) hsD (Ev.tmp h17) (Ev.tmp h18) rfl hf hA9 runUnderlying28 sizeOf64 ⟨by omega, by have := hL.len; have := (List.getElem?_eq_some_iff.1 hx8).1; omega⟩ rfl fun _ _ => hk _ _ _ _ ⟨rfl, rfl⟩)
   · rintro T_ B_ a_ w_ K_ hT hB _ _ ⟨rfl, rfl⟩ h19 - hf hsD hk
     exact ob rfl rfl (st_field (o' := o9 + i * 2 + 1) hsD (Ev.tmp h19) rfl hf runUnderlying64 rfl sizeOf3 rfl rfl fun _ _ => hk _ _ _ _ ⟨rfl, rfl⟩)
   · rintro T_ B_ a_ w_ K_ hT hB _ _ ⟨rfl, rfl⟩ h20 - hf hsD hk
     exact ob rfl rfl (st_load1 (o := o9 + i * 2) (off := 1) (v := .int .i64 x8.w) hsD (Ev.tmp h20) rfl hf isAgg3 (hsD.old hc9 (by simp)) rfl fun _ _ => hk _ _ _ _ ⟨rfl, rfl⟩)
   · rintro T_ B_ a_ w_ K_ hT hB _ _ ⟨rfl, rfl⟩ h16 - _ _ ⟨rfl, rfl⟩ h21 - hf hsD hk
     exact ob rfl rfl (st_add (z := x8.c + x8.w) hsD (Ev.tmp h16) (Ev.tmp h21) rfl hf rfl (by have hq := hsm.2 i x8 hx8; have hs0 := sumW_bd hsm i (by omega); omega) fun _ _ => hk _ _ _ _ ⟨rfl, rfl⟩)
   · rintro T_ B_ a_ w_ K_ hT hB _ _ ⟨rfl, rfl⟩ h11 - _ _ ⟨rfl, rfl⟩ h22 - hf hsD hk
     exact ob rfl rfl (st_add (z := (sumW (plan.take i)) + (x8.c + x8.w)) hsD (Ev.tmp h11) (Ev.tmp h22) rfl hf rfl (by have hq := hsm.2 i x8 hx8; have hs0 := sumW_bd hsm i (by omega); omega) fun _ _ => hk _ _ _ _ ⟨rfl, rfl⟩)
   rintro _ _ ⟨rfl, rfl⟩ _ _ ⟨rfl, rfl⟩ _ _ ⟨rfl, rfl⟩ _ _ ⟨rfl, rfl⟩ _ _ ⟨rfl, rfl⟩ _ _ ⟨rfl, rfl⟩ _ _ ⟨rfl, rfl⟩ _ _ ⟨rfl, rfl⟩ _ _ ⟨rfl, rfl⟩ _ _ ⟨rfl, rfl⟩ _ _ ⟨rfl, rfl⟩ _ _ ⟨rfl, rfl⟩ _ _ ⟨rfl, rfl⟩ a_11 w_11 hs11; clear hs10
   have hs12 := Sx.as (T' := [_, _, _, _, _, _, _, _, _, _, _, _, _, _, _, _, _, _]) (B' := []) rfl rfl hs11; clear hs11
   have hs13 := hs12.keep [0, 1, 2, 3, 4, 5, 6, 7, 8, 9, 10, 11, 12, 13, 14, 16, 17] [_, _, _, _, _, _, _, _, _, _, _, _, _, _, _, _, _] rfl; clear hs12
   refine sq rfl (st_assign hs13 (Ev.t 12 rfl) rfl rfl fun _ _ hs14 => ?_); clear hs13
   refine wpListIn_nil ?_
   have hs15 := hs14.keep [0, 15, 16, 17] [_, _, _, _] rfl; clear hs14
   refine in_norm ?_
   refine th_norm (hK10 _ _ ?_)
   refine cd_region1 ?_
   refine sq rfl (st_move hs15 (Ev.t 1 rfl) rfl rfl fun _ _ hs16 => ?_); clear hs15
   refine sq rfl (st_add (z := (i : Int) + 1) hs16 (Ev.t 0 rfl) (.const _) rfl rfl rfl (by omega) fun _ _ hs17 => ?_); clear hs16
   have hs18 := hs17.keep [0, 1, 2, 4, 5] [_, _, _, _, _] rfl; clear hs17
   refine sq rfl (st_assign hs18 (Ev.t 0 rfl) rfl rfl fun _ _ hs19 => ?_); clear hs18
   refine wpListIn_nil ?_
   have hs20 := hs19.keep [0, 3, 4, 5] [_, _, _, _] rfl; clear hs19
   refine ⟨i + 1, ⟨?_, ?_⟩, by omega⟩
   · first | omega | (simp; done) | (simp; omega)
   exact Sx.keepE [0, 1, 2, 3] _ ⟨⟨_, rfl, rfl⟩, ⟨_, rfl, by rw [sumW_snoc hx8]⟩, ⟨_, rfl, rfl⟩, ⟨_, rfl, rfl⟩, trivial⟩ hs20
 · have hall : plan.take i = plan := List.take_of_length_le (by simp at hc7; omega)
   refine cd_exit ?_
   refine th_exit ?_
   refine th_exit ?_
   refine in_hit ?_
   refine th_norm (hK3 _ _ ?_)
   refine cd_region fun K11 hK11 => ?_
   refine sq rfl (st_move hs10 (Ev.t 2 rfl) rfl rfl fun _ _ hs11 => ?_); clear hs10
   have hs12 := hs11.keep [0, 1, 2, 3, 5] [_, _, _, _, _] rfl; clear hs11
   refine sq rfl (st_assign hs12 (Ev.t 0 rfl) rfl rfl fun _ _ hs13 => ?_); clear hs12
   refine hK11 _ _ ?_; clear hK11
   have hs14 := hs13.keep [0] [_] rfl; clear hs13
   refine cd_retv (vs := [.int .i64 (sumW (plan.take i))]) hs14 hQ0 rfl ⟨.tmp 0 rfl, trivial⟩ ?_
   clear hs14 hQ0 hN0
   rw [hall]; rfl

theorem samePlans_v (A2 : Option Addr) (m c2 : Nat) (plan : List Walks) (A3 : Option Addr) (m3 c3 : Nat) (pl3 : List Walks) (w : World) (hL : PlanAt w A2 m plan) (hm : m ≤ 140737488351232) (hR : PlanAt w A3 m3 pl3) (_hm3 : m3 ≤ 140737488351232) :
    CallsV Tryd.prog 25 [.slice A2 m c2, .slice A3 m3 c3] w (.bool (samePl plan pl3)) := by
 refine enter (N := 31) (M := []) w func25 rfl rfl rfl (fun Q0 a_0 hQ0 hN0 hs0 => ?_)
 refine cd_region fun K1 hK1 => ?_
 refine sq rfl (st_assign hs0 (.const _) rfl rfl fun _ _ hs1 => ?_); clear hs0
 refine hK1 _ _ ?_; clear hK1
 refine cd_region fun K2 hK2 => ?_
 refine sq rfl (st_move hs1 (Ev.t 1 rfl) rfl rfl fun _ _ hs2 => ?_); clear hs1
 refine sq rfl (st_len hs2 (Ev.t 0 rfl) rfl rfl runUnderlying28 fun _ _ hs3 => ?_); clear hs2
 refine sq rfl (st_move hs3 (Ev.t 4 rfl) rfl rfl fun _ _ hs4 => ?_); clear hs3
 refine sq rfl (st_len hs4 (Ev.t 0 rfl) rfl rfl runUnderlying28 fun _ _ hs5 => ?_); clear hs4
 refine sq rfl (st_cmp (c := ((m : Int) : Int) == (m3 : Int)) hs5 (Ev.t 2 rfl) (Ev.t 0 rfl) rfl rfl rfl rfl fun _ _ hs6 => ?_); clear hs5
 refine sq rfl (st_assign hs6 (Ev.t 0 rfl) rfl rfl fun _ _ hs7 => ?_); clear hs6
 refine hK2 _ _ ?_; clear hK2
 have hs8 := hs7.keep [0, 6, 7, 8] [_, _, _, _] rfl; clear hs7
 by_cases hlen : (m : Int) = (m3 : Int)
 · skip
   have hl1 := hL.len; have hl2 := hR.len; have hz : (plan.zip pl3).length = m := by rw [List.length_zip]; omega
   have hs9 := Sx.keepE [0, 1, 2, 3] [(5, .bool (((plan.zip pl3).take 0).all (fun q => sameW q.1 q.2))), (4, _), (0, _), (1, _)] ⟨⟨_, rfl, by simp [hlen]⟩, ⟨_, rfl, rfl⟩, ⟨_, rfl, rfl⟩, ⟨_, rfl, rfl⟩, trivial⟩ hs8; clear hs8
   refine cd_seq fun K3 hK3 => ?_
   refine cd_region fun K4 hK4 => ?_
   refine sq rfl (st_assign hs9 (.const _) rfl rfl fun _ _ hs10 => ?_); clear hs9
   refine hK4 _ _ ?_; clear hK4
   refine cd_block ?_
   have hs11 : Sx 31 [] [(6, .int .i64 (0 : Int)), (5, .bool (((plan.zip pl3).take 0).all (fun q => sameW q.1 q.2))), (4, .bool false), (0, .slice A2 m c2), (1, .slice A3 m3 c3)] [] [] w _ _ := Sx.keepE [0, 1, 2, 3, 4] _ ⟨⟨_, rfl, rfl⟩, ⟨_, rfl, rfl⟩, ⟨_, rfl, rfl⟩, ⟨_, rfl, rfl⟩, ⟨_, rfl, rfl⟩, trivial⟩ hs10; clear hs10
   refine cd_loop (X := Nat) (fun i a_ w_ => (i ≤ m) ∧ Sx 31 [] [(6, .int .i64 (i : Int)), (5, .bool (((plan.zip pl3).take i).all (fun q => sameW q.1 q.2))), (4, .bool false), (0, .slice A2 m c2), (1, .slice A3 m3 c3)] [] [] w a_ w_) (fun i => m - i) (0) ⟨?_, hs11⟩ ?_
   · first | omega | simp
   intro i a_12 w_12 ⟨hi, hs12⟩; clear hs11
   refine cd_seq fun K5 hK5 => ?_
   refine cd_region fun K6 hK6 => ?_
   refine sq rfl (st_move hs12 (Ev.t 1 rfl) rfl rfl fun _ _ hs13 => ?_); clear hs12
   refine sq rfl (st_move hs13 (Ev.t 0 rfl) rfl rfl fun _ _ hs14 => ?_); clear hs13
   refine sq_gv hs14 (gg := ((plan.zip pl3).take i).all (fun q => sameW q.1 q.2)) (v := .int .i64 (i : Int)) rfl rfl 0 rfl (ison_t _) rfl rfl rfl (fun hg7 K8 hK8 => st_move hs14 (Ev.t 2 rfl) rfl rfl hK8) fun _ _ hs15 => ?_; clear hs14
   refine sq_gv hs15 (gg := ((plan.zip pl3).take i).all (fun q => sameW q.1 q.2)) (v := .slice A2 m c2) rfl rfl 1 rfl (ison_t _) rfl rfl rfl (fun hg9 K10 hK10 => st_move hs15 (Ev.t 6 rfl) rfl rfl hK10) fun _ _ hs16 => ?_; clear hs15
   refine sq_gv hs16 (gg := ((plan.zip pl3).take i).all (fun q => sameW q.1 q.2)) (v := .int .i64 (m : Int)) rfl rfl 2 rfl (ison_t _) rfl rfl rfl (fun hg11 K12 hK12 => st_len hs16 ((Ev.t 0 rfl).un hg11) rfl rfl runUnderlying28 hK12) fun _ _ hs17 => ?_; clear hs16
   refine sq_gv hs17 (gg := ((plan.zip pl3).take i).all (fun q => sameW q.1 q.2)) (v := .bool (decide (((i : Int) : Int) < (m : Int)))) rfl rfl 3 rfl (ison_t _) rfl rfl rfl (fun hg13 K14 hK14 => st_cmp (c := decide (((i : Int) : Int) < (m : Int))) hs17 ((Ev.t 2 rfl).un hg13) ((Ev.t 0 rfl).un hg13) rfl rfl rfl rfl hK14) fun _ _ hs18 => ?_; clear hs17
   refine sq rfl (st_and hs18 (gx := true) (gy := ((plan.zip pl3).take i).all (fun q => sameW q.1 q.2)) (Ev.t 4 rfl) rfl (Ev.t 0 rfl) (fun h => h) rfl rfl fun _ _ hs19 => ?_); clear hs18
   refine hK6 _ _ ?_; clear hK6
   have hs20 := hs19.keep [0, 7, 8, 9, 10, 11] [_, _, _, _, _, _] rfl; clear hs19
   refine cd_cond hs20 (Ev.t 0 rfl) (fun hc15 => ?_) (fun hc15 => ?_)
   · simp only [Bool.and_eq_true, decide_eq_true_eq] at hc15
     have hok1 := hc15.1
     have hi2 := hc15.2
     obtain ⟨x16, hx16⟩ : ∃ x, plan[i]? = some x := ⟨_, List.getElem?_eq_getElem (by have := hL.len; omega)⟩
     obtain ⟨b17, o17, hA17, -, hc17⟩ := hL.el i x16 hx16
     obtain ⟨x18, hx18⟩ : ∃ x, pl3[i]? = some x := ⟨_, List.getElem?_eq_getElem (by have := hR.len; omega)⟩
     obtain ⟨b19, o19, hA19, -, hc19⟩ := hR.el i x18 hx18
     refine cd_skip ?_
     refine th_norm (hK5 _ _ ?_)
     refine cd_seq fun K20 hK20 => ?_
     refine cd_block ?_
     refine cd_drawn1 mixed hs20 [⟨21, [], Is (.slice A2 m c2)⟩, ⟨22, [], Is (.int .i64 (i : Int))⟩, ⟨23, [0, 1], Is (.pointer (some ⟨b17, o17 + i * 2, none⟩))⟩, ⟨24, [2], Is (.agg ⟨(walksL x16)⟩)⟩, ⟨25, [], Is (.slice A3 m3 c3)⟩, ⟨26, [], Is (.int .i64 (i : Int))⟩, ⟨27, [4, 5], Is (.pointer (some ⟨b19, o19 + i * 2, none⟩))⟩, ⟨28, [6], Is (.agg ⟨(walksL x18)⟩)⟩, ⟨29, [3, 7], Is (.bool (((x16.c : Int) == x18.c) && ((x16.w : Int) == x18.w)))⟩] (by kernel_rfl) (by kernel_rfl) ⟨⟨?_, ?_, ?_, ?_, ?_, ?_, ?_, ?_, ?_, trivial⟩, ?_⟩
     · rintro T_ B_ a_ w_ K_ hT hB hf hsD hk
       exact ob rfl rfl (st_move hsD (evT hT 4 rfl) rfl hf fun _ _ => hk _ _ _ _ ⟨rfl, rfl⟩)
     · rintro T_ B_ a_ w_ K_ hT hB hf hsD hk
       exact ob rfl rfl (st_move hsD (evT hT 1 rfl) rfl hf fun _ _ => hk _ _ _ _ ⟨rfl, rfl⟩)
     · rintro T_ B_ a_ w_ K_ hT hB _ _ ⟨rfl, rfl⟩ h21 - _ _ ⟨rfl, rfl⟩ h22 - hf hsD hk
       exact ob rfl rfl (st_indexM (o' := o17 + i * 2) hsD (Ev.tmp h21) (Ev.tmp h22) rfl hf hA17 runUnderlying28 sizeOf64 ⟨by omega, by have := hL.len; have := (List.getElem?_eq_some_iff.1 hx16).1; omega⟩ rfl fun _ _ => hk _ _ _ _ ⟨rfl, rfl⟩)
     · rintro T_ B_ a_ w_ K_ hT hB _ _ ⟨rfl, rfl⟩ h23 - hf hsD hk
       exact ob rfl rfl (st_loadA (o := o17 + i * 2) (off := 0) (vs := (walksL x16)) hsD (Ev.tmp h23) rfl hf isAgg64 sizeOf64 (hsD.old hc17 (by simp)) rfl fun _ _ => hk _ _ _ _ ⟨rfl, rfl⟩)
     · rintro T_ B_ a_ w_ K_ hT hB hf hsD hk
       exact ob rfl rfl (st_move hsD (evT hT 5 rfl) rfl hf fun _ _ => hk _ _ _ _ ⟨rfl, rfl⟩)
     · rintro T_ B_ a_ w_ K_ hT hB hf hsD hk
       exact ob rfl rfl (st_move hsD (evT hT 1 rfl) rfl hf fun _ _ => hk _ _ _ _ ⟨rfl, rfl⟩)
     · rintro T_ B_ a_ w_ K_ hT hB _ _ ⟨rfl, rfl⟩ h25 - _ _ ⟨rfl, rfl⟩ h26 - hf hsD hk
       exact ob rfl rfl (st_indexM (o' := o19 + i * 2) hsD (Ev.tmp h25) (Ev.tmp h26) rfl hf hA19 runUnderlying28 sizeOf64 ⟨by omega, by have := hR.len; have := (List.getElem?_eq_some_iff.1 hx18).1; omega⟩ rfl fun _ _ => hk _ _ _ _ ⟨rfl, rfl⟩)
     · rintro T_ B_ a_ w_ K_ hT hB _ _ ⟨rfl, rfl⟩ h27 - hf hsD hk
       exact ob rfl rfl (st_loadA (o := o19 + i * 2) (off := 0) (vs := (walksL x18)) hsD (Ev.tmp h27) rfl hf isAgg64 sizeOf64 (hsD.old hc19 (by simp)) rfl fun _ _ => hk _ _ _ _ ⟨rfl, rfl⟩)
     · rintro T_ B_ a_ w_ K_ hT hB _ _ ⟨rfl, rfl⟩ h24 - _ _ ⟨rfl, rfl⟩ h28 - hf hsD hk
       exact ob rfl rfl (st_bin hsD (Ev.tmp h24) (Ev.tmp h28) (run_eql_64 _ _ x16.c x16.w x18.c x18.w) rfl hf fun _ _ => hk _ _ _ _ ⟨rfl, rfl⟩)
     rintro _ _ ⟨rfl, rfl⟩ _ _ ⟨rfl, rfl⟩ _ _ ⟨rfl, rfl⟩ _ _ ⟨rfl, rfl⟩ _ _ ⟨rfl, rfl⟩ _ _ ⟨rfl, rfl⟩ _ _ ⟨rfl, rfl⟩ _ _ ⟨rfl, rfl⟩ _ _ ⟨rfl, rfl⟩ a_21 w_21 hs21; clear hs20
     have hs22 := Sx.as (T' := [_, _, _, _, _, _, _, _, _, _, _, _, _, _, _]) (B' := []) rfl rfl hs21; clear hs21
     have hs23 := hs22.keep [0, 1, 2, 3, 4, 5, 6, 7, 8, 9, 10, 12, 13, 14] [_, _, _, _, _, _, _, _, _, _, _, _, _, _] rfl; clear hs22
     refine sq rfl (st_assign hs23 (Ev.t 8 rfl) rfl rfl fun _ _ hs24 => ?_); clear hs23
     refine wpListIn_nil ?_
     have hs25 := hs24.keep [0, 11, 12, 13, 14] [_, _, _, _, _] rfl; clear hs24
     refine in_norm ?_
     refine th_norm (hK20 _ _ ?_)
     refine cd_region1 ?_
     refine sq rfl (st_move hs25 (Ev.t 1 rfl) rfl rfl fun _ _ hs26 => ?_); clear hs25
     refine sq rfl (st_add (z := (i : Int) + 1) hs26 (Ev.t 0 rfl) (.const _) rfl rfl rfl (by omega) fun _ _ hs27 => ?_); clear hs26
     have hs28 := hs27.keep [0, 1, 2, 4, 5, 6] [_, _, _, _, _, _] rfl; clear hs27
     refine sq rfl (st_assign hs28 (Ev.t 0 rfl) rfl rfl fun _ _ hs29 => ?_); clear hs28
     refine wpListIn_nil ?_
     have hs30 := hs29.keep [0, 3, 4, 5, 6] [_, _, _, _, _] rfl; clear hs29
     refine ⟨i + 1, ⟨?_, ?_⟩, by omega⟩
     · first | omega | (simp; done) | (simp; omega)
     exact Sx.keepE [0, 1, 2, 3, 4] _ ⟨⟨_, rfl, rfl⟩, ⟨_, rfl, by rw [all_snoc (zip_at hx16 hx18), hok1]; simp [sameW]⟩, ⟨_, rfl, rfl⟩, ⟨_, rfl, rfl⟩, ⟨_, rfl, rfl⟩, trivial⟩ hs30
   · have hall := take_done hz hc15
     refine cd_exit ?_
     refine th_exit ?_
     refine th_exit ?_
     refine in_hit ?_
     refine th_norm (hK3 _ _ ?_)
     refine cd_region fun K21 hK21 => ?_
     refine sq rfl (st_move hs20 (Ev.t 2 rfl) rfl rfl fun _ _ hs21 => ?_); clear hs20
     have hs22 := hs21.keep [0, 1, 2, 3, 5, 6] [_, _, _, _, _, _] rfl; clear hs21
     refine sq rfl (st_assign hs22 (Ev.t 0 rfl) rfl rfl fun _ _ hs23 => ?_); clear hs22
     refine hK21 _ _ ?_; clear hK21
     have hs24 := hs23.keep [0] [_] rfl; clear hs23
     refine cd_retv (vs := [.bool (((plan.zip pl3).take i).all (fun q => sameW q.1 q.2))]) hs24 hQ0 rfl ⟨.tmp 0 rfl, trivial⟩ ?_
     clear hs24 hQ0 hN0
     show Value.bool _ = Value.bool _
     first | (rw [hall]; have e : plan.length = pl3.length := (by omega); simp [samePl, e]; done) | (have e : plan.length ≠ pl3.length := (by omega); simp [samePl, e])
 · skip
   have hl1 := hL.len; have hl2 := hR.len
   have hs9 := Sx.keepE [0, 1, 2, 3] [(5, .bool false), (4, _), (0, _), (1, _)] ⟨⟨_, rfl, by simp [hlen]⟩, ⟨_, rfl, rfl⟩, ⟨_, rfl, rfl⟩, ⟨_, rfl, rfl⟩, trivial⟩ hs8; clear hs8
   refine cd_seq fun K22 hK22 => ?_
   refine cd_region fun K23 hK23 => ?_
   refine sq rfl (st_assign hs9 (.const _) rfl rfl fun _ _ hs10 => ?_); clear hs9
   refine hK23 _ _ ?_; clear hK23
   refine cd_block ?_
   refine cd_rounds 1 ?_
   refine cd_round fun K24 hK24 => ?_
   refine cd_seq fun K25 hK25 => ?_
   refine cd_region fun K26 hK26 => ?_
   refine sq rfl (st_move hs10 (Ev.t 1 rfl) rfl rfl fun _ _ hs11 => ?_); clear hs10
   refine sq rfl (st_move hs11 (Ev.t 0 rfl) rfl rfl fun _ _ hs12 => ?_); clear hs11
   refine sq_off hs12 rfl rfl 0 rfl rfl rfl rfl rfl fun _ _ hs13 => ?_; clear hs12
   refine sq_off hs13 rfl rfl 1 rfl rfl rfl rfl rfl fun _ _ hs14 => ?_; clear hs13
   refine sq_off hs14 rfl rfl 2 rfl rfl rfl rfl rfl fun _ _ hs15 => ?_; clear hs14
   refine sq_off hs15 rfl rfl 3 rfl rfl rfl rfl rfl fun _ _ hs16 => ?_; clear hs15
   refine sq rfl (st_pick hs16 (Ev.t 4 rfl) rfl rfl (fun h => by cases h) (fun h => (.const _)) fun _ _ hs17 => ?_); clear hs16
   refine hK26 _ _ ?_; clear hK26
   have hs18 := hs17.keep [0, 7, 8, 9, 10, 11] [_, _, _, _, _, _] rfl; clear hs17
   have hc27 : false = false := rfl
   refine cd_cond hs18 (Ev.t 0 rfl) (fun h => absurd (hc27.symm.trans h) (by decide)) (fun _ => ?_)
   refine cd_exit ?_
   refine th_exit ?_
   refine th_exit ?_
   refine in_hit ?_
   refine th_norm (hK22 _ _ ?_)
   refine cd_region fun K28 hK28 => ?_
   refine sq rfl (st_move hs18 (Ev.t 2 rfl) rfl rfl fun _ _ hs19 => ?_); clear hs18
   have hs20 := hs19.keep [0, 1, 2, 3, 5, 6] [_, _, _, _, _, _] rfl; clear hs19
   refine sq rfl (st_assign hs20 (Ev.t 0 rfl) rfl rfl fun _ _ hs21 => ?_); clear hs20
   refine hK28 _ _ ?_; clear hK28
   have hs22 := hs21.keep [0] [_] rfl; clear hs21
   refine cd_retv (vs := [.bool false]) hs22 hQ0 rfl ⟨.tmp 0 rfl, trivial⟩ ?_
   clear hs22 hQ0 hN0
   show Value.bool _ = Value.bool _
   first | (rw [hall]; have e : plan.length = pl3.length := (by omega); simp [samePl, e]; done) | (have e : plan.length ≠ pl3.length := (by omega); simp [samePl, e])
end Go.Proofs.YtdbcedmofoakmaaDoor
