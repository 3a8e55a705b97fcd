/- The till: Sold, Ask. -/
import Derived.Test.YtcnndpedeofbmaaDoorUf
set_option maxRecDepth 100000
namespace Go.Proofs.YtcnndpedeofbmaaDoor
open Go Go.Sx Go.Till Go.Proofs.Tryd
theorem Sold_no (b : Bx) (A : Option Addr) (n cp : Nat) (A2 : Option Addr) (n2 c2 : Nat) (k : Int) (hne : b.asked (isRoll b k) ≠ 0) (w : World) (hP : RollsAt w A n b.rolls) (hn : n ≤ 140737488351232) (hF : SpsAt w A2 n2 b.free) (hn2 : n2 ≤ 140737488351232) :
    CallsV Tryd.prog 18 [.agg ⟨(bxL b A n cp A2 n2 c2)⟩, .int .i64 k] w (.tuple ⟨[.agg ⟨[.int .i64 ((b.soldR k).1.lo), .int .i64 ((b.soldR k).1.hi)]⟩, .int .i64 ((b.soldR k).2)]⟩) := by
 refine enter (N := 40) (M := []) w func18 rfl rfl rfl (fun Q0 a_0 hQ0 hN0 hs0 => ?_)
 rcases asked_cases hne with hok | ⟨hok, hrt⟩ | ⟨hok, hrt, hm0⟩
 · skip
   refine cd_region fun K1 hK1 => ?_
   refine sq rfl (st_box hs0 (Ev.t 0 rfl) rfl rfl rfl fun b2 _ _ hs1 => ?_); clear hs0
   refine sq rfl (st_box hs1 (Ev.t 2 rfl) rfl rfl rfl fun b3 _ _ hs2 => ?_); clear hs1
   refine sq rfl (st_alloc hs2 rfl rfl zeroValue35 rfl fun b4 _ _ hs3 => ?_); clear hs2
   refine sq rfl (st_assign hs3 (.const _) rfl rfl fun _ _ hs4 => ?_); clear hs3
   refine hK1 _ _ ?_; clear hK1
   have hs5 := hs4.keep [0, 1, 2, 3] [_, _, _, _] rfl; clear hs4
   refine cd_drawS mixed [8, 9] ⟨Nat, fun n_ x_ => match n_ with | 0 => [] | 1 => [(6, .pointer (some ⟨x_, 0, none⟩))] | _ => [(6, .pointer (some ⟨x_, 0, none⟩))], fun n_ x_ => match n_ with | 0 => [] | 1 => [(x_, some (.cells ⟨[.slice none 0 0, .slice none 0 0, .int .i64 0, .int .i64 0, .int .i64 0, .int .i64 0, .int .i64 0, .slice none 0 0, .map none]⟩ 66 (0, 0)))] | _ => [(x_, some (.cells ⟨[.slice none 0 0, .slice none 0 0, .int .i64 0, .int .i64 0, .int .i64 0, .int .i64 0, .int .i64 0, .slice none 0 0, .map none]⟩ 66 (0, 0)))]⟩ (0 : Nat) hs5 [⟨11, [], Is (.agg ⟨(bxL b A n cp A2 n2 c2)⟩)⟩, ⟨12, [], Is (.agg ⟨(bxL b A n cp A2 n2 c2)⟩)⟩, ⟨13, [], Is (.int .i64 k)⟩, ⟨14, [1, 2], Is (.bool (isRoll b k))⟩, ⟨15, [0, 3], Is (.tuple ⟨[.agg ⟨[.slice none 0 0, .slice none 0 0, .int .i64 0, .int .i64 0, .int .i64 0, .int .i64 0, .int .i64 0, .slice none 0 0, .map none]⟩, .int .i64 90]⟩)⟩, ⟨10, [4], Is (.tuple ⟨[.agg ⟨[.slice none 0 0, .slice none 0 0, .int .i64 0, .int .i64 0, .int .i64 0, .int .i64 0, .int .i64 0, .slice none 0 0, .map none]⟩, .int .i64 90]⟩)⟩, ⟨16, [5], Is (.agg ⟨[.slice none 0 0, .slice none 0 0, .int .i64 0, .int .i64 0, .int .i64 0, .int .i64 0, .int .i64 0, .slice none 0 0, .map none]⟩)⟩, ⟨17, [5], Is (.int .i64 90)⟩, ⟨6, [], Is undef⟩, ⟨49, [6], Is undef⟩] (by kernel_rfl) (fun n_ _ => by rcases n_ with _ | _ | _ <;> rfl) (by kernel_rfl) fun K5 hK5 => ⟨⟨?_, ?_, ?_, ?_, ?_, ?_, ?_, ?_, ?_, ?_, trivial⟩, ?_⟩
   · rintro T_ B_ a_ w_ K_ hT hB hf hsD hk
     exact ob rfl rfl (st_loadA (o := 0) (off := 0) (vs := (bxL b A n cp A2 n2 c2)) hsD (evT hT 3 rfl) rfl hf isAgg25 sizeOf25 (hsD.cellsM (inB hB 2 rfl)) rfl fun _ _ => hk _ _ _ _ ⟨rfl, rfl⟩)
   · rintro T_ B_ a_ w_ K_ hT hB hf hsD hk
     exact ob rfl rfl (st_loadA (o := 0) (off := 0) (vs := (bxL b A n cp A2 n2 c2)) hsD (evT hT 3 rfl) rfl hf isAgg25 sizeOf25 (hsD.cellsM (inB hB 2 rfl)) rfl fun _ _ => hk _ _ _ _ ⟨rfl, rfl⟩)
   · rintro T_ B_ a_ w_ K_ hT hB hf hsD hk
     exact ob rfl rfl (st_load1 (o := 0) (off := 0) (v := .int .i64 k) hsD (evT hT 2 rfl) rfl hf isAgg3 (hsD.cellsM (inB hB 1 rfl)) rfl fun _ _ => hk _ _ _ _ ⟨rfl, rfl⟩)
   · rintro T_ B_ a_ w_ K_ hT hB _ _ ⟨rfl, rfl⟩ h12 - _ _ ⟨rfl, rfl⟩ h13 - hf hsD hk
     exact ob rfl rfl (st_callv (vs := [.agg ⟨(bxL b A n cp A2 n2 c2)⟩, .int .i64 k]) hsD (.func _) ⟨(Ev.tmp h12), (Ev.tmp h13), trivial⟩ rfl hf call52 rfl (isRoll_v b A n cp A2 n2 c2 k _ hn hP.len) fun _ _ => hk _ _ _ _ ⟨rfl, rfl⟩)
   · rintro T_ B_ a_ w_ K_ hT hB _ _ ⟨rfl, rfl⟩ h11 - _ _ ⟨rfl, rfl⟩ h14 - hf hsD hk
     exact ob rfl rfl (st_callv (vs := [.agg ⟨(bxL b A n cp A2 n2 c2)⟩, .bool (isRoll b k)]) hsD (.func _) ⟨(Ev.tmp h11), (Ev.tmp h14), trivial⟩ rfl hf call45 rfl (asked_1 b A n cp A2 n2 c2 _ (hP.kp hsD.kp) hn (hF.kp hsD.kp) hn2 (isRoll b k) hok) fun _ _ => hk _ _ _ _ ⟨rfl, rfl⟩)
   · rintro T_ B_ a_ w_ K_ hT hB _ _ ⟨rfl, rfl⟩ h15 - hf hsD hk
     exact ob rfl rfl (st_move hsD (Ev.tmp h15) rfl hf fun _ _ => hk _ _ _ _ ⟨rfl, rfl⟩)
   · rintro T_ B_ a_ w_ K_ hT hB _ _ ⟨rfl, rfl⟩ h10 - hf hsD hk
     exact ob rfl rfl (st_extract hsD (Ev.tmp h10) rfl hf rfl fun _ _ => hk _ _ _ _ ⟨rfl, rfl⟩)
   · rintro T_ B_ a_ w_ K_ hT hB _ _ ⟨rfl, rfl⟩ h10 - hf hsD hk
     exact ob rfl rfl (st_extract hsD (Ev.tmp h10) rfl hf rfl fun _ _ => hk _ _ _ _ ⟨rfl, rfl⟩)
   · rintro T_ B_ a_ w_ K_ x_ hT hB hf hsD hk
     exact ob rfl rfl (st_alloc hsD rfl hf zeroValue66 rfl fun b_1 a_1 w_1 h1 => hk b_1 _ _ h1)
   · rintro T_ B_ a_ w_ K_ x_ hT hB _ _ ⟨rfl, rfl⟩ h16 - hf hsD hk
     exact ob rfl rfl (st_store (l' := [.slice none 0 0, .slice none 0 0, .int .i64 0, .int .i64 0, .int .i64 0, .int .i64 0, .int .i64 0, .slice none 0 0, .map none]) (vs := [.slice none 0 0, .slice none 0 0, .int .i64 0, .int .i64 0, .int .i64 0, .int .i64 0, .int .i64 0, .slice none 0 0, .map none]) (i := 0) hsD (Ev.t 0 rfl) (Ev.tmp (List.mem_append_right _ h16)) sizeOf66 rfl rfl rfl rfl rfl rfl fun a_1 w_1 h1 => hk x_ _ _ h1)
   rintro _ _ ⟨rfl, rfl⟩
   rintro _ _ ⟨rfl, rfl⟩
   rintro _ _ ⟨rfl, rfl⟩
   rintro _ _ ⟨rfl, rfl⟩
   rintro _ _ ⟨rfl, rfl⟩
   rintro _ _ ⟨rfl, rfl⟩
   rintro _ _ ⟨rfl, rfl⟩
   rintro _ _ ⟨rfl, rfl⟩
   intro (b6 : Nat) a_6 w_6 hs6
   clear hs5
   have hs7 := Sx.as (T' := [_, _, _, _, _, _, _, _, _, _, _, _, _]) (B' := [_, _, _, _]) rfl rfl hs6; clear hs6
   refine sq rfl (st_assign hs7 (Ev.t 8 rfl) rfl rfl fun _ _ hs8 => ?_); clear hs7
   refine hK5 _ _ ?_; clear hK5
   have hs9 := hs8.keep [0, 1, 10, 11, 12] [_, _, _, _, _] rfl; clear hs8
   refine cd_seq fun K7 hK7 => ?_
   refine cd_region fun K8 hK8 => ?_
   refine sq rfl (st_move hs9 (Ev.t 0 rfl) rfl rfl fun _ _ hs10 => ?_); clear hs9
   refine sq rfl (st_cmp (c := true) hs10 (Ev.t 0 rfl) (.const _) rfl rfl rfl rfl fun _ _ hs11 => ?_); clear hs10
   refine hK8 _ _ ?_; clear hK8
   have hs12 := hs11.keep [0, 2, 3, 4, 5, 6] [_, _, _, _, _, _] rfl; clear hs11
   have hc9 : true = true := rfl
   refine cd_cond hs12 (Ev.t 0 rfl) (fun _ => ?_) (fun h => absurd (hc9.symm.trans h) (by decide))
   refine cd_region fun K10 hK10 => ?_
   refine sq rfl (st_build hs12 (qs := []) (v := .agg ⟨[.int .i64 0, .int .i64 0]⟩) trivial rfl rfl rfl (fun _ => by kernel_rfl) fun _ _ hs13 => ?_); clear hs12
   refine sq rfl (st_move hs13 (Ev.t 2 rfl) rfl rfl fun _ _ hs14 => ?_); clear hs13
   refine sq rfl (st_store (l' := [.int .i64 0, .int .i64 0]) (vs := [.int .i64 0, .int .i64 0]) (i := 1) hs14 (Ev.t 6 rfl) (Ev.t 1 rfl) sizeOf35 rfl rfl rfl rfl rfl rfl fun _ _ hs15 => ?_); clear hs14
   have hs16 := hs15.asB [_, _, _, _] rfl; clear hs15
   have hs17 := hs16.keep [0, 1, 2, 3, 4, 6, 7] [_, _, _, _, _, _, _] rfl; clear hs16
   refine sq rfl (st_assign hs17 (Ev.t 0 rfl) rfl rfl fun _ _ hs18 => ?_); clear hs17
   refine hK10 _ _ ?_; clear hK10
   have hs19 := hs18.keep [0, 6] [_, _] rfl; clear hs18
   refine cd_retv (vs := [.agg ⟨[.int .i64 0, .int .i64 0]⟩, .int .i64 90]) hs19 (fun a_ w_ h => th_ret (hQ0 a_ w_ h)) rfl ⟨resA (o := 0) (off := 0) (vs := [.int .i64 0, .int .i64 0]) 1 rfl isAgg35 sizeOf35 (hs19.cells 1 rfl) rfl, .tmp 0 rfl, trivial⟩ ?_
   clear hs19 hQ0 hN0 hK7
   first | (simp [pack, Bx.soldR, Bx.asked, hok, hrt, hm0]; done) | (simp [pack, Bx.soldR, Bx.asked, hok, hrt]; done) | simp [pack, Bx.soldR, Bx.asked, hok]
 · skip
   refine cd_region fun K11 hK11 => ?_
   refine sq rfl (st_box hs0 (Ev.t 0 rfl) rfl rfl rfl fun b12 _ _ hs1 => ?_); clear hs0
   refine sq rfl (st_box hs1 (Ev.t 2 rfl) rfl rfl rfl fun b13 _ _ hs2 => ?_); clear hs1
   refine sq rfl (st_alloc hs2 rfl rfl zeroValue35 rfl fun b14 _ _ hs3 => ?_); clear hs2
   refine sq rfl (st_assign hs3 (.const _) rfl rfl fun _ _ hs4 => ?_); clear hs3
   refine hK11 _ _ ?_; clear hK11
   have hs5 := hs4.keep [0, 1, 2, 3] [_, _, _, _] rfl; clear hs4
   refine cd_drawS mixed [8, 9] ⟨Nat, fun n_ x_ => match n_ with | 0 => [] | 1 => [(6, .pointer (some ⟨x_, 0, none⟩))] | _ => [(6, .pointer (some ⟨x_, 0, none⟩))], fun n_ x_ => match n_ with | 0 => [] | 1 => [(x_, some (.cells ⟨[.slice none 0 0, .slice none 0 0, .int .i64 0, .int .i64 0, .int .i64 0, .int .i64 0, .int .i64 0, .slice none 0 0, .map none]⟩ 66 (0, 0)))] | _ => [(x_, some (.cells ⟨[.slice none 0 0, .slice none 0 0, .int .i64 0, .int .i64 0, .int .i64 0, .int .i64 0, .int .i64 0, .slice none 0 0, .map none]⟩ 66 (0, 0)))]⟩ (0 : Nat) hs5 [⟨11, [], Is (.agg ⟨(bxL b A n cp A2 n2 c2)⟩)⟩, ⟨12, [], Is (.agg ⟨(bxL b A n cp A2 n2 c2)⟩)⟩, ⟨13, [], Is (.int .i64 k)⟩, ⟨14, [1, 2], Is (.bool (isRoll b k))⟩, ⟨15, [0, 3], Is (.tuple ⟨[.agg ⟨[.slice none 0 0, .slice none 0 0, .int .i64 0, .int .i64 0, .int .i64 0, .int .i64 0, .int .i64 0, .slice none 0 0, .map none]⟩, .int .i64 91]⟩)⟩, ⟨10, [4], Is (.tuple ⟨[.agg ⟨[.slice none 0 0, .slice none 0 0, .int .i64 0, .int .i64 0, .int .i64 0, .int .i64 0, .int .i64 0, .slice none 0 0, .map none]⟩, .int .i64 91]⟩)⟩, ⟨16, [5], Is (.agg ⟨[.slice none 0 0, .slice none 0 0, .int .i64 0, .int .i64 0, .int .i64 0, .int .i64 0, .int .i64 0, .slice none 0 0, .map none]⟩)⟩, ⟨17, [5], Is (.int .i64 91)⟩, ⟨6, [], Is undef⟩, ⟨49, [6], Is undef⟩] (by kernel_rfl) (fun n_ _ => by rcases n_ with _ | _ | _ <;> rfl) (by kernel_rfl) fun K15 hK15 => ⟨⟨?_, ?_, ?_, ?_, ?_, ?_, ?_, ?_, ?_, ?_, trivial⟩, ?_⟩
   · rintro T_ B_ a_ w_ K_ hT hB hf hsD hk
     exact ob rfl rfl (st_loadA (o := 0) (off := 0) (vs := (bxL b A n cp A2 n2 c2)) hsD (evT hT 3 rfl) rfl hf isAgg25 sizeOf25 (hsD.cellsM (inB hB 2 rfl)) rfl fun _ _ => hk _ _ _ _ ⟨rfl, rfl⟩)
   · rintro T_ B_ a_ w_ K_ hT hB hf hsD hk
     exact ob rfl rfl (st_loadA (o := 0) (off := 0) (vs := (bxL b A n cp A2 n2 c2)) hsD (evT hT 3 rfl) rfl hf isAgg25 sizeOf25 (hsD.cellsM (inB hB 2 rfl)) rfl fun _ _ => hk _ _ _ _ ⟨rfl, rfl⟩)
   · rintro T_ B_ a_ w_ K_ hT hB hf hsD hk
     exact ob rfl rfl (st_load1 (o := 0) (off := 0) (v := .int .i64 k) hsD (evT hT 2 rfl) rfl hf isAgg3 (hsD.cellsM (inB hB 1 rfl)) rfl fun _ _ => hk _ _ _ _ ⟨rfl, rfl⟩)
   · rintro T_ B_ a_ w_ K_ hT hB _ _ ⟨rfl, rfl⟩ h12 - _ _ ⟨rfl, rfl⟩ h13 - hf hsD hk
     exact ob rfl rfl (st_callv (vs := [.agg ⟨(bxL b A n cp A2 n2 c2)⟩, .int .i64 k]) hsD (.func _) ⟨(Ev.tmp h12), (Ev.tmp h13), trivial⟩ rfl hf call52 rfl (isRoll_v b A n cp A2 n2 c2 k _ hn hP.len) fun _ _ => hk _ _ _ _ ⟨rfl, rfl⟩)
   · rintro T_ B_ a_ w_ K_ hT hB _ _ ⟨rfl, rfl⟩ h11 - _ _ ⟨rfl, rfl⟩ h14 - hf hsD hk
     exact ob rfl rfl (st_callv (vs := [.agg ⟨(bxL b A n cp A2 n2 c2)⟩, .bool (isRoll b k)]) hsD (.func _) ⟨(Ev.tmp h11), (Ev.tmp h14), trivial⟩ rfl hf call45 rfl (asked_2 b A n cp A2 n2 c2 _ (hP.kp hsD.kp) hn (hF.kp hsD.kp) hn2 (isRoll b k) hok hrt) fun _ _ => hk _ _ _ _ ⟨rfl, rfl⟩)
   · rintro T_ B_ a_ w_ K_ hT hB _ _ ⟨rfl, rfl⟩ h15 - hf hsD hk
     exact ob rfl rfl (st_move hsD (Ev.tmp h15) rfl hf fun _ _ => hk _ _ _ _ ⟨rfl, rfl⟩)
   · rintro T_ B_ a_ w_ K_ hT hB _ _ ⟨rfl, rfl⟩ h10 - hf hsD hk
     exact ob rfl rfl (st_extract hsD (Ev.tmp h10) rfl hf rfl fun _ _ => hk _ _ _ _ ⟨rfl, rfl⟩)
   · rintro T_ B_ a_ w_ K_ hT hB _ _ ⟨rfl, rfl⟩ h10 - hf hsD hk
     exact ob rfl rfl (st_extract hsD (Ev.tmp h10) rfl hf rfl fun _ _ => hk _ _ _ _ ⟨rfl, rfl⟩)
   · rintro T_ B_ a_ w_ K_ x_ hT hB hf hsD hk
     exact ob rfl rfl (st_alloc hsD rfl hf zeroValue66 rfl fun b_1 a_1 w_1 h1 => hk b_1 _ _ h1)
   · rintro T_ B_ a_ w_ K_ x_ hT hB _ _ ⟨rfl, rfl⟩ h16 - hf hsD hk
     exact ob rfl rfl (st_store (l' := [.slice none 0 0, .slice none 0 0, .int .i64 0, .int .i64 0, .int .i64 0, .int .i64 0, .int .i64 0, .slice none 0 0, .map none]) (vs := [.slice none 0 0, .slice none 0 0, .int .i64 0, .int .i64 0, .int .i64 0, .int .i64 0, .int .i64 0, .slice none 0 0, .map none]) (i := 0) hsD (Ev.t 0 rfl) (Ev.tmp (List.mem_append_right _ h16)) sizeOf66 rfl rfl rfl rfl rfl rfl fun a_1 w_1 h1 => hk x_ _ _ h1)
   rintro _ _ ⟨rfl, rfl⟩
   rintro _ _ ⟨rfl, rfl⟩
   rintro _ _ ⟨rfl, rfl⟩
   rintro _ _ ⟨rfl, rfl⟩
   rintro _ _ ⟨rfl, rfl⟩
   rintro _ _ ⟨rfl, rfl⟩
   rintro _ _ ⟨rfl, rfl⟩
   rintro _ _ ⟨rfl, rfl⟩
   intro (b16 : Nat) a_6 w_6 hs6
   clear hs5
   have hs7 := Sx.as (T' := [_, _, _, _, _, _, _, _, _, _, _, _, _]) (B' := [_, _, _, _]) rfl rfl hs6; clear hs6
   refine sq rfl (st_assign hs7 (Ev.t 8 rfl) rfl rfl fun _ _ hs8 => ?_); clear hs7
   refine hK15 _ _ ?_; clear hK15
   have hs9 := hs8.keep [0, 1, 10, 11, 12] [_, _, _, _, _] rfl; clear hs8
   refine cd_seq fun K17 hK17 => ?_
   refine cd_region fun K18 hK18 => ?_
   refine sq rfl (st_move hs9 (Ev.t 0 rfl) rfl rfl fun _ _ hs10 => ?_); clear hs9
   refine sq rfl (st_cmp (c := true) hs10 (Ev.t 0 rfl) (.const _) rfl rfl rfl rfl fun _ _ hs11 => ?_); clear hs10
   refine hK18 _ _ ?_; clear hK18
   have hs12 := hs11.keep [0, 2, 3, 4, 5, 6] [_, _, _, _, _, _] rfl; clear hs11
   have hc19 : true = true := rfl
   refine cd_cond hs12 (Ev.t 0 rfl) (fun _ => ?_) (fun h => absurd (hc19.symm.trans h) (by decide))
   refine cd_region fun K20 hK20 => ?_
   refine sq rfl (st_build hs12 (qs := []) (v := .agg ⟨[.int .i64 0, .int .i64 0]⟩) trivial rfl rfl rfl (fun _ => by kernel_rfl) fun _ _ hs13 => ?_); clear hs12
   refine sq rfl (st_move hs13 (Ev.t 2 rfl) rfl rfl fun _ _ hs14 => ?_); clear hs13
   refine sq rfl (st_store (l' := [.int .i64 0, .int .i64 0]) (vs := [.int .i64 0, .int .i64 0]) (i := 1) hs14 (Ev.t 6 rfl) (Ev.t 1 rfl) sizeOf35 rfl rfl rfl rfl rfl rfl fun _ _ hs15 => ?_); clear hs14
   have hs16 := hs15.asB [_, _, _, _] rfl; clear hs15
   have hs17 := hs16.keep [0, 1, 2, 3, 4, 6, 7] [_, _, _, _, _, _, _] rfl; clear hs16
   refine sq rfl (st_assign hs17 (Ev.t 0 rfl) rfl rfl fun _ _ hs18 => ?_); clear hs17
   refine hK20 _ _ ?_; clear hK20
   have hs19 := hs18.keep [0, 6] [_, _] rfl; clear hs18
   refine cd_retv (vs := [.agg ⟨[.int .i64 0, .int .i64 0]⟩, .int .i64 91]) hs19 (fun a_ w_ h => th_ret (hQ0 a_ w_ h)) rfl ⟨resA (o := 0) (off := 0) (vs := [.int .i64 0, .int .i64 0]) 1 rfl isAgg35 sizeOf35 (hs19.cells 1 rfl) rfl, .tmp 0 rfl, trivial⟩ ?_
   clear hs19 hQ0 hN0 hK17
   first | (simp [pack, Bx.soldR, Bx.asked, hok, hrt, hm0]; done) | (simp [pack, Bx.soldR, Bx.asked, hok, hrt]; done) | simp [pack, Bx.soldR, Bx.asked, hok]
 · skip
   refine cd_region fun K21 hK21 => ?_
   refine sq rfl (st_box hs0 (Ev.t 0 rfl) rfl rfl rfl fun b22 _ _ hs1 => ?_); clear hs0
   refine sq rfl (st_box hs1 (Ev.t 2 rfl) rfl rfl rfl fun b23 _ _ hs2 => ?_); clear hs1
   refine sq rfl (st_alloc hs2 rfl rfl zeroValue35 rfl fun b24 _ _ hs3 => ?_); clear hs2
   refine sq rfl (st_assign hs3 (.const _) rfl rfl fun _ _ hs4 => ?_); clear hs3
   refine hK21 _ _ ?_; clear hK21
   have hs5 := hs4.keep [0, 1, 2, 3] [_, _, _, _] rfl; clear hs4
   refine cd_drawD mixed [4, 5, 6, 7, 8, 9, 10] (fun k_ => match k_ with | 4 => [[false, false, false, false, false, false, false], [false, false, false, false, true, false, false]] | 5 => [[true, false, false, false, false, false, false], [true, false, false, false, true, false, false]] | 6 => [[true, true, false, false, false, false, false], [true, true, false, true, false, false, false], [true, true, false, false, true, false, false], [true, true, false, true, true, false, false]] | 7 => [[true, true, false, false, false, false, false], [true, true, true, false, false, false, false], [true, true, false, false, true, false, false], [true, true, true, false, true, false, false], [true, true, true, false, true, true, false]] | 8 => [[false, false, false, false, false, false, false], [true, false, false, false, false, false, false], [true, true, false, false, false, false, false], [true, true, true, false, false, false, false], [true, true, false, true, false, false, false], [true, true, true, true, false, false, false]] | 9 => [[true, true, true, false, true, false, false], [true, true, true, true, true, false, false]] | 10 => [[true, true, true, true, true, true, false]] | _ => []) (SpecD.tab (AX0) [([false, false, false, false, false, false, false], fun x_ => []), ([true, false, false, false, false, false, false], fun x_ => [(15, .tuple ⟨[.agg ⟨(boxL b A n cp A2 n2 c2 x_.A n x_.c x_.m)⟩, .int .i64 92]⟩)]), ([false, false, false, false, true, false, false], fun x_ => [(6, .pointer (some ⟨x_.t, 0, none⟩))]), ([true, true, false, false, false, false, false], fun x_ => [(10, .tuple ⟨[.agg ⟨(boxL b A n cp A2 n2 c2 x_.A n x_.c x_.m)⟩, .int .i64 92]⟩), (15, .tuple ⟨[.agg ⟨(boxL b A n cp A2 n2 c2 x_.A n x_.c x_.m)⟩, .int .i64 92]⟩)]), ([true, false, false, false, true, false, false], fun x_ => [(6, .pointer (some ⟨x_.t, 0, none⟩)), (15, .tuple ⟨[.agg ⟨(boxL b A n cp A2 n2 c2 x_.A n x_.c x_.m)⟩, .int .i64 92]⟩)]), ([true, true, true, false, false, false, false], fun x_ => [(16, .agg ⟨(boxL b A n cp A2 n2 c2 x_.A n x_.c x_.m)⟩), (10, .tuple ⟨[.agg ⟨(boxL b A n cp A2 n2 c2 x_.A n x_.c x_.m)⟩, .int .i64 92]⟩), (15, .tuple ⟨[.agg ⟨(boxL b A n cp A2 n2 c2 x_.A n x_.c x_.m)⟩, .int .i64 92]⟩)]), ([true, true, false, true, false, false, false], fun x_ => [(17, .int .i64 92), (10, .tuple ⟨[.agg ⟨(boxL b A n cp A2 n2 c2 x_.A n x_.c x_.m)⟩, .int .i64 92]⟩), (15, .tuple ⟨[.agg ⟨(boxL b A n cp A2 n2 c2 x_.A n x_.c x_.m)⟩, .int .i64 92]⟩)]), ([true, true, false, false, true, false, false], fun x_ => [(6, .pointer (some ⟨x_.t, 0, none⟩)), (10, .tuple ⟨[.agg ⟨(boxL b A n cp A2 n2 c2 x_.A n x_.c x_.m)⟩, .int .i64 92]⟩), (15, .tuple ⟨[.agg ⟨(boxL b A n cp A2 n2 c2 x_.A n x_.c x_.m)⟩, .int .i64 92]⟩)]), ([true, true, true, true, false, false, false], fun x_ => [(17, .int .i64 92), (16, .agg ⟨(boxL b A n cp A2 n2 c2 x_.A n x_.c x_.m)⟩), (10, .tuple ⟨[.agg ⟨(boxL b A n cp A2 n2 c2 x_.A n x_.c x_.m)⟩, .int .i64 92]⟩), (15, .tuple ⟨[.agg ⟨(boxL b A n cp A2 n2 c2 x_.A n x_.c x_.m)⟩, .int .i64 92]⟩)]), ([true, true, true, false, true, false, false], fun x_ => [(6, .pointer (some ⟨x_.t, 0, none⟩)), (16, .agg ⟨(boxL b A n cp A2 n2 c2 x_.A n x_.c x_.m)⟩), (10, .tuple ⟨[.agg ⟨(boxL b A n cp A2 n2 c2 x_.A n x_.c x_.m)⟩, .int .i64 92]⟩), (15, .tuple ⟨[.agg ⟨(boxL b A n cp A2 n2 c2 x_.A n x_.c x_.m)⟩, .int .i64 92]⟩)]), ([true, true, false, true, true, false, false], fun x_ => [(6, .pointer (some ⟨x_.t, 0, none⟩)), (17, .int .i64 92), (10, .tuple ⟨[.agg ⟨(boxL b A n cp A2 n2 c2 x_.A n x_.c x_.m)⟩, .int .i64 92]⟩), (15, .tuple ⟨[.agg ⟨(boxL b A n cp A2 n2 c2 x_.A n x_.c x_.m)⟩, .int .i64 92]⟩)]), ([true, true, true, true, true, false, false], fun x_ => [(6, .pointer (some ⟨x_.t, 0, none⟩)), (17, .int .i64 92), (16, .agg ⟨(boxL b A n cp A2 n2 c2 x_.A n x_.c x_.m)⟩), (10, .tuple ⟨[.agg ⟨(boxL b A n cp A2 n2 c2 x_.A n x_.c x_.m)⟩, .int .i64 92]⟩), (15, .tuple ⟨[.agg ⟨(boxL b A n cp A2 n2 c2 x_.A n x_.c x_.m)⟩, .int .i64 92]⟩)]), ([true, true, true, false, true, true, false], fun x_ => [(6, .pointer (some ⟨x_.t, 0, none⟩)), (16, .agg ⟨(boxL b A n cp A2 n2 c2 x_.A n x_.c x_.m)⟩), (10, .tuple ⟨[.agg ⟨(boxL b A n cp A2 n2 c2 x_.A n x_.c x_.m)⟩, .int .i64 92]⟩), (15, .tuple ⟨[.agg ⟨(boxL b A n cp A2 n2 c2 x_.A n x_.c x_.m)⟩, .int .i64 92]⟩)]), ([true, true, true, true, true, true, false], fun x_ => [(6, .pointer (some ⟨x_.t, 0, none⟩)), (17, .int .i64 92), (16, .agg ⟨(boxL b A n cp A2 n2 c2 x_.A n x_.c x_.m)⟩), (10, .tuple ⟨[.agg ⟨(boxL b A n cp A2 n2 c2 x_.A n x_.c x_.m)⟩, .int .i64 92]⟩), (15, .tuple ⟨[.agg ⟨(boxL b A n cp A2 n2 c2 x_.A n x_.c x_.m)⟩, .int .i64 92]⟩)]), ([true, true, true, true, true, true, true], fun x_ => [(7, .int .i64 92), (6, .pointer (some ⟨x_.t, 0, none⟩)), (17, .int .i64 92), (16, .agg ⟨(boxL b A n cp A2 n2 c2 x_.A n x_.c x_.m)⟩), (10, .tuple ⟨[.agg ⟨(boxL b A n cp A2 n2 c2 x_.A n x_.c x_.m)⟩, .int .i64 92]⟩), (15, .tuple ⟨[.agg ⟨(boxL b A n cp A2 n2 c2 x_.A n x_.c x_.m)⟩, .int .i64 92]⟩)])] [([false, false, false, false, false, false, false], fun x_ => []), ([true, false, false, false, false, false, false], fun x_ => []), ([false, false, false, false, true, false, false], fun x_ => [(x_.t, some (.cells ⟨[.slice none 0 0, .slice none 0 0, .int .i64 0, .int .i64 0, .int .i64 0, .int .i64 0, .int .i64 0, .slice none 0 0, .map none]⟩ 66 (0, 0)))]), ([true, true, false, false, false, false, false], fun x_ => []), ([true, false, false, false, true, false, false], fun x_ => [(x_.t, some (.cells ⟨[.slice none 0 0, .slice none 0 0, .int .i64 0, .int .i64 0, .int .i64 0, .int .i64 0, .int .i64 0, .slice none 0 0, .map none]⟩ 66 (0, 0)))]), ([true, true, true, false, false, false, false], fun x_ => []), ([true, true, false, true, false, false, false], fun x_ => []), ([true, true, false, false, true, false, false], fun x_ => [(x_.t, some (.cells ⟨[.slice none 0 0, .slice none 0 0, .int .i64 0, .int .i64 0, .int .i64 0, .int .i64 0, .int .i64 0, .slice none 0 0, .map none]⟩ 66 (0, 0)))]), ([true, true, true, true, false, false, false], fun x_ => []), ([true, true, true, false, true, false, false], fun x_ => [(x_.t, some (.cells ⟨[.slice none 0 0, .slice none 0 0, .int .i64 0, .int .i64 0, .int .i64 0, .int .i64 0, .int .i64 0, .slice none 0 0, .map none]⟩ 66 (0, 0)))]), ([true, true, false, true, true, false, false], fun x_ => [(x_.t, some (.cells ⟨[.slice none 0 0, .slice none 0 0, .int .i64 0, .int .i64 0, .int .i64 0, .int .i64 0, .int .i64 0, .slice none 0 0, .map none]⟩ 66 (0, 0)))]), ([true, true, true, true, true, false, false], fun x_ => [(x_.t, some (.cells ⟨[.slice none 0 0, .slice none 0 0, .int .i64 0, .int .i64 0, .int .i64 0, .int .i64 0, .int .i64 0, .slice none 0 0, .map none]⟩ 66 (0, 0)))]), ([true, true, true, false, true, true, false], fun x_ => [(x_.t, some (.cells ⟨(boxL b A n cp A2 n2 c2 x_.A n x_.c x_.m)⟩ 66 (0, 0)))]), ([true, true, true, true, true, true, false], fun x_ => [(x_.t, some (.cells ⟨(boxL b A n cp A2 n2 c2 x_.A n x_.c x_.m)⟩ 66 (0, 0)))]), ([true, true, true, true, true, true, true], fun x_ => [(x_.t, some (.cells ⟨(boxL b A n cp A2 n2 c2 x_.A n x_.c x_.m)⟩ 66 (0, 0)))])]) (AX0.mk none 0 0 0) hs5 [⟨11, [], Is (.agg ⟨(bxL b A n cp A2 n2 c2)⟩)⟩, ⟨12, [], Is (.agg ⟨(bxL b A n cp A2 n2 c2)⟩)⟩, ⟨13, [], Is (.int .i64 k)⟩, ⟨14, [1, 2], Is (.bool (isRoll b k))⟩, ⟨15, [0, 3], Is undef⟩, ⟨10, [], Is undef⟩, ⟨16, [], Is undef⟩, ⟨17, [], Is undef⟩, ⟨6, [], Is undef⟩, ⟨49, [], Is undef⟩, ⟨7, [], Is undef⟩] (by kernel_rfl) (by kernel_rfl) (ownD_tab (fun x_ => by kernel_rfl)) (by kernel_rfl) (by kernel_rfl) fun K25 hK25 => ⟨⟨?_, ?_, ?_, ?_, ?_, ?_, ?_, ?_, ?_, ?_, ?_, trivial⟩, ?_⟩
   · rintro T_ B_ a_ w_ K_ hT hB hf hsD hk
     exact ob rfl rfl (st_loadA (o := 0) (off := 0) (vs := (bxL b A n cp A2 n2 c2)) hsD (evT hT 3 rfl) rfl hf isAgg25 sizeOf25 (hsD.cellsM (inB hB 2 rfl)) rfl fun _ _ => hk _ _ _ _ ⟨rfl, rfl⟩)
   · rintro T_ B_ a_ w_ K_ hT hB hf hsD hk
     exact ob rfl rfl (st_loadA (o := 0) (off := 0) (vs := (bxL b A n cp A2 n2 c2)) hsD (evT hT 3 rfl) rfl hf isAgg25 sizeOf25 (hsD.cellsM (inB hB 2 rfl)) rfl fun _ _ => hk _ _ _ _ ⟨rfl, rfl⟩)
   · rintro T_ B_ a_ w_ K_ hT hB hf hsD hk
     exact ob rfl rfl (st_load1 (o := 0) (off := 0) (v := .int .i64 k) hsD (evT hT 2 rfl) rfl hf isAgg3 (hsD.cellsM (inB hB 1 rfl)) rfl fun _ _ => hk _ _ _ _ ⟨rfl, rfl⟩)
   · rintro T_ B_ a_ w_ K_ hT hB _ _ ⟨rfl, rfl⟩ h12 - _ _ ⟨rfl, rfl⟩ h13 - hf hsD hk
     exact ob rfl rfl (st_callv (vs := [.agg ⟨(bxL b A n cp A2 n2 c2)⟩, .int .i64 k]) hsD (.func _) ⟨(Ev.tmp h12), (Ev.tmp h13), trivial⟩ rfl hf call52 rfl (isRoll_v b A n cp A2 n2 c2 k _ hn hP.len) fun _ _ => hk _ _ _ _ ⟨rfl, rfl⟩)
   · refine ⟨?_, ?_, trivial⟩
     · rintro T_ B_ a_ w_ K_ x_ hT hB _ _ ⟨rfl, rfl⟩ h11 - _ _ ⟨rfl, rfl⟩ h14 - hf hsD hk
       exact ob rfl rfl (st_call (vs := [.agg ⟨(bxL b A n cp A2 n2 c2)⟩, .bool (isRoll b k)]) hsD (.func _) ⟨(Ev.tmp (List.mem_append_right _ h11)), (Ev.tmp (List.mem_append_right _ h14)), trivial⟩ rfl hf call45 rfl (asked_3 b A n cp A2 n2 c2 _ (hP.kp hsD.kp) hn (hF.kp hsD.kp) hn2 (isRoll b k) hok hrt hm0) (fun v_ bs_ a_1 w_1 hp9 h1 => by obtain ⟨A7, c7, m7, rfl, rfl⟩ := hp9; exact hk (AX0.mk A7 c7 m7 x_.t) _ _ h1))
     · rintro T_ B_ a_ w_ K_ x_ hT hB _ _ ⟨rfl, rfl⟩ h11 - _ _ ⟨rfl, rfl⟩ h14 - hf hsD hk
       exact ob rfl rfl (st_call (vs := [.agg ⟨(bxL b A n cp A2 n2 c2)⟩, .bool (isRoll b k)]) hsD (.func _) ⟨(Ev.tmp (List.mem_append_right _ h11)), (Ev.tmp (List.mem_append_right _ h14)), trivial⟩ rfl (show fresh 15 ([(6, .pointer (some ⟨x_.t, 0, none⟩))] ++ T_) = true from by simp only [List.nil_append, List.cons_append, fresh, hf]; rfl) call45 rfl (asked_3 b A n cp A2 n2 c2 _ (hP.kp hsD.kp) hn (hF.kp hsD.kp) hn2 (isRoll b k) hok hrt hm0) (fun v_ bs_ a_1 w_1 hp9 h1 => by obtain ⟨A7, c7, m7, rfl, rfl⟩ := hp9; exact hk (AX0.mk A7 c7 m7 x_.t) _ _ (Sx.reT (T1 := [(15, _), (6, _)]) (T2 := [(6, _), (15, _)]) [1, 0] rfl h1)))
   · refine ⟨?_, ?_, trivial⟩
     · rintro T_ B_ a_ w_ K_ x_ hT hB hf hsD hk
       exact ob rfl rfl (st_move hsD (Ev.t 0 rfl) rfl (show fresh 10 ([(15, .tuple ⟨[.agg ⟨(boxL b A n cp A2 n2 c2 x_.A n x_.c x_.m)⟩, .int .i64 92]⟩)] ++ T_) = true from by simp only [List.nil_append, List.cons_append, fresh, hf]; rfl) fun a_1 w_1 h1 => hk x_ _ _ h1)
     · rintro T_ B_ a_ w_ K_ x_ hT hB hf hsD hk
       exact ob rfl rfl (st_move hsD (Ev.t 1 rfl) rfl (show fresh 10 ([(6, .pointer (some ⟨x_.t, 0, none⟩)), (15, .tuple ⟨[.agg ⟨(boxL b A n cp A2 n2 c2 x_.A n x_.c x_.m)⟩, .int .i64 92]⟩)] ++ T_) = true from by simp only [List.nil_append, List.cons_append, fresh, hf]; rfl) fun a_1 w_1 h1 => hk x_ _ _ (Sx.reT (T1 := [(10, _), (6, _), (15, _)]) (T2 := [(6, _), (10, _), (15, _)]) [1, 0, 2] rfl h1))
   · refine ⟨?_, ?_, ?_, ?_, trivial⟩
     · rintro T_ B_ a_ w_ K_ x_ hT hB hf hsD hk
       exact ob rfl rfl (st_extract hsD (Ev.t 0 rfl) rfl (show fresh 16 ([(10, .tuple ⟨[.agg ⟨(boxL b A n cp A2 n2 c2 x_.A n x_.c x_.m)⟩, .int .i64 92]⟩), (15, .tuple ⟨[.agg ⟨(boxL b A n cp A2 n2 c2 x_.A n x_.c x_.m)⟩, .int .i64 92]⟩)] ++ T_) = true from by simp only [List.nil_append, List.cons_append, fresh, hf]; rfl) rfl fun a_1 w_1 h1 => hk x_ _ _ h1)
     · rintro T_ B_ a_ w_ K_ x_ hT hB hf hsD hk
       exact ob rfl rfl (st_extract hsD (Ev.t 1 rfl) rfl (show fresh 16 ([(17, .int .i64 92), (10, .tuple ⟨[.agg ⟨(boxL b A n cp A2 n2 c2 x_.A n x_.c x_.m)⟩, .int .i64 92]⟩), (15, .tuple ⟨[.agg ⟨(boxL b A n cp A2 n2 c2 x_.A n x_.c x_.m)⟩, .int .i64 92]⟩)] ++ T_) = true from by simp only [List.nil_append, List.cons_append, fresh, hf]; rfl) rfl fun a_1 w_1 h1 => hk x_ _ _ (Sx.reT (T1 := [(16, _), (17, _), (10, _), (15, _)]) (T2 := [(17, _), (16, _), (10, _), (15, _)]) [1, 0, 2, 3] rfl h1))
     · rintro T_ B_ a_ w_ K_ x_ hT hB hf hsD hk
       exact ob rfl rfl (st_extract hsD (Ev.t 1 rfl) rfl (show fresh 16 ([(6, .pointer (some ⟨x_.t, 0, none⟩)), (10, .tuple ⟨[.agg ⟨(boxL b A n cp A2 n2 c2 x_.A n x_.c x_.m)⟩, .int .i64 92]⟩), (15, .tuple ⟨[.agg ⟨(boxL b A n cp A2 n2 c2 x_.A n x_.c x_.m)⟩, .int .i64 92]⟩)] ++ T_) = true from by simp only [List.nil_append, List.cons_append, fresh, hf]; rfl) rfl fun a_1 w_1 h1 => hk x_ _ _ (Sx.reT (T1 := [(16, _), (6, _), (10, _), (15, _)]) (T2 := [(6, _), (16, _), (10, _), (15, _)]) [1, 0, 2, 3] rfl h1))
     · rintro T_ B_ a_ w_ K_ x_ hT hB hf hsD hk
       exact ob rfl rfl (st_extract hsD (Ev.t 2 rfl) rfl (show fresh 16 ([(6, .pointer (some ⟨x_.t, 0, none⟩)), (17, .int .i64 92), (10, .tuple ⟨[.agg ⟨(boxL b A n cp A2 n2 c2 x_.A n x_.c x_.m)⟩, .int .i64 92]⟩), (15, .tuple ⟨[.agg ⟨(boxL b A n cp A2 n2 c2 x_.A n x_.c x_.m)⟩, .int .i64 92]⟩)] ++ T_) = true from by simp only [List.nil_append, List.cons_append, fresh, hf]; rfl) rfl fun a_1 w_1 h1 => hk x_ _ _ (Sx.reT (T1 := [(16, _), (6, _), (17, _), (10, _), (15, _)]) (T2 := [(6, _), (17, _), (16, _), (10, _), (15, _)]) [1, 2, 0, 3, 4] rfl h1))
   · refine ⟨?_, ?_, ?_, ?_, ?_, trivial⟩
     · rintro T_ B_ a_ w_ K_ x_ hT hB hf hsD hk
       exact ob rfl rfl (st_extract hsD (Ev.t 0 rfl) rfl (show fresh 17 ([(10, .tuple ⟨[.agg ⟨(boxL b A n cp A2 n2 c2 x_.A n x_.c x_.m)⟩, .int .i64 92]⟩), (15, .tuple ⟨[.agg ⟨(boxL b A n cp A2 n2 c2 x_.A n x_.c x_.m)⟩, .int .i64 92]⟩)] ++ T_) = true from by simp only [List.nil_append, List.cons_append, fresh, hf]; rfl) rfl fun a_1 w_1 h1 => hk x_ _ _ h1)
     · rintro T_ B_ a_ w_ K_ x_ hT hB hf hsD hk
       exact ob rfl rfl (st_extract hsD (Ev.t 1 rfl) rfl (show fresh 17 ([(16, .agg ⟨(boxL b A n cp A2 n2 c2 x_.A n x_.c x_.m)⟩), (10, .tuple ⟨[.agg ⟨(boxL b A n cp A2 n2 c2 x_.A n x_.c x_.m)⟩, .int .i64 92]⟩), (15, .tuple ⟨[.agg ⟨(boxL b A n cp A2 n2 c2 x_.A n x_.c x_.m)⟩, .int .i64 92]⟩)] ++ T_) = true from by simp only [List.nil_append, List.cons_append, fresh, hf]; rfl) rfl fun a_1 w_1 h1 => hk x_ _ _ h1)
     · rintro T_ B_ a_ w_ K_ x_ hT hB hf hsD hk
       exact ob rfl rfl (st_extract hsD (Ev.t 1 rfl) rfl (show fresh 17 ([(6, .pointer (some ⟨x_.t, 0, none⟩)), (10, .tuple ⟨[.agg ⟨(boxL b A n cp A2 n2 c2 x_.A n x_.c x_.m)⟩, .int .i64 92]⟩), (15, .tuple ⟨[.agg ⟨(boxL b A n cp A2 n2 c2 x_.A n x_.c x_.m)⟩, .int .i64 92]⟩)] ++ T_) = true from by simp only [List.nil_append, List.cons_append, fresh, hf]; rfl) rfl fun a_1 w_1 h1 => hk x_ _ _ (Sx.reT (T1 := [(17, _), (6, _), (10, _), (15, _)]) (T2 := [(6, _), (17, _), (10, _), (15, _)]) [1, 0, 2, 3] rfl h1))
     · rintro T_ B_ a_ w_ K_ x_ hT hB hf hsD hk
       exact ob rfl rfl (st_extract hsD (Ev.t 2 rfl) rfl (show fresh 17 ([(6, .pointer (some ⟨x_.t, 0, none⟩)), (16, .agg ⟨(boxL b A n cp A2 n2 c2 x_.A n x_.c x_.m)⟩), (10, .tuple ⟨[.agg ⟨(boxL b A n cp A2 n2 c2 x_.A n x_.c x_.m)⟩, .int .i64 92]⟩), (15, .tuple ⟨[.agg ⟨(boxL b A n cp A2 n2 c2 x_.A n x_.c x_.m)⟩, .int .i64 92]⟩)] ++ T_) = true from by simp only [List.nil_append, List.cons_append, fresh, hf]; rfl) rfl fun a_1 w_1 h1 => hk x_ _ _ (Sx.reT (T1 := [(17, _), (6, _), (16, _), (10, _), (15, _)]) (T2 := [(6, _), (17, _), (16, _), (10, _), (15, _)]) [1, 0, 2, 3, 4] rfl h1))
     · rintro T_ B_ a_ w_ K_ x_ hT hB hf hsD hk
       exact ob rfl rfl (st_extract hsD (Ev.t 2 rfl) rfl (show fresh 17 ([(6, .pointer (some ⟨x_.t, 0, none⟩)), (16, .agg ⟨(boxL b A n cp A2 n2 c2 x_.A n x_.c x_.m)⟩), (10, .tuple ⟨[.agg ⟨(boxL b A n cp A2 n2 c2 x_.A n x_.c x_.m)⟩, .int .i64 92]⟩), (15, .tuple ⟨[.agg ⟨(boxL b A n cp A2 n2 c2 x_.A n x_.c x_.m)⟩, .int .i64 92]⟩)] ++ T_) = true from by simp only [List.nil_append, List.cons_append, fresh, hf]; rfl) rfl fun a_1 w_1 h1 => hk x_ _ _ (Sx.reT (T1 := [(17, _), (6, _), (16, _), (10, _), (15, _)]) (T2 := [(6, _), (17, _), (16, _), (10, _), (15, _)]) [1, 0, 2, 3, 4] rfl h1))
   · refine ⟨?_, ?_, ?_, ?_, ?_, ?_, trivial⟩
     · rintro T_ B_ a_ w_ K_ x_ hT hB hf hsD hk
       exact ob rfl rfl (st_alloc hsD rfl hf zeroValue66 rfl fun b_1 a_1 w_1 h1 => hk (x_.at b_1) _ _ h1)
     · rintro T_ B_ a_ w_ K_ x_ hT hB hf hsD hk
       exact ob rfl rfl (st_alloc hsD rfl (show fresh 6 ([(15, .tuple ⟨[.agg ⟨(boxL b A n cp A2 n2 c2 x_.A n x_.c x_.m)⟩, .int .i64 92]⟩)] ++ T_) = true from by simp only [List.nil_append, List.cons_append, fresh, hf]; rfl) zeroValue66 rfl fun b_1 a_1 w_1 h1 => hk (x_.at b_1) _ _ h1)
     · rintro T_ B_ a_ w_ K_ x_ hT hB hf hsD hk
       exact ob rfl rfl (st_alloc hsD rfl (show fresh 6 ([(10, .tuple ⟨[.agg ⟨(boxL b A n cp A2 n2 c2 x_.A n x_.c x_.m)⟩, .int .i64 92]⟩), (15, .tuple ⟨[.agg ⟨(boxL b A n cp A2 n2 c2 x_.A n x_.c x_.m)⟩, .int .i64 92]⟩)] ++ T_) = true from by simp only [List.nil_append, List.cons_append, fresh, hf]; rfl) zeroValue66 rfl fun b_1 a_1 w_1 h1 => hk (x_.at b_1) _ _ h1)
     · rintro T_ B_ a_ w_ K_ x_ hT hB hf hsD hk
       exact ob rfl rfl (st_alloc hsD rfl (show fresh 6 ([(16, .agg ⟨(boxL b A n cp A2 n2 c2 x_.A n x_.c x_.m)⟩), (10, .tuple ⟨[.agg ⟨(boxL b A n cp A2 n2 c2 x_.A n x_.c x_.m)⟩, .int .i64 92]⟩), (15, .tuple ⟨[.agg ⟨(boxL b A n cp A2 n2 c2 x_.A n x_.c x_.m)⟩, .int .i64 92]⟩)] ++ T_) = true from by simp only [List.nil_append, List.cons_append, fresh, hf]; rfl) zeroValue66 rfl fun b_1 a_1 w_1 h1 => hk (x_.at b_1) _ _ h1)
     · rintro T_ B_ a_ w_ K_ x_ hT hB hf hsD hk
       exact ob rfl rfl (st_alloc hsD rfl (show fresh 6 ([(17, .int .i64 92), (10, .tuple ⟨[.agg ⟨(boxL b A n cp A2 n2 c2 x_.A n x_.c x_.m)⟩, .int .i64 92]⟩), (15, .tuple ⟨[.agg ⟨(boxL b A n cp A2 n2 c2 x_.A n x_.c x_.m)⟩, .int .i64 92]⟩)] ++ T_) = true from by simp only [List.nil_append, List.cons_append, fresh, hf]; rfl) zeroValue66 rfl fun b_1 a_1 w_1 h1 => hk (x_.at b_1) _ _ h1)
     · rintro T_ B_ a_ w_ K_ x_ hT hB hf hsD hk
       exact ob rfl rfl (st_alloc hsD rfl (show fresh 6 ([(17, .int .i64 92), (16, .agg ⟨(boxL b A n cp A2 n2 c2 x_.A n x_.c x_.m)⟩), (10, .tuple ⟨[.agg ⟨(boxL b A n cp A2 n2 c2 x_.A n x_.c x_.m)⟩, .int .i64 92]⟩), (15, .tuple ⟨[.agg ⟨(boxL b A n cp A2 n2 c2 x_.A n x_.c x_.m)⟩, .int .i64 92]⟩)] ++ T_) = true from by simp only [List.nil_append, List.cons_append, fresh, hf]; rfl) zeroValue66 rfl fun b_1 a_1 w_1 h1 => hk (x_.at b_1) _ _ h1)
   · refine ⟨?_, ?_, trivial⟩
     · rintro T_ B_ a_ w_ K_ x_ hT hB hf hsD hk
       exact ob rfl rfl (st_store (l' := (boxL b A n cp A2 n2 c2 x_.A n x_.c x_.m)) (vs := (boxL b A n cp A2 n2 c2 x_.A n x_.c x_.m)) (i := 0) hsD (Ev.t 0 rfl) (Ev.t 1 rfl) sizeOf66 rfl rfl rfl rfl rfl rfl fun a_1 w_1 h1 => hk x_ _ _ h1)
     · rintro T_ B_ a_ w_ K_ x_ hT hB hf hsD hk
       exact ob rfl rfl (st_store (l' := (boxL b A n cp A2 n2 c2 x_.A n x_.c x_.m)) (vs := (boxL b A n cp A2 n2 c2 x_.A n x_.c x_.m)) (i := 0) hsD (Ev.t 0 rfl) (Ev.t 2 rfl) sizeOf66 rfl rfl rfl rfl rfl rfl fun a_1 w_1 h1 => hk x_ _ _ h1)
   · refine ⟨?_, trivial⟩
     · rintro T_ B_ a_ w_ K_ x_ hT hB hf hsD hk
       exact ob rfl rfl (st_assign hsD (Ev.t 1 rfl) rfl (show fresh 7 ([(6, .pointer (some ⟨x_.t, 0, none⟩)), (17, .int .i64 92), (16, .agg ⟨(boxL b A n cp A2 n2 c2 x_.A n x_.c x_.m)⟩), (10, .tuple ⟨[.agg ⟨(boxL b A n cp A2 n2 c2 x_.A n x_.c x_.m)⟩, .int .i64 92]⟩), (15, .tuple ⟨[.agg ⟨(boxL b A n cp A2 n2 c2 x_.A n x_.c x_.m)⟩, .int .i64 92]⟩)] ++ T_) = true from by simp only [List.nil_append, List.cons_append, fresh, hf]; rfl) fun a_1 w_1 h1 => hk x_ _ _ h1)
   rintro _ _ ⟨rfl, rfl⟩
   rintro _ _ ⟨rfl, rfl⟩
   rintro _ _ ⟨rfl, rfl⟩
   rintro _ _ ⟨rfl, rfl⟩
   intro x_ a_6 w_6 hs6; clear hs5
   have hs7 := Sx.as (T' := [_, _, _, _, _, _, _, _, _, _, _, _, _, _]) (B' := [_, _, _, _]) rfl rfl hs6; clear hs6
   refine hK25 _ _ ?_; clear hK25
   have hs8 := hs7.keep [0, 1, 10, 11, 12] [_, _, _, _, _] rfl; clear hs7
   refine cd_seq fun K26 hK26 => ?_
   refine cd_region fun K27 hK27 => ?_
   refine sq rfl (st_move hs8 (Ev.t 0 rfl) rfl rfl fun _ _ hs9 => ?_); clear hs8
   refine sq rfl (st_cmp (c := true) hs9 (Ev.t 0 rfl) (.const _) rfl rfl rfl rfl fun _ _ hs10 => ?_); clear hs9
   refine hK27 _ _ ?_; clear hK27
   have hs11 := hs10.keep [0, 2, 3, 4, 5, 6] [_, _, _, _, _, _] rfl; clear hs10
   have hc28 : true = true := rfl
   refine cd_cond hs11 (Ev.t 0 rfl) (fun _ => ?_) (fun h => absurd (hc28.symm.trans h) (by decide))
   refine cd_region fun K29 hK29 => ?_
   refine sq rfl (st_build hs11 (qs := []) (v := .agg ⟨[.int .i64 0, .int .i64 0]⟩) trivial rfl rfl rfl (fun _ => by kernel_rfl) fun _ _ hs12 => ?_); clear hs11
   refine sq rfl (st_move hs12 (Ev.t 2 rfl) rfl rfl fun _ _ hs13 => ?_); clear hs12
   refine sq rfl (st_store (l' := [.int .i64 0, .int .i64 0]) (vs := [.int .i64 0, .int .i64 0]) (i := 1) hs13 (Ev.t 6 rfl) (Ev.t 1 rfl) sizeOf35 rfl rfl rfl rfl rfl rfl fun _ _ hs14 => ?_); clear hs13
   have hs15 := hs14.asB [_, _, _, _] rfl; clear hs14
   have hs16 := hs15.keep [0, 1, 2, 3, 4, 6, 7] [_, _, _, _, _, _, _] rfl; clear hs15
   refine sq rfl (st_assign hs16 (Ev.t 0 rfl) rfl rfl fun _ _ hs17 => ?_); clear hs16
   refine hK29 _ _ ?_; clear hK29
   have hs18 := hs17.keep [0, 6] [_, _] rfl; clear hs17
   refine cd_retv (vs := [.agg ⟨[.int .i64 0, .int .i64 0]⟩, .int .i64 92]) hs18 (fun a_ w_ h => th_ret (hQ0 a_ w_ h)) rfl ⟨resA (o := 0) (off := 0) (vs := [.int .i64 0, .int .i64 0]) 1 rfl isAgg35 sizeOf35 (hs18.cells 1 rfl) rfl, .tmp 0 rfl, trivial⟩ ?_
   clear hs18 hQ0 hN0 hK26
   first | (simp [pack, Bx.soldR, Bx.asked, hok, hrt, hm0]; done) | (simp [pack, Bx.soldR, Bx.asked, hok, hrt]; done) | simp [pack, Bx.soldR, Bx.asked, hok]

theorem Sold_yes (b : Bx) (A : Option Addr) (n cp : Nat) (A2 : Option Addr) (n2 c2 : Nat) (q : Nat) (s : Sp) (hsq : b.sold[q]? = some s) (hok : b.ok = true) (hm0 : b.many ≠ 0) (w : World) (hP : RollsAt w A n b.rolls) (hn : n ≤ 140737488351232) (hF : SpsAt w A2 n2 b.free) (hn2 : n2 ≤ 140737488351232) :
    CallsV Tryd.prog 18 [.agg ⟨(bxL b A n cp A2 n2 c2)⟩, .int .i64 (q : Int)] w (.tuple ⟨[.agg ⟨[.int .i64 ((b.soldR (q : Int)).1.lo), .int .i64 ((b.soldR (q : Int)).1.hi)]⟩, .int .i64 ((b.soldR (q : Int)).2)]⟩) := by
 have hO := ok_iff.1 hok
 have hql : q < b.rolls.length := by rw [← soldlen hO]; exact (List.getElem?_eq_some_iff.1 hsq).1
 have hrt : isRoll b (q : Int) = true := by unfold isRoll; rw [Till.within_iff]; omega
 have hask : b.asked (isRoll b (q : Int)) = 0 := asked_zero.2 ⟨hok, hrt, hm0⟩
 have hMW : ∀ q ∈ ([] : List Nat), q ∈ ([] : List Nat) ∨ w.heap.size ≤ q := fun q hq => .inl hq
 have hkW : Kp [] w w := Kp.refl _ _
 have hne7 : b.sold ≠ [] := by intro e; have := soldlen hO; rw [e] at this; have := hO.n; simp at *; omega
 refine enterM (N := 40) (M := []) w func18 rfl rfl rfl (fun Q0 a_0 hQ0 hN0 hs0 => ?_)
 have hs1 : Sx 40 (dmarks []) [(0, .agg ⟨(bxL b A n cp A2 n2 c2)⟩), (1, .int .i64 (q : Int))] ((marks [])) [] w _ _ := hs0; clear hs0
 refine cd_region fun K1 hK1 => ?_
 refine sq rfl (st_box hs1 (Ev.t 0 rfl) rfl rfl rfl fun b2 _ _ hs2 => ?_); clear hs1
 refine sq rfl (st_box hs2 (Ev.t 2 rfl) rfl rfl rfl fun b3 _ _ hs3 => ?_); clear hs2
 refine sq rfl (st_alloc hs3 rfl rfl zeroValue35 rfl fun b4 _ _ hs4 => ?_); clear hs3
 refine sq rfl (st_assign hs4 (.const _) rfl rfl fun _ _ hs5 => ?_); clear hs4
 refine hK1 _ _ ?_; clear hK1
 have hs6 := hs5.keep [0, 1, 2, 3] [_, _, _, _] rfl; clear hs5
 refine cd_drawD mixed [4, 5, 6, 7, 8, 9, 10] (fun k_ => match k_ with | 4 => [[false, false, false, false, false, false, false], [false, false, false, false, true, false, false]] | 5 => [[true, false, false, false, false, false, false], [true, false, false, false, true, false, false]] | 6 => [[true, true, false, false, false, false, false], [true, true, false, true, false, false, false], [true, true, false, false, true, false, false], [true, true, false, true, true, false, false]] | 7 => [[true, true, false, false, false, false, false], [true, true, true, false, false, false, false], [true, true, false, false, true, false, false], [true, true, true, false, true, false, false], [true, true, true, false, true, true, false]] | 8 => [[false, false, false, false, false, false, false], [true, false, false, false, false, false, false], [true, true, false, false, false, false, false], [true, true, true, false, false, false, false], [true, true, false, true, false, false, false], [true, true, true, true, false, false, false]] | 9 => [[true, true, true, false, true, false, false], [true, true, true, true, true, false, false]] | 10 => [[true, true, true, true, true, true, false]] | _ => []) (SpecD.tab (AX b) [([false, false, false, false, false, false, false], fun x_ => []), ([true, false, false, false, false, false, false], fun x_ => [(15, .tuple ⟨[.agg ⟨(boxL b A n cp A2 n2 c2 x_.A n x_.c x_.m)⟩, .int .i64 0]⟩)]), ([false, false, false, false, true, false, false], fun x_ => [(6, .pointer (some ⟨x_.t, 0, none⟩))]), ([true, true, false, false, false, false, false], fun x_ => [(10, .tuple ⟨[.agg ⟨(boxL b A n cp A2 n2 c2 x_.A n x_.c x_.m)⟩, .int .i64 0]⟩), (15, .tuple ⟨[.agg ⟨(boxL b A n cp A2 n2 c2 x_.A n x_.c x_.m)⟩, .int .i64 0]⟩)]), ([true, false, false, false, true, false, false], fun x_ => [(6, .pointer (some ⟨x_.t, 0, none⟩)), (15, .tuple ⟨[.agg ⟨(boxL b A n cp A2 n2 c2 x_.A n x_.c x_.m)⟩, .int .i64 0]⟩)]), ([true, true, true, false, false, false, false], fun x_ => [(16, .agg ⟨(boxL b A n cp A2 n2 c2 x_.A n x_.c x_.m)⟩), (10, .tuple ⟨[.agg ⟨(boxL b A n cp A2 n2 c2 x_.A n x_.c x_.m)⟩, .int .i64 0]⟩), (15, .tuple ⟨[.agg ⟨(boxL b A n cp A2 n2 c2 x_.A n x_.c x_.m)⟩, .int .i64 0]⟩)]), ([true, true, false, true, false, false, false], fun x_ => [(17, .int .i64 0), (10, .tuple ⟨[.agg ⟨(boxL b A n cp A2 n2 c2 x_.A n x_.c x_.m)⟩, .int .i64 0]⟩), (15, .tuple ⟨[.agg ⟨(boxL b A n cp A2 n2 c2 x_.A n x_.c x_.m)⟩, .int .i64 0]⟩)]), ([true, true, false, false, true, false, false], fun x_ => [(6, .pointer (some ⟨x_.t, 0, none⟩)), (10, .tuple ⟨[.agg ⟨(boxL b A n cp A2 n2 c2 x_.A n x_.c x_.m)⟩, .int .i64 0]⟩), (15, .tuple ⟨[.agg ⟨(boxL b A n cp A2 n2 c2 x_.A n x_.c x_.m)⟩, .int .i64 0]⟩)]), ([true, true, true, true, false, false, false], fun x_ => [(17, .int .i64 0), (16, .agg ⟨(boxL b A n cp A2 n2 c2 x_.A n x_.c x_.m)⟩), (10, .tuple ⟨[.agg ⟨(boxL b A n cp A2 n2 c2 x_.A n x_.c x_.m)⟩, .int .i64 0]⟩), (15, .tuple ⟨[.agg ⟨(boxL b A n cp A2 n2 c2 x_.A n x_.c x_.m)⟩, .int .i64 0]⟩)]), ([true, true, true, false, true, false, false], fun x_ => [(6, .pointer (some ⟨x_.t, 0, none⟩)), (16, .agg ⟨(boxL b A n cp A2 n2 c2 x_.A n x_.c x_.m)⟩), (10, .tuple ⟨[.agg ⟨(boxL b A n cp A2 n2 c2 x_.A n x_.c x_.m)⟩, .int .i64 0]⟩), (15, .tuple ⟨[.agg ⟨(boxL b A n cp A2 n2 c2 x_.A n x_.c x_.m)⟩, .int .i64 0]⟩)]), ([true, true, false, true, true, false, false], fun x_ => [(6, .pointer (some ⟨x_.t, 0, none⟩)), (17, .int .i64 0), (10, .tuple ⟨[.agg ⟨(boxL b A n cp A2 n2 c2 x_.A n x_.c x_.m)⟩, .int .i64 0]⟩), (15, .tuple ⟨[.agg ⟨(boxL b A n cp A2 n2 c2 x_.A n x_.c x_.m)⟩, .int .i64 0]⟩)]), ([true, true, true, true, true, false, false], fun x_ => [(6, .pointer (some ⟨x_.t, 0, none⟩)), (17, .int .i64 0), (16, .agg ⟨(boxL b A n cp A2 n2 c2 x_.A n x_.c x_.m)⟩), (10, .tuple ⟨[.agg ⟨(boxL b A n cp A2 n2 c2 x_.A n x_.c x_.m)⟩, .int .i64 0]⟩), (15, .tuple ⟨[.agg ⟨(boxL b A n cp A2 n2 c2 x_.A n x_.c x_.m)⟩, .int .i64 0]⟩)]), ([true, true, true, false, true, true, false], fun x_ => [(6, .pointer (some ⟨x_.t, 0, none⟩)), (16, .agg ⟨(boxL b A n cp A2 n2 c2 x_.A n x_.c x_.m)⟩), (10, .tuple ⟨[.agg ⟨(boxL b A n cp A2 n2 c2 x_.A n x_.c x_.m)⟩, .int .i64 0]⟩), (15, .tuple ⟨[.agg ⟨(boxL b A n cp A2 n2 c2 x_.A n x_.c x_.m)⟩, .int .i64 0]⟩)]), ([true, true, true, true, true, true, false], fun x_ => [(6, .pointer (some ⟨x_.t, 0, none⟩)), (17, .int .i64 0), (16, .agg ⟨(boxL b A n cp A2 n2 c2 x_.A n x_.c x_.m)⟩), (10, .tuple ⟨[.agg ⟨(boxL b A n cp A2 n2 c2 x_.A n x_.c x_.m)⟩, .int .i64 0]⟩), (15, .tuple ⟨[.agg ⟨(boxL b A n cp A2 n2 c2 x_.A n x_.c x_.m)⟩, .int .i64 0]⟩)]), ([true, true, true, true, true, true, true], fun x_ => [(7, .int .i64 0), (6, .pointer (some ⟨x_.t, 0, none⟩)), (17, .int .i64 0), (16, .agg ⟨(boxL b A n cp A2 n2 c2 x_.A n x_.c x_.m)⟩), (10, .tuple ⟨[.agg ⟨(boxL b A n cp A2 n2 c2 x_.A n x_.c x_.m)⟩, .int .i64 0]⟩), (15, .tuple ⟨[.agg ⟨(boxL b A n cp A2 n2 c2 x_.A n x_.c x_.m)⟩, .int .i64 0]⟩)])] [([false, false, false, false, false, false, false], fun x_ => []), ([true, false, false, false, false, false, false], fun x_ => [(x_.m, some (.map x_.es x_.clk)), (x_.b7, x_.o)]), ([false, false, false, false, true, false, false], fun x_ => [(x_.t, some (.cells ⟨[.slice none 0 0, .slice none 0 0, .int .i64 0, .int .i64 0, .int .i64 0, .int .i64 0, .int .i64 0, .slice none 0 0, .map none]⟩ 66 (0, 0)))]), ([true, true, false, false, false, false, false], fun x_ => [(x_.m, some (.map x_.es x_.clk)), (x_.b7, x_.o)]), ([true, false, false, false, true, false, false], fun x_ => [(x_.t, some (.cells ⟨[.slice none 0 0, .slice none 0 0, .int .i64 0, .int .i64 0, .int .i64 0, .int .i64 0, .int .i64 0, .slice none 0 0, .map none]⟩ 66 (0, 0))), (x_.m, some (.map x_.es x_.clk)), (x_.b7, x_.o)]), ([true, true, true, false, false, false, false], fun x_ => [(x_.m, some (.map x_.es x_.clk)), (x_.b7, x_.o)]), ([true, true, false, true, false, false, false], fun x_ => [(x_.m, some (.map x_.es x_.clk)), (x_.b7, x_.o)]), ([true, true, false, false, true, false, false], fun x_ => [(x_.t, some (.cells ⟨[.slice none 0 0, .slice none 0 0, .int .i64 0, .int .i64 0, .int .i64 0, .int .i64 0, .int .i64 0, .slice none 0 0, .map none]⟩ 66 (0, 0))), (x_.m, some (.map x_.es x_.clk)), (x_.b7, x_.o)]), ([true, true, true, true, false, false, false], fun x_ => [(x_.m, some (.map x_.es x_.clk)), (x_.b7, x_.o)]), ([true, true, true, false, true, false, false], fun x_ => [(x_.t, some (.cells ⟨[.slice none 0 0, .slice none 0 0, .int .i64 0, .int .i64 0, .int .i64 0, .int .i64 0, .int .i64 0, .slice none 0 0, .map none]⟩ 66 (0, 0))), (x_.m, some (.map x_.es x_.clk)), (x_.b7, x_.o)]), ([true, true, false, true, true, false, false], fun x_ => [(x_.t, some (.cells ⟨[.slice none 0 0, .slice none 0 0, .int .i64 0, .int .i64 0, .int .i64 0, .int .i64 0, .int .i64 0, .slice none 0 0, .map none]⟩ 66 (0, 0))), (x_.m, some (.map x_.es x_.clk)), (x_.b7, x_.o)]), ([true, true, true, true, true, false, false], fun x_ => [(x_.t, some (.cells ⟨[.slice none 0 0, .slice none 0 0, .int .i64 0, .int .i64 0, .int .i64 0, .int .i64 0, .int .i64 0, .slice none 0 0, .map none]⟩ 66 (0, 0))), (x_.m, some (.map x_.es x_.clk)), (x_.b7, x_.o)]), ([true, true, true, false, true, true, false], fun x_ => [(x_.t, some (.cells ⟨(boxL b A n cp A2 n2 c2 x_.A n x_.c x_.m)⟩ 66 (0, 0))), (x_.m, some (.map x_.es x_.clk)), (x_.b7, x_.o)]), ([true, true, true, true, true, true, false], fun x_ => [(x_.t, some (.cells ⟨(boxL b A n cp A2 n2 c2 x_.A n x_.c x_.m)⟩ 66 (0, 0))), (x_.m, some (.map x_.es x_.clk)), (x_.b7, x_.o)]), ([true, true, true, true, true, true, true], fun x_ => [(x_.t, some (.cells ⟨(boxL b A n cp A2 n2 c2 x_.A n x_.c x_.m)⟩ 66 (0, 0))), (x_.m, some (.map x_.es x_.clk)), (x_.b7, x_.o)])]) (AX.zero b) hs6 [⟨11, [], Is (.agg ⟨(bxL b A n cp A2 n2 c2)⟩)⟩, ⟨12, [], Is (.agg ⟨(bxL b A n cp A2 n2 c2)⟩)⟩, ⟨13, [], Is (.int .i64 (q : Int))⟩, ⟨14, [1, 2], Is (.bool (isRoll b (q : Int)))⟩, ⟨15, [0, 3], Is undef⟩, ⟨10, [], Is undef⟩, ⟨16, [], Is undef⟩, ⟨17, [], Is undef⟩, ⟨6, [], Is undef⟩, ⟨49, [], Is undef⟩, ⟨7, [], Is undef⟩] (by kernel_rfl) (by kernel_rfl) (ownD_tab (fun x_ => by kernel_rfl)) (by kernel_rfl) (by kernel_rfl) fun K5 hK5 => ⟨⟨?_, ?_, ?_, ?_, ?_, ?_, ?_, ?_, ?_, ?_, ?_, trivial⟩, ?_⟩
 · rintro T_ B_ a_ w_ K_ hT hB hf hsD hk
   exact ob rfl rfl (st_loadA (o := 0) (off := 0) (vs := (bxL b A n cp A2 n2 c2)) hsD (evT hT 3 rfl) rfl hf isAgg25 sizeOf25 (hsD.cellsM (inB hB 2 rfl)) rfl fun _ _ => hk _ _ _ _ ⟨rfl, rfl⟩)
 · rintro T_ B_ a_ w_ K_ hT hB hf hsD hk
   exact ob rfl rfl (st_loadA (o := 0) (off := 0) (vs := (bxL b A n cp A2 n2 c2)) hsD (evT hT 3 rfl) rfl hf isAgg25 sizeOf25 (hsD.cellsM (inB hB 2 rfl)) rfl fun _ _ => hk _ _ _ _ ⟨rfl, rfl⟩)
 · rintro T_ B_ a_ w_ K_ hT hB hf hsD hk
   exact ob rfl rfl (st_load1 (o := 0) (off := 0) (v := .int .i64 (q : Int)) hsD (evT hT 2 rfl) rfl hf isAgg3 (hsD.cellsM (inB hB 1 rfl)) rfl fun _ _ => hk _ _ _ _ ⟨rfl, rfl⟩)
 · rintro T_ B_ a_ w_ K_ hT hB _ _ ⟨rfl, rfl⟩ h12 - _ _ ⟨rfl, rfl⟩ h13 - hf hsD hk
   exact ob rfl rfl (st_callv (vs := [.agg ⟨(bxL b A n cp A2 n2 c2)⟩, .int .i64 (q : Int)]) hsD (.func _) ⟨(Ev.tmp h12), (Ev.tmp h13), trivial⟩ rfl hf call52 rfl (isRoll_v b A n cp A2 n2 c2 (q : Int) _ hn hP.len) fun _ _ => hk _ _ _ _ ⟨rfl, rfl⟩)
 · refine ⟨?_, ?_, trivial⟩
   · rintro T_ B_ a_ w_ K_ x_ hT hB _ _ ⟨rfl, rfl⟩ h11 - _ _ ⟨rfl, rfl⟩ h14 - hf hsD hk
     exact ob rfl rfl (st_call (vs := [.agg ⟨(bxL b A n cp A2 n2 c2)⟩, .bool (isRoll b (q : Int))]) hsD (.func _) ⟨(Ev.tmp (List.mem_append_right _ h11)), (Ev.tmp (List.mem_append_right _ h14)), trivial⟩ rfl hf call45 rfl (asked_4 b A n cp A2 n2 c2 _ (hP.kp (Kp.viaM hkW hsD.kp hMW)) hn (hF.kp (Kp.viaM hkW hsD.kp hMW)) hn2 (isRoll b (q : Int)) hok hrt hm0) (fun v_ bs_ a_1 w_1 hp9 h1 => by obtain ⟨A7, c7, b7, o7, m7, es7, clk7, rfl, hO7, hE7, rfl⟩ := hp9; exact hk (AX.mk A7 c7 b7 o7 m7 es7 clk7 x_.t hO7 hE7) _ _ h1))
   · rintro T_ B_ a_ w_ K_ x_ hT hB _ _ ⟨rfl, rfl⟩ h11 - _ _ ⟨rfl, rfl⟩ h14 - hf hsD hk
     exact ob rfl rfl (st_call (vs := [.agg ⟨(bxL b A n cp A2 n2 c2)⟩, .bool (isRoll b (q : Int))]) hsD (.func _) ⟨(Ev.tmp (List.mem_append_right _ h11)), (Ev.tmp (List.mem_append_right _ h14)), trivial⟩ rfl (show fresh 15 ([(6, .pointer (some ⟨x_.t, 0, none⟩))] ++ T_) = true from by simp only [List.nil_append, List.cons_append, fresh, hf]; rfl) call45 rfl (asked_4 b A n cp A2 n2 c2 _ (hP.kp (Kp.viaM hkW hsD.kp hMW)) hn (hF.kp (Kp.viaM hkW hsD.kp hMW)) hn2 (isRoll b (q : Int)) hok hrt hm0) (fun v_ bs_ a_1 w_1 hp9 h1 => by obtain ⟨A7, c7, b7, o7, m7, es7, clk7, rfl, hO7, hE7, rfl⟩ := hp9; exact hk (AX.mk A7 c7 b7 o7 m7 es7 clk7 x_.t hO7 hE7) _ _ (Sx.front (Sx.front (Sx.front (Sx.reT (T1 := [(15, _), (6, _)]) (T2 := [(6, _), (15, _)]) [1, 0] rfl h1) 1 rfl) 1 rfl) 2 rfl)))
 · refine ⟨?_, ?_, trivial⟩
   · rintro T_ B_ a_ w_ K_ x_ hT hB hf hsD hk
     exact ob rfl rfl (st_move hsD (Ev.t 0 rfl) rfl (show fresh 10 ([(15, .tuple ⟨[.agg ⟨(boxL b A n cp A2 n2 c2 x_.A n x_.c x_.m)⟩, .int .i64 0]⟩)] ++ T_) = true from by simp only [List.nil_append, List.cons_append, fresh, hf]; rfl) fun a_1 w_1 h1 => hk x_ _ _ h1)
   · rintro T_ B_ a_ w_ K_ x_ hT hB hf hsD hk
     exact ob rfl rfl (st_move hsD (Ev.t 1 rfl) rfl (show fresh 10 ([(6, .pointer (some ⟨x_.t, 0, none⟩)), (15, .tuple ⟨[.agg ⟨(boxL b A n cp A2 n2 c2 x_.A n x_.c x_.m)⟩, .int .i64 0]⟩)] ++ T_) = true from by simp only [List.nil_append, List.cons_append, fresh, hf]; rfl) fun a_1 w_1 h1 => hk x_ _ _ (Sx.reT (T1 := [(10, _), (6, _), (15, _)]) (T2 := [(6, _), (10, _), (15, _)]) [1, 0, 2] rfl h1))
 · refine ⟨?_, ?_, ?_, ?_, trivial⟩
   · rintro T_ B_ a_ w_ K_ x_ hT hB hf hsD hk
     exact ob rfl rfl (st_extract hsD (Ev.t 0 rfl) rfl (show fresh 16 ([(10, .tuple ⟨[.agg ⟨(boxL b A n cp A2 n2 c2 x_.A n x_.c x_.m)⟩, .int .i64 0]⟩), (15, .tuple ⟨[.agg ⟨(boxL b A n cp A2 n2 c2 x_.A n x_.c x_.m)⟩, .int .i64 0]⟩)] ++ T_) = true from by simp only [List.nil_append, List.cons_append, fresh, hf]; rfl) rfl fun a_1 w_1 h1 => hk x_ _ _ h1)
   · rintro T_ B_ a_ w_ K_ x_ hT hB hf hsD hk
     exact ob rfl rfl (st_extract hsD (Ev.t 1 rfl) rfl (show fresh 16 ([(17, .int .i64 0), (10, .tuple ⟨[.agg ⟨(boxL b A n cp A2 n2 c2 x_.A n x_.c x_.m)⟩, .int .i64 0]⟩), (15, .tuple ⟨[.agg ⟨(boxL b A n cp A2 n2 c2 x_.A n x_.c x_.m)⟩, .int .i64 0]⟩)] ++ T_) = true from by simp only [List.nil_append, List.cons_append, fresh, hf]; rfl) rfl fun a_1 w_1 h1 => hk x_ _ _ (Sx.reT (T1 := [(16, _), (17, _), (10, _), (15, _)]) (T2 := [(17, _), (16, _), (10, _), (15, _)]) [1, 0, 2, 3] rfl h1))
   · rintro T_ B_ a_ w_ K_ x_ hT hB hf hsD hk
     exact ob rfl rfl (st_extract hsD (Ev.t 1 rfl) rfl (show fresh 16 ([(6, .pointer (some ⟨x_.t, 0, none⟩)), (10, .tuple ⟨[.agg ⟨(boxL b A n cp A2 n2 c2 x_.A n x_.c x_.m)⟩, .int .i64 0]⟩), (15, .tuple ⟨[.agg ⟨(boxL b A n cp A2 n2 c2 x_.A n x_.c x_.m)⟩, .int .i64 0]⟩)] ++ T_) = true from by simp only [List.nil_append, List.cons_append, fresh, hf]; rfl) rfl fun a_1 w_1 h1 => hk x_ _ _ (Sx.reT (T1 := [(16, _), (6, _), (10, _), (15, _)]) (T2 := [(6, _), (16, _), (10, _), (15, _)]) [1, 0, 2, 3] rfl h1))
   · rintro T_ B_ a_ w_ K_ x_ hT hB hf hsD hk
     exact ob rfl rfl (st_extract hsD (Ev.t 2 rfl) rfl (show fresh 16 ([(6, .pointer (some ⟨x_.t, 0, none⟩)), (17, .int .i64 0), (10, .tuple ⟨[.agg ⟨(boxL b A n cp A2 n2 c2 x_.A n x_.c x_.m)⟩, .int .i64 0]⟩), (15, .tuple ⟨[.agg ⟨(boxL b A n cp A2 n2 c2 x_.A n x_.c x_.m)⟩, .int .i64 0]⟩)] ++ T_) = true from by simp only [List.nil_append, List.cons_append, fresh, hf]; rfl) rfl fun a_1 w_1 h1 => hk x_ _ _ (Sx.reT (T1 := [(16, _), (6, _), (17, _), (10, _), (15, _)]) (T2 := [(6, _), (17, _), (16, _), (10, _), (15, _)]) [1, 2, 0, 3, 4] rfl h1))
 · refine ⟨?_, ?_, ?_, ?_, ?_, trivial⟩
   · rintro T_ B_ a_ w_ K_ x_ hT hB hf hsD hk
     exact ob rfl rfl (st_extract hsD (Ev.t 0 rfl) rfl (show fresh 17 ([(10, .tuple ⟨[.agg ⟨(boxL b A n cp A2 n2 c2 x_.A n x_.c x_.m)⟩, .int .i64 0]⟩), (15, .tuple ⟨[.agg ⟨(boxL b A n cp A2 n2 c2 x_.A n x_.c x_.m)⟩, .int .i64 0]⟩)] ++ T_) = true from by simp only [List.nil_append, List.cons_append, fresh, hf]; rfl) rfl fun a_1 w_1 h1 => hk x_ _ _ h1)
   · rintro T_ B_ a_ w_ K_ x_ hT hB hf hsD hk
     exact ob rfl rfl (st_extract hsD (Ev.t 1 rfl) rfl (show fresh 17 ([(16, .agg ⟨(boxL b A n cp A2 n2 c2 x_.A n x_.c x_.m)⟩), (10, .tuple ⟨[.agg ⟨(boxL b A n cp A2 n2 c2 x_.A n x_.c x_.m)⟩, .int .i64 0]⟩), (15, .tuple ⟨[.agg ⟨(boxL b A n cp A2 n2 c2 x_.A n x_.c x_.m)⟩, .int .i64 0]⟩)] ++ T_) = true from by simp only [List.nil_append, List.cons_append, fresh, hf]; rfl) rfl fun a_1 w_1 h1 => hk x_ _ _ h1)
   · rintro T_ B_ a_ w_ K_ x_ hT hB hf hsD hk
     exact ob rfl rfl (st_extract hsD (Ev.t 1 rfl) rfl (show fresh 17 ([(6, .pointer (some ⟨x_.t, 0, none⟩)), (10, .tuple ⟨[.agg ⟨(boxL b A n cp A2 n2 c2 x_.A n x_.c x_.m)⟩, .int .i64 0]⟩), (15, .tuple ⟨[.agg ⟨(boxL b A n cp A2 n2 c2 x_.A n x_.c x_.m)⟩, .int .i64 0]⟩)] ++ T_) = true from by simp only [List.nil_append, List.cons_append, fresh, hf]; rfl) rfl fun a_1 w_1 h1 => hk x_ _ _ (Sx.reT (T1 := [(17, _), (6, _), (10, _), (15, _)]) (T2 := [(6, _), (17, _), (10, _), (15, _)]) [1, 0, 2, 3] rfl h1))
   · rintro T_ B_ a_ w_ K_ x_ hT hB hf hsD hk
     exact ob rfl rfl (st_extract hsD (Ev.t 2 rfl) rfl (show fresh 17 ([(6, .pointer (some ⟨x_.t, 0, none⟩)), (16, .agg ⟨(boxL b A n cp A2 n2 c2 x_.A n x_.c x_.m)⟩), (10, .tuple ⟨[.agg ⟨(boxL b A n cp A2 n2 c2 x_.A n x_.c x_.m)⟩, .int .i64 0]⟩), (15, .tuple ⟨[.agg ⟨(boxL b A n cp A2 n2 c2 x_.A n x_.c x_.m)⟩, .int .i64 0]⟩)] ++ T_) = true from by simp only [List.nil_append, List.cons_append, fresh, hf]; rfl) rfl fun a_1 w_1 h1 => hk x_ _ _ (Sx.reT (T1 := [(17, _), (6, _), (16, _), (10, _), (15, _)]) (T2 := [(6, _), (17, _), (16, _), (10, _), (15, _)]) [1, 0, 2, 3, 4] rfl h1))
   · rintro T_ B_ a_ w_ K_ x_ hT hB hf hsD hk
     exact ob rfl rfl (st_extract hsD (Ev.t 2 rfl) rfl (show fresh 17 ([(6, .pointer (some ⟨x_.t, 0, none⟩)), (16, .agg ⟨(boxL b A n cp A2 n2 c2 x_.A n x_.c x_.m)⟩), (10, .tuple ⟨[.agg ⟨(boxL b A n cp A2 n2 c2 x_.A n x_.c x_.m)⟩, .int .i64 0]⟩), (15, .tuple ⟨[.agg ⟨(boxL b A n cp A2 n2 c2 x_.A n x_.c x_.m)⟩, .int .i64 0]⟩)] ++ T_) = true from by simp only [List.nil_append, List.cons_append, fresh, hf]; rfl) rfl fun a_1 w_1 h1 => hk x_ _ _ (Sx.reT (T1 := [(17, _), (6, _), (16, _), (10, _), (15, _)]) (T2 := [(6, _), (17, _), (16, _), (10, _), (15, _)]) [1, 0, 2, 3, 4] rfl h1))
 · refine ⟨?_, ?_, ?_, ?_, ?_, ?_, trivial⟩
   · rintro T_ B_ a_ w_ K_ x_ hT hB hf hsD hk
     exact ob rfl rfl (st_alloc hsD rfl hf zeroValue66 rfl fun b_1 a_1 w_1 h1 => hk (x_.at b_1) _ _ h1)
   · rintro T_ B_ a_ w_ K_ x_ hT hB hf hsD hk
     exact ob rfl rfl (st_alloc hsD rfl (show fresh 6 ([(15, .tuple ⟨[.agg ⟨(boxL b A n cp A2 n2 c2 x_.A n x_.c x_.m)⟩, .int .i64 0]⟩)] ++ T_) = true from by simp only [List.nil_append, List.cons_append, fresh, hf]; rfl) zeroValue66 rfl fun b_1 a_1 w_1 h1 => hk (x_.at b_1) _ _ h1)
   · rintro T_ B_ a_ w_ K_ x_ hT hB hf hsD hk
     exact ob rfl rfl (st_alloc hsD rfl (show fresh 6 ([(10, .tuple ⟨[.agg ⟨(boxL b A n cp A2 n2 c2 x_.A n x_.c x_.m)⟩, .int .i64 0]⟩), (15, .tuple ⟨[.agg ⟨(boxL b A n cp A2 n2 c2 x_.A n x_.c x_.m)⟩, .int .i64 0]⟩)] ++ T_) = true from by simp only [List.nil_append, List.cons_append, fresh, hf]; rfl) zeroValue66 rfl fun b_1 a_1 w_1 h1 => hk (x_.at b_1) _ _ h1)
   · rintro T_ B_ a_ w_ K_ x_ hT hB hf hsD hk
     exact ob rfl rfl (st_alloc hsD rfl (show fresh 6 ([(16, .agg ⟨(boxL b A n cp A2 n2 c2 x_.A n x_.c x_.m)⟩), (10, .tuple ⟨[.agg ⟨(boxL b A n cp A2 n2 c2 x_.A n x_.c x_.m)⟩, .int .i64 0]⟩), (15, .tuple ⟨[.agg ⟨(boxL b A n cp A2 n2 c2 x_.A n x_.c x_.m)⟩, .int .i64 0]⟩)] ++ T_) = true from by simp only [List.nil_append, List.cons_append, fresh, hf]; rfl) zeroValue66 rfl fun b_1 a_1 w_1 h1 => hk (x_.at b_1) _ _ h1)
   · rintro T_ B_ a_ w_ K_ x_ hT hB hf hsD hk
     exact ob rfl rfl (st_alloc hsD rfl (show fresh 6 ([(17, .int .i64 0), (10, .tuple ⟨[.agg ⟨(boxL b A n cp A2 n2 c2 x_.A n x_.c x_.m)⟩, .int .i64 0]⟩), (15, .tuple ⟨[.agg ⟨(boxL b A n cp A2 n2 c2 x_.A n x_.c x_.m)⟩, .int .i64 0]⟩)] ++ T_) = true from by simp only [List.nil_append, List.cons_append, fresh, hf]; rfl) zeroValue66 rfl fun b_1 a_1 w_1 h1 => hk (x_.at b_1) _ _ h1)
   · rintro T_ B_ a_ w_ K_ x_ hT hB hf hsD hk
     exact ob rfl rfl (st_alloc hsD rfl (show fresh 6 ([(17, .int .i64 0), (16, .agg ⟨(boxL b A n cp A2 n2 c2 x_.A n x_.c x_.m)⟩), (10, .tuple ⟨[.agg ⟨(boxL b A n cp A2 n2 c2 x_.A n x_.c x_.m)⟩, .int .i64 0]⟩), (15, .tuple ⟨[.agg ⟨(boxL b A n cp A2 n2 c2 x_.A n x_.c x_.m)⟩, .int .i64 0]⟩)] ++ T_) = true from by simp only [List.nil_append, List.cons_append, fresh, hf]; rfl) zeroValue66 rfl fun b_1 a_1 w_1 h1 => hk (x_.at b_1) _ _ h1)
 · refine ⟨?_, ?_, trivial⟩
   · rintro T_ B_ a_ w_ K_ x_ hT hB hf hsD hk
     exact ob rfl rfl (st_store (l' := (boxL b A n cp A2 n2 c2 x_.A n x_.c x_.m)) (vs := (boxL b A n cp A2 n2 c2 x_.A n x_.c x_.m)) (i := 0) hsD (Ev.t 0 rfl) (Ev.t 1 rfl) sizeOf66 rfl rfl rfl rfl rfl rfl fun a_1 w_1 h1 => hk x_ _ _ h1)
   · rintro T_ B_ a_ w_ K_ x_ hT hB hf hsD hk
     exact ob rfl rfl (st_store (l' := (boxL b A n cp A2 n2 c2 x_.A n x_.c x_.m)) (vs := (boxL b A n cp A2 n2 c2 x_.A n x_.c x_.m)) (i := 0) hsD (Ev.t 0 rfl) (Ev.t 2 rfl) sizeOf66 rfl rfl rfl rfl rfl rfl fun a_1 w_1 h1 => hk x_ _ _ h1)
 · refine ⟨?_, trivial⟩
   · rintro T_ B_ a_ w_ K_ x_ hT hB hf hsD hk
     exact ob rfl rfl (st_assign hsD (Ev.t 1 rfl) rfl (show fresh 7 ([(6, .pointer (some ⟨x_.t, 0, none⟩)), (17, .int .i64 0), (16, .agg ⟨(boxL b A n cp A2 n2 c2 x_.A n x_.c x_.m)⟩), (10, .tuple ⟨[.agg ⟨(boxL b A n cp A2 n2 c2 x_.A n x_.c x_.m)⟩, .int .i64 0]⟩), (15, .tuple ⟨[.agg ⟨(boxL b A n cp A2 n2 c2 x_.A n x_.c x_.m)⟩, .int .i64 0]⟩)] ++ T_) = true from by simp only [List.nil_append, List.cons_append, fresh, hf]; rfl) fun a_1 w_1 h1 => hk x_ _ _ h1)
 rintro _ _ ⟨rfl, rfl⟩
 rintro _ _ ⟨rfl, rfl⟩
 rintro _ _ ⟨rfl, rfl⟩
 rintro _ _ ⟨rfl, rfl⟩
 intro x_ a_7 w_7 hs7; clear hs6
 have hs8 := Sx.as (T' := [_, _, _, _, _, _, _, _, _, _, _, _, _, _]) (B' := _ :: _ :: _ :: _ :: _ :: _ :: _) rfl rfl hs7; clear hs7
 refine hK5 _ _ ?_; clear hK5
 have hs9 := hs8.keep [0, 1, 10, 11, 12] [_, _, _, _, _] rfl; clear hs8
 refine cd_seq fun K6 hK6 => ?_
 refine cd_region fun K7 hK7 => ?_
 refine sq rfl (st_move hs9 (Ev.t 0 rfl) rfl rfl fun _ _ hs10 => ?_); clear hs9
 refine sq rfl (st_cmp (c := false) hs10 (Ev.t 0 rfl) (.const _) rfl rfl rfl rfl fun _ _ hs11 => ?_); clear hs10
 refine hK7 _ _ ?_; clear hK7
 have hs12 := hs11.keep [0, 2, 3, 4, 5, 6] [_, _, _, _, _, _] rfl; clear hs11
 have hc8 : false = false := rfl
 refine cd_cond hs12 (Ev.t 0 rfl) (fun h => absurd (hc8.symm.trans h) (by decide)) (fun _ => ?_)
 refine cd_skip ?_
 refine th_norm (hK6 _ _ ?_)
 refine cd_region fun K9 hK9 => ?_
 refine sq rfl (st_build hs12 (qs := [(0, .int .i64 (-1))]) (v := .agg ⟨[.int .i64 (-1), .int .i64 0]⟩) ⟨(.const _), trivial⟩ rfl rfl rfl (fun _ => by kernel_rfl) fun _ _ hs13 => ?_); clear hs12
 refine sq rfl (st_alloc hs13 rfl rfl zeroValue35 rfl fun b10 _ _ hs14 => ?_); clear hs13
 refine sq rfl (st_store (l' := [.int .i64 (-1), .int .i64 0]) (vs := [.int .i64 (-1), .int .i64 0]) (i := 0) hs14 (Ev.t 0 rfl) (Ev.t 1 rfl) sizeOf35 rfl rfl rfl rfl rfl rfl fun _ _ hs15 => ?_); clear hs14
 have hs16 := hs15.asB (_ :: _ :: _ :: _ :: _ :: _ :: _ :: _) rfl; clear hs15
 refine hK9 _ _ ?_; clear hK9
 have hs17 := hs16.keep [0, 4, 5, 6, 7] [_, _, _, _, _] rfl; clear hs16
 refine cd_seq fun K11 hK11 => ?_
 refine cd_region fun K12 hK12 => ?_
 refine sq rfl (st_loadA (o := 0) (off := 0) (vs := (boxL b A n cp A2 n2 c2 x_.A n x_.c x_.m)) hs17 (Ev.t 1 rfl) rfl rfl isAgg66 sizeOf66 (hs17.cells 1 rfl) rfl fun _ _ hs18 => ?_); clear hs17
 refine sq rfl (st_load1 (o := 0) (off := 0) (v := .int .i64 (q : Int)) hs18 (Ev.t 5 rfl) rfl rfl isAgg3 (hs18.cells 5 rfl) rfl fun _ _ hs19 => ?_); clear hs18
 refine sq rfl (st_call (vs := [.agg ⟨(boxL b A n cp A2 n2 c2 x_.A n x_.c x_.m)⟩, .int .i64 (q : Int)]) hs19 (.func _) ⟨(Ev.t 1 rfl), (Ev.t 0 rfl), trivial⟩ rfl rfl call48 rfl (numbers_b b A n cp A2 n2 c2 x_.A n x_.c x_.m (q : Int) _) fun v15 bs16 a_20 w_20 hp20 hs20 => ?_); clear hs19
 obtain ⟨b13, b14, rfl, rfl⟩ := hp20
 have hs21 := Sx.as (T' := [_, _, _, _, _, _, _, _]) (B' := _ :: _ :: _ :: _ :: _ :: _ :: _ :: _ :: _ :: _) rfl rfl hs20; clear hs20
 refine hK12 _ _ ?_; clear hK12
 have hs22 := hs21.keep [0, 3, 4, 5, 6, 7] [_, _, _, _, _, _] rfl; clear hs21
 refine cd_block ?_
 refine cd_rangeY (intL1) (nums s) (fun i B_ => B_ = ((b14, some (.cells ⟨[.int .i64 (q : Int)]⟩ 3 (0, 0))) :: (b13, some (.cells ⟨(boxL b A n cp A2 n2 c2 x_.A n x_.c x_.m)⟩ 66 (0, 0))) :: (b10, some (.cells ⟨[.int .i64 ((soldF (withN b b.sold q) ((nums s).take i)).lo), .int .i64 ((soldF (withN b b.sold q) ((nums s).take i)).hi)]⟩ 35 (0, 0))) :: (x_.t, some (.cells ⟨(boxL b A n cp A2 n2 c2 x_.A n x_.c x_.m)⟩ 66 (0, 0))) :: (x_.m, some (.map x_.es x_.clk)) :: (x_.b7, x_.o) :: (b4, some (.cells ⟨[.int .i64 0, .int .i64 0]⟩ 35 (0, 0))) :: (b3, some (.cells ⟨[.int .i64 (q : Int)]⟩ 3 (0, 0))) :: (b2, some (.cells ⟨(bxL b A n cp A2 n2 c2)⟩ 25 (0, 0))) :: (marks []))) (fun c_ B_ => False) (((b14, some (.cells ⟨[.int .i64 (q : Int)]⟩ 3 (0, 0))) :: (b13, some (.cells ⟨(boxL b A n cp A2 n2 c2 x_.A n x_.c x_.m)⟩ 66 (0, 0))) :: (b10, some (.cells ⟨[.int .i64 (-1), .int .i64 0]⟩ 35 (0, 0))) :: (x_.t, some (.cells ⟨(boxL b A n cp A2 n2 c2 x_.A n x_.c x_.m)⟩ 66 (0, 0))) :: (x_.m, some (.map x_.es x_.clk)) :: (x_.b7, x_.o) :: (b4, some (.cells ⟨[.int .i64 0, .int .i64 0]⟩ 35 (0, 0))) :: (b3, some (.cells ⟨[.int .i64 (q : Int)]⟩ 3 (0, 0))) :: (b2, some (.cells ⟨(bxL b A n cp A2 n2 c2)⟩ 25 (0, 0))) :: (marks [])).map (·.1)) hs22 (Ev.t 0 rfl) call74 (numbers_seq b A n cp A2 n2 c2 x_.A n x_.c x_.m b.sold q s hsq b13 b14 (by have := hO.n; have := hP.len; omega) (by have := hO.wf.sp _ _ hsq; omega)) ?_ ?_ ?_ (fun _ => rfl) (by kernel_rfl) (by decide) ?_ ?_ ?_ ?_
 · exact rfl
 · rintro i_ B_ rfl; exact ⟨rfl, (by obtain ⟨y_, hy_⟩ := Sx.Own.isSome x_.hO hne7; simp [isSome1, marks, hy_])⟩
 · rintro c_ B_ h_; exact h_.elim
 · rintro i B_ W_ rfl hk_ ht_
   have hS_ := own_tells x_.hO ht_ 5 rfl
   rw [soldlen hO, ← hP.len] at hS_
   exact ⟨hS_, CellsAt.of_block (ht_ _ (mem_nth (i := 1) rfl) _ rfl), CellsAt.of_block (ht_ _ (mem_nth (i := 0) rfl) _ rfl)⟩
 · rintro l_ i j_ B_ a_23 w_23 hxi rfl hkR hs23; clear hs22
   have hs24 : Sx 40 [] [(26, .int .i64 j_), (25, .func (.func 74) ⟨[]⟩ ⟨[.pointer (some ⟨b13, 0, none⟩), .pointer (some ⟨b14, 0, none⟩)]⟩), (8, .pointer (some ⟨b10, 0, none⟩)), (6, .pointer (some ⟨x_.t, 0, none⟩)), (5, .int .i64 0), (4, .pointer (some ⟨b4, 0, none⟩)), (3, .pointer (some ⟨b3, 0, none⟩))] ((b14, some (.cells ⟨[.int .i64 (q : Int)]⟩ 3 (0, 0))) :: (b13, some (.cells ⟨(boxL b A n cp A2 n2 c2 x_.A n x_.c x_.m)⟩ 66 (0, 0))) :: (b10, some (.cells ⟨[.int .i64 ((soldF (withN b b.sold q) ((nums s).take i)).lo), .int .i64 ((soldF (withN b b.sold q) ((nums s).take i)).hi)]⟩ 35 (0, 0))) :: (x_.t, some (.cells ⟨(boxL b A n cp A2 n2 c2 x_.A n x_.c x_.m)⟩ 66 (0, 0))) :: (x_.m, some (.map x_.es x_.clk)) :: (x_.b7, x_.o) :: (b4, some (.cells ⟨[.int .i64 0, .int .i64 0]⟩ 35 (0, 0))) :: (b3, some (.cells ⟨[.int .i64 (q : Int)]⟩ 3 (0, 0))) :: (b2, some (.cells ⟨(bxL b A n cp A2 n2 c2)⟩ 25 (0, 0))) :: (marks [])) (((b14, some (.cells ⟨[.int .i64 (q : Int)]⟩ 3 (0, 0))) :: (b13, some (.cells ⟨(boxL b A n cp A2 n2 c2 x_.A n x_.c x_.m)⟩ 66 (0, 0))) :: (b10, some (.cells ⟨[.int .i64 (-1), .int .i64 0]⟩ 35 (0, 0))) :: (x_.t, some (.cells ⟨(boxL b A n cp A2 n2 c2 x_.A n x_.c x_.m)⟩ 66 (0, 0))) :: (x_.m, some (.map x_.es x_.clk)) :: (x_.b7, x_.o) :: (b4, some (.cells ⟨[.int .i64 0, .int .i64 0]⟩ 35 (0, 0))) :: (b3, some (.cells ⟨[.int .i64 (q : Int)]⟩ 3 (0, 0))) :: (b2, some (.cells ⟨(bxL b A n cp A2 n2 c2)⟩ 25 (0, 0))) :: (marks [])).map (·.1)) w_23 _ _ := hs23; clear hs23
   refine cd_region1 ?_
   refine sq rfl (st_assign hs24 (Ev.t 0 rfl) rfl rfl fun _ _ hs25 => ?_); clear hs24
   refine wpListIn_nil ?_
   have hs26 := hs25.keep [0, 2, 3, 4, 5, 6, 7] [_, _, _, _, _, _, _] rfl; clear hs25
   refine th_norm ⟨_, _, hs26, (by obtain ⟨y_, hy_⟩ := Sx.Own.isSome x_.hO hne7; simp [isSome1, marks, hy_]), fun w_27 hkR2 hMR2 hs27 => ?_⟩; clear hs26
   have hs28 : Sx 40 [] [(9, .int .i64 j_), (25, .func (.func 74) ⟨[]⟩ ⟨[.pointer (some ⟨b13, 0, none⟩), .pointer (some ⟨b14, 0, none⟩)]⟩), (8, .pointer (some ⟨b10, 0, none⟩)), (6, .pointer (some ⟨x_.t, 0, none⟩)), (5, .int .i64 0), (4, .pointer (some ⟨b4, 0, none⟩)), (3, .pointer (some ⟨b3, 0, none⟩))] ((b14, some (.cells ⟨[.int .i64 (q : Int)]⟩ 3 (0, 0))) :: (b13, some (.cells ⟨(boxL b A n cp A2 n2 c2 x_.A n x_.c x_.m)⟩ 66 (0, 0))) :: (b10, some (.cells ⟨[.int .i64 ((soldF (withN b b.sold q) ((nums s).take i)).lo), .int .i64 ((soldF (withN b b.sold q) ((nums s).take i)).hi)]⟩ 35 (0, 0))) :: (x_.t, some (.cells ⟨(boxL b A n cp A2 n2 c2 x_.A n x_.c x_.m)⟩ 66 (0, 0))) :: (x_.m, some (.map x_.es x_.clk)) :: (x_.b7, x_.o) :: (b4, some (.cells ⟨[.int .i64 0, .int .i64 0]⟩ 35 (0, 0))) :: (b3, some (.cells ⟨[.int .i64 (q : Int)]⟩ 3 (0, 0))) :: (b2, some (.cells ⟨(bxL b A n cp A2 n2 c2)⟩ 25 (0, 0))) :: (marks [])) (((b14, some (.cells ⟨[.int .i64 (q : Int)]⟩ 3 (0, 0))) :: (b13, some (.cells ⟨(boxL b A n cp A2 n2 c2 x_.A n x_.c x_.m)⟩ 66 (0, 0))) :: (b10, some (.cells ⟨[.int .i64 ((soldF (withN b b.sold q) ((nums s).take i)).lo), .int .i64 ((soldF (withN b b.sold q) ((nums s).take i)).hi)]⟩ 35 (0, 0))) :: (x_.t, some (.cells ⟨(boxL b A n cp A2 n2 c2 x_.A n x_.c x_.m)⟩ 66 (0, 0))) :: (x_.m, some (.map x_.es x_.clk)) :: (x_.b7, x_.o) :: (b4, some (.cells ⟨[.int .i64 0, .int .i64 0]⟩ 35 (0, 0))) :: (b3, some (.cells ⟨[.int .i64 (q : Int)]⟩ 3 (0, 0))) :: (b2, some (.cells ⟨(bxL b A n cp A2 n2 c2)⟩ 25 (0, 0))) :: (marks [])).map (·.1)) w_27 _ _ := hs27; clear hs27
   have hkW := hkR2
   have hMW := hMR2
   refine cd_block ?_
   refine cd_seq fun K17 hK17 => ?_
   refine cd_region fun K18 hK18 => ?_
   refine sq rfl (st_loadA (o := 0) (off := 0) (vs := (boxL b A n cp A2 n2 c2 x_.A n x_.c x_.m)) hs28 (Ev.t 3 rfl) rfl rfl isAgg66 sizeOf66 (hs28.cells 3 rfl) rfl fun _ _ hs29 => ?_); clear hs28
   refine sq rfl (st_load1 (o := 0) (off := 0) (v := .int .i64 (q : Int)) hs29 (Ev.t 7 rfl) rfl rfl isAgg3 (hs29.cells 7 rfl) rfl fun _ _ hs30 => ?_); clear hs29
   refine sq rfl (st_move hs30 (Ev.t 2 rfl) rfl rfl fun _ _ hs31 => ?_); clear hs30
   refine sq rfl (st_callv (vs := [.agg ⟨(boxL b A n cp A2 n2 c2 x_.A n x_.c x_.m)⟩, .int .i64 (q : Int), .int .i64 j_]) hs31 (.func _) ⟨(Ev.t 2 rfl), (Ev.t 1 rfl), (Ev.t 0 rfl), trivial⟩ rfl rfl call50 rfl (with_v b A n cp A2 n2 c2 x_.A n x_.c x_.m b.sold q s hsq j_ _ (hP.kp (Kp.viaM hkW hs31.kp hMW)) hn (by have h := x_.hO.at hs31 5 rfl; rw [soldlen hO, ← hP.len] at h; exact h) hO.wf (by have h := own_cap x_.hO; rw [soldlen hO, ← hP.len] at h; exact h)) fun _ _ hs32 => ?_); clear hs31
   refine sq rfl (st_cmp (c := ((withN b b.sold q j_ : Int) : Int) == 0) hs32 (Ev.t 0 rfl) (.const _) rfl rfl rfl rfl fun _ _ hs33 => ?_); clear hs32
   refine hK18 _ _ ?_; clear hK18
   refine cd_cond hs33 (Ev.t 0 rfl) (fun hc19 => ?_) (fun hc19 => ?_)
   · have h0 : withN b b.sold q j_ = 0 := by have h := hc19; rw [beq_iff_eq] at h; omega
     refine cd_exit ?_
     refine th_exit ?_
     refine in_hit ?_
     have hs34 := hs33.asB ((b14, some (.cells ⟨[.int .i64 (q : Int)]⟩ 3 (0, 0))) :: (b13, some (.cells ⟨(boxL b A n cp A2 n2 c2 x_.A n x_.c x_.m)⟩ 66 (0, 0))) :: (b10, some (.cells ⟨[.int .i64 ((soldF (withN b b.sold q) ((nums s).take (i + 1))).lo), .int .i64 ((soldF (withN b b.sold q) ((nums s).take (i + 1))).hi)]⟩ 35 (0, 0))) :: (x_.t, some (.cells ⟨(boxL b A n cp A2 n2 c2 x_.A n x_.c x_.m)⟩ 66 (0, 0))) :: (x_.m, some (.map x_.es x_.clk)) :: (x_.b7, x_.o) :: (b4, some (.cells ⟨[.int .i64 0, .int .i64 0]⟩ 35 (0, 0))) :: (b3, some (.cells ⟨[.int .i64 (q : Int)]⟩ 3 (0, 0))) :: (b2, some (.cells ⟨(bxL b A n cp A2 n2 c2)⟩ 25 (0, 0))) :: (marks [])) (by (rw [soldF_snoc hxi, soldStep, if_pos h0]) <;> rfl); clear hs33
     exact ⟨_, _, _, rfl, (fun p hp => by simp only [List.mem_cons] at hp; rcases hp with rfl | rfl | rfl | rfl | rfl | rfl | rfl | rfl | rfl | hp; exact mem_nth (i := 0) rfl; exact mem_nth (i := 1) rfl; exact mem_nth (i := 2) rfl; exact mem_nth (i := 3) rfl; exact mem_nth (i := 4) rfl; exact mem_nth (i := 5) rfl; exact mem_nth (i := 6) rfl; exact mem_nth (i := 7) rfl; exact mem_nth (i := 8) rfl; exact List.mem_cons_of_mem _ (List.mem_cons_of_mem _ (List.mem_cons_of_mem _ (List.mem_cons_of_mem _ (List.mem_cons_of_mem _ (List.mem_cons_of_mem _ (List.mem_cons_of_mem _ (List.mem_cons_of_mem _ (List.mem_cons_of_mem _ (hp)))))))))), hs34⟩
   · have h0 : ¬ withN b b.sold q j_ = 0 := by have h := hc19; rw [beq_eq_false_iff_ne] at h; omega
     refine cd_skip ?_
     refine th_norm (hK17 _ _ ?_)
     refine cd_seq fun K20 hK20 => ?_
     refine cd_region fun K21 hK21 => ?_
     refine sq rfl (st_field (o' := 0) hs33 (Ev.t 7 rfl) rfl rfl runUnderlying35 rfl sizeOf3 rfl rfl fun _ _ hs34 => ?_); clear hs33
     refine sq rfl (st_load1 (o := 0) (off := 0) (v := .int .i64 ((soldF (withN b b.sold q) ((nums s).take i)).lo)) hs34 (Ev.t 0 rfl) rfl rfl isAgg3 (hs34.cells 2 rfl) rfl fun _ _ hs35 => ?_); clear hs34
     refine sq rfl (st_cmp (c := decide (((soldF (withN b b.sold q) ((nums s).take i)).lo : Int) < 0)) hs35 (Ev.t 0 rfl) (.const _) rfl rfl rfl rfl fun _ _ hs36 => ?_); clear hs35
     refine hK21 _ _ ?_; clear hK21
     refine cd_cond hs36 (Ev.t 0 rfl) (fun hc22 => ?_) (fun hc22 => ?_)
     · have hneg := of_decide_eq_true hc22
       refine cd_region1 ?_
       refine sq rfl (st_move hs36 (Ev.t 8 rfl) rfl rfl fun _ _ hs37 => ?_); clear hs36
       refine sq rfl (st_field (o' := 0) hs37 (Ev.t 11 rfl) rfl rfl runUnderlying35 rfl sizeOf3 rfl rfl fun _ _ hs38 => ?_); clear hs37
       refine sq rfl (st_store (l' := [.int .i64 j_, .int .i64 ((soldF (withN b b.sold q) ((nums s).take i)).hi)]) (vs := [.int .i64 j_]) (i := 2) hs38 (Ev.t 0 rfl) (Ev.t 1 rfl) sizeOf3 rfl rfl rfl rfl rfl rfl fun _ _ hs39 => ?_); clear hs38
       have hs40 := hs39.asB (_ :: _ :: _ :: _ :: _ :: _ :: _ :: _ :: _ :: _) rfl; clear hs39
       refine wpListIn_nil ?_
       refine th_norm (hK20 _ _ ?_)
       refine cd_region1 ?_
       refine sq rfl (st_move hs40 (Ev.t 10 rfl) rfl rfl fun _ _ hs41 => ?_); clear hs40
       refine sq rfl (st_field (o' := 1) hs41 (Ev.t 13 rfl) rfl rfl runUnderlying35 rfl sizeOf3 rfl rfl fun _ _ hs42 => ?_); clear hs41
       refine sq rfl (st_store (l' := [.int .i64 j_, .int .i64 j_]) (vs := [.int .i64 j_]) (i := 2) hs42 (Ev.t 0 rfl) (Ev.t 1 rfl) sizeOf3 rfl rfl rfl rfl rfl rfl fun _ _ hs43 => ?_); clear hs42
       have hs44 := hs43.asB (_ :: _ :: _ :: _ :: _ :: _ :: _ :: _ :: _ :: _) rfl; clear hs43
       refine wpListIn_nil ?_
       refine in_norm ?_
       have hs45 := hs44.asB ((b14, some (.cells ⟨[.int .i64 (q : Int)]⟩ 3 (0, 0))) :: (b13, some (.cells ⟨(boxL b A n cp A2 n2 c2 x_.A n x_.c x_.m)⟩ 66 (0, 0))) :: (b10, some (.cells ⟨[.int .i64 ((soldF (withN b b.sold q) ((nums s).take (i + 1))).lo), .int .i64 ((soldF (withN b b.sold q) ((nums s).take (i + 1))).hi)]⟩ 35 (0, 0))) :: (x_.t, some (.cells ⟨(boxL b A n cp A2 n2 c2 x_.A n x_.c x_.m)⟩ 66 (0, 0))) :: (x_.m, some (.map x_.es x_.clk)) :: (x_.b7, x_.o) :: (b4, some (.cells ⟨[.int .i64 0, .int .i64 0]⟩ 35 (0, 0))) :: (b3, some (.cells ⟨[.int .i64 (q : Int)]⟩ 3 (0, 0))) :: (b2, some (.cells ⟨(bxL b A n cp A2 n2 c2)⟩ 25 (0, 0))) :: (marks [])) (by (rw [soldF_snoc hxi, soldStep, if_neg h0, if_pos hneg]) <;> rfl); clear hs44
       exact ⟨_, _, _, rfl, (fun p hp => by simp only [List.mem_cons] at hp; rcases hp with rfl | rfl | rfl | rfl | rfl | rfl | rfl | rfl | rfl | hp; exact mem_nth (i := 0) rfl; exact mem_nth (i := 1) rfl; exact mem_nth (i := 2) rfl; exact mem_nth (i := 3) rfl; exact mem_nth (i := 4) rfl; exact mem_nth (i := 5) rfl; exact mem_nth (i := 6) rfl; exact mem_nth (i := 7) rfl; exact mem_nth (i := 8) rfl; exact List.mem_cons_of_mem _ (List.mem_cons_of_mem _ (List.mem_cons_of_mem _ (List.mem_cons_of_mem _ (List.mem_cons_of_mem _ (List.mem_cons_of_mem _ (List.mem_cons_of_mem _ (List.mem_cons_of_mem _ (List.mem_cons_of_mem _ (hp)))))))))), hs45⟩
     · have hneg := of_decide_eq_false hc22
       refine cd_skip ?_
       refine th_norm (hK20 _ _ ?_)
       refine cd_region1 ?_
       refine sq rfl (st_move hs36 (Ev.t 8 rfl) rfl rfl fun _ _ hs37 => ?_); clear hs36
       refine sq rfl (st_field (o' := 1) hs37 (Ev.t 11 rfl) rfl rfl runUnderlying35 rfl sizeOf3 rfl rfl fun _ _ hs38 => ?_); clear hs37
       refine sq rfl (st_store (l' := [.int .i64 ((soldF (withN b b.sold q) ((nums s).take i)).lo), .int .i64 j_]) (vs := [.int .i64 j_]) (i := 2) hs38 (Ev.t 0 rfl) (Ev.t 1 rfl) sizeOf3 rfl rfl rfl rfl rfl rfl fun _ _ hs39 => ?_); clear hs38
       have hs40 := hs39.asB (_ :: _ :: _ :: _ :: _ :: _ :: _ :: _ :: _ :: _) rfl; clear hs39
       refine wpListIn_nil ?_
       refine in_norm ?_
       have hs41 := hs40.asB ((b14, some (.cells ⟨[.int .i64 (q : Int)]⟩ 3 (0, 0))) :: (b13, some (.cells ⟨(boxL b A n cp A2 n2 c2 x_.A n x_.c x_.m)⟩ 66 (0, 0))) :: (b10, some (.cells ⟨[.int .i64 ((soldF (withN b b.sold q) ((nums s).take (i + 1))).lo), .int .i64 ((soldF (withN b b.sold q) ((nums s).take (i + 1))).hi)]⟩ 35 (0, 0))) :: (x_.t, some (.cells ⟨(boxL b A n cp A2 n2 c2 x_.A n x_.c x_.m)⟩ 66 (0, 0))) :: (x_.m, some (.map x_.es x_.clk)) :: (x_.b7, x_.o) :: (b4, some (.cells ⟨[.int .i64 0, .int .i64 0]⟩ 35 (0, 0))) :: (b3, some (.cells ⟨[.int .i64 (q : Int)]⟩ 3 (0, 0))) :: (b2, some (.cells ⟨(bxL b A n cp A2 n2 c2)⟩ 25 (0, 0))) :: (marks [])) (by (rw [soldF_snoc hxi, soldStep, if_neg h0, if_neg hneg]) <;> rfl); clear hs40
       exact ⟨_, _, _, rfl, (fun p hp => by simp only [List.mem_cons] at hp; rcases hp with rfl | rfl | rfl | rfl | rfl | rfl | rfl | rfl | rfl | hp; exact mem_nth (i := 0) rfl; exact mem_nth (i := 1) rfl; exact mem_nth (i := 2) rfl; exact mem_nth (i := 3) rfl; exact mem_nth (i := 4) rfl; exact mem_nth (i := 5) rfl; exact mem_nth (i := 6) rfl; exact mem_nth (i := 7) rfl; exact mem_nth (i := 8) rfl; exact List.mem_cons_of_mem _ (List.mem_cons_of_mem _ (List.mem_cons_of_mem _ (List.mem_cons_of_mem _ (List.mem_cons_of_mem _ (List.mem_cons_of_mem _ (List.mem_cons_of_mem _ (List.mem_cons_of_mem _ (List.mem_cons_of_mem _ (hp)))))))))), hs41⟩
 · rintro d_23 B_ a_23 w_23 rfl hs23
   clear hs22
   have hs24 : Sx 40 (dmarks (d_23 :: [])) [(25, .func (.func 74) ⟨[]⟩ ⟨[.pointer (some ⟨b13, 0, none⟩), .pointer (some ⟨b14, 0, none⟩)]⟩), (8, .pointer (some ⟨b10, 0, none⟩)), (6, .pointer (some ⟨x_.t, 0, none⟩)), (5, .int .i64 0), (4, .pointer (some ⟨b4, 0, none⟩)), (3, .pointer (some ⟨b3, 0, none⟩))] ((b14, some (.cells ⟨[.int .i64 (q : Int)]⟩ 3 (0, 0))) :: (b13, some (.cells ⟨(boxL b A n cp A2 n2 c2 x_.A n x_.c x_.m)⟩ 66 (0, 0))) :: (b10, some (.cells ⟨[.int .i64 ((soldF (withN b b.sold q) ((nums s).take (nums s).length)).lo), .int .i64 ((soldF (withN b b.sold q) ((nums s).take (nums s).length)).hi)]⟩ 35 (0, 0))) :: (x_.t, some (.cells ⟨(boxL b A n cp A2 n2 c2 x_.A n x_.c x_.m)⟩ 66 (0, 0))) :: (x_.m, some (.map x_.es x_.clk)) :: (x_.b7, x_.o) :: (b4, some (.cells ⟨[.int .i64 0, .int .i64 0]⟩ 35 (0, 0))) :: (b3, some (.cells ⟨[.int .i64 (q : Int)]⟩ 3 (0, 0))) :: (b2, some (.cells ⟨(bxL b A n cp A2 n2 c2)⟩ 25 (0, 0))) :: (marks (d_23 :: []))) [] w _ _ := Sx.toTail [(b14, some (.cells ⟨[.int .i64 (q : Int)]⟩ 3 (0, 0))), (b13, some (.cells ⟨(boxL b A n cp A2 n2 c2 x_.A n x_.c x_.m)⟩ 66 (0, 0))), (b10, some (.cells ⟨[.int .i64 ((soldF (withN b b.sold q) ((nums s).take (nums s).length)).lo), .int .i64 ((soldF (withN b b.sold q) ((nums s).take (nums s).length)).hi)]⟩ 35 (0, 0))), (x_.t, some (.cells ⟨(boxL b A n cp A2 n2 c2 x_.A n x_.c x_.m)⟩ 66 (0, 0))), (x_.m, some (.map x_.es x_.clk)), (x_.b7, x_.o), (b4, some (.cells ⟨[.int .i64 0, .int .i64 0]⟩ 35 (0, 0))), (b3, some (.cells ⟨[.int .i64 (q : Int)]⟩ 3 (0, 0))), (b2, some (.cells ⟨(bxL b A n cp A2 n2 c2)⟩ 25 (0, 0)))] hs23; clear hs23
   rw [List.take_length] at hs24
   have hs25 := hs24.asB ((b14, some (.cells ⟨[.int .i64 (q : Int)]⟩ 3 (0, 0))) :: (b13, some (.cells ⟨(boxL b A n cp A2 n2 c2 x_.A n x_.c x_.m)⟩ 66 (0, 0))) :: (b10, some (.cells ⟨[.int .i64 ((soldF (withN b b.sold q) (nums s)).lo), .int .i64 ((soldF (withN b b.sold q) (nums s)).hi)]⟩ 35 (0, 0))) :: (x_.t, some (.cells ⟨(boxL b A n cp A2 n2 c2 x_.A n x_.c x_.m)⟩ 66 (0, 0))) :: (x_.m, some (.map x_.es x_.clk)) :: (x_.b7, x_.o) :: (b4, some (.cells ⟨[.int .i64 0, .int .i64 0]⟩ 35 (0, 0))) :: (b3, some (.cells ⟨[.int .i64 (q : Int)]⟩ 3 (0, 0))) :: (b2, some (.cells ⟨(bxL b A n cp A2 n2 c2)⟩ 25 (0, 0))) :: (marks (d_23 :: []))) (by (skip) <;> rfl); clear hs24
   refine in_norm ?_
   refine th_norm (hK11 _ _ ?_)
   refine cd_region fun K23 hK23 => ?_
   refine sq rfl (st_loadA (o := 0) (off := 0) (vs := [.int .i64 ((soldF (withN b b.sold q) (nums s)).lo), .int .i64 ((soldF (withN b b.sold q) (nums s)).hi)]) hs25 (Ev.t 1 rfl) rfl rfl isAgg35 sizeOf35 (hs25.cells 2 rfl) rfl fun _ _ hs26 => ?_); clear hs25
   refine sq rfl (st_store (l' := [.int .i64 ((soldF (withN b b.sold q) (nums s)).lo), .int .i64 ((soldF (withN b b.sold q) (nums s)).hi)]) (vs := [.int .i64 ((soldF (withN b b.sold q) (nums s)).lo), .int .i64 ((soldF (withN b b.sold q) (nums s)).hi)]) (i := 6) hs26 (Ev.t 5 rfl) (Ev.t 0 rfl) sizeOf35 rfl rfl rfl rfl rfl rfl fun _ _ hs27 => ?_); clear hs26
   have hs28 := hs27.asB (_ :: _ :: _ :: _ :: _ :: _ :: _ :: _ :: _ :: _) rfl; clear hs27
   have hs29 := hs28.keep [0, 1, 2, 3, 5, 6] [_, _, _, _, _, _] rfl; clear hs28
   refine sq rfl (st_assign hs29 (.const _) rfl rfl fun _ _ hs30 => ?_); clear hs29
   refine hK23 _ _ ?_; clear hK23
   have hs31 := hs30.keep [0, 5] [_, _] rfl; clear hs30
   refine cd_retYv (B1 := [(b14, some (.cells ⟨[.int .i64 (q : Int)]⟩ 3 (0, 0))), (b13, some (.cells ⟨(boxL b A n cp A2 n2 c2 x_.A n x_.c x_.m)⟩ 66 (0, 0))), (b10, some (.cells ⟨[.int .i64 ((soldF (withN b b.sold q) (nums s)).lo), .int .i64 ((soldF (withN b b.sold q) (nums s)).hi)]⟩ 35 (0, 0))), (x_.t, some (.cells ⟨(boxL b A n cp A2 n2 c2 x_.A n x_.c x_.m)⟩ 66 (0, 0))), (x_.m, some (.map x_.es x_.clk)), (x_.b7, x_.o), (b4, some (.cells ⟨[.int .i64 ((soldF (withN b b.sold q) (nums s)).lo), .int .i64 ((soldF (withN b b.sold q) (nums s)).hi)]⟩ 35 (0, 0))), (b3, some (.cells ⟨[.int .i64 (q : Int)]⟩ 3 (0, 0))), (b2, some (.cells ⟨(bxL b A n cp A2 n2 c2)⟩ 25 (0, 0)))]) (vs := [.agg ⟨[.int .i64 ((soldF (withN b b.sold q) (nums s)).lo), .int .i64 ((soldF (withN b b.sold q) (nums s)).hi)]⟩, .int .i64 0]) hs31 hQ0 rfl (fun _ _ hsM => ⟨resA (o := 0) (off := 0) (vs := [.int .i64 ((soldF (withN b b.sold q) (nums s)).lo), .int .i64 ((soldF (withN b b.sold q) (nums s)).hi)]) 1 rfl isAgg35 sizeOf35 (hsM.cells 6 rfl) rfl, .tmp 0 rfl, trivial⟩) ?_
   clear hs31 hQ0 hN0
   simp [pack, Bx.soldR, hask, Bx.numsOf, hsq]
 · rintro d_ c_ B_ a_ w_ h_; exact h_.elim

theorem Sold_v (b : Bx) (A : Option Addr) (n cp : Nat) (A2 : Option Addr) (n2 c2 : Nat) (w : World) (hP : RollsAt w A n b.rolls) (hn : n ≤ 140737488351232) (hF : SpsAt w A2 n2 b.free) (hn2 : n2 ≤ 140737488351232) (k : Int) : CallsV Tryd.prog 18 [.agg ⟨bxL b A n cp A2 n2 c2⟩, .int .i64 k] w (.tuple ⟨[.agg ⟨[.int .i64 ((b.soldR k).1.lo), .int .i64 ((b.soldR k).1.hi)]⟩, .int .i64 ((b.soldR k).2)]⟩) := by
  by_cases h : b.asked (isRoll b k) = 0
  · obtain ⟨hok, hrt, hm0⟩ := asked_zero.1 h
    have hr := Till.within_iff.1 hrt
    have hO := ok_iff.1 hok
    obtain ⟨q, rfl⟩ : ∃ q : Nat, k = (q : Int) := ⟨k.toNat, by omega⟩
    obtain ⟨s, hsq⟩ : ∃ s, b.sold[q]? = some s := ⟨_, List.getElem?_eq_getElem (by rw [soldlen hO]; omega)⟩
    exact Sold_yes b A n cp A2 n2 c2 q s hsq hok hm0 w hP hn hF hn2
  · exact Sold_no b A n cp A2 n2 c2 k h w hP hn hF hn2

theorem Ask_no (b : Bx) (A : Option Addr) (n cp : Nat) (A2 : Option Addr) (n2 c2 : Nat) (hne : b.asked true ≠ 0) (w : World) (hP : RollsAt w A n b.rolls) (hn : n ≤ 140737488351232) (hF : SpsAt w A2 n2 b.free) (hn2 : n2 ≤ 140737488351232) :
    CallsV Tryd.prog 12 [.agg ⟨(bxL b A n cp A2 n2 c2)⟩] w (.tuple ⟨[.int .i64 b.askR.1, .int .i64 b.askR.2]⟩) := by
 refine enter (N := 52) (M := []) w func12 rfl rfl rfl (fun Q0 a_0 hQ0 hN0 hs0 => ?_)
 rcases asked_cases2 hne with hok | ⟨hok, hm0⟩
 · skip
   refine cd_region fun K1 hK1 => ?_
   refine sq rfl (st_box hs0 (Ev.t 0 rfl) rfl rfl rfl fun b2 _ _ hs1 => ?_); clear hs0
   refine sq rfl (st_assign hs1 (.const _) rfl rfl fun _ _ hs2 => ?_); clear hs1
   refine sq rfl (st_assign hs2 (.const _) rfl rfl fun _ _ hs3 => ?_); clear hs2
   refine hK1 _ _ ?_; clear hK1
   have hs4 := hs3.keep [0, 1, 2] [_, _, _] rfl; clear hs3
   refine cd_region fun K3 hK3 => ?_
   refine sq rfl (st_loadA (o := 0) (off := 0) (vs := (bxL b A n cp A2 n2 c2)) hs4 (Ev.t 2 rfl) rfl rfl isAgg25 sizeOf25 (hs4.cells 0 rfl) rfl fun _ _ hs5 => ?_); clear hs4
   refine sq rfl (st_callv (vs := [.agg ⟨(bxL b A n cp A2 n2 c2)⟩, .bool true]) hs5 (.func _) ⟨(Ev.t 0 rfl), (.const _), trivial⟩ rfl rfl call45 rfl (asked_1 b A n cp A2 n2 c2 _ (hP.kp hs5.kp) hn (hF.kp hs5.kp) hn2 true hok) fun _ _ hs6 => ?_); clear hs5
   refine sq rfl (st_move hs6 (Ev.t 0 rfl) rfl rfl fun _ _ hs7 => ?_); clear hs6
   refine sq rfl (st_extract hs7 (Ev.t 0 rfl) rfl rfl rfl fun _ _ hs8 => ?_); clear hs7
   refine sq rfl (st_extract hs8 (Ev.t 1 rfl) rfl rfl rfl fun _ _ hs9 => ?_); clear hs8
   refine sq rfl (st_alloc hs9 rfl rfl zeroValue66 rfl fun b4 _ _ hs10 => ?_); clear hs9
   refine sq rfl (st_store (l' := [.slice none 0 0, .slice none 0 0, .int .i64 0, .int .i64 0, .int .i64 0, .int .i64 0, .int .i64 0, .slice none 0 0, .map none]) (vs := [.slice none 0 0, .slice none 0 0, .int .i64 0, .int .i64 0, .int .i64 0, .int .i64 0, .int .i64 0, .slice none 0 0, .map none]) (i := 0) hs10 (Ev.t 0 rfl) (Ev.t 2 rfl) sizeOf66 rfl rfl rfl rfl rfl rfl fun _ _ hs11 => ?_); clear hs10
   have hs12 := hs11.asB [_, _] rfl; clear hs11
   refine sq rfl (st_assign hs12 (Ev.t 1 rfl) rfl rfl fun _ _ hs13 => ?_); clear hs12
   refine hK3 _ _ ?_; clear hK3
   have hs14 := hs13.keep [0, 1, 7, 8, 9] [_, _, _, _, _] rfl; clear hs13
   refine cd_seq fun K5 hK5 => ?_
   refine cd_region fun K6 hK6 => ?_
   refine sq rfl (st_move hs14 (Ev.t 0 rfl) rfl rfl fun _ _ hs15 => ?_); clear hs14
   refine sq rfl (st_cmp (c := true) hs15 (Ev.t 0 rfl) (.const _) rfl rfl rfl rfl fun _ _ hs16 => ?_); clear hs15
   refine hK6 _ _ ?_; clear hK6
   have hs17 := hs16.keep [0, 2, 3, 4, 5, 6] [_, _, _, _, _, _] rfl; clear hs16
   have hc7 : true = true := rfl
   refine cd_cond hs17 (Ev.t 0 rfl) (fun _ => ?_) (fun h => absurd (hc7.symm.trans h) (by decide))
   refine cd_region fun K8 hK8 => ?_
   refine sq rfl (st_move hs17 (Ev.t 1 rfl) rfl rfl fun _ _ hs18 => ?_); clear hs17
   have hs19 := hs18.keep [0, 1, 2, 3, 4, 6] [_, _, _, _, _, _] rfl; clear hs18
   refine sq rfl (st_assign hs19 (.const _) rfl rfl fun _ _ hs20 => ?_); clear hs19
   have hs21 := hs20.keep [0, 1, 2, 3, 4, 6] [_, _, _, _, _, _] rfl; clear hs20
   refine sq rfl (st_assign hs21 (Ev.t 1 rfl) rfl rfl fun _ _ hs22 => ?_); clear hs21
   refine hK8 _ _ ?_; clear hK8
   have hs23 := hs22.keep [0, 1] [_, _] rfl; clear hs22
   refine cd_retv (vs := [.int .i64 0, .int .i64 90]) hs23 (fun a_ w_ h => th_ret (hQ0 a_ w_ h)) rfl ⟨.tmp 1 rfl, .tmp 0 rfl, trivial⟩ ?_
   clear hs23 hQ0 hN0 hK5
   first | (simp [pack, Bx.askR, Bx.asked, hok, hm0]; done) | simp [pack, Bx.askR, Bx.asked, hok]
 · skip
   refine cd_region fun K9 hK9 => ?_
   refine sq rfl (st_box hs0 (Ev.t 0 rfl) rfl rfl rfl fun b10 _ _ hs1 => ?_); clear hs0
   refine sq rfl (st_assign hs1 (.const _) rfl rfl fun _ _ hs2 => ?_); clear hs1
   refine sq rfl (st_assign hs2 (.const _) rfl rfl fun _ _ hs3 => ?_); clear hs2
   refine hK9 _ _ ?_; clear hK9
   have hs4 := hs3.keep [0, 1, 2] [_, _, _] rfl; clear hs3
   refine cd_region fun K11 hK11 => ?_
   refine sq rfl (st_loadA (o := 0) (off := 0) (vs := (bxL b A n cp A2 n2 c2)) hs4 (Ev.t 2 rfl) rfl rfl isAgg25 sizeOf25 (hs4.cells 0 rfl) rfl fun _ _ hs5 => ?_); clear hs4
   refine sq rfl (st_call (vs := [.agg ⟨(bxL b A n cp A2 n2 c2)⟩, .bool true]) hs5 (.func _) ⟨(Ev.t 0 rfl), (.const _), trivial⟩ rfl rfl call45 rfl (asked_3 b A n cp A2 n2 c2 _ (hP.kp hs5.kp) hn (hF.kp hs5.kp) hn2 true hok rfl hm0) fun v12 bs13 a_6 w_6 hp6 hs6 => ?_); clear hs5
   obtain ⟨A7, c7, m7, rfl, rfl⟩ := hp6
   have hs7 := Sx.as (T' := [_, _, _, _, _]) (B' := [_]) rfl rfl hs6; clear hs6
   refine sq rfl (st_move hs7 (Ev.t 0 rfl) rfl rfl fun _ _ hs8 => ?_); clear hs7
   refine sq rfl (st_extract hs8 (Ev.t 0 rfl) rfl rfl rfl fun _ _ hs9 => ?_); clear hs8
   refine sq rfl (st_extract hs9 (Ev.t 1 rfl) rfl rfl rfl fun _ _ hs10 => ?_); clear hs9
   refine sq rfl (st_alloc hs10 rfl rfl zeroValue66 rfl fun b14 _ _ hs11 => ?_); clear hs10
   refine sq rfl (st_store (l' := (boxL b A n cp A2 n2 c2 A7 n c7 m7)) (vs := (boxL b A n cp A2 n2 c2 A7 n c7 m7)) (i := 0) hs11 (Ev.t 0 rfl) (Ev.t 2 rfl) sizeOf66 rfl rfl rfl rfl rfl rfl fun _ _ hs12 => ?_); clear hs11
   have hs13 := hs12.asB [_, _] rfl; clear hs12
   refine sq rfl (st_assign hs13 (Ev.t 1 rfl) rfl rfl fun _ _ hs14 => ?_); clear hs13
   refine hK11 _ _ ?_; clear hK11
   have hs15 := hs14.keep [0, 1, 7, 8, 9] [_, _, _, _, _] rfl; clear hs14
   refine cd_seq fun K15 hK15 => ?_
   refine cd_region fun K16 hK16 => ?_
   refine sq rfl (st_move hs15 (Ev.t 0 rfl) rfl rfl fun _ _ hs16 => ?_); clear hs15
   refine sq rfl (st_cmp (c := true) hs16 (Ev.t 0 rfl) (.const _) rfl rfl rfl rfl fun _ _ hs17 => ?_); clear hs16
   refine hK16 _ _ ?_; clear hK16
   have hs18 := hs17.keep [0, 2, 3, 4, 5, 6] [_, _, _, _, _, _] rfl; clear hs17
   have hc17 : true = true := rfl
   refine cd_cond hs18 (Ev.t 0 rfl) (fun _ => ?_) (fun h => absurd (hc17.symm.trans h) (by decide))
   refine cd_region fun K18 hK18 => ?_
   refine sq rfl (st_move hs18 (Ev.t 1 rfl) rfl rfl fun _ _ hs19 => ?_); clear hs18
   have hs20 := hs19.keep [0, 1, 2, 3, 4, 6] [_, _, _, _, _, _] rfl; clear hs19
   refine sq rfl (st_assign hs20 (.const _) rfl rfl fun _ _ hs21 => ?_); clear hs20
   have hs22 := hs21.keep [0, 1, 2, 3, 4, 6] [_, _, _, _, _, _] rfl; clear hs21
   refine sq rfl (st_assign hs22 (Ev.t 1 rfl) rfl rfl fun _ _ hs23 => ?_); clear hs22
   refine hK18 _ _ ?_; clear hK18
   have hs24 := hs23.keep [0, 1] [_, _] rfl; clear hs23
   refine cd_retv (vs := [.int .i64 0, .int .i64 92]) hs24 (fun a_ w_ h => th_ret (hQ0 a_ w_ h)) rfl ⟨.tmp 1 rfl, .tmp 0 rfl, trivial⟩ ?_
   clear hs24 hQ0 hN0 hK15
   first | (simp [pack, Bx.askR, Bx.asked, hok, hm0]; done) | simp [pack, Bx.askR, Bx.asked, hok]

theorem Ask_yes (b : Bx) (A : Option Addr) (n cp : Nat) (A2 : Option Addr) (n2 c2 : Nat) (hok : b.ok = true) (hm0 : b.many ≠ 0) (w : World) (hP : RollsAt w A n b.rolls) (hn : n ≤ 140737488351232) (hF : SpsAt w A2 n2 b.free) (hn2 : n2 ≤ 140737488351232) :
    CallsV Tryd.prog 12 [.agg ⟨(bxL b A n cp A2 n2 c2)⟩] w (.tuple ⟨[.int .i64 b.askR.1, .int .i64 b.askR.2]⟩) := by
 have hO := ok_iff.1 hok
 have hask : b.asked true = 0 := asked_zero.2 ⟨hok, rfl, hm0⟩
 have hl1 := hP.len
 have hMW : ∀ q ∈ ([] : List Nat), q ∈ ([] : List Nat) ∨ w.heap.size ≤ q := fun q hq => .inl hq
 have hkW : Kp [] w w := Kp.refl _ _
 have hne7 : b.sold ≠ [] := by intro e; have := soldlen hO; rw [e] at this; have := hO.n; simp at *; omega
 refine enterM (N := 52) (M := []) w func12 rfl rfl rfl (fun Q0 a_0 hQ0 hN0 hs0 => ?_)
 have hs1 : Sx 52 (dmarks []) [(0, .agg ⟨(bxL b A n cp A2 n2 c2)⟩)] ((marks [])) [] w _ _ := hs0; clear hs0
 refine cd_region fun K1 hK1 => ?_
 refine sq rfl (st_box hs1 (Ev.t 0 rfl) rfl rfl rfl fun b2 _ _ hs2 => ?_); clear hs1
 refine sq rfl (st_assign hs2 (.const _) rfl rfl fun _ _ hs3 => ?_); clear hs2
 refine sq rfl (st_assign hs3 (.const _) rfl rfl fun _ _ hs4 => ?_); clear hs3
 refine hK1 _ _ ?_; clear hK1
 have hs5 := hs4.keep [0, 1, 2] [_, _, _] rfl; clear hs4
 refine cd_region fun K3 hK3 => ?_
 refine sq rfl (st_loadA (o := 0) (off := 0) (vs := (bxL b A n cp A2 n2 c2)) hs5 (Ev.t 2 rfl) rfl rfl isAgg25 sizeOf25 (hs5.cells 0 rfl) rfl fun _ _ hs6 => ?_); clear hs5
 refine sq rfl (st_call (vs := [.agg ⟨(bxL b A n cp A2 n2 c2)⟩, .bool true]) hs6 (.func _) ⟨(Ev.t 0 rfl), (.const _), trivial⟩ rfl rfl call45 rfl (asked_4 b A n cp A2 n2 c2 _ (hP.kp (Kp.viaM hkW hs6.kp hMW)) hn (hF.kp (Kp.viaM hkW hs6.kp hMW)) hn2 true hok rfl hm0) fun v4 bs5 a_7 w_7 hp7 hs7 => ?_); clear hs6
 obtain ⟨A7, c7, b7, o7, m7, es7, clk7, rfl, hO7, hE7, rfl⟩ := hp7
 have hs8 := Sx.as (T' := [_, _, _, _, _]) (B' := _ :: _ :: _ :: _) rfl rfl hs7; clear hs7
 refine sq rfl (st_move hs8 (Ev.t 0 rfl) rfl rfl fun _ _ hs9 => ?_); clear hs8
 refine sq rfl (st_extract hs9 (Ev.t 0 rfl) rfl rfl rfl fun _ _ hs10 => ?_); clear hs9
 refine sq rfl (st_extract hs10 (Ev.t 1 rfl) rfl rfl rfl fun _ _ hs11 => ?_); clear hs10
 refine sq rfl (st_alloc hs11 rfl rfl zeroValue66 rfl fun b6 _ _ hs12 => ?_); clear hs11
 refine sq rfl (st_store (l' := (boxL b A n cp A2 n2 c2 A7 n c7 m7)) (vs := (boxL b A n cp A2 n2 c2 A7 n c7 m7)) (i := 0) hs12 (Ev.t 0 rfl) (Ev.t 2 rfl) sizeOf66 rfl rfl rfl rfl rfl rfl fun _ _ hs13 => ?_); clear hs12
 have hs14 := hs13.asB (_ :: _ :: _ :: _ :: _) rfl; clear hs13
 refine sq rfl (st_assign hs14 (Ev.t 1 rfl) rfl rfl fun _ _ hs15 => ?_); clear hs14
 refine hK3 _ _ ?_; clear hK3
 have hs16 := hs15.keep [0, 1, 7, 8, 9] [_, _, _, _, _] rfl; clear hs15
 refine cd_seq fun K7 hK7 => ?_
 refine cd_region fun K8 hK8 => ?_
 refine sq rfl (st_move hs16 (Ev.t 0 rfl) rfl rfl fun _ _ hs17 => ?_); clear hs16
 refine sq rfl (st_cmp (c := false) hs17 (Ev.t 0 rfl) (.const _) rfl rfl rfl rfl fun _ _ hs18 => ?_); clear hs17
 refine hK8 _ _ ?_; clear hK8
 have hs19 := hs18.keep [0, 2, 3, 4, 5, 6] [_, _, _, _, _, _] rfl; clear hs18
 have hc9 : false = false := rfl
 refine cd_cond hs19 (Ev.t 0 rfl) (fun h => absurd (hc9.symm.trans h) (by decide)) (fun _ => ?_)
 refine cd_skip ?_
 refine th_norm (hK7 _ _ ?_)
 refine cd_drawn mixed hs19 [⟨19, [], Is (.agg ⟨(boxL b A n cp A2 n2 c2 A7 n c7 m7)⟩)⟩, ⟨20, [], Is (.agg ⟨[.int .i64 0, .int .i64 0]⟩)⟩] (by kernel_rfl) (by kernel_rfl) fun K10 hK10 => ⟨⟨?_, ?_, trivial⟩, ?_⟩
 · rintro T_ B_ a_ w_ K_ hT hB hf hsD hk
   exact ob rfl rfl (st_loadA (o := 0) (off := 0) (vs := (boxL b A n cp A2 n2 c2 A7 n c7 m7)) hsD (evT hT 2 rfl) rfl hf isAgg66 sizeOf66 (hsD.cellsM (inB hB 0 rfl)) rfl fun _ _ => hk _ _ _ _ ⟨rfl, rfl⟩)
 · rintro T_ B_ a_ w_ K_ hT hB hf hsD hk
   exact ob rfl rfl (st_callv (vs := []) hsD (.func _) trivial rfl hf call47 rfl (first_v  _) fun _ _ => hk _ _ _ _ ⟨rfl, rfl⟩)
 rintro _ _ ⟨rfl, rfl⟩ _ _ ⟨rfl, rfl⟩ a_20 w_20 hs20; clear hs19
 have hs21 := Sx.as (T' := [_, _, _, _, _, _, _, _]) (B' := _ :: _ :: _ :: _ :: _) rfl rfl hs20; clear hs20
 have hs22 := Sx.front hs21 1 rfl; clear hs21
 have hs23 : Sx 52 (dmarks []) [(19, .agg ⟨(boxL b A n cp A2 n2 c2 A7 n c7 m7)⟩), (20, .agg ⟨[.int .i64 0, .int .i64 0]⟩), (17, .bool false), (5, .int .i64 0), (4, .pointer (some ⟨b6, 0, none⟩)), (3, .int .i64 0), (2, .int .i64 0), (1, .pointer (some ⟨b2, 0, none⟩))] ((m7, some (.map es7 clk7)) :: (b6, some (.cells ⟨(boxL b A n cp A2 n2 c2 A7 n c7 m7)⟩ 66 (0, 0))) :: (b7, o7) :: (b2, some (.cells ⟨(bxL b A n cp A2 n2 c2)⟩ 25 (0, 0))) :: (marks [])) [] w _ _ := hs22; clear hs22
 refine sq rfl (st_callGF (C := mapC m7 es7 clk7) (vs := [.agg ⟨(boxL b A n cp A2 n2 c2 A7 n c7 m7)⟩, .agg ⟨[.int .i64 0, .int .i64 0]⟩]) hs23 (.func _) ⟨(Ev.t 0 rfl), (Ev.t 1 rfl), trivial⟩ rfl rfl call46 rfl mapC_some (many_g b A n cp A2 n2 c2 A7 n c7 m7 b.sold 0 0 es7 clk7 _ (Nat.zero_le _) (by omega) (hP.kp (Kp.viaM hkW hs23.kp hMW)) (by have h := hO7.at hs23 2 rfl; rw [soldlen hO, ← hP.len] at h; exact h) hn (hO.wf) hE7) (fun v_ B_ a_24 w_24 hp9 _ hs24 => ?_)); clear hs23
 obtain ⟨rfl, es24, clk24, rfl, hE24⟩ := hp9
 have hs25 : Sx 52 (dmarks []) [(21, .int .i64 (cnt (right b) (its b.rolls b.sold) 0 : Int)), (19, .agg ⟨(boxL b A n cp A2 n2 c2 A7 n c7 m7)⟩), (20, .agg ⟨[.int .i64 0, .int .i64 0]⟩), (17, .bool false), (5, .int .i64 0), (4, .pointer (some ⟨b6, 0, none⟩)), (3, .int .i64 0), (2, .int .i64 0), (1, .pointer (some ⟨b2, 0, none⟩))] ((m7, some (.map es24 clk24)) :: (b6, some (.cells ⟨(boxL b A n cp A2 n2 c2 A7 n c7 m7)⟩ 66 (0, 0))) :: (b7, o7) :: (b2, some (.cells ⟨(bxL b A n cp A2 n2 c2)⟩ 25 (0, 0))) :: (marks [])) [] w _ _ := hs24; clear hs24
 have hs26 := Sx.keepE [0, 1, 2, 3, 4, 5, 6, 7, 8] [(21, .int .i64 (b.many : Int)), (19, _), (20, _), (17, _), (5, _), (4, _), (3, _), (2, _), (1, _)] ⟨⟨_, rfl, rfl⟩, ⟨_, rfl, rfl⟩, ⟨_, rfl, rfl⟩, ⟨_, rfl, rfl⟩, ⟨_, rfl, rfl⟩, ⟨_, rfl, rfl⟩, ⟨_, rfl, rfl⟩, ⟨_, rfl, rfl⟩, ⟨_, rfl, rfl⟩, trivial⟩ hs25; clear hs25
 refine sq rfl (st_assign hs26 (Ev.t 0 rfl) rfl rfl fun _ _ hs27 => ?_); clear hs26
 refine hK10 _ _ ?_; clear hK10
 have hs28 := hs27.keep [0, 6, 7, 8, 9] [_, _, _, _, _] rfl; clear hs27
 refine cd_seq fun K11 hK11 => ?_
 refine cd_region fun K12 hK12 => ?_
 refine sq rfl (st_move hs28 (Ev.t 0 rfl) rfl rfl fun _ _ hs29 => ?_); clear hs28
 refine sq rfl (st_cmp (c := ((b.many : Int) : Int) == 1) hs29 (Ev.t 0 rfl) (.const _) rfl rfl rfl rfl fun _ _ hs30 => ?_); clear hs29
 refine hK12 _ _ ?_; clear hK12
 have hs31 := hs30.keep [0, 2, 3, 4, 5, 6] [_, _, _, _, _, _] rfl; clear hs30
 refine cd_cond hs31 (Ev.t 0 rfl) (fun hc13 => ?_) (fun hc13 => ?_)
 · have hm1 : b.many = 1 := by have h := hc13; rw [beq_iff_eq] at h; omega
   refine cd_region fun K14 hK14 => ?_
   have hs32 := hs31.keep [0, 1, 2, 3, 5] [_, _, _, _, _] rfl; clear hs31
   refine sq rfl (st_assign hs32 (.const _) rfl rfl fun _ _ hs33 => ?_); clear hs32
   have hs34 := hs33.keep [0, 1, 2, 3, 5] [_, _, _, _, _] rfl; clear hs33
   refine sq rfl (st_assign hs34 (.const _) rfl rfl fun _ _ hs35 => ?_); clear hs34
   refine hK14 _ _ ?_; clear hK14
   have hs36 := hs35.keep [0, 1] [_, _] rfl; clear hs35
   refine cd_retYv (B1 := [(m7, some (.map es24 clk24)), (b6, some (.cells ⟨(boxL b A n cp A2 n2 c2 A7 n c7 m7)⟩ 66 (0, 0))), (b7, o7), (b2, some (.cells ⟨(bxL b A n cp A2 n2 c2)⟩ 25 (0, 0)))]) (vs := [.int .i64 0, .int .i64 4]) hs36 (fun a_ w_ h => th_ret (hQ0 a_ w_ h)) rfl (fun _ _ hsM => ⟨.tmp 1 rfl, .tmp 0 rfl, trivial⟩) ?_
   clear hs36 hQ0 hN0 hK11
   first | (simp [pack, Bx.askR, hask, hm1]; done) | simp [pack, Bx.askR, hask, hm1, hge]
 · have hm1 : ¬ b.many = 1 := by have h := hc13; rw [beq_eq_false_iff_ne] at h; omega
   refine cd_skip ?_
   refine th_norm (hK11 _ _ ?_)
   refine cd_region fun K15 hK15 => ?_
   refine sq rfl (st_assign hs31 (.const _) rfl rfl fun _ _ hs32 => ?_); clear hs31
   refine hK15 _ _ ?_; clear hK15
   have hs33 := hs32.keep [0, 2, 3, 4, 5, 6] [_, _, _, _, _, _] rfl; clear hs32
   refine cd_seq fun K16 hK16 => ?_
   refine cd_region fun K17 hK17 => ?_
   refine sq rfl (st_field (o' := 0) hs33 (Ev.t 5 rfl) rfl rfl runUnderlying25 rfl sizeOf22 rfl rfl fun _ _ hs34 => ?_); clear hs33
   refine sq rfl (st_load1 (o := 0) (off := 0) (v := .slice A n cp) hs34 (Ev.t 0 rfl) rfl rfl isAgg22 (hs34.cells 3 rfl) rfl fun _ _ hs35 => ?_); clear hs34
   refine sq rfl (st_len hs35 (Ev.t 0 rfl) rfl rfl runUnderlying22 fun _ _ hs36 => ?_); clear hs35
   refine sq rfl (st_move hs36 (.const _) rfl rfl fun _ _ hs37 => ?_); clear hs36
   refine hK17 _ _ ?_; clear hK17
   have hs38 := hs37.keep [0, 1, 4, 5, 6, 7, 8] [_, _, _, _, _, _, _] rfl; clear hs37
   refine cd_block ?_
   have hs39 : Sx 52 (dmarks (((0, []) : Nat × List Nat).2)) [(27, .int .i64 (((0, []) : Nat × List Nat).1 : Int)), (26, .int .i64 (n : Int)), (7, .int .i64 ((b.askTo ((0, []) : Nat × List Nat).1).1)), (6, .int .i64 ((b.askTo ((0, []) : Nat × List Nat).1).2 : Int)), (4, .pointer (some ⟨b6, 0, none⟩)), (3, .int .i64 0), (2, .int .i64 0)] ((m7, some (.map es24 clk24)) :: (b6, some (.cells ⟨(boxL b A n cp A2 n2 c2 A7 n c7 m7)⟩ 66 (0, 0))) :: (b7, o7) :: (b2, some (.cells ⟨(bxL b A n cp A2 n2 c2)⟩ 25 (0, 0))) :: (marks (((0, []) : Nat × List Nat).2))) [] w _ _ := Sx.keepE [0, 1, 2, 3, 4, 5, 6] _ ⟨⟨_, rfl, rfl⟩, ⟨_, rfl, rfl⟩, ⟨_, rfl, rfl⟩, ⟨_, rfl, rfl⟩, ⟨_, rfl, rfl⟩, ⟨_, rfl, rfl⟩, ⟨_, rfl, rfl⟩, trivial⟩ hs38; clear hs38
   refine cd_loop (X := (Nat × List Nat)) (fun g a_ w_ => (g.1 ≤ n) ∧ Sx 52 (dmarks g.2) [(27, .int .i64 (g.1 : Int)), (26, .int .i64 (n : Int)), (7, .int .i64 ((b.askTo g.1).1)), (6, .int .i64 ((b.askTo g.1).2 : Int)), (4, .pointer (some ⟨b6, 0, none⟩)), (3, .int .i64 0), (2, .int .i64 0)] ((m7, some (.map es24 clk24)) :: (b6, some (.cells ⟨(boxL b A n cp A2 n2 c2 A7 n c7 m7)⟩ 66 (0, 0))) :: (b7, o7) :: (b2, some (.cells ⟨(bxL b A n cp A2 n2 c2)⟩ 25 (0, 0))) :: (marks g.2)) [] w a_ w_) (fun g => n - g.1) (((0, []) : Nat × List Nat)) ⟨?_, hs39⟩ ?_
   · exact Nat.zero_le _
   intro g a_40 w_40 ⟨hk, hs40⟩; clear hs39
   refine cd_region fun K18 hK18 => ?_
   refine sq rfl (st_cmp (c := decide (((g.1 : Int) : Int) < (n : Int))) hs40 (Ev.t 0 rfl) (Ev.t 1 rfl) rfl rfl rfl rfl fun _ _ hs41 => ?_); clear hs40
   refine hK18 _ _ ?_; clear hK18
   refine cd_seq fun K19 hK19 => ?_
   refine cd_cond hs41 (Ev.t 0 rfl) (fun hc20 => ?_) (fun hc20 => ?_)
   · have hin : g.1 < n := by simpa using hc20
     obtain ⟨x21, hx21⟩ : ∃ x, b.sold[g.1]? = some x := ⟨_, List.getElem?_eq_getElem (by have := soldlen hO; have := hP.len; omega)⟩
     refine cd_skip ?_
     refine th_norm (hK19 _ _ ?_)
     refine cd_seq fun K22 hK22 => ?_
     refine cd_block ?_
     refine cd_region fun K23 hK23 => ?_
     refine sq rfl (st_move hs41 (Ev.t 1 rfl) rfl rfl fun _ _ hs42 => ?_); clear hs41
     refine sq rfl (st_alloc hs42 rfl rfl zeroValue3 rfl fun b24 _ _ hs43 => ?_); clear hs42
     refine sq rfl (st_store (l' := [.int .i64 (g.1 : Int)]) (vs := [.int .i64 (g.1 : Int)]) (i := 0) hs43 (Ev.t 0 rfl) (Ev.t 1 rfl) sizeOf3 rfl rfl rfl rfl rfl rfl fun _ _ hs44 => ?_); clear hs43
     have hs45 := hs44.asB (_ :: _ :: _ :: _ :: _ :: _) rfl; clear hs44
     refine hK23 _ _ ?_; clear hK23
     have hs46 := hs45.keep [0, 3, 4, 5, 6, 7, 8, 9] [_, _, _, _, _, _, _, _] rfl; clear hs45
     refine cd_region fun K25 hK25 => ?_
     refine sq rfl (st_alloc hs46 rfl rfl zeroValue3 rfl fun b26 _ _ hs47 => ?_); clear hs46
     refine sq rfl (st_store (l' := [.int .i64 0]) (vs := [.int .i64 0]) (i := 0) hs47 (Ev.t 0 rfl) (.const _) sizeOf3 rfl rfl rfl rfl rfl rfl fun _ _ hs48 => ?_); clear hs47
     have hs49 := hs48.asB (_ :: _ :: _ :: _ :: _ :: _ :: _) rfl; clear hs48
     refine hK25 _ _ ?_; clear hK25
     refine cd_seq fun K27 hK27 => ?_
     refine cd_region fun K28 hK28 => ?_
     refine sq rfl (st_loadA (o := 0) (off := 0) (vs := (boxL b A n cp A2 n2 c2 A7 n c7 m7)) hs49 (Ev.t 6 rfl) rfl rfl isAgg66 sizeOf66 (hs49.cells 3 rfl) rfl fun _ _ hs50 => ?_); clear hs49
     refine sq rfl (st_load1 (o := 0) (off := 0) (v := .int .i64 (g.1 : Int)) hs50 (Ev.t 2 rfl) rfl rfl isAgg3 (hs50.cells 1 rfl) rfl fun _ _ hs51 => ?_); clear hs50
     refine sq rfl (st_call (vs := [.agg ⟨(boxL b A n cp A2 n2 c2 A7 n c7 m7)⟩, .int .i64 (g.1 : Int)]) hs51 (.func _) ⟨(Ev.t 1 rfl), (Ev.t 0 rfl), trivial⟩ rfl rfl call48 rfl (numbers_b b A n cp A2 n2 c2 A7 n c7 m7 (g.1 : Int) _) fun v31 bs32 a_52 w_52 hp52 hs52 => ?_); clear hs51
     obtain ⟨b29, b30, rfl, rfl⟩ := hp52
     have hs53 := Sx.as (T' := [_, _, _, _, _, _, _, _, _, _, _, _]) (B' := _ :: _ :: _ :: _ :: _ :: _ :: _ :: _ :: _) rfl rfl hs52; clear hs52
     refine hK28 _ _ ?_; clear hK28
     have hs54 := hs53.keep [0, 3, 4, 5, 6, 7, 8, 9, 10, 11] [_, _, _, _, _, _, _, _, _, _] rfl; clear hs53
     refine cd_block ?_
     refine cd_rangeY (intL1) (nums x21) (fun i B_ => B_ = ((b30, some (.cells ⟨[.int .i64 (g.1 : Int)]⟩ 3 (0, 0))) :: (b29, some (.cells ⟨(boxL b A n cp A2 n2 c2 A7 n c7 m7)⟩ 66 (0, 0))) :: (b26, some (.cells ⟨[.int .i64 (maxF (withN b b.sold g.1) ((nums x21).take i) : Int)]⟩ 3 (0, 0))) :: (b24, some (.cells ⟨[.int .i64 (g.1 : Int)]⟩ 3 (0, 0))) :: (m7, some (.map es24 clk24)) :: (b6, some (.cells ⟨(boxL b A n cp A2 n2 c2 A7 n c7 m7)⟩ 66 (0, 0))) :: (b7, o7) :: (b2, some (.cells ⟨(bxL b A n cp A2 n2 c2)⟩ 25 (0, 0))) :: (marks g.2))) (fun c_ B_ => False) (((b30, some (.cells ⟨[.int .i64 (g.1 : Int)]⟩ 3 (0, 0))) :: (b29, some (.cells ⟨(boxL b A n cp A2 n2 c2 A7 n c7 m7)⟩ 66 (0, 0))) :: (b26, some (.cells ⟨[.int .i64 0]⟩ 3 (0, 0))) :: (b24, some (.cells ⟨[.int .i64 (g.1 : Int)]⟩ 3 (0, 0))) :: (m7, some (.map es24 clk24)) :: (b6, some (.cells ⟨(boxL b A n cp A2 n2 c2 A7 n c7 m7)⟩ 66 (0, 0))) :: (b7, o7) :: (b2, some (.cells ⟨(bxL b A n cp A2 n2 c2)⟩ 25 (0, 0))) :: (marks g.2)).map (·.1)) hs54 (Ev.t 0 rfl) call74 (numbers_seq b A n cp A2 n2 c2 A7 n c7 m7 b.sold g.1 x21 hx21 b29 b30 (by have := hO.n; have := hP.len; omega) (by have := hO.wf.sp _ _ hx21; omega)) ?_ ?_ ?_ (fun _ => rfl) (by kernel_rfl) (by decide) ?_ ?_ ?_ ?_
     · exact rfl
     · rintro i_ B_ rfl; exact ⟨rfl, (by obtain ⟨y_, hy_⟩ := Sx.Own.isSome hO7 hne7; simp [isSome1, marks, hy_])⟩
     · rintro c_ B_ h_; exact h_.elim
     · rintro i B_ W_ rfl hk_ ht_
       have hS_ := own_tells hO7 ht_ 6 rfl
       rw [soldlen hO, ← hP.len] at hS_
       exact ⟨hS_, CellsAt.of_block (ht_ _ (mem_nth (i := 1) rfl) _ rfl), CellsAt.of_block (ht_ _ (mem_nth (i := 0) rfl) _ rfl)⟩
     · rintro l_ i j_ B_ a_55 w_55 hxi rfl hkR hs55; clear hs54
       have hs56 : Sx 52 [] [(33, .int .i64 j_), (32, .func (.func 74) ⟨[]⟩ ⟨[.pointer (some ⟨b29, 0, none⟩), .pointer (some ⟨b30, 0, none⟩)]⟩), (9, .pointer (some ⟨b26, 0, none⟩)), (8, .pointer (some ⟨b24, 0, none⟩)), (27, .int .i64 (g.1 : Int)), (26, .int .i64 (n : Int)), (7, .int .i64 ((b.askTo g.1).1)), (6, .int .i64 ((b.askTo g.1).2 : Int)), (4, .pointer (some ⟨b6, 0, none⟩)), (3, .int .i64 0), (2, .int .i64 0)] ((b30, some (.cells ⟨[.int .i64 (g.1 : Int)]⟩ 3 (0, 0))) :: (b29, some (.cells ⟨(boxL b A n cp A2 n2 c2 A7 n c7 m7)⟩ 66 (0, 0))) :: (b26, some (.cells ⟨[.int .i64 (maxF (withN b b.sold g.1) ((nums x21).take i) : Int)]⟩ 3 (0, 0))) :: (b24, some (.cells ⟨[.int .i64 (g.1 : Int)]⟩ 3 (0, 0))) :: (m7, some (.map es24 clk24)) :: (b6, some (.cells ⟨(boxL b A n cp A2 n2 c2 A7 n c7 m7)⟩ 66 (0, 0))) :: (b7, o7) :: (b2, some (.cells ⟨(bxL b A n cp A2 n2 c2)⟩ 25 (0, 0))) :: (marks g.2)) (((b30, some (.cells ⟨[.int .i64 (g.1 : Int)]⟩ 3 (0, 0))) :: (b29, some (.cells ⟨(boxL b A n cp A2 n2 c2 A7 n c7 m7)⟩ 66 (0, 0))) :: (b26, some (.cells ⟨[.int .i64 0]⟩ 3 (0, 0))) :: (b24, some (.cells ⟨[.int .i64 (g.1 : Int)]⟩ 3 (0, 0))) :: (m7, some (.map es24 clk24)) :: (b6, some (.cells ⟨(boxL b A n cp A2 n2 c2 A7 n c7 m7)⟩ 66 (0, 0))) :: (b7, o7) :: (b2, some (.cells ⟨(bxL b A n cp A2 n2 c2)⟩ 25 (0, 0))) :: (marks g.2)).map (·.1)) w_55 _ _ := hs55; clear hs55
       refine cd_region1 ?_
       refine sq rfl (st_assign hs56 (Ev.t 0 rfl) rfl rfl fun _ _ hs57 => ?_); clear hs56
       refine wpListIn_nil ?_
       have hs58 := hs57.keep [0, 2, 3, 4, 5, 6, 7, 8, 9, 10, 11] [_, _, _, _, _, _, _, _, _, _, _] rfl; clear hs57
       refine th_norm ⟨_, _, hs58, (by obtain ⟨y_, hy_⟩ := Sx.Own.isSome hO7 hne7; simp [isSome1, marks, hy_]), fun w_59 hkR2 hMR2 hs59 => ?_⟩; clear hs58
       have hs60 : Sx 52 [] [(10, .int .i64 j_), (32, .func (.func 74) ⟨[]⟩ ⟨[.pointer (some ⟨b29, 0, none⟩), .pointer (some ⟨b30, 0, none⟩)]⟩), (9, .pointer (some ⟨b26, 0, none⟩)), (8, .pointer (some ⟨b24, 0, none⟩)), (27, .int .i64 (g.1 : Int)), (26, .int .i64 (n : Int)), (7, .int .i64 ((b.askTo g.1).1)), (6, .int .i64 ((b.askTo g.1).2 : Int)), (4, .pointer (some ⟨b6, 0, none⟩)), (3, .int .i64 0), (2, .int .i64 0)] ((b30, some (.cells ⟨[.int .i64 (g.1 : Int)]⟩ 3 (0, 0))) :: (b29, some (.cells ⟨(boxL b A n cp A2 n2 c2 A7 n c7 m7)⟩ 66 (0, 0))) :: (b26, some (.cells ⟨[.int .i64 (maxF (withN b b.sold g.1) ((nums x21).take i) : Int)]⟩ 3 (0, 0))) :: (b24, some (.cells ⟨[.int .i64 (g.1 : Int)]⟩ 3 (0, 0))) :: (m7, some (.map es24 clk24)) :: (b6, some (.cells ⟨(boxL b A n cp A2 n2 c2 A7 n c7 m7)⟩ 66 (0, 0))) :: (b7, o7) :: (b2, some (.cells ⟨(bxL b A n cp A2 n2 c2)⟩ 25 (0, 0))) :: (marks g.2)) (((b30, some (.cells ⟨[.int .i64 (g.1 : Int)]⟩ 3 (0, 0))) :: (b29, some (.cells ⟨(boxL b A n cp A2 n2 c2 A7 n c7 m7)⟩ 66 (0, 0))) :: (b26, some (.cells ⟨[.int .i64 (maxF (withN b b.sold g.1) ((nums x21).take i) : Int)]⟩ 3 (0, 0))) :: (b24, some (.cells ⟨[.int .i64 (g.1 : Int)]⟩ 3 (0, 0))) :: (m7, some (.map es24 clk24)) :: (b6, some (.cells ⟨(boxL b A n cp A2 n2 c2 A7 n c7 m7)⟩ 66 (0, 0))) :: (b7, o7) :: (b2, some (.cells ⟨(bxL b A n cp A2 n2 c2)⟩ 25 (0, 0))) :: (marks g.2)).map (·.1)) w_59 _ _ := hs59; clear hs59
       have hkW := hkR2
       have hMW := hMR2
       refine cd_block ?_
       refine cd_drawn1 mixed hs60 [⟨34, [], Is (.int .i64 (maxF (withN b b.sold g.1) ((nums x21).take i) : Int))⟩, ⟨35, [], Is (.agg ⟨(boxL b A n cp A2 n2 c2 A7 n c7 m7)⟩)⟩, ⟨36, [], Is (.int .i64 (g.1 : Int))⟩, ⟨37, [], Is (.int .i64 j_)⟩, ⟨38, [1, 2, 3], Is (.int .i64 (withN b b.sold g.1 j_ : Int))⟩, ⟨39, [4], fun v_ bs_ => ∃ b33, v_ = .slice (some ⟨b33, 0, none⟩) 1 1 ∧ bs_ = [(b33, some (.cells ⟨[.int .i64 (withN b b.sold g.1 j_ : Int)]⟩ 3 (0, 0)))]⟩] (by kernel_rfl) (by kernel_rfl) ⟨⟨?_, ?_, ?_, ?_, ?_, ?_, trivial⟩, ?_⟩
       · rintro T_ B_ a_ w_ K_ hT hB hf hsD hk
         exact ob rfl rfl (st_load1 (o := 0) (off := 0) (v := .int .i64 (maxF (withN b b.sold g.1) ((nums x21).take i) : Int)) hsD (evT hT 2 rfl) rfl hf isAgg3 (hsD.cellsM (inB hB 2 rfl)) rfl fun _ _ => hk _ _ _ _ ⟨rfl, rfl⟩)
       · rintro T_ B_ a_ w_ K_ hT hB hf hsD hk
         exact ob rfl rfl (st_loadA (o := 0) (off := 0) (vs := (boxL b A n cp A2 n2 c2 A7 n c7 m7)) hsD (evT hT 8 rfl) rfl hf isAgg66 sizeOf66 (hsD.cellsM (inB hB 5 rfl)) rfl fun _ _ => hk _ _ _ _ ⟨rfl, rfl⟩)
       · rintro T_ B_ a_ w_ K_ hT hB hf hsD hk
         exact ob rfl rfl (st_load1 (o := 0) (off := 0) (v := .int .i64 (g.1 : Int)) hsD (evT hT 3 rfl) rfl hf isAgg3 (hsD.cellsM (inB hB 3 rfl)) rfl fun _ _ => hk _ _ _ _ ⟨rfl, rfl⟩)
       · rintro T_ B_ a_ w_ K_ hT hB hf hsD hk
         exact ob rfl rfl (st_move hsD (evT hT 0 rfl) rfl hf fun _ _ => hk _ _ _ _ ⟨rfl, rfl⟩)
       · rintro T_ B_ a_ w_ K_ hT hB _ _ ⟨rfl, rfl⟩ h35 - _ _ ⟨rfl, rfl⟩ h36 - _ _ ⟨rfl, rfl⟩ h37 - hf hsD hk
         exact ob rfl rfl (st_callv (vs := [.agg ⟨(boxL b A n cp A2 n2 c2 A7 n c7 m7)⟩, .int .i64 (g.1 : Int), .int .i64 j_]) hsD (.func _) ⟨(Ev.tmp h35), (Ev.tmp h36), (Ev.tmp h37), trivial⟩ rfl hf call50 rfl (with_v b A n cp A2 n2 c2 A7 n c7 m7 b.sold g.1 x21 hx21 j_ _ (hP.kp (Kp.viaM hkW hsD.kp hMW)) hn (by have h := hO7.atMem hsD (fun _ => hB _ (mem_nth (i := 6) rfl)); rw [soldlen hO, ← hP.len] at h; exact h) hO.wf (by have h := own_cap hO7; rw [soldlen hO, ← hP.len] at h; exact h)) fun _ _ => hk _ _ _ _ ⟨rfl, rfl⟩)
       · rintro T_ B_ a_ w_ K_ hT hB _ _ ⟨rfl, rfl⟩ h38 - hf hsD hk
         exact ob rfl rfl (st_buildSlice hsD (qs := [(0, .int .i64 (withN b b.sold g.1 j_ : Int))]) (e := 3) (l := [.int .i64 (withN b b.sold g.1 j_ : Int)]) ⟨(Ev.tmp h38), trivial⟩ rfl hf rfl (fun _ => by kernel_rfl) fun b33 _ _ => hk _ _ _ _ ⟨b33, rfl, rfl⟩)
       rintro _ _ ⟨rfl, rfl⟩ _ _ ⟨rfl, rfl⟩ _ _ ⟨rfl, rfl⟩ _ _ ⟨rfl, rfl⟩ _ _ ⟨rfl, rfl⟩ _ _ ⟨b33, rfl, rfl⟩ a_61 w_61 hs61; clear hs60
       have hs62 := Sx.as (T' := [_, _, _, _, _, _, _, _, _, _, _, _, _, _, _, _, _]) (B' := _ :: _ :: _ :: _ :: _ :: _ :: _ :: _ :: _ :: _) rfl rfl hs61; clear hs61
       refine sq rfl (st_callv (vs := [.int .i64 (maxF (withN b b.sold g.1) ((nums x21).take i) : Int), .slice (some ⟨b33, 0, none⟩) 1 1]) hs62 (.func _) ⟨(Ev.t 0 rfl), (Ev.t 5 rfl), trivial⟩ rfl rfl call49 rfl (great_v (maxF (withN b b.sold g.1) ((nums x21).take i) : Int) (withN b b.sold g.1 j_ : Int) b33 _ (hs62.cells 0 rfl)) fun _ _ hs63 => ?_); clear hs62
       refine sq rfl (st_store (l' := [.int .i64 (max (maxF (withN b b.sold g.1) ((nums x21).take i) : Int) (withN b b.sold g.1 j_ : Int))]) (vs := [.int .i64 (max (maxF (withN b b.sold g.1) ((nums x21).take i) : Int) (withN b b.sold g.1 j_ : Int))]) (i := 3) hs63 (Ev.t 9 rfl) (Ev.t 0 rfl) sizeOf3 rfl rfl rfl rfl rfl rfl fun _ _ hs64 => ?_); clear hs63
       have hs65 := hs64.asB (_ :: _ :: _ :: _ :: _ :: _ :: _ :: _ :: _ :: _) rfl; clear hs64
       refine wpListIn_nil ?_
       refine in_norm ?_
       have hmx : ((maxF (withN b b.sold g.1) ((nums x21).take (i + 1)) : Nat) : Int) = max (maxF (withN b b.sold g.1) ((nums x21).take i) : Int) (withN b b.sold g.1 j_ : Int) := by rw [maxF_snoc hxi]; omega
       have hs66 := hs65.asB ((b33, some (.cells ⟨[.int .i64 (withN b b.sold g.1 j_ : Int)]⟩ 3 (0, 0))) :: (b30, some (.cells ⟨[.int .i64 (g.1 : Int)]⟩ 3 (0, 0))) :: (b29, some (.cells ⟨(boxL b A n cp A2 n2 c2 A7 n c7 m7)⟩ 66 (0, 0))) :: (b26, some (.cells ⟨[.int .i64 (maxF (withN b b.sold g.1) ((nums x21).take (i + 1)) : Int)]⟩ 3 (0, 0))) :: (b24, some (.cells ⟨[.int .i64 (g.1 : Int)]⟩ 3 (0, 0))) :: (m7, some (.map es24 clk24)) :: (b6, some (.cells ⟨(boxL b A n cp A2 n2 c2 A7 n c7 m7)⟩ 66 (0, 0))) :: (b7, o7) :: (b2, some (.cells ⟨(bxL b A n cp A2 n2 c2)⟩ 25 (0, 0))) :: (marks g.2)) (by (rw [hmx]) <;> rfl); clear hs65
       exact ⟨_, _, _, rfl, (fun p hp => by simp only [List.mem_cons] at hp; rcases hp with rfl | rfl | rfl | rfl | rfl | rfl | rfl | rfl | hp; exact mem_nth (i := 1) rfl; exact mem_nth (i := 2) rfl; exact mem_nth (i := 3) rfl; exact mem_nth (i := 4) rfl; exact mem_nth (i := 5) rfl; exact mem_nth (i := 6) rfl; exact mem_nth (i := 7) rfl; exact mem_nth (i := 8) rfl; exact List.mem_cons_of_mem _ (List.mem_cons_of_mem _ (List.mem_cons_of_mem _ (List.mem_cons_of_mem _ (List.mem_cons_of_mem _ (List.mem_cons_of_mem _ (List.mem_cons_of_mem _ (List.mem_cons_of_mem _ (List.mem_cons_of_mem _ (hp)))))))))), hs66⟩
     · rintro d_55 B_ a_55 w_55 rfl hs55
       clear hs54
       have hs56 : Sx 52 (dmarks (d_55 :: g.2)) [(32, .func (.func 74) ⟨[]⟩ ⟨[.pointer (some ⟨b29, 0, none⟩), .pointer (some ⟨b30, 0, none⟩)]⟩), (9, .pointer (some ⟨b26, 0, none⟩)), (8, .pointer (some ⟨b24, 0, none⟩)), (27, .int .i64 (g.1 : Int)), (26, .int .i64 (n : Int)), (7, .int .i64 ((b.askTo g.1).1)), (6, .int .i64 ((b.askTo g.1).2 : Int)), (4, .pointer (some ⟨b6, 0, none⟩)), (3, .int .i64 0), (2, .int .i64 0)] ((b30, some (.cells ⟨[.int .i64 (g.1 : Int)]⟩ 3 (0, 0))) :: (b29, some (.cells ⟨(boxL b A n cp A2 n2 c2 A7 n c7 m7)⟩ 66 (0, 0))) :: (b26, some (.cells ⟨[.int .i64 (maxF (withN b b.sold g.1) ((nums x21).take (nums x21).length) : Int)]⟩ 3 (0, 0))) :: (b24, some (.cells ⟨[.int .i64 (g.1 : Int)]⟩ 3 (0, 0))) :: (m7, some (.map es24 clk24)) :: (b6, some (.cells ⟨(boxL b A n cp A2 n2 c2 A7 n c7 m7)⟩ 66 (0, 0))) :: (b7, o7) :: (b2, some (.cells ⟨(bxL b A n cp A2 n2 c2)⟩ 25 (0, 0))) :: (marks (d_55 :: g.2))) [] w _ _ := Sx.toTail [(b30, some (.cells ⟨[.int .i64 (g.1 : Int)]⟩ 3 (0, 0))), (b29, some (.cells ⟨(boxL b A n cp A2 n2 c2 A7 n c7 m7)⟩ 66 (0, 0))), (b26, some (.cells ⟨[.int .i64 (maxF (withN b b.sold g.1) ((nums x21).take (nums x21).length) : Int)]⟩ 3 (0, 0))), (b24, some (.cells ⟨[.int .i64 (g.1 : Int)]⟩ 3 (0, 0))), (m7, some (.map es24 clk24)), (b6, some (.cells ⟨(boxL b A n cp A2 n2 c2 A7 n c7 m7)⟩ 66 (0, 0))), (b7, o7), (b2, some (.cells ⟨(bxL b A n cp A2 n2 c2)⟩ 25 (0, 0)))] hs55; clear hs55
       rw [List.take_length] at hs56
       have hwo : maxF (withN b b.sold g.1) (nums x21) = b.worst g.1 := by simp only [Bx.worst, Bx.numsOf, hx21]
       have hs57 := hs56.asB ((b30, some (.cells ⟨[.int .i64 (g.1 : Int)]⟩ 3 (0, 0))) :: (b29, some (.cells ⟨(boxL b A n cp A2 n2 c2 A7 n c7 m7)⟩ 66 (0, 0))) :: (b26, some (.cells ⟨[.int .i64 (b.worst g.1 : Int)]⟩ 3 (0, 0))) :: (b24, some (.cells ⟨[.int .i64 (g.1 : Int)]⟩ 3 (0, 0))) :: (m7, some (.map es24 clk24)) :: (b6, some (.cells ⟨(boxL b A n cp A2 n2 c2 A7 n c7 m7)⟩ 66 (0, 0))) :: (b7, o7) :: (b2, some (.cells ⟨(bxL b A n cp A2 n2 c2)⟩ 25 (0, 0))) :: (marks (d_55 :: g.2))) (by (rw [← hwo]) <;> rfl); clear hs56
       refine in_norm ?_
       refine th_norm (hK27 _ _ ?_)
       refine cd_region fun K34 hK34 => ?_
       refine sq rfl (st_move hs57 (Ev.t 5 rfl) rfl rfl fun _ _ hs58 => ?_); clear hs57
       refine sq rfl (st_cmp (c := decide (((b.askTo g.1).1 : Int) < 0)) hs58 (Ev.t 0 rfl) (.const _) rfl rfl rfl rfl fun _ _ hs59 => ?_); clear hs58
       refine sq rfl (st_move hs59 (Ev.t 0 rfl) rfl rfl fun _ _ hs60 => ?_); clear hs59
       refine sq_gv hs60 (gg := !(decide (((b.askTo g.1).1 : Int) < 0))) (v := .int .i64 (b.worst g.1 : Int)) rfl rfl 0 rfl (ison_f _) rfl rfl rfl (fun hg35 K36 hK36 => st_load1 (o := 0) (off := 0) (v := .int .i64 (b.worst g.1 : Int)) hs60 (Ev.t 4 rfl) rfl rfl isAgg3 (hs60.cells 2 rfl) rfl hK36) fun _ _ hs61 => ?_; clear hs60
       refine sq_gv hs61 (gg := !(decide (((b.askTo g.1).1 : Int) < 0))) (v := .int .i64 ((b.askTo g.1).2 : Int)) rfl rfl 1 rfl (ison_f _) rfl rfl rfl (fun hg37 K38 hK38 => st_move hs61 (Ev.t 10 rfl) rfl rfl hK38) fun _ _ hs62 => ?_; clear hs61
       refine sq_gv hs62 (gg := !(decide (((b.askTo g.1).1 : Int) < 0))) (v := .bool (decide (((b.worst g.1 : Int) : Int) < ((b.askTo g.1).2 : Int)))) rfl rfl 2 rfl (ison_f _) rfl rfl rfl (fun hg39 K40 hK40 => st_cmp (c := decide (((b.worst g.1 : Int) : Int) < ((b.askTo g.1).2 : Int))) hs62 ((Ev.t 1 rfl).un hg39) ((Ev.t 0 rfl).un hg39) rfl rfl rfl rfl hK40) fun _ _ hs63 => ?_; clear hs62
       refine sq rfl (st_or hs63 (gx := true) (gy := !(decide (((b.askTo g.1).1 : Int) < 0))) (Ev.t 3 rfl) rfl (Ev.t 0 rfl) (fun h => (by first | exact absurd h (by decide) | (rw [h]; rfl))) rfl rfl fun _ _ hs64 => ?_); clear hs63
       refine hK34 _ _ ?_; clear hK34
       have hs65 := hs64.keep [0, 8, 9, 10, 11, 12, 13, 14, 15, 16] [_, _, _, _, _, _, _, _, _, _] rfl; clear hs64
       refine cd_cond hs65 (Ev.t 0 rfl) (fun hc41 => ?_) (fun hc41 => ?_)
       · have hstep : b.askTo (g.1 + 1) = ((g.1 : Int), b.worst g.1) := by rw [Bx.askTo, if_pos (by have h := hc41; simp only [Bool.or_eq_true, decide_eq_true_eq] at h; omega)]
         have hs66 := hs65.keep [0, 1, 2, 3, 4, 6, 7, 8, 9] [_, _, _, _, _, _, _, _, _] rfl; clear hs65
         refine cd_drawn1 mixed hs66 [⟨48, [], Is (.int .i64 (g.1 : Int))⟩, ⟨49, [], Is (.int .i64 (b.worst g.1 : Int))⟩, ⟨7, [0], Is (.int .i64 (g.1 : Int))⟩] (by kernel_rfl) (by kernel_rfl) ⟨⟨?_, ?_, ?_, trivial⟩, ?_⟩
         · rintro T_ B_ a_ w_ K_ hT hB hf hsD hk
           exact ob rfl rfl (st_load1 (o := 0) (off := 0) (v := .int .i64 (g.1 : Int)) hsD (evT hT 2 rfl) rfl hf isAgg3 (hsD.cellsM (inB hB 3 rfl)) rfl fun _ _ => hk _ _ _ _ ⟨rfl, rfl⟩)
         · rintro T_ B_ a_ w_ K_ hT hB hf hsD hk
           exact ob rfl rfl (st_load1 (o := 0) (off := 0) (v := .int .i64 (b.worst g.1 : Int)) hsD (evT hT 1 rfl) rfl hf isAgg3 (hsD.cellsM (inB hB 2 rfl)) rfl fun _ _ => hk _ _ _ _ ⟨rfl, rfl⟩)
         · rintro T_ B_ a_ w_ K_ hT hB _ _ ⟨rfl, rfl⟩ h48 - hf hsD hk
           exact ob rfl rfl (st_assign hsD (Ev.tmp h48) rfl hf fun _ _ => hk _ _ _ _ ⟨rfl, rfl⟩)
         rintro _ _ ⟨rfl, rfl⟩ _ _ ⟨rfl, rfl⟩ _ _ ⟨rfl, rfl⟩ a_67 w_67 hs67; clear hs66
         have hs68 := Sx.as (T' := [_, _, _, _, _, _, _, _, _, _, _, _]) (B' := _ :: _ :: _ :: _ :: _ :: _ :: _ :: _ :: _) rfl rfl hs67; clear hs67
         have hs69 := hs68.keep [0, 1, 2, 3, 4, 5, 6, 7, 9, 10, 11] [_, _, _, _, _, _, _, _, _, _, _] rfl; clear hs68
         refine sq rfl (st_assign hs69 (Ev.t 1 rfl) rfl rfl fun _ _ hs70 => ?_); clear hs69
         refine wpListIn_nil ?_
         have hs71 := hs70.keep [0, 3, 7, 8, 9, 10, 11] [_, _, _, _, _, _, _] rfl; clear hs70
         refine in_norm ?_
         refine th_norm (hK22 _ _ ?_)
         refine cd_region1 ?_
         refine sq rfl (st_add (z := (g.1 : Int) + 1) hs71 (Ev.t 2 rfl) (.const _) rfl rfl rfl (by omega) fun _ _ hs72 => ?_); clear hs71
         have hs73 := hs72.keep [0, 1, 2, 4, 5, 6, 7] [_, _, _, _, _, _, _] rfl; clear hs72
         refine sq rfl (st_move hs73 (Ev.t 0 rfl) rfl rfl fun _ _ hs74 => ?_); clear hs73
         refine wpListIn_nil ?_
         have hs75 := hs74.keep [0, 2, 3, 4, 5, 6, 7] [_, _, _, _, _, _, _] rfl; clear hs74
         refine ⟨(g.1 + 1, (d_55 :: g.2)), ⟨?_, ?_⟩, by (show n - (g.1 + 1) < n - g.1; omega)⟩
         · exact hin
         have hs76 : Sx 52 (dmarks (d_55 :: g.2)) [(27, .int .i64 ((g.1 : Int) + 1)), (6, .int .i64 (b.worst g.1 : Int)), (7, .int .i64 (g.1 : Int)), (26, .int .i64 (n : Int)), (4, .pointer (some ⟨b6, 0, none⟩)), (3, .int .i64 0), (2, .int .i64 0)] ((m7, some (.map es24 clk24)) :: (b6, some (.cells ⟨(boxL b A n cp A2 n2 c2 A7 n c7 m7)⟩ 66 (0, 0))) :: (b7, o7) :: (b2, some (.cells ⟨(bxL b A n cp A2 n2 c2)⟩ 25 (0, 0))) :: (marks (d_55 :: g.2))) [] w _ _ := Sx.blks hs75 ((List.Sublist.cons _ (List.Sublist.cons _ (List.Sublist.cons _ (List.Sublist.cons _ (List.Sublist.cons_cons _ (List.Sublist.cons_cons _ (List.Sublist.cons_cons _ (List.Sublist.cons_cons _ (List.Sublist.refl _))))))))))
         exact Sx.keepE [0, 3, 2, 1, 4, 5, 6] _ ⟨⟨_, rfl, rfl⟩, ⟨_, rfl, rfl⟩, ⟨_, rfl, by simp only [hstep]⟩, ⟨_, rfl, by simp only [hstep]⟩, ⟨_, rfl, rfl⟩, ⟨_, rfl, rfl⟩, ⟨_, rfl, rfl⟩, trivial⟩ hs76
       · have hstep : b.askTo (g.1 + 1) = b.askTo g.1 := by rw [Bx.askTo, if_neg (by have h := hc41; simp only [Bool.or_eq_false_iff, decide_eq_false_iff_not] at h; omega)]
         refine cd_skip ?_
         refine in_norm ?_
         refine th_norm (hK22 _ _ ?_)
         refine cd_region1 ?_
         refine sq rfl (st_add (z := (g.1 : Int) + 1) hs65 (Ev.t 3 rfl) (.const _) rfl rfl rfl (by omega) fun _ _ hs66 => ?_); clear hs65
         have hs67 := hs66.keep [0, 1, 2, 3, 5, 6, 7, 8, 9, 10] [_, _, _, _, _, _, _, _, _, _] rfl; clear hs66
         refine sq rfl (st_move hs67 (Ev.t 0 rfl) rfl rfl fun _ _ hs68 => ?_); clear hs67
         refine wpListIn_nil ?_
         have hs69 := hs68.keep [0, 5, 6, 7, 8, 9, 10] [_, _, _, _, _, _, _] rfl; clear hs68
         refine ⟨(g.1 + 1, (d_55 :: g.2)), ⟨?_, ?_⟩, by (show n - (g.1 + 1) < n - g.1; omega)⟩
         · exact hin
         have hs70 : Sx 52 (dmarks (d_55 :: g.2)) [(27, .int .i64 ((g.1 : Int) + 1)), (26, .int .i64 (n : Int)), (7, .int .i64 ((b.askTo g.1).1)), (6, .int .i64 ((b.askTo g.1).2 : Int)), (4, .pointer (some ⟨b6, 0, none⟩)), (3, .int .i64 0), (2, .int .i64 0)] ((m7, some (.map es24 clk24)) :: (b6, some (.cells ⟨(boxL b A n cp A2 n2 c2 A7 n c7 m7)⟩ 66 (0, 0))) :: (b7, o7) :: (b2, some (.cells ⟨(bxL b A n cp A2 n2 c2)⟩ 25 (0, 0))) :: (marks (d_55 :: g.2))) [] w _ _ := Sx.blks hs69 ((List.Sublist.cons _ (List.Sublist.cons _ (List.Sublist.cons _ (List.Sublist.cons _ (List.Sublist.cons_cons _ (List.Sublist.cons_cons _ (List.Sublist.cons_cons _ (List.Sublist.cons_cons _ (List.Sublist.refl _))))))))))
         exact Sx.keepE [0, 1, 2, 3, 4, 5, 6] _ ⟨⟨_, rfl, rfl⟩, ⟨_, rfl, rfl⟩, ⟨_, rfl, by simp only [hstep]⟩, ⟨_, rfl, by simp only [hstep]⟩, ⟨_, rfl, rfl⟩, ⟨_, rfl, rfl⟩, ⟨_, rfl, rfl⟩, trivial⟩ hs70
     · rintro d_ c_ B_ a_ w_ h_; exact h_.elim
   · have hge : g.1 = b.rolls.length := by simp at hc20; omega
     refine cd_exit ?_
     refine th_exit ?_
     refine th_exit ?_
     refine in_hit ?_
     refine th_norm (hK16 _ _ ?_)
     refine cd_region fun K42 hK42 => ?_
     refine sq rfl (st_move hs41 (Ev.t 3 rfl) rfl rfl fun _ _ hs42 => ?_); clear hs41
     have hs43 := hs42.keep [0, 1, 2, 3, 4, 5, 6, 7] [_, _, _, _, _, _, _, _] rfl; clear hs42
     refine sq rfl (st_assign hs43 (Ev.t 0 rfl) rfl rfl fun _ _ hs44 => ?_); clear hs43
     have hs45 := hs44.keep [0, 1, 2, 3, 4, 5, 6, 7] [_, _, _, _, _, _, _, _] rfl; clear hs44
     refine sq rfl (st_assign hs45 (.const _) rfl rfl fun _ _ hs46 => ?_); clear hs45
     refine hK42 _ _ ?_; clear hK42
     have hs47 := hs46.keep [0, 1] [_, _] rfl; clear hs46
     refine cd_retYv (B1 := [(m7, some (.map es24 clk24)), (b6, some (.cells ⟨(boxL b A n cp A2 n2 c2 A7 n c7 m7)⟩ 66 (0, 0))), (b7, o7), (b2, some (.cells ⟨(bxL b A n cp A2 n2 c2)⟩ 25 (0, 0)))]) (vs := [.int .i64 ((b.askTo g.1).1), .int .i64 0]) hs47 hQ0 rfl (fun _ _ hsM => ⟨.tmp 1 rfl, .tmp 0 rfl, trivial⟩) ?_
     clear hs47 hQ0 hN0
     first | (simp [pack, Bx.askR, hask, hm1]; done) | simp [pack, Bx.askR, hask, hm1, hge]

theorem Ask_v (b : Bx) (A : Option Addr) (n cp : Nat) (A2 : Option Addr) (n2 c2 : Nat) (w : World) (hP : RollsAt w A n b.rolls) (hn : n ≤ 140737488351232) (hF : SpsAt w A2 n2 b.free) (hn2 : n2 ≤ 140737488351232) : CallsV Tryd.prog 12 [.agg ⟨bxL b A n cp A2 n2 c2⟩] w (.tuple ⟨[.int .i64 b.askR.1, .int .i64 b.askR.2]⟩) := by
  by_cases h : b.asked true = 0
  · obtain ⟨hok, -, hm0⟩ := asked_zero.1 h
    exact Ask_yes b A n cp A2 n2 c2 hok hm0 w hP hn hF hn2
  · exact Ask_no b A n cp A2 n2 c2 h w hP hn hF hn2
end Go.Proofs.YtcnndpedeofbmaaDoor
