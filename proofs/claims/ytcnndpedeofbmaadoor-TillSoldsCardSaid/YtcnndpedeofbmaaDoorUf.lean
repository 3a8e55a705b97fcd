/- The till: what is asked first; Can, IsTruth. -/
import Derived.Test.YtcnndpedeofbmaaDoorUe
import Derived.Test.YtcnndpedeofbmaaDoorSv
set_option maxRecDepth 100000
namespace Go.Proofs.YtcnndpedeofbmaaDoor
open Go Go.Sx Go.Till Go.Proofs.Tryd
def zboxL : List Value := [.slice none 0 0, .slice none 0 0, .int .i64 0, .int .i64 0, .int .i64 0, .int .i64 0, .int .i64 0, .slice none 0 0, .map none]
/-- What 'asked' hands back. -/
def AskedP (b : Bx) (A : Option Addr) (n cp : Nat) (A2 : Option Addr) (n2 c2 : Nat) (rt : Bool) (v : Value) (bs : List (Nat × Option Obj)) : Prop :=
  (b.ok = false ∧ v = .tuple ⟨[.agg ⟨zboxL⟩, .int .i64 90]⟩ ∧ bs = []) ∨ (b.ok = true ∧ rt = false ∧ v = .tuple ⟨[.agg ⟨zboxL⟩, .int .i64 91]⟩ ∧ bs = []) ∨
  (b.ok = true ∧ rt = true ∧ b.many = 0 ∧ (∃ A7 c7 m7, v = .tuple ⟨[.agg ⟨boxL b A n cp A2 n2 c2 A7 n c7 m7⟩, .int .i64 92]⟩) ∧ bs = []) ∨
  (b.ok = true ∧ rt = true ∧ b.many ≠ 0 ∧ ∃ A7 c7 b7 o7 m7 es7 clk7, v = .tuple ⟨[.agg ⟨boxL b A n cp A2 n2 c2 A7 n c7 m7⟩, .int .i64 0]⟩ ∧ Sx.Own spL 2 35 A7 c7 b.sold b7 o7 ∧ Ents keyV (memo b b.sold) es7 ∧ bs = [(m7, some (.map es7 clk7)), (b7, o7)])

theorem asked_b (b : Bx) (A : Option Addr) (n cp : Nat) (A2 : Option Addr) (n2 c2 : Nat) (rt : Bool) (w : World) (hP : RollsAt w A n b.rolls) (hn : n ≤ 140737488351232) (hF : SpsAt w A2 n2 b.free) (hn2 : n2 ≤ 140737488351232) :
    CallsB Tryd.prog 45 [.agg ⟨bxL b A n cp A2 n2 c2⟩, .bool rt] w (AskedP b A n cp A2 n2 c2 rt) := by
 refine enter (N := 25) (M := []) w func45 rfl rfl rfl (fun Q0 a_0 hQ0 hN0 hs0 => ?_)
 refine cd_region fun K1 hK1 => ?_
 refine sq rfl (st_box hs0 (Ev.t 0 rfl) rfl rfl rfl fun b2 _ _ hs1 => ?_); clear hs0
 refine sq rfl (st_alloc hs1 rfl rfl zeroValue66 rfl fun b3 _ _ hs2 => ?_); clear hs1
 refine sq rfl (st_assign hs2 (.const _) rfl rfl fun _ _ hs3 => ?_); clear hs2
 refine hK1 _ _ ?_; clear hK1
 have hs4 := hs3.keep [0, 1, 2, 4] [_, _, _, _] rfl; clear hs3
 refine cd_seq fun K4 hK4 => ?_
 refine cd_region fun K5 hK5 => ?_
 refine sq rfl (st_loadA (o := 0) (off := 0) (vs := (bxL b A n cp A2 n2 c2)) hs4 (Ev.t 2 rfl) rfl rfl isAgg25 sizeOf25 (hs4.cells 1 rfl) rfl fun _ _ hs5 => ?_); clear hs4
 refine sq rfl (st_callv (vs := [.agg ⟨(bxL b A n cp A2 n2 c2)⟩]) hs5 (.func _) ⟨(Ev.t 0 rfl), trivial⟩ rfl rfl call29 rfl (check_v b A n cp A2 n2 c2 _ (hP.kp hs5.kp) hn (hF.kp hs5.kp) hn2) fun _ _ hs6 => ?_); clear hs5
 refine sq rfl (st_assign hs6 (Ev.t 0 rfl) rfl rfl fun _ _ hs7 => ?_); clear hs6
 refine hK5 _ _ ?_; clear hK5
 have hs8 := hs7.keep [0, 3, 4, 5, 6] [_, _, _, _, _] rfl; clear hs7
 refine cd_region fun K6 hK6 => ?_
 refine sq rfl (st_move hs8 (Ev.t 0 rfl) rfl rfl fun _ _ hs9 => ?_); clear hs8
 refine sq rfl (st_cmp (c := (if b.ok then 0 else 90 : Int) != 0) hs9 (Ev.t 0 rfl) (.const _) rfl rfl rfl rfl fun _ _ hs10 => ?_); clear hs9
 refine hK6 _ _ ?_; clear hK6
 have hs11 := hs10.keep [0, 2, 3, 4, 5, 6] [_, _, _, _, _, _] rfl; clear hs10
 refine cd_cond hs11 (Ev.t 0 rfl) (fun hc7 => ?_) (fun hc7 => ?_)
 · have hok : b.ok = false := by cases h : b.ok <;> simp [h] at hc7 ⊢
   refine cd_region fun K8 hK8 => ?_
   refine sq rfl (st_build hs11 (qs := []) (v := .agg ⟨[.slice none 0 0, .slice none 0 0, .int .i64 0, .int .i64 0, .int .i64 0, .int .i64 0, .int .i64 0, .slice none 0 0, .map none]⟩) trivial rfl rfl rfl (fun _ => by kernel_rfl) fun _ _ hs12 => ?_); clear hs11
   refine sq rfl (st_move hs12 (Ev.t 2 rfl) rfl rfl fun _ _ hs13 => ?_); clear hs12
   refine sq rfl (st_store (l' := [.slice none 0 0, .slice none 0 0, .int .i64 0, .int .i64 0, .int .i64 0, .int .i64 0, .int .i64 0, .slice none 0 0, .map none]) (vs := [.slice none 0 0, .slice none 0 0, .int .i64 0, .int .i64 0, .int .i64 0, .int .i64 0, .int .i64 0, .slice none 0 0, .map none]) (i := 0) hs13 (Ev.t 5 rfl) (Ev.t 1 rfl) sizeOf66 rfl rfl rfl rfl rfl rfl fun _ _ hs14 => ?_); clear hs13
   have hs15 := hs14.asB [_, _] rfl; clear hs14
   have hs16 := hs15.keep [0, 1, 2, 3, 5, 6, 7] [_, _, _, _, _, _, _] rfl; clear hs15
   refine sq rfl (st_assign hs16 (Ev.t 0 rfl) rfl rfl fun _ _ hs17 => ?_); clear hs16
   refine hK8 _ _ ?_; clear hK8
   have hs18 := hs17.keep [0, 5] [_, _] rfl; clear hs17
   exact cd_ret (vs := [.agg ⟨[.slice none 0 0, .slice none 0 0, .int .i64 0, .int .i64 0, .int .i64 0, .int .i64 0, .int .i64 0, .slice none 0 0, .map none]⟩, .int .i64 (if b.ok then 0 else 90)]) (bs := []) hs18 (fun a_ w_ h => th_ret (hQ0 a_ w_ h)) rfl ⟨resA (o := 0) (off := 0) (vs := [.slice none 0 0, .slice none 0 0, .int .i64 0, .int .i64 0, .int .i64 0, .int .i64 0, .int .i64 0, .slice none 0 0, .map none]) 1 rfl isAgg66 sizeOf66 (hs18.cells 0 rfl) rfl, .tmp 0 rfl, trivial⟩ (List.nil_sublist _) (.inl ⟨hok, by rw [hok]; rfl, rfl⟩)
 · have hok : b.ok = true := by cases h : b.ok <;> simp [h] at hc7 ⊢
   have hO := ok_iff.1 hok
   refine cd_skip ?_
   refine th_norm (hK4 _ _ ?_)
   refine cd_seq fun K9 hK9 => ?_
   refine cd_region fun K10 hK10 => ?_
   refine sq rfl (st_move hs11 (Ev.t 5 rfl) rfl rfl fun _ _ hs12 => ?_); clear hs11
   refine sq rfl (st_not hs12 (Ev.t 0 rfl) rfl rfl fun _ _ hs13 => ?_); clear hs12
   refine hK10 _ _ ?_; clear hK10
   have hs14 := hs13.keep [0, 4, 5, 6] [_, _, _, _] rfl; clear hs13
   refine cd_cond hs14 (Ev.t 0 rfl) (fun hc11 => ?_) (fun hc11 => ?_)
   · have hrt : rt = false := by simpa using hc11
     refine cd_region fun K12 hK12 => ?_
     refine sq rfl (st_build hs14 (qs := []) (v := .agg ⟨[.slice none 0 0, .slice none 0 0, .int .i64 0, .int .i64 0, .int .i64 0, .int .i64 0, .int .i64 0, .slice none 0 0, .map none]⟩) trivial rfl rfl rfl (fun _ => by kernel_rfl) fun _ _ hs15 => ?_); clear hs14
     refine sq rfl (st_store (l' := [.slice none 0 0, .slice none 0 0, .int .i64 0, .int .i64 0, .int .i64 0, .int .i64 0, .int .i64 0, .slice none 0 0, .map none]) (vs := [.slice none 0 0, .slice none 0 0, .int .i64 0, .int .i64 0, .int .i64 0, .int .i64 0, .int .i64 0, .slice none 0 0, .map none]) (i := 0) hs15 (Ev.t 3 rfl) (Ev.t 0 rfl) sizeOf66 rfl rfl rfl rfl rfl rfl fun _ _ hs16 => ?_); clear hs15
     have hs17 := hs16.asB [_, _] rfl; clear hs16
     have hs18 := hs17.keep [0, 1, 3, 4] [_, _, _, _] rfl; clear hs17
     refine sq rfl (st_assign hs18 (.const _) rfl rfl fun _ _ hs19 => ?_); clear hs18
     refine hK12 _ _ ?_; clear hK12
     have hs20 := hs19.keep [0, 3] [_, _] rfl; clear hs19
     exact cd_ret (vs := [.agg ⟨[.slice none 0 0, .slice none 0 0, .int .i64 0, .int .i64 0, .int .i64 0, .int .i64 0, .int .i64 0, .slice none 0 0, .map none]⟩, .int .i64 91]) (bs := []) hs20 (fun a_ w_ h => th_ret (hQ0 a_ w_ h)) rfl ⟨resA (o := 0) (off := 0) (vs := [.slice none 0 0, .slice none 0 0, .int .i64 0, .int .i64 0, .int .i64 0, .int .i64 0, .int .i64 0, .slice none 0 0, .map none]) 1 rfl isAgg66 sizeOf66 (hs20.cells 0 rfl) rfl, .tmp 0 rfl, trivial⟩ (List.nil_sublist _) (.inr (.inl ⟨hok, hrt, rfl, rfl⟩))
   · have hrt : rt = true := by simpa using hc11
     refine cd_skip ?_
     refine th_norm (hK9 _ _ ?_)
     refine cd_region fun K13 hK13 => ?_
     refine sq rfl (st_loadA (o := 0) (off := 0) (vs := (bxL b A n cp A2 n2 c2)) hs14 (Ev.t 3 rfl) rfl rfl isAgg25 sizeOf25 (hs14.cells 1 rfl) rfl fun _ _ hs15 => ?_); clear hs14
     refine sq rfl (st_call (vs := [.agg ⟨(bxL b A n cp A2 n2 c2)⟩]) hs15 (.func _) ⟨(Ev.t 0 rfl), trivial⟩ rfl rfl call51 rfl (opened_b b A n cp A2 n2 c2 _ (hP.kp hs15.kp) hn (hF.kp hs15.kp) hn2 hO) fun v15 bs16 a_16 w_16 hp16 hs16 => ?_); clear hs15
     obtain ⟨A14, c14, b14, o14, m14, rfl, hO14, rfl⟩ := hp16
     have hs17 := Sx.as (T' := [_, _, _, _, _, _]) (B' := [_, _, _, _]) rfl rfl hs16; clear hs16
     refine sq rfl (st_alloc hs17 rfl rfl zeroValue66 rfl fun b17 _ _ hs18 => ?_); clear hs17
     refine sq rfl (st_store (l' := (boxL b A n cp A2 n2 c2 A14 n c14 m14)) (vs := (boxL b A n cp A2 n2 c2 A14 n c14 m14)) (i := 0) hs18 (Ev.t 0 rfl) (Ev.t 1 rfl) sizeOf66 rfl rfl rfl rfl rfl rfl fun _ _ hs19 => ?_); clear hs18
     have hs20 := hs19.asB [_, _, _, _, _] rfl; clear hs19
     refine hK13 _ _ ?_; clear hK13
     have hs21 := hs20.keep [0, 4, 5] [_, _, _] rfl; clear hs20
     refine cd_seq fun K18 hK18 => ?_
     refine cd_drawn mixed hs21 [⟨19, [], Is (.agg ⟨(boxL b A n cp A2 n2 c2 A14 n c14 m14)⟩)⟩, ⟨20, [], Is (.agg ⟨[.int .i64 0, .int .i64 0]⟩)⟩] (by kernel_rfl) (by kernel_rfl) fun K19 hK19 => ⟨⟨?_, ?_, trivial⟩, ?_⟩
     · rintro T_ B_ a_ w_ K_ hT hB hf hsD hk
       exact ob rfl rfl (st_loadA (o := 0) (off := 0) (vs := (boxL b A n cp A2 n2 c2 A14 n c14 m14)) hsD (evT hT 0 rfl) rfl hf isAgg66 sizeOf66 (hsD.cellsM (inB hB 0 rfl)) rfl fun _ _ => hk _ _ _ _ ⟨rfl, rfl⟩)
     · rintro T_ B_ a_ w_ K_ hT hB hf hsD hk
       exact ob rfl rfl (st_callv (vs := []) hsD (.func _) trivial rfl hf call47 rfl (first_v  _) fun _ _ => hk _ _ _ _ ⟨rfl, rfl⟩)
     rintro _ _ ⟨rfl, rfl⟩ _ _ ⟨rfl, rfl⟩ a_22 w_22 hs22; clear hs21
     have hs23 := Sx.as (T' := [_, _, _, _, _]) (B' := [_, _, _, _, _]) rfl rfl hs22; clear hs22
     have hs24 := Sx.front hs23 2 rfl; clear hs23
     have hs25 : Sx 25 [] [(19, .agg ⟨(boxL b A n cp A2 n2 c2 A14 n c14 m14)⟩), (20, .agg ⟨[.int .i64 0, .int .i64 0]⟩), (7, .pointer (some ⟨b17, 0, none⟩)), (5, .int .i64 0), (4, .pointer (some ⟨b3, 0, none⟩))] [(m14, some (.map #[] 0)), (b17, some (.cells ⟨(boxL b A n cp A2 n2 c2 A14 n c14 m14)⟩ 66 (0, 0))), (b14, o14), (b3, some (.cells ⟨[.slice none 0 0, .slice none 0 0, .int .i64 0, .int .i64 0, .int .i64 0, .int .i64 0, .int .i64 0, .slice none 0 0, .map none]⟩ 66 (0, 0))), (b2, some (.cells ⟨(bxL b A n cp A2 n2 c2)⟩ 25 (0, 0)))] [] w _ _ := hs24; clear hs24
     refine sq rfl (st_callGF (C := mapC m14 #[] 0) (vs := [.agg ⟨(boxL b A n cp A2 n2 c2 A14 n c14 m14)⟩, .agg ⟨[.int .i64 0, .int .i64 0]⟩]) hs25 (.func _) ⟨(Ev.t 0 rfl), (Ev.t 1 rfl), trivial⟩ rfl rfl call46 rfl mapC_some (many_g b A n cp A2 n2 c2 A14 n c14 m14 b.sold 0 0 #[] 0 _ (Nat.zero_le _) (by omega) (hP.kp hs25.kp) (by have h := hO14.at hs25 2 rfl; rw [soldlen hO, ← hP.len] at h; exact h) hn (hO.wf) (fun e he => by cases he)) (fun v_ B_ a_26 w_26 hp9 _ hs26 => ?_)); clear hs25
     obtain ⟨rfl, es26, clk26, rfl, hE26⟩ := hp9
     have hs27 : Sx 25 [] [(21, .int .i64 (cnt (right b) (its b.rolls b.sold) 0 : Int)), (19, .agg ⟨(boxL b A n cp A2 n2 c2 A14 n c14 m14)⟩), (20, .agg ⟨[.int .i64 0, .int .i64 0]⟩), (7, .pointer (some ⟨b17, 0, none⟩)), (5, .int .i64 0), (4, .pointer (some ⟨b3, 0, none⟩))] [(m14, some (.map es26 clk26)), (b17, some (.cells ⟨(boxL b A n cp A2 n2 c2 A14 n c14 m14)⟩ 66 (0, 0))), (b14, o14), (b3, some (.cells ⟨[.slice none 0 0, .slice none 0 0, .int .i64 0, .int .i64 0, .int .i64 0, .int .i64 0, .int .i64 0, .slice none 0 0, .map none]⟩ 66 (0, 0))), (b2, some (.cells ⟨(bxL b A n cp A2 n2 c2)⟩ 25 (0, 0)))] [] w _ _ := hs26; clear hs26
     refine sq rfl (st_cmp (c := ((cnt (right b) (its b.rolls b.sold) 0 : Int) : Int) == 0) hs27 (Ev.t 0 rfl) (.const _) rfl rfl rfl rfl fun _ _ hs28 => ?_); clear hs27
     refine hK19 _ _ ?_; clear hK19
     have hs29 := hs28.keep [0, 4, 5, 6] [_, _, _, _] rfl; clear hs28
     refine cd_cond hs29 (Ev.t 0 rfl) (fun hc20 => ?_) (fun hc20 => ?_)
     · have hm0 : b.many = 0 := by have h := hc20; rw [beq_iff_eq] at h; unfold Bx.many Bx.its; omega
       refine cd_region fun K21 hK21 => ?_
       refine sq rfl (st_loadA (o := 0) (off := 0) (vs := (boxL b A n cp A2 n2 c2 A14 n c14 m14)) hs29 (Ev.t 1 rfl) rfl rfl isAgg66 sizeOf66 (hs29.cells 1 rfl) rfl fun _ _ hs30 => ?_); clear hs29
       refine sq rfl (st_store (l' := (boxL b A n cp A2 n2 c2 A14 n c14 m14)) (vs := (boxL b A n cp A2 n2 c2 A14 n c14 m14)) (i := 3) hs30 (Ev.t 4 rfl) (Ev.t 0 rfl) sizeOf66 rfl rfl rfl rfl rfl rfl fun _ _ hs31 => ?_); clear hs30
       have hs32 := hs31.asB [_, _, _, _, _] rfl; clear hs31
       have hs33 := hs32.keep [0, 1, 2, 4] [_, _, _, _] rfl; clear hs32
       refine sq rfl (st_assign hs33 (.const _) rfl rfl fun _ _ hs34 => ?_); clear hs33
       refine hK21 _ _ ?_; clear hK21
       have hs35 := hs34.keep [0, 4] [_, _] rfl; clear hs34
       exact cd_ret (vs := [.agg ⟨(boxL b A n cp A2 n2 c2 A14 n c14 m14)⟩, .int .i64 92]) (bs := []) hs35 (fun a_ w_ h => th_ret (hQ0 a_ w_ h)) rfl ⟨resA (o := 0) (off := 0) (vs := (boxL b A n cp A2 n2 c2 A14 n c14 m14)) 1 rfl isAgg66 sizeOf66 (hs35.cells 3 rfl) rfl, .tmp 0 rfl, trivial⟩ (List.nil_sublist _) (.inr (.inr (.inl ⟨hok, hrt, hm0, ⟨A14, c14, m14, rfl⟩, rfl⟩)))
     · have hm0 : b.many ≠ 0 := by have h := hc20; rw [beq_eq_false_iff_ne] at h; unfold Bx.many Bx.its; omega
       refine cd_skip ?_
       refine th_norm (hK18 _ _ ?_)
       refine cd_region fun K22 hK22 => ?_
       refine sq rfl (st_loadA (o := 0) (off := 0) (vs := (boxL b A n cp A2 n2 c2 A14 n c14 m14)) hs29 (Ev.t 1 rfl) rfl rfl isAgg66 sizeOf66 (hs29.cells 1 rfl) rfl fun _ _ hs30 => ?_); clear hs29
       refine sq rfl (st_store (l' := (boxL b A n cp A2 n2 c2 A14 n c14 m14)) (vs := (boxL b A n cp A2 n2 c2 A14 n c14 m14)) (i := 3) hs30 (Ev.t 4 rfl) (Ev.t 0 rfl) sizeOf66 rfl rfl rfl rfl rfl rfl fun _ _ hs31 => ?_); clear hs30
       have hs32 := hs31.asB [_, _, _, _, _] rfl; clear hs31
       have hs33 := hs32.keep [0, 1, 2, 4] [_, _, _, _] rfl; clear hs32
       refine sq rfl (st_assign hs33 (.const _) rfl rfl fun _ _ hs34 => ?_); clear hs33
       refine hK22 _ _ ?_; clear hK22
       have hs35 := hs34.keep [0, 4] [_, _] rfl; clear hs34
       exact cd_ret (vs := [.agg ⟨(boxL b A n cp A2 n2 c2 A14 n c14 m14)⟩, .int .i64 0]) (bs := [(m14, some (.map es26 clk26)), (b14, o14)]) hs35 hQ0 rfl ⟨resA (o := 0) (off := 0) (vs := (boxL b A n cp A2 n2 c2 A14 n c14 m14)) 1 rfl isAgg66 sizeOf66 (hs35.cells 3 rfl) rfl, .tmp 0 rfl, trivial⟩ (.cons_cons _ (.cons _ (.cons_cons _ (List.nil_sublist _)))) (.inr (.inr (.inr ⟨hok, hrt, hm0, A14, c14, b14, o14, m14, es26, clk26, rfl, hO14, hE26, rfl⟩)))

theorem asked_1 (b : Bx) (A : Option Addr) (n cp : Nat) (A2 : Option Addr) (n2 c2 : Nat) (w : World) (hP : RollsAt w A n b.rolls) (hn : n ≤ 140737488351232) (hF : SpsAt w A2 n2 b.free) (hn2 : n2 ≤ 140737488351232) (rt : Bool) (h : b.ok = false) : CallsV Tryd.prog 45 [.agg ⟨bxL b A n cp A2 n2 c2⟩, .bool rt] w (.tuple ⟨[.agg ⟨zboxL⟩, .int .i64 90]⟩) :=
  callsB_imp (asked_b b A n cp A2 n2 c2 rt w hP hn hF hn2) (fun v bs hp => by
    rcases hp with ⟨-, h1, h2⟩ | ⟨h0, -⟩ | ⟨h0, -⟩ | ⟨h0, -⟩
    · exact ⟨h1, h2⟩
    all_goals rw [h] at h0; cases h0)
theorem asked_2 (b : Bx) (A : Option Addr) (n cp : Nat) (A2 : Option Addr) (n2 c2 : Nat) (w : World) (hP : RollsAt w A n b.rolls) (hn : n ≤ 140737488351232) (hF : SpsAt w A2 n2 b.free) (hn2 : n2 ≤ 140737488351232) (rt : Bool) (h : b.ok = true) (hr : rt = false) : CallsV Tryd.prog 45 [.agg ⟨bxL b A n cp A2 n2 c2⟩, .bool rt] w (.tuple ⟨[.agg ⟨zboxL⟩, .int .i64 91]⟩) :=
  callsB_imp (asked_b b A n cp A2 n2 c2 rt w hP hn hF hn2) (fun v bs hp => by
    rcases hp with ⟨h0, -⟩ | ⟨-, -, h1, h2⟩ | ⟨-, h0, -⟩ | ⟨-, h0, -⟩
    · rw [h] at h0; cases h0
    · exact ⟨h1, h2⟩
    all_goals rw [hr] at h0; cases h0)
theorem asked_3 (b : Bx) (A : Option Addr) (n cp : Nat) (A2 : Option Addr) (n2 c2 : Nat) (w : World) (hP : RollsAt w A n b.rolls) (hn : n ≤ 140737488351232) (hF : SpsAt w A2 n2 b.free) (hn2 : n2 ≤ 140737488351232) (rt : Bool) (h : b.ok = true) (hr : rt = true) (hm : b.many = 0) : CallsB Tryd.prog 45 [.agg ⟨bxL b A n cp A2 n2 c2⟩, .bool rt] w (fun v bs => ∃ A7 c7 m7, v = .tuple ⟨[.agg ⟨boxL b A n cp A2 n2 c2 A7 n c7 m7⟩, .int .i64 92]⟩ ∧ bs = []) :=
  callsB_imp (asked_b b A n cp A2 n2 c2 rt w hP hn hF hn2) (fun v bs hp => by
    rcases hp with ⟨h0, -⟩ | ⟨-, h0, -⟩ | ⟨-, -, -, ⟨A7, c7, m7, h1⟩, h2⟩ | ⟨-, -, h0, -⟩
    · rw [h] at h0; cases h0
    · rw [hr] at h0; cases h0
    · exact ⟨A7, c7, m7, h1, h2⟩
    · exact absurd hm h0)
theorem asked_4 (b : Bx) (A : Option Addr) (n cp : Nat) (A2 : Option Addr) (n2 c2 : Nat) (w : World) (hP : RollsAt w A n b.rolls) (hn : n ≤ 140737488351232) (hF : SpsAt w A2 n2 b.free) (hn2 : n2 ≤ 140737488351232) (rt : Bool) (h : b.ok = true) (hr : rt = true) (hm : b.many ≠ 0) : CallsB Tryd.prog 45 [.agg ⟨bxL b A n cp A2 n2 c2⟩, .bool rt] w (fun v bs => ∃ A7 c7 b7 o7 m7 es7 clk7, v = .tuple ⟨[.agg ⟨boxL b A n cp A2 n2 c2 A7 n c7 m7⟩, .int .i64 0]⟩ ∧ Sx.Own spL 2 35 A7 c7 b.sold b7 o7 ∧ Ents keyV (memo b b.sold) es7 ∧ bs = [(m7, some (.map es7 clk7)), (b7, o7)]) :=
  callsB_imp (asked_b b A n cp A2 n2 c2 rt w hP hn hF hn2) (fun v bs hp => by
    rcases hp with ⟨h0, -⟩ | ⟨-, h0, -⟩ | ⟨-, -, h0, -⟩ | ⟨-, -, -, h1⟩
    · rw [h] at h0; cases h0
    · rw [hr] at h0; cases h0
    · exact absurd h0 hm
    · exact h1)

/-- What the run chose: where a box came to lie. -/
structure AX (b : Bx) where
  A : Option Addr
  c : Nat
  b7 : Nat
  o : Option Obj
  m : Nat
  es : Array MapEntry
  clk : Nat
  t : Nat
  hO : Sx.Own spL 2 35 A c b.sold b7 o
  hE : Ents keyV (memo b b.sold) es
def AX.zero (b : Bx) : AX b := ⟨_, _, _, _, 0, #[], 0, 0, own_zero (enc := spL) (sz := 2) (fun _ => rfl) 35 b.sold, fun e he => by cases he⟩
def AX.at {b : Bx} (x : AX b) (t : Nat) : AX b := { x with t := t }

structure AX0 where
  A : Option Addr
  c : Nat
  m : Nat
  t : Nat
def AX0.at (x : AX0) (t : Nat) : AX0 := { x with t := t }

theorem Can_no (b : Bx) (A : Option Addr) (n cp : Nat) (A2 : Option Addr) (n2 c2 : Nat) (k x : Int) (hne : b.asked (isRoll b k) ≠ 0) (w : World) (hP : RollsAt w A n b.rolls) (hn : n ≤ 140737488351232) (hF : SpsAt w A2 n2 b.free) (hn2 : n2 ≤ 140737488351232) :
    CallsV Tryd.prog 21 [.agg ⟨(bxL b A n cp A2 n2 c2)⟩, .int .i64 k, .int .i64 x] w (.tuple ⟨[.bool ((b.canR k x).1), .int .i64 ((b.canR k x).2)]⟩) := by
 refine enter (N := 26) (M := []) w func21 rfl rfl rfl (fun Q0 a_0 hQ0 hN0 hs0 => ?_)
 rcases asked_cases hne with hok | ⟨hok, hrt⟩ | ⟨hok, hrt, hm0⟩
 · skip
   refine cd_region fun K1 hK1 => ?_
   refine sq rfl (st_box hs0 (Ev.t 0 rfl) rfl rfl rfl fun b2 _ _ hs1 => ?_); clear hs0
   refine sq rfl (st_assign hs1 (.const _) rfl rfl fun _ _ hs2 => ?_); clear hs1
   refine sq rfl (st_assign hs2 (.const _) rfl rfl fun _ _ hs3 => ?_); clear hs2
   refine hK1 _ _ ?_; clear hK1
   have hs4 := hs3.keep [0, 1, 2, 4, 5] [_, _, _, _, _] rfl; clear hs3
   refine cd_drawS mixed [8, 9] ⟨Nat, fun n_ x_ => match n_ with | 0 => [] | 1 => [(8, .pointer (some ⟨x_, 0, none⟩))] | _ => [(8, .pointer (some ⟨x_, 0, none⟩))], fun n_ x_ => match n_ with | 0 => [] | 1 => [(x_, some (.cells ⟨[.slice none 0 0, .slice none 0 0, .int .i64 0, .int .i64 0, .int .i64 0, .int .i64 0, .int .i64 0, .slice none 0 0, .map none]⟩ 66 (0, 0)))] | _ => [(x_, some (.cells ⟨[.slice none 0 0, .slice none 0 0, .int .i64 0, .int .i64 0, .int .i64 0, .int .i64 0, .int .i64 0, .slice none 0 0, .map none]⟩ 66 (0, 0)))]⟩ (0 : Nat) hs4 [⟨11, [], Is (.agg ⟨(bxL b A n cp A2 n2 c2)⟩)⟩, ⟨12, [], Is (.agg ⟨(bxL b A n cp A2 n2 c2)⟩)⟩, ⟨13, [], Is (.int .i64 k)⟩, ⟨14, [1, 2], Is (.bool (isRoll b k))⟩, ⟨15, [0, 3], Is (.tuple ⟨[.agg ⟨[.slice none 0 0, .slice none 0 0, .int .i64 0, .int .i64 0, .int .i64 0, .int .i64 0, .int .i64 0, .slice none 0 0, .map none]⟩, .int .i64 90]⟩)⟩, ⟨10, [4], Is (.tuple ⟨[.agg ⟨[.slice none 0 0, .slice none 0 0, .int .i64 0, .int .i64 0, .int .i64 0, .int .i64 0, .int .i64 0, .slice none 0 0, .map none]⟩, .int .i64 90]⟩)⟩, ⟨16, [5], Is (.agg ⟨[.slice none 0 0, .slice none 0 0, .int .i64 0, .int .i64 0, .int .i64 0, .int .i64 0, .int .i64 0, .slice none 0 0, .map none]⟩)⟩, ⟨17, [5], Is (.int .i64 90)⟩, ⟨8, [], Is undef⟩, ⟨35, [6], Is undef⟩] (by kernel_rfl) (fun n_ _ => by rcases n_ with _ | _ | _ <;> rfl) (by kernel_rfl) fun K3 hK3 => ⟨⟨?_, ?_, ?_, ?_, ?_, ?_, ?_, ?_, ?_, ?_, trivial⟩, ?_⟩
   · rintro T_ B_ a_ w_ K_ hT hB hf hsD hk
     exact ob rfl rfl (st_loadA (o := 0) (off := 0) (vs := (bxL b A n cp A2 n2 c2)) hsD (evT hT 2 rfl) rfl hf isAgg25 sizeOf25 (hsD.cellsM (inB hB 0 rfl)) rfl fun _ _ => hk _ _ _ _ ⟨rfl, rfl⟩)
   · rintro T_ B_ a_ w_ K_ hT hB hf hsD hk
     exact ob rfl rfl (st_loadA (o := 0) (off := 0) (vs := (bxL b A n cp A2 n2 c2)) hsD (evT hT 2 rfl) rfl hf isAgg25 sizeOf25 (hsD.cellsM (inB hB 0 rfl)) rfl fun _ _ => hk _ _ _ _ ⟨rfl, rfl⟩)
   · rintro T_ B_ a_ w_ K_ hT hB hf hsD hk
     exact ob rfl rfl (st_move hsD (evT hT 3 rfl) rfl hf fun _ _ => hk _ _ _ _ ⟨rfl, rfl⟩)
   · rintro T_ B_ a_ w_ K_ hT hB _ _ ⟨rfl, rfl⟩ h12 - _ _ ⟨rfl, rfl⟩ h13 - hf hsD hk
     exact ob rfl rfl (st_callv (vs := [.agg ⟨(bxL b A n cp A2 n2 c2)⟩, .int .i64 k]) hsD (.func _) ⟨(Ev.tmp h12), (Ev.tmp h13), trivial⟩ rfl hf call52 rfl (isRoll_v b A n cp A2 n2 c2 k _ hn hP.len) fun _ _ => hk _ _ _ _ ⟨rfl, rfl⟩)
   · rintro T_ B_ a_ w_ K_ hT hB _ _ ⟨rfl, rfl⟩ h11 - _ _ ⟨rfl, rfl⟩ h14 - hf hsD hk
     exact ob rfl rfl (st_callv (vs := [.agg ⟨(bxL b A n cp A2 n2 c2)⟩, .bool (isRoll b k)]) hsD (.func _) ⟨(Ev.tmp h11), (Ev.tmp h14), trivial⟩ rfl hf call45 rfl (asked_1 b A n cp A2 n2 c2 _ (hP.kp hsD.kp) hn (hF.kp hsD.kp) hn2 (isRoll b k) hok) fun _ _ => hk _ _ _ _ ⟨rfl, rfl⟩)
   · rintro T_ B_ a_ w_ K_ hT hB _ _ ⟨rfl, rfl⟩ h15 - hf hsD hk
     exact ob rfl rfl (st_move hsD (Ev.tmp h15) rfl hf fun _ _ => hk _ _ _ _ ⟨rfl, rfl⟩)
   · rintro T_ B_ a_ w_ K_ hT hB _ _ ⟨rfl, rfl⟩ h10 - hf hsD hk
     exact ob rfl rfl (st_extract hsD (Ev.tmp h10) rfl hf rfl fun _ _ => hk _ _ _ _ ⟨rfl, rfl⟩)
   · rintro T_ B_ a_ w_ K_ hT hB _ _ ⟨rfl, rfl⟩ h10 - hf hsD hk
     exact ob rfl rfl (st_extract hsD (Ev.tmp h10) rfl hf rfl fun _ _ => hk _ _ _ _ ⟨rfl, rfl⟩)
   · rintro T_ B_ a_ w_ K_ x_ hT hB hf hsD hk
     exact ob rfl rfl (st_alloc hsD rfl hf zeroValue66 rfl fun b_1 a_1 w_1 h1 => hk b_1 _ _ h1)
   · rintro T_ B_ a_ w_ K_ x_ hT hB _ _ ⟨rfl, rfl⟩ h16 - hf hsD hk
     exact ob rfl rfl (st_store (l' := [.slice none 0 0, .slice none 0 0, .int .i64 0, .int .i64 0, .int .i64 0, .int .i64 0, .int .i64 0, .slice none 0 0, .map none]) (vs := [.slice none 0 0, .slice none 0 0, .int .i64 0, .int .i64 0, .int .i64 0, .int .i64 0, .int .i64 0, .slice none 0 0, .map none]) (i := 0) hsD (Ev.t 0 rfl) (Ev.tmp (List.mem_append_right _ h16)) sizeOf66 rfl rfl rfl rfl rfl rfl fun a_1 w_1 h1 => hk x_ _ _ h1)
   rintro _ _ ⟨rfl, rfl⟩
   rintro _ _ ⟨rfl, rfl⟩
   rintro _ _ ⟨rfl, rfl⟩
   rintro _ _ ⟨rfl, rfl⟩
   rintro _ _ ⟨rfl, rfl⟩
   rintro _ _ ⟨rfl, rfl⟩
   rintro _ _ ⟨rfl, rfl⟩
   rintro _ _ ⟨rfl, rfl⟩
   intro (b4 : Nat) a_5 w_5 hs5
   clear hs4
   have hs6 := Sx.as (T' := [_, _, _, _, _, _, _, _, _, _, _, _, _, _]) (B' := [_, _]) rfl rfl hs5; clear hs5
   refine sq rfl (st_assign hs6 (Ev.t 8 rfl) rfl rfl fun _ _ hs7 => ?_); clear hs6
   refine hK3 _ _ ?_; clear hK3
   have hs8 := hs7.keep [0, 1, 10, 11, 13, 14] [_, _, _, _, _, _] rfl; clear hs7
   refine cd_seq fun K5 hK5 => ?_
   refine cd_region fun K6 hK6 => ?_
   refine sq rfl (st_move hs8 (Ev.t 0 rfl) rfl rfl fun _ _ hs9 => ?_); clear hs8
   refine sq rfl (st_cmp (c := true) hs9 (Ev.t 0 rfl) (.const _) rfl rfl rfl rfl fun _ _ hs10 => ?_); clear hs9
   refine hK6 _ _ ?_; clear hK6
   have hs11 := hs10.keep [0, 2, 3, 4, 5, 6, 7] [_, _, _, _, _, _, _] rfl; clear hs10
   have hc7 : true = true := rfl
   refine cd_cond hs11 (Ev.t 0 rfl) (fun _ => ?_) (fun h => absurd (hc7.symm.trans h) (by decide))
   refine cd_region fun K8 hK8 => ?_
   refine sq rfl (st_move hs11 (Ev.t 1 rfl) rfl rfl fun _ _ hs12 => ?_); clear hs11
   have hs13 := hs12.keep [0, 1, 2, 3, 4, 6, 7] [_, _, _, _, _, _, _] rfl; clear hs12
   refine sq rfl (st_assign hs13 (.const _) rfl rfl fun _ _ hs14 => ?_); clear hs13
   have hs15 := hs14.keep [0, 1, 2, 3, 4, 6, 7] [_, _, _, _, _, _, _] rfl; clear hs14
   refine sq rfl (st_assign hs15 (Ev.t 1 rfl) rfl rfl fun _ _ hs16 => ?_); clear hs15
   refine hK8 _ _ ?_; clear hK8
   have hs17 := hs16.keep [0, 1] [_, _] rfl; clear hs16
   refine cd_retv (vs := [.bool false, .int .i64 90]) hs17 (fun a_ w_ h => th_ret (hQ0 a_ w_ h)) rfl ⟨.tmp 1 rfl, .tmp 0 rfl, trivial⟩ ?_
   clear hs17 hQ0 hN0 hK5
   first | (simp [pack, Bx.canR, Bx.asked, hok, hrt, hm0]; done) | (simp [pack, Bx.canR, Bx.asked, hok, hrt]; done) | simp [pack, Bx.canR, Bx.asked, hok]
 · skip
   refine cd_region fun K9 hK9 => ?_
   refine sq rfl (st_box hs0 (Ev.t 0 rfl) rfl rfl rfl fun b10 _ _ hs1 => ?_); clear hs0
   refine sq rfl (st_assign hs1 (.const _) rfl rfl fun _ _ hs2 => ?_); clear hs1
   refine sq rfl (st_assign hs2 (.const _) rfl rfl fun _ _ hs3 => ?_); clear hs2
   refine hK9 _ _ ?_; clear hK9
   have hs4 := hs3.keep [0, 1, 2, 4, 5] [_, _, _, _, _] rfl; clear hs3
   refine cd_drawS mixed [8, 9] ⟨Nat, fun n_ x_ => match n_ with | 0 => [] | 1 => [(8, .pointer (some ⟨x_, 0, none⟩))] | _ => [(8, .pointer (some ⟨x_, 0, none⟩))], fun n_ x_ => match n_ with | 0 => [] | 1 => [(x_, some (.cells ⟨[.slice none 0 0, .slice none 0 0, .int .i64 0, .int .i64 0, .int .i64 0, .int .i64 0, .int .i64 0, .slice none 0 0, .map none]⟩ 66 (0, 0)))] | _ => [(x_, some (.cells ⟨[.slice none 0 0, .slice none 0 0, .int .i64 0, .int .i64 0, .int .i64 0, .int .i64 0, .int .i64 0, .slice none 0 0, .map none]⟩ 66 (0, 0)))]⟩ (0 : Nat) hs4 [⟨11, [], Is (.agg ⟨(bxL b A n cp A2 n2 c2)⟩)⟩, ⟨12, [], Is (.agg ⟨(bxL b A n cp A2 n2 c2)⟩)⟩, ⟨13, [], Is (.int .i64 k)⟩, ⟨14, [1, 2], Is (.bool (isRoll b k))⟩, ⟨15, [0, 3], Is (.tuple ⟨[.agg ⟨[.slice none 0 0, .slice none 0 0, .int .i64 0, .int .i64 0, .int .i64 0, .int .i64 0, .int .i64 0, .slice none 0 0, .map none]⟩, .int .i64 91]⟩)⟩, ⟨10, [4], Is (.tuple ⟨[.agg ⟨[.slice none 0 0, .slice none 0 0, .int .i64 0, .int .i64 0, .int .i64 0, .int .i64 0, .int .i64 0, .slice none 0 0, .map none]⟩, .int .i64 91]⟩)⟩, ⟨16, [5], Is (.agg ⟨[.slice none 0 0, .slice none 0 0, .int .i64 0, .int .i64 0, .int .i64 0, .int .i64 0, .int .i64 0, .slice none 0 0, .map none]⟩)⟩, ⟨17, [5], Is (.int .i64 91)⟩, ⟨8, [], Is undef⟩, ⟨35, [6], Is undef⟩] (by kernel_rfl) (fun n_ _ => by rcases n_ with _ | _ | _ <;> rfl) (by kernel_rfl) fun K11 hK11 => ⟨⟨?_, ?_, ?_, ?_, ?_, ?_, ?_, ?_, ?_, ?_, trivial⟩, ?_⟩
   · rintro T_ B_ a_ w_ K_ hT hB hf hsD hk
     exact ob rfl rfl (st_loadA (o := 0) (off := 0) (vs := (bxL b A n cp A2 n2 c2)) hsD (evT hT 2 rfl) rfl hf isAgg25 sizeOf25 (hsD.cellsM (inB hB 0 rfl)) rfl fun _ _ => hk _ _ _ _ ⟨rfl, rfl⟩)
   · rintro T_ B_ a_ w_ K_ hT hB hf hsD hk
     exact ob rfl rfl (st_loadA (o := 0) (off := 0) (vs := (bxL b A n cp A2 n2 c2)) hsD (evT hT 2 rfl) rfl hf isAgg25 sizeOf25 (hsD.cellsM (inB hB 0 rfl)) rfl fun _ _ => hk _ _ _ _ ⟨rfl, rfl⟩)
   · rintro T_ B_ a_ w_ K_ hT hB hf hsD hk
     exact ob rfl rfl (st_move hsD (evT hT 3 rfl) rfl hf fun _ _ => hk _ _ _ _ ⟨rfl, rfl⟩)
   · rintro T_ B_ a_ w_ K_ hT hB _ _ ⟨rfl, rfl⟩ h12 - _ _ ⟨rfl, rfl⟩ h13 - hf hsD hk
     exact ob rfl rfl (st_callv (vs := [.agg ⟨(bxL b A n cp A2 n2 c2)⟩, .int .i64 k]) hsD (.func _) ⟨(Ev.tmp h12), (Ev.tmp h13), trivial⟩ rfl hf call52 rfl (isRoll_v b A n cp A2 n2 c2 k _ hn hP.len) fun _ _ => hk _ _ _ _ ⟨rfl, rfl⟩)
   · rintro T_ B_ a_ w_ K_ hT hB _ _ ⟨rfl, rfl⟩ h11 - _ _ ⟨rfl, rfl⟩ h14 - hf hsD hk
     exact ob rfl rfl (st_callv (vs := [.agg ⟨(bxL b A n cp A2 n2 c2)⟩, .bool (isRoll b k)]) hsD (.func _) ⟨(Ev.tmp h11), (Ev.tmp h14), trivial⟩ rfl hf call45 rfl (asked_2 b A n cp A2 n2 c2 _ (hP.kp hsD.kp) hn (hF.kp hsD.kp) hn2 (isRoll b k) hok hrt) fun _ _ => hk _ _ _ _ ⟨rfl, rfl⟩)
   · rintro T_ B_ a_ w_ K_ hT hB _ _ ⟨rfl, rfl⟩ h15 - hf hsD hk
     exact ob rfl rfl (st_move hsD (Ev.tmp h15) rfl hf fun _ _ => hk _ _ _ _ ⟨rfl, rfl⟩)
   · rintro T_ B_ a_ w_ K_ hT hB _ _ ⟨rfl, rfl⟩ h10 - hf hsD hk
     exact ob rfl rfl (st_extract hsD (Ev.tmp h10) rfl hf rfl fun _ _ => hk _ _ _ _ ⟨rfl, rfl⟩)
   · rintro T_ B_ a_ w_ K_ hT hB _ _ ⟨rfl, rfl⟩ h10 - hf hsD hk
     exact ob rfl rfl (st_extract hsD (Ev.tmp h10) rfl hf rfl fun _ _ => hk _ _ _ _ ⟨rfl, rfl⟩)
   · rintro T_ B_ a_ w_ K_ x_ hT hB hf hsD hk
     exact ob rfl rfl (st_alloc hsD rfl hf zeroValue66 rfl fun b_1 a_1 w_1 h1 => hk b_1 _ _ h1)
   · rintro T_ B_ a_ w_ K_ x_ hT hB _ _ ⟨rfl, rfl⟩ h16 - hf hsD hk
     exact ob rfl rfl (st_store (l' := [.slice none 0 0, .slice none 0 0, .int .i64 0, .int .i64 0, .int .i64 0, .int .i64 0, .int .i64 0, .slice none 0 0, .map none]) (vs := [.slice none 0 0, .slice none 0 0, .int .i64 0, .int .i64 0, .int .i64 0, .int .i64 0, .int .i64 0, .slice none 0 0, .map none]) (i := 0) hsD (Ev.t 0 rfl) (Ev.tmp (List.mem_append_right _ h16)) sizeOf66 rfl rfl rfl rfl rfl rfl fun a_1 w_1 h1 => hk x_ _ _ h1)
   rintro _ _ ⟨rfl, rfl⟩
   rintro _ _ ⟨rfl, rfl⟩
   rintro _ _ ⟨rfl, rfl⟩
   rintro _ _ ⟨rfl, rfl⟩
   rintro _ _ ⟨rfl, rfl⟩
   rintro _ _ ⟨rfl, rfl⟩
   rintro _ _ ⟨rfl, rfl⟩
   rintro _ _ ⟨rfl, rfl⟩
   intro (b12 : Nat) a_5 w_5 hs5
   clear hs4
   have hs6 := Sx.as (T' := [_, _, _, _, _, _, _, _, _, _, _, _, _, _]) (B' := [_, _]) rfl rfl hs5; clear hs5
   refine sq rfl (st_assign hs6 (Ev.t 8 rfl) rfl rfl fun _ _ hs7 => ?_); clear hs6
   refine hK11 _ _ ?_; clear hK11
   have hs8 := hs7.keep [0, 1, 10, 11, 13, 14] [_, _, _, _, _, _] rfl; clear hs7
   refine cd_seq fun K13 hK13 => ?_
   refine cd_region fun K14 hK14 => ?_
   refine sq rfl (st_move hs8 (Ev.t 0 rfl) rfl rfl fun _ _ hs9 => ?_); clear hs8
   refine sq rfl (st_cmp (c := true) hs9 (Ev.t 0 rfl) (.const _) rfl rfl rfl rfl fun _ _ hs10 => ?_); clear hs9
   refine hK14 _ _ ?_; clear hK14
   have hs11 := hs10.keep [0, 2, 3, 4, 5, 6, 7] [_, _, _, _, _, _, _] rfl; clear hs10
   have hc15 : true = true := rfl
   refine cd_cond hs11 (Ev.t 0 rfl) (fun _ => ?_) (fun h => absurd (hc15.symm.trans h) (by decide))
   refine cd_region fun K16 hK16 => ?_
   refine sq rfl (st_move hs11 (Ev.t 1 rfl) rfl rfl fun _ _ hs12 => ?_); clear hs11
   have hs13 := hs12.keep [0, 1, 2, 3, 4, 6, 7] [_, _, _, _, _, _, _] rfl; clear hs12
   refine sq rfl (st_assign hs13 (.const _) rfl rfl fun _ _ hs14 => ?_); clear hs13
   have hs15 := hs14.keep [0, 1, 2, 3, 4, 6, 7] [_, _, _, _, _, _, _] rfl; clear hs14
   refine sq rfl (st_assign hs15 (Ev.t 1 rfl) rfl rfl fun _ _ hs16 => ?_); clear hs15
   refine hK16 _ _ ?_; clear hK16
   have hs17 := hs16.keep [0, 1] [_, _] rfl; clear hs16
   refine cd_retv (vs := [.bool false, .int .i64 91]) hs17 (fun a_ w_ h => th_ret (hQ0 a_ w_ h)) rfl ⟨.tmp 1 rfl, .tmp 0 rfl, trivial⟩ ?_
   clear hs17 hQ0 hN0 hK13
   first | (simp [pack, Bx.canR, Bx.asked, hok, hrt, hm0]; done) | (simp [pack, Bx.canR, Bx.asked, hok, hrt]; done) | simp [pack, Bx.canR, Bx.asked, hok]
 · skip
   refine cd_region fun K17 hK17 => ?_
   refine sq rfl (st_box hs0 (Ev.t 0 rfl) rfl rfl rfl fun b18 _ _ hs1 => ?_); clear hs0
   refine sq rfl (st_assign hs1 (.const _) rfl rfl fun _ _ hs2 => ?_); clear hs1
   refine sq rfl (st_assign hs2 (.const _) rfl rfl fun _ _ hs3 => ?_); clear hs2
   refine hK17 _ _ ?_; clear hK17
   have hs4 := hs3.keep [0, 1, 2, 4, 5] [_, _, _, _, _] rfl; clear hs3
   refine cd_drawD mixed [4, 5, 6, 7, 8, 9, 10] (fun k_ => match k_ with | 4 => [[false, false, false, false, false, false, false], [false, false, false, false, true, false, false]] | 5 => [[true, false, false, false, false, false, false], [true, false, false, false, true, false, false]] | 6 => [[true, true, false, false, false, false, false], [true, true, false, true, false, false, false], [true, true, false, false, true, false, false], [true, true, false, true, true, false, false]] | 7 => [[true, true, false, false, false, false, false], [true, true, true, false, false, false, false], [true, true, false, false, true, false, false], [true, true, true, false, true, false, false], [true, true, true, false, true, true, false]] | 8 => [[false, false, false, false, false, false, false], [true, false, false, false, false, false, false], [true, true, false, false, false, false, false], [true, true, true, false, false, false, false], [true, true, false, true, false, false, false], [true, true, true, true, false, false, false]] | 9 => [[true, true, true, false, true, false, false], [true, true, true, true, true, false, false]] | 10 => [[true, true, true, true, true, true, false]] | _ => []) (SpecD.tab (AX0) [([false, false, false, false, false, false, false], fun x_ => []), ([true, false, false, false, false, false, false], fun x_ => [(15, .tuple ⟨[.agg ⟨(boxL b A n cp A2 n2 c2 x_.A n x_.c x_.m)⟩, .int .i64 92]⟩)]), ([false, false, false, false, true, false, false], fun x_ => [(8, .pointer (some ⟨x_.t, 0, none⟩))]), ([true, true, false, false, false, false, false], fun x_ => [(10, .tuple ⟨[.agg ⟨(boxL b A n cp A2 n2 c2 x_.A n x_.c x_.m)⟩, .int .i64 92]⟩), (15, .tuple ⟨[.agg ⟨(boxL b A n cp A2 n2 c2 x_.A n x_.c x_.m)⟩, .int .i64 92]⟩)]), ([true, false, false, false, true, false, false], fun x_ => [(8, .pointer (some ⟨x_.t, 0, none⟩)), (15, .tuple ⟨[.agg ⟨(boxL b A n cp A2 n2 c2 x_.A n x_.c x_.m)⟩, .int .i64 92]⟩)]), ([true, true, true, false, false, false, false], fun x_ => [(16, .agg ⟨(boxL b A n cp A2 n2 c2 x_.A n x_.c x_.m)⟩), (10, .tuple ⟨[.agg ⟨(boxL b A n cp A2 n2 c2 x_.A n x_.c x_.m)⟩, .int .i64 92]⟩), (15, .tuple ⟨[.agg ⟨(boxL b A n cp A2 n2 c2 x_.A n x_.c x_.m)⟩, .int .i64 92]⟩)]), ([true, true, false, true, false, false, false], fun x_ => [(17, .int .i64 92), (10, .tuple ⟨[.agg ⟨(boxL b A n cp A2 n2 c2 x_.A n x_.c x_.m)⟩, .int .i64 92]⟩), (15, .tuple ⟨[.agg ⟨(boxL b A n cp A2 n2 c2 x_.A n x_.c x_.m)⟩, .int .i64 92]⟩)]), ([true, true, false, false, true, false, false], fun x_ => [(8, .pointer (some ⟨x_.t, 0, none⟩)), (10, .tuple ⟨[.agg ⟨(boxL b A n cp A2 n2 c2 x_.A n x_.c x_.m)⟩, .int .i64 92]⟩), (15, .tuple ⟨[.agg ⟨(boxL b A n cp A2 n2 c2 x_.A n x_.c x_.m)⟩, .int .i64 92]⟩)]), ([true, true, true, true, false, false, false], fun x_ => [(17, .int .i64 92), (16, .agg ⟨(boxL b A n cp A2 n2 c2 x_.A n x_.c x_.m)⟩), (10, .tuple ⟨[.agg ⟨(boxL b A n cp A2 n2 c2 x_.A n x_.c x_.m)⟩, .int .i64 92]⟩), (15, .tuple ⟨[.agg ⟨(boxL b A n cp A2 n2 c2 x_.A n x_.c x_.m)⟩, .int .i64 92]⟩)]), ([true, true, true, false, true, false, false], fun x_ => [(8, .pointer (some ⟨x_.t, 0, none⟩)), (16, .agg ⟨(boxL b A n cp A2 n2 c2 x_.A n x_.c x_.m)⟩), (10, .tuple ⟨[.agg ⟨(boxL b A n cp A2 n2 c2 x_.A n x_.c x_.m)⟩, .int .i64 92]⟩), (15, .tuple ⟨[.agg ⟨(boxL b A n cp A2 n2 c2 x_.A n x_.c x_.m)⟩, .int .i64 92]⟩)]), ([true, true, false, true, true, false, false], fun x_ => [(8, .pointer (some ⟨x_.t, 0, none⟩)), (17, .int .i64 92), (10, .tuple ⟨[.agg ⟨(boxL b A n cp A2 n2 c2 x_.A n x_.c x_.m)⟩, .int .i64 92]⟩), (15, .tuple ⟨[.agg ⟨(boxL b A n cp A2 n2 c2 x_.A n x_.c x_.m)⟩, .int .i64 92]⟩)]), ([true, true, true, true, true, false, false], fun x_ => [(8, .pointer (some ⟨x_.t, 0, none⟩)), (17, .int .i64 92), (16, .agg ⟨(boxL b A n cp A2 n2 c2 x_.A n x_.c x_.m)⟩), (10, .tuple ⟨[.agg ⟨(boxL b A n cp A2 n2 c2 x_.A n x_.c x_.m)⟩, .int .i64 92]⟩), (15, .tuple ⟨[.agg ⟨(boxL b A n cp A2 n2 c2 x_.A n x_.c x_.m)⟩, .int .i64 92]⟩)]), ([true, true, true, false, true, true, false], fun x_ => [(8, .pointer (some ⟨x_.t, 0, none⟩)), (16, .agg ⟨(boxL b A n cp A2 n2 c2 x_.A n x_.c x_.m)⟩), (10, .tuple ⟨[.agg ⟨(boxL b A n cp A2 n2 c2 x_.A n x_.c x_.m)⟩, .int .i64 92]⟩), (15, .tuple ⟨[.agg ⟨(boxL b A n cp A2 n2 c2 x_.A n x_.c x_.m)⟩, .int .i64 92]⟩)]), ([true, true, true, true, true, true, false], fun x_ => [(8, .pointer (some ⟨x_.t, 0, none⟩)), (17, .int .i64 92), (16, .agg ⟨(boxL b A n cp A2 n2 c2 x_.A n x_.c x_.m)⟩), (10, .tuple ⟨[.agg ⟨(boxL b A n cp A2 n2 c2 x_.A n x_.c x_.m)⟩, .int .i64 92]⟩), (15, .tuple ⟨[.agg ⟨(boxL b A n cp A2 n2 c2 x_.A n x_.c x_.m)⟩, .int .i64 92]⟩)]), ([true, true, true, true, true, true, true], fun x_ => [(9, .int .i64 92), (8, .pointer (some ⟨x_.t, 0, none⟩)), (17, .int .i64 92), (16, .agg ⟨(boxL b A n cp A2 n2 c2 x_.A n x_.c x_.m)⟩), (10, .tuple ⟨[.agg ⟨(boxL b A n cp A2 n2 c2 x_.A n x_.c x_.m)⟩, .int .i64 92]⟩), (15, .tuple ⟨[.agg ⟨(boxL b A n cp A2 n2 c2 x_.A n x_.c x_.m)⟩, .int .i64 92]⟩)])] [([false, false, false, false, false, false, false], fun x_ => []), ([true, false, false, false, false, false, false], fun x_ => []), ([false, false, false, false, true, false, false], fun x_ => [(x_.t, some (.cells ⟨[.slice none 0 0, .slice none 0 0, .int .i64 0, .int .i64 0, .int .i64 0, .int .i64 0, .int .i64 0, .slice none 0 0, .map none]⟩ 66 (0, 0)))]), ([true, true, false, false, false, false, false], fun x_ => []), ([true, false, false, false, true, false, false], fun x_ => [(x_.t, some (.cells ⟨[.slice none 0 0, .slice none 0 0, .int .i64 0, .int .i64 0, .int .i64 0, .int .i64 0, .int .i64 0, .slice none 0 0, .map none]⟩ 66 (0, 0)))]), ([true, true, true, false, false, false, false], fun x_ => []), ([true, true, false, true, false, false, false], fun x_ => []), ([true, true, false, false, true, false, false], fun x_ => [(x_.t, some (.cells ⟨[.slice none 0 0, .slice none 0 0, .int .i64 0, .int .i64 0, .int .i64 0, .int .i64 0, .int .i64 0, .slice none 0 0, .map none]⟩ 66 (0, 0)))]), ([true, true, true, true, false, false, false], fun x_ => []), ([true, true, true, false, true, false, false], fun x_ => [(x_.t, some (.cells ⟨[.slice none 0 0, .slice none 0 0, .int .i64 0, .int .i64 0, .int .i64 0, .int .i64 0, .int .i64 0, .slice none 0 0, .map none]⟩ 66 (0, 0)))]), ([true, true, false, true, true, false, false], fun x_ => [(x_.t, some (.cells ⟨[.slice none 0 0, .slice none 0 0, .int .i64 0, .int .i64 0, .int .i64 0, .int .i64 0, .int .i64 0, .slice none 0 0, .map none]⟩ 66 (0, 0)))]), ([true, true, true, true, true, false, false], fun x_ => [(x_.t, some (.cells ⟨[.slice none 0 0, .slice none 0 0, .int .i64 0, .int .i64 0, .int .i64 0, .int .i64 0, .int .i64 0, .slice none 0 0, .map none]⟩ 66 (0, 0)))]), ([true, true, true, false, true, true, false], fun x_ => [(x_.t, some (.cells ⟨(boxL b A n cp A2 n2 c2 x_.A n x_.c x_.m)⟩ 66 (0, 0)))]), ([true, true, true, true, true, true, false], fun x_ => [(x_.t, some (.cells ⟨(boxL b A n cp A2 n2 c2 x_.A n x_.c x_.m)⟩ 66 (0, 0)))]), ([true, true, true, true, true, true, true], fun x_ => [(x_.t, some (.cells ⟨(boxL b A n cp A2 n2 c2 x_.A n x_.c x_.m)⟩ 66 (0, 0)))])]) (AX0.mk none 0 0 0) hs4 [⟨11, [], Is (.agg ⟨(bxL b A n cp A2 n2 c2)⟩)⟩, ⟨12, [], Is (.agg ⟨(bxL b A n cp A2 n2 c2)⟩)⟩, ⟨13, [], Is (.int .i64 k)⟩, ⟨14, [1, 2], Is (.bool (isRoll b k))⟩, ⟨15, [0, 3], Is undef⟩, ⟨10, [], Is undef⟩, ⟨16, [], Is undef⟩, ⟨17, [], Is undef⟩, ⟨8, [], Is undef⟩, ⟨35, [], Is undef⟩, ⟨9, [], Is undef⟩] (by kernel_rfl) (by kernel_rfl) (ownD_tab (fun x_ => by kernel_rfl)) (by kernel_rfl) (by kernel_rfl) fun K19 hK19 => ⟨⟨?_, ?_, ?_, ?_, ?_, ?_, ?_, ?_, ?_, ?_, ?_, trivial⟩, ?_⟩
   · rintro T_ B_ a_ w_ K_ hT hB hf hsD hk
     exact ob rfl rfl (st_loadA (o := 0) (off := 0) (vs := (bxL b A n cp A2 n2 c2)) hsD (evT hT 2 rfl) rfl hf isAgg25 sizeOf25 (hsD.cellsM (inB hB 0 rfl)) rfl fun _ _ => hk _ _ _ _ ⟨rfl, rfl⟩)
   · rintro T_ B_ a_ w_ K_ hT hB hf hsD hk
     exact ob rfl rfl (st_loadA (o := 0) (off := 0) (vs := (bxL b A n cp A2 n2 c2)) hsD (evT hT 2 rfl) rfl hf isAgg25 sizeOf25 (hsD.cellsM (inB hB 0 rfl)) rfl fun _ _ => hk _ _ _ _ ⟨rfl, rfl⟩)
   · rintro T_ B_ a_ w_ K_ hT hB hf hsD hk
     exact ob rfl rfl (st_move hsD (evT hT 3 rfl) rfl hf fun _ _ => hk _ _ _ _ ⟨rfl, rfl⟩)
   · rintro T_ B_ a_ w_ K_ hT hB _ _ ⟨rfl, rfl⟩ h12 - _ _ ⟨rfl, rfl⟩ h13 - hf hsD hk
     exact ob rfl rfl (st_callv (vs := [.agg ⟨(bxL b A n cp A2 n2 c2)⟩, .int .i64 k]) hsD (.func _) ⟨(Ev.tmp h12), (Ev.tmp h13), trivial⟩ rfl hf call52 rfl (isRoll_v b A n cp A2 n2 c2 k _ hn hP.len) fun _ _ => hk _ _ _ _ ⟨rfl, rfl⟩)
   · refine ⟨?_, ?_, trivial⟩
     · rintro T_ B_ a_ w_ K_ x_ hT hB _ _ ⟨rfl, rfl⟩ h11 - _ _ ⟨rfl, rfl⟩ h14 - hf hsD hk
       exact ob rfl rfl (st_call (vs := [.agg ⟨(bxL b A n cp A2 n2 c2)⟩, .bool (isRoll b k)]) hsD (.func _) ⟨(Ev.tmp (List.mem_append_right _ h11)), (Ev.tmp (List.mem_append_right _ h14)), trivial⟩ rfl hf call45 rfl (asked_3 b A n cp A2 n2 c2 _ (hP.kp hsD.kp) hn (hF.kp hsD.kp) hn2 (isRoll b k) hok hrt hm0) (fun v_ bs_ a_1 w_1 hp9 h1 => by obtain ⟨A7, c7, m7, rfl, rfl⟩ := hp9; exact hk (AX0.mk A7 c7 m7 x_.t) _ _ h1))
     · rintro T_ B_ a_ w_ K_ x_ hT hB _ _ ⟨rfl, rfl⟩ h11 - _ _ ⟨rfl, rfl⟩ h14 - hf hsD hk
       exact ob rfl rfl (st_call (vs := [.agg ⟨(bxL b A n cp A2 n2 c2)⟩, .bool (isRoll b k)]) hsD (.func _) ⟨(Ev.tmp (List.mem_append_right _ h11)), (Ev.tmp (List.mem_append_right _ h14)), trivial⟩ rfl (show fresh 15 ([(8, .pointer (some ⟨x_.t, 0, none⟩))] ++ T_) = true from by simp only [List.nil_append, List.cons_append, fresh, hf]; rfl) call45 rfl (asked_3 b A n cp A2 n2 c2 _ (hP.kp hsD.kp) hn (hF.kp hsD.kp) hn2 (isRoll b k) hok hrt hm0) (fun v_ bs_ a_1 w_1 hp9 h1 => by obtain ⟨A7, c7, m7, rfl, rfl⟩ := hp9; exact hk (AX0.mk A7 c7 m7 x_.t) _ _ (Sx.reT (T1 := [(15, _), (8, _)]) (T2 := [(8, _), (15, _)]) [1, 0] rfl h1)))
   · refine ⟨?_, ?_, trivial⟩
     · rintro T_ B_ a_ w_ K_ x_ hT hB hf hsD hk
       exact ob rfl rfl (st_move hsD (Ev.t 0 rfl) rfl (show fresh 10 ([(15, .tuple ⟨[.agg ⟨(boxL b A n cp A2 n2 c2 x_.A n x_.c x_.m)⟩, .int .i64 92]⟩)] ++ T_) = true from by simp only [List.nil_append, List.cons_append, fresh, hf]; rfl) fun a_1 w_1 h1 => hk x_ _ _ h1)
     · rintro T_ B_ a_ w_ K_ x_ hT hB hf hsD hk
       exact ob rfl rfl (st_move hsD (Ev.t 1 rfl) rfl (show fresh 10 ([(8, .pointer (some ⟨x_.t, 0, none⟩)), (15, .tuple ⟨[.agg ⟨(boxL b A n cp A2 n2 c2 x_.A n x_.c x_.m)⟩, .int .i64 92]⟩)] ++ T_) = true from by simp only [List.nil_append, List.cons_append, fresh, hf]; rfl) fun a_1 w_1 h1 => hk x_ _ _ (Sx.reT (T1 := [(10, _), (8, _), (15, _)]) (T2 := [(8, _), (10, _), (15, _)]) [1, 0, 2] rfl h1))
   · refine ⟨?_, ?_, ?_, ?_, trivial⟩
     · rintro T_ B_ a_ w_ K_ x_ hT hB hf hsD hk
       exact ob rfl rfl (st_extract hsD (Ev.t 0 rfl) rfl (show fresh 16 ([(10, .tuple ⟨[.agg ⟨(boxL b A n cp A2 n2 c2 x_.A n x_.c x_.m)⟩, .int .i64 92]⟩), (15, .tuple ⟨[.agg ⟨(boxL b A n cp A2 n2 c2 x_.A n x_.c x_.m)⟩, .int .i64 92]⟩)] ++ T_) = true from by simp only [List.nil_append, List.cons_append, fresh, hf]; rfl) rfl fun a_1 w_1 h1 => hk x_ _ _ h1)
     · rintro T_ B_ a_ w_ K_ x_ hT hB hf hsD hk
       exact ob rfl rfl (st_extract hsD (Ev.t 1 rfl) rfl (show fresh 16 ([(17, .int .i64 92), (10, .tuple ⟨[.agg ⟨(boxL b A n cp A2 n2 c2 x_.A n x_.c x_.m)⟩, .int .i64 92]⟩), (15, .tuple ⟨[.agg ⟨(boxL b A n cp A2 n2 c2 x_.A n x_.c x_.m)⟩, .int .i64 92]⟩)] ++ T_) = true from by simp only [List.nil_append, List.cons_append, fresh, hf]; rfl) rfl fun a_1 w_1 h1 => hk x_ _ _ (Sx.reT (T1 := [(16, _), (17, _), (10, _), (15, _)]) (T2 := [(17, _), (16, _), (10, _), (15, _)]) [1, 0, 2, 3] rfl h1))
     · rintro T_ B_ a_ w_ K_ x_ hT hB hf hsD hk
       exact ob rfl rfl (st_extract hsD (Ev.t 1 rfl) rfl (show fresh 16 ([(8, .pointer (some ⟨x_.t, 0, none⟩)), (10, .tuple ⟨[.agg ⟨(boxL b A n cp A2 n2 c2 x_.A n x_.c x_.m)⟩, .int .i64 92]⟩), (15, .tuple ⟨[.agg ⟨(boxL b A n cp A2 n2 c2 x_.A n x_.c x_.m)⟩, .int .i64 92]⟩)] ++ T_) = true from by simp only [List.nil_append, List.cons_append, fresh, hf]; rfl) rfl fun a_1 w_1 h1 => hk x_ _ _ (Sx.reT (T1 := [(16, _), (8, _), (10, _), (15, _)]) (T2 := [(8, _), (16, _), (10, _), (15, _)]) [1, 0, 2, 3] rfl h1))
     · rintro T_ B_ a_ w_ K_ x_ hT hB hf hsD hk
       exact ob rfl rfl (st_extract hsD (Ev.t 2 rfl) rfl (show fresh 16 ([(8, .pointer (some ⟨x_.t, 0, none⟩)), (17, .int .i64 92), (10, .tuple ⟨[.agg ⟨(boxL b A n cp A2 n2 c2 x_.A n x_.c x_.m)⟩, .int .i64 92]⟩), (15, .tuple ⟨[.agg ⟨(boxL b A n cp A2 n2 c2 x_.A n x_.c x_.m)⟩, .int .i64 92]⟩)] ++ T_) = true from by simp only [List.nil_append, List.cons_append, fresh, hf]; rfl) rfl fun a_1 w_1 h1 => hk x_ _ _ (Sx.reT (T1 := [(16, _), (8, _), (17, _), (10, _), (15, _)]) (T2 := [(8, _), (17, _), (16, _), (10, _), (15, _)]) [1, 2, 0, 3, 4] rfl h1))
   · refine ⟨?_, ?_, ?_, ?_, ?_, trivial⟩
     · rintro T_ B_ a_ w_ K_ x_ hT hB hf hsD hk
       exact ob rfl rfl (st_extract hsD (Ev.t 0 rfl) rfl (show fresh 17 ([(10, .tuple ⟨[.agg ⟨(boxL b A n cp A2 n2 c2 x_.A n x_.c x_.m)⟩, .int .i64 92]⟩), (15, .tuple ⟨[.agg ⟨(boxL b A n cp A2 n2 c2 x_.A n x_.c x_.m)⟩, .int .i64 92]⟩)] ++ T_) = true from by simp only [List.nil_append, List.cons_append, fresh, hf]; rfl) rfl fun a_1 w_1 h1 => hk x_ _ _ h1)
     · rintro T_ B_ a_ w_ K_ x_ hT hB hf hsD hk
       exact ob rfl rfl (st_extract hsD (Ev.t 1 rfl) rfl (show fresh 17 ([(16, .agg ⟨(boxL b A n cp A2 n2 c2 x_.A n x_.c x_.m)⟩), (10, .tuple ⟨[.agg ⟨(boxL b A n cp A2 n2 c2 x_.A n x_.c x_.m)⟩, .int .i64 92]⟩), (15, .tuple ⟨[.agg ⟨(boxL b A n cp A2 n2 c2 x_.A n x_.c x_.m)⟩, .int .i64 92]⟩)] ++ T_) = true from by simp only [List.nil_append, List.cons_append, fresh, hf]; rfl) rfl fun a_1 w_1 h1 => hk x_ _ _ h1)
     · rintro T_ B_ a_ w_ K_ x_ hT hB hf hsD hk
       exact ob rfl rfl (st_extract hsD (Ev.t 1 rfl) rfl (show fresh 17 ([(8, .pointer (some ⟨x_.t, 0, none⟩)), (10, .tuple ⟨[.agg ⟨(boxL b A n cp A2 n2 c2 x_.A n x_.c x_.m)⟩, .int .i64 92]⟩), (15, .tuple ⟨[.agg ⟨(boxL b A n cp A2 n2 c2 x_.A n x_.c x_.m)⟩, .int .i64 92]⟩)] ++ T_) = true from by simp only [List.nil_append, List.cons_append, fresh, hf]; rfl) rfl fun a_1 w_1 h1 => hk x_ _ _ (Sx.reT (T1 := [(17, _), (8, _), (10, _), (15, _)]) (T2 := [(8, _), (17, _), (10, _), (15, _)]) [1, 0, 2, 3] rfl h1))
     · rintro T_ B_ a_ w_ K_ x_ hT hB hf hsD hk
       exact ob rfl rfl (st_extract hsD (Ev.t 2 rfl) rfl (show fresh 17 ([(8, .pointer (some ⟨x_.t, 0, none⟩)), (16, .agg ⟨(boxL b A n cp A2 n2 c2 x_.A n x_.c x_.m)⟩), (10, .tuple ⟨[.agg ⟨(boxL b A n cp A2 n2 c2 x_.A n x_.c x_.m)⟩, .int .i64 92]⟩), (15, .tuple ⟨[.agg ⟨(boxL b A n cp A2 n2 c2 x_.A n x_.c x_.m)⟩, .int .i64 92]⟩)] ++ T_) = true from by simp only [List.nil_append, List.cons_append, fresh, hf]; rfl) rfl fun a_1 w_1 h1 => hk x_ _ _ (Sx.reT (T1 := [(17, _), (8, _), (16, _), (10, _), (15, _)]) (T2 := [(8, _), (17, _), (16, _), (10, _), (15, _)]) [1, 0, 2, 3, 4] rfl h1))
     · rintro T_ B_ a_ w_ K_ x_ hT hB hf hsD hk
       exact ob rfl rfl (st_extract hsD (Ev.t 2 rfl) rfl (show fresh 17 ([(8, .pointer (some ⟨x_.t, 0, none⟩)), (16, .agg ⟨(boxL b A n cp A2 n2 c2 x_.A n x_.c x_.m)⟩), (10, .tuple ⟨[.agg ⟨(boxL b A n cp A2 n2 c2 x_.A n x_.c x_.m)⟩, .int .i64 92]⟩), (15, .tuple ⟨[.agg ⟨(boxL b A n cp A2 n2 c2 x_.A n x_.c x_.m)⟩, .int .i64 92]⟩)] ++ T_) = true from by simp only [List.nil_append, List.cons_append, fresh, hf]; rfl) rfl fun a_1 w_1 h1 => hk x_ _ _ (Sx.reT (T1 := [(17, _), (8, _), (16, _), (10, _), (15, _)]) (T2 := [(8, _), (17, _), (16, _), (10, _), (15, _)]) [1, 0, 2, 3, 4] rfl h1))
   · refine ⟨?_, ?_, ?_, ?_, ?_, ?_, trivial⟩
     · rintro T_ B_ a_ w_ K_ x_ hT hB hf hsD hk
       exact ob rfl rfl (st_alloc hsD rfl hf zeroValue66 rfl fun b_1 a_1 w_1 h1 => hk (x_.at b_1) _ _ h1)
     · rintro T_ B_ a_ w_ K_ x_ hT hB hf hsD hk
       exact ob rfl rfl (st_alloc hsD rfl (show fresh 8 ([(15, .tuple ⟨[.agg ⟨(boxL b A n cp A2 n2 c2 x_.A n x_.c x_.m)⟩, .int .i64 92]⟩)] ++ T_) = true from by simp only [List.nil_append, List.cons_append, fresh, hf]; rfl) zeroValue66 rfl fun b_1 a_1 w_1 h1 => hk (x_.at b_1) _ _ h1)
     · rintro T_ B_ a_ w_ K_ x_ hT hB hf hsD hk
       exact ob rfl rfl (st_alloc hsD rfl (show fresh 8 ([(10, .tuple ⟨[.agg ⟨(boxL b A n cp A2 n2 c2 x_.A n x_.c x_.m)⟩, .int .i64 92]⟩), (15, .tuple ⟨[.agg ⟨(boxL b A n cp A2 n2 c2 x_.A n x_.c x_.m)⟩, .int .i64 92]⟩)] ++ T_) = true from by simp only [List.nil_append, List.cons_append, fresh, hf]; rfl) zeroValue66 rfl fun b_1 a_1 w_1 h1 => hk (x_.at b_1) _ _ h1)
     · rintro T_ B_ a_ w_ K_ x_ hT hB hf hsD hk
       exact ob rfl rfl (st_alloc hsD rfl (show fresh 8 ([(16, .agg ⟨(boxL b A n cp A2 n2 c2 x_.A n x_.c x_.m)⟩), (10, .tuple ⟨[.agg ⟨(boxL b A n cp A2 n2 c2 x_.A n x_.c x_.m)⟩, .int .i64 92]⟩), (15, .tuple ⟨[.agg ⟨(boxL b A n cp A2 n2 c2 x_.A n x_.c x_.m)⟩, .int .i64 92]⟩)] ++ T_) = true from by simp only [List.nil_append, List.cons_append, fresh, hf]; rfl) zeroValue66 rfl fun b_1 a_1 w_1 h1 => hk (x_.at b_1) _ _ h1)
     · rintro T_ B_ a_ w_ K_ x_ hT hB hf hsD hk
       exact ob rfl rfl (st_alloc hsD rfl (show fresh 8 ([(17, .int .i64 92), (10, .tuple ⟨[.agg ⟨(boxL b A n cp A2 n2 c2 x_.A n x_.c x_.m)⟩, .int .i64 92]⟩), (15, .tuple ⟨[.agg ⟨(boxL b A n cp A2 n2 c2 x_.A n x_.c x_.m)⟩, .int .i64 92]⟩)] ++ T_) = true from by simp only [List.nil_append, List.cons_append, fresh, hf]; rfl) zeroValue66 rfl fun b_1 a_1 w_1 h1 => hk (x_.at b_1) _ _ h1)
     · rintro T_ B_ a_ w_ K_ x_ hT hB hf hsD hk
       exact ob rfl rfl (st_alloc hsD rfl (show fresh 8 ([(17, .int .i64 92), (16, .agg ⟨(boxL b A n cp A2 n2 c2 x_.A n x_.c x_.m)⟩), (10, .tuple ⟨[.agg ⟨(boxL b A n cp A2 n2 c2 x_.A n x_.c x_.m)⟩, .int .i64 92]⟩), (15, .tuple ⟨[.agg ⟨(boxL b A n cp A2 n2 c2 x_.A n x_.c x_.m)⟩, .int .i64 92]⟩)] ++ T_) = true from by simp only [List.nil_append, List.cons_append, fresh, hf]; rfl) zeroValue66 rfl fun b_1 a_1 w_1 h1 => hk (x_.at b_1) _ _ h1)
   · refine ⟨?_, ?_, trivial⟩
     · rintro T_ B_ a_ w_ K_ x_ hT hB hf hsD hk
       exact ob rfl rfl (st_store (l' := (boxL b A n cp A2 n2 c2 x_.A n x_.c x_.m)) (vs := (boxL b A n cp A2 n2 c2 x_.A n x_.c x_.m)) (i := 0) hsD (Ev.t 0 rfl) (Ev.t 1 rfl) sizeOf66 rfl rfl rfl rfl rfl rfl fun a_1 w_1 h1 => hk x_ _ _ h1)
     · rintro T_ B_ a_ w_ K_ x_ hT hB hf hsD hk
       exact ob rfl rfl (st_store (l' := (boxL b A n cp A2 n2 c2 x_.A n x_.c x_.m)) (vs := (boxL b A n cp A2 n2 c2 x_.A n x_.c x_.m)) (i := 0) hsD (Ev.t 0 rfl) (Ev.t 2 rfl) sizeOf66 rfl rfl rfl rfl rfl rfl fun a_1 w_1 h1 => hk x_ _ _ h1)
   · refine ⟨?_, trivial⟩
     · rintro T_ B_ a_ w_ K_ x_ hT hB hf hsD hk
       exact ob rfl rfl (st_assign hsD (Ev.t 1 rfl) rfl (show fresh 9 ([(8, .pointer (some ⟨x_.t, 0, none⟩)), (17, .int .i64 92), (16, .agg ⟨(boxL b A n cp A2 n2 c2 x_.A n x_.c x_.m)⟩), (10, .tuple ⟨[.agg ⟨(boxL b A n cp A2 n2 c2 x_.A n x_.c x_.m)⟩, .int .i64 92]⟩), (15, .tuple ⟨[.agg ⟨(boxL b A n cp A2 n2 c2 x_.A n x_.c x_.m)⟩, .int .i64 92]⟩)] ++ T_) = true from by simp only [List.nil_append, List.cons_append, fresh, hf]; rfl) fun a_1 w_1 h1 => hk x_ _ _ h1)
   rintro _ _ ⟨rfl, rfl⟩
   rintro _ _ ⟨rfl, rfl⟩
   rintro _ _ ⟨rfl, rfl⟩
   rintro _ _ ⟨rfl, rfl⟩
   intro x_ a_5 w_5 hs5; clear hs4
   have hs6 := Sx.as (T' := [_, _, _, _, _, _, _, _, _, _, _, _, _, _, _]) (B' := [_, _]) rfl rfl hs5; clear hs5
   refine hK19 _ _ ?_; clear hK19
   have hs7 := hs6.keep [0, 1, 10, 11, 13, 14] [_, _, _, _, _, _] rfl; clear hs6
   refine cd_seq fun K20 hK20 => ?_
   refine cd_region fun K21 hK21 => ?_
   refine sq rfl (st_move hs7 (Ev.t 0 rfl) rfl rfl fun _ _ hs8 => ?_); clear hs7
   refine sq rfl (st_cmp (c := true) hs8 (Ev.t 0 rfl) (.const _) rfl rfl rfl rfl fun _ _ hs9 => ?_); clear hs8
   refine hK21 _ _ ?_; clear hK21
   have hs10 := hs9.keep [0, 2, 3, 4, 5, 6, 7] [_, _, _, _, _, _, _] rfl; clear hs9
   have hc22 : true = true := rfl
   refine cd_cond hs10 (Ev.t 0 rfl) (fun _ => ?_) (fun h => absurd (hc22.symm.trans h) (by decide))
   refine cd_region fun K23 hK23 => ?_
   refine sq rfl (st_move hs10 (Ev.t 1 rfl) rfl rfl fun _ _ hs11 => ?_); clear hs10
   have hs12 := hs11.keep [0, 1, 2, 3, 4, 6, 7] [_, _, _, _, _, _, _] rfl; clear hs11
   refine sq rfl (st_assign hs12 (.const _) rfl rfl fun _ _ hs13 => ?_); clear hs12
   have hs14 := hs13.keep [0, 1, 2, 3, 4, 6, 7] [_, _, _, _, _, _, _] rfl; clear hs13
   refine sq rfl (st_assign hs14 (Ev.t 1 rfl) rfl rfl fun _ _ hs15 => ?_); clear hs14
   refine hK23 _ _ ?_; clear hK23
   have hs16 := hs15.keep [0, 1] [_, _] rfl; clear hs15
   refine cd_retv (vs := [.bool false, .int .i64 92]) hs16 (fun a_ w_ h => th_ret (hQ0 a_ w_ h)) rfl ⟨.tmp 1 rfl, .tmp 0 rfl, trivial⟩ ?_
   clear hs16 hQ0 hN0 hK20
   first | (simp [pack, Bx.canR, Bx.asked, hok, hrt, hm0]; done) | (simp [pack, Bx.canR, Bx.asked, hok, hrt]; done) | simp [pack, Bx.canR, Bx.asked, hok]

theorem Can_yes (b : Bx) (A : Option Addr) (n cp : Nat) (A2 : Option Addr) (n2 c2 : Nat) (q : Nat) (s : Sp) (hsq : b.sold[q]? = some s) (hok : b.ok = true) (hm0 : b.many ≠ 0) (x : Int) (w : World) (hP : RollsAt w A n b.rolls) (hn : n ≤ 140737488351232) (hF : SpsAt w A2 n2 b.free) (hn2 : n2 ≤ 140737488351232) :
    CallsV Tryd.prog 21 [.agg ⟨(bxL b A n cp A2 n2 c2)⟩, .int .i64 (q : Int), .int .i64 x] w (.tuple ⟨[.bool ((b.canR (q : Int) x).1), .int .i64 ((b.canR (q : Int) x).2)]⟩) := by
 have hO := ok_iff.1 hok
 have hql : q < b.rolls.length := by rw [← soldlen hO]; exact (List.getElem?_eq_some_iff.1 hsq).1
 have hrt : isRoll b (q : Int) = true := by unfold isRoll; rw [Till.within_iff]; omega
 have hask : b.asked (isRoll b (q : Int)) = 0 := asked_zero.2 ⟨hok, hrt, hm0⟩
 refine enter (N := 26) (M := []) w func21 rfl rfl rfl (fun Q0 a_0 hQ0 hN0 hs0 => ?_)
 refine cd_region fun K1 hK1 => ?_
 refine sq rfl (st_box hs0 (Ev.t 0 rfl) rfl rfl rfl fun b2 _ _ hs1 => ?_); clear hs0
 refine sq rfl (st_assign hs1 (.const _) rfl rfl fun _ _ hs2 => ?_); clear hs1
 refine sq rfl (st_assign hs2 (.const _) rfl rfl fun _ _ hs3 => ?_); clear hs2
 refine hK1 _ _ ?_; clear hK1
 have hs4 := hs3.keep [0, 1, 2, 4, 5] [_, _, _, _, _] rfl; clear hs3
 refine cd_drawD mixed [4, 5, 6, 7, 8, 9, 10] (fun k_ => match k_ with | 4 => [[false, false, false, false, false, false, false], [false, false, false, false, true, false, false]] | 5 => [[true, false, false, false, false, false, false], [true, false, false, false, true, false, false]] | 6 => [[true, true, false, false, false, false, false], [true, true, false, true, false, false, false], [true, true, false, false, true, false, false], [true, true, false, true, true, false, false]] | 7 => [[true, true, false, false, false, false, false], [true, true, true, false, false, false, false], [true, true, false, false, true, false, false], [true, true, true, false, true, false, false], [true, true, true, false, true, true, false]] | 8 => [[false, false, false, false, false, false, false], [true, false, false, false, false, false, false], [true, true, false, false, false, false, false], [true, true, true, false, false, false, false], [true, true, false, true, false, false, false], [true, true, true, true, false, false, false]] | 9 => [[true, true, true, false, true, false, false], [true, true, true, true, true, false, false]] | 10 => [[true, true, true, true, true, true, false]] | _ => []) (SpecD.tab (AX b) [([false, false, false, false, false, false, false], fun x_ => []), ([true, false, false, false, false, false, false], fun x_ => [(15, .tuple ⟨[.agg ⟨(boxL b A n cp A2 n2 c2 x_.A n x_.c x_.m)⟩, .int .i64 0]⟩)]), ([false, false, false, false, true, false, false], fun x_ => [(8, .pointer (some ⟨x_.t, 0, none⟩))]), ([true, true, false, false, false, false, false], fun x_ => [(10, .tuple ⟨[.agg ⟨(boxL b A n cp A2 n2 c2 x_.A n x_.c x_.m)⟩, .int .i64 0]⟩), (15, .tuple ⟨[.agg ⟨(boxL b A n cp A2 n2 c2 x_.A n x_.c x_.m)⟩, .int .i64 0]⟩)]), ([true, false, false, false, true, false, false], fun x_ => [(8, .pointer (some ⟨x_.t, 0, none⟩)), (15, .tuple ⟨[.agg ⟨(boxL b A n cp A2 n2 c2 x_.A n x_.c x_.m)⟩, .int .i64 0]⟩)]), ([true, true, true, false, false, false, false], fun x_ => [(16, .agg ⟨(boxL b A n cp A2 n2 c2 x_.A n x_.c x_.m)⟩), (10, .tuple ⟨[.agg ⟨(boxL b A n cp A2 n2 c2 x_.A n x_.c x_.m)⟩, .int .i64 0]⟩), (15, .tuple ⟨[.agg ⟨(boxL b A n cp A2 n2 c2 x_.A n x_.c x_.m)⟩, .int .i64 0]⟩)]), ([true, true, false, true, false, false, false], fun x_ => [(17, .int .i64 0), (10, .tuple ⟨[.agg ⟨(boxL b A n cp A2 n2 c2 x_.A n x_.c x_.m)⟩, .int .i64 0]⟩), (15, .tuple ⟨[.agg ⟨(boxL b A n cp A2 n2 c2 x_.A n x_.c x_.m)⟩, .int .i64 0]⟩)]), ([true, true, false, false, true, false, false], fun x_ => [(8, .pointer (some ⟨x_.t, 0, none⟩)), (10, .tuple ⟨[.agg ⟨(boxL b A n cp A2 n2 c2 x_.A n x_.c x_.m)⟩, .int .i64 0]⟩), (15, .tuple ⟨[.agg ⟨(boxL b A n cp A2 n2 c2 x_.A n x_.c x_.m)⟩, .int .i64 0]⟩)]), ([true, true, true, true, false, false, false], fun x_ => [(17, .int .i64 0), (16, .agg ⟨(boxL b A n cp A2 n2 c2 x_.A n x_.c x_.m)⟩), (10, .tuple ⟨[.agg ⟨(boxL b A n cp A2 n2 c2 x_.A n x_.c x_.m)⟩, .int .i64 0]⟩), (15, .tuple ⟨[.agg ⟨(boxL b A n cp A2 n2 c2 x_.A n x_.c x_.m)⟩, .int .i64 0]⟩)]), ([true, true, true, false, true, false, false], fun x_ => [(8, .pointer (some ⟨x_.t, 0, none⟩)), (16, .agg ⟨(boxL b A n cp A2 n2 c2 x_.A n x_.c x_.m)⟩), (10, .tuple ⟨[.agg ⟨(boxL b A n cp A2 n2 c2 x_.A n x_.c x_.m)⟩, .int .i64 0]⟩), (15, .tuple ⟨[.agg ⟨(boxL b A n cp A2 n2 c2 x_.A n x_.c x_.m)⟩, .int .i64 0]⟩)]), ([true, true, false, true, true, false, false], fun x_ => [(8, .pointer (some ⟨x_.t, 0, none⟩)), (17, .int .i64 0), (10, .tuple ⟨[.agg ⟨(boxL b A n cp A2 n2 c2 x_.A n x_.c x_.m)⟩, .int .i64 0]⟩), (15, .tuple ⟨[.agg ⟨(boxL b A n cp A2 n2 c2 x_.A n x_.c x_.m)⟩, .int .i64 0]⟩)]), ([true, true, true, true, true, false, false], fun x_ => [(8, .pointer (some ⟨x_.t, 0, none⟩)), (17, .int .i64 0), (16, .agg ⟨(boxL b A n cp A2 n2 c2 x_.A n x_.c x_.m)⟩), (10, .tuple ⟨[.agg ⟨(boxL b A n cp A2 n2 c2 x_.A n x_.c x_.m)⟩, .int .i64 0]⟩), (15, .tuple ⟨[.agg ⟨(boxL b A n cp A2 n2 c2 x_.A n x_.c x_.m)⟩, .int .i64 0]⟩)]), ([true, true, true, false, true, true, false], fun x_ => [(8, .pointer (some ⟨x_.t, 0, none⟩)), (16, .agg ⟨(boxL b A n cp A2 n2 c2 x_.A n x_.c x_.m)⟩), (10, .tuple ⟨[.agg ⟨(boxL b A n cp A2 n2 c2 x_.A n x_.c x_.m)⟩, .int .i64 0]⟩), (15, .tuple ⟨[.agg ⟨(boxL b A n cp A2 n2 c2 x_.A n x_.c x_.m)⟩, .int .i64 0]⟩)]), ([true, true, true, true, true, true, false], fun x_ => [(8, .pointer (some ⟨x_.t, 0, none⟩)), (17, .int .i64 0), (16, .agg ⟨(boxL b A n cp A2 n2 c2 x_.A n x_.c x_.m)⟩), (10, .tuple ⟨[.agg ⟨(boxL b A n cp A2 n2 c2 x_.A n x_.c x_.m)⟩, .int .i64 0]⟩), (15, .tuple ⟨[.agg ⟨(boxL b A n cp A2 n2 c2 x_.A n x_.c x_.m)⟩, .int .i64 0]⟩)]), ([true, true, true, true, true, true, true], fun x_ => [(9, .int .i64 0), (8, .pointer (some ⟨x_.t, 0, none⟩)), (17, .int .i64 0), (16, .agg ⟨(boxL b A n cp A2 n2 c2 x_.A n x_.c x_.m)⟩), (10, .tuple ⟨[.agg ⟨(boxL b A n cp A2 n2 c2 x_.A n x_.c x_.m)⟩, .int .i64 0]⟩), (15, .tuple ⟨[.agg ⟨(boxL b A n cp A2 n2 c2 x_.A n x_.c x_.m)⟩, .int .i64 0]⟩)])] [([false, false, false, false, false, false, false], fun x_ => []), ([true, false, false, false, false, false, false], fun x_ => [(x_.m, some (.map x_.es x_.clk)), (x_.b7, x_.o)]), ([false, false, false, false, true, false, false], fun x_ => [(x_.t, some (.cells ⟨[.slice none 0 0, .slice none 0 0, .int .i64 0, .int .i64 0, .int .i64 0, .int .i64 0, .int .i64 0, .slice none 0 0, .map none]⟩ 66 (0, 0)))]), ([true, true, false, false, false, false, false], fun x_ => [(x_.m, some (.map x_.es x_.clk)), (x_.b7, x_.o)]), ([true, false, false, false, true, false, false], fun x_ => [(x_.t, some (.cells ⟨[.slice none 0 0, .slice none 0 0, .int .i64 0, .int .i64 0, .int .i64 0, .int .i64 0, .int .i64 0, .slice none 0 0, .map none]⟩ 66 (0, 0))), (x_.m, some (.map x_.es x_.clk)), (x_.b7, x_.o)]), ([true, true, true, false, false, false, false], fun x_ => [(x_.m, some (.map x_.es x_.clk)), (x_.b7, x_.o)]), ([true, true, false, true, false, false, false], fun x_ => [(x_.m, some (.map x_.es x_.clk)), (x_.b7, x_.o)]), ([true, true, false, false, true, false, false], fun x_ => [(x_.t, some (.cells ⟨[.slice none 0 0, .slice none 0 0, .int .i64 0, .int .i64 0, .int .i64 0, .int .i64 0, .int .i64 0, .slice none 0 0, .map none]⟩ 66 (0, 0))), (x_.m, some (.map x_.es x_.clk)), (x_.b7, x_.o)]), ([true, true, true, true, false, false, false], fun x_ => [(x_.m, some (.map x_.es x_.clk)), (x_.b7, x_.o)]), ([true, true, true, false, true, false, false], fun x_ => [(x_.t, some (.cells ⟨[.slice none 0 0, .slice none 0 0, .int .i64 0, .int .i64 0, .int .i64 0, .int .i64 0, .int .i64 0, .slice none 0 0, .map none]⟩ 66 (0, 0))), (x_.m, some (.map x_.es x_.clk)), (x_.b7, x_.o)]), ([true, true, false, true, true, false, false], fun x_ => [(x_.t, some (.cells ⟨[.slice none 0 0, .slice none 0 0, .int .i64 0, .int .i64 0, .int .i64 0, .int .i64 0, .int .i64 0, .slice none 0 0, .map none]⟩ 66 (0, 0))), (x_.m, some (.map x_.es x_.clk)), (x_.b7, x_.o)]), ([true, true, true, true, true, false, false], fun x_ => [(x_.t, some (.cells ⟨[.slice none 0 0, .slice none 0 0, .int .i64 0, .int .i64 0, .int .i64 0, .int .i64 0, .int .i64 0, .slice none 0 0, .map none]⟩ 66 (0, 0))), (x_.m, some (.map x_.es x_.clk)), (x_.b7, x_.o)]), ([true, true, true, false, true, true, false], fun x_ => [(x_.t, some (.cells ⟨(boxL b A n cp A2 n2 c2 x_.A n x_.c x_.m)⟩ 66 (0, 0))), (x_.m, some (.map x_.es x_.clk)), (x_.b7, x_.o)]), ([true, true, true, true, true, true, false], fun x_ => [(x_.t, some (.cells ⟨(boxL b A n cp A2 n2 c2 x_.A n x_.c x_.m)⟩ 66 (0, 0))), (x_.m, some (.map x_.es x_.clk)), (x_.b7, x_.o)]), ([true, true, true, true, true, true, true], fun x_ => [(x_.t, some (.cells ⟨(boxL b A n cp A2 n2 c2 x_.A n x_.c x_.m)⟩ 66 (0, 0))), (x_.m, some (.map x_.es x_.clk)), (x_.b7, x_.o)])]) (AX.zero b) hs4 [⟨11, [], Is (.agg ⟨(bxL b A n cp A2 n2 c2)⟩)⟩, ⟨12, [], Is (.agg ⟨(bxL b A n cp A2 n2 c2)⟩)⟩, ⟨13, [], Is (.int .i64 (q : Int))⟩, ⟨14, [1, 2], Is (.bool (isRoll b (q : Int)))⟩, ⟨15, [0, 3], Is undef⟩, ⟨10, [], Is undef⟩, ⟨16, [], Is undef⟩, ⟨17, [], Is undef⟩, ⟨8, [], Is undef⟩, ⟨35, [], Is undef⟩, ⟨9, [], Is undef⟩] (by kernel_rfl) (by kernel_rfl) (ownD_tab (fun x_ => by kernel_rfl)) (by kernel_rfl) (by kernel_rfl) fun K3 hK3 => ⟨⟨?_, ?_, ?_, ?_, ?_, ?_, ?_, ?_, ?_, ?_, ?_, trivial⟩, ?_⟩
 · rintro T_ B_ a_ w_ K_ hT hB hf hsD hk
   exact ob rfl rfl (st_loadA (o := 0) (off := 0) (vs := (bxL b A n cp A2 n2 c2)) hsD (evT hT 2 rfl) rfl hf isAgg25 sizeOf25 (hsD.cellsM (inB hB 0 rfl)) rfl fun _ _ => hk _ _ _ _ ⟨rfl, rfl⟩)
 · rintro T_ B_ a_ w_ K_ hT hB hf hsD hk
   exact ob rfl rfl (st_loadA (o := 0) (off := 0) (vs := (bxL b A n cp A2 n2 c2)) hsD (evT hT 2 rfl) rfl hf isAgg25 sizeOf25 (hsD.cellsM (inB hB 0 rfl)) rfl fun _ _ => hk _ _ _ _ ⟨rfl, rfl⟩)
 · rintro T_ B_ a_ w_ K_ hT hB hf hsD hk
   exact ob rfl rfl (st_move hsD (evT hT 3 rfl) rfl hf fun _ _ => hk _ _ _ _ ⟨rfl, rfl⟩)
 · rintro T_ B_ a_ w_ K_ hT hB _ _ ⟨rfl, rfl⟩ h12 - _ _ ⟨rfl, rfl⟩ h13 - hf hsD hk
   exact ob rfl rfl (st_callv (vs := [.agg ⟨(bxL b A n cp A2 n2 c2)⟩, .int .i64 (q : Int)]) hsD (.func _) ⟨(Ev.tmp h12), (Ev.tmp h13), trivial⟩ rfl hf call52 rfl (isRoll_v b A n cp A2 n2 c2 (q : Int) _ hn hP.len) fun _ _ => hk _ _ _ _ ⟨rfl, rfl⟩)
 · refine ⟨?_, ?_, trivial⟩
   · rintro T_ B_ a_ w_ K_ x_ hT hB _ _ ⟨rfl, rfl⟩ h11 - _ _ ⟨rfl, rfl⟩ h14 - hf hsD hk
     exact ob rfl rfl (st_call (vs := [.agg ⟨(bxL b A n cp A2 n2 c2)⟩, .bool (isRoll b (q : Int))]) hsD (.func _) ⟨(Ev.tmp (List.mem_append_right _ h11)), (Ev.tmp (List.mem_append_right _ h14)), trivial⟩ rfl hf call45 rfl (asked_4 b A n cp A2 n2 c2 _ (hP.kp hsD.kp) hn (hF.kp hsD.kp) hn2 (isRoll b (q : Int)) hok hrt hm0) (fun v_ bs_ a_1 w_1 hp9 h1 => by obtain ⟨A7, c7, b7, o7, m7, es7, clk7, rfl, hO7, hE7, rfl⟩ := hp9; exact hk (AX.mk A7 c7 b7 o7 m7 es7 clk7 x_.t hO7 hE7) _ _ h1))
   · rintro T_ B_ a_ w_ K_ x_ hT hB _ _ ⟨rfl, rfl⟩ h11 - _ _ ⟨rfl, rfl⟩ h14 - hf hsD hk
     exact ob rfl rfl (st_call (vs := [.agg ⟨(bxL b A n cp A2 n2 c2)⟩, .bool (isRoll b (q : Int))]) hsD (.func _) ⟨(Ev.tmp (List.mem_append_right _ h11)), (Ev.tmp (List.mem_append_right _ h14)), trivial⟩ rfl (show fresh 15 ([(8, .pointer (some ⟨x_.t, 0, none⟩))] ++ T_) = true from by simp only [List.nil_append, List.cons_append, fresh, hf]; rfl) call45 rfl (asked_4 b A n cp A2 n2 c2 _ (hP.kp hsD.kp) hn (hF.kp hsD.kp) hn2 (isRoll b (q : Int)) hok hrt hm0) (fun v_ bs_ a_1 w_1 hp9 h1 => by obtain ⟨A7, c7, b7, o7, m7, es7, clk7, rfl, hO7, hE7, rfl⟩ := hp9; exact hk (AX.mk A7 c7 b7 o7 m7 es7 clk7 x_.t hO7 hE7) _ _ (Sx.front (Sx.front (Sx.front (Sx.reT (T1 := [(15, _), (8, _)]) (T2 := [(8, _), (15, _)]) [1, 0] rfl h1) 1 rfl) 1 rfl) 2 rfl)))
 · refine ⟨?_, ?_, trivial⟩
   · rintro T_ B_ a_ w_ K_ x_ hT hB hf hsD hk
     exact ob rfl rfl (st_move hsD (Ev.t 0 rfl) rfl (show fresh 10 ([(15, .tuple ⟨[.agg ⟨(boxL b A n cp A2 n2 c2 x_.A n x_.c x_.m)⟩, .int .i64 0]⟩)] ++ T_) = true from by simp only [List.nil_append, List.cons_append, fresh, hf]; rfl) fun a_1 w_1 h1 => hk x_ _ _ h1)
   · rintro T_ B_ a_ w_ K_ x_ hT hB hf hsD hk
     exact ob rfl rfl (st_move hsD (Ev.t 1 rfl) rfl (show fresh 10 ([(8, .pointer (some ⟨x_.t, 0, none⟩)), (15, .tuple ⟨[.agg ⟨(boxL b A n cp A2 n2 c2 x_.A n x_.c x_.m)⟩, .int .i64 0]⟩)] ++ T_) = true from by simp only [List.nil_append, List.cons_append, fresh, hf]; rfl) fun a_1 w_1 h1 => hk x_ _ _ (Sx.reT (T1 := [(10, _), (8, _), (15, _)]) (T2 := [(8, _), (10, _), (15, _)]) [1, 0, 2] rfl h1))
 · refine ⟨?_, ?_, ?_, ?_, trivial⟩
   · rintro T_ B_ a_ w_ K_ x_ hT hB hf hsD hk
     exact ob rfl rfl (st_extract hsD (Ev.t 0 rfl) rfl (show fresh 16 ([(10, .tuple ⟨[.agg ⟨(boxL b A n cp A2 n2 c2 x_.A n x_.c x_.m)⟩, .int .i64 0]⟩), (15, .tuple ⟨[.agg ⟨(boxL b A n cp A2 n2 c2 x_.A n x_.c x_.m)⟩, .int .i64 0]⟩)] ++ T_) = true from by simp only [List.nil_append, List.cons_append, fresh, hf]; rfl) rfl fun a_1 w_1 h1 => hk x_ _ _ h1)
   · rintro T_ B_ a_ w_ K_ x_ hT hB hf hsD hk
     exact ob rfl rfl (st_extract hsD (Ev.t 1 rfl) rfl (show fresh 16 ([(17, .int .i64 0), (10, .tuple ⟨[.agg ⟨(boxL b A n cp A2 n2 c2 x_.A n x_.c x_.m)⟩, .int .i64 0]⟩), (15, .tuple ⟨[.agg ⟨(boxL b A n cp A2 n2 c2 x_.A n x_.c x_.m)⟩, .int .i64 0]⟩)] ++ T_) = true from by simp only [List.nil_append, List.cons_append, fresh, hf]; rfl) rfl fun a_1 w_1 h1 => hk x_ _ _ (Sx.reT (T1 := [(16, _), (17, _), (10, _), (15, _)]) (T2 := [(17, _), (16, _), (10, _), (15, _)]) [1, 0, 2, 3] rfl h1))
   · rintro T_ B_ a_ w_ K_ x_ hT hB hf hsD hk
     exact ob rfl rfl (st_extract hsD (Ev.t 1 rfl) rfl (show fresh 16 ([(8, .pointer (some ⟨x_.t, 0, none⟩)), (10, .tuple ⟨[.agg ⟨(boxL b A n cp A2 n2 c2 x_.A n x_.c x_.m)⟩, .int .i64 0]⟩), (15, .tuple ⟨[.agg ⟨(boxL b A n cp A2 n2 c2 x_.A n x_.c x_.m)⟩, .int .i64 0]⟩)] ++ T_) = true from by simp only [List.nil_append, List.cons_append, fresh, hf]; rfl) rfl fun a_1 w_1 h1 => hk x_ _ _ (Sx.reT (T1 := [(16, _), (8, _), (10, _), (15, _)]) (T2 := [(8, _), (16, _), (10, _), (15, _)]) [1, 0, 2, 3] rfl h1))
   · rintro T_ B_ a_ w_ K_ x_ hT hB hf hsD hk
     exact ob rfl rfl (st_extract hsD (Ev.t 2 rfl) rfl (show fresh 16 ([(8, .pointer (some ⟨x_.t, 0, none⟩)), (17, .int .i64 0), (10, .tuple ⟨[.agg ⟨(boxL b A n cp A2 n2 c2 x_.A n x_.c x_.m)⟩, .int .i64 0]⟩), (15, .tuple ⟨[.agg ⟨(boxL b A n cp A2 n2 c2 x_.A n x_.c x_.m)⟩, .int .i64 0]⟩)] ++ T_) = true from by simp only [List.nil_append, List.cons_append, fresh, hf]; rfl) rfl fun a_1 w_1 h1 => hk x_ _ _ (Sx.reT (T1 := [(16, _), (8, _), (17, _), (10, _), (15, _)]) (T2 := [(8, _), (17, _), (16, _), (10, _), (15, _)]) [1, 2, 0, 3, 4] rfl h1))
 · refine ⟨?_, ?_, ?_, ?_, ?_, trivial⟩
   · rintro T_ B_ a_ w_ K_ x_ hT hB hf hsD hk
     exact ob rfl rfl (st_extract hsD (Ev.t 0 rfl) rfl (show fresh 17 ([(10, .tuple ⟨[.agg ⟨(boxL b A n cp A2 n2 c2 x_.A n x_.c x_.m)⟩, .int .i64 0]⟩), (15, .tuple ⟨[.agg ⟨(boxL b A n cp A2 n2 c2 x_.A n x_.c x_.m)⟩, .int .i64 0]⟩)] ++ T_) = true from by simp only [List.nil_append, List.cons_append, fresh, hf]; rfl) rfl fun a_1 w_1 h1 => hk x_ _ _ h1)
   · rintro T_ B_ a_ w_ K_ x_ hT hB hf hsD hk
     exact ob rfl rfl (st_extract hsD (Ev.t 1 rfl) rfl (show fresh 17 ([(16, .agg ⟨(boxL b A n cp A2 n2 c2 x_.A n x_.c x_.m)⟩), (10, .tuple ⟨[.agg ⟨(boxL b A n cp A2 n2 c2 x_.A n x_.c x_.m)⟩, .int .i64 0]⟩), (15, .tuple ⟨[.agg ⟨(boxL b A n cp A2 n2 c2 x_.A n x_.c x_.m)⟩, .int .i64 0]⟩)] ++ T_) = true from by simp only [List.nil_append, List.cons_append, fresh, hf]; rfl) rfl fun a_1 w_1 h1 => hk x_ _ _ h1)
   · rintro T_ B_ a_ w_ K_ x_ hT hB hf hsD hk
     exact ob rfl rfl (st_extract hsD (Ev.t 1 rfl) rfl (show fresh 17 ([(8, .pointer (some ⟨x_.t, 0, none⟩)), (10, .tuple ⟨[.agg ⟨(boxL b A n cp A2 n2 c2 x_.A n x_.c x_.m)⟩, .int .i64 0]⟩), (15, .tuple ⟨[.agg ⟨(boxL b A n cp A2 n2 c2 x_.A n x_.c x_.m)⟩, .int .i64 0]⟩)] ++ T_) = true from by simp only [List.nil_append, List.cons_append, fresh, hf]; rfl) rfl fun a_1 w_1 h1 => hk x_ _ _ (Sx.reT (T1 := [(17, _), (8, _), (10, _), (15, _)]) (T2 := [(8, _), (17, _), (10, _), (15, _)]) [1, 0, 2, 3] rfl h1))
   · rintro T_ B_ a_ w_ K_ x_ hT hB hf hsD hk
     exact ob rfl rfl (st_extract hsD (Ev.t 2 rfl) rfl (show fresh 17 ([(8, .pointer (some ⟨x_.t, 0, none⟩)), (16, .agg ⟨(boxL b A n cp A2 n2 c2 x_.A n x_.c x_.m)⟩), (10, .tuple ⟨[.agg ⟨(boxL b A n cp A2 n2 c2 x_.A n x_.c x_.m)⟩, .int .i64 0]⟩), (15, .tuple ⟨[.agg ⟨(boxL b A n cp A2 n2 c2 x_.A n x_.c x_.m)⟩, .int .i64 0]⟩)] ++ T_) = true from by simp only [List.nil_append, List.cons_append, fresh, hf]; rfl) rfl fun a_1 w_1 h1 => hk x_ _ _ (Sx.reT (T1 := [(17, _), (8, _), (16, _), (10, _), (15, _)]) (T2 := [(8, _), (17, _), (16, _), (10, _), (15, _)]) [1, 0, 2, 3, 4] rfl h1))
   · rintro T_ B_ a_ w_ K_ x_ hT hB hf hsD hk
     exact ob rfl rfl (st_extract hsD (Ev.t 2 rfl) rfl (show fresh 17 ([(8, .pointer (some ⟨x_.t, 0, none⟩)), (16, .agg ⟨(boxL b A n cp A2 n2 c2 x_.A n x_.c x_.m)⟩), (10, .tuple ⟨[.agg ⟨(boxL b A n cp A2 n2 c2 x_.A n x_.c x_.m)⟩, .int .i64 0]⟩), (15, .tuple ⟨[.agg ⟨(boxL b A n cp A2 n2 c2 x_.A n x_.c x_.m)⟩, .int .i64 0]⟩)] ++ T_) = true from by simp only [List.nil_append, List.cons_append, fresh, hf]; rfl) rfl fun a_1 w_1 h1 => hk x_ _ _ (Sx.reT (T1 := [(17, _), (8, _), (16, _), (10, _), (15, _)]) (T2 := [(8, _), (17, _), (16, _), (10, _), (15, _)]) [1, 0, 2, 3, 4] rfl h1))
 · refine ⟨?_, ?_, ?_, ?_, ?_, ?_, trivial⟩
   · rintro T_ B_ a_ w_ K_ x_ hT hB hf hsD hk
     exact ob rfl rfl (st_alloc hsD rfl hf zeroValue66 rfl fun b_1 a_1 w_1 h1 => hk (x_.at b_1) _ _ h1)
   · rintro T_ B_ a_ w_ K_ x_ hT hB hf hsD hk
     exact ob rfl rfl (st_alloc hsD rfl (show fresh 8 ([(15, .tuple ⟨[.agg ⟨(boxL b A n cp A2 n2 c2 x_.A n x_.c x_.m)⟩, .int .i64 0]⟩)] ++ T_) = true from by simp only [List.nil_append, List.cons_append, fresh, hf]; rfl) zeroValue66 rfl fun b_1 a_1 w_1 h1 => hk (x_.at b_1) _ _ h1)
   · rintro T_ B_ a_ w_ K_ x_ hT hB hf hsD hk
     exact ob rfl rfl (st_alloc hsD rfl (show fresh 8 ([(10, .tuple ⟨[.agg ⟨(boxL b A n cp A2 n2 c2 x_.A n x_.c x_.m)⟩, .int .i64 0]⟩), (15, .tuple ⟨[.agg ⟨(boxL b A n cp A2 n2 c2 x_.A n x_.c x_.m)⟩, .int .i64 0]⟩)] ++ T_) = true from by simp only [List.nil_append, List.cons_append, fresh, hf]; rfl) zeroValue66 rfl fun b_1 a_1 w_1 h1 => hk (x_.at b_1) _ _ h1)
   · rintro T_ B_ a_ w_ K_ x_ hT hB hf hsD hk
     exact ob rfl rfl (st_alloc hsD rfl (show fresh 8 ([(16, .agg ⟨(boxL b A n cp A2 n2 c2 x_.A n x_.c x_.m)⟩), (10, .tuple ⟨[.agg ⟨(boxL b A n cp A2 n2 c2 x_.A n x_.c x_.m)⟩, .int .i64 0]⟩), (15, .tuple ⟨[.agg ⟨(boxL b A n cp A2 n2 c2 x_.A n x_.c x_.m)⟩, .int .i64 0]⟩)] ++ T_) = true from by simp only [List.nil_append, List.cons_append, fresh, hf]; rfl) zeroValue66 rfl fun b_1 a_1 w_1 h1 => hk (x_.at b_1) _ _ h1)
   · rintro T_ B_ a_ w_ K_ x_ hT hB hf hsD hk
     exact ob rfl rfl (st_alloc hsD rfl (show fresh 8 ([(17, .int .i64 0), (10, .tuple ⟨[.agg ⟨(boxL b A n cp A2 n2 c2 x_.A n x_.c x_.m)⟩, .int .i64 0]⟩), (15, .tuple ⟨[.agg ⟨(boxL b A n cp A2 n2 c2 x_.A n x_.c x_.m)⟩, .int .i64 0]⟩)] ++ T_) = true from by simp only [List.nil_append, List.cons_append, fresh, hf]; rfl) zeroValue66 rfl fun b_1 a_1 w_1 h1 => hk (x_.at b_1) _ _ h1)
   · rintro T_ B_ a_ w_ K_ x_ hT hB hf hsD hk
     exact ob rfl rfl (st_alloc hsD rfl (show fresh 8 ([(17, .int .i64 0), (16, .agg ⟨(boxL b A n cp A2 n2 c2 x_.A n x_.c x_.m)⟩), (10, .tuple ⟨[.agg ⟨(boxL b A n cp A2 n2 c2 x_.A n x_.c x_.m)⟩, .int .i64 0]⟩), (15, .tuple ⟨[.agg ⟨(boxL b A n cp A2 n2 c2 x_.A n x_.c x_.m)⟩, .int .i64 0]⟩)] ++ T_) = true from by simp only [List.nil_append, List.cons_append, fresh, hf]; rfl) zeroValue66 rfl fun b_1 a_1 w_1 h1 => hk (x_.at b_1) _ _ h1)
 · refine ⟨?_, ?_, trivial⟩
   · rintro T_ B_ a_ w_ K_ x_ hT hB hf hsD hk
     exact ob rfl rfl (st_store (l' := (boxL b A n cp A2 n2 c2 x_.A n x_.c x_.m)) (vs := (boxL b A n cp A2 n2 c2 x_.A n x_.c x_.m)) (i := 0) hsD (Ev.t 0 rfl) (Ev.t 1 rfl) sizeOf66 rfl rfl rfl rfl rfl rfl fun a_1 w_1 h1 => hk x_ _ _ h1)
   · rintro T_ B_ a_ w_ K_ x_ hT hB hf hsD hk
     exact ob rfl rfl (st_store (l' := (boxL b A n cp A2 n2 c2 x_.A n x_.c x_.m)) (vs := (boxL b A n cp A2 n2 c2 x_.A n x_.c x_.m)) (i := 0) hsD (Ev.t 0 rfl) (Ev.t 2 rfl) sizeOf66 rfl rfl rfl rfl rfl rfl fun a_1 w_1 h1 => hk x_ _ _ h1)
 · refine ⟨?_, trivial⟩
   · rintro T_ B_ a_ w_ K_ x_ hT hB hf hsD hk
     exact ob rfl rfl (st_assign hsD (Ev.t 1 rfl) rfl (show fresh 9 ([(8, .pointer (some ⟨x_.t, 0, none⟩)), (17, .int .i64 0), (16, .agg ⟨(boxL b A n cp A2 n2 c2 x_.A n x_.c x_.m)⟩), (10, .tuple ⟨[.agg ⟨(boxL b A n cp A2 n2 c2 x_.A n x_.c x_.m)⟩, .int .i64 0]⟩), (15, .tuple ⟨[.agg ⟨(boxL b A n cp A2 n2 c2 x_.A n x_.c x_.m)⟩, .int .i64 0]⟩)] ++ T_) = true from by simp only [List.nil_append, List.cons_append, fresh, hf]; rfl) fun a_1 w_1 h1 => hk x_ _ _ h1)
 rintro _ _ ⟨rfl, rfl⟩
 rintro _ _ ⟨rfl, rfl⟩
 rintro _ _ ⟨rfl, rfl⟩
 rintro _ _ ⟨rfl, rfl⟩
 intro x_ a_5 w_5 hs5; clear hs4
 have hs6 := Sx.as (T' := [_, _, _, _, _, _, _, _, _, _, _, _, _, _, _]) (B' := [_, _, _, _]) rfl rfl hs5; clear hs5
 refine hK3 _ _ ?_; clear hK3
 have hs7 := hs6.keep [0, 1, 10, 11, 13, 14] [_, _, _, _, _, _] rfl; clear hs6
 refine cd_seq fun K4 hK4 => ?_
 refine cd_region fun K5 hK5 => ?_
 refine sq rfl (st_move hs7 (Ev.t 0 rfl) rfl rfl fun _ _ hs8 => ?_); clear hs7
 refine sq rfl (st_cmp (c := false) hs8 (Ev.t 0 rfl) (.const _) rfl rfl rfl rfl fun _ _ hs9 => ?_); clear hs8
 refine hK5 _ _ ?_; clear hK5
 have hs10 := hs9.keep [0, 2, 3, 4, 5, 6, 7] [_, _, _, _, _, _, _] rfl; clear hs9
 have hc6 : false = false := rfl
 refine cd_cond hs10 (Ev.t 0 rfl) (fun h => absurd (hc6.symm.trans h) (by decide)) (fun _ => ?_)
 refine cd_skip ?_
 refine th_norm (hK4 _ _ ?_)
 refine cd_region fun K7 hK7 => ?_
 refine sq rfl (st_loadA (o := 0) (off := 0) (vs := (boxL b A n cp A2 n2 c2 x_.A n x_.c x_.m)) hs10 (Ev.t 2 rfl) rfl rfl isAgg66 sizeOf66 (hs10.cells 0 rfl) rfl fun _ _ hs11 => ?_); clear hs10
 refine sq rfl (st_move hs11 (Ev.t 6 rfl) rfl rfl fun _ _ hs12 => ?_); clear hs11
 refine sq rfl (st_move hs12 (Ev.t 8 rfl) rfl rfl fun _ _ hs13 => ?_); clear hs12
 refine sq rfl (st_callv (vs := [.agg ⟨(boxL b A n cp A2 n2 c2 x_.A n x_.c x_.m)⟩, .int .i64 (q : Int), .int .i64 x]) hs13 (.func _) ⟨(Ev.t 2 rfl), (Ev.t 1 rfl), (Ev.t 0 rfl), trivial⟩ rfl rfl call50 rfl (with_v b A n cp A2 n2 c2 x_.A n x_.c x_.m b.sold q s hsq x _ (hP.kp hs13.kp) hn (by have h := x_.hO.at hs13 2 rfl; rw [soldlen hO, ← hP.len] at h; exact h) hO.wf (by have h := own_cap x_.hO; rw [soldlen hO, ← hP.len] at h; exact h)) fun _ _ hs14 => ?_); clear hs13
 refine sq rfl (st_cmp (c := decide (((withN b b.sold q x : Int) : Int) > 0)) hs14 (Ev.t 0 rfl) (.const _) rfl rfl rfl rfl fun _ _ hs15 => ?_); clear hs14
 have hs16 := hs15.keep [0, 1, 2, 3, 4, 5, 6, 7, 8, 10, 11] [_, _, _, _, _, _, _, _, _, _, _] rfl; clear hs15
 refine sq rfl (st_assign hs16 (Ev.t 0 rfl) rfl rfl fun _ _ hs17 => ?_); clear hs16
 have hs18 := hs17.keep [0, 1, 2, 3, 4, 5, 6, 7, 8, 10, 11] [_, _, _, _, _, _, _, _, _, _, _] rfl; clear hs17
 refine sq rfl (st_assign hs18 (.const _) rfl rfl fun _ _ hs19 => ?_); clear hs18
 refine hK7 _ _ ?_; clear hK7
 have hs20 := hs19.keep [0, 1] [_, _] rfl; clear hs19
 refine cd_retv (vs := [.bool (decide (((withN b b.sold q x : Int) : Int) > 0)), .int .i64 0]) hs20 hQ0 rfl ⟨.tmp 1 rfl, .tmp 0 rfl, trivial⟩ ?_
 clear hs20 hQ0 hN0
 simp [pack, Bx.canR, hask]

theorem Can_v (b : Bx) (A : Option Addr) (n cp : Nat) (A2 : Option Addr) (n2 c2 : Nat) (w : World) (hP : RollsAt w A n b.rolls) (hn : n ≤ 140737488351232) (hF : SpsAt w A2 n2 b.free) (hn2 : n2 ≤ 140737488351232) (k : Int) (x : Int) : CallsV Tryd.prog 21 [.agg ⟨bxL b A n cp A2 n2 c2⟩, .int .i64 k, .int .i64 x] w (.tuple ⟨[.bool ((b.canR k x).1), .int .i64 ((b.canR k x).2)]⟩) := by
  by_cases h : b.asked (isRoll b k) = 0
  · obtain ⟨hok, hrt, hm0⟩ := asked_zero.1 h
    have hr := Till.within_iff.1 hrt
    have hO := ok_iff.1 hok
    obtain ⟨q, rfl⟩ : ∃ q : Nat, k = (q : Int) := ⟨k.toNat, by omega⟩
    obtain ⟨s, hsq⟩ : ∃ s, b.sold[q]? = some s := ⟨_, List.getElem?_eq_getElem (by rw [soldlen hO]; omega)⟩
    exact Can_yes b A n cp A2 n2 c2 q s hsq hok hm0 x w hP hn hF hn2
  · exact Can_no b A n cp A2 n2 c2 k x h w hP hn hF hn2

theorem IsTruth_v (b : Bx) (A : Option Addr) (n cp : Nat) (A2 : Option Addr) (n2 c2 : Nat) (A4 : Option Addr) (n4 c4 : Nat) (xs : List Int) (w : World) (hP : RollsAt w A n b.rolls) (hn : n ≤ 140737488351232) (hF : SpsAt w A2 n2 b.free) (hn2 : n2 ≤ 140737488351232) (hX : IntsAt w A4 n4 xs) (_hn4 : n4 ≤ 140737488351232) :
    CallsV Tryd.prog 24 [.agg ⟨(bxL b A n cp A2 n2 c2)⟩, .slice A4 n4 c4] w (.tuple ⟨[.bool ((b.truthR xs).1), .int .i64 ((b.truthR xs).2)]⟩) := by
 refine enter (N := 61) (M := []) w func24 rfl rfl rfl (fun Q0 a_0 hQ0 hN0 hs0 => ?_)
 refine cd_region fun K1 hK1 => ?_
 refine sq rfl (st_box hs0 (Ev.t 0 rfl) rfl rfl rfl fun b2 _ _ hs1 => ?_); clear hs0
 refine sq rfl (st_assign hs1 (.const _) rfl rfl fun _ _ hs2 => ?_); clear hs1
 refine sq rfl (st_assign hs2 (.const _) rfl rfl fun _ _ hs3 => ?_); clear hs2
 refine hK1 _ _ ?_; clear hK1
 have hs4 := hs3.keep [0, 1, 2, 4] [_, _, _, _] rfl; clear hs3
 refine cd_seq fun K3 hK3 => ?_
 refine cd_region fun K4 hK4 => ?_
 refine sq rfl (st_loadA (o := 0) (off := 0) (vs := (bxL b A n cp A2 n2 c2)) hs4 (Ev.t 2 rfl) rfl rfl isAgg25 sizeOf25 (hs4.cells 0 rfl) rfl fun _ _ hs5 => ?_); clear hs4
 refine sq rfl (st_callv (vs := [.agg ⟨(bxL b A n cp A2 n2 c2)⟩]) hs5 (.func _) ⟨(Ev.t 0 rfl), trivial⟩ rfl rfl call29 rfl (check_v b A n cp A2 n2 c2 _ (hP.kp hs5.kp) hn (hF.kp hs5.kp) hn2) fun _ _ hs6 => ?_); clear hs5
 refine sq rfl (st_assign hs6 (Ev.t 0 rfl) rfl rfl fun _ _ hs7 => ?_); clear hs6
 refine hK4 _ _ ?_; clear hK4
 have hs8 := hs7.keep [0, 3, 4, 5, 6] [_, _, _, _, _] rfl; clear hs7
 refine cd_region fun K5 hK5 => ?_
 refine sq rfl (st_move hs8 (Ev.t 0 rfl) rfl rfl fun _ _ hs9 => ?_); clear hs8
 refine sq rfl (st_cmp (c := (if b.ok then 0 else 90 : Int) != 0) hs9 (Ev.t 0 rfl) (.const _) rfl rfl rfl rfl fun _ _ hs10 => ?_); clear hs9
 refine hK5 _ _ ?_; clear hK5
 have hs11 := hs10.keep [0, 2, 3, 4, 5, 6] [_, _, _, _, _, _] rfl; clear hs10
 refine cd_cond hs11 (Ev.t 0 rfl) (fun hc6 => ?_) (fun hc6 => ?_)
 · have hok : b.ok = false := by cases h : b.ok <;> simp [h] at hc6 ⊢
   refine cd_region fun K7 hK7 => ?_
   refine sq rfl (st_move hs11 (Ev.t 1 rfl) rfl rfl fun _ _ hs12 => ?_); clear hs11
   have hs13 := hs12.keep [0, 1, 2, 3, 5, 6] [_, _, _, _, _, _] rfl; clear hs12
   refine sq rfl (st_assign hs13 (.const _) rfl rfl fun _ _ hs14 => ?_); clear hs13
   have hs15 := hs14.keep [0, 1, 2, 3, 5, 6] [_, _, _, _, _, _] rfl; clear hs14
   refine sq rfl (st_assign hs15 (Ev.t 1 rfl) rfl rfl fun _ _ hs16 => ?_); clear hs15
   refine hK7 _ _ ?_; clear hK7
   have hs17 := hs16.keep [0, 1] [_, _] rfl; clear hs16
   refine cd_retv (vs := [.bool false, .int .i64 (if b.ok then 0 else 90)]) hs17 (fun a_ w_ h => th_ret (hQ0 a_ w_ h)) rfl ⟨.tmp 1 rfl, .tmp 0 rfl, trivial⟩ ?_
   clear hs17 hQ0 hN0 hK3
   first | (simp [pack, Bx.truthR, hok]; done) | (simp [pack, Bx.truthR, hok, Bx.truth, hcf]; done) | (have hi0 : ((i : Int) == 0) = false := (by rw [beq_eq_false_iff_ne]; omega); simp only [pack, Bx.truthR, hok, if_true, Bx.truth, hlen2, hcan2, htk, hi0]; simp) | (simp [pack, Bx.truthR, hok, Bx.truth, hlen]; done)
 · have hok : b.ok = true := by cases h : b.ok <;> simp [h] at hc6 ⊢
   have hO := ok_iff.1 hok
   have hl1 := hP.len; have hl4 := hX.len; have hn4b := hO.n; have hwf := hO.wf
   refine cd_skip ?_
   refine th_norm (hK3 _ _ ?_)
   refine cd_region fun K8 hK8 => ?_
   refine sq rfl (st_loadA (o := 0) (off := 0) (vs := (bxL b A n cp A2 n2 c2)) hs11 (Ev.t 4 rfl) rfl rfl isAgg25 sizeOf25 (hs11.cells 0 rfl) rfl fun _ _ hs12 => ?_); clear hs11
   refine sq rfl (st_call (vs := [.agg ⟨(bxL b A n cp A2 n2 c2)⟩]) hs12 (.func _) ⟨(Ev.t 0 rfl), trivial⟩ rfl rfl call51 rfl (opened_b b A n cp A2 n2 c2 _ (hP.kp hs12.kp) hn (hF.kp hs12.kp) hn2 hO) fun v10 bs11 a_13 w_13 hp13 hs13 => ?_); clear hs12
   obtain ⟨A9, c9, b9, o9, m9, rfl, hO9, rfl⟩ := hp13
   have hs14 := Sx.as (T' := [_, _, _, _, _, _, _, _]) (B' := [_, _, _]) rfl rfl hs13; clear hs13
   refine sq rfl (st_alloc hs14 rfl rfl zeroValue66 rfl fun b12 _ _ hs15 => ?_); clear hs14
   refine sq rfl (st_store (l' := (boxL b A n cp A2 n2 c2 A9 n c9 m9)) (vs := (boxL b A n cp A2 n2 c2 A9 n c9 m9)) (i := 0) hs15 (Ev.t 0 rfl) (Ev.t 1 rfl) sizeOf66 rfl rfl rfl rfl rfl rfl fun _ _ hs16 => ?_); clear hs15
   have hs17 := hs16.asB [_, _, _, _] rfl; clear hs16
   refine hK8 _ _ ?_; clear hK8
   have hs18 := hs17.keep [0, 5, 6, 7, 8] [_, _, _, _, _] rfl; clear hs17
   refine cd_seq fun K13 hK13 => ?_
   refine cd_region fun K14 hK14 => ?_
   refine sq rfl (st_move hs18 (Ev.t 4 rfl) rfl rfl fun _ _ hs19 => ?_); clear hs18
   refine sq rfl (st_len hs19 (Ev.t 0 rfl) rfl rfl runUnderlying33 fun _ _ hs20 => ?_); clear hs19
   refine sq rfl (st_field (o' := 0) hs20 (Ev.t 5 rfl) rfl rfl runUnderlying25 rfl sizeOf22 rfl rfl fun _ _ hs21 => ?_); clear hs20
   refine sq rfl (st_load1 (o := 0) (off := 0) (v := .slice A n cp) hs21 (Ev.t 0 rfl) rfl rfl isAgg22 (hs21.cells 3 rfl) rfl fun _ _ hs22 => ?_); clear hs21
   refine sq rfl (st_len hs22 (Ev.t 0 rfl) rfl rfl runUnderlying22 fun _ _ hs23 => ?_); clear hs22
   refine sq rfl (st_cmp (c := ((n4 : Int) : Int) != (n : Int)) hs23 (Ev.t 3 rfl) (Ev.t 0 rfl) rfl rfl rfl rfl fun _ _ hs24 => ?_); clear hs23
   refine hK14 _ _ ?_; clear hK14
   have hs25 := hs24.keep [0, 6, 7, 8, 9, 10] [_, _, _, _, _, _] rfl; clear hs24
   refine cd_cond hs25 (Ev.t 0 rfl) (fun hc15 => ?_) (fun hc15 => ?_)
   · have hlen : (xs.length == b.rolls.length) = false := by simp at hc15; rw [beq_eq_false_iff_ne]; omega
     refine cd_region fun K16 hK16 => ?_
     have hs26 := hs25.keep [0, 1, 2, 4, 5] [_, _, _, _, _] rfl; clear hs25
     refine sq rfl (st_assign hs26 (.const _) rfl rfl fun _ _ hs27 => ?_); clear hs26
     have hs28 := hs27.keep [0, 1, 2, 4, 5] [_, _, _, _, _] rfl; clear hs27
     refine sq rfl (st_assign hs28 (.const _) rfl rfl fun _ _ hs29 => ?_); clear hs28
     refine hK16 _ _ ?_; clear hK16
     have hs30 := hs29.keep [0, 1] [_, _] rfl; clear hs29
     refine cd_retv (vs := [.bool false, .int .i64 0]) hs30 (fun a_ w_ h => th_ret (hQ0 a_ w_ h)) rfl ⟨.tmp 1 rfl, .tmp 0 rfl, trivial⟩ ?_
     clear hs30 hQ0 hN0 hK13
     first | (simp [pack, Bx.truthR, hok]; done) | (simp [pack, Bx.truthR, hok, Bx.truth, hcf]; done) | (have hi0 : ((i : Int) == 0) = false := (by rw [beq_eq_false_iff_ne]; omega); simp only [pack, Bx.truthR, hok, if_true, Bx.truth, hlen2, hcan2, htk, hi0]; simp) | (simp [pack, Bx.truthR, hok, Bx.truth, hlen]; done)
   · have hlen : n4 = n := by simp at hc15; omega
     have hlen2 : (xs.length == b.rolls.length) = true := by rw [beq_iff_eq]; omega
     refine cd_skip ?_
     refine th_norm (hK13 _ _ ?_)
     refine cd_region fun K17 hK17 => ?_
     refine sq rfl (st_callv (vs := []) hs25 (.func _) trivial rfl rfl call47 rfl (first_v  _) fun _ _ hs26 => ?_); clear hs25
     refine sq rfl (st_alloc hs26 rfl rfl zeroValue71 rfl fun b18 _ _ hs27 => ?_); clear hs26
     refine sq rfl (st_store (l' := [.int .i64 0, .int .i64 0]) (vs := [.int .i64 0, .int .i64 0]) (i := 0) hs27 (Ev.t 0 rfl) (Ev.t 1 rfl) sizeOf71 rfl rfl rfl rfl rfl rfl fun _ _ hs28 => ?_); clear hs27
     have hs29 := hs28.asB [_, _, _, _, _] rfl; clear hs28
     refine hK17 _ _ ?_; clear hK17
     have hs30 := hs29.keep [0, 3, 4, 5, 6, 7] [_, _, _, _, _, _] rfl; clear hs29
     refine cd_seq fun K19 hK19 => ?_
     have hs31 := hs30.asB [(b18, some (.cells ⟨[.int .i64 0, .int .i64 (tak b.rolls (xs.take 0))]⟩ 71 (0, 0))), (b12, some (.cells ⟨(boxL b A n cp A2 n2 c2 A9 n c9 m9)⟩ 66 (0, 0))), (b9, o9), (m9, some (.map #[] 0)), (b2, some (.cells ⟨(bxL b A n cp A2 n2 c2)⟩ 25 (0, 0)))] (by (rw [show tak b.rolls (xs.take 0) = 0 from by cases b.rolls <;> rfl]) <;> rfl); clear hs30
     refine cd_region fun K20 hK20 => ?_
     refine sq rfl (st_move hs31 (Ev.t 5 rfl) rfl rfl fun _ _ hs32 => ?_); clear hs31
     refine sq rfl (st_len hs32 (Ev.t 0 rfl) rfl rfl runUnderlying33 fun _ _ hs33 => ?_); clear hs32
     refine sq rfl (st_move hs33 (.const _) rfl rfl fun _ _ hs34 => ?_); clear hs33
     refine hK20 _ _ ?_; clear hK20
     have hs35 := hs34.keep [0, 1, 2, 3, 4, 5, 6, 7] [_, _, _, _, _, _, _, _] rfl; clear hs34
     refine cd_block ?_
     have hs36 : Sx 61 [] [(27, .int .i64 (0 : Int)), (26, .int .i64 (n4 : Int)), (25, .slice A4 n4 c4), (8, .pointer (some ⟨b18, 0, none⟩)), (7, .pointer (some ⟨b12, 0, none⟩)), (5, .int .i64 0), (4, .bool false), (2, .pointer (some ⟨b2, 0, none⟩))] [(b18, some (.cells ⟨[.int .i64 (0 : Int), .int .i64 (tak b.rolls (xs.take 0))]⟩ 71 (0, 0))), (b12, some (.cells ⟨(boxL b A n cp A2 n2 c2 A9 n c9 m9)⟩ 66 (0, 0))), (b9, o9), (m9, some (.map #[] 0)), (b2, some (.cells ⟨(bxL b A n cp A2 n2 c2)⟩ 25 (0, 0)))] [] w _ _ := Sx.keepE [0, 1, 2, 3, 4, 5, 6, 7] _ ⟨⟨_, rfl, rfl⟩, ⟨_, rfl, rfl⟩, ⟨_, rfl, rfl⟩, ⟨_, rfl, rfl⟩, ⟨_, rfl, rfl⟩, ⟨_, rfl, rfl⟩, ⟨_, rfl, rfl⟩, ⟨_, rfl, rfl⟩, trivial⟩ hs35; clear hs35
     refine cd_loop (X := Nat) (fun i a_ w_ => (i ≤ n4) ∧ (canB b b.sold (xs.take i) = true) ∧ Sx 61 [] [(27, .int .i64 (i : Int)), (26, .int .i64 (n4 : Int)), (25, .slice A4 n4 c4), (8, .pointer (some ⟨b18, 0, none⟩)), (7, .pointer (some ⟨b12, 0, none⟩)), (5, .int .i64 0), (4, .bool false), (2, .pointer (some ⟨b2, 0, none⟩))] [(b18, some (.cells ⟨[.int .i64 (i : Int), .int .i64 (tak b.rolls (xs.take i))]⟩ 71 (0, 0))), (b12, some (.cells ⟨(boxL b A n cp A2 n2 c2 A9 n c9 m9)⟩ 66 (0, 0))), (b9, o9), (m9, some (.map #[] 0)), (b2, some (.cells ⟨(bxL b A n cp A2 n2 c2)⟩ 25 (0, 0)))] [] w a_ w_) (fun i => n4 - i) (0) ⟨?_, ?_, hs36⟩ ?_
     · first | omega | simp
     · rfl
     intro i a_37 w_37 ⟨hi, hcan, hs37⟩; clear hs36
     refine cd_region fun K21 hK21 => ?_
     refine sq rfl (st_cmp (c := decide (((i : Int) : Int) < (n4 : Int))) hs37 (Ev.t 0 rfl) (Ev.t 1 rfl) rfl rfl rfl rfl fun _ _ hs38 => ?_); clear hs37
     refine hK21 _ _ ?_; clear hK21
     refine cd_seq fun K22 hK22 => ?_
     refine cd_cond hs38 (Ev.t 0 rfl) (fun hc23 => ?_) (fun hc23 => ?_)
     · have hin : i < n4 := by simpa using hc23
       have hil : i < xs.length := by omega
       have hir : i < b.rolls.length := by omega
       have his : i < b.sold.length := by rw [soldlen hO]; exact hir
       obtain ⟨x24, hx24⟩ : ∃ x, xs[i]? = some x := ⟨_, List.getElem?_eq_getElem (by have := hX.len; omega)⟩
       obtain ⟨b25, o25, hA25, -, hc25⟩ := hX.el i x24 hx24
       obtain ⟨x26, hx26⟩ : ∃ x, b.rolls[i]? = some x := ⟨_, List.getElem?_eq_getElem (by have := hP.len; omega)⟩
       obtain ⟨b27, o27, hA27, -, hc27⟩ := hP.el i x26 hx26
       obtain ⟨x28, hx28⟩ : ∃ x, b.sold[i]? = some x := ⟨_, List.getElem?_eq_getElem (his)⟩
       have htk := tak_bd hO.wf i (by omega) (by omega) hcan
       have hpr := hO.wf.price _ _ hx26; have hsp := hO.wf.sp _ _ hx28
       refine cd_skip ?_
       refine th_norm (hK22 _ _ ?_)
       refine cd_seq fun K29 hK29 => ?_
       refine cd_block ?_
       refine cd_region fun K30 hK30 => ?_
       refine sq rfl (st_move hs38 (Ev.t 1 rfl) rfl rfl fun _ _ hs39 => ?_); clear hs38
       refine sq rfl (st_indexM (o' := o25 + i * 1) hs39 (Ev.t 4 rfl) (Ev.t 2 rfl) rfl rfl hA25 runUnderlying33 sizeOf3 ⟨by omega, by have := hX.len; have := (List.getElem?_eq_some_iff.1 hx24).1; omega⟩ rfl fun _ _ hs40 => ?_); clear hs39
       refine sq rfl (st_load1 (o := o25 + i * 1) (off := 0) (v := .int .i64 x24) hs40 (Ev.t 0 rfl) rfl rfl isAgg3 (hs40.old hc25 (by simp)) rfl fun _ _ hs41 => ?_); clear hs40
       refine sq rfl (st_assign hs41 (Ev.t 2 rfl) rfl rfl fun _ _ hs42 => ?_); clear hs41
       refine sq rfl (st_assign hs42 (Ev.t 1 rfl) rfl rfl fun _ _ hs43 => ?_); clear hs42
       refine hK30 _ _ ?_; clear hK30
       have hs44 := hs43.keep [0, 1, 6, 7, 8, 9, 10, 11, 12, 13] [_, _, _, _, _, _, _, _, _, _] rfl; clear hs43
       refine cd_seq fun K31 hK31 => ?_
       refine cd_region fun K32 hK32 => ?_
       refine sq rfl (st_loadA (o := 0) (off := 0) (vs := (boxL b A n cp A2 n2 c2 A9 n c9 m9)) hs44 (Ev.t 6 rfl) rfl rfl isAgg66 sizeOf66 (hs44.cells 1 rfl) rfl fun _ _ hs45 => ?_); clear hs44
       refine sq rfl (st_move hs45 (Ev.t 2 rfl) rfl rfl fun _ _ hs46 => ?_); clear hs45
       refine sq rfl (st_move hs46 (Ev.t 2 rfl) rfl rfl fun _ _ hs47 => ?_); clear hs46
       refine sq rfl (st_callv (vs := [.agg ⟨(boxL b A n cp A2 n2 c2 A9 n c9 m9)⟩, .int .i64 (i : Int), .int .i64 x24]) hs47 (.func _) ⟨(Ev.t 2 rfl), (Ev.t 1 rfl), (Ev.t 0 rfl), trivial⟩ rfl rfl call53 rfl (can_v b A n cp A2 n2 c2 A9 n c9 m9 b.sold i x28 hx28 x24 _ (by have h := hO9.at hs47 2 rfl; rw [soldlen hO, ← hP.len] at h; exact h) (by omega)) fun _ _ hs48 => ?_); clear hs47
       refine sq rfl (st_not hs48 (Ev.t 0 rfl) rfl rfl fun _ _ hs49 => ?_); clear hs48
       refine hK32 _ _ ?_; clear hK32
       have hs50 := hs49.keep [0, 5, 6, 7, 8, 9, 10, 11, 12, 13, 14] [_, _, _, _, _, _, _, _, _, _, _] rfl; clear hs49
       refine cd_cond hs50 (Ev.t 0 rfl) (fun hc33 => ?_) (fun hc33 => ?_)
       · have hcf := canB_false (b := b) hx24 hx28 (by simpa using hc33)
         refine cd_region fun K34 hK34 => ?_
         have hs51 := hs50.keep [0, 1, 2, 3, 4, 5, 6, 7, 8, 10] [_, _, _, _, _, _, _, _, _, _] rfl; clear hs50
         refine sq rfl (st_assign hs51 (.const _) rfl rfl fun _ _ hs52 => ?_); clear hs51
         have hs53 := hs52.keep [0, 1, 2, 3, 4, 5, 6, 7, 8, 10] [_, _, _, _, _, _, _, _, _, _] rfl; clear hs52
         refine sq rfl (st_assign hs53 (.const _) rfl rfl fun _ _ hs54 => ?_); clear hs53
         refine hK34 _ _ ?_; clear hK34
         have hs55 := hs54.keep [0, 1] [_, _] rfl; clear hs54
         refine cd_retv (vs := [.bool false, .int .i64 0]) hs55 (fun a_ w_ h => th_ret (in_ret (th_ret (th_ret (in_ret (th_ret (hQ0 a_ w_ h))))))) rfl ⟨.tmp 1 rfl, .tmp 0 rfl, trivial⟩ ?_
         clear hs55 hQ0 hN0 hK31 hK29 hK19
         first | (simp [pack, Bx.truthR, hok]; done) | (simp [pack, Bx.truthR, hok, Bx.truth, hcf]; done) | (have hi0 : ((i : Int) == 0) = false := (by rw [beq_eq_false_iff_ne]; omega); simp only [pack, Bx.truthR, hok, if_true, Bx.truth, hlen2, hcan2, htk, hi0]; simp) | (simp [pack, Bx.truthR, hok, Bx.truth, hlen]; done)
       · have hw : within x24 x28.lo x28.hi = true := by simpa using hc33
         have hwi := Till.within_iff.1 hw
         have hmb := mul_bd (m := x24) (p := x26.price) (by omega) hpr
         refine cd_skip ?_
         refine th_norm (hK31 _ _ ?_)
         refine cd_drawn1 mixed hs50 [⟨37, [], Is (.int .i64 (i : Int))⟩, ⟨38, [0], Is (.int .i64 ((i : Int) + 1))⟩, ⟨39, [], Is (.pointer (some ⟨b18, 1, none⟩))⟩, ⟨40, [2], Is (.int .i64 (tak b.rolls (xs.take i)))⟩, ⟨41, [], Is (.int .i64 x24)⟩, ⟨42, [], Is (.pointer (some ⟨b2, 0, none⟩))⟩, ⟨43, [5], Is (.slice A n cp)⟩, ⟨44, [], Is (.int .i64 (i : Int))⟩, ⟨45, [6, 7], Is (.pointer (some ⟨b27, o27 + i * 5, none⟩))⟩, ⟨46, [8], Is (.pointer (some ⟨b27, o27 + i * 5, none⟩))⟩, ⟨47, [9], Is (.int .i64 x26.price)⟩, ⟨48, [4, 10], Is (.int .i64 (x24 * x26.price))⟩, ⟨49, [3, 11], Is (.int .i64 ((tak b.rolls (xs.take i)) + (x24 * x26.price)))⟩, ⟨50, [1, 12], Is (.agg ⟨[.int .i64 ((i : Int) + 1), .int .i64 ((tak b.rolls (xs.take i)) + (x24 * x26.price))]⟩)⟩] (by kernel_rfl) (by kernel_rfl) ⟨⟨?_, ?_, ?_, ?_, ?_, ?_, ?_, ?_, ?_, ?_, ?_, ?_, ?_, ?_, trivial⟩, ?_⟩
         · rintro T_ B_ a_ w_ K_ hT hB hf hsD hk
           exact ob rfl rfl (st_move hsD (evT hT 2 rfl) rfl hf fun _ _ => hk _ _ _ _ ⟨rfl, rfl⟩)
         · rintro T_ B_ a_ w_ K_ hT hB _ _ ⟨rfl, rfl⟩ h37 - hf hsD hk
           exact ob rfl rfl (st_add (z := (i : Int) + 1) hsD (Ev.tmp h37) (.const _) rfl hf rfl (by omega) fun _ _ => hk _ _ _ _ ⟨rfl, rfl⟩)
         · rintro T_ B_ a_ w_ K_ hT hB hf hsD hk
           exact ob rfl rfl (st_field (o' := 1) hsD (evT hT 6 rfl) rfl hf runUnderlying71 rfl sizeOf3 rfl rfl fun _ _ => hk _ _ _ _ ⟨rfl, rfl⟩)
         · rintro T_ B_ a_ w_ K_ hT hB _ _ ⟨rfl, rfl⟩ h39 - hf hsD hk
           exact ob rfl rfl (st_load1 (o := 0) (off := 1) (v := .int .i64 (tak b.rolls (xs.take i))) hsD (Ev.tmp h39) rfl hf isAgg3 (hsD.cellsM (inB hB 0 rfl)) rfl fun _ _ => hk _ _ _ _ ⟨rfl, rfl⟩)
         · rintro T_ B_ a_ w_ K_ hT hB hf hsD hk
           exact ob rfl rfl (st_move hsD (evT hT 1 rfl) rfl hf fun _ _ => hk _ _ _ _ ⟨rfl, rfl⟩)
         · rintro T_ B_ a_ w_ K_ hT hB hf hsD hk
           exact ob rfl rfl (st_field (o' := 0) hsD (evT hT 10 rfl) rfl hf runUnderlying25 rfl sizeOf22 rfl rfl fun _ _ => hk _ _ _ _ ⟨rfl, rfl⟩)
         · rintro T_ B_ a_ w_ K_ hT hB _ _ ⟨rfl, rfl⟩ h42 - hf hsD hk
           exact ob rfl rfl (st_load1 (o := 0) (off := 0) (v := .slice A n cp) hsD (Ev.tmp h42) rfl hf isAgg22 (hsD.cellsM (inB hB 4 rfl)) rfl fun _ _ => hk _ _ _ _ ⟨rfl, rfl⟩)
         · rintro T_ B_ a_ w_ K_ hT hB hf hsD hk
           exact ob rfl rfl (st_move hsD (evT hT 2 rfl) rfl hf fun _ _ => hk _ _ _ _ ⟨rfl, rfl⟩)
         · rintro T_ B_ a_ w_ K_ hT hB _ _ ⟨rfl, rfl⟩ h43 - _ _ ⟨rfl, rfl⟩ h44 - hf hsD hk
           exact ob rfl rfl (st_indexM (o' := o27 + i * 5) hsD (Ev.tmp h43) (Ev.tmp h44) rfl hf hA27 runUnderlying22 sizeOf46 ⟨by omega, by have := hP.len; have := (List.getElem?_eq_some_iff.1 hx26).1; omega⟩ rfl fun _ _ => hk _ _ _ _ ⟨rfl, rfl⟩)
         · rintro T_ B_ a_ w_ K_ hT hB _ _ ⟨rfl, rfl⟩ h45 - hf hsD hk
           exact ob rfl rfl (st_field (o' := o27 + i * 5) hsD (Ev.tmp h45) rfl hf runUnderlying46 rfl sizeOf3 rfl rfl fun _ _ => hk _ _ _ _ ⟨rfl, rfl⟩)
         · rintro T_ B_ a_ w_ K_ hT hB _ _ ⟨rfl, rfl⟩ h46 - hf hsD hk
           exact ob rfl rfl (st_load1 (o := o27 + i * 5) (off := 0) (v := .int .i64 x26.price) hsD (Ev.tmp h46) rfl hf isAgg3 (hsD.old hc27 (by simp)) rfl fun _ _ => hk _ _ _ _ ⟨rfl, rfl⟩)
         · rintro T_ B_ a_ w_ K_ hT hB _ _ ⟨rfl, rfl⟩ h41 - _ _ ⟨rfl, rfl⟩ h47 - hf hsD hk
           exact ob rfl rfl (st_mul (z := x24 * x26.price) hsD (Ev.tmp h41) (Ev.tmp h47) rfl hf rfl (by omega) fun _ _ => hk _ _ _ _ ⟨rfl, rfl⟩)
         · rintro T_ B_ a_ w_ K_ hT hB _ _ ⟨rfl, rfl⟩ h40 - _ _ ⟨rfl, rfl⟩ h48 - hf hsD hk
           exact ob rfl rfl (st_add (z := (tak b.rolls (xs.take i)) + (x24 * x26.price)) hsD (Ev.tmp h40) (Ev.tmp h48) rfl hf rfl (by omega) fun _ _ => hk _ _ _ _ ⟨rfl, rfl⟩)
         · rintro T_ B_ a_ w_ K_ hT hB _ _ ⟨rfl, rfl⟩ h38 - _ _ ⟨rfl, rfl⟩ h49 - hf hsD hk
           exact ob rfl rfl (st_build hsD (qs := [(0, .int .i64 ((i : Int) + 1)), (1, .int .i64 ((tak b.rolls (xs.take i)) + (x24 * x26.price)))]) (v := .agg ⟨[.int .i64 ((i : Int) + 1), .int .i64 ((tak b.rolls (xs.take i)) + (x24 * x26.price))]⟩) ⟨(Ev.tmp h38), (Ev.tmp h49), trivial⟩ rfl hf rfl (fun _ => by kernel_rfl) fun _ _ => hk _ _ _ _ ⟨rfl, rfl⟩)
         rintro _ _ ⟨rfl, rfl⟩ _ _ ⟨rfl, rfl⟩ _ _ ⟨rfl, rfl⟩ _ _ ⟨rfl, rfl⟩ _ _ ⟨rfl, rfl⟩ _ _ ⟨rfl, rfl⟩ _ _ ⟨rfl, rfl⟩ _ _ ⟨rfl, rfl⟩ _ _ ⟨rfl, rfl⟩ _ _ ⟨rfl, rfl⟩ _ _ ⟨rfl, rfl⟩ _ _ ⟨rfl, rfl⟩ _ _ ⟨rfl, rfl⟩ _ _ ⟨rfl, rfl⟩ a_51 w_51 hs51; clear hs50
         have hs52 := Sx.as (T' := [_, _, _, _, _, _, _, _, _, _, _, _, _, _, _, _, _, _, _, _, _, _, _, _, _]) (B' := [_, _, _, _, _]) rfl rfl hs51; clear hs51
         refine sq rfl (st_store (l' := [.int .i64 ((i : Int) + 1), .int .i64 ((tak b.rolls (xs.take i)) + (x24 * x26.price))]) (vs := [.int .i64 ((i : Int) + 1), .int .i64 ((tak b.rolls (xs.take i)) + (x24 * x26.price))]) (i := 0) hs52 (Ev.t 20 rfl) (Ev.t 13 rfl) sizeOf71 rfl rfl rfl rfl rfl rfl fun _ _ hs53 => ?_); clear hs52
         have hs54 := hs53.asB [_, _, _, _, _] rfl; clear hs53
         refine wpListIn_nil ?_
         have hs55 := hs54.keep [17, 18, 19, 20, 21, 22, 23, 24] [_, _, _, _, _, _, _, _] rfl; clear hs54
         refine in_norm ?_
         refine th_norm (hK29 _ _ ?_)
         refine cd_region1 ?_
         refine sq rfl (st_add (z := (i : Int) + 1) hs55 (Ev.t 0 rfl) (.const _) rfl rfl rfl (by omega) fun _ _ hs56 => ?_); clear hs55
         have hs57 := hs56.keep [0, 2, 3, 4, 5, 6, 7, 8] [_, _, _, _, _, _, _, _] rfl; clear hs56
         refine sq rfl (st_move hs57 (Ev.t 0 rfl) rfl rfl fun _ _ hs58 => ?_); clear hs57
         refine wpListIn_nil ?_
         have hs59 := hs58.keep [0, 2, 3, 4, 5, 6, 7, 8] [_, _, _, _, _, _, _, _] rfl; clear hs58
         refine ⟨i + 1, ⟨?_, ?_, ?_⟩, by omega⟩
         · first | omega | (simp; done) | (simp; omega)
         · rw [canB_snoc hx24 hx28, hcan, hw]; rfl
         rw [← tak_snoc hx26 hx24] at hs59
         exact Sx.keepE [0, 1, 2, 3, 4, 5, 6, 7] _ ⟨⟨_, rfl, rfl⟩, ⟨_, rfl, rfl⟩, ⟨_, rfl, rfl⟩, ⟨_, rfl, rfl⟩, ⟨_, rfl, rfl⟩, ⟨_, rfl, rfl⟩, ⟨_, rfl, rfl⟩, ⟨_, rfl, rfl⟩, trivial⟩ hs59
     · have hie : i = n4 := by simp at hc23; omega
       have hcan2 : canB b b.sold xs = true := by rw [hie, List.take_of_length_le (by omega)] at hcan; exact hcan
       have htk : tak b.rolls (xs.take i) = tak b.rolls xs := by rw [hie, List.take_of_length_le (by omega)]
       refine cd_exit ?_
       refine th_exit ?_
       refine th_exit ?_
       refine in_hit ?_
       refine th_norm (hK19 _ _ ?_)
       refine cd_drawn mixed hs38 [⟨52, [], Is (.agg ⟨[.int .i64 (i : Int), .int .i64 (tak b.rolls (xs.take i))]⟩)⟩, ⟨53, [], Is (.agg ⟨[.int .i64 0, .int .i64 0]⟩)⟩, ⟨54, [0, 1], Is (.bool (!((((i : Int) : Int) == 0) && ((tak b.rolls (xs.take i) : Int) == 0))))⟩, ⟨55, [2], Is (.bool (!((((i : Int) : Int) == 0) && ((tak b.rolls (xs.take i) : Int) == 0))))⟩, ⟨56, [3], Is (Gv (!((((i : Int) : Int) == 0) && ((tak b.rolls (xs.take i) : Int) == 0))) (.agg ⟨(boxL b A n cp A2 n2 c2 A9 n c9 m9)⟩))⟩, ⟨57, [3], Is (Gv (!((((i : Int) : Int) == 0) && ((tak b.rolls (xs.take i) : Int) == 0))) (.pointer (some ⟨b18, 1, none⟩)))⟩, ⟨58, [3, 5], Is (Gv (!((((i : Int) : Int) == 0) && ((tak b.rolls (xs.take i) : Int) == 0))) (.int .i64 (tak b.rolls (xs.take i))))⟩] (by kernel_rfl) (by kernel_rfl) fun K35 hK35 => ⟨⟨?_, ?_, ?_, ?_, ?_, ?_, ?_, trivial⟩, ?_⟩
       · rintro T_ B_ a_ w_ K_ hT hB hf hsD hk
         exact ob rfl rfl (st_loadA (o := 0) (off := 0) (vs := [.int .i64 (i : Int), .int .i64 (tak b.rolls (xs.take i))]) hsD (evT hT 4 rfl) rfl hf isAgg71 sizeOf71 (hsD.cellsM (inB hB 0 rfl)) rfl fun _ _ => hk _ _ _ _ ⟨rfl, rfl⟩)
       · rintro T_ B_ a_ w_ K_ hT hB hf hsD hk
         exact ob rfl rfl (st_callv (vs := []) hsD (.func _) trivial rfl hf call47 rfl (first_v  _) fun _ _ => hk _ _ _ _ ⟨rfl, rfl⟩)
       · rintro T_ B_ a_ w_ K_ hT hB _ _ ⟨rfl, rfl⟩ h52 - _ _ ⟨rfl, rfl⟩ h53 - hf hsD hk
         exact ob rfl rfl (st_bin hsD (Ev.tmp h52) (Ev.tmp h53) (run_neq_71 _ _ (i : Int) (tak b.rolls (xs.take i)) 0 0) rfl hf fun _ _ => hk _ _ _ _ ⟨rfl, rfl⟩)
       · rintro T_ B_ a_ w_ K_ hT hB _ _ ⟨rfl, rfl⟩ h54 - hf hsD hk
         exact ob rfl rfl (st_move hsD (Ev.tmp h54) rfl hf fun _ _ => hk _ _ _ _ ⟨rfl, rfl⟩)
       · rintro T_ B_ a_ w_ K_ hT hB _ _ ⟨rfl, rfl⟩ h55 - hf hsD hk
         exact ob_gv hsD (gg := !((((i : Int) : Int) == 0) && ((tak b.rolls (xs.take i) : Int) == 0))) (v := .agg ⟨(boxL b A n cp A2 n2 c2 A9 n c9 m9)⟩) rfl rfl rfl h55 (ison_t _) rfl rfl hf (fun hg K1 hK1 => st_loadA (o := 0) (off := 0) (vs := (boxL b A n cp A2 n2 c2 A9 n c9 m9)) hsD (evT hT 5 rfl) rfl hf isAgg66 sizeOf66 (hsD.cellsM (inB hB 1 rfl)) rfl hK1) fun _ _ => hk _ _ _ _ ⟨rfl, rfl⟩
       · rintro T_ B_ a_ w_ K_ hT hB _ _ ⟨rfl, rfl⟩ h55 - hf hsD hk
         exact ob_gv hsD (gg := !((((i : Int) : Int) == 0) && ((tak b.rolls (xs.take i) : Int) == 0))) (v := .pointer (some ⟨b18, 1, none⟩)) rfl rfl rfl h55 (ison_t _) rfl rfl hf (fun hg K1 hK1 => st_field (o' := 1) hsD (evT hT 4 rfl) rfl hf runUnderlying71 rfl sizeOf3 rfl rfl hK1) fun _ _ => hk _ _ _ _ ⟨rfl, rfl⟩
       · rintro T_ B_ a_ w_ K_ hT hB _ _ ⟨rfl, rfl⟩ h55 - _ _ ⟨rfl, rfl⟩ h57 - hf hsD hk
         exact ob_gv hsD (gg := !((((i : Int) : Int) == 0) && ((tak b.rolls (xs.take i) : Int) == 0))) (v := .int .i64 (tak b.rolls (xs.take i))) rfl rfl rfl h55 (ison_t _) rfl rfl hf (fun hg K1 hK1 => st_load1 (o := 0) (off := 1) (v := .int .i64 (tak b.rolls (xs.take i))) hsD ((Ev.tmp h57).un hg) rfl hf isAgg3 (hsD.cellsM (inB hB 0 rfl)) rfl hK1) fun _ _ => hk _ _ _ _ ⟨rfl, rfl⟩
       rintro _ _ ⟨rfl, rfl⟩ _ _ ⟨rfl, rfl⟩ _ _ ⟨rfl, rfl⟩ _ _ ⟨rfl, rfl⟩ _ _ ⟨rfl, rfl⟩ _ _ ⟨rfl, rfl⟩ _ _ ⟨rfl, rfl⟩ a_39 w_39 hs39; clear hs38
       have hs40 := Sx.as (T' := [_, _, _, _, _, _, _, _, _, _, _, _, _, _, _, _]) (B' := [_, _, _, _, _]) rfl rfl hs39; clear hs39
       refine sq_gv hs40 (gg := !((((i : Int) : Int) == 0) && ((tak b.rolls (xs.take i) : Int) == 0))) (v := .bool (right b (tak b.rolls (xs.take i)))) rfl rfl 3 rfl (ison_t _) rfl rfl rfl (fun hg36 K37 hK37 => st_callv (vs := [.agg ⟨(boxL b A n cp A2 n2 c2 A9 n c9 m9)⟩, .int .i64 (tak b.rolls (xs.take i))]) hs40 (.func _) ⟨((Ev.t 4 rfl).un hg36), ((Ev.t 6 rfl).un hg36), trivial⟩ rfl rfl call54 rfl (right_v b A n cp A2 n2 c2 A9 n c9 m9 (tak b.rolls (xs.take i)) _ ⟨hwf.count, hwf.err⟩) hK37) fun _ _ hs41 => ?_; clear hs40
       refine sq rfl (st_and hs41 (gx := true) (gy := !((((i : Int) : Int) == 0) && ((tak b.rolls (xs.take i) : Int) == 0))) (Ev.t 4 rfl) rfl (Ev.t 0 rfl) (fun h => h) rfl rfl fun _ _ hs42 => ?_); clear hs41
       have hs43 := hs42.keep [0, 1, 2, 3, 4, 5, 6, 7, 8, 9, 10, 11, 12, 13, 14, 15, 17] [_, _, _, _, _, _, _, _, _, _, _, _, _, _, _, _, _] rfl; clear hs42
       refine sq rfl (st_assign hs43 (Ev.t 0 rfl) rfl rfl fun _ _ hs44 => ?_); clear hs43
       have hs45 := hs44.keep [0, 1, 2, 3, 4, 5, 6, 7, 8, 9, 10, 11, 12, 13, 14, 15, 17] [_, _, _, _, _, _, _, _, _, _, _, _, _, _, _, _, _] rfl; clear hs44
       refine sq rfl (st_assign hs45 (.const _) rfl rfl fun _ _ hs46 => ?_); clear hs45
       refine hK35 _ _ ?_; clear hK35
       have hs47 := hs46.keep [0, 1] [_, _] rfl; clear hs46
       refine cd_retv (vs := [.bool ((!((((i : Int) : Int) == 0) && ((tak b.rolls (xs.take i) : Int) == 0))) && (right b (tak b.rolls (xs.take i)))), .int .i64 0]) hs47 hQ0 rfl ⟨.tmp 1 rfl, .tmp 0 rfl, trivial⟩ ?_
       clear hs47 hQ0 hN0
       first | (simp [pack, Bx.truthR, hok]; done) | (simp [pack, Bx.truthR, hok, Bx.truth, hcf]; done) | (have hi0 : ((i : Int) == 0) = false := (by rw [beq_eq_false_iff_ne]; omega); simp only [pack, Bx.truthR, hok, if_true, Bx.truth, hlen2, hcan2, htk, hi0]; simp) | (simp [pack, Bx.truthR, hok, Bx.truth, hlen]; done)
end Go.Proofs.YtcnndpedeofbmaaDoor
