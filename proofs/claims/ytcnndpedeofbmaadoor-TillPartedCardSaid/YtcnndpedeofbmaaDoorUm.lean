/- The law TillParted: its walk. -/
import Derived.Test.YtcnndpedeofbmaaDoorUl
set_option maxRecDepth 100000
namespace Go.Proofs.YtcnndpedeofbmaaDoor
open Go Go.Sx Go.Till Go.Proofs.Tryd
theorem duty_mono {b : Bx} (hd : 0 ≤ b.duty ∧ b.duty ≤ 100) {x y : Int} (h : x ≤ y) : dutyI b x ≤ dutyI b y ∧ x - dutyI b x ≤ y - dutyI b y := by
  have h1 : (y - x) * b.duty ≤ (y - x) * 100 := Int.mul_le_mul_of_nonneg_left hd.2 (by omega)
  have h2 : 0 ≤ (y - x) * b.duty := Int.mul_nonneg (by omega) hd.1
  rw [Int.sub_mul] at h1 h2
  unfold dutyI
  omega
theorem hire_mono {b : Bx} (hd : 0 ≤ b.duty ∧ b.duty ≤ 100) (hsh : 0 ≤ b.share ∧ b.share ≤ 100) {x y : Int} (h : x ≤ y) : hireI b x ≤ hireI b y := by
  have h1 := (duty_mono hd h).2
  have h2 : (x - dutyI b x) * b.share ≤ (y - dutyI b y) * b.share := Int.mul_le_mul_of_nonneg_right h1 hsh.1
  unfold hireI
  omega
theorem parted {b : Bx} (hok : b.ok = true) (hm : b.many ≠ 0) : ∃ t1 t2 v1 v2, b.betweenR wholeI = (⟨t1, t2⟩, 0) ∧ b.betweenR hireI = (⟨hireI b t1, hireI b t2⟩, 0) ∧ b.betweenR leftI = (⟨v1, v2⟩, 0) ∧
    (0 ≤ t1 ∧ t1 ≤ t2 ∧ t2 ≤ 60000) ∧ right b t1 = true ∧ right b t2 = true ∧ (v1 ≤ leftI b t1 ∧ leftI b t1 ≤ v2) ∧ (v1 ≤ leftI b t2 ∧ leftI b t2 ≤ v2) ∧ (t1 ∈ b.all ∧ t2 ∈ b.all) ∧ ∀ x ∈ b.all, right b x = true → t1 ≤ x ∧ x ≤ t2 := by
  have hO := ok_iff.1 hok
  obtain ⟨e1, ⟨x1, a1, r1, p1⟩, ⟨x2, a2, r2, p2⟩, q1⟩ := between_at hok hm wholeI
  obtain ⟨e3, -, -, q3⟩ := between_at hok hm leftI
  simp only [wholeI] at p1 p2 q1
  have b1 := all_range hO a1; have b2 := all_range hO a2
  have hU : b.betweenR hireI = (⟨hireI b x1, hireI b x2⟩, 0) := between_eq hok ⟨x1, a1, r1, rfl⟩ ⟨x2, a2, r2, rfl⟩ (fun x hx hr => by
    have := q1 x hx hr
    exact ⟨hire_mono hO.duty hO.share (by omega), hire_mono hO.duty hO.share (by omega)⟩)
  refine ⟨x1, x2, (b.betweenR leftI).1.lo, (b.betweenR leftI).1.hi, ?_, hU, ?_, ?_, r1, r2, q3 x1 a1 r1, q3 x2 a2 r2, ⟨a1, a2⟩, ?_⟩
  · rw [p1, p2, ← e1]
  · rw [← e3]
  · have := q1 x2 a2 r2; have := q1 x1 a1 r1; omega
  · intro x hx hr; have := q1 x hx hr; omega
theorem between_no {b : Bx} (h : b.asked true ≠ 0) (f : Bx → Int → Int) : b.betweenR f = (⟨0, 0⟩, b.asked true) := by rw [Bx.betweenR, if_neg h]
theorem asked_90 {b : Bx} {rt : Bool} (h : b.ok = false) : b.asked rt = 90 := by simp [Bx.asked, h]
theorem asked_92 {b : Bx} (h : b.ok = true) (hm : b.many = 0) : b.asked true = 92 := by simp [Bx.asked, h, hm]

theorem TillParted_v (b : Bx) (A : Option Addr) (n cp : Nat) (A2 : Option Addr) (n2 c2 : Nat) (w : World) (hP : RollsAt w A n b.rolls) (hn : n ≤ 140737488351232) (hF : SpsAt w A2 n2 b.free) (hn2 : n2 ≤ 140737488351232) (hG : CellsAt w 0 0 partsL) :
    CallsV Tryd.prog 11 [.agg ⟨(bxL b A n cp A2 n2 c2)⟩] w (.bool true) := by
 refine enter (N := 147) (M := []) w func11 rfl rfl rfl (fun Q0 a_0 hQ0 hN0 hs0 => ?_)
 rcases (show b.ok = false ∨ (b.ok = true ∧ b.many = 0) ∨ (b.ok = true ∧ b.many ≠ 0) from by cases b.ok <;> simp [Decidable.em]) with hok | ⟨hok, hm0⟩ | ⟨hok, hm0⟩
 · skip
   refine cd_region fun K1 hK1 => ?_
   refine sq rfl (st_box hs0 (Ev.t 0 rfl) rfl rfl rfl fun b2 _ _ hs1 => ?_); clear hs0
   refine sq rfl (st_assign hs1 (.const _) rfl rfl fun _ _ hs2 => ?_); clear hs1
   refine hK1 _ _ ?_; clear hK1
   have hs3 := hs2.keep [0, 1] [_, _] rfl; clear hs2
   refine cd_region fun K3 hK3 => ?_
   refine sq rfl (st_loadA (o := 0) (off := 0) (vs := (bxL b A n cp A2 n2 c2)) hs3 (Ev.t 1 rfl) rfl rfl isAgg25 sizeOf25 (hs3.cells 0 rfl) rfl fun _ _ hs4 => ?_); clear hs3
   refine sq rfl (st_callv (vs := [.agg ⟨(bxL b A n cp A2 n2 c2)⟩]) hs4 (.func _) ⟨(Ev.t 0 rfl), trivial⟩ rfl rfl call25 rfl (callsV_eq (v' := .tuple ⟨[.agg ⟨[.int .i64 0, .int .i64 0]⟩, .int .i64 90]⟩) (Takings_v b A n cp A2 n2 c2 _ (hP.kp hs4.kp) hn (hF.kp hs4.kp) hn2 (hG.kp hs4.kp (by simp))) (by rw [between_no (by rw [asked_90 hok]; decide), asked_90 hok])) fun _ _ hs5 => ?_); clear hs4
   refine sq rfl (st_move hs5 (Ev.t 0 rfl) rfl rfl fun _ _ hs6 => ?_); clear hs5
   refine sq rfl (st_extract hs6 (Ev.t 0 rfl) rfl rfl rfl fun _ _ hs7 => ?_); clear hs6
   refine sq rfl (st_extract hs7 (Ev.t 1 rfl) rfl rfl rfl fun _ _ hs8 => ?_); clear hs7
   refine sq rfl (st_alloc hs8 rfl rfl zeroValue35 rfl fun b4 _ _ hs9 => ?_); clear hs8
   refine sq rfl (st_store (l' := [.int .i64 0, .int .i64 0]) (vs := [.int .i64 0, .int .i64 0]) (i := 0) hs9 (Ev.t 0 rfl) (Ev.t 2 rfl) sizeOf35 rfl rfl rfl rfl rfl rfl fun _ _ hs10 => ?_); clear hs9
   have hs11 := hs10.asB [_, _] rfl; clear hs10
   refine sq rfl (st_assign hs11 (Ev.t 1 rfl) rfl rfl fun _ _ hs12 => ?_); clear hs11
   refine hK3 _ _ ?_; clear hK3
   have hs13 := hs12.keep [0, 1, 7, 8] [_, _, _, _] rfl; clear hs12
   refine cd_region fun K5 hK5 => ?_
   refine sq rfl (st_loadA (o := 0) (off := 0) (vs := (bxL b A n cp A2 n2 c2)) hs13 (Ev.t 3 rfl) rfl rfl isAgg25 sizeOf25 (hs13.cells 1 rfl) rfl fun _ _ hs14 => ?_); clear hs13
   refine sq rfl (st_callv (vs := [.agg ⟨(bxL b A n cp A2 n2 c2)⟩]) hs14 (.func _) ⟨(Ev.t 0 rfl), trivial⟩ rfl rfl call26 rfl (callsV_eq (v' := .tuple ⟨[.agg ⟨[.int .i64 0, .int .i64 0]⟩, .int .i64 90]⟩) (Hire_v b A n cp A2 n2 c2 _ (hP.kp hs14.kp) hn (hF.kp hs14.kp) hn2 (hG.kp hs14.kp (by simp))) (by rw [between_no (by rw [asked_90 hok]; decide), asked_90 hok])) fun _ _ hs15 => ?_); clear hs14
   refine sq rfl (st_move hs15 (Ev.t 0 rfl) rfl rfl fun _ _ hs16 => ?_); clear hs15
   refine sq rfl (st_extract hs16 (Ev.t 0 rfl) rfl rfl rfl fun _ _ hs17 => ?_); clear hs16
   refine sq rfl (st_extract hs17 (Ev.t 1 rfl) rfl rfl rfl fun _ _ hs18 => ?_); clear hs17
   refine sq rfl (st_alloc hs18 rfl rfl zeroValue35 rfl fun b6 _ _ hs19 => ?_); clear hs18
   refine sq rfl (st_store (l' := [.int .i64 0, .int .i64 0]) (vs := [.int .i64 0, .int .i64 0]) (i := 0) hs19 (Ev.t 0 rfl) (Ev.t 2 rfl) sizeOf35 rfl rfl rfl rfl rfl rfl fun _ _ hs20 => ?_); clear hs19
   have hs21 := hs20.asB [_, _, _] rfl; clear hs20
   refine sq rfl (st_assign hs21 (Ev.t 1 rfl) rfl rfl fun _ _ hs22 => ?_); clear hs21
   refine hK5 _ _ ?_; clear hK5
   have hs23 := hs22.keep [0, 1, 7, 8, 9, 10] [_, _, _, _, _, _] rfl; clear hs22
   refine cd_region fun K7 hK7 => ?_
   refine sq rfl (st_loadA (o := 0) (off := 0) (vs := (bxL b A n cp A2 n2 c2)) hs23 (Ev.t 5 rfl) rfl rfl isAgg25 sizeOf25 (hs23.cells 2 rfl) rfl fun _ _ hs24 => ?_); clear hs23
   refine sq rfl (st_callv (vs := [.agg ⟨(bxL b A n cp A2 n2 c2)⟩]) hs24 (.func _) ⟨(Ev.t 0 rfl), trivial⟩ rfl rfl call27 rfl (callsV_eq (v' := .tuple ⟨[.agg ⟨[.int .i64 0, .int .i64 0]⟩, .int .i64 90]⟩) (Left_v b A n cp A2 n2 c2 _ (hP.kp hs24.kp) hn (hF.kp hs24.kp) hn2 (hG.kp hs24.kp (by simp))) (by rw [between_no (by rw [asked_90 hok]; decide), asked_90 hok])) fun _ _ hs25 => ?_); clear hs24
   refine sq rfl (st_move hs25 (Ev.t 0 rfl) rfl rfl fun _ _ hs26 => ?_); clear hs25
   refine sq rfl (st_extract hs26 (Ev.t 0 rfl) rfl rfl rfl fun _ _ hs27 => ?_); clear hs26
   refine sq rfl (st_extract hs27 (Ev.t 1 rfl) rfl rfl rfl fun _ _ hs28 => ?_); clear hs27
   refine sq rfl (st_alloc hs28 rfl rfl zeroValue35 rfl fun b8 _ _ hs29 => ?_); clear hs28
   refine sq rfl (st_store (l' := [.int .i64 0, .int .i64 0]) (vs := [.int .i64 0, .int .i64 0]) (i := 0) hs29 (Ev.t 0 rfl) (Ev.t 2 rfl) sizeOf35 rfl rfl rfl rfl rfl rfl fun _ _ hs30 => ?_); clear hs29
   have hs31 := hs30.asB [_, _, _, _] rfl; clear hs30
   refine sq rfl (st_assign hs31 (Ev.t 1 rfl) rfl rfl fun _ _ hs32 => ?_); clear hs31
   refine hK7 _ _ ?_; clear hK7
   have hs33 := hs32.keep [0, 1, 7, 8, 9, 10, 11, 12] [_, _, _, _, _, _, _, _] rfl; clear hs32
   refine cd_seq fun K9 hK9 => ?_
   refine cd_region fun K10 hK10 => ?_
   refine sq rfl (st_loadA (o := 0) (off := 0) (vs := (bxL b A n cp A2 n2 c2)) hs33 (Ev.t 7 rfl) rfl rfl isAgg25 sizeOf25 (hs33.cells 3 rfl) rfl fun _ _ hs34 => ?_); clear hs33
   refine sq rfl (st_callv (vs := [.agg ⟨(bxL b A n cp A2 n2 c2)⟩]) hs34 (.func _) ⟨(Ev.t 0 rfl), trivial⟩ rfl rfl call13 rfl (callsV_eq (v' := .bool false) (sound_v b A n cp A2 n2 c2 _ (hP.kp hs34.kp) hn (hF.kp hs34.kp) hn2) (by rw [hok])) fun _ _ hs35 => ?_); clear hs34
   refine sq rfl (st_not hs35 (Ev.t 0 rfl) rfl rfl fun _ _ hs36 => ?_); clear hs35
   refine sq rfl (st_move hs36 (Ev.t 0 rfl) rfl rfl fun _ _ hs37 => ?_); clear hs36
   refine sq_off hs37 rfl rfl 0 rfl rfl rfl rfl rfl fun _ _ hs38 => ?_; clear hs37
   refine sq_off hs38 rfl rfl 1 rfl rfl rfl rfl rfl fun _ _ hs39 => ?_; clear hs38
   refine sq rfl (st_pick hs39 (Ev.t 2 rfl) rfl rfl (fun h => (.const _)) (fun h => by cases h) fun _ _ hs40 => ?_); clear hs39
   refine hK10 _ _ ?_; clear hK10
   have hs41 := hs40.keep [0, 7, 8, 9, 10, 11, 12, 13, 14] [_, _, _, _, _, _, _, _, _] rfl; clear hs40
   have hc11 : true = true := rfl
   refine cd_cond hs41 (Ev.t 0 rfl) (fun _ => ?_) (fun h => absurd (hc11.symm.trans h) (by decide))
   refine cd_region fun K12 hK12 => ?_
   refine sq rfl (st_move hs41 (Ev.t 3 rfl) rfl rfl fun _ _ hs42 => ?_); clear hs41
   refine sq rfl (st_move hs42 (Ev.t 6 rfl) rfl rfl fun _ _ hs43 => ?_); clear hs42
   refine sq rfl (st_cmp (c := true) hs43 (Ev.t 1 rfl) (Ev.t 0 rfl) rfl rfl rfl rfl fun _ _ hs44 => ?_); clear hs43
   refine sq rfl (st_move hs44 (Ev.t 0 rfl) rfl rfl fun _ _ hs45 => ?_); clear hs44
   refine sq_on hs45 rfl rfl 0 rfl rfl (st_move hs45 (Ev.t 5 rfl) rfl rfl fun _ _ hs46 => ?_); clear hs45
   refine sq_on hs46 rfl rfl 1 rfl rfl (st_move hs46 (Ev.t 10 rfl) rfl rfl fun _ _ hs47 => ?_); clear hs46
   refine sq_on hs47 rfl rfl 2 rfl rfl (st_cmp (c := true) hs47 (Ev.t 1 rfl) (Ev.t 0 rfl) rfl rfl rfl rfl fun _ _ hs48 => ?_); clear hs47
   refine sq rfl (st_pick hs48 (Ev.t 3 rfl) rfl rfl (fun h => (Ev.t 0 rfl)) (fun h => by cases h) fun _ _ hs49 => ?_); clear hs48
   refine sq rfl (st_move hs49 (Ev.t 0 rfl) rfl rfl fun _ _ hs50 => ?_); clear hs49
   refine sq_on hs50 rfl rfl 0 rfl rfl (st_move hs50 (Ev.t 14 rfl) rfl rfl fun _ _ hs51 => ?_); clear hs50
   refine sq_on hs51 rfl rfl 1 rfl rfl (st_cmp (c := true) hs51 (Ev.t 0 rfl) (.const _) rfl rfl rfl rfl fun _ _ hs52 => ?_); clear hs51
   refine sq_on hs52 rfl rfl 2 rfl rfl (st_move hs52 (Ev.t 0 rfl) rfl rfl fun _ _ hs53 => ?_); clear hs52
   refine sq_off hs53 rfl rfl 0 rfl rfl rfl rfl rfl fun _ _ hs54 => ?_; clear hs53
   refine sq_off hs54 rfl rfl 1 rfl rfl rfl rfl rfl fun _ _ hs55 => ?_; clear hs54
   refine sq_on hs55 rfl rfl 5 rfl rfl (st_pick hs55 (Ev.t 2 rfl) rfl rfl (fun h => (.const _)) (fun h => by cases h) fun _ _ hs56 => ?_); clear hs55
   refine sq rfl (st_pick hs56 (Ev.t 6 rfl) rfl rfl (fun h => (Ev.t 0 rfl)) (fun h => by cases h) fun _ _ hs57 => ?_); clear hs56
   refine sq rfl (st_move hs57 (Ev.t 0 rfl) rfl rfl fun _ _ hs58 => ?_); clear hs57
   refine sq_on hs58 rfl rfl 0 rfl rfl (st_callv (vs := []) hs58 (.func _) trivial rfl rfl call14 rfl (counted_v _ (hG.kp hs58.kp (by simp))) fun _ _ hs59 => ?_); clear hs58
   refine sq rfl (st_pick hs59 (Ev.t 1 rfl) rfl rfl (fun h => (Ev.t 0 rfl)) (fun h => by cases h) fun _ _ hs60 => ?_); clear hs59
   have hs61 := hs60.keep [0, 1, 2, 3, 4, 5, 6, 7, 8, 9, 10, 11, 12, 13, 14, 15, 16, 17, 18, 19, 20, 21, 22, 23, 24, 25, 27] [_, _, _, _, _, _, _, _, _, _, _, _, _, _, _, _, _, _, _, _, _, _, _, _, _, _, _] rfl; clear hs60
   refine sq rfl (st_assign hs61 (Ev.t 0 rfl) rfl rfl fun _ _ hs62 => ?_); clear hs61
   refine hK12 _ _ ?_; clear hK12
   have hs63 := hs62.keep [0] [_] rfl; clear hs62
   refine cd_retv (vs := [.bool true]) hs63 (fun a_ w_ h => th_ret (hQ0 a_ w_ h)) rfl ⟨.tmp 0 rfl, trivial⟩ ?_
   clear hs63 hQ0 hN0 hK9
   rfl
 · skip
   refine cd_region fun K13 hK13 => ?_
   refine sq rfl (st_box hs0 (Ev.t 0 rfl) rfl rfl rfl fun b14 _ _ hs1 => ?_); clear hs0
   refine sq rfl (st_assign hs1 (.const _) rfl rfl fun _ _ hs2 => ?_); clear hs1
   refine hK13 _ _ ?_; clear hK13
   have hs3 := hs2.keep [0, 1] [_, _] rfl; clear hs2
   refine cd_region fun K15 hK15 => ?_
   refine sq rfl (st_loadA (o := 0) (off := 0) (vs := (bxL b A n cp A2 n2 c2)) hs3 (Ev.t 1 rfl) rfl rfl isAgg25 sizeOf25 (hs3.cells 0 rfl) rfl fun _ _ hs4 => ?_); clear hs3
   refine sq rfl (st_callv (vs := [.agg ⟨(bxL b A n cp A2 n2 c2)⟩]) hs4 (.func _) ⟨(Ev.t 0 rfl), trivial⟩ rfl rfl call25 rfl (callsV_eq (v' := .tuple ⟨[.agg ⟨[.int .i64 0, .int .i64 0]⟩, .int .i64 92]⟩) (Takings_v b A n cp A2 n2 c2 _ (hP.kp hs4.kp) hn (hF.kp hs4.kp) hn2 (hG.kp hs4.kp (by simp))) (by rw [between_no (by rw [asked_92 hok hm0]; decide), asked_92 hok hm0])) fun _ _ hs5 => ?_); clear hs4
   refine sq rfl (st_move hs5 (Ev.t 0 rfl) rfl rfl fun _ _ hs6 => ?_); clear hs5
   refine sq rfl (st_extract hs6 (Ev.t 0 rfl) rfl rfl rfl fun _ _ hs7 => ?_); clear hs6
   refine sq rfl (st_extract hs7 (Ev.t 1 rfl) rfl rfl rfl fun _ _ hs8 => ?_); clear hs7
   refine sq rfl (st_alloc hs8 rfl rfl zeroValue35 rfl fun b16 _ _ hs9 => ?_); clear hs8
   refine sq rfl (st_store (l' := [.int .i64 0, .int .i64 0]) (vs := [.int .i64 0, .int .i64 0]) (i := 0) hs9 (Ev.t 0 rfl) (Ev.t 2 rfl) sizeOf35 rfl rfl rfl rfl rfl rfl fun _ _ hs10 => ?_); clear hs9
   have hs11 := hs10.asB [_, _] rfl; clear hs10
   refine sq rfl (st_assign hs11 (Ev.t 1 rfl) rfl rfl fun _ _ hs12 => ?_); clear hs11
   refine hK15 _ _ ?_; clear hK15
   have hs13 := hs12.keep [0, 1, 7, 8] [_, _, _, _] rfl; clear hs12
   refine cd_region fun K17 hK17 => ?_
   refine sq rfl (st_loadA (o := 0) (off := 0) (vs := (bxL b A n cp A2 n2 c2)) hs13 (Ev.t 3 rfl) rfl rfl isAgg25 sizeOf25 (hs13.cells 1 rfl) rfl fun _ _ hs14 => ?_); clear hs13
   refine sq rfl (st_callv (vs := [.agg ⟨(bxL b A n cp A2 n2 c2)⟩]) hs14 (.func _) ⟨(Ev.t 0 rfl), trivial⟩ rfl rfl call26 rfl (callsV_eq (v' := .tuple ⟨[.agg ⟨[.int .i64 0, .int .i64 0]⟩, .int .i64 92]⟩) (Hire_v b A n cp A2 n2 c2 _ (hP.kp hs14.kp) hn (hF.kp hs14.kp) hn2 (hG.kp hs14.kp (by simp))) (by rw [between_no (by rw [asked_92 hok hm0]; decide), asked_92 hok hm0])) fun _ _ hs15 => ?_); clear hs14
   refine sq rfl (st_move hs15 (Ev.t 0 rfl) rfl rfl fun _ _ hs16 => ?_); clear hs15
   refine sq rfl (st_extract hs16 (Ev.t 0 rfl) rfl rfl rfl fun _ _ hs17 => ?_); clear hs16
   refine sq rfl (st_extract hs17 (Ev.t 1 rfl) rfl rfl rfl fun _ _ hs18 => ?_); clear hs17
   refine sq rfl (st_alloc hs18 rfl rfl zeroValue35 rfl fun b18 _ _ hs19 => ?_); clear hs18
   refine sq rfl (st_store (l' := [.int .i64 0, .int .i64 0]) (vs := [.int .i64 0, .int .i64 0]) (i := 0) hs19 (Ev.t 0 rfl) (Ev.t 2 rfl) sizeOf35 rfl rfl rfl rfl rfl rfl fun _ _ hs20 => ?_); clear hs19
   have hs21 := hs20.asB [_, _, _] rfl; clear hs20
   refine sq rfl (st_assign hs21 (Ev.t 1 rfl) rfl rfl fun _ _ hs22 => ?_); clear hs21
   refine hK17 _ _ ?_; clear hK17
   have hs23 := hs22.keep [0, 1, 7, 8, 9, 10] [_, _, _, _, _, _] rfl; clear hs22
   refine cd_region fun K19 hK19 => ?_
   refine sq rfl (st_loadA (o := 0) (off := 0) (vs := (bxL b A n cp A2 n2 c2)) hs23 (Ev.t 5 rfl) rfl rfl isAgg25 sizeOf25 (hs23.cells 2 rfl) rfl fun _ _ hs24 => ?_); clear hs23
   refine sq rfl (st_callv (vs := [.agg ⟨(bxL b A n cp A2 n2 c2)⟩]) hs24 (.func _) ⟨(Ev.t 0 rfl), trivial⟩ rfl rfl call27 rfl (callsV_eq (v' := .tuple ⟨[.agg ⟨[.int .i64 0, .int .i64 0]⟩, .int .i64 92]⟩) (Left_v b A n cp A2 n2 c2 _ (hP.kp hs24.kp) hn (hF.kp hs24.kp) hn2 (hG.kp hs24.kp (by simp))) (by rw [between_no (by rw [asked_92 hok hm0]; decide), asked_92 hok hm0])) fun _ _ hs25 => ?_); clear hs24
   refine sq rfl (st_move hs25 (Ev.t 0 rfl) rfl rfl fun _ _ hs26 => ?_); clear hs25
   refine sq rfl (st_extract hs26 (Ev.t 0 rfl) rfl rfl rfl fun _ _ hs27 => ?_); clear hs26
   refine sq rfl (st_extract hs27 (Ev.t 1 rfl) rfl rfl rfl fun _ _ hs28 => ?_); clear hs27
   refine sq rfl (st_alloc hs28 rfl rfl zeroValue35 rfl fun b20 _ _ hs29 => ?_); clear hs28
   refine sq rfl (st_store (l' := [.int .i64 0, .int .i64 0]) (vs := [.int .i64 0, .int .i64 0]) (i := 0) hs29 (Ev.t 0 rfl) (Ev.t 2 rfl) sizeOf35 rfl rfl rfl rfl rfl rfl fun _ _ hs30 => ?_); clear hs29
   have hs31 := hs30.asB [_, _, _, _] rfl; clear hs30
   refine sq rfl (st_assign hs31 (Ev.t 1 rfl) rfl rfl fun _ _ hs32 => ?_); clear hs31
   refine hK19 _ _ ?_; clear hK19
   have hs33 := hs32.keep [0, 1, 7, 8, 9, 10, 11, 12] [_, _, _, _, _, _, _, _] rfl; clear hs32
   refine cd_seq fun K21 hK21 => ?_
   refine cd_region fun K22 hK22 => ?_
   refine sq rfl (st_loadA (o := 0) (off := 0) (vs := (bxL b A n cp A2 n2 c2)) hs33 (Ev.t 7 rfl) rfl rfl isAgg25 sizeOf25 (hs33.cells 3 rfl) rfl fun _ _ hs34 => ?_); clear hs33
   refine sq rfl (st_callv (vs := [.agg ⟨(bxL b A n cp A2 n2 c2)⟩]) hs34 (.func _) ⟨(Ev.t 0 rfl), trivial⟩ rfl rfl call13 rfl (callsV_eq (v' := .bool true) (sound_v b A n cp A2 n2 c2 _ (hP.kp hs34.kp) hn (hF.kp hs34.kp) hn2) (by rw [hok])) fun _ _ hs35 => ?_); clear hs34
   refine sq rfl (st_not hs35 (Ev.t 0 rfl) rfl rfl fun _ _ hs36 => ?_); clear hs35
   refine sq rfl (st_move hs36 (Ev.t 0 rfl) rfl rfl fun _ _ hs37 => ?_); clear hs36
   refine sq_on hs37 rfl rfl 0 rfl rfl (st_move hs37 (Ev.t 8 rfl) rfl rfl fun _ _ hs38 => ?_); clear hs37
   refine sq_on hs38 rfl rfl 1 rfl rfl (st_cmp (c := true) hs38 (Ev.t 0 rfl) (.const _) rfl rfl rfl rfl fun _ _ hs39 => ?_); clear hs38
   refine sq rfl (st_pick hs39 (Ev.t 2 rfl) rfl rfl (fun h => by cases h) (fun h => (Ev.t 0 rfl)) fun _ _ hs40 => ?_); clear hs39
   refine hK22 _ _ ?_; clear hK22
   have hs41 := hs40.keep [0, 7, 8, 9, 10, 11, 12, 13, 14] [_, _, _, _, _, _, _, _, _] rfl; clear hs40
   have hc23 : true = true := rfl
   refine cd_cond hs41 (Ev.t 0 rfl) (fun _ => ?_) (fun h => absurd (hc23.symm.trans h) (by decide))
   refine cd_region fun K24 hK24 => ?_
   refine sq rfl (st_move hs41 (Ev.t 3 rfl) rfl rfl fun _ _ hs42 => ?_); clear hs41
   refine sq rfl (st_move hs42 (Ev.t 6 rfl) rfl rfl fun _ _ hs43 => ?_); clear hs42
   refine sq rfl (st_cmp (c := true) hs43 (Ev.t 1 rfl) (Ev.t 0 rfl) rfl rfl rfl rfl fun _ _ hs44 => ?_); clear hs43
   refine sq rfl (st_move hs44 (Ev.t 0 rfl) rfl rfl fun _ _ hs45 => ?_); clear hs44
   refine sq_on hs45 rfl rfl 0 rfl rfl (st_move hs45 (Ev.t 5 rfl) rfl rfl fun _ _ hs46 => ?_); clear hs45
   refine sq_on hs46 rfl rfl 1 rfl rfl (st_move hs46 (Ev.t 10 rfl) rfl rfl fun _ _ hs47 => ?_); clear hs46
   refine sq_on hs47 rfl rfl 2 rfl rfl (st_cmp (c := true) hs47 (Ev.t 1 rfl) (Ev.t 0 rfl) rfl rfl rfl rfl fun _ _ hs48 => ?_); clear hs47
   refine sq rfl (st_pick hs48 (Ev.t 3 rfl) rfl rfl (fun h => (Ev.t 0 rfl)) (fun h => by cases h) fun _ _ hs49 => ?_); clear hs48
   refine sq rfl (st_move hs49 (Ev.t 0 rfl) rfl rfl fun _ _ hs50 => ?_); clear hs49
   refine sq_on hs50 rfl rfl 0 rfl rfl (st_move hs50 (Ev.t 14 rfl) rfl rfl fun _ _ hs51 => ?_); clear hs50
   refine sq_on hs51 rfl rfl 1 rfl rfl (st_cmp (c := false) hs51 (Ev.t 0 rfl) (.const _) rfl rfl rfl rfl fun _ _ hs52 => ?_); clear hs51
   refine sq_on hs52 rfl rfl 2 rfl rfl (st_move hs52 (Ev.t 0 rfl) rfl rfl fun _ _ hs53 => ?_); clear hs52
   refine sq_on hs53 rfl rfl 0 rfl rfl (st_move hs53 (Ev.t 17 rfl) rfl rfl fun _ _ hs54 => ?_); clear hs53
   refine sq_on hs54 rfl rfl 1 rfl rfl (st_cmp (c := true) hs54 (Ev.t 0 rfl) (.const _) rfl rfl rfl rfl fun _ _ hs55 => ?_); clear hs54
   refine sq_on hs55 rfl rfl 5 rfl rfl (st_pick hs55 (Ev.t 2 rfl) rfl rfl (fun h => by cases h) (fun h => (Ev.t 0 rfl)) fun _ _ hs56 => ?_); clear hs55
   refine sq rfl (st_pick hs56 (Ev.t 6 rfl) rfl rfl (fun h => (Ev.t 0 rfl)) (fun h => by cases h) fun _ _ hs57 => ?_); clear hs56
   refine sq rfl (st_move hs57 (Ev.t 0 rfl) rfl rfl fun _ _ hs58 => ?_); clear hs57
   refine sq_on hs58 rfl rfl 0 rfl rfl (st_callv (vs := []) hs58 (.func _) trivial rfl rfl call14 rfl (counted_v _ (hG.kp hs58.kp (by simp))) fun _ _ hs59 => ?_); clear hs58
   refine sq rfl (st_pick hs59 (Ev.t 1 rfl) rfl rfl (fun h => (Ev.t 0 rfl)) (fun h => by cases h) fun _ _ hs60 => ?_); clear hs59
   have hs61 := hs60.keep [0, 1, 2, 3, 4, 5, 6, 7, 8, 9, 10, 11, 12, 13, 14, 15, 16, 17, 18, 19, 20, 21, 22, 23, 24, 25, 27] [_, _, _, _, _, _, _, _, _, _, _, _, _, _, _, _, _, _, _, _, _, _, _, _, _, _, _] rfl; clear hs60
   refine sq rfl (st_assign hs61 (Ev.t 0 rfl) rfl rfl fun _ _ hs62 => ?_); clear hs61
   refine hK24 _ _ ?_; clear hK24
   have hs63 := hs62.keep [0] [_] rfl; clear hs62
   refine cd_retv (vs := [.bool true]) hs63 (fun a_ w_ h => th_ret (hQ0 a_ w_ h)) rfl ⟨.tmp 0 rfl, trivial⟩ ?_
   clear hs63 hQ0 hN0 hK21
   rfl
 · skip
   have hO := ok_iff.1 hok
   obtain ⟨t1, t2, v1, v2, hT, hU, hV, ht12, hr1, hr2, hl1, hl2, -, -⟩ := parted hok hm0
   have hd := hO.duty; have hsh := hO.share; have hg := hO.guar; have hct := hO.count; have her := hO.err
   rw [right, Till.within_iff] at hr1 hr2
   have ht1 : 0 ≤ t1 ∧ t1 ≤ 60000 := by omega
   have ht2 : 0 ≤ t2 ∧ t2 ≤ 60000 := by omega
   have hd1 := duty_bd ht1 hd; have hd2 := duty_bd ht2 hd; have hh1 := hire_bd ht1 hd hsh hg; have hh2 := hire_bd ht2 hd hsh hg
   have hdm := (duty_mono hd ht12.2.1).1; have hhm := hire_mono hd hsh ht12.2.1
   have hg1 : b.guar ≤ hireI b t1 := by unfold hireI; omega
   have hle1 : leftI b t1 = t1 - dutyI b t1 - hireI b t1 := rfl
   have hlb1 := left_bd ht1 hd hsh hg; have hlb2 := left_bd ht2 hd hsh hg
   refine cd_region fun K25 hK25 => ?_
   refine sq rfl (st_box hs0 (Ev.t 0 rfl) rfl rfl rfl fun b26 _ _ hs1 => ?_); clear hs0
   refine sq rfl (st_assign hs1 (.const _) rfl rfl fun _ _ hs2 => ?_); clear hs1
   refine hK25 _ _ ?_; clear hK25
   have hs3 := hs2.keep [0, 1] [_, _] rfl; clear hs2
   refine cd_region fun K27 hK27 => ?_
   refine sq rfl (st_loadA (o := 0) (off := 0) (vs := (bxL b A n cp A2 n2 c2)) hs3 (Ev.t 1 rfl) rfl rfl isAgg25 sizeOf25 (hs3.cells 0 rfl) rfl fun _ _ hs4 => ?_); clear hs3
   refine sq rfl (st_callv (vs := [.agg ⟨(bxL b A n cp A2 n2 c2)⟩]) hs4 (.func _) ⟨(Ev.t 0 rfl), trivial⟩ rfl rfl call25 rfl (callsV_eq (v' := .tuple ⟨[.agg ⟨[.int .i64 t1, .int .i64 t2]⟩, .int .i64 0]⟩) (Takings_v b A n cp A2 n2 c2 _ (hP.kp hs4.kp) hn (hF.kp hs4.kp) hn2 (hG.kp hs4.kp (by simp))) (by rw [hT])) fun _ _ hs5 => ?_); clear hs4
   refine sq rfl (st_move hs5 (Ev.t 0 rfl) rfl rfl fun _ _ hs6 => ?_); clear hs5
   refine sq rfl (st_extract hs6 (Ev.t 0 rfl) rfl rfl rfl fun _ _ hs7 => ?_); clear hs6
   refine sq rfl (st_extract hs7 (Ev.t 1 rfl) rfl rfl rfl fun _ _ hs8 => ?_); clear hs7
   refine sq rfl (st_alloc hs8 rfl rfl zeroValue35 rfl fun b28 _ _ hs9 => ?_); clear hs8
   refine sq rfl (st_store (l' := [.int .i64 t1, .int .i64 t2]) (vs := [.int .i64 t1, .int .i64 t2]) (i := 0) hs9 (Ev.t 0 rfl) (Ev.t 2 rfl) sizeOf35 rfl rfl rfl rfl rfl rfl fun _ _ hs10 => ?_); clear hs9
   have hs11 := hs10.asB [_, _] rfl; clear hs10
   refine sq rfl (st_assign hs11 (Ev.t 1 rfl) rfl rfl fun _ _ hs12 => ?_); clear hs11
   refine hK27 _ _ ?_; clear hK27
   have hs13 := hs12.keep [0, 1, 7, 8] [_, _, _, _] rfl; clear hs12
   refine cd_region fun K29 hK29 => ?_
   refine sq rfl (st_loadA (o := 0) (off := 0) (vs := (bxL b A n cp A2 n2 c2)) hs13 (Ev.t 3 rfl) rfl rfl isAgg25 sizeOf25 (hs13.cells 1 rfl) rfl fun _ _ hs14 => ?_); clear hs13
   refine sq rfl (st_callv (vs := [.agg ⟨(bxL b A n cp A2 n2 c2)⟩]) hs14 (.func _) ⟨(Ev.t 0 rfl), trivial⟩ rfl rfl call26 rfl (callsV_eq (v' := .tuple ⟨[.agg ⟨[.int .i64 (hireI b t1), .int .i64 (hireI b t2)]⟩, .int .i64 0]⟩) (Hire_v b A n cp A2 n2 c2 _ (hP.kp hs14.kp) hn (hF.kp hs14.kp) hn2 (hG.kp hs14.kp (by simp))) (by rw [hU])) fun _ _ hs15 => ?_); clear hs14
   refine sq rfl (st_move hs15 (Ev.t 0 rfl) rfl rfl fun _ _ hs16 => ?_); clear hs15
   refine sq rfl (st_extract hs16 (Ev.t 0 rfl) rfl rfl rfl fun _ _ hs17 => ?_); clear hs16
   refine sq rfl (st_extract hs17 (Ev.t 1 rfl) rfl rfl rfl fun _ _ hs18 => ?_); clear hs17
   refine sq rfl (st_alloc hs18 rfl rfl zeroValue35 rfl fun b30 _ _ hs19 => ?_); clear hs18
   refine sq rfl (st_store (l' := [.int .i64 (hireI b t1), .int .i64 (hireI b t2)]) (vs := [.int .i64 (hireI b t1), .int .i64 (hireI b t2)]) (i := 0) hs19 (Ev.t 0 rfl) (Ev.t 2 rfl) sizeOf35 rfl rfl rfl rfl rfl rfl fun _ _ hs20 => ?_); clear hs19
   have hs21 := hs20.asB [_, _, _] rfl; clear hs20
   refine sq rfl (st_assign hs21 (Ev.t 1 rfl) rfl rfl fun _ _ hs22 => ?_); clear hs21
   refine hK29 _ _ ?_; clear hK29
   have hs23 := hs22.keep [0, 1, 7, 8, 9, 10] [_, _, _, _, _, _] rfl; clear hs22
   refine cd_region fun K31 hK31 => ?_
   refine sq rfl (st_loadA (o := 0) (off := 0) (vs := (bxL b A n cp A2 n2 c2)) hs23 (Ev.t 5 rfl) rfl rfl isAgg25 sizeOf25 (hs23.cells 2 rfl) rfl fun _ _ hs24 => ?_); clear hs23
   refine sq rfl (st_callv (vs := [.agg ⟨(bxL b A n cp A2 n2 c2)⟩]) hs24 (.func _) ⟨(Ev.t 0 rfl), trivial⟩ rfl rfl call27 rfl (callsV_eq (v' := .tuple ⟨[.agg ⟨[.int .i64 v1, .int .i64 v2]⟩, .int .i64 0]⟩) (Left_v b A n cp A2 n2 c2 _ (hP.kp hs24.kp) hn (hF.kp hs24.kp) hn2 (hG.kp hs24.kp (by simp))) (by rw [hV])) fun _ _ hs25 => ?_); clear hs24
   refine sq rfl (st_move hs25 (Ev.t 0 rfl) rfl rfl fun _ _ hs26 => ?_); clear hs25
   refine sq rfl (st_extract hs26 (Ev.t 0 rfl) rfl rfl rfl fun _ _ hs27 => ?_); clear hs26
   refine sq rfl (st_extract hs27 (Ev.t 1 rfl) rfl rfl rfl fun _ _ hs28 => ?_); clear hs27
   refine sq rfl (st_alloc hs28 rfl rfl zeroValue35 rfl fun b32 _ _ hs29 => ?_); clear hs28
   refine sq rfl (st_store (l' := [.int .i64 v1, .int .i64 v2]) (vs := [.int .i64 v1, .int .i64 v2]) (i := 0) hs29 (Ev.t 0 rfl) (Ev.t 2 rfl) sizeOf35 rfl rfl rfl rfl rfl rfl fun _ _ hs30 => ?_); clear hs29
   have hs31 := hs30.asB [_, _, _, _] rfl; clear hs30
   refine sq rfl (st_assign hs31 (Ev.t 1 rfl) rfl rfl fun _ _ hs32 => ?_); clear hs31
   refine hK31 _ _ ?_; clear hK31
   have hs33 := hs32.keep [0, 1, 7, 8, 9, 10, 11, 12] [_, _, _, _, _, _, _, _] rfl; clear hs32
   refine cd_seq fun K33 hK33 => ?_
   refine cd_region fun K34 hK34 => ?_
   refine sq rfl (st_loadA (o := 0) (off := 0) (vs := (bxL b A n cp A2 n2 c2)) hs33 (Ev.t 7 rfl) rfl rfl isAgg25 sizeOf25 (hs33.cells 3 rfl) rfl fun _ _ hs34 => ?_); clear hs33
   refine sq rfl (st_callv (vs := [.agg ⟨(bxL b A n cp A2 n2 c2)⟩]) hs34 (.func _) ⟨(Ev.t 0 rfl), trivial⟩ rfl rfl call13 rfl (callsV_eq (v' := .bool true) (sound_v b A n cp A2 n2 c2 _ (hP.kp hs34.kp) hn (hF.kp hs34.kp) hn2) (by rw [hok])) fun _ _ hs35 => ?_); clear hs34
   refine sq rfl (st_not hs35 (Ev.t 0 rfl) rfl rfl fun _ _ hs36 => ?_); clear hs35
   refine sq rfl (st_move hs36 (Ev.t 0 rfl) rfl rfl fun _ _ hs37 => ?_); clear hs36
   refine sq_on hs37 rfl rfl 0 rfl rfl (st_move hs37 (Ev.t 8 rfl) rfl rfl fun _ _ hs38 => ?_); clear hs37
   refine sq_on hs38 rfl rfl 1 rfl rfl (st_cmp (c := false) hs38 (Ev.t 0 rfl) (.const _) rfl rfl rfl rfl fun _ _ hs39 => ?_); clear hs38
   refine sq rfl (st_pick hs39 (Ev.t 2 rfl) rfl rfl (fun h => by cases h) (fun h => (Ev.t 0 rfl)) fun _ _ hs40 => ?_); clear hs39
   refine hK34 _ _ ?_; clear hK34
   have hs41 := hs40.keep [0, 7, 8, 9, 10, 11, 12, 13, 14] [_, _, _, _, _, _, _, _, _] rfl; clear hs40
   have hc35 : false = false := rfl
   refine cd_cond hs41 (Ev.t 0 rfl) (fun h => absurd (hc35.symm.trans h) (by decide)) (fun _ => ?_)
   refine cd_skip ?_
   refine th_norm (hK33 _ _ ?_)
   refine cd_region fun K36 hK36 => ?_
   refine sq rfl (st_loadA (o := 0) (off := 0) (vs := (bxL b A n cp A2 n2 c2)) hs41 (Ev.t 8 rfl) rfl rfl isAgg25 sizeOf25 (hs41.cells 3 rfl) rfl fun _ _ hs42 => ?_); clear hs41
   refine sq rfl (st_field (o' := 0) hs42 (Ev.t 7 rfl) rfl rfl runUnderlying35 rfl sizeOf3 rfl rfl fun _ _ hs43 => ?_); clear hs42
   refine sq rfl (st_load1 (o := 0) (off := 0) (v := .int .i64 t1) hs43 (Ev.t 0 rfl) rfl rfl isAgg3 (hs43.cells 2 rfl) rfl fun _ _ hs44 => ?_); clear hs43
   refine sq rfl (st_callv (vs := [.agg ⟨(bxL b A n cp A2 n2 c2)⟩, .int .i64 t1]) hs44 (.func _) ⟨(Ev.t 2 rfl), (Ev.t 0 rfl), trivial⟩ rfl rfl call42 rfl (part_v b A n cp A2 n2 c2 t1 _ ht1 hd hsh hg) fun _ _ hs45 => ?_); clear hs44
   refine sq rfl (st_move hs45 (Ev.t 0 rfl) rfl rfl fun _ _ hs46 => ?_); clear hs45
   refine sq rfl (st_extract hs46 (Ev.t 0 rfl) rfl rfl rfl fun _ _ hs47 => ?_); clear hs46
   refine sq rfl (st_extract hs47 (Ev.t 1 rfl) rfl rfl rfl fun _ _ hs48 => ?_); clear hs47
   refine sq rfl (st_extract hs48 (Ev.t 2 rfl) rfl rfl rfl fun _ _ hs49 => ?_); clear hs48
   refine sq rfl (st_assign hs49 (Ev.t 2 rfl) rfl rfl fun _ _ hs50 => ?_); clear hs49
   refine sq rfl (st_assign hs50 (Ev.t 2 rfl) rfl rfl fun _ _ hs51 => ?_); clear hs50
   refine sq rfl (st_assign hs51 (Ev.t 2 rfl) rfl rfl fun _ _ hs52 => ?_); clear hs51
   refine hK36 _ _ ?_; clear hK36
   have hs53 := hs52.keep [0, 1, 2, 12, 13, 14, 15, 17, 18, 19] [_, _, _, _, _, _, _, _, _, _] rfl; clear hs52
   refine cd_region fun K37 hK37 => ?_
   refine sq rfl (st_loadA (o := 0) (off := 0) (vs := (bxL b A n cp A2 n2 c2)) hs53 (Ev.t 9 rfl) rfl rfl isAgg25 sizeOf25 (hs53.cells 3 rfl) rfl fun _ _ hs54 => ?_); clear hs53
   refine sq rfl (st_field (o' := 1) hs54 (Ev.t 8 rfl) rfl rfl runUnderlying35 rfl sizeOf3 rfl rfl fun _ _ hs55 => ?_); clear hs54
   refine sq rfl (st_load1 (o := 0) (off := 1) (v := .int .i64 t2) hs55 (Ev.t 0 rfl) rfl rfl isAgg3 (hs55.cells 2 rfl) rfl fun _ _ hs56 => ?_); clear hs55
   refine sq rfl (st_callv (vs := [.agg ⟨(bxL b A n cp A2 n2 c2)⟩, .int .i64 t2]) hs56 (.func _) ⟨(Ev.t 2 rfl), (Ev.t 0 rfl), trivial⟩ rfl rfl call42 rfl (part_v b A n cp A2 n2 c2 t2 _ ht2 hd hsh hg) fun _ _ hs57 => ?_); clear hs56
   refine sq rfl (st_move hs57 (Ev.t 0 rfl) rfl rfl fun _ _ hs58 => ?_); clear hs57
   refine sq rfl (st_extract hs58 (Ev.t 0 rfl) rfl rfl rfl fun _ _ hs59 => ?_); clear hs58
   refine sq rfl (st_extract hs59 (Ev.t 1 rfl) rfl rfl rfl fun _ _ hs60 => ?_); clear hs59
   refine sq rfl (st_extract hs60 (Ev.t 2 rfl) rfl rfl rfl fun _ _ hs61 => ?_); clear hs60
   refine sq rfl (st_assign hs61 (Ev.t 2 rfl) rfl rfl fun _ _ hs62 => ?_); clear hs61
   refine sq rfl (st_assign hs62 (Ev.t 2 rfl) rfl rfl fun _ _ hs63 => ?_); clear hs62
   refine sq rfl (st_assign hs63 (Ev.t 2 rfl) rfl rfl fun _ _ hs64 => ?_); clear hs63
   refine hK37 _ _ ?_; clear hK37
   have hs65 := hs64.keep [0, 1, 2, 11, 12, 13, 14, 15, 16, 17, 18, 19, 20] [_, _, _, _, _, _, _, _, _, _, _, _, _] rfl; clear hs64
   refine cd_seq fun K38 hK38 => ?_
   refine cd_drawn mixed hs65 [⟨72, [], Is (.int .i64 0)⟩, ⟨73, [0], Is (.bool false)⟩, ⟨74, [1], Is (.bool false)⟩, ⟨75, [2], Is (.int .i64 0)⟩, ⟨76, [2, 3], Is (.bool false)⟩, ⟨77, [2, 4], Is (.bool false)⟩, ⟨78, [5], Is (.bool false)⟩, ⟨79, [6], Is (.pointer (some ⟨b28, 0, none⟩))⟩, ⟨80, [6, 7], Is (.int .i64 t1)⟩, ⟨81, [6], Is (.pointer (some ⟨b28, 1, none⟩))⟩, ⟨82, [6, 9], Is (.int .i64 t2)⟩, ⟨83, [6, 8, 10], Is (.bool false)⟩, ⟨84, [6, 11], Is (.bool false)⟩, ⟨85, [12], Is (.bool false)⟩, ⟨86, [13], Is (.pointer (some ⟨b26, 2, none⟩))⟩, ⟨87, [13, 14], Is (.int .i64 b.count)⟩, ⟨88, [13], Is (.pointer (some ⟨b26, 3, none⟩))⟩, ⟨89, [13, 16], Is (.int .i64 b.err)⟩, ⟨90, [13, 15, 17], Is (.int .i64 (b.count - b.err))⟩, ⟨91, [13, 18], Is (.int .i64 (max 0 (b.count - b.err)))⟩, ⟨92, [13], Is (.pointer (some ⟨b26, 2, none⟩))⟩, ⟨93, [13, 20], Is (.int .i64 b.count)⟩, ⟨94, [13], Is (.pointer (some ⟨b26, 3, none⟩))⟩, ⟨95, [13, 22], Is (.int .i64 b.err)⟩, ⟨96, [13, 21, 23], Is (.int .i64 (b.count + b.err))⟩, ⟨97, [13, 19, 24], Is (.agg ⟨[.int .i64 (max 0 (b.count - b.err)), .int .i64 (b.count + b.err)]⟩)⟩, ⟨98, [13], Is (.agg ⟨[.int .i64 t1, .int .i64 t2]⟩)⟩, ⟨99, [13, 25, 26], Is (.bool true)⟩, ⟨100, [13, 27], Is (.bool false)⟩, ⟨101, [13, 28], Is (.bool false)⟩, ⟨102, [29], Is (.bool false)⟩, ⟨103, [30], Is (.int .i64 (dutyI b t2))⟩, ⟨104, [30], Is (.int .i64 (dutyI b t1))⟩, ⟨105, [30, 31, 32], Is (.bool false)⟩, ⟨106, [30, 33], Is (.bool false)⟩, ⟨107, [34], Is (.bool false)⟩, ⟨108, [35], Is (.int .i64 (hireI b t2))⟩, ⟨109, [35], Is (.int .i64 (hireI b t1))⟩, ⟨110, [35, 36, 37], Is (.bool false)⟩, ⟨111, [35, 38], Is (.bool false)⟩] (by kernel_rfl) (by kernel_rfl) fun K39 hK39 => ⟨⟨?_, ?_, ?_, ?_, ?_, ?_, ?_, ?_, ?_, ?_, ?_, ?_, ?_, ?_, ?_, ?_, ?_, ?_, ?_, ?_, ?_, ?_, ?_, ?_, ?_, ?_, ?_, ?_, ?_, ?_, ?_, ?_, ?_, ?_, ?_, ?_, ?_, ?_, ?_, ?_, trivial⟩, ?_⟩
   · rintro T_ B_ a_ w_ K_ hT hB hf hsD hk
     exact ob rfl rfl (st_move hsD (evT hT 8 rfl) rfl hf fun _ _ => hk _ _ _ _ ⟨rfl, rfl⟩)
   · rintro T_ B_ a_ w_ K_ hT hB _ _ ⟨rfl, rfl⟩ h72 - hf hsD hk
     exact ob rfl rfl (st_cmp (c := false) hsD (Ev.tmp h72) (.const _) rfl hf rfl rfl fun _ _ => hk _ _ _ _ ⟨rfl, rfl⟩)
   · rintro T_ B_ a_ w_ K_ hT hB _ _ ⟨rfl, rfl⟩ h73 - hf hsD hk
     exact ob rfl rfl (st_move hsD (Ev.tmp h73) rfl hf fun _ _ => hk _ _ _ _ ⟨rfl, rfl⟩)
   · rintro T_ B_ a_ w_ K_ hT hB _ _ ⟨rfl, rfl⟩ h74 - hf hsD hk
     exact ob_gv hsD (gg := true) (v := .int .i64 0) rfl rfl rfl h74 rfl rfl rfl hf (fun _ K1 hK1 => st_move hsD (evT hT 6 rfl) rfl hf hK1) fun _ _ => hk _ _ _ _ ⟨rfl, rfl⟩
   · rintro T_ B_ a_ w_ K_ hT hB _ _ ⟨rfl, rfl⟩ h74 - _ _ ⟨rfl, rfl⟩ h75 - hf hsD hk
     exact ob_gv hsD (gg := true) (v := .bool false) rfl rfl rfl h74 rfl rfl rfl hf (fun _ K1 hK1 => st_cmp (c := false) hsD (Ev.tmp h75) (.const _) rfl hf rfl rfl hK1) fun _ _ => hk _ _ _ _ ⟨rfl, rfl⟩
   · rintro T_ B_ a_ w_ K_ hT hB _ _ ⟨rfl, rfl⟩ h74 - _ _ ⟨rfl, rfl⟩ h76 - hf hsD hk
     exact ob rfl rfl (st_pick hsD (Ev.tmp h74) rfl hf (fun h => by cases h) (fun h => (Ev.tmp h76)) fun _ _ => hk _ _ _ _ ⟨rfl, rfl⟩)
   · rintro T_ B_ a_ w_ K_ hT hB _ _ ⟨rfl, rfl⟩ h77 - hf hsD hk
     exact ob rfl rfl (st_move hsD (Ev.tmp h77) rfl hf fun _ _ => hk _ _ _ _ ⟨rfl, rfl⟩)
   · rintro T_ B_ a_ w_ K_ hT hB _ _ ⟨rfl, rfl⟩ h78 - hf hsD hk
     exact ob_gv hsD (gg := true) (v := .pointer (some ⟨b28, 0, none⟩)) rfl rfl rfl h78 rfl rfl rfl hf (fun _ K1 hK1 => st_field (o' := 0) hsD (evT hT 10 rfl) rfl hf runUnderlying35 rfl sizeOf3 rfl rfl hK1) fun _ _ => hk _ _ _ _ ⟨rfl, rfl⟩
   · rintro T_ B_ a_ w_ K_ hT hB _ _ ⟨rfl, rfl⟩ h78 - _ _ ⟨rfl, rfl⟩ h79 - hf hsD hk
     exact ob_gv hsD (gg := true) (v := .int .i64 t1) rfl rfl rfl h78 rfl rfl rfl hf (fun _ K1 hK1 => st_load1 (o := 0) (off := 0) (v := .int .i64 t1) hsD (Ev.tmp h79) rfl hf isAgg3 (hsD.cellsM (inB hB 2 rfl)) rfl hK1) fun _ _ => hk _ _ _ _ ⟨rfl, rfl⟩
   · rintro T_ B_ a_ w_ K_ hT hB _ _ ⟨rfl, rfl⟩ h78 - hf hsD hk
     exact ob_gv hsD (gg := true) (v := .pointer (some ⟨b28, 1, none⟩)) rfl rfl rfl h78 rfl rfl rfl hf (fun _ K1 hK1 => st_field (o' := 1) hsD (evT hT 10 rfl) rfl hf runUnderlying35 rfl sizeOf3 rfl rfl hK1) fun _ _ => hk _ _ _ _ ⟨rfl, rfl⟩
   · rintro T_ B_ a_ w_ K_ hT hB _ _ ⟨rfl, rfl⟩ h78 - _ _ ⟨rfl, rfl⟩ h81 - hf hsD hk
     exact ob_gv hsD (gg := true) (v := .int .i64 t2) rfl rfl rfl h78 rfl rfl rfl hf (fun _ K1 hK1 => st_load1 (o := 0) (off := 1) (v := .int .i64 t2) hsD (Ev.tmp h81) rfl hf isAgg3 (hsD.cellsM (inB hB 2 rfl)) rfl hK1) fun _ _ => hk _ _ _ _ ⟨rfl, rfl⟩
   · rintro T_ B_ a_ w_ K_ hT hB _ _ ⟨rfl, rfl⟩ h78 - _ _ ⟨rfl, rfl⟩ h80 - _ _ ⟨rfl, rfl⟩ h82 - hf hsD hk
     exact ob_gv hsD (gg := true) (v := .bool false) rfl rfl rfl h78 rfl rfl rfl hf (fun _ K1 hK1 => st_cmp (c := false) hsD (Ev.tmp h80) (Ev.tmp h82) rfl hf rfl (show decide ((t1 : Int) > t2) = false from decide_eq_false (by omega)) hK1) fun _ _ => hk _ _ _ _ ⟨rfl, rfl⟩
   · rintro T_ B_ a_ w_ K_ hT hB _ _ ⟨rfl, rfl⟩ h78 - _ _ ⟨rfl, rfl⟩ h83 - hf hsD hk
     exact ob rfl rfl (st_pick hsD (Ev.tmp h78) rfl hf (fun h => by cases h) (fun h => (Ev.tmp h83)) fun _ _ => hk _ _ _ _ ⟨rfl, rfl⟩)
   · rintro T_ B_ a_ w_ K_ hT hB _ _ ⟨rfl, rfl⟩ h84 - hf hsD hk
     exact ob rfl rfl (st_move hsD (Ev.tmp h84) rfl hf fun _ _ => hk _ _ _ _ ⟨rfl, rfl⟩)
   · rintro T_ B_ a_ w_ K_ hT hB _ _ ⟨rfl, rfl⟩ h85 - hf hsD hk
     exact ob_gv hsD (gg := true) (v := .pointer (some ⟨b26, 2, none⟩)) rfl rfl rfl h85 rfl rfl rfl hf (fun _ K1 hK1 => st_field (o' := 2) hsD (evT hT 12 rfl) rfl hf runUnderlying25 rfl sizeOf3 rfl rfl hK1) fun _ _ => hk _ _ _ _ ⟨rfl, rfl⟩
   · rintro T_ B_ a_ w_ K_ hT hB _ _ ⟨rfl, rfl⟩ h85 - _ _ ⟨rfl, rfl⟩ h86 - hf hsD hk
     exact ob_gv hsD (gg := true) (v := .int .i64 b.count) rfl rfl rfl h85 rfl rfl rfl hf (fun _ K1 hK1 => st_load1 (o := 0) (off := 2) (v := .int .i64 b.count) hsD (Ev.tmp h86) rfl hf isAgg3 (hsD.cellsM (inB hB 3 rfl)) rfl hK1) fun _ _ => hk _ _ _ _ ⟨rfl, rfl⟩
   · rintro T_ B_ a_ w_ K_ hT hB _ _ ⟨rfl, rfl⟩ h85 - hf hsD hk
     exact ob_gv hsD (gg := true) (v := .pointer (some ⟨b26, 3, none⟩)) rfl rfl rfl h85 rfl rfl rfl hf (fun _ K1 hK1 => st_field (o' := 3) hsD (evT hT 12 rfl) rfl hf runUnderlying25 rfl sizeOf3 rfl rfl hK1) fun _ _ => hk _ _ _ _ ⟨rfl, rfl⟩
   · rintro T_ B_ a_ w_ K_ hT hB _ _ ⟨rfl, rfl⟩ h85 - _ _ ⟨rfl, rfl⟩ h88 - hf hsD hk
     exact ob_gv hsD (gg := true) (v := .int .i64 b.err) rfl rfl rfl h85 rfl rfl rfl hf (fun _ K1 hK1 => st_load1 (o := 0) (off := 3) (v := .int .i64 b.err) hsD (Ev.tmp h88) rfl hf isAgg3 (hsD.cellsM (inB hB 3 rfl)) rfl hK1) fun _ _ => hk _ _ _ _ ⟨rfl, rfl⟩
   · rintro T_ B_ a_ w_ K_ hT hB _ _ ⟨rfl, rfl⟩ h85 - _ _ ⟨rfl, rfl⟩ h87 - _ _ ⟨rfl, rfl⟩ h89 - hf hsD hk
     exact ob_gv hsD (gg := true) (v := .int .i64 (b.count - b.err)) rfl rfl rfl h85 rfl rfl rfl hf (fun _ K1 hK1 => st_sub (z := b.count - b.err) hsD (Ev.tmp h87) (Ev.tmp h89) rfl hf rfl (by omega) hK1) fun _ _ => hk _ _ _ _ ⟨rfl, rfl⟩
   · rintro T_ B_ a_ w_ K_ hT hB _ _ ⟨rfl, rfl⟩ h85 - _ _ ⟨rfl, rfl⟩ h90 - hf hsD hk
     exact ob_gv hsD (gg := true) (v := .int .i64 (max 0 (b.count - b.err))) rfl rfl rfl h85 rfl rfl rfl hf (fun _ K1 hK1 => st_max hsD (.const _) (Ev.tmp h90) rfl hf hK1) fun _ _ => hk _ _ _ _ ⟨rfl, rfl⟩
   · rintro T_ B_ a_ w_ K_ hT hB _ _ ⟨rfl, rfl⟩ h85 - hf hsD hk
     exact ob_gv hsD (gg := true) (v := .pointer (some ⟨b26, 2, none⟩)) rfl rfl rfl h85 rfl rfl rfl hf (fun _ K1 hK1 => st_field (o' := 2) hsD (evT hT 12 rfl) rfl hf runUnderlying25 rfl sizeOf3 rfl rfl hK1) fun _ _ => hk _ _ _ _ ⟨rfl, rfl⟩
   · rintro T_ B_ a_ w_ K_ hT hB _ _ ⟨rfl, rfl⟩ h85 - _ _ ⟨rfl, rfl⟩ h92 - hf hsD hk
     exact ob_gv hsD (gg := true) (v := .int .i64 b.count) rfl rfl rfl h85 rfl rfl rfl hf (fun _ K1 hK1 => st_load1 (o := 0) (off := 2) (v := .int .i64 b.count) hsD (Ev.tmp h92) rfl hf isAgg3 (hsD.cellsM (inB hB 3 rfl)) rfl hK1) fun _ _ => hk _ _ _ _ ⟨rfl, rfl⟩
   · rintro T_ B_ a_ w_ K_ hT hB _ _ ⟨rfl, rfl⟩ h85 - hf hsD hk
     exact ob_gv hsD (gg := true) (v := .pointer (some ⟨b26, 3, none⟩)) rfl rfl rfl h85 rfl rfl rfl hf (fun _ K1 hK1 => st_field (o' := 3) hsD (evT hT 12 rfl) rfl hf runUnderlying25 rfl sizeOf3 rfl rfl hK1) fun _ _ => hk _ _ _ _ ⟨rfl, rfl⟩
   · rintro T_ B_ a_ w_ K_ hT hB _ _ ⟨rfl, rfl⟩ h85 - _ _ ⟨rfl, rfl⟩ h94 - hf hsD hk
     exact ob_gv hsD (gg := true) (v := .int .i64 b.err) rfl rfl rfl h85 rfl rfl rfl hf (fun _ K1 hK1 => st_load1 (o := 0) (off := 3) (v := .int .i64 b.err) hsD (Ev.tmp h94) rfl hf isAgg3 (hsD.cellsM (inB hB 3 rfl)) rfl hK1) fun _ _ => hk _ _ _ _ ⟨rfl, rfl⟩
   · rintro T_ B_ a_ w_ K_ hT hB _ _ ⟨rfl, rfl⟩ h85 - _ _ ⟨rfl, rfl⟩ h93 - _ _ ⟨rfl, rfl⟩ h95 - hf hsD hk
     exact ob_gv hsD (gg := true) (v := .int .i64 (b.count + b.err)) rfl rfl rfl h85 rfl rfl rfl hf (fun _ K1 hK1 => st_add (z := b.count + b.err) hsD (Ev.tmp h93) (Ev.tmp h95) rfl hf rfl (by omega) hK1) fun _ _ => hk _ _ _ _ ⟨rfl, rfl⟩
   · rintro T_ B_ a_ w_ K_ hT hB _ _ ⟨rfl, rfl⟩ h85 - _ _ ⟨rfl, rfl⟩ h91 - _ _ ⟨rfl, rfl⟩ h96 - hf hsD hk
     exact ob_gv hsD (gg := true) (v := .agg ⟨[.int .i64 (max 0 (b.count - b.err)), .int .i64 (b.count + b.err)]⟩) rfl rfl rfl h85 rfl rfl rfl hf (fun _ K1 hK1 => st_callv (vs := [.int .i64 (max 0 (b.count - b.err)), .int .i64 (b.count + b.err)]) hsD (.func _) ⟨(Ev.tmp h91), (Ev.tmp h96), trivial⟩ rfl hf call23 rfl (S_v (max 0 (b.count - b.err)) (b.count + b.err) _) hK1) fun _ _ => hk _ _ _ _ ⟨rfl, rfl⟩
   · rintro T_ B_ a_ w_ K_ hT hB _ _ ⟨rfl, rfl⟩ h85 - hf hsD hk
     exact ob_gv hsD (gg := true) (v := .agg ⟨[.int .i64 t1, .int .i64 t2]⟩) rfl rfl rfl h85 rfl rfl rfl hf (fun _ K1 hK1 => st_loadA (o := 0) (off := 0) (vs := [.int .i64 t1, .int .i64 t2]) hsD (evT hT 10 rfl) rfl hf isAgg35 sizeOf35 (hsD.cellsM (inB hB 2 rfl)) rfl hK1) fun _ _ => hk _ _ _ _ ⟨rfl, rfl⟩
   · rintro T_ B_ a_ w_ K_ hT hB _ _ ⟨rfl, rfl⟩ h85 - _ _ ⟨rfl, rfl⟩ h97 - _ _ ⟨rfl, rfl⟩ h98 - hf hsD hk
     exact ob_gv hsD (gg := true) (v := .bool true) rfl rfl rfl h85 rfl rfl rfl hf (fun _ K1 hK1 => st_callv (vs := [.agg ⟨[.int .i64 (max 0 (b.count - b.err)), .int .i64 (b.count + b.err)]⟩, .agg ⟨[.int .i64 t1, .int .i64 t2]⟩]) hsD (.func _) ⟨(Ev.tmp h97), (Ev.tmp h98), trivial⟩ rfl hf call44 rfl (callsV_eq (v' := .bool true) (covers_v (max 0 (b.count - b.err)) (b.count + b.err) t1 t2 _) (by simp only [Value.bool.injEq, Bool.and_eq_true, decide_eq_true_eq]; omega)) hK1) fun _ _ => hk _ _ _ _ ⟨rfl, rfl⟩
   · rintro T_ B_ a_ w_ K_ hT hB _ _ ⟨rfl, rfl⟩ h85 - _ _ ⟨rfl, rfl⟩ h99 - hf hsD hk
     exact ob_gv hsD (gg := true) (v := .bool false) rfl rfl rfl h85 rfl rfl rfl hf (fun _ K1 hK1 => st_not hsD (Ev.tmp h99) rfl hf hK1) fun _ _ => hk _ _ _ _ ⟨rfl, rfl⟩
   · rintro T_ B_ a_ w_ K_ hT hB _ _ ⟨rfl, rfl⟩ h85 - _ _ ⟨rfl, rfl⟩ h100 - hf hsD hk
     exact ob rfl rfl (st_pick hsD (Ev.tmp h85) rfl hf (fun h => by cases h) (fun h => (Ev.tmp h100)) fun _ _ => hk _ _ _ _ ⟨rfl, rfl⟩)
   · rintro T_ B_ a_ w_ K_ hT hB _ _ ⟨rfl, rfl⟩ h101 - hf hsD hk
     exact ob rfl rfl (st_move hsD (Ev.tmp h101) rfl hf fun _ _ => hk _ _ _ _ ⟨rfl, rfl⟩)
   · rintro T_ B_ a_ w_ K_ hT hB _ _ ⟨rfl, rfl⟩ h102 - hf hsD hk
     exact ob_gv hsD (gg := true) (v := .int .i64 (dutyI b t2)) rfl rfl rfl h102 rfl rfl rfl hf (fun _ K1 hK1 => st_move hsD (evT hT 2 rfl) rfl hf hK1) fun _ _ => hk _ _ _ _ ⟨rfl, rfl⟩
   · rintro T_ B_ a_ w_ K_ hT hB _ _ ⟨rfl, rfl⟩ h102 - hf hsD hk
     exact ob_gv hsD (gg := true) (v := .int .i64 (dutyI b t1)) rfl rfl rfl h102 rfl rfl rfl hf (fun _ K1 hK1 => st_move hsD (evT hT 5 rfl) rfl hf hK1) fun _ _ => hk _ _ _ _ ⟨rfl, rfl⟩
   · rintro T_ B_ a_ w_ K_ hT hB _ _ ⟨rfl, rfl⟩ h102 - _ _ ⟨rfl, rfl⟩ h103 - _ _ ⟨rfl, rfl⟩ h104 - hf hsD hk
     exact ob_gv hsD (gg := true) (v := .bool false) rfl rfl rfl h102 rfl rfl rfl hf (fun _ K1 hK1 => st_cmp (c := false) hsD (Ev.tmp h103) (Ev.tmp h104) rfl hf rfl (show decide ((dutyI b t2 : Int) < (dutyI b t1)) = false from decide_eq_false (by omega)) hK1) fun _ _ => hk _ _ _ _ ⟨rfl, rfl⟩
   · rintro T_ B_ a_ w_ K_ hT hB _ _ ⟨rfl, rfl⟩ h102 - _ _ ⟨rfl, rfl⟩ h105 - hf hsD hk
     exact ob rfl rfl (st_pick hsD (Ev.tmp h102) rfl hf (fun h => by cases h) (fun h => (Ev.tmp h105)) fun _ _ => hk _ _ _ _ ⟨rfl, rfl⟩)
   · rintro T_ B_ a_ w_ K_ hT hB _ _ ⟨rfl, rfl⟩ h106 - hf hsD hk
     exact ob rfl rfl (st_move hsD (Ev.tmp h106) rfl hf fun _ _ => hk _ _ _ _ ⟨rfl, rfl⟩)
   · rintro T_ B_ a_ w_ K_ hT hB _ _ ⟨rfl, rfl⟩ h107 - hf hsD hk
     exact ob_gv hsD (gg := true) (v := .int .i64 (hireI b t2)) rfl rfl rfl h107 rfl rfl rfl hf (fun _ K1 hK1 => st_move hsD (evT hT 1 rfl) rfl hf hK1) fun _ _ => hk _ _ _ _ ⟨rfl, rfl⟩
   · rintro T_ B_ a_ w_ K_ hT hB _ _ ⟨rfl, rfl⟩ h107 - hf hsD hk
     exact ob_gv hsD (gg := true) (v := .int .i64 (hireI b t1)) rfl rfl rfl h107 rfl rfl rfl hf (fun _ K1 hK1 => st_move hsD (evT hT 4 rfl) rfl hf hK1) fun _ _ => hk _ _ _ _ ⟨rfl, rfl⟩
   · rintro T_ B_ a_ w_ K_ hT hB _ _ ⟨rfl, rfl⟩ h107 - _ _ ⟨rfl, rfl⟩ h108 - _ _ ⟨rfl, rfl⟩ h109 - hf hsD hk
     exact ob_gv hsD (gg := true) (v := .bool false) rfl rfl rfl h107 rfl rfl rfl hf (fun _ K1 hK1 => st_cmp (c := false) hsD (Ev.tmp h108) (Ev.tmp h109) rfl hf rfl (show decide ((hireI b t2 : Int) < (hireI b t1)) = false from decide_eq_false (by omega)) hK1) fun _ _ => hk _ _ _ _ ⟨rfl, rfl⟩
   · rintro T_ B_ a_ w_ K_ hT hB _ _ ⟨rfl, rfl⟩ h107 - _ _ ⟨rfl, rfl⟩ h110 - hf hsD hk
     exact ob rfl rfl (st_pick hsD (Ev.tmp h107) rfl hf (fun h => by cases h) (fun h => (Ev.tmp h110)) fun _ _ => hk _ _ _ _ ⟨rfl, rfl⟩)
   rintro _ _ ⟨rfl, rfl⟩ _ _ ⟨rfl, rfl⟩ _ _ ⟨rfl, rfl⟩ _ _ ⟨rfl, rfl⟩ _ _ ⟨rfl, rfl⟩ _ _ ⟨rfl, rfl⟩ _ _ ⟨rfl, rfl⟩ _ _ ⟨rfl, rfl⟩ _ _ ⟨rfl, rfl⟩ _ _ ⟨rfl, rfl⟩ _ _ ⟨rfl, rfl⟩ _ _ ⟨rfl, rfl⟩ _ _ ⟨rfl, rfl⟩ _ _ ⟨rfl, rfl⟩ _ _ ⟨rfl, rfl⟩ _ _ ⟨rfl, rfl⟩ _ _ ⟨rfl, rfl⟩ _ _ ⟨rfl, rfl⟩ _ _ ⟨rfl, rfl⟩ _ _ ⟨rfl, rfl⟩ _ _ ⟨rfl, rfl⟩ _ _ ⟨rfl, rfl⟩ _ _ ⟨rfl, rfl⟩ _ _ ⟨rfl, rfl⟩ _ _ ⟨rfl, rfl⟩ _ _ ⟨rfl, rfl⟩ _ _ ⟨rfl, rfl⟩ _ _ ⟨rfl, rfl⟩ _ _ ⟨rfl, rfl⟩ _ _ ⟨rfl, rfl⟩ _ _ ⟨rfl, rfl⟩ _ _ ⟨rfl, rfl⟩ _ _ ⟨rfl, rfl⟩ _ _ ⟨rfl, rfl⟩ _ _ ⟨rfl, rfl⟩ _ _ ⟨rfl, rfl⟩ _ _ ⟨rfl, rfl⟩ _ _ ⟨rfl, rfl⟩ _ _ ⟨rfl, rfl⟩ _ _ ⟨rfl, rfl⟩ a_66 w_66 hs66; clear hs65
   have hs67 := Sx.as (T' := [_, _, _, _, _, _, _, _, _, _, _, _, _, _, _, _, _, _, _, _, _, _, _, _, _, _, _, _, _, _, _, _, _, _, _, _, _, _, _, _, _, _, _, _, _, _, _, _, _, _, _, _, _]) (B' := [_, _, _, _]) rfl rfl hs66; clear hs66
   refine hK39 _ _ ?_; clear hK39
   have hs68 := hs67.keep [39, 40, 41, 43, 44, 45, 47, 49, 50, 51, 52] [_, _, _, _, _, _, _, _, _, _, _] rfl; clear hs67
   have hc40 : false = false := rfl
   refine cd_cond hs68 (Ev.t 0 rfl) (fun h => absurd (hc40.symm.trans h) (by decide)) (fun _ => ?_)
   refine cd_skip ?_
   refine th_norm (hK38 _ _ ?_)
   refine cd_drawn mixed hs68 [⟨112, [], Is (.agg ⟨[.int .i64 (hireI b t1), .int .i64 (hireI b t2)]⟩)⟩, ⟨113, [], Is (.int .i64 (hireI b t1))⟩, ⟨114, [], Is (.int .i64 (hireI b t2))⟩, ⟨115, [1, 2], Is (.agg ⟨[.int .i64 (hireI b t1), .int .i64 (hireI b t2)]⟩)⟩, ⟨116, [0, 3], Is (.bool true)⟩, ⟨117, [4], Is (.bool true)⟩, ⟨118, [5], Is (.agg ⟨[.int .i64 v1, .int .i64 v2]⟩)⟩, ⟨119, [5], Is (.int .i64 (leftI b t1))⟩, ⟨120, [5, 6, 7], Is (.bool true)⟩, ⟨121, [5, 8], Is (.bool true)⟩, ⟨122, [9], Is (.bool true)⟩, ⟨123, [10], Is (.agg ⟨[.int .i64 v1, .int .i64 v2]⟩)⟩, ⟨124, [10], Is (.int .i64 (leftI b t2))⟩, ⟨125, [10, 11, 12], Is (.bool true)⟩, ⟨126, [10, 13], Is (.bool true)⟩, ⟨127, [14], Is (.bool true)⟩, ⟨128, [15], Is (.int .i64 (dutyI b t1))⟩, ⟨129, [15], Is (.int .i64 (hireI b t1))⟩, ⟨130, [15, 16, 17], Is (.int .i64 ((dutyI b t1) + (hireI b t1)))⟩, ⟨131, [15], Is (.int .i64 (leftI b t1))⟩, ⟨132, [15, 18, 19], Is (.int .i64 (((dutyI b t1) + (hireI b t1)) + (leftI b t1)))⟩, ⟨133, [15], Is (.pointer (some ⟨b28, 0, none⟩))⟩, ⟨134, [15, 21], Is (.int .i64 t1)⟩, ⟨135, [15, 20, 22], Is (.bool true)⟩, ⟨136, [15, 23], Is (.bool true)⟩, ⟨137, [24], Is (.bool true)⟩, ⟨138, [25], Is (.pointer (some ⟨b30, 0, none⟩))⟩, ⟨139, [25, 26], Is (.int .i64 (hireI b t1))⟩, ⟨140, [25], Is (.pointer (some ⟨b26, 6, none⟩))⟩, ⟨141, [25, 28], Is (.int .i64 b.guar)⟩, ⟨142, [25, 27, 29], Is (.bool true)⟩, ⟨143, [25, 30], Is (.bool true)⟩, ⟨144, [31], Is (.bool true)⟩, ⟨145, [32], Is (.bool true)⟩, ⟨146, [32, 33], Is (.bool true)⟩] (by kernel_rfl) (by kernel_rfl) fun K41 hK41 => ⟨⟨?_, ?_, ?_, ?_, ?_, ?_, ?_, ?_, ?_, ?_, ?_, ?_, ?_, ?_, ?_, ?_, ?_, ?_, ?_, ?_, ?_, ?_, ?_, ?_, ?_, ?_, ?_, ?_, ?_, ?_, ?_, ?_, ?_, ?_, ?_, trivial⟩, ?_⟩
   · rintro T_ B_ a_ w_ K_ hT hB hf hsD hk
     exact ob rfl rfl (st_loadA (o := 0) (off := 0) (vs := [.int .i64 (hireI b t1), .int .i64 (hireI b t2)]) hsD (evT hT 7 rfl) rfl hf isAgg35 sizeOf35 (hsD.cellsM (inB hB 1 rfl)) rfl fun _ _ => hk _ _ _ _ ⟨rfl, rfl⟩)
   · rintro T_ B_ a_ w_ K_ hT hB hf hsD hk
     exact ob rfl rfl (st_move hsD (evT hT 4 rfl) rfl hf fun _ _ => hk _ _ _ _ ⟨rfl, rfl⟩)
   · rintro T_ B_ a_ w_ K_ hT hB hf hsD hk
     exact ob rfl rfl (st_move hsD (evT hT 2 rfl) rfl hf fun _ _ => hk _ _ _ _ ⟨rfl, rfl⟩)
   · rintro T_ B_ a_ w_ K_ hT hB _ _ ⟨rfl, rfl⟩ h113 - _ _ ⟨rfl, rfl⟩ h114 - hf hsD hk
     exact ob rfl rfl (st_callv (vs := [.int .i64 (hireI b t1), .int .i64 (hireI b t2)]) hsD (.func _) ⟨(Ev.tmp h113), (Ev.tmp h114), trivial⟩ rfl hf call23 rfl (S_v (hireI b t1) (hireI b t2) _) fun _ _ => hk _ _ _ _ ⟨rfl, rfl⟩)
   · rintro T_ B_ a_ w_ K_ hT hB _ _ ⟨rfl, rfl⟩ h112 - _ _ ⟨rfl, rfl⟩ h115 - hf hsD hk
     exact ob rfl rfl (st_bin (z := .bool true) hsD (Ev.tmp h112) (Ev.tmp h115) (fun w_ => (run_eql_35 _ _ (hireI b t1) (hireI b t2) (hireI b t1) (hireI b t2) w_).trans (by rw [show (((((hireI b t1) : Int) == hireI b t1) && (((hireI b t2) : Int) == hireI b t2))) = true from by simp])) rfl hf fun _ _ => hk _ _ _ _ ⟨rfl, rfl⟩)
   · rintro T_ B_ a_ w_ K_ hT hB _ _ ⟨rfl, rfl⟩ h116 - hf hsD hk
     exact ob rfl rfl (st_move hsD (Ev.tmp h116) rfl hf fun _ _ => hk _ _ _ _ ⟨rfl, rfl⟩)
   · rintro T_ B_ a_ w_ K_ hT hB _ _ ⟨rfl, rfl⟩ h117 - hf hsD hk
     exact ob_gv hsD (gg := true) (v := .agg ⟨[.int .i64 v1, .int .i64 v2]⟩) rfl rfl rfl h117 rfl rfl rfl hf (fun _ K1 hK1 => st_loadA (o := 0) (off := 0) (vs := [.int .i64 v1, .int .i64 v2]) hsD (evT hT 6 rfl) rfl hf isAgg35 sizeOf35 (hsD.cellsM (inB hB 0 rfl)) rfl hK1) fun _ _ => hk _ _ _ _ ⟨rfl, rfl⟩
   · rintro T_ B_ a_ w_ K_ hT hB _ _ ⟨rfl, rfl⟩ h117 - hf hsD hk
     exact ob_gv hsD (gg := true) (v := .int .i64 (leftI b t1)) rfl rfl rfl h117 rfl rfl rfl hf (fun _ K1 hK1 => st_move hsD (evT hT 3 rfl) rfl hf hK1) fun _ _ => hk _ _ _ _ ⟨rfl, rfl⟩
   · rintro T_ B_ a_ w_ K_ hT hB _ _ ⟨rfl, rfl⟩ h117 - _ _ ⟨rfl, rfl⟩ h118 - _ _ ⟨rfl, rfl⟩ h119 - hf hsD hk
     exact ob_gv hsD (gg := true) (v := .bool true) rfl rfl rfl h117 rfl rfl rfl hf (fun _ K1 hK1 => st_callv (vs := [.agg ⟨[.int .i64 v1, .int .i64 v2]⟩, .int .i64 (leftI b t1)]) hsD (.func _) ⟨(Ev.tmp h118), (Ev.tmp h119), trivial⟩ rfl hf call41 rfl (callsV_eq (v' := .bool true) (holds_v v1 v2 (leftI b t1) _) (by rw [Value.bool.injEq, Till.within_iff]; omega)) hK1) fun _ _ => hk _ _ _ _ ⟨rfl, rfl⟩
   · rintro T_ B_ a_ w_ K_ hT hB _ _ ⟨rfl, rfl⟩ h117 - _ _ ⟨rfl, rfl⟩ h120 - hf hsD hk
     exact ob rfl rfl (st_pick hsD (Ev.tmp h117) rfl hf (fun h => (Ev.tmp h120)) (fun h => by cases h) fun _ _ => hk _ _ _ _ ⟨rfl, rfl⟩)
   · rintro T_ B_ a_ w_ K_ hT hB _ _ ⟨rfl, rfl⟩ h121 - hf hsD hk
     exact ob rfl rfl (st_move hsD (Ev.tmp h121) rfl hf fun _ _ => hk _ _ _ _ ⟨rfl, rfl⟩)
   · rintro T_ B_ a_ w_ K_ hT hB _ _ ⟨rfl, rfl⟩ h122 - hf hsD hk
     exact ob_gv hsD (gg := true) (v := .agg ⟨[.int .i64 v1, .int .i64 v2]⟩) rfl rfl rfl h122 rfl rfl rfl hf (fun _ K1 hK1 => st_loadA (o := 0) (off := 0) (vs := [.int .i64 v1, .int .i64 v2]) hsD (evT hT 6 rfl) rfl hf isAgg35 sizeOf35 (hsD.cellsM (inB hB 0 rfl)) rfl hK1) fun _ _ => hk _ _ _ _ ⟨rfl, rfl⟩
   · rintro T_ B_ a_ w_ K_ hT hB _ _ ⟨rfl, rfl⟩ h122 - hf hsD hk
     exact ob_gv hsD (gg := true) (v := .int .i64 (leftI b t2)) rfl rfl rfl h122 rfl rfl rfl hf (fun _ K1 hK1 => st_move hsD (evT hT 1 rfl) rfl hf hK1) fun _ _ => hk _ _ _ _ ⟨rfl, rfl⟩
   · rintro T_ B_ a_ w_ K_ hT hB _ _ ⟨rfl, rfl⟩ h122 - _ _ ⟨rfl, rfl⟩ h123 - _ _ ⟨rfl, rfl⟩ h124 - hf hsD hk
     exact ob_gv hsD (gg := true) (v := .bool true) rfl rfl rfl h122 rfl rfl rfl hf (fun _ K1 hK1 => st_callv (vs := [.agg ⟨[.int .i64 v1, .int .i64 v2]⟩, .int .i64 (leftI b t2)]) hsD (.func _) ⟨(Ev.tmp h123), (Ev.tmp h124), trivial⟩ rfl hf call41 rfl (callsV_eq (v' := .bool true) (holds_v v1 v2 (leftI b t2) _) (by rw [Value.bool.injEq, Till.within_iff]; omega)) hK1) fun _ _ => hk _ _ _ _ ⟨rfl, rfl⟩
   · rintro T_ B_ a_ w_ K_ hT hB _ _ ⟨rfl, rfl⟩ h122 - _ _ ⟨rfl, rfl⟩ h125 - hf hsD hk
     exact ob rfl rfl (st_pick hsD (Ev.tmp h122) rfl hf (fun h => (Ev.tmp h125)) (fun h => by cases h) fun _ _ => hk _ _ _ _ ⟨rfl, rfl⟩)
   · rintro T_ B_ a_ w_ K_ hT hB _ _ ⟨rfl, rfl⟩ h126 - hf hsD hk
     exact ob rfl rfl (st_move hsD (Ev.tmp h126) rfl hf fun _ _ => hk _ _ _ _ ⟨rfl, rfl⟩)
   · rintro T_ B_ a_ w_ K_ hT hB _ _ ⟨rfl, rfl⟩ h127 - hf hsD hk
     exact ob_gv hsD (gg := true) (v := .int .i64 (dutyI b t1)) rfl rfl rfl h127 rfl rfl rfl hf (fun _ K1 hK1 => st_move hsD (evT hT 5 rfl) rfl hf hK1) fun _ _ => hk _ _ _ _ ⟨rfl, rfl⟩
   · rintro T_ B_ a_ w_ K_ hT hB _ _ ⟨rfl, rfl⟩ h127 - hf hsD hk
     exact ob_gv hsD (gg := true) (v := .int .i64 (hireI b t1)) rfl rfl rfl h127 rfl rfl rfl hf (fun _ K1 hK1 => st_move hsD (evT hT 4 rfl) rfl hf hK1) fun _ _ => hk _ _ _ _ ⟨rfl, rfl⟩
   · rintro T_ B_ a_ w_ K_ hT hB _ _ ⟨rfl, rfl⟩ h127 - _ _ ⟨rfl, rfl⟩ h128 - _ _ ⟨rfl, rfl⟩ h129 - hf hsD hk
     exact ob_gv hsD (gg := true) (v := .int .i64 ((dutyI b t1) + (hireI b t1))) rfl rfl rfl h127 rfl rfl rfl hf (fun _ K1 hK1 => st_add (z := (dutyI b t1) + (hireI b t1)) hsD (Ev.tmp h128) (Ev.tmp h129) rfl hf rfl (by omega) hK1) fun _ _ => hk _ _ _ _ ⟨rfl, rfl⟩
   · rintro T_ B_ a_ w_ K_ hT hB _ _ ⟨rfl, rfl⟩ h127 - hf hsD hk
     exact ob_gv hsD (gg := true) (v := .int .i64 (leftI b t1)) rfl rfl rfl h127 rfl rfl rfl hf (fun _ K1 hK1 => st_move hsD (evT hT 3 rfl) rfl hf hK1) fun _ _ => hk _ _ _ _ ⟨rfl, rfl⟩
   · rintro T_ B_ a_ w_ K_ hT hB _ _ ⟨rfl, rfl⟩ h127 - _ _ ⟨rfl, rfl⟩ h130 - _ _ ⟨rfl, rfl⟩ h131 - hf hsD hk
     exact ob_gv hsD (gg := true) (v := .int .i64 (((dutyI b t1) + (hireI b t1)) + (leftI b t1))) rfl rfl rfl h127 rfl rfl rfl hf (fun _ K1 hK1 => st_add (z := ((dutyI b t1) + (hireI b t1)) + (leftI b t1)) hsD (Ev.tmp h130) (Ev.tmp h131) rfl hf rfl (by omega) hK1) fun _ _ => hk _ _ _ _ ⟨rfl, rfl⟩
   · rintro T_ B_ a_ w_ K_ hT hB _ _ ⟨rfl, rfl⟩ h127 - hf hsD hk
     exact ob_gv hsD (gg := true) (v := .pointer (some ⟨b28, 0, none⟩)) rfl rfl rfl h127 rfl rfl rfl hf (fun _ K1 hK1 => st_field (o' := 0) hsD (evT hT 8 rfl) rfl hf runUnderlying35 rfl sizeOf3 rfl rfl hK1) fun _ _ => hk _ _ _ _ ⟨rfl, rfl⟩
   · rintro T_ B_ a_ w_ K_ hT hB _ _ ⟨rfl, rfl⟩ h127 - _ _ ⟨rfl, rfl⟩ h133 - hf hsD hk
     exact ob_gv hsD (gg := true) (v := .int .i64 t1) rfl rfl rfl h127 rfl rfl rfl hf (fun _ K1 hK1 => st_load1 (o := 0) (off := 0) (v := .int .i64 t1) hsD (Ev.tmp h133) rfl hf isAgg3 (hsD.cellsM (inB hB 2 rfl)) rfl hK1) fun _ _ => hk _ _ _ _ ⟨rfl, rfl⟩
   · rintro T_ B_ a_ w_ K_ hT hB _ _ ⟨rfl, rfl⟩ h127 - _ _ ⟨rfl, rfl⟩ h132 - _ _ ⟨rfl, rfl⟩ h134 - hf hsD hk
     exact ob_gv hsD (gg := true) (v := .bool true) rfl rfl rfl h127 rfl rfl rfl hf (fun _ K1 hK1 => st_cmp (c := true) hsD (Ev.tmp h132) (Ev.tmp h134) rfl hf rfl (show ((((dutyI b t1) + (hireI b t1)) + (leftI b t1) : Int) == t1) = true from by simp only [beq_iff_eq]; omega) hK1) fun _ _ => hk _ _ _ _ ⟨rfl, rfl⟩
   · rintro T_ B_ a_ w_ K_ hT hB _ _ ⟨rfl, rfl⟩ h127 - _ _ ⟨rfl, rfl⟩ h135 - hf hsD hk
     exact ob rfl rfl (st_pick hsD (Ev.tmp h127) rfl hf (fun h => (Ev.tmp h135)) (fun h => by cases h) fun _ _ => hk _ _ _ _ ⟨rfl, rfl⟩)
   · rintro T_ B_ a_ w_ K_ hT hB _ _ ⟨rfl, rfl⟩ h136 - hf hsD hk
     exact ob rfl rfl (st_move hsD (Ev.tmp h136) rfl hf fun _ _ => hk _ _ _ _ ⟨rfl, rfl⟩)
   · rintro T_ B_ a_ w_ K_ hT hB _ _ ⟨rfl, rfl⟩ h137 - hf hsD hk
     exact ob_gv hsD (gg := true) (v := .pointer (some ⟨b30, 0, none⟩)) rfl rfl rfl h137 rfl rfl rfl hf (fun _ K1 hK1 => st_field (o' := 0) hsD (evT hT 7 rfl) rfl hf runUnderlying35 rfl sizeOf3 rfl rfl hK1) fun _ _ => hk _ _ _ _ ⟨rfl, rfl⟩
   · rintro T_ B_ a_ w_ K_ hT hB _ _ ⟨rfl, rfl⟩ h137 - _ _ ⟨rfl, rfl⟩ h138 - hf hsD hk
     exact ob_gv hsD (gg := true) (v := .int .i64 (hireI b t1)) rfl rfl rfl h137 rfl rfl rfl hf (fun _ K1 hK1 => st_load1 (o := 0) (off := 0) (v := .int .i64 (hireI b t1)) hsD (Ev.tmp h138) rfl hf isAgg3 (hsD.cellsM (inB hB 1 rfl)) rfl hK1) fun _ _ => hk _ _ _ _ ⟨rfl, rfl⟩
   · rintro T_ B_ a_ w_ K_ hT hB _ _ ⟨rfl, rfl⟩ h137 - hf hsD hk
     exact ob_gv hsD (gg := true) (v := .pointer (some ⟨b26, 6, none⟩)) rfl rfl rfl h137 rfl rfl rfl hf (fun _ K1 hK1 => st_field (o' := 6) hsD (evT hT 10 rfl) rfl hf runUnderlying25 rfl sizeOf3 rfl rfl hK1) fun _ _ => hk _ _ _ _ ⟨rfl, rfl⟩
   · rintro T_ B_ a_ w_ K_ hT hB _ _ ⟨rfl, rfl⟩ h137 - _ _ ⟨rfl, rfl⟩ h140 - hf hsD hk
     exact ob_gv hsD (gg := true) (v := .int .i64 b.guar) rfl rfl rfl h137 rfl rfl rfl hf (fun _ K1 hK1 => st_load1 (o := 0) (off := 6) (v := .int .i64 b.guar) hsD (Ev.tmp h140) rfl hf isAgg3 (hsD.cellsM (inB hB 3 rfl)) rfl hK1) fun _ _ => hk _ _ _ _ ⟨rfl, rfl⟩
   · rintro T_ B_ a_ w_ K_ hT hB _ _ ⟨rfl, rfl⟩ h137 - _ _ ⟨rfl, rfl⟩ h139 - _ _ ⟨rfl, rfl⟩ h141 - hf hsD hk
     exact ob_gv hsD (gg := true) (v := .bool true) rfl rfl rfl h137 rfl rfl rfl hf (fun _ K1 hK1 => st_cmp (c := true) hsD (Ev.tmp h139) (Ev.tmp h141) rfl hf rfl (show decide (((hireI b t1) : Int) ≥ b.guar) = true from decide_eq_true (by omega)) hK1) fun _ _ => hk _ _ _ _ ⟨rfl, rfl⟩
   · rintro T_ B_ a_ w_ K_ hT hB _ _ ⟨rfl, rfl⟩ h137 - _ _ ⟨rfl, rfl⟩ h142 - hf hsD hk
     exact ob rfl rfl (st_pick hsD (Ev.tmp h137) rfl hf (fun h => (Ev.tmp h142)) (fun h => by cases h) fun _ _ => hk _ _ _ _ ⟨rfl, rfl⟩)
   · rintro T_ B_ a_ w_ K_ hT hB _ _ ⟨rfl, rfl⟩ h143 - hf hsD hk
     exact ob rfl rfl (st_move hsD (Ev.tmp h143) rfl hf fun _ _ => hk _ _ _ _ ⟨rfl, rfl⟩)
   · rintro T_ B_ a_ w_ K_ hT hB _ _ ⟨rfl, rfl⟩ h144 - hf hsD hk
     exact ob_gv hsD (gg := true) (v := .bool true) rfl rfl rfl h144 rfl rfl rfl hf (fun _ K1 hK1 => st_callv (vs := []) hsD (.func _) trivial rfl hf call14 rfl (counted_v _ (hG.kp hsD.kp (by simp))) hK1) fun _ _ => hk _ _ _ _ ⟨rfl, rfl⟩
   · rintro T_ B_ a_ w_ K_ hT hB _ _ ⟨rfl, rfl⟩ h144 - _ _ ⟨rfl, rfl⟩ h145 - hf hsD hk
     exact ob rfl rfl (st_pick hsD (Ev.tmp h144) rfl hf (fun h => (Ev.tmp h145)) (fun h => by cases h) fun _ _ => hk _ _ _ _ ⟨rfl, rfl⟩)
   rintro _ _ ⟨rfl, rfl⟩ _ _ ⟨rfl, rfl⟩ _ _ ⟨rfl, rfl⟩ _ _ ⟨rfl, rfl⟩ _ _ ⟨rfl, rfl⟩ _ _ ⟨rfl, rfl⟩ _ _ ⟨rfl, rfl⟩ _ _ ⟨rfl, rfl⟩ _ _ ⟨rfl, rfl⟩ _ _ ⟨rfl, rfl⟩ _ _ ⟨rfl, rfl⟩ _ _ ⟨rfl, rfl⟩ _ _ ⟨rfl, rfl⟩ _ _ ⟨rfl, rfl⟩ _ _ ⟨rfl, rfl⟩ _ _ ⟨rfl, rfl⟩ _ _ ⟨rfl, rfl⟩ _ _ ⟨rfl, rfl⟩ _ _ ⟨rfl, rfl⟩ _ _ ⟨rfl, rfl⟩ _ _ ⟨rfl, rfl⟩ _ _ ⟨rfl, rfl⟩ _ _ ⟨rfl, rfl⟩ _ _ ⟨rfl, rfl⟩ _ _ ⟨rfl, rfl⟩ _ _ ⟨rfl, rfl⟩ _ _ ⟨rfl, rfl⟩ _ _ ⟨rfl, rfl⟩ _ _ ⟨rfl, rfl⟩ _ _ ⟨rfl, rfl⟩ _ _ ⟨rfl, rfl⟩ _ _ ⟨rfl, rfl⟩ _ _ ⟨rfl, rfl⟩ _ _ ⟨rfl, rfl⟩ _ _ ⟨rfl, rfl⟩ a_69 w_69 hs69; clear hs68
   have hs70 := Sx.as (T' := [_, _, _, _, _, _, _, _, _, _, _, _, _, _, _, _, _, _, _, _, _, _, _, _, _, _, _, _, _, _, _, _, _, _, _, _, _, _, _, _, _, _, _, _, _, _]) (B' := [_, _, _, _]) rfl rfl hs69; clear hs69
   have hs71 := hs70.keep [0, 1, 2, 3, 4, 5, 6, 7, 8, 9, 10, 11, 12, 13, 14, 15, 16, 17, 18, 19, 20, 21, 22, 23, 24, 25, 26, 27, 28, 29, 30, 31, 32, 33, 34, 35, 36, 37, 38, 39, 40, 41, 42, 43, 45] [_, _, _, _, _, _, _, _, _, _, _, _, _, _, _, _, _, _, _, _, _, _, _, _, _, _, _, _, _, _, _, _, _, _, _, _, _, _, _, _, _, _, _, _, _] rfl; clear hs70
   refine sq rfl (st_assign hs71 (Ev.t 34 rfl) rfl rfl fun _ _ hs72 => ?_); clear hs71
   refine hK41 _ _ ?_; clear hK41
   have hs73 := hs72.keep [0] [_] rfl; clear hs72
   refine cd_retv (vs := [.bool true]) hs73 hQ0 rfl ⟨.tmp 0 rfl, trivial⟩ ?_
   clear hs73 hQ0 hN0
   rfl
end Go.Proofs.YtcnndpedeofbmaaDoor
