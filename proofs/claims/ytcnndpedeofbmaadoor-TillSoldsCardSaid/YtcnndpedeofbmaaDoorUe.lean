/- The till: how many truths there are, with a number of a roll; what is asked first. -/
import Derived.Test.YtcnndpedeofbmaaDoorUd
set_option maxRecDepth 100000
namespace Go.Proofs.YtcnndpedeofbmaaDoor
open Go Go.Sx Go.Till Go.Proofs.Tryd
theorem callsB_imp {P : Program} {f : FuncId} {args : List Value} {w : World} {p q : Value → List (Nat × Option Obj) → Prop} (h : CallsB P f args w p) (hpq : ∀ v bs, p v bs → q v bs) : CallsB P f args w q :=
  Calls.mono h (fun _ _ ⟨v, bs, h1, h2, h3, h4⟩ => ⟨v, bs, h1, h2, h3, hpq v bs h4⟩)
theorem of_all (b : Bx) (A : Option Addr) (n cp : Nat) (A2 : Option Addr) (n2 c2 : Nat) (A3 : Option Addr) (n3 c3 m : Nat) (ss : List Sp) (t1 t2 : Nat) (hn : n ≤ 140737488351232) (hwf : Wf b ss) : ∀ j k : Nat, k + j = b.rolls.length → ofOk b A n cp A2 n2 c2 A3 n3 c3 m ss t1 t2 k := by
  intro j
  induction j with
  | zero => intro k h; exact of_step b A n cp A2 n2 c2 A3 n3 c3 m ss t1 t2 hn hwf k (by omega) (fun h' => by omega)
  | succ j ih => intro k h; exact of_step b A n cp A2 n2 c2 A3 n3 c3 m ss t1 t2 hn hwf k (by omega) (fun _ => ih (k + 1) (by omega))

theorem many_g (b : Bx) (A : Option Addr) (n cp : Nat) (A2 : Option Addr) (n2 c2 : Nat) (A3 : Option Addr) (n3 c3 m : Nat) (ss : List Sp) (k : Nat) (a : Int) (es : Array MapEntry) (clk : Nat) (w : World) (hk : k ≤ b.rolls.length) (ha : 0 ≤ a ∧ a ≤ 15000 * (k : Int)) (hP : RollsAt w A n b.rolls) (hS : SpsAt w A3 n3 ss) (hn : n ≤ 140737488351232) (hwf : Wf b ss) (hE : Ents keyV (memo b ss) es) :
    CallsG Tryd.prog 46 [.agg ⟨boxL b A n cp A2 n2 c2 A3 n3 c3 m⟩, .agg ⟨[.int .i64 (k : Int), .int .i64 a]⟩] (mapC m es clk) w (mapPost b ss m (cnt (right b) ((its b.rolls ss).drop k) a)) := by
 intro hT
 show Calls Tryd.prog 46 ⟨[.agg ⟨boxL b A n cp A2 n2 c2 A3 n3 c3 m⟩, .agg ⟨[.int .i64 (k : Int), .int .i64 a]⟩]⟩ w _
 obtain ⟨o_, ho_, hm⟩ := hT.blk _ List.mem_cons_self; simp only [Option.some.injEq] at ho_; subst ho_
 refine enterG (N := 10) w func46 rfl rfl rfl hT (fun Q0 a_0 hQ0 hN0 hs0 => ?_)
 have hMW : ∀ q ∈ [m], q ∈ [m] ∨ w.heap.size ≤ q := fun q hq => .inl hq
 have hkW : Kp [m] w w := Kp.refl _ _
 have hs1 : Sx 10 [] [(0, .agg ⟨(boxL b A n cp A2 n2 c2 A3 n3 c3 m)⟩), (1, .agg ⟨[.int .i64 (k : Int), .int .i64 a]⟩)] [(m, some (.map es clk))] [m] w _ _ := hs0; clear hs0
 refine cd_region fun K1 hK1 => ?_
 refine sq rfl (st_box hs1 (Ev.t 0 rfl) rfl rfl rfl fun b2 _ _ hs2 => ?_); clear hs1
 refine sq rfl (st_box hs2 (Ev.t 2 rfl) rfl rfl rfl fun b3 _ _ hs3 => ?_); clear hs2
 refine sq rfl (st_assign hs3 (.const _) rfl rfl fun _ _ hs4 => ?_); clear hs3
 refine hK1 _ _ ?_; clear hK1
 have hs5 := hs4.keep [0, 1, 2] [_, _, _] rfl; clear hs4
 refine cd_region fun K4 hK4 => ?_
 refine sq rfl (st_alloc hs5 rfl rfl zeroValue69 rfl fun b5 _ _ hs6 => ?_); clear hs5
 refine hK4 _ _ ?_; clear hK4
 refine cd_region fun K6 hK6 => ?_
 refine sq rfl (st_makeFunc (us := []) (vs := [.pointer (some ⟨b2, 0, none⟩), .pointer (some ⟨b5, 0, none⟩)]) hs6 trivial ⟨(Ev.t 3 rfl), (Ev.t 0 rfl), trivial⟩ rfl rfl fun _ _ hs7 => ?_); clear hs6
 refine sq rfl (st_store (l' := [.func (.func 73) ⟨[]⟩ ⟨[.pointer (some ⟨b2, 0, none⟩), .pointer (some ⟨b5, 0, none⟩)]⟩]) (vs := [.func (.func 73) ⟨[]⟩ ⟨[.pointer (some ⟨b2, 0, none⟩), .pointer (some ⟨b5, 0, none⟩)]⟩]) (i := 0) hs7 (Ev.t 1 rfl) (Ev.t 0 rfl) sizeOf69 rfl rfl rfl rfl rfl rfl fun _ _ hs8 => ?_); clear hs7
 have hs9 := hs8.asB [_, _, _, _] rfl; clear hs8
 refine hK6 _ _ ?_; clear hK6
 have hs10 := hs9.keep [1, 2, 3] [_, _, _] rfl; clear hs9
 refine cd_region fun K7 hK7 => ?_
 refine sq rfl (st_load1 (o := 0) (off := 0) (v := .func (.func 73) ⟨[]⟩ ⟨[.pointer (some ⟨b2, 0, none⟩), .pointer (some ⟨b5, 0, none⟩)]⟩) hs10 (Ev.t 0 rfl) rfl rfl isAgg69 (hs10.cells 0 rfl) rfl fun _ _ hs11 => ?_); clear hs10
 refine sq rfl (st_loadA (o := 0) (off := 0) (vs := [.int .i64 (k : Int), .int .i64 a]) hs11 (Ev.t 3 rfl) rfl rfl isAgg71 sizeOf71 (hs11.cells 1 rfl) rfl fun _ _ hs12 => ?_); clear hs11
 refine sq rfl (st_callG (B1 := [(b5, some (.cells ⟨[.func (.func 73) ⟨[]⟩ ⟨[.pointer (some ⟨b2, 0, none⟩), .pointer (some ⟨b5, 0, none⟩)]⟩]⟩ 69 (0, 0))), (b3, some (.cells ⟨[.int .i64 (k : Int), .int .i64 a]⟩ 71 (0, 0))), (b2, some (.cells ⟨(boxL b A n cp A2 n2 c2 A3 n3 c3 m)⟩ 66 (0, 0)))]) (C := mapC m es clk) (vs := [.agg ⟨[.int .i64 (k : Int), .int .i64 a]⟩]) hs12 (Ev.t 1 rfl) ⟨(Ev.t 0 rfl), trivial⟩ rfl rfl call73 rfl mapC_some (of_all b A n cp A2 n2 c2 A3 n3 c3 m ss b2 b5 hn hwf (b.rolls.length - k) k (by omega) a es clk _ ha (SlAt.kpMap hP (Kp.viaM hkW hs12.kp hMW) hm (fun _ => Nat.succ_pos _)) (SlAt.kpMap hS (Kp.viaM hkW hs12.kp hMW) hm (fun _ => Nat.succ_pos _)) (hs12.cells 2 rfl) (hs12.cells 0 rfl) hE) (fun v_ B_ a_13 w_13 hp9 _ hs13 => ?_)); clear hs12
 obtain ⟨rfl, es5, clk5, rfl, hE5⟩ := hp9
 have hs14 : Sx 10 [] [(9, .int .i64 (cnt (right b) ((its b.rolls ss).drop k) a : Int)), (8, .agg ⟨[.int .i64 (k : Int), .int .i64 a]⟩), (7, .func (.func 73) ⟨[]⟩ ⟨[.pointer (some ⟨b2, 0, none⟩), .pointer (some ⟨b5, 0, none⟩)]⟩), (5, .pointer (some ⟨b5, 0, none⟩)), (4, .int .i64 0), (3, .pointer (some ⟨b3, 0, none⟩))] [(b5, some (.cells ⟨[.func (.func 73) ⟨[]⟩ ⟨[.pointer (some ⟨b2, 0, none⟩), .pointer (some ⟨b5, 0, none⟩)]⟩]⟩ 69 (0, 0))), (b3, some (.cells ⟨[.int .i64 (k : Int), .int .i64 a]⟩ 71 (0, 0))), (b2, some (.cells ⟨(boxL b A n cp A2 n2 c2 A3 n3 c3 m)⟩ 66 (0, 0))), (m, some (.map es5 clk5))] [m] w _ _ := hs13; clear hs13
 have hs15 := hs14.keep [0, 1, 2, 3, 5] [_, _, _, _, _] rfl; clear hs14
 refine sq rfl (st_assign hs15 (Ev.t 0 rfl) rfl rfl fun _ _ hs16 => ?_); clear hs15
 refine hK7 _ _ ?_; clear hK7
 have hs17 := hs16.keep [0] [_] rfl; clear hs16
 have hsR := hs17.blks (B' := mapC m es5 clk5) (.cons _ (.cons _ (.cons _ (List.Sublist.refl _))))
 exact cd_retG (vs := [.int .i64 (cnt (right b) ((its b.rolls ss).drop k) a : Int)]) hsR hQ0 rfl ⟨.tmp 0 rfl, trivial⟩ mapC_some ⟨rfl, es5, clk5, rfl, hE5⟩

theorem Many_v (b : Bx) (A : Option Addr) (n cp : Nat) (A2 : Option Addr) (n2 c2 : Nat) (w : World) (hP : RollsAt w A n b.rolls) (hn : n ≤ 140737488351232) (hF : SpsAt w A2 n2 b.free) (hn2 : n2 ≤ 140737488351232) :
    CallsV Tryd.prog 15 [.agg ⟨(bxL b A n cp A2 n2 c2)⟩] w (.tuple ⟨[.int .i64 b.manyR.1, .int .i64 b.manyR.2]⟩) := by
 refine enter (N := 18) (M := []) w func15 rfl rfl rfl (fun Q0 a_0 hQ0 hN0 hs0 => ?_)
 refine cd_region fun K1 hK1 => ?_
 refine sq rfl (st_box hs0 (Ev.t 0 rfl) rfl rfl rfl fun b2 _ _ hs1 => ?_); clear hs0
 refine sq rfl (st_assign hs1 (.const _) rfl rfl fun _ _ hs2 => ?_); clear hs1
 refine sq rfl (st_assign hs2 (.const _) rfl rfl fun _ _ hs3 => ?_); clear hs2
 refine hK1 _ _ ?_; clear hK1
 have hs4 := hs3.keep [0, 1, 2] [_, _, _] rfl; clear hs3
 refine cd_seq fun K3 hK3 => ?_
 refine cd_region fun K4 hK4 => ?_
 refine sq rfl (st_loadA (o := 0) (off := 0) (vs := (bxL b A n cp A2 n2 c2)) hs4 (Ev.t 2 rfl) rfl rfl isAgg25 sizeOf25 (hs4.cells 0 rfl) rfl fun _ _ hs5 => ?_); clear hs4
 refine sq rfl (st_callv (vs := [.agg ⟨(bxL b A n cp A2 n2 c2)⟩]) hs5 (.func _) ⟨(Ev.t 0 rfl), trivial⟩ rfl rfl call29 rfl (check_v b A n cp A2 n2 c2 _ (hP.kp hs5.kp) hn (hF.kp hs5.kp) hn2) fun _ _ hs6 => ?_); clear hs5
 refine sq rfl (st_assign hs6 (Ev.t 0 rfl) rfl rfl fun _ _ hs7 => ?_); clear hs6
 refine hK4 _ _ ?_; clear hK4
 have hs8 := hs7.keep [0, 3, 4, 5] [_, _, _, _] rfl; clear hs7
 refine cd_region fun K5 hK5 => ?_
 refine sq rfl (st_move hs8 (Ev.t 0 rfl) rfl rfl fun _ _ hs9 => ?_); clear hs8
 refine sq rfl (st_cmp (c := (if b.ok then 0 else 90 : Int) != 0) hs9 (Ev.t 0 rfl) (.const _) rfl rfl rfl rfl fun _ _ hs10 => ?_); clear hs9
 refine hK5 _ _ ?_; clear hK5
 have hs11 := hs10.keep [0, 2, 3, 4, 5] [_, _, _, _, _] rfl; clear hs10
 refine cd_cond hs11 (Ev.t 0 rfl) (fun hc6 => ?_) (fun hc6 => ?_)
 · have hok : b.ok = false := by cases h : b.ok <;> simp [h] at hc6 ⊢
   refine cd_region fun K7 hK7 => ?_
   refine sq rfl (st_move hs11 (Ev.t 1 rfl) rfl rfl fun _ _ hs12 => ?_); clear hs11
   have hs13 := hs12.keep [0, 1, 2, 3, 5] [_, _, _, _, _] rfl; clear hs12
   refine sq rfl (st_assign hs13 (.const _) rfl rfl fun _ _ hs14 => ?_); clear hs13
   have hs15 := hs14.keep [0, 1, 2, 3, 5] [_, _, _, _, _] rfl; clear hs14
   refine sq rfl (st_assign hs15 (Ev.t 1 rfl) rfl rfl fun _ _ hs16 => ?_); clear hs15
   refine hK7 _ _ ?_; clear hK7
   have hs17 := hs16.keep [0, 1] [_, _] rfl; clear hs16
   refine cd_retv (vs := [.int .i64 0, .int .i64 (if b.ok then 0 else 90)]) hs17 (fun a_ w_ h => th_ret (hQ0 a_ w_ h)) rfl ⟨.tmp 1 rfl, .tmp 0 rfl, trivial⟩ ?_
   clear hs17 hQ0 hN0 hK3
   first | (simp [pack, Bx.manyR, hok]; done) | (have e2 : -(max (-(b.many : Int)) (-1000000)) = min (b.many : Int) 1000000 := (by omega); show Value.tuple ⟨[.int .i64 (-(max (-(b.many : Int)) (-1000000))), .int .i64 0]⟩ = _; rw [e2]; first | done | simp [Bx.manyR, hok])
 · have hok : b.ok = true := by cases h : b.ok <;> simp [h] at hc6 ⊢
   have hO := ok_iff.1 hok
   have hmb := cnt_le (g := right b) (hO.wf.small) 0
   have hp4 := pow46 (n := (its b.rolls b.sold).length) (by rw [hO.wf.its_len]; exact hO.n.2)
   refine cd_skip ?_
   refine th_norm (hK3 _ _ ?_)
   refine cd_region fun K8 hK8 => ?_
   refine sq rfl (st_loadA (o := 0) (off := 0) (vs := (bxL b A n cp A2 n2 c2)) hs11 (Ev.t 4 rfl) rfl rfl isAgg25 sizeOf25 (hs11.cells 0 rfl) rfl fun _ _ hs12 => ?_); clear hs11
   refine sq rfl (st_call (vs := [.agg ⟨(bxL b A n cp A2 n2 c2)⟩]) hs12 (.func _) ⟨(Ev.t 0 rfl), trivial⟩ rfl rfl call51 rfl (opened_b b A n cp A2 n2 c2 _ (hP.kp hs12.kp) hn (hF.kp hs12.kp) hn2 hO) fun v10 bs11 a_13 w_13 hp13 hs13 => ?_); clear hs12
   obtain ⟨A9, c9, b9, o9, m9, rfl, hO9, rfl⟩ := hp13
   have hs14 := Sx.as (T' := [_, _, _, _, _, _, _]) (B' := [_, _, _]) rfl rfl hs13; clear hs13
   refine sq rfl (st_callv (vs := []) hs14 (.func _) trivial rfl rfl call47 rfl (first_v  _) fun _ _ hs15 => ?_); clear hs14
   have hs16 := Sx.front hs15 1 rfl; clear hs15
   have hs17 : Sx 18 [] [(12, .agg ⟨[.int .i64 0, .int .i64 0]⟩), (11, .agg ⟨(boxL b A n cp A2 n2 c2 A9 n c9 m9)⟩), (10, .agg ⟨(bxL b A n cp A2 n2 c2)⟩), (8, .bool ((if b.ok then 0 else 90 : Int) != 0)), (4, .int .i64 (if b.ok then 0 else 90)), (3, .int .i64 0), (2, .int .i64 0), (1, .pointer (some ⟨b2, 0, none⟩))] [(m9, some (.map #[] 0)), (b9, o9), (b2, some (.cells ⟨(bxL b A n cp A2 n2 c2)⟩ 25 (0, 0)))] [] w _ _ := hs16; clear hs16
   refine sq rfl (st_callGF (C := mapC m9 #[] 0) (vs := [.agg ⟨(boxL b A n cp A2 n2 c2 A9 n c9 m9)⟩, .agg ⟨[.int .i64 0, .int .i64 0]⟩]) hs17 (.func _) ⟨(Ev.t 1 rfl), (Ev.t 0 rfl), trivial⟩ rfl rfl call46 rfl mapC_some (many_g b A n cp A2 n2 c2 A9 n c9 m9 b.sold 0 0 #[] 0 _ (Nat.zero_le _) (by omega) (hP.kp hs17.kp) (by have h := hO9.at hs17 1 rfl; rw [soldlen hO, ← hP.len] at h; exact h) hn (hO.wf) (fun e he => by cases he)) (fun v_ B_ a_18 w_18 hp9 _ hs18 => ?_)); clear hs17
   obtain ⟨rfl, es18, clk18, rfl, hE18⟩ := hp9
   have hs19 : Sx 18 [] [(13, .int .i64 (cnt (right b) (its b.rolls b.sold) 0 : Int)), (12, .agg ⟨[.int .i64 0, .int .i64 0]⟩), (11, .agg ⟨(boxL b A n cp A2 n2 c2 A9 n c9 m9)⟩), (10, .agg ⟨(bxL b A n cp A2 n2 c2)⟩), (8, .bool ((if b.ok then 0 else 90 : Int) != 0)), (4, .int .i64 (if b.ok then 0 else 90)), (3, .int .i64 0), (2, .int .i64 0), (1, .pointer (some ⟨b2, 0, none⟩))] [(m9, some (.map es18 clk18)), (b9, o9), (b2, some (.cells ⟨(bxL b A n cp A2 n2 c2)⟩ 25 (0, 0)))] [] w _ _ := hs18; clear hs18
   refine sq rfl (st_neg hs19 (Ev.t 0 rfl) rfl rfl (by omega) fun _ _ hs20 => ?_); clear hs19
   refine sq rfl (st_buildSlice hs20 (qs := [(0, .int .i64 (-1000000))]) (e := 3) (l := [.int .i64 (-1000000)]) ⟨(.const _), trivial⟩ rfl rfl rfl (fun _ => by kernel_rfl) fun b12 _ _ hs21 => ?_); clear hs20
   refine sq rfl (st_callv (vs := [.int .i64 (-(cnt (right b) (its b.rolls b.sold) 0 : Int)), .slice (some ⟨b12, 0, none⟩) 1 1]) hs21 (.func _) ⟨(Ev.t 1 rfl), (Ev.t 0 rfl), trivial⟩ rfl rfl call49 rfl (great_v (-(cnt (right b) (its b.rolls b.sold) 0 : Int)) (-1000000) b12 _ (hs21.cells 0 rfl)) fun _ _ hs22 => ?_); clear hs21
   refine sq rfl (st_neg hs22 (Ev.t 0 rfl) rfl rfl (by omega) fun _ _ hs23 => ?_); clear hs22
   have hs24 := hs23.keep [0, 1, 2, 3, 4, 5, 6, 7, 8, 9, 10, 12] [_, _, _, _, _, _, _, _, _, _, _, _] rfl; clear hs23
   refine sq rfl (st_assign hs24 (Ev.t 0 rfl) rfl rfl fun _ _ hs25 => ?_); clear hs24
   have hs26 := hs25.keep [0, 1, 2, 3, 4, 5, 6, 7, 8, 9, 10, 12] [_, _, _, _, _, _, _, _, _, _, _, _] rfl; clear hs25
   refine sq rfl (st_assign hs26 (.const _) rfl rfl fun _ _ hs27 => ?_); clear hs26
   refine hK8 _ _ ?_; clear hK8
   have hs28 := hs27.keep [0, 1] [_, _] rfl; clear hs27
   refine cd_retv (vs := [.int .i64 (-(max (-(cnt (right b) (its b.rolls b.sold) 0 : Int)) (-1000000))), .int .i64 0]) hs28 hQ0 rfl ⟨.tmp 1 rfl, .tmp 0 rfl, trivial⟩ ?_
   clear hs28 hQ0 hN0
   first | (simp [pack, Bx.manyR, hok]; done) | (have e2 : -(max (-(b.many : Int)) (-1000000)) = min (b.many : Int) 1000000 := (by omega); show Value.tuple ⟨[.int .i64 (-(max (-(b.many : Int)) (-1000000))), .int .i64 0]⟩ = _; rw [e2]; first | done | simp [Bx.manyR, hok])

theorem bound_b (b : Bx) (A : Option Addr) (n cp : Nat) (A2 : Option Addr) (n2 c2 : Nat) (A3 : Option Addr) (n3 c3 m : Nat) (ss : List Sp) (k : Nat) (s : Sp) (hsk : ss[k]? = some s) (x : Int) (w : World) (hS : SpsAt w A3 n3 ss) (hk3 : n3 ≤ 1000) (hc3 : n3 ≤ c3) :
    CallsB Tryd.prog 75 [.agg ⟨boxL b A n cp A2 n2 c2 A3 n3 c3 m⟩, .int .i64 (k : Int), .int .i64 x] w (fun v bs => (within x s.lo s.hi = false ∧ v = .tuple ⟨[.agg ⟨boxL b A n cp A2 n2 c2 A3 n3 c3 m⟩, .bool false]⟩ ∧ bs = []) ∨ (within x s.lo s.hi = true ∧ ∃ A8 c8 b8 o8 m8, v = .tuple ⟨[.agg ⟨boxL b A n cp A2 n2 c2 A8 n3 c8 m8⟩, .bool true]⟩ ∧ Sx.Own spL 2 35 A8 c8 (ss.set k (Sp.mk x x)) b8 o8 ∧ bs = [(b8, o8), (m8, some (.map #[] 0))])) := by
 have hl3 := hS.len
 have hkl := (List.getElem?_eq_some_iff.1 hsk).1
 have hlk : (ss.take k).length = k := by rw [List.length_take]; omega
 have hZ : (ss.take k ++ [Sp.mk x x]).length = k + 1 := by simp only [List.length_append, hlk, List.length_cons, List.length_nil]
 refine enter (N := 39) (M := []) w func75 rfl rfl rfl (fun Q0 a_0 hQ0 hN0 hs0 => ?_)
 refine cd_region fun K1 hK1 => ?_
 refine sq rfl (st_box hs0 (Ev.t 0 rfl) rfl rfl rfl fun b2 _ _ hs1 => ?_); clear hs0
 refine sq rfl (st_alloc hs1 rfl rfl zeroValue66 rfl fun b3 _ _ hs2 => ?_); clear hs1
 refine sq rfl (st_assign hs2 (.const _) rfl rfl fun _ _ hs3 => ?_); clear hs2
 refine hK1 _ _ ?_; clear hK1
 have hs4 := hs3.keep [0, 1, 2, 4, 5] [_, _, _, _, _] rfl; clear hs3
 refine cd_region fun K4 hK4 => ?_
 refine sq rfl (st_loadA (o := 0) (off := 0) (vs := (boxL b A n cp A2 n2 c2 A3 n3 c3 m)) hs4 (Ev.t 2 rfl) rfl rfl isAgg66 sizeOf66 (hs4.cells 1 rfl) rfl fun _ _ hs5 => ?_); clear hs4
 refine sq rfl (st_makeFunc (us := [.agg ⟨(boxL b A n cp A2 n2 c2 A3 n3 c3 m)⟩]) (vs := []) hs5 ⟨(Ev.t 0 rfl), trivial⟩ trivial rfl rfl fun _ _ hs6 => ?_); clear hs5
 refine sq rfl (st_assign hs6 (Ev.t 0 rfl) rfl rfl fun _ _ hs7 => ?_); clear hs6
 refine hK4 _ _ ?_; clear hK4
 have hs8 := hs7.keep [0, 3, 4, 5, 6, 7] [_, _, _, _, _, _] rfl; clear hs7
 refine cd_seq fun K5 hK5 => ?_
 refine cd_region fun K6 hK6 => ?_
 refine sq rfl (st_move hs8 (Ev.t 0 rfl) rfl rfl fun _ _ hs9 => ?_); clear hs8
 refine sq rfl (st_move hs9 (Ev.t 5 rfl) rfl rfl fun _ _ hs10 => ?_); clear hs9
 refine sq rfl (st_move hs10 (Ev.t 7 rfl) rfl rfl fun _ _ hs11 => ?_); clear hs10
 refine sq rfl (st_callv (vs := [.int .i64 (k : Int), .int .i64 x]) hs11 (Ev.t 2 rfl) ⟨(Ev.t 1 rfl), (Ev.t 0 rfl), trivial⟩ rfl rfl call53 rfl (can_v b A n cp A2 n2 c2 A3 n3 c3 m ss k s hsk x _ (hS.kp hs11.kp) (by omega)) fun _ _ hs12 => ?_); clear hs11
 refine sq rfl (st_not hs12 (Ev.t 0 rfl) rfl rfl fun _ _ hs13 => ?_); clear hs12
 refine hK6 _ _ ?_; clear hK6
 have hs14 := hs13.keep [0, 6, 7, 8, 9, 10] [_, _, _, _, _, _] rfl; clear hs13
 refine cd_cond hs14 (Ev.t 0 rfl) (fun hc7 => ?_) (fun hc7 => ?_)
 · have hcan : within x s.lo s.hi = false := by simpa using hc7
   refine cd_region fun K8 hK8 => ?_
   refine sq rfl (st_loadA (o := 0) (off := 0) (vs := (boxL b A n cp A2 n2 c2 A3 n3 c3 m)) hs14 (Ev.t 3 rfl) rfl rfl isAgg66 sizeOf66 (hs14.cells 1 rfl) rfl fun _ _ hs15 => ?_); clear hs14
   refine sq rfl (st_store (l' := (boxL b A n cp A2 n2 c2 A3 n3 c3 m)) (vs := (boxL b A n cp A2 n2 c2 A3 n3 c3 m)) (i := 0) hs15 (Ev.t 3 rfl) (Ev.t 0 rfl) sizeOf66 rfl rfl rfl rfl rfl rfl fun _ _ hs16 => ?_); clear hs15
   have hs17 := hs16.asB [_, _] rfl; clear hs16
   have hs18 := hs17.keep [0, 1, 3, 4, 5, 6] [_, _, _, _, _, _] rfl; clear hs17
   refine sq rfl (st_assign hs18 (.const _) rfl rfl fun _ _ hs19 => ?_); clear hs18
   refine hK8 _ _ ?_; clear hK8
   have hs20 := hs19.keep [0, 3] [_, _] rfl; clear hs19
   exact cd_ret (vs := [.agg ⟨(boxL b A n cp A2 n2 c2 A3 n3 c3 m)⟩, .bool false]) (bs := []) hs20 (fun a_ w_ h => th_ret (hQ0 a_ w_ h)) rfl ⟨resA (o := 0) (off := 0) (vs := (boxL b A n cp A2 n2 c2 A3 n3 c3 m)) 1 rfl isAgg66 sizeOf66 (hs20.cells 0 rfl) rfl, .tmp 0 rfl, trivial⟩ (List.nil_sublist _) (.inl ⟨hcan, rfl, rfl⟩)
 · have hcan : within x s.lo s.hi = true := by simpa using hc7
   refine cd_skip ?_
   refine th_norm (hK5 _ _ ?_)
   refine cd_region fun K9 hK9 => ?_
   refine sq rfl (st_field (o' := 7) hs14 (Ev.t 3 rfl) rfl rfl runUnderlying66 rfl sizeOf23 rfl rfl fun _ _ hs15 => ?_); clear hs14
   refine sq rfl (st_load1 (o := 0) (off := 7) (v := .slice A3 n3 c3) hs15 (Ev.t 0 rfl) rfl rfl isAgg23 (hs15.cells 1 rfl) rfl fun _ _ hs16 => ?_); clear hs15
   refine sq rfl (st_move hs16 (Ev.t 6 rfl) rfl rfl fun _ _ hs17 => ?_); clear hs16
   refine sq rfl (st_move hs17 (Ev.t 7 rfl) rfl rfl fun _ _ hs18 => ?_); clear hs17
   refine sq rfl (st_slice3 (h := k) hs18 (Ev.t 2 rfl) (Ev.t 1 rfl) (Ev.t 0 rfl) rfl rfl runUnderlying23 sizeOf35 (by omega) (fun A8 a_19 w_19 hA8 hs19 => ?_)); clear hs18
   have hs20 : Sx 39 [] [(22, .slice A8 k k), (21, .int .i64 (k : Int)), (20, .int .i64 (k : Int)), (19, .slice A3 n3 c3), (18, .pointer (some ⟨b2, 7, none⟩)), (16, .bool (!(within x s.lo s.hi))), (7, .bool false), (6, .pointer (some ⟨b3, 0, none⟩)), (3, .pointer (some ⟨b2, 0, none⟩)), (1, .int .i64 (k : Int)), (2, .int .i64 x)] [(b3, some (.cells ⟨[.slice none 0 0, .slice none 0 0, .int .i64 0, .int .i64 0, .int .i64 0, .int .i64 0, .int .i64 0, .slice none 0 0, .map none]⟩ 66 (0, 0))), (b2, some (.cells ⟨(boxL b A n cp A2 n2 c2 A3 n3 c3 m)⟩ 66 (0, 0)))] [] w _ _ := hs19; clear hs19
   have hs21 := Sx.keepE [0, 1, 2, 3, 4, 5, 6, 7, 8, 9, 10] [(22, .slice A8 ((ss.take k).length) ((ss.take k).length)), (21, _), (20, _), (19, _), (18, _), (16, _), (7, _), (6, _), (3, _), (1, _), (2, _)] ⟨⟨_, rfl, (by rw [hlk])⟩, ⟨_, rfl, rfl⟩, ⟨_, rfl, rfl⟩, ⟨_, rfl, rfl⟩, ⟨_, rfl, rfl⟩, ⟨_, rfl, rfl⟩, ⟨_, rfl, rfl⟩, ⟨_, rfl, rfl⟩, ⟨_, rfl, rfl⟩, ⟨_, rfl, rfl⟩, ⟨_, rfl, rfl⟩, trivial⟩ hs20; clear hs20
   refine sq rfl (st_move hs21 (Ev.t 10 rfl) rfl rfl fun _ _ hs22 => ?_); clear hs21
   refine sq rfl (st_move hs22 (Ev.t 11 rfl) rfl rfl fun _ _ hs23 => ?_); clear hs22
   refine sq rfl (st_build hs23 (qs := [(0, .int .i64 x), (1, .int .i64 x)]) (v := .agg ⟨[.int .i64 x, .int .i64 x]⟩) ⟨(Ev.t 1 rfl), (Ev.t 0 rfl), trivial⟩ rfl rfl rfl (fun _ => by kernel_rfl) fun _ _ hs24 => ?_); clear hs23
   refine sq rfl (st_buildSlice hs24 (qs := [(0, .agg ⟨[.int .i64 x, .int .i64 x]⟩)]) (e := 35) (l := [.int .i64 x, .int .i64 x]) ⟨(Ev.t 0 rfl), trivial⟩ rfl rfl rfl (fun _ => by kernel_rfl) fun b10 _ _ hs25 => ?_); clear hs24
   refine sq rfl (st_appendF (enc := spL) (zs := ss.take k) (ys := [Sp.mk x x]) hs25 (Ev.t 4 rfl) (Ev.t 0 rfl) rfl rfl underlying23 (show (Tryd.prog.info? 35).map (fun i => (i.zero, i.size, i.bytes)) = some (some (.agg #[.int .i64 0, .int .i64 0]), 2, 16) by kernel_rfl) rfl (fun _ => rfl) (by rw [hlk]; exact SlAt.take (hS.kp hs25.kp) (by omega) hA8) (sl_at (enc := spL) (sz := 2) (ys := [Sp.mk x x]) (fun _ => rfl) (by decide) (hs25.cells 0 rfl)) (by decide) (by omega) (by omega) (fun A9 c9 b9 o9 a_26 w_26 hown9 hs26 => ?_)); clear hs25
   have hs27 : Sx 39 [] [(27, .slice A9 ((ss.take k).length + 1) c9), (26, .slice (some ⟨b10, 0, none⟩) 1 1), (25, .agg ⟨[.int .i64 x, .int .i64 x]⟩), (24, .int .i64 x), (23, .int .i64 x), (22, .slice A8 ((ss.take k).length) ((ss.take k).length)), (21, .int .i64 (k : Int)), (20, .int .i64 (k : Int)), (19, .slice A3 n3 c3), (18, .pointer (some ⟨b2, 7, none⟩)), (16, .bool (!(within x s.lo s.hi))), (7, .bool false), (6, .pointer (some ⟨b3, 0, none⟩)), (3, .pointer (some ⟨b2, 0, none⟩)), (1, .int .i64 (k : Int)), (2, .int .i64 x)] [(b9, o9), (b10, some (.cells ⟨[.int .i64 x, .int .i64 x]⟩ 35 (0, 0))), (b3, some (.cells ⟨[.slice none 0 0, .slice none 0 0, .int .i64 0, .int .i64 0, .int .i64 0, .int .i64 0, .int .i64 0, .slice none 0 0, .map none]⟩ 66 (0, 0))), (b2, some (.cells ⟨(boxL b A n cp A2 n2 c2 A3 n3 c3 m)⟩ 66 (0, 0)))] [] w _ _ := hs26; clear hs26
   have hs28 := Sx.keepE [0, 1, 2, 3, 4, 5, 6, 7, 8, 9, 10, 11, 12, 13, 14, 15] [(27, .slice A9 ((ss.take k ++ [Sp.mk x x]).length) c9), (26, _), (25, _), (24, _), (23, _), (22, _), (21, _), (20, _), (19, _), (18, _), (16, _), (7, _), (6, _), (3, _), (1, _), (2, _)] ⟨⟨_, rfl, (by rw [hZ, hlk])⟩, ⟨_, rfl, rfl⟩, ⟨_, rfl, rfl⟩, ⟨_, rfl, rfl⟩, ⟨_, rfl, rfl⟩, ⟨_, rfl, rfl⟩, ⟨_, rfl, rfl⟩, ⟨_, rfl, rfl⟩, ⟨_, rfl, rfl⟩, ⟨_, rfl, rfl⟩, ⟨_, rfl, rfl⟩, ⟨_, rfl, rfl⟩, ⟨_, rfl, rfl⟩, ⟨_, rfl, rfl⟩, ⟨_, rfl, rfl⟩, ⟨_, rfl, rfl⟩, trivial⟩ hs27; clear hs27
   refine sq rfl (st_assign hs28 (Ev.t 0 rfl) rfl rfl fun _ _ hs29 => ?_); clear hs28
   refine hK9 _ _ ?_; clear hK9
   have hs30 := hs29.keep [0, 12, 13, 14, 15] [_, _, _, _, _] rfl; clear hs29
   have hs31 := Sx.front hs30 0 rfl; clear hs30
   refine cd_drawS mixed [8] ⟨OwX spL 2 35 ((ss.take k ++ [Sp.mk x x]) ++ ss.drop (k + 1)), fun n_ x_ => match n_ with | 0 => [] | _ => [(36, .slice x_.A ((ss.take k ++ [Sp.mk x x]).length + (n3 - (k + 1))) x_.c)], fun n_ x_ => match n_ with | 0 => [(b9, o9)] | _ => [(x_.b, x_.o)]⟩ (OwX.zero (enc := spL) (sz := 2) (fun _ => rfl) 35 ((ss.take k ++ [Sp.mk x x]) ++ ss.drop (k + 1))) hs31 [⟨28, [], Is (.pointer (some ⟨b2, 0, none⟩))⟩, ⟨29, [0], Is (.agg ⟨(bxL b A n cp A2 n2 c2)⟩)⟩, ⟨30, [], Is (.slice A9 ((ss.take k ++ [Sp.mk x x]).length) c9)⟩, ⟨31, [], Is (.pointer (some ⟨b2, 7, none⟩))⟩, ⟨32, [3], Is (.slice A3 n3 c3)⟩, ⟨33, [], Is (.int .i64 (k : Int))⟩, ⟨34, [5], Is (.int .i64 ((k : Int) + 1))⟩, ⟨35, [4, 6], Is (.slice (if c3 = k + 1 then A3 else A3.map (·.add ((k + 1) * 2))) (n3 - (k + 1)) (c3 - (k + 1)))⟩, ⟨36, [2, 7], Is undef⟩, ⟨37, [], fun v_ bs_ => ∃ b12, v_ = .map (some b12) ∧ bs_ = [(b12, some (.map #[] 0))]⟩] (by kernel_rfl) (fun n_ _ => by rcases n_ with _ | _ <;> rfl) (by kernel_rfl) fun K11 hK11 => ⟨⟨?_, ?_, ?_, ?_, ?_, ?_, ?_, ?_, ?_, ?_, trivial⟩, ?_⟩
   · rintro T_ B_ a_ w_ K_ hT hB hf hsD hk
     exact ob rfl rfl (st_field (o' := 0) hsD (evT hT 3 rfl) rfl hf runUnderlying66 rfl sizeOf25 rfl rfl fun _ _ => hk _ _ _ _ ⟨rfl, rfl⟩)
   · rintro T_ B_ a_ w_ K_ hT hB _ _ ⟨rfl, rfl⟩ h28 - hf hsD hk
     exact ob rfl rfl (st_loadA (o := 0) (off := 0) (vs := (bxL b A n cp A2 n2 c2)) hsD (Ev.tmp h28) rfl hf isAgg25 sizeOf25 (hsD.cellsM (inB hB 2 rfl)) rfl fun _ _ => hk _ _ _ _ ⟨rfl, rfl⟩)
   · rintro T_ B_ a_ w_ K_ hT hB hf hsD hk
     exact ob rfl rfl (st_move hsD (evT hT 0 rfl) rfl hf fun _ _ => hk _ _ _ _ ⟨rfl, rfl⟩)
   · rintro T_ B_ a_ w_ K_ hT hB hf hsD hk
     exact ob rfl rfl (st_field (o' := 7) hsD (evT hT 3 rfl) rfl hf runUnderlying66 rfl sizeOf23 rfl rfl fun _ _ => hk _ _ _ _ ⟨rfl, rfl⟩)
   · rintro T_ B_ a_ w_ K_ hT hB _ _ ⟨rfl, rfl⟩ h31 - hf hsD hk
     exact ob rfl rfl (st_load1 (o := 0) (off := 7) (v := .slice A3 n3 c3) hsD (Ev.tmp h31) rfl hf isAgg23 (hsD.cellsM (inB hB 2 rfl)) rfl fun _ _ => hk _ _ _ _ ⟨rfl, rfl⟩)
   · rintro T_ B_ a_ w_ K_ hT hB hf hsD hk
     exact ob rfl rfl (st_move hsD (evT hT 4 rfl) rfl hf fun _ _ => hk _ _ _ _ ⟨rfl, rfl⟩)
   · rintro T_ B_ a_ w_ K_ hT hB _ _ ⟨rfl, rfl⟩ h33 - hf hsD hk
     exact ob rfl rfl (st_add (z := (k : Int) + 1) hsD (Ev.tmp h33) (.const _) rfl hf rfl (by omega) fun _ _ => hk _ _ _ _ ⟨rfl, rfl⟩)
   · rintro T_ B_ a_ w_ K_ hT hB _ _ ⟨rfl, rfl⟩ h32 - _ _ ⟨rfl, rfl⟩ h34 - hf hsD hk
     exact ob rfl rfl (st_sliceLo (l := k + 1) hsD (Ev.tmp h32) (Ev.tmp h34) rfl hf runUnderlying23 sizeOf35 (by omega) fun _ _ => hk _ _ _ _ ⟨rfl, rfl⟩)
   · rintro T_ B_ a_ w_ K_ x_ hT hB _ _ ⟨rfl, rfl⟩ h30 - _ _ ⟨rfl, rfl⟩ h35 - hf hsD hk
     exact ob rfl rfl (st_append (enc := spL) (zs := (ss.take k ++ [Sp.mk x x])) (ys := ss.drop (k + 1)) (c := c9) (i := 0) (b := b9) (o := o9) hsD (Ev.tmp (List.mem_append_right _ h30)) (Ev.tmp (List.mem_append_right _ h35)) rfl hf underlying23 (show (Tryd.prog.info? 35).map (fun i => (i.zero, i.size, i.bytes)) = some (some (.agg #[.int .i64 0, .int .i64 0]), 2, 16) by kernel_rfl) rfl (fun _ => rfl) (fun _ u hu => by simp only [spL, List.mem_cons, List.not_mem_nil, or_false] at hu; rcases hu with rfl | rfl <;> rfl) hown9 rfl (SlAt.drop (hS.kp hsD.kp) (k + 1) hc3) (by omega) (by omega) (fun A7 c7 b7 o7 a_1 w_1 hown7 h1 => hk ⟨A7, c7, b7, o7, hown7⟩ _ _ h1))
   · rintro T_ B_ a_ w_ K_ hT hB hf hsD hk
     exact ob rfl rfl (st_makeMap hsD rfl hf fun b12 _ _ => hk _ _ _ _ ⟨b12, rfl, rfl⟩)
   rintro _ _ ⟨rfl, rfl⟩
   rintro _ _ ⟨rfl, rfl⟩
   rintro _ _ ⟨rfl, rfl⟩
   rintro _ _ ⟨rfl, rfl⟩
   rintro _ _ ⟨rfl, rfl⟩
   rintro _ _ ⟨rfl, rfl⟩
   rintro _ _ ⟨rfl, rfl⟩
   rintro _ _ ⟨rfl, rfl⟩
   rintro _ _ ⟨b12, rfl, rfl⟩
   intro x_ a_32 w_32 hs32
   clear hs31
   have hs33 := Sx.as (T' := [_, _, _, _, _, _, _, _, _, _, _, _, _, _, _]) (B' := [_, _, _, _, _]) rfl rfl hs32; clear hs32
   refine sq rfl (st_build hs33 (qs := [(0, .agg ⟨(bxL b A n cp A2 n2 c2)⟩), (1, .slice x_.A ((ss.take k ++ [Sp.mk x x]).length + (n3 - (k + 1))) x_.c), (2, .map (some b12))]) (v := .agg ⟨[.slice A n cp, .slice A2 n2 c2, .int .i64 b.count, .int .i64 b.err, .int .i64 b.duty, .int .i64 b.share, .int .i64 b.guar, .slice x_.A ((ss.take k ++ [Sp.mk x x]).length + (n3 - (k + 1))) x_.c, .map (some b12)]⟩) ⟨(Ev.t 2 rfl), (Ev.t 0 rfl), (Ev.t 9 rfl), trivial⟩ rfl rfl rfl (fun _ => by kernel_rfl) fun _ _ hs34 => ?_); clear hs33
   refine sq rfl (st_store (l' := [.slice A n cp, .slice A2 n2 c2, .int .i64 b.count, .int .i64 b.err, .int .i64 b.duty, .int .i64 b.share, .int .i64 b.guar, .slice x_.A ((ss.take k ++ [Sp.mk x x]).length + (n3 - (k + 1))) x_.c, .map (some b12)]) (vs := [.slice A n cp, .slice A2 n2 c2, .int .i64 b.count, .int .i64 b.err, .int .i64 b.duty, .int .i64 b.share, .int .i64 b.guar, .slice x_.A ((ss.take k ++ [Sp.mk x x]).length + (n3 - (k + 1))) x_.c, .map (some b12)]) (i := 3) hs34 (Ev.t 13 rfl) (Ev.t 0 rfl) sizeOf66 rfl rfl rfl rfl rfl rfl fun _ _ hs35 => ?_); clear hs34
   have hs36 := hs35.asB [_, _, _, _, _] rfl; clear hs35
   have hs37 := hs36.keep [0, 1, 2, 3, 4, 5, 6, 7, 8, 9, 10, 11, 13, 14, 15] [_, _, _, _, _, _, _, _, _, _, _, _, _, _, _] rfl; clear hs36
   refine sq rfl (st_assign hs37 (.const _) rfl rfl fun _ _ hs38 => ?_); clear hs37
   refine hK11 _ _ ?_; clear hK11
   have hs39 := hs38.keep [0, 13] [_, _] rfl; clear hs38
   have hset : (ss.take k ++ [Sp.mk x x]) ++ ss.drop (k + 1) = ss.set k (Sp.mk x x) := by rw [List.set_eq_take_append_cons_drop, if_pos (by omega)]; simp
   have hown10 := own_eq x_.h hset
   exact cd_ret (vs := [.agg ⟨[.slice A n cp, .slice A2 n2 c2, .int .i64 b.count, .int .i64 b.err, .int .i64 b.duty, .int .i64 b.share, .int .i64 b.guar, .slice x_.A ((ss.take k ++ [Sp.mk x x]).length + (n3 - (k + 1))) x_.c, .map (some b12)]⟩, .bool true]) (bs := [(x_.b, x_.o), (b12, some (.map #[] 0))]) hs39 hQ0 rfl ⟨resA (o := 0) (off := 0) (vs := [.slice A n cp, .slice A2 n2 c2, .int .i64 b.count, .int .i64 b.err, .int .i64 b.duty, .int .i64 b.share, .int .i64 b.guar, .slice x_.A ((ss.take k ++ [Sp.mk x x]).length + (n3 - (k + 1))) x_.c, .map (some b12)]) 1 rfl isAgg66 sizeOf66 (hs39.cells 3 rfl) rfl, .tmp 0 rfl, trivial⟩ (.cons_cons _ (.cons_cons _ (List.nil_sublist _))) (.inr ⟨hcan, x_.A, x_.c, x_.b, x_.o, b12, by rw [show (ss.take k ++ [Sp.mk x x]).length + (n3 - (k + 1)) = n3 by omega]; rfl, hown10, rfl⟩)

theorem with_v (b : Bx) (A : Option Addr) (n cp : Nat) (A2 : Option Addr) (n2 c2 : Nat) (A3 : Option Addr) (n3 c3 m : Nat) (ss : List Sp) (k : Nat) (s : Sp) (hsk : ss[k]? = some s) (x : Int) (w : World) (hP : RollsAt w A n b.rolls) (hn : n ≤ 140737488351232) (hS : SpsAt w A3 n3 ss) (hwf : Wf b ss) (hc3 : n3 ≤ c3) :
    CallsV Tryd.prog 50 [.agg ⟨(boxL b A n cp A2 n2 c2 A3 n3 c3 m)⟩, .int .i64 (k : Int), .int .i64 x] w (.int .i64 (withN b ss k x : Int)) := by
 have hl3 := hS.len
 have hk3 : n3 ≤ 1000 := by have := hwf.len; have := hwf.n4; omega
 refine enter (N := 21) (M := []) w func50 rfl rfl rfl (fun Q0 a_0 hQ0 hN0 hs0 => ?_)
 refine cd_region fun K1 hK1 => ?_
 refine sq rfl (st_box hs0 (Ev.t 0 rfl) rfl rfl rfl fun b2 _ _ hs1 => ?_); clear hs0
 refine sq rfl (st_assign hs1 (.const _) rfl rfl fun _ _ hs2 => ?_); clear hs1
 refine hK1 _ _ ?_; clear hK1
 have hs3 := hs2.keep [0, 1, 3, 4] [_, _, _, _] rfl; clear hs2
 refine cd_region fun K3 hK3 => ?_
 refine sq rfl (st_loadA (o := 0) (off := 0) (vs := (boxL b A n cp A2 n2 c2 A3 n3 c3 m)) hs3 (Ev.t 1 rfl) rfl rfl isAgg66 sizeOf66 (hs3.cells 0 rfl) rfl fun _ _ hs4 => ?_); clear hs3
 refine sq rfl (st_move hs4 (Ev.t 3 rfl) rfl rfl fun _ _ hs5 => ?_); clear hs4
 refine sq rfl (st_move hs5 (Ev.t 5 rfl) rfl rfl fun _ _ hs6 => ?_); clear hs5
 refine sq rfl (st_call (vs := [.agg ⟨(boxL b A n cp A2 n2 c2 A3 n3 c3 m)⟩, .int .i64 (k : Int), .int .i64 x]) hs6 (.func _) ⟨(Ev.t 2 rfl), (Ev.t 1 rfl), (Ev.t 0 rfl), trivial⟩ rfl rfl call75 rfl (bound_b b A n cp A2 n2 c2 A3 n3 c3 m ss k s hsk x _ (hS.kp hs6.kp) hk3 hc3) (fun v_ bs_ a_7 w_7 hp9 hs7 => ?_)); clear hs6
 rcases hp9 with ⟨hcan, rfl, rfl⟩ | ⟨hcan, A8, c8, b8, o8, m8, rfl, hown8, rfl⟩
 · skip
   have hs8 : Sx 21 [] [(13, .tuple ⟨[.agg ⟨(boxL b A n cp A2 n2 c2 A3 n3 c3 m)⟩, .bool false]⟩), (12, .int .i64 x), (11, .int .i64 (k : Int)), (10, .agg ⟨(boxL b A n cp A2 n2 c2 A3 n3 c3 m)⟩), (6, .int .i64 0), (3, .pointer (some ⟨b2, 0, none⟩)), (1, .int .i64 (k : Int)), (2, .int .i64 x)] [(b2, some (.cells ⟨(boxL b A n cp A2 n2 c2 A3 n3 c3 m)⟩ 66 (0, 0)))] [] w _ _ := hs7; clear hs7
   refine sq rfl (st_move hs8 (Ev.t 0 rfl) rfl rfl fun _ _ hs9 => ?_); clear hs8
   refine sq rfl (st_extract hs9 (Ev.t 0 rfl) rfl rfl rfl fun _ _ hs10 => ?_); clear hs9
   refine sq rfl (st_extract hs10 (Ev.t 1 rfl) rfl rfl rfl fun _ _ hs11 => ?_); clear hs10
   refine sq rfl (st_alloc hs11 rfl rfl zeroValue66 rfl fun b4 _ _ hs12 => ?_); clear hs11
   refine sq rfl (st_store (l' := (boxL b A n cp A2 n2 c2 A3 n3 c3 m)) (vs := (boxL b A n cp A2 n2 c2 A3 n3 c3 m)) (i := 0) hs12 (Ev.t 0 rfl) (Ev.t 2 rfl) sizeOf66 rfl rfl rfl rfl rfl rfl fun _ _ hs13 => ?_); clear hs12
   have hs14 := hs13.asB [_, _] rfl; clear hs13
   refine sq rfl (st_assign hs14 (Ev.t 1 rfl) rfl rfl fun _ _ hs15 => ?_); clear hs14
   refine hK3 _ _ ?_; clear hK3
   have hs16 := hs15.keep [0, 1, 9] [_, _, _] rfl; clear hs15
   refine cd_seq fun K5 hK5 => ?_
   refine cd_region fun K6 hK6 => ?_
   refine sq rfl (st_move hs16 (Ev.t 0 rfl) rfl rfl fun _ _ hs17 => ?_); clear hs16
   refine sq rfl (st_not hs17 (Ev.t 0 rfl) rfl rfl fun _ _ hs18 => ?_); clear hs17
   refine hK6 _ _ ?_; clear hK6
   have hs19 := hs18.keep [0, 3, 4] [_, _, _] rfl; clear hs18
   have hc7 : true = true := rfl
   refine cd_cond hs19 (Ev.t 0 rfl) (fun _ => ?_) (fun h => absurd (hc7.symm.trans h) (by decide))
   refine cd_region fun K8 hK8 => ?_
   have hs20 := hs19.keep [0, 1] [_, _] rfl; clear hs19
   refine sq rfl (st_assign hs20 (.const _) rfl rfl fun _ _ hs21 => ?_); clear hs20
   refine hK8 _ _ ?_; clear hK8
   have hs22 := hs21.keep [0] [_] rfl; clear hs21
   refine cd_retv (vs := [.int .i64 0]) hs22 (fun a_ w_ h => th_ret (hQ0 a_ w_ h)) rfl ⟨.tmp 0 rfl, trivial⟩ ?_
   clear hs22 hQ0 hN0 hK5
   show Value.int _ _ = Value.int _ _
   congr 1
   simp [withN, hsk, hcan]
 · skip
   have hs8 : Sx 21 [] [(13, .tuple ⟨[.agg ⟨(boxL b A n cp A2 n2 c2 A8 n3 c8 m8)⟩, .bool true]⟩), (12, .int .i64 x), (11, .int .i64 (k : Int)), (10, .agg ⟨(boxL b A n cp A2 n2 c2 A3 n3 c3 m)⟩), (6, .int .i64 0), (3, .pointer (some ⟨b2, 0, none⟩)), (1, .int .i64 (k : Int)), (2, .int .i64 x)] [(b8, o8), (m8, some (.map #[] 0)), (b2, some (.cells ⟨(boxL b A n cp A2 n2 c2 A3 n3 c3 m)⟩ 66 (0, 0)))] [] w _ _ := hs7; clear hs7
   refine sq rfl (st_move hs8 (Ev.t 0 rfl) rfl rfl fun _ _ hs9 => ?_); clear hs8
   refine sq rfl (st_extract hs9 (Ev.t 0 rfl) rfl rfl rfl fun _ _ hs10 => ?_); clear hs9
   refine sq rfl (st_extract hs10 (Ev.t 1 rfl) rfl rfl rfl fun _ _ hs11 => ?_); clear hs10
   refine sq rfl (st_alloc hs11 rfl rfl zeroValue66 rfl fun b9 _ _ hs12 => ?_); clear hs11
   refine sq rfl (st_store (l' := (boxL b A n cp A2 n2 c2 A8 n3 c8 m8)) (vs := (boxL b A n cp A2 n2 c2 A8 n3 c8 m8)) (i := 0) hs12 (Ev.t 0 rfl) (Ev.t 2 rfl) sizeOf66 rfl rfl rfl rfl rfl rfl fun _ _ hs13 => ?_); clear hs12
   have hs14 := hs13.asB [_, _, _, _] rfl; clear hs13
   refine sq rfl (st_assign hs14 (Ev.t 1 rfl) rfl rfl fun _ _ hs15 => ?_); clear hs14
   refine hK3 _ _ ?_; clear hK3
   have hs16 := hs15.keep [0, 1, 9] [_, _, _] rfl; clear hs15
   refine cd_seq fun K10 hK10 => ?_
   refine cd_region fun K11 hK11 => ?_
   refine sq rfl (st_move hs16 (Ev.t 0 rfl) rfl rfl fun _ _ hs17 => ?_); clear hs16
   refine sq rfl (st_not hs17 (Ev.t 0 rfl) rfl rfl fun _ _ hs18 => ?_); clear hs17
   refine hK11 _ _ ?_; clear hK11
   have hs19 := hs18.keep [0, 3, 4] [_, _, _] rfl; clear hs18
   have hc12 : false = false := rfl
   refine cd_cond hs19 (Ev.t 0 rfl) (fun h => absurd (hc12.symm.trans h) (by decide)) (fun _ => ?_)
   refine cd_skip ?_
   refine th_norm (hK10 _ _ ?_)
   refine cd_drawn mixed hs19 [⟨18, [], Is (.agg ⟨(boxL b A n cp A2 n2 c2 A8 n3 c8 m8)⟩)⟩, ⟨19, [], Is (.agg ⟨[.int .i64 0, .int .i64 0]⟩)⟩] (by kernel_rfl) (by kernel_rfl) fun K13 hK13 => ⟨⟨?_, ?_, trivial⟩, ?_⟩
   · rintro T_ B_ a_ w_ K_ hT hB hf hsD hk
     exact ob rfl rfl (st_loadA (o := 0) (off := 0) (vs := (boxL b A n cp A2 n2 c2 A8 n3 c8 m8)) hsD (evT hT 1 rfl) rfl hf isAgg66 sizeOf66 (hsD.cellsM (inB hB 0 rfl)) rfl fun _ _ => hk _ _ _ _ ⟨rfl, rfl⟩)
   · rintro T_ B_ a_ w_ K_ hT hB hf hsD hk
     exact ob rfl rfl (st_callv (vs := []) hsD (.func _) trivial rfl hf call47 rfl (first_v  _) fun _ _ => hk _ _ _ _ ⟨rfl, rfl⟩)
   rintro _ _ ⟨rfl, rfl⟩ _ _ ⟨rfl, rfl⟩ a_20 w_20 hs20; clear hs19
   have hs21 := Sx.as (T' := [_, _, _, _, _]) (B' := [_, _, _, _]) rfl rfl hs20; clear hs20
   have hs22 := Sx.front hs21 2 rfl; clear hs21
   have hs23 : Sx 21 [] [(18, .agg ⟨(boxL b A n cp A2 n2 c2 A8 n3 c8 m8)⟩), (19, .agg ⟨[.int .i64 0, .int .i64 0]⟩), (17, .bool false), (7, .pointer (some ⟨b9, 0, none⟩)), (6, .int .i64 0)] [(m8, some (.map #[] 0)), (b9, some (.cells ⟨(boxL b A n cp A2 n2 c2 A8 n3 c8 m8)⟩ 66 (0, 0))), (b8, o8), (b2, some (.cells ⟨(boxL b A n cp A2 n2 c2 A3 n3 c3 m)⟩ 66 (0, 0)))] [] w _ _ := hs22; clear hs22
   refine sq rfl (st_callGF (C := mapC m8 #[] 0) (vs := [.agg ⟨(boxL b A n cp A2 n2 c2 A8 n3 c8 m8)⟩, .agg ⟨[.int .i64 0, .int .i64 0]⟩]) hs23 (.func _) ⟨(Ev.t 0 rfl), (Ev.t 1 rfl), trivial⟩ rfl rfl call46 rfl mapC_some (many_g b A n cp A2 n2 c2 A8 n3 c8 m8 (ss.set k (Sp.mk x x)) 0 0 #[] 0 _ (Nat.zero_le _) (by omega) (hP.kp hs23.kp) (by have h := hown8.at hs23 2 rfl; rw [List.length_set, ← hS.len] at h; exact h) hn (hwf.set hsk (Till.within_iff.1 hcan)) (fun e he => by cases he)) (fun v_ B_ a_24 w_24 hp9 _ hs24 => ?_)); clear hs23
   obtain ⟨rfl, es24, clk24, rfl, hE24⟩ := hp9
   have hs25 : Sx 21 [] [(20, .int .i64 (cnt (right b) (its b.rolls (ss.set k (Sp.mk x x))) 0 : Int)), (18, .agg ⟨(boxL b A n cp A2 n2 c2 A8 n3 c8 m8)⟩), (19, .agg ⟨[.int .i64 0, .int .i64 0]⟩), (17, .bool false), (7, .pointer (some ⟨b9, 0, none⟩)), (6, .int .i64 0)] [(m8, some (.map es24 clk24)), (b9, some (.cells ⟨(boxL b A n cp A2 n2 c2 A8 n3 c8 m8)⟩ 66 (0, 0))), (b8, o8), (b2, some (.cells ⟨(boxL b A n cp A2 n2 c2 A3 n3 c3 m)⟩ 66 (0, 0)))] [] w _ _ := hs24; clear hs24
   have hs26 := hs25.keep [0, 1, 2, 3, 4] [_, _, _, _, _] rfl; clear hs25
   refine sq rfl (st_assign hs26 (Ev.t 0 rfl) rfl rfl fun _ _ hs27 => ?_); clear hs26
   refine hK13 _ _ ?_; clear hK13
   have hs28 := hs27.keep [0] [_] rfl; clear hs27
   refine cd_retv (vs := [.int .i64 (cnt (right b) (its b.rolls (ss.set k (Sp.mk x x))) 0 : Int)]) hs28 hQ0 rfl ⟨.tmp 0 rfl, trivial⟩ ?_
   clear hs28 hQ0 hN0
   show Value.int _ _ = Value.int _ _
   congr 1
   simp [withN, hsk, hcan]
end Go.Proofs.YtcnndpedeofbmaaDoor
