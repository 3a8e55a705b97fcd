/- The engine: Parts, Longer, Coal. -/
import Derived.Test.YtdbcedmofoakmaaDoorEj
set_option maxRecDepth 100000
namespace Go.Proofs.YtdbcedmofoakmaaDoor
open Go Go.Sx Go.Eng Go.Proofs.Tryd
theorem Parts_v (b : Book) (A : Option Addr) (n cp : Nat) (w : World) (hP : PartsAt w A n b.parts) (hn : n ≤ 140737488351232) (hG : CellsAt w 0 0 stuffsL) (hcp : n ≤ cp) :
    CallsV Tryd.prog 26 [.agg ⟨(bookL b A n cp)⟩] w (.tuple ⟨[.int .i64 b.partsR.1, .int .i64 b.partsR.2]⟩) := by
 refine enter (N := 31) (M := []) w func26 rfl rfl rfl (fun Q0 a_0 hQ0 hN0 hs0 => ?_)
 refine cd_region fun K1 hK1 => ?_
 refine sq rfl (st_box hs0 (Ev.t 0 rfl) rfl rfl rfl fun b2 _ _ hs1 => ?_); clear hs0
 refine sq rfl (st_assign hs1 (.const _) rfl rfl fun _ _ hs2 => ?_); clear hs1
 refine sq rfl (st_assign hs2 (.const _) rfl rfl fun _ _ hs3 => ?_); clear hs2
 refine hK1 _ _ ?_; clear hK1
 have hs4 := hs3.keep [0, 1, 2] [_, _, _] rfl; clear hs3
 refine cd_seq fun K3 hK3 => ?_
 refine cd_region fun K4 hK4 => ?_
 refine sq rfl (st_loadA (o := 0) (off := 0) (vs := (bookL b A n cp)) hs4 (Ev.t 2 rfl) rfl rfl isAgg27 sizeOf27 (hs4.cells 0 rfl) rfl fun _ _ hs5 => ?_); clear hs4
 refine sq rfl (st_callv (vs := [.agg ⟨(bookL b A n cp)⟩]) hs5 (.func _) ⟨(Ev.t 0 rfl), trivial⟩ rfl rfl call16 rfl (check_v b A n cp _ (hP.kp hs5.kp) hn) fun _ _ hs6 => ?_); clear hs5
 refine sq rfl (st_assign hs6 (Ev.t 0 rfl) rfl rfl fun _ _ hs7 => ?_); clear hs6
 refine hK4 _ _ ?_; clear hK4
 have hs8 := hs7.keep [0, 3, 4, 5] [_, _, _, _] rfl; clear hs7
 refine cd_region fun K5 hK5 => ?_
 refine sq rfl (st_move hs8 (Ev.t 0 rfl) rfl rfl fun _ _ hs9 => ?_); clear hs8
 refine sq rfl (st_cmp (c := (if b.ok then 0 else 40 : Int) != 0) hs9 (Ev.t 0 rfl) (.const _) rfl rfl rfl rfl fun _ _ hs10 => ?_); clear hs9
 refine hK5 _ _ ?_; clear hK5
 have hs11 := hs10.keep [0, 2, 3, 4, 5] [_, _, _, _, _] rfl; clear hs10
 refine cd_cond hs11 (Ev.t 0 rfl) (fun hc6 => ?_) (fun hc6 => ?_)
 · have hok : b.ok = false := by cases h : b.ok <;> simp [h] at hc6 ⊢
   refine cd_region fun K7 hK7 => ?_
   refine sq rfl (st_move hs11 (Ev.t 1 rfl) rfl rfl fun _ _ hs12 => ?_); clear hs11
   have hs13 := hs12.keep [0, 1, 2, 3, 5] [_, _, _, _, _] rfl; clear hs12
   refine sq rfl (st_assign hs13 (.const _) rfl rfl fun _ _ hs14 => ?_); clear hs13
   have hs15 := hs14.keep [0, 1, 2, 3, 5] [_, _, _, _, _] rfl; clear hs14
   refine sq rfl (st_assign hs15 (Ev.t 1 rfl) rfl rfl fun _ _ hs16 => ?_); clear hs15
   refine hK7 _ _ ?_; clear hK7
   have hs17 := hs16.keep [0, 1] [_, _] rfl; clear hs16
   refine cd_retv (vs := [.int .i64 0, .int .i64 (if b.ok then 0 else 40)]) hs17 (fun a_ w_ h => th_ret (hQ0 a_ w_ h)) rfl ⟨.tmp 1 rfl, .tmp 0 rfl, trivial⟩ ?_
   clear hs17 hQ0 hN0 hK3
   first | (simp [pack, Book.partsR, hok, hm, hyes]; done) | (subst hi0; simp [pack, Book.partsR, hok, hm, Book.most]; done) | simp [pack, Book.partsR, hok]
 · have hok : b.ok = true := by cases h : b.ok <;> simp [h] at hc6 ⊢
   have hb := ok_bd hok
   have hl2 := hP.len
   refine cd_skip ?_
   refine th_norm (hK3 _ _ ?_)
   refine cd_seq fun K8 hK8 => ?_
   refine cd_region fun K9 hK9 => ?_
   refine sq rfl (st_field (o' := 22) hs11 (Ev.t 4 rfl) rfl rfl runUnderlying27 rfl sizeOf25 rfl rfl fun _ _ hs12 => ?_); clear hs11
   refine sq rfl (st_load1 (o := 0) (off := 22) (v := .slice A n cp) hs12 (Ev.t 0 rfl) rfl rfl isAgg25 (hs12.cells 0 rfl) rfl fun _ _ hs13 => ?_); clear hs12
   refine sq rfl (st_len hs13 (Ev.t 0 rfl) rfl rfl runUnderlying25 fun _ _ hs14 => ?_); clear hs13
   refine sq rfl (st_assign hs14 (Ev.t 0 rfl) rfl rfl fun _ _ hs15 => ?_); clear hs14
   refine hK9 _ _ ?_; clear hK9
   have hs16 := hs15.keep [0, 6, 7, 8] [_, _, _, _] rfl; clear hs15
   refine cd_block ?_
   have hs17 : Sx 31 [] [(5, .int .i64 (n : Int)), (3, .int .i64 0), (2, .int .i64 0), (1, .pointer (some ⟨b2, 0, none⟩))] [(b2, some (.cells ⟨(bookL b A n cp)⟩ 27 (0, 0)))] [] w _ _ := Sx.keepE [0, 1, 2, 3] _ ⟨⟨_, rfl, rfl⟩, ⟨_, rfl, rfl⟩, ⟨_, rfl, rfl⟩, ⟨_, rfl, rfl⟩, trivial⟩ hs16; clear hs16
   refine cd_loop (X := Nat) (fun i a_ w_ => (i ≤ n) ∧ (b.most b.parts.length = b.most i) ∧ Sx 31 [] [(5, .int .i64 (i : Int)), (3, .int .i64 0), (2, .int .i64 0), (1, .pointer (some ⟨b2, 0, none⟩))] [(b2, some (.cells ⟨(bookL b A n cp)⟩ 27 (0, 0)))] [] w a_ w_) (fun i => i) (n) ⟨?_, ?_, hs17⟩ ?_
   · exact Nat.le_refl _
   · rw [hl2]
   intro i a_18 w_18 ⟨hi, hm, hs18⟩; clear hs17
   refine cd_seq fun K10 hK10 => ?_
   refine cd_region fun K11 hK11 => ?_
   refine sq rfl (st_move hs18 (Ev.t 0 rfl) rfl rfl fun _ _ hs19 => ?_); clear hs18
   refine sq rfl (st_cmp (c := decide (((i : Int) : Int) > 0)) hs19 (Ev.t 0 rfl) (.const _) rfl rfl rfl rfl fun _ _ hs20 => ?_); clear hs19
   refine hK11 _ _ ?_; clear hK11
   have hs21 := hs20.keep [0, 2, 3, 4, 5] [_, _, _, _, _] rfl; clear hs20
   refine cd_cond hs21 (Ev.t 0 rfl) (fun hc12 => ?_) (fun hc12 => ?_)
   · have hip : 0 < i := by simpa using hc12
     refine cd_skip ?_
     refine th_norm (hK10 _ _ ?_)
     refine cd_seq fun K13 hK13 => ?_
     refine cd_block ?_
     refine cd_region fun K14 hK14 => ?_
     refine sq rfl (st_loadA (o := 0) (off := 0) (vs := (bookL b A n cp)) hs21 (Ev.t 4 rfl) rfl rfl isAgg27 sizeOf27 (hs21.cells 0 rfl) rfl fun _ _ hs22 => ?_); clear hs21
     refine sq rfl (st_alloc hs22 rfl rfl zeroValue27 rfl fun b15 _ _ hs23 => ?_); clear hs22
     refine sq rfl (st_store (l' := (bookL b A n cp)) (vs := (bookL b A n cp)) (i := 0) hs23 (Ev.t 0 rfl) (Ev.t 1 rfl) sizeOf27 rfl rfl rfl rfl rfl rfl fun _ _ hs24 => ?_); clear hs23
     have hs25 := hs24.asB [_, _] rfl; clear hs24
     refine hK14 _ _ ?_; clear hK14
     have hs26 := hs25.keep [0, 3, 4, 5, 6] [_, _, _, _, _] rfl; clear hs25
     refine cd_region fun K16 hK16 => ?_
     refine sq rfl (st_field (o' := 22) hs26 (Ev.t 4 rfl) rfl rfl runUnderlying27 rfl sizeOf25 rfl rfl fun _ _ hs27 => ?_); clear hs26
     refine sq rfl (st_load1 (o := 0) (off := 22) (v := .slice A n cp) hs27 (Ev.t 0 rfl) rfl rfl isAgg25 (hs27.cells 1 rfl) rfl fun _ _ hs28 => ?_); clear hs27
     refine sq rfl (st_move hs28 (Ev.t 3 rfl) rfl rfl fun _ _ hs29 => ?_); clear hs28
     refine sq rfl (st_slice2 (h := i) hs29 (Ev.t 1 rfl) (Ev.t 0 rfl) rfl rfl runUnderlying25 sizeOf66 (by omega) (fun a_30 w_30 hs30 => ?_)); clear hs29
     have hs31 : Sx 31 [] [(23, .slice A i cp), (22, .int .i64 (i : Int)), (21, .slice A n cp), (20, .pointer (some ⟨b2, 22, none⟩)), (6, .pointer (some ⟨b15, 0, none⟩)), (5, .int .i64 (i : Int)), (3, .int .i64 0), (2, .int .i64 0), (1, .pointer (some ⟨b2, 0, none⟩))] [(b15, some (.cells ⟨(bookL b A n cp)⟩ 27 (0, 0))), (b2, some (.cells ⟨(bookL b A n cp)⟩ 27 (0, 0)))] [] w _ _ := hs30; clear hs30
     refine sq rfl (st_field (o' := 22) hs31 (Ev.t 4 rfl) rfl rfl runUnderlying27 rfl sizeOf25 rfl rfl fun _ _ hs32 => ?_); clear hs31
     refine sq rfl (st_store (l' := [.int .i64 b.coal.lo, .int .i64 b.coal.hi, .int .i64 b.water.lo, .int .i64 b.water.hi, .int .i64 b.bunker, .int .i64 b.tank, .int .i64 b.scoop, .int .i64 b.pail, .int .i64 b.burn0.lo, .int .i64 b.burn0.hi, .int .i64 b.burn1.lo, .int .i64 b.burn1.hi, .int .i64 b.drink0.lo, .int .i64 b.drink0.hi, .int .i64 b.drink1.lo, .int .i64 b.drink1.hi, .int .i64 b.full.lo, .int .i64 b.full.hi, .int .i64 b.weak.lo, .int .i64 b.weak.hi, .int .i64 b.mark, .int .i64 b.lamp, .slice A i cp]) (vs := [.slice A i cp]) (i := 0) hs32 (Ev.t 0 rfl) (Ev.t 1 rfl) sizeOf25 rfl rfl rfl rfl rfl rfl fun _ _ hs33 => ?_); clear hs32
     have hs34 := hs33.asB [_, _] rfl; clear hs33
     refine hK16 _ _ ?_; clear hK16
     have hs35 := hs34.keep [5, 6, 7, 8, 9] [_, _, _, _, _] rfl; clear hs34
     refine cd_region fun K17 hK17 => ?_
     refine sq rfl (st_loadA (o := 0) (off := 0) (vs := [.int .i64 b.coal.lo, .int .i64 b.coal.hi, .int .i64 b.water.lo, .int .i64 b.water.hi, .int .i64 b.bunker, .int .i64 b.tank, .int .i64 b.scoop, .int .i64 b.pail, .int .i64 b.burn0.lo, .int .i64 b.burn0.hi, .int .i64 b.burn1.lo, .int .i64 b.burn1.hi, .int .i64 b.drink0.lo, .int .i64 b.drink0.hi, .int .i64 b.drink1.lo, .int .i64 b.drink1.hi, .int .i64 b.full.lo, .int .i64 b.full.hi, .int .i64 b.weak.lo, .int .i64 b.weak.hi, .int .i64 b.mark, .int .i64 b.lamp, .slice A i cp]) hs35 (Ev.t 0 rfl) rfl rfl isAgg27 sizeOf27 (hs35.cells 0 rfl) rfl fun _ _ hs36 => ?_); clear hs35
     refine sq rfl (st_build hs36 (qs := [(0, .agg ⟨[.int .i64 b.coal.lo, .int .i64 b.coal.hi, .int .i64 b.water.lo, .int .i64 b.water.hi, .int .i64 b.bunker, .int .i64 b.tank, .int .i64 b.scoop, .int .i64 b.pail, .int .i64 b.burn0.lo, .int .i64 b.burn0.hi, .int .i64 b.burn1.lo, .int .i64 b.burn1.hi, .int .i64 b.drink0.lo, .int .i64 b.drink0.hi, .int .i64 b.drink1.lo, .int .i64 b.drink1.hi, .int .i64 b.full.lo, .int .i64 b.full.hi, .int .i64 b.weak.lo, .int .i64 b.weak.hi, .int .i64 b.mark, .int .i64 b.lamp, .slice A i cp]⟩)]) (v := .agg ⟨[.int .i64 b.coal.lo, .int .i64 b.coal.hi, .int .i64 b.water.lo, .int .i64 b.water.hi, .int .i64 b.bunker, .int .i64 b.tank, .int .i64 b.scoop, .int .i64 b.pail, .int .i64 b.burn0.lo, .int .i64 b.burn0.hi, .int .i64 b.burn1.lo, .int .i64 b.burn1.hi, .int .i64 b.drink0.lo, .int .i64 b.drink0.hi, .int .i64 b.drink1.lo, .int .i64 b.drink1.hi, .int .i64 b.full.lo, .int .i64 b.full.hi, .int .i64 b.weak.lo, .int .i64 b.weak.hi, .int .i64 b.mark, .int .i64 b.lamp, .slice A i cp]⟩) ⟨(Ev.t 0 rfl), trivial⟩ rfl rfl rfl (fun _ => by kernel_rfl) fun _ _ hs37 => ?_); clear hs36
     refine sq rfl (st_call (vs := [.agg ⟨bookL (b.head i) A i cp⟩]) hs37 (.func _) ⟨(Ev.t 0 rfl), trivial⟩ rfl rfl call61 rfl (plan_b (b.head i) A i cp _ ((head_at hP hi).kp hs37.kp) (by omega) (hG.kp hs37.kp (by simp)) (head_bd hb i) (by simp only [Book.head, List.length_take]; omega)) (fun v_ bs_ a_38 w_38 hp9 hs38 => ?_)); clear hs37
     rcases hp9 with ⟨hres, rfl, rfl⟩ | ⟨pl, kk, A9, c9, bb, oo, hres, rfl, hown9, rfl, hk9, hpl9⟩
     · skip
       have hs39 : Sx 31 [] [(27, .agg ⟨[.slice none 0 0, .int .i64 (-1)]⟩), (26, .agg ⟨[.int .i64 b.coal.lo, .int .i64 b.coal.hi, .int .i64 b.water.lo, .int .i64 b.water.hi, .int .i64 b.bunker, .int .i64 b.tank, .int .i64 b.scoop, .int .i64 b.pail, .int .i64 b.burn0.lo, .int .i64 b.burn0.hi, .int .i64 b.burn1.lo, .int .i64 b.burn1.hi, .int .i64 b.drink0.lo, .int .i64 b.drink0.hi, .int .i64 b.drink1.lo, .int .i64 b.drink1.hi, .int .i64 b.full.lo, .int .i64 b.full.hi, .int .i64 b.weak.lo, .int .i64 b.weak.hi, .int .i64 b.mark, .int .i64 b.lamp, .slice A i cp]⟩), (25, .agg ⟨[.int .i64 b.coal.lo, .int .i64 b.coal.hi, .int .i64 b.water.lo, .int .i64 b.water.hi, .int .i64 b.bunker, .int .i64 b.tank, .int .i64 b.scoop, .int .i64 b.pail, .int .i64 b.burn0.lo, .int .i64 b.burn0.hi, .int .i64 b.burn1.lo, .int .i64 b.burn1.hi, .int .i64 b.drink0.lo, .int .i64 b.drink0.hi, .int .i64 b.drink1.lo, .int .i64 b.drink1.hi, .int .i64 b.full.lo, .int .i64 b.full.hi, .int .i64 b.weak.lo, .int .i64 b.weak.hi, .int .i64 b.mark, .int .i64 b.lamp, .slice A i cp]⟩), (6, .pointer (some ⟨b15, 0, none⟩)), (5, .int .i64 (i : Int)), (3, .int .i64 0), (2, .int .i64 0), (1, .pointer (some ⟨b2, 0, none⟩))] [(b15, some (.cells ⟨[.int .i64 b.coal.lo, .int .i64 b.coal.hi, .int .i64 b.water.lo, .int .i64 b.water.hi, .int .i64 b.bunker, .int .i64 b.tank, .int .i64 b.scoop, .int .i64 b.pail, .int .i64 b.burn0.lo, .int .i64 b.burn0.hi, .int .i64 b.burn1.lo, .int .i64 b.burn1.hi, .int .i64 b.drink0.lo, .int .i64 b.drink0.hi, .int .i64 b.drink1.lo, .int .i64 b.drink1.hi, .int .i64 b.full.lo, .int .i64 b.full.hi, .int .i64 b.weak.lo, .int .i64 b.weak.hi, .int .i64 b.mark, .int .i64 b.lamp, .slice A i cp]⟩ 27 (0, 0))), (b2, some (.cells ⟨(bookL b A n cp)⟩ 27 (0, 0)))] [] w _ _ := hs38; clear hs38
       refine sq rfl (st_fieldv (v := .int .i64 (-1)) hs39 (Ev.t 0 rfl) rfl rfl runUnderlying89 rfl isAgg3 rfl fun _ _ hs40 => ?_); clear hs39
       refine sq rfl (st_cmp (c := (-1 : Int) != (-1)) hs40 (Ev.t 0 rfl) (.const _) rfl rfl rfl rfl fun _ _ hs41 => ?_); clear hs40
       refine hK17 _ _ ?_; clear hK17
       have hs42 := hs41.keep [0, 6, 7, 8, 9] [_, _, _, _, _] rfl; clear hs41
       have hc18 : ((-1 : Int) != (-1)) = false := rfl
       refine cd_cond hs42 (Ev.t 0 rfl) (fun h => absurd (hc18.symm.trans h) (by decide)) (fun _ => ?_)
       have hno := most_no hip (can_none hres)
       refine cd_skip ?_
       refine in_norm ?_
       refine th_norm (hK13 _ _ ?_)
       refine cd_region1 ?_
       refine sq rfl (st_move hs42 (Ev.t 1 rfl) rfl rfl fun _ _ hs43 => ?_); clear hs42
       refine sq rfl (st_sub (z := (i : Int) - 1) hs43 (Ev.t 0 rfl) (.const _) rfl rfl rfl (by omega) fun _ _ hs44 => ?_); clear hs43
       have hs45 := hs44.keep [0, 1, 2, 4, 5, 6] [_, _, _, _, _, _] rfl; clear hs44
       refine sq rfl (st_assign hs45 (Ev.t 0 rfl) rfl rfl fun _ _ hs46 => ?_); clear hs45
       refine wpListIn_nil ?_
       have hs47 := hs46.keep [0, 4, 5, 6] [_, _, _, _] rfl; clear hs46
       refine ⟨i - 1, ⟨?_, ?_, ?_⟩, by omega⟩
       · first | omega | (simp; done) | (simp; omega)
       · rw [hm, hno]
       have hs48 : Sx 31 [] [(5, .int .i64 ((i : Int) - 1)), (3, .int .i64 0), (2, .int .i64 0), (1, .pointer (some ⟨b2, 0, none⟩))] [(b2, some (.cells ⟨(bookL b A n cp)⟩ 27 (0, 0)))] [] w _ _ := Sx.blks hs47 ((List.Sublist.cons _ (List.Sublist.cons_cons _ List.Sublist.slnil)))
       exact Sx.keepE [0, 1, 2, 3] _ ⟨⟨_, rfl, by congr 1; omega⟩, ⟨_, rfl, rfl⟩, ⟨_, rfl, rfl⟩, ⟨_, rfl, rfl⟩, trivial⟩ hs48
     · skip
       have hs39 : Sx 31 [] [(27, .agg ⟨[.slice A9 pl.length c9, .int .i64 kk]⟩), (26, .agg ⟨[.int .i64 b.coal.lo, .int .i64 b.coal.hi, .int .i64 b.water.lo, .int .i64 b.water.hi, .int .i64 b.bunker, .int .i64 b.tank, .int .i64 b.scoop, .int .i64 b.pail, .int .i64 b.burn0.lo, .int .i64 b.burn0.hi, .int .i64 b.burn1.lo, .int .i64 b.burn1.hi, .int .i64 b.drink0.lo, .int .i64 b.drink0.hi, .int .i64 b.drink1.lo, .int .i64 b.drink1.hi, .int .i64 b.full.lo, .int .i64 b.full.hi, .int .i64 b.weak.lo, .int .i64 b.weak.hi, .int .i64 b.mark, .int .i64 b.lamp, .slice A i cp]⟩), (25, .agg ⟨[.int .i64 b.coal.lo, .int .i64 b.coal.hi, .int .i64 b.water.lo, .int .i64 b.water.hi, .int .i64 b.bunker, .int .i64 b.tank, .int .i64 b.scoop, .int .i64 b.pail, .int .i64 b.burn0.lo, .int .i64 b.burn0.hi, .int .i64 b.burn1.lo, .int .i64 b.burn1.hi, .int .i64 b.drink0.lo, .int .i64 b.drink0.hi, .int .i64 b.drink1.lo, .int .i64 b.drink1.hi, .int .i64 b.full.lo, .int .i64 b.full.hi, .int .i64 b.weak.lo, .int .i64 b.weak.hi, .int .i64 b.mark, .int .i64 b.lamp, .slice A i cp]⟩), (6, .pointer (some ⟨b15, 0, none⟩)), (5, .int .i64 (i : Int)), (3, .int .i64 0), (2, .int .i64 0), (1, .pointer (some ⟨b2, 0, none⟩))] [(bb, oo), (b15, some (.cells ⟨[.int .i64 b.coal.lo, .int .i64 b.coal.hi, .int .i64 b.water.lo, .int .i64 b.water.hi, .int .i64 b.bunker, .int .i64 b.tank, .int .i64 b.scoop, .int .i64 b.pail, .int .i64 b.burn0.lo, .int .i64 b.burn0.hi, .int .i64 b.burn1.lo, .int .i64 b.burn1.hi, .int .i64 b.drink0.lo, .int .i64 b.drink0.hi, .int .i64 b.drink1.lo, .int .i64 b.drink1.hi, .int .i64 b.full.lo, .int .i64 b.full.hi, .int .i64 b.weak.lo, .int .i64 b.weak.hi, .int .i64 b.mark, .int .i64 b.lamp, .slice A i cp]⟩ 27 (0, 0))), (b2, some (.cells ⟨(bookL b A n cp)⟩ 27 (0, 0)))] [] w _ _ := hs38; clear hs38
       refine sq rfl (st_fieldv (v := .int .i64 kk) hs39 (Ev.t 0 rfl) rfl rfl runUnderlying89 rfl isAgg3 rfl fun _ _ hs40 => ?_); clear hs39
       refine sq rfl (st_cmp (c := (kk : Int) != (-1)) hs40 (Ev.t 0 rfl) (.const _) rfl rfl rfl rfl fun _ _ hs41 => ?_); clear hs40
       refine hK17 _ _ ?_; clear hK17
       have hs42 := hs41.keep [0, 6, 7, 8, 9] [_, _, _, _, _] rfl; clear hs41
       have hc19 : ((kk : Int) != (-1)) = true := by simp; omega
       refine cd_cond hs42 (Ev.t 0 rfl) (fun _ => ?_) (fun h => absurd (hc19.symm.trans h) (by decide))
       have hyes := most_yes hip (can_some hres)
       refine cd_region fun K20 hK20 => ?_
       refine sq rfl (st_move hs42 (Ev.t 1 rfl) rfl rfl fun _ _ hs43 => ?_); clear hs42
       have hs44 := hs43.keep [0, 1, 2, 3, 5] [_, _, _, _, _] rfl; clear hs43
       refine sq rfl (st_assign hs44 (Ev.t 0 rfl) rfl rfl fun _ _ hs45 => ?_); clear hs44
       have hs46 := hs45.keep [0, 1, 2, 3, 5] [_, _, _, _, _] rfl; clear hs45
       refine sq rfl (st_assign hs46 (.const _) rfl rfl fun _ _ hs47 => ?_); clear hs46
       refine hK20 _ _ ?_; clear hK20
       have hs48 := hs47.keep [0, 1] [_, _] rfl; clear hs47
       refine cd_retv (vs := [.int .i64 (i : Int), .int .i64 0]) hs48 (fun a_ w_ h => in_ret (th_ret (th_ret (in_ret (th_ret (hQ0 a_ w_ h)))))) rfl ⟨.tmp 1 rfl, .tmp 0 rfl, trivial⟩ ?_
       clear hs48 hQ0 hN0 hK13 hK8
       first | (simp [pack, Book.partsR, hok, hm, hyes]; done) | (subst hi0; simp [pack, Book.partsR, hok, hm, Book.most]; done) | simp [pack, Book.partsR, hok]
   · have hi0 : i = 0 := by simp at hc12; omega
     refine cd_exit ?_
     refine th_exit ?_
     refine th_exit ?_
     refine in_hit ?_
     refine th_norm (hK8 _ _ ?_)
     refine cd_region fun K21 hK21 => ?_
     have hs22 := hs21.keep [0, 1, 2, 4] [_, _, _, _] rfl; clear hs21
     refine sq rfl (st_assign hs22 (.const _) rfl rfl fun _ _ hs23 => ?_); clear hs22
     have hs24 := hs23.keep [0, 1, 2, 4] [_, _, _, _] rfl; clear hs23
     refine sq rfl (st_assign hs24 (.const _) rfl rfl fun _ _ hs25 => ?_); clear hs24
     refine hK21 _ _ ?_; clear hK21
     have hs26 := hs25.keep [0, 1] [_, _] rfl; clear hs25
     refine cd_retv (vs := [.int .i64 0, .int .i64 0]) hs26 hQ0 rfl ⟨.tmp 1 rfl, .tmp 0 rfl, trivial⟩ ?_
     clear hs26 hQ0 hN0
     first | (simp [pack, Book.partsR, hok, hm, hyes]; done) | (subst hi0; simp [pack, Book.partsR, hok, hm, Book.most]; done) | simp [pack, Book.partsR, hok]

theorem Coal_v (b : Book) (A : Option Addr) (n cp : Nat) (w : World) (hP : PartsAt w A n b.parts) (hn : n ≤ 140737488351232) (hG : CellsAt w 0 0 stuffsL) :
    CallsV Tryd.prog 30 [.agg ⟨(bookL b A n cp)⟩] w (.tuple ⟨[.int .i64 b.coalR.1, .int .i64 b.coalR.2]⟩) := by
 refine enter (N := 30) (M := []) w func30 rfl rfl rfl (fun Q0 a_0 hQ0 hN0 hs0 => ?_)
 refine cd_region fun K1 hK1 => ?_
 refine sq rfl (st_box hs0 (Ev.t 0 rfl) rfl rfl rfl fun b2 _ _ hs1 => ?_); clear hs0
 refine sq rfl (st_assign hs1 (.const _) rfl rfl fun _ _ hs2 => ?_); clear hs1
 refine sq rfl (st_assign hs2 (.const _) rfl rfl fun _ _ hs3 => ?_); clear hs2
 refine hK1 _ _ ?_; clear hK1
 have hs4 := hs3.keep [0, 1, 2] [_, _, _] rfl; clear hs3
 refine cd_seq fun K3 hK3 => ?_
 refine cd_region fun K4 hK4 => ?_
 refine sq rfl (st_loadA (o := 0) (off := 0) (vs := (bookL b A n cp)) hs4 (Ev.t 2 rfl) rfl rfl isAgg27 sizeOf27 (hs4.cells 0 rfl) rfl fun _ _ hs5 => ?_); clear hs4
 refine sq rfl (st_callv (vs := [.agg ⟨(bookL b A n cp)⟩]) hs5 (.func _) ⟨(Ev.t 0 rfl), trivial⟩ rfl rfl call16 rfl (check_v b A n cp _ (hP.kp hs5.kp) hn) fun _ _ hs6 => ?_); clear hs5
 refine sq rfl (st_assign hs6 (Ev.t 0 rfl) rfl rfl fun _ _ hs7 => ?_); clear hs6
 refine hK4 _ _ ?_; clear hK4
 have hs8 := hs7.keep [0, 3, 4, 5] [_, _, _, _] rfl; clear hs7
 refine cd_region fun K5 hK5 => ?_
 refine sq rfl (st_move hs8 (Ev.t 0 rfl) rfl rfl fun _ _ hs9 => ?_); clear hs8
 refine sq rfl (st_cmp (c := (if b.ok then 0 else 40 : Int) != 0) hs9 (Ev.t 0 rfl) (.const _) rfl rfl rfl rfl fun _ _ hs10 => ?_); clear hs9
 refine hK5 _ _ ?_; clear hK5
 have hs11 := hs10.keep [0, 2, 3, 4, 5] [_, _, _, _, _] rfl; clear hs10
 refine cd_cond hs11 (Ev.t 0 rfl) (fun hc6 => ?_) (fun hc6 => ?_)
 · have hok : b.ok = false := by cases h : b.ok <;> simp [h] at hc6 ⊢
   refine cd_region fun K7 hK7 => ?_
   refine sq rfl (st_move hs11 (Ev.t 1 rfl) rfl rfl fun _ _ hs12 => ?_); clear hs11
   have hs13 := hs12.keep [0, 1, 2, 3, 5] [_, _, _, _, _] rfl; clear hs12
   refine sq rfl (st_assign hs13 (.const _) rfl rfl fun _ _ hs14 => ?_); clear hs13
   have hs15 := hs14.keep [0, 1, 2, 3, 5] [_, _, _, _, _] rfl; clear hs14
   refine sq rfl (st_assign hs15 (Ev.t 1 rfl) rfl rfl fun _ _ hs16 => ?_); clear hs15
   refine hK7 _ _ ?_; clear hK7
   have hs17 := hs16.keep [0, 1] [_, _] rfl; clear hs16
   refine cd_retv (vs := [.int .i64 0, .int .i64 (if b.ok then 0 else 40)]) hs17 (fun a_ w_ h => th_ret (hQ0 a_ w_ h)) rfl ⟨.tmp 1 rfl, .tmp 0 rfl, trivial⟩ ?_
   clear hs17 hQ0 hN0 hK3
   first | (simp [pack, Book.coalR, hok, hF]; done) | (simp [pack, Book.coalR, hok, hF, hi0]; done) | (simp only [pack, Book.coalR, hok, if_true, hF, if_neg hi0]; done) | simp [pack, Book.coalR, hok]
 · have hok : b.ok = true := by cases h : b.ok <;> simp [h] at hc6 ⊢
   have hb := ok_bd hok
   have hr := hb.room
   have hbt : (b.bunker.toNat : Int) = b.bunker := Int.toNat_of_nonneg hr.1
   refine cd_skip ?_
   refine th_norm (hK3 _ _ ?_)
   refine cd_region fun K8 hK8 => ?_
   refine sq rfl (st_loadA (o := 0) (off := 0) (vs := (bookL b A n cp)) hs11 (Ev.t 4 rfl) rfl rfl isAgg27 sizeOf27 (hs11.cells 0 rfl) rfl fun _ _ hs12 => ?_); clear hs11
   refine sq rfl (st_alloc hs12 rfl rfl zeroValue27 rfl fun b9 _ _ hs13 => ?_); clear hs12
   refine sq rfl (st_store (l' := (bookL b A n cp)) (vs := (bookL b A n cp)) (i := 0) hs13 (Ev.t 0 rfl) (Ev.t 1 rfl) sizeOf27 rfl rfl rfl rfl rfl rfl fun _ _ hs14 => ?_); clear hs13
   have hs15 := hs14.asB [_, _] rfl; clear hs14
   refine hK8 _ _ ?_; clear hK8
   have hs16 := hs15.keep [0, 4, 5, 6] [_, _, _, _] rfl; clear hs15
   refine cd_seq fun K10 hK10 => ?_
   refine cd_region fun K11 hK11 => ?_
   refine sq rfl (st_field (o' := 4) hs16 (Ev.t 3 rfl) rfl rfl runUnderlying27 rfl sizeOf3 rfl rfl fun _ _ hs17 => ?_); clear hs16
   refine sq rfl (st_load1 (o := 0) (off := 4) (v := .int .i64 b.bunker) hs17 (Ev.t 0 rfl) rfl rfl isAgg3 (hs17.cells 1 rfl) rfl fun _ _ hs18 => ?_); clear hs17
   refine sq rfl (st_add (z := b.bunker + 1) hs18 (Ev.t 0 rfl) (.const _) rfl rfl rfl (by omega) fun _ _ hs19 => ?_); clear hs18
   refine sq rfl (st_move hs19 (.const _) rfl rfl fun _ _ hs20 => ?_); clear hs19
   refine hK11 _ _ ?_; clear hK11
   have hs21 := hs20.keep [0, 1, 4, 5, 6] [_, _, _, _, _] rfl; clear hs20
   refine cd_block ?_
   have hs22 : Sx 30 [] [(16, .int .i64 ((0, b.coal).1 : Int)), (15, .int .i64 (b.bunker + 1)), (5, .pointer (some ⟨b9, 0, none⟩)), (3, .int .i64 0), (2, .int .i64 0)] [(b9, some (.cells ⟨[.int .i64 ((0, b.coal).2.lo), .int .i64 ((0, b.coal).2.hi), .int .i64 b.water.lo, .int .i64 b.water.hi, .int .i64 b.bunker, .int .i64 b.tank, .int .i64 b.scoop, .int .i64 b.pail, .int .i64 b.burn0.lo, .int .i64 b.burn0.hi, .int .i64 b.burn1.lo, .int .i64 b.burn1.hi, .int .i64 b.drink0.lo, .int .i64 b.drink0.hi, .int .i64 b.drink1.lo, .int .i64 b.drink1.hi, .int .i64 b.full.lo, .int .i64 b.full.hi, .int .i64 b.weak.lo, .int .i64 b.weak.hi, .int .i64 b.mark, .int .i64 b.lamp, .slice A n cp]⟩ 27 (0, 0))), (b2, some (.cells ⟨(bookL b A n cp)⟩ 27 (0, 0)))] [] w _ _ := Sx.keepE [0, 1, 2, 3, 4] _ ⟨⟨_, rfl, rfl⟩, ⟨_, rfl, rfl⟩, ⟨_, rfl, rfl⟩, ⟨_, rfl, rfl⟩, ⟨_, rfl, rfl⟩, trivial⟩ hs21; clear hs21
   refine cd_loop (X := (Nat × Span)) (fun g a_ w_ => (g.1 ≤ b.bunker.toNat + 1) ∧ (first (fun k : Nat => (b.withCoal (k : Int)).can) (b.bunker.toNat + 1) 0 = first (fun k : Nat => (b.withCoal (k : Int)).can) (b.bunker.toNat + 1 - g.1) g.1) ∧ Sx 30 [] [(16, .int .i64 (g.1 : Int)), (15, .int .i64 (b.bunker + 1)), (5, .pointer (some ⟨b9, 0, none⟩)), (3, .int .i64 0), (2, .int .i64 0)] [(b9, some (.cells ⟨[.int .i64 g.2.lo, .int .i64 g.2.hi, .int .i64 b.water.lo, .int .i64 b.water.hi, .int .i64 b.bunker, .int .i64 b.tank, .int .i64 b.scoop, .int .i64 b.pail, .int .i64 b.burn0.lo, .int .i64 b.burn0.hi, .int .i64 b.burn1.lo, .int .i64 b.burn1.hi, .int .i64 b.drink0.lo, .int .i64 b.drink0.hi, .int .i64 b.drink1.lo, .int .i64 b.drink1.hi, .int .i64 b.full.lo, .int .i64 b.full.hi, .int .i64 b.weak.lo, .int .i64 b.weak.hi, .int .i64 b.mark, .int .i64 b.lamp, .slice A n cp]⟩ 27 (0, 0))), (b2, some (.cells ⟨(bookL b A n cp)⟩ 27 (0, 0)))] [] w a_ w_) (fun g => b.bunker.toNat + 1 - g.1) ((0, b.coal)) ⟨?_, ?_, hs22⟩ ?_
   · exact Nat.zero_le _
   · rfl
   intro g a_23 w_23 ⟨hi, hf, hs23⟩; clear hs22
   refine cd_region fun K12 hK12 => ?_
   refine sq rfl (st_cmp (c := decide (((g.1 : Int) : Int) < (b.bunker + 1))) hs23 (Ev.t 0 rfl) (Ev.t 1 rfl) rfl rfl rfl rfl fun _ _ hs24 => ?_); clear hs23
   refine hK12 _ _ ?_; clear hK12
   refine cd_seq fun K13 hK13 => ?_
   refine cd_cond hs24 (Ev.t 0 rfl) (fun hc14 => ?_) (fun hc14 => ?_)
   · have hin : g.1 < b.bunker.toNat + 1 := by simp at hc14; omega
     refine cd_skip ?_
     refine th_norm (hK13 _ _ ?_)
     refine cd_seq fun K15 hK15 => ?_
     refine cd_block ?_
     refine cd_region fun K16 hK16 => ?_
     refine sq rfl (st_move hs24 (Ev.t 1 rfl) rfl rfl fun _ _ hs25 => ?_); clear hs24
     refine sq rfl (st_assign hs25 (Ev.t 0 rfl) rfl rfl fun _ _ hs26 => ?_); clear hs25
     refine hK16 _ _ ?_; clear hK16
     have hs27 := hs26.keep [0, 3, 4, 5, 6, 7] [_, _, _, _, _, _] rfl; clear hs26
     refine cd_region fun K17 hK17 => ?_
     refine sq rfl (st_move hs27 (Ev.t 0 rfl) rfl rfl fun _ _ hs28 => ?_); clear hs27
     refine sq rfl (st_move hs28 (Ev.t 1 rfl) rfl rfl fun _ _ hs29 => ?_); clear hs28
     refine sq rfl (st_build hs29 (qs := [(0, .int .i64 (g.1 : Int)), (1, .int .i64 (g.1 : Int))]) (v := .agg ⟨[.int .i64 (g.1 : Int), .int .i64 (g.1 : Int)]⟩) ⟨(Ev.t 1 rfl), (Ev.t 0 rfl), trivial⟩ rfl rfl rfl (fun _ => by kernel_rfl) fun _ _ hs30 => ?_); clear hs29
     refine sq rfl (st_field (o' := 0) hs30 (Ev.t 6 rfl) rfl rfl runUnderlying27 rfl sizeOf23 rfl rfl fun _ _ hs31 => ?_); clear hs30
     refine sq rfl (st_store (l' := [.int .i64 (g.1 : Int), .int .i64 (g.1 : Int), .int .i64 b.water.lo, .int .i64 b.water.hi, .int .i64 b.bunker, .int .i64 b.tank, .int .i64 b.scoop, .int .i64 b.pail, .int .i64 b.burn0.lo, .int .i64 b.burn0.hi, .int .i64 b.burn1.lo, .int .i64 b.burn1.hi, .int .i64 b.drink0.lo, .int .i64 b.drink0.hi, .int .i64 b.drink1.lo, .int .i64 b.drink1.hi, .int .i64 b.full.lo, .int .i64 b.full.hi, .int .i64 b.weak.lo, .int .i64 b.weak.hi, .int .i64 b.mark, .int .i64 b.lamp, .slice A n cp]) (vs := [.int .i64 (g.1 : Int), .int .i64 (g.1 : Int)]) (i := 0) hs31 (Ev.t 0 rfl) (Ev.t 1 rfl) sizeOf23 rfl rfl rfl rfl rfl rfl fun _ _ hs32 => ?_); clear hs31
     have hs33 := hs32.asB [_, _] rfl; clear hs32
     refine hK17 _ _ ?_; clear hK17
     have hs34 := hs33.keep [4, 5, 6, 7, 8, 9] [_, _, _, _, _, _] rfl; clear hs33
     refine cd_region fun K18 hK18 => ?_
     refine sq rfl (st_loadA (o := 0) (off := 0) (vs := [.int .i64 (g.1 : Int), .int .i64 (g.1 : Int), .int .i64 b.water.lo, .int .i64 b.water.hi, .int .i64 b.bunker, .int .i64 b.tank, .int .i64 b.scoop, .int .i64 b.pail, .int .i64 b.burn0.lo, .int .i64 b.burn0.hi, .int .i64 b.burn1.lo, .int .i64 b.burn1.hi, .int .i64 b.drink0.lo, .int .i64 b.drink0.hi, .int .i64 b.drink1.lo, .int .i64 b.drink1.hi, .int .i64 b.full.lo, .int .i64 b.full.hi, .int .i64 b.weak.lo, .int .i64 b.weak.hi, .int .i64 b.mark, .int .i64 b.lamp, .slice A n cp]) hs34 (Ev.t 3 rfl) rfl rfl isAgg27 sizeOf27 (hs34.cells 0 rfl) rfl fun _ _ hs35 => ?_); clear hs34
     refine sq rfl (st_build hs35 (qs := [(0, .agg ⟨[.int .i64 (g.1 : Int), .int .i64 (g.1 : Int), .int .i64 b.water.lo, .int .i64 b.water.hi, .int .i64 b.bunker, .int .i64 b.tank, .int .i64 b.scoop, .int .i64 b.pail, .int .i64 b.burn0.lo, .int .i64 b.burn0.hi, .int .i64 b.burn1.lo, .int .i64 b.burn1.hi, .int .i64 b.drink0.lo, .int .i64 b.drink0.hi, .int .i64 b.drink1.lo, .int .i64 b.drink1.hi, .int .i64 b.full.lo, .int .i64 b.full.hi, .int .i64 b.weak.lo, .int .i64 b.weak.hi, .int .i64 b.mark, .int .i64 b.lamp, .slice A n cp]⟩)]) (v := .agg ⟨[.int .i64 (g.1 : Int), .int .i64 (g.1 : Int), .int .i64 b.water.lo, .int .i64 b.water.hi, .int .i64 b.bunker, .int .i64 b.tank, .int .i64 b.scoop, .int .i64 b.pail, .int .i64 b.burn0.lo, .int .i64 b.burn0.hi, .int .i64 b.burn1.lo, .int .i64 b.burn1.hi, .int .i64 b.drink0.lo, .int .i64 b.drink0.hi, .int .i64 b.drink1.lo, .int .i64 b.drink1.hi, .int .i64 b.full.lo, .int .i64 b.full.hi, .int .i64 b.weak.lo, .int .i64 b.weak.hi, .int .i64 b.mark, .int .i64 b.lamp, .slice A n cp]⟩) ⟨(Ev.t 0 rfl), trivial⟩ rfl rfl rfl (fun _ => by kernel_rfl) fun _ _ hs36 => ?_); clear hs35
     refine sq rfl (st_call (vs := [.agg ⟨bookL (b.withCoal (g.1 : Int)) A n cp⟩]) hs36 (.func _) ⟨(Ev.t 0 rfl), trivial⟩ rfl rfl call61 rfl (plan_b (b.withCoal (g.1 : Int)) A n cp _ (show PartsAt _ A n b.parts from hP.kp hs36.kp) hn (hG.kp hs36.kp (by simp)) (coal_bd hb (by omega)) (show 0 < b.parts.length from ok_ne hok)) (fun v_ bs_ a_37 w_37 hp9 hs37 => ?_)); clear hs36
     rcases hp9 with ⟨hres, rfl, rfl⟩ | ⟨pl, kk, A9, c9, bb, oo, hres, rfl, hown9, rfl, hk9, hpl9⟩
     · skip
       have hs38 : Sx 30 [] [(25, .agg ⟨[.slice none 0 0, .int .i64 (-1)]⟩), (24, .agg ⟨[.int .i64 (g.1 : Int), .int .i64 (g.1 : Int), .int .i64 b.water.lo, .int .i64 b.water.hi, .int .i64 b.bunker, .int .i64 b.tank, .int .i64 b.scoop, .int .i64 b.pail, .int .i64 b.burn0.lo, .int .i64 b.burn0.hi, .int .i64 b.burn1.lo, .int .i64 b.burn1.hi, .int .i64 b.drink0.lo, .int .i64 b.drink0.hi, .int .i64 b.drink1.lo, .int .i64 b.drink1.hi, .int .i64 b.full.lo, .int .i64 b.full.hi, .int .i64 b.weak.lo, .int .i64 b.weak.hi, .int .i64 b.mark, .int .i64 b.lamp, .slice A n cp]⟩), (23, .agg ⟨[.int .i64 (g.1 : Int), .int .i64 (g.1 : Int), .int .i64 b.water.lo, .int .i64 b.water.hi, .int .i64 b.bunker, .int .i64 b.tank, .int .i64 b.scoop, .int .i64 b.pail, .int .i64 b.burn0.lo, .int .i64 b.burn0.hi, .int .i64 b.burn1.lo, .int .i64 b.burn1.hi, .int .i64 b.drink0.lo, .int .i64 b.drink0.hi, .int .i64 b.drink1.lo, .int .i64 b.drink1.hi, .int .i64 b.full.lo, .int .i64 b.full.hi, .int .i64 b.weak.lo, .int .i64 b.weak.hi, .int .i64 b.mark, .int .i64 b.lamp, .slice A n cp]⟩), (6, .int .i64 (g.1 : Int)), (16, .int .i64 (g.1 : Int)), (15, .int .i64 (b.bunker + 1)), (5, .pointer (some ⟨b9, 0, none⟩)), (3, .int .i64 0), (2, .int .i64 0)] [(b9, some (.cells ⟨[.int .i64 (g.1 : Int), .int .i64 (g.1 : Int), .int .i64 b.water.lo, .int .i64 b.water.hi, .int .i64 b.bunker, .int .i64 b.tank, .int .i64 b.scoop, .int .i64 b.pail, .int .i64 b.burn0.lo, .int .i64 b.burn0.hi, .int .i64 b.burn1.lo, .int .i64 b.burn1.hi, .int .i64 b.drink0.lo, .int .i64 b.drink0.hi, .int .i64 b.drink1.lo, .int .i64 b.drink1.hi, .int .i64 b.full.lo, .int .i64 b.full.hi, .int .i64 b.weak.lo, .int .i64 b.weak.hi, .int .i64 b.mark, .int .i64 b.lamp, .slice A n cp]⟩ 27 (0, 0))), (b2, some (.cells ⟨(bookL b A n cp)⟩ 27 (0, 0)))] [] w _ _ := hs37; clear hs37
       refine sq rfl (st_fieldv (v := .int .i64 (-1)) hs38 (Ev.t 0 rfl) rfl rfl runUnderlying89 rfl isAgg3 rfl fun _ _ hs39 => ?_); clear hs38
       refine sq rfl (st_cmp (c := (-1 : Int) != (-1)) hs39 (Ev.t 0 rfl) (.const _) rfl rfl rfl rfl fun _ _ hs40 => ?_); clear hs39
       refine hK18 _ _ ?_; clear hK18
       have hs41 := hs40.keep [0, 5, 6, 7, 8, 9, 10] [_, _, _, _, _, _, _] rfl; clear hs40
       have hc19 : ((-1 : Int) != (-1)) = false := rfl
       refine cd_cond hs41 (Ev.t 0 rfl) (fun h => absurd (hc19.symm.trans h) (by decide)) (fun _ => ?_)
       have hno := first_no (f := (fun k : Nat => (b.withCoal (k : Int)).can)) hin (can_none hres)
       refine cd_skip ?_
       refine in_norm ?_
       refine th_norm (hK15 _ _ ?_)
       refine cd_region1 ?_
       refine sq rfl (st_add (z := (g.1 : Int) + 1) hs41 (Ev.t 2 rfl) (.const _) rfl rfl rfl (by omega) fun _ _ hs42 => ?_); clear hs41
       have hs43 := hs42.keep [0, 1, 2, 4, 5, 6, 7] [_, _, _, _, _, _, _] rfl; clear hs42
       refine sq rfl (st_move hs43 (Ev.t 0 rfl) rfl rfl fun _ _ hs44 => ?_); clear hs43
       refine wpListIn_nil ?_
       have hs45 := hs44.keep [0, 4, 5, 6, 7] [_, _, _, _, _] rfl; clear hs44
       refine ⟨(g.1 + 1, (⟨(g.1 : Int), (g.1 : Int)⟩ : Span)), ⟨?_, ?_, ?_⟩, by (show b.bunker.toNat + 1 - (g.1 + 1) < b.bunker.toNat + 1 - g.1; omega)⟩
       · exact hin
       · exact hf.trans hno
       exact Sx.keepE [0, 1, 2, 3, 4] _ ⟨⟨_, rfl, rfl⟩, ⟨_, rfl, rfl⟩, ⟨_, rfl, rfl⟩, ⟨_, rfl, rfl⟩, ⟨_, rfl, rfl⟩, trivial⟩ hs45
     · skip
       have hs38 : Sx 30 [] [(25, .agg ⟨[.slice A9 pl.length c9, .int .i64 kk]⟩), (24, .agg ⟨[.int .i64 (g.1 : Int), .int .i64 (g.1 : Int), .int .i64 b.water.lo, .int .i64 b.water.hi, .int .i64 b.bunker, .int .i64 b.tank, .int .i64 b.scoop, .int .i64 b.pail, .int .i64 b.burn0.lo, .int .i64 b.burn0.hi, .int .i64 b.burn1.lo, .int .i64 b.burn1.hi, .int .i64 b.drink0.lo, .int .i64 b.drink0.hi, .int .i64 b.drink1.lo, .int .i64 b.drink1.hi, .int .i64 b.full.lo, .int .i64 b.full.hi, .int .i64 b.weak.lo, .int .i64 b.weak.hi, .int .i64 b.mark, .int .i64 b.lamp, .slice A n cp]⟩), (23, .agg ⟨[.int .i64 (g.1 : Int), .int .i64 (g.1 : Int), .int .i64 b.water.lo, .int .i64 b.water.hi, .int .i64 b.bunker, .int .i64 b.tank, .int .i64 b.scoop, .int .i64 b.pail, .int .i64 b.burn0.lo, .int .i64 b.burn0.hi, .int .i64 b.burn1.lo, .int .i64 b.burn1.hi, .int .i64 b.drink0.lo, .int .i64 b.drink0.hi, .int .i64 b.drink1.lo, .int .i64 b.drink1.hi, .int .i64 b.full.lo, .int .i64 b.full.hi, .int .i64 b.weak.lo, .int .i64 b.weak.hi, .int .i64 b.mark, .int .i64 b.lamp, .slice A n cp]⟩), (6, .int .i64 (g.1 : Int)), (16, .int .i64 (g.1 : Int)), (15, .int .i64 (b.bunker + 1)), (5, .pointer (some ⟨b9, 0, none⟩)), (3, .int .i64 0), (2, .int .i64 0)] [(bb, oo), (b9, some (.cells ⟨[.int .i64 (g.1 : Int), .int .i64 (g.1 : Int), .int .i64 b.water.lo, .int .i64 b.water.hi, .int .i64 b.bunker, .int .i64 b.tank, .int .i64 b.scoop, .int .i64 b.pail, .int .i64 b.burn0.lo, .int .i64 b.burn0.hi, .int .i64 b.burn1.lo, .int .i64 b.burn1.hi, .int .i64 b.drink0.lo, .int .i64 b.drink0.hi, .int .i64 b.drink1.lo, .int .i64 b.drink1.hi, .int .i64 b.full.lo, .int .i64 b.full.hi, .int .i64 b.weak.lo, .int .i64 b.weak.hi, .int .i64 b.mark, .int .i64 b.lamp, .slice A n cp]⟩ 27 (0, 0))), (b2, some (.cells ⟨(bookL b A n cp)⟩ 27 (0, 0)))] [] w _ _ := hs37; clear hs37
       refine sq rfl (st_fieldv (v := .int .i64 kk) hs38 (Ev.t 0 rfl) rfl rfl runUnderlying89 rfl isAgg3 rfl fun _ _ hs39 => ?_); clear hs38
       refine sq rfl (st_cmp (c := (kk : Int) != (-1)) hs39 (Ev.t 0 rfl) (.const _) rfl rfl rfl rfl fun _ _ hs40 => ?_); clear hs39
       refine hK18 _ _ ?_; clear hK18
       have hs41 := hs40.keep [0, 5, 6, 7, 8, 9, 10] [_, _, _, _, _, _, _] rfl; clear hs40
       have hc20 : ((kk : Int) != (-1)) = true := by simp; omega
       refine cd_cond hs41 (Ev.t 0 rfl) (fun _ => ?_) (fun h => absurd (hc20.symm.trans h) (by decide))
       have hF : first (fun k : Nat => (b.withCoal (k : Int)).can) (b.bunker.toNat + 1) 0 = (g.1 : Int) := hf.trans (first_yes (by omega) (can_some hres)); have hi0 : ¬ ((g.1 : Int) < 0) := by omega
       refine cd_region fun K21 hK21 => ?_
       refine sq rfl (st_move hs41 (Ev.t 1 rfl) rfl rfl fun _ _ hs42 => ?_); clear hs41
       have hs43 := hs42.keep [0, 1, 2, 3, 4, 5, 6] [_, _, _, _, _, _, _] rfl; clear hs42
       refine sq rfl (st_assign hs43 (Ev.t 0 rfl) rfl rfl fun _ _ hs44 => ?_); clear hs43
       have hs45 := hs44.keep [0, 1, 2, 3, 4, 5, 6] [_, _, _, _, _, _, _] rfl; clear hs44
       refine sq rfl (st_assign hs45 (.const _) rfl rfl fun _ _ hs46 => ?_); clear hs45
       refine hK21 _ _ ?_; clear hK21
       have hs47 := hs46.keep [0, 1] [_, _] rfl; clear hs46
       refine cd_retv (vs := [.int .i64 (g.1 : Int), .int .i64 0]) hs47 (fun a_ w_ h => in_ret (th_ret (th_ret (in_ret (th_ret (hQ0 a_ w_ h)))))) rfl ⟨.tmp 1 rfl, .tmp 0 rfl, trivial⟩ ?_
       clear hs47 hQ0 hN0 hK15 hK10
       first | (simp [pack, Book.coalR, hok, hF]; done) | (simp [pack, Book.coalR, hok, hF, hi0]; done) | (simp only [pack, Book.coalR, hok, if_true, hF, if_neg hi0]; done) | simp [pack, Book.coalR, hok]
   · have hin : g.1 = b.bunker.toNat + 1 := by simp at hc14; omega
     have hF : first (fun k : Nat => (b.withCoal (k : Int)).can) (b.bunker.toNat + 1) 0 = -1 := by rw [hf, hin, Nat.sub_self]; rfl
     refine cd_exit ?_
     refine th_exit ?_
     refine th_exit ?_
     refine in_hit ?_
     refine th_norm (hK10 _ _ ?_)
     refine cd_region fun K22 hK22 => ?_
     have hs25 := hs24.keep [0, 1, 2, 3, 4] [_, _, _, _, _] rfl; clear hs24
     refine sq rfl (st_assign hs25 (.const _) rfl rfl fun _ _ hs26 => ?_); clear hs25
     have hs27 := hs26.keep [0, 1, 2, 3, 4] [_, _, _, _, _] rfl; clear hs26
     refine sq rfl (st_assign hs27 (.const _) rfl rfl fun _ _ hs28 => ?_); clear hs27
     refine hK22 _ _ ?_; clear hK22
     have hs29 := hs28.keep [0, 1] [_, _] rfl; clear hs28
     refine cd_retv (vs := [.int .i64 0, .int .i64 4]) hs29 hQ0 rfl ⟨.tmp 1 rfl, .tmp 0 rfl, trivial⟩ ?_
     clear hs29 hQ0 hN0
     first | (simp [pack, Book.coalR, hok, hF]; done) | (simp [pack, Book.coalR, hok, hF, hi0]; done) | (simp only [pack, Book.coalR, hok, if_true, hF, if_neg hi0]; done) | simp [pack, Book.coalR, hok]

theorem Longer_v (b : Book) (A : Option Addr) (n cp : Nat) (k : Int) (w : World) (hP : PartsAt w A n b.parts) (hn : n ≤ 140737488351232) (hG : CellsAt w 0 0 stuffsL) :
    CallsV Tryd.prog 28 [.agg ⟨(bookL b A n cp)⟩, .int .i64 k] w (.tuple ⟨[.int .i64 ((b.longerR k).1), .int .i64 ((b.longerR k).2)]⟩) := by
 refine enter (N := 51) (M := []) w func28 rfl rfl rfl (fun Q0 a_0 hQ0 hN0 hs0 => ?_)
 refine cd_region fun K1 hK1 => ?_
 refine sq rfl (st_box hs0 (Ev.t 0 rfl) rfl rfl rfl fun b2 _ _ hs1 => ?_); clear hs0
 refine sq rfl (st_assign hs1 (.const _) rfl rfl fun _ _ hs2 => ?_); clear hs1
 refine sq rfl (st_assign hs2 (.const _) rfl rfl fun _ _ hs3 => ?_); clear hs2
 refine hK1 _ _ ?_; clear hK1
 have hs4 := hs3.keep [0, 1, 2, 4] [_, _, _, _] rfl; clear hs3
 refine cd_seq fun K3 hK3 => ?_
 refine cd_region fun K4 hK4 => ?_
 refine sq rfl (st_loadA (o := 0) (off := 0) (vs := (bookL b A n cp)) hs4 (Ev.t 2 rfl) rfl rfl isAgg27 sizeOf27 (hs4.cells 0 rfl) rfl fun _ _ hs5 => ?_); clear hs4
 refine sq rfl (st_callv (vs := [.agg ⟨(bookL b A n cp)⟩]) hs5 (.func _) ⟨(Ev.t 0 rfl), trivial⟩ rfl rfl call16 rfl (check_v b A n cp _ (hP.kp hs5.kp) hn) fun _ _ hs6 => ?_); clear hs5
 refine sq rfl (st_assign hs6 (Ev.t 0 rfl) rfl rfl fun _ _ hs7 => ?_); clear hs6
 refine hK4 _ _ ?_; clear hK4
 have hs8 := hs7.keep [0, 3, 4, 5, 6] [_, _, _, _, _] rfl; clear hs7
 refine cd_region fun K5 hK5 => ?_
 refine sq rfl (st_move hs8 (Ev.t 0 rfl) rfl rfl fun _ _ hs9 => ?_); clear hs8
 refine sq rfl (st_cmp (c := (if b.ok then 0 else 40 : Int) != 0) hs9 (Ev.t 0 rfl) (.const _) rfl rfl rfl rfl fun _ _ hs10 => ?_); clear hs9
 refine hK5 _ _ ?_; clear hK5
 have hs11 := hs10.keep [0, 2, 3, 4, 5, 6] [_, _, _, _, _, _] rfl; clear hs10
 refine cd_cond hs11 (Ev.t 0 rfl) (fun hc6 => ?_) (fun hc6 => ?_)
 · have hok : b.ok = false := by cases h : b.ok <;> simp [h] at hc6 ⊢
   refine cd_region fun K7 hK7 => ?_
   refine sq rfl (st_move hs11 (Ev.t 1 rfl) rfl rfl fun _ _ hs12 => ?_); clear hs11
   have hs13 := hs12.keep [0, 1, 2, 3, 5, 6] [_, _, _, _, _, _] rfl; clear hs12
   refine sq rfl (st_assign hs13 (.const _) rfl rfl fun _ _ hs14 => ?_); clear hs13
   have hs15 := hs14.keep [0, 1, 2, 3, 5, 6] [_, _, _, _, _, _] rfl; clear hs14
   refine sq rfl (st_assign hs15 (Ev.t 1 rfl) rfl rfl fun _ _ hs16 => ?_); clear hs15
   refine hK7 _ _ ?_; clear hK7
   have hs17 := hs16.keep [0, 1] [_, _] rfl; clear hs16
   refine cd_retv (vs := [.int .i64 0, .int .i64 (if b.ok then 0 else 40)]) hs17 (fun a_ w_ h => th_ret (hQ0 a_ w_ h)) rfl ⟨.tmp 1 rfl, .tmp 0 rfl, trivial⟩ ?_
   clear hs17 hQ0 hN0 hK3
   first | (simp [pack, Book.longerR, hok, hwl, hqn, hx, hF]; done) | (simp [pack, Book.longerR, hok, hwl, hqn, hx, hF, hi0]; done) | (simp only [pack, Book.longerR, hok, hwl, hqn, hx, hF, if_true, if_neg hi0]; done) | (simp [pack, Book.longerR, hok, hwl]; done) | simp [pack, Book.longerR, hok]
 · have hok : b.ok = true := by cases h : b.ok <;> simp [h] at hc6 ⊢
   have hb := ok_bd hok
   refine cd_skip ?_
   refine th_norm (hK3 _ _ ?_)
   refine cd_seq fun K8 hK8 => ?_
   refine cd_region fun K9 hK9 => ?_
   refine sq rfl (st_move hs11 (Ev.t 5 rfl) rfl rfl fun _ _ hs12 => ?_); clear hs11
   refine sq rfl (st_field (o' := 22) hs12 (Ev.t 5 rfl) rfl rfl runUnderlying27 rfl sizeOf25 rfl rfl fun _ _ hs13 => ?_); clear hs12
   refine sq rfl (st_load1 (o := 0) (off := 22) (v := .slice A n cp) hs13 (Ev.t 0 rfl) rfl rfl isAgg25 (hs13.cells 0 rfl) rfl fun _ _ hs14 => ?_); clear hs13
   refine sq rfl (st_len hs14 (Ev.t 0 rfl) rfl rfl runUnderlying25 fun _ _ hs15 => ?_); clear hs14
   refine sq rfl (st_sub (z := (n : Int) - 1) hs15 (Ev.t 0 rfl) (.const _) rfl rfl rfl (by omega) fun _ _ hs16 => ?_); clear hs15
   refine sq rfl (st_callv (vs := [.int .i64 k, .int .i64 0, .int .i64 ((n : Int) - 1)]) hs16 (.func _) ⟨(Ev.t 4 rfl), (.const _), (Ev.t 0 rfl), trivial⟩ rfl rfl call48 rfl (within_v k 0 ((n : Int) - 1) _) fun _ _ hs17 => ?_); clear hs16
   refine sq rfl (st_not hs17 (Ev.t 0 rfl) rfl rfl fun _ _ hs18 => ?_); clear hs17
   refine hK9 _ _ ?_; clear hK9
   have hs19 := hs18.keep [0, 9, 10, 11, 12] [_, _, _, _, _] rfl; clear hs18
   refine cd_cond hs19 (Ev.t 0 rfl) (fun hc10 => ?_) (fun hc10 => ?_)
   · have hwl : ¬ (within k 0 ((b.parts.length : Int) - 1) = true) := by rw [← hP.len]; intro h1; simp [h1] at hc10
     refine cd_region fun K11 hK11 => ?_
     have hs20 := hs19.keep [0, 1, 3, 4] [_, _, _, _] rfl; clear hs19
     refine sq rfl (st_assign hs20 (.const _) rfl rfl fun _ _ hs21 => ?_); clear hs20
     have hs22 := hs21.keep [0, 1, 3, 4] [_, _, _, _] rfl; clear hs21
     refine sq rfl (st_assign hs22 (.const _) rfl rfl fun _ _ hs23 => ?_); clear hs22
     refine hK11 _ _ ?_; clear hK11
     have hs24 := hs23.keep [0, 1] [_, _] rfl; clear hs23
     refine cd_retv (vs := [.int .i64 0, .int .i64 41]) hs24 (fun a_ w_ h => th_ret (hQ0 a_ w_ h)) rfl ⟨.tmp 1 rfl, .tmp 0 rfl, trivial⟩ ?_
     clear hs24 hQ0 hN0 hK8
     first | (simp [pack, Book.longerR, hok, hwl, hqn, hx, hF]; done) | (simp [pack, Book.longerR, hok, hwl, hqn, hx, hF, hi0]; done) | (simp only [pack, Book.longerR, hok, hwl, hqn, hx, hF, if_true, if_neg hi0]; done) | (simp [pack, Book.longerR, hok, hwl]; done) | simp [pack, Book.longerR, hok]
   · simp only [Bool.not_eq_false'] at hc10
     have hwi := hc10
     have hwj := Eng.within_iff.1 hwi
     have hl2 := hP.len
     have hwl : within k 0 ((b.parts.length : Int) - 1) = true := by rw [← hl2]; exact hwi
     obtain ⟨q, hq⟩ : ∃ q : Nat, (q : Int) = k := ⟨k.toNat, Int.toNat_of_nonneg hwj.1⟩
     have hqn : k.toNat = q := by omega
     have hqp : q < b.parts.length := by omega
     obtain ⟨x, hx⟩ : ∃ x, b.parts[q]? = some x := ⟨_, List.getElem?_eq_getElem hqp⟩
     have hx60 := ok_hi hok hx
     have hxm := (hb.parts q x hx).1 true
     simp only [Span.end, if_true] at hxm
     have hs20 := Sx.keepE [0, 1, 2, 3, 4] [(20, _), (5, _), (4, _), (2, _), (1, .int .i64 (q : Int))] ⟨⟨_, rfl, rfl⟩, ⟨_, rfl, rfl⟩, ⟨_, rfl, rfl⟩, ⟨_, rfl, rfl⟩, ⟨_, rfl, (by rw [hq])⟩, trivial⟩ hs19; clear hs19
     obtain ⟨b12, o12, hA12, -, hc12⟩ := hP.el q x hx
     refine cd_skip ?_
     refine th_norm (hK8 _ _ ?_)
     refine cd_region fun K13 hK13 => ?_
     refine sq rfl (st_loadA (o := 0) (off := 0) (vs := (bookL b A n cp)) hs20 (Ev.t 3 rfl) rfl rfl isAgg27 sizeOf27 (hs20.cells 0 rfl) rfl fun _ _ hs21 => ?_); clear hs20
     refine sq rfl (st_alloc hs21 rfl rfl zeroValue27 rfl fun b14 _ _ hs22 => ?_); clear hs21
     refine sq rfl (st_store (l' := (bookL b A n cp)) (vs := (bookL b A n cp)) (i := 0) hs22 (Ev.t 0 rfl) (Ev.t 1 rfl) sizeOf27 rfl rfl rfl rfl rfl rfl fun _ _ hs23 => ?_); clear hs22
     have hs24 := hs23.asB [_, _] rfl; clear hs23
     refine hK13 _ _ ?_; clear hK13
     have hs25 := hs24.keep [0, 3, 4, 5, 6] [_, _, _, _, _] rfl; clear hs24
     refine cd_region fun K15 hK15 => ?_
     refine sq rfl (st_field (o' := 22) hs25 (Ev.t 3 rfl) rfl rfl runUnderlying27 rfl sizeOf25 rfl rfl fun _ _ hs26 => ?_); clear hs25
     refine sq rfl (st_load1 (o := 0) (off := 22) (v := .slice A n cp) hs26 (Ev.t 0 rfl) rfl rfl isAgg25 (hs26.cells 1 rfl) rfl fun _ _ hs27 => ?_); clear hs26
     have hs27h := hs27.hide 0; clear hs27
     refine sq rfl (st_append (enc := partL) (zs := ([] : List Part)) (ys := b.parts) (c := 0) (i := 0) (o := none) hs27h (.const _) (Ev.t 0 rfl) rfl rfl underlying25 (show (Tryd.prog.info? 66).map (fun i => (i.zero, i.size, i.bytes)) = some (some (.agg #[.int .i64 0, .int .i64 0, .bool false, .int .i64 0]), 4, 32) by kernel_rfl) rfl (fun _ => rfl) (fun _ u hu => by simp only [partL, List.mem_cons, List.not_mem_nil, or_false] at hu; rcases hu with rfl | rfl | rfl | rfl <;> rfl) (.inl ⟨rfl, rfl⟩) rfl (hP.kp hs27h.kp) (by have := hb.len; simp; omega) (by have := hb.len; simp; omega) (fun A7 c7 b7 o7 a_28 w_28 hown7 hs28 => ?_)); clear hs27h
     have hs29 : Sx 51 [] [(24, .slice A7 (([] : List Part).length + n) c7), (23, .slice A n cp), (22, .pointer (some ⟨b2, 22, none⟩)), (7, .pointer (some ⟨b14, 0, none⟩)), (5, .int .i64 0), (4, .int .i64 0), (2, .pointer (some ⟨b2, 0, none⟩)), (1, .int .i64 (q : Int))] [(b7, o7), (b14, some (.cells ⟨(bookL b A n cp)⟩ 27 (0, 0))), (b2, some (.cells ⟨(bookL b A n cp)⟩ 27 (0, 0)))] [] w _ _ := hs28; clear hs28
     have hs30 := Sx.keepE [0, 1, 2, 3, 4, 5, 6, 7] [(24, .slice A7 n c7), (23, _), (22, _), (7, _), (5, _), (4, _), (2, _), (1, _)] ⟨⟨_, rfl, (by simp)⟩, ⟨_, rfl, rfl⟩, ⟨_, rfl, rfl⟩, ⟨_, rfl, rfl⟩, ⟨_, rfl, rfl⟩, ⟨_, rfl, rfl⟩, ⟨_, rfl, rfl⟩, ⟨_, rfl, rfl⟩, trivial⟩ hs29; clear hs29
     refine sq rfl (st_field (o' := 22) hs30 (Ev.t 3 rfl) rfl rfl runUnderlying27 rfl sizeOf25 rfl rfl fun _ _ hs31 => ?_); clear hs30
     refine sq rfl (st_store (l' := [.int .i64 b.coal.lo, .int .i64 b.coal.hi, .int .i64 b.water.lo, .int .i64 b.water.hi, .int .i64 b.bunker, .int .i64 b.tank, .int .i64 b.scoop, .int .i64 b.pail, .int .i64 b.burn0.lo, .int .i64 b.burn0.hi, .int .i64 b.burn1.lo, .int .i64 b.burn1.hi, .int .i64 b.drink0.lo, .int .i64 b.drink0.hi, .int .i64 b.drink1.lo, .int .i64 b.drink1.hi, .int .i64 b.full.lo, .int .i64 b.full.hi, .int .i64 b.weak.lo, .int .i64 b.weak.hi, .int .i64 b.mark, .int .i64 b.lamp, .slice A7 n c7]) (vs := [.slice A7 n c7]) (i := 1) hs31 (Ev.t 0 rfl) (Ev.t 1 rfl) sizeOf25 rfl rfl rfl rfl rfl rfl fun _ _ hs32 => ?_); clear hs31
     have hs33 := hs32.asB [_, _, _] rfl; clear hs32
     refine hK15 _ _ ?_; clear hK15
     have hs34 := hs33.keep [4, 5, 6, 7, 8] [_, _, _, _, _] rfl; clear hs33
     refine cd_seq fun K16 hK16 => ?_
     refine cd_region fun K17 hK17 => ?_
     refine sq rfl (st_assign hs34 (.const _) rfl rfl fun _ _ hs35 => ?_); clear hs34
     refine hK17 _ _ ?_; clear hK17
     refine cd_block ?_
     have hs36 : Sx 51 [] [(8, .int .i64 (((LG.mk 61 x.mi.hi o7).j : Int) - 1)), (7, .pointer (some ⟨b14, 0, none⟩)), (5, .int .i64 0), (4, .int .i64 0), (2, .pointer (some ⟨b2, 0, none⟩)), (1, .int .i64 (q : Int))] [(b7, (LG.mk 61 x.mi.hi o7).o), (b14, some (.cells ⟨[.int .i64 b.coal.lo, .int .i64 b.coal.hi, .int .i64 b.water.lo, .int .i64 b.water.hi, .int .i64 b.bunker, .int .i64 b.tank, .int .i64 b.scoop, .int .i64 b.pail, .int .i64 b.burn0.lo, .int .i64 b.burn0.hi, .int .i64 b.burn1.lo, .int .i64 b.burn1.hi, .int .i64 b.drink0.lo, .int .i64 b.drink0.hi, .int .i64 b.drink1.lo, .int .i64 b.drink1.hi, .int .i64 b.full.lo, .int .i64 b.full.hi, .int .i64 b.weak.lo, .int .i64 b.weak.hi, .int .i64 b.mark, .int .i64 b.lamp, .slice A7 n c7]⟩ 27 (0, 0))), (b2, some (.cells ⟨(bookL b A n cp)⟩ 27 (0, 0)))] [] w _ _ := Sx.keepE [0, 1, 2, 3, 4, 5] _ ⟨⟨_, rfl, rfl⟩, ⟨_, rfl, rfl⟩, ⟨_, rfl, rfl⟩, ⟨_, rfl, rfl⟩, ⟨_, rfl, rfl⟩, ⟨_, rfl, rfl⟩, trivial⟩ hs35; clear hs35
     refine cd_loop (X := LG) (fun g a_ w_ => (g.j ≤ 61) ∧ (b.longest q x 61 = b.longest q x g.j) ∧ (Sx.Own partL 4 66 A7 c7 (b.parts.set q (x.upto g.z)) b7 g.o) ∧ Sx 51 [] [(8, .int .i64 ((g.j : Int) - 1)), (7, .pointer (some ⟨b14, 0, none⟩)), (5, .int .i64 0), (4, .int .i64 0), (2, .pointer (some ⟨b2, 0, none⟩)), (1, .int .i64 (q : Int))] [(b7, g.o), (b14, some (.cells ⟨[.int .i64 b.coal.lo, .int .i64 b.coal.hi, .int .i64 b.water.lo, .int .i64 b.water.hi, .int .i64 b.bunker, .int .i64 b.tank, .int .i64 b.scoop, .int .i64 b.pail, .int .i64 b.burn0.lo, .int .i64 b.burn0.hi, .int .i64 b.burn1.lo, .int .i64 b.burn1.hi, .int .i64 b.drink0.lo, .int .i64 b.drink0.hi, .int .i64 b.drink1.lo, .int .i64 b.drink1.hi, .int .i64 b.full.lo, .int .i64 b.full.hi, .int .i64 b.weak.lo, .int .i64 b.weak.hi, .int .i64 b.mark, .int .i64 b.lamp, .slice A7 n c7]⟩ 27 (0, 0))), (b2, some (.cells ⟨(bookL b A n cp)⟩ 27 (0, 0)))] [] w a_ w_) (fun g => g.j) ((LG.mk 61 x.mi.hi o7)) ⟨?_, ?_, ?_, hs36⟩ ?_
     · exact Nat.le_refl _
     · rfl
     · show Sx.Own partL 4 66 A7 c7 (b.parts.set q (x.upto x.mi.hi)) b7 o7
       rw [upto_self hx]; exact hown7
     intro g a_37 w_37 ⟨hj, hf, hown, hs37⟩; clear hs36
     have hxq : (b.parts.set q (x.upto g.z))[q]? = some (x.upto g.z) := List.getElem?_set_self hqp
     refine cd_seq fun K18 hK18 => ?_
     refine cd_region fun K19 hK19 => ?_
     refine sq rfl (st_move hs37 (Ev.t 0 rfl) rfl rfl fun _ _ hs38 => ?_); clear hs37
     refine sq rfl (st_cmp (c := decide (((g.j : Int) - 1 : Int) ≥ 0)) hs38 (Ev.t 0 rfl) (.const _) rfl rfl rfl rfl fun _ _ hs39 => ?_); clear hs38
     refine hK19 _ _ ?_; clear hK19
     have hs40 := hs39.keep [0, 2, 3, 4, 5, 6, 7] [_, _, _, _, _, _, _] rfl; clear hs39
     refine cd_cond hs40 (Ev.t 0 rfl) (fun hc20 => ?_) (fun hc20 => ?_)
     · have hjp : 0 < g.j := by simp at hc20; omega
       refine cd_skip ?_
       refine th_norm (hK18 _ _ ?_)
       refine cd_seq fun K21 hK21 => ?_
       refine cd_block ?_
       refine cd_drawn mixed hs40 [⟨30, [], Is (.pointer (some ⟨b14, 22, none⟩))⟩, ⟨31, [0], Is (.slice A7 n c7)⟩, ⟨32, [], Is (.int .i64 (q : Int))⟩, ⟨33, [], Is (.pointer (some ⟨b2, 22, none⟩))⟩, ⟨34, [3], Is (.slice A n cp)⟩, ⟨35, [], Is (.int .i64 (q : Int))⟩, ⟨36, [4, 5], Is (.pointer (some ⟨b12, o12 + q * 4, none⟩))⟩, ⟨37, [6], Is (.pointer (some ⟨b12, o12 + q * 4, none⟩))⟩, ⟨38, [7], Is (.pointer (some ⟨b12, o12 + q * 4 + 1, none⟩))⟩, ⟨39, [8], Is (.int .i64 x.mi.hi)⟩, ⟨40, [], Is (.int .i64 ((g.j : Int) - 1))⟩, ⟨41, [9, 10], Is (.int .i64 (x.mi.hi + ((g.j : Int) - 1)))⟩] (by kernel_rfl) (by kernel_rfl) fun K22 hK22 => ⟨⟨?_, ?_, ?_, ?_, ?_, ?_, ?_, ?_, ?_, ?_, ?_, ?_, trivial⟩, ?_⟩
       · rintro T_ B_ a_ w_ K_ hT hB hf hsD hk
         exact ob rfl rfl (st_field (o' := 22) hsD (evT hT 2 rfl) rfl hf runUnderlying27 rfl sizeOf25 rfl rfl fun _ _ => hk _ _ _ _ ⟨rfl, rfl⟩)
       · rintro T_ B_ a_ w_ K_ hT hB _ _ ⟨rfl, rfl⟩ h30 - hf hsD hk
         exact ob rfl rfl (st_load1 (o := 0) (off := 22) (v := .slice A7 n c7) hsD (Ev.tmp h30) rfl hf isAgg25 (hsD.cellsM (inB hB 1 rfl)) rfl fun _ _ => hk _ _ _ _ ⟨rfl, rfl⟩)
       · rintro T_ B_ a_ w_ K_ hT hB hf hsD hk
         exact ob rfl rfl (st_move hsD (evT hT 6 rfl) rfl hf fun _ _ => hk _ _ _ _ ⟨rfl, rfl⟩)
       · rintro T_ B_ a_ w_ K_ hT hB hf hsD hk
         exact ob rfl rfl (st_field (o' := 22) hsD (evT hT 5 rfl) rfl hf runUnderlying27 rfl sizeOf25 rfl rfl fun _ _ => hk _ _ _ _ ⟨rfl, rfl⟩)
       · rintro T_ B_ a_ w_ K_ hT hB _ _ ⟨rfl, rfl⟩ h33 - hf hsD hk
         exact ob rfl rfl (st_load1 (o := 0) (off := 22) (v := .slice A n cp) hsD (Ev.tmp h33) rfl hf isAgg25 (hsD.cellsM (inB hB 2 rfl)) rfl fun _ _ => hk _ _ _ _ ⟨rfl, rfl⟩)
       · rintro T_ B_ a_ w_ K_ hT hB hf hsD hk
         exact ob rfl rfl (st_move hsD (evT hT 6 rfl) rfl hf fun _ _ => hk _ _ _ _ ⟨rfl, rfl⟩)
       · rintro T_ B_ a_ w_ K_ hT hB _ _ ⟨rfl, rfl⟩ h34 - _ _ ⟨rfl, rfl⟩ h35 - hf hsD hk
         exact ob rfl rfl (st_indexM (o' := o12 + q * 4) hsD (Ev.tmp h34) (Ev.tmp h35) rfl hf hA12 runUnderlying25 sizeOf66 ⟨by omega, by have := hP.len; have := (List.getElem?_eq_some_iff.1 hx).1; omega⟩ rfl fun _ _ => hk _ _ _ _ ⟨rfl, rfl⟩)
       · rintro T_ B_ a_ w_ K_ hT hB _ _ ⟨rfl, rfl⟩ h36 - hf hsD hk
         exact ob rfl rfl (st_field (o' := o12 + q * 4) hsD (Ev.tmp h36) rfl hf runUnderlying66 rfl sizeOf23 rfl rfl fun _ _ => hk _ _ _ _ ⟨rfl, rfl⟩)
       · rintro T_ B_ a_ w_ K_ hT hB _ _ ⟨rfl, rfl⟩ h37 - hf hsD hk
         exact ob rfl rfl (st_field (o' := o12 + q * 4 + 1) hsD (Ev.tmp h37) rfl hf runUnderlying23 rfl sizeOf3 rfl rfl fun _ _ => hk _ _ _ _ ⟨rfl, rfl⟩)
       · rintro T_ B_ a_ w_ K_ hT hB _ _ ⟨rfl, rfl⟩ h38 - hf hsD hk
         exact ob rfl rfl (st_load1 (o := o12 + q * 4) (off := 1) (v := .int .i64 x.mi.hi) hsD (Ev.tmp h38) rfl hf isAgg3 (hsD.old hc12 (by simp)) rfl fun _ _ => hk _ _ _ _ ⟨rfl, rfl⟩)
       · rintro T_ B_ a_ w_ K_ hT hB hf hsD hk
         exact ob rfl rfl (st_move hsD (evT hT 1 rfl) rfl hf fun _ _ => hk _ _ _ _ ⟨rfl, rfl⟩)
       · rintro T_ B_ a_ w_ K_ hT hB _ _ ⟨rfl, rfl⟩ h39 - _ _ ⟨rfl, rfl⟩ h40 - hf hsD hk
         exact ob rfl rfl (st_add (z := x.mi.hi + ((g.j : Int) - 1)) hsD (Ev.tmp h39) (Ev.tmp h40) rfl hf rfl (by omega) fun _ _ => hk _ _ _ _ ⟨rfl, rfl⟩)
       rintro _ _ ⟨rfl, rfl⟩ _ _ ⟨rfl, rfl⟩ _ _ ⟨rfl, rfl⟩ _ _ ⟨rfl, rfl⟩ _ _ ⟨rfl, rfl⟩ _ _ ⟨rfl, rfl⟩ _ _ ⟨rfl, rfl⟩ _ _ ⟨rfl, rfl⟩ _ _ ⟨rfl, rfl⟩ _ _ ⟨rfl, rfl⟩ _ _ ⟨rfl, rfl⟩ _ _ ⟨rfl, rfl⟩ a_41 w_41 hs41; clear hs40
       have hs42 := Sx.as (T' := [_, _, _, _, _, _, _, _, _, _, _, _, _, _, _, _, _, _, _]) (B' := [_, _, _]) rfl rfl hs41; clear hs41
       obtain ⟨hA23, l23, ho23, hr23⟩ := hown.open hxq
       refine sq rfl (st_indexM (o' := q * 4) hs42 (Ev.t 1 rfl) (Ev.t 2 rfl) rfl rfl hA23 runUnderlying25 sizeOf66 ⟨by omega, by have := (List.getElem?_eq_some_iff.1 hxq).1; omega⟩ (by simp) fun _ _ hs43 => ?_); clear hs42
       refine sq rfl (st_field (o' := q * 4) hs43 (Ev.t 0 rfl) rfl rfl runUnderlying66 rfl sizeOf23 rfl rfl fun _ _ hs44 => ?_); clear hs43
       refine sq rfl (st_field (o' := q * 4 + 1) hs44 (Ev.t 0 rfl) rfl rfl runUnderlying23 rfl sizeOf3 rfl rfl fun _ _ hs45 => ?_); clear hs44
       refine sq rfl (st_storeOwn (enc := partL) (sz := 4) (off := 1) (kk := q) (i := 0) (u := x.upto g.z) (u' := x.upto (x.mi.hi + ((g.j : Int) - 1))) hs45 (Ev.t 0 rfl) (Ev.t 14 rfl) sizeOf3 rfl hown hxq (fun _ => rfl) (by decide) rfl rfl rfl (fun o8 a_46 w_46 hown8 hs46 => ?_)); clear hs45
       rw [List.set_set] at hown8
       have hs47 : Sx 51 [] [(44, .pointer (some ⟨b7, q * 4 + 1, none⟩)), (43, .pointer (some ⟨b7, q * 4, none⟩)), (42, .pointer (some ⟨b7, q * 4, none⟩)), (30, .pointer (some ⟨b14, 22, none⟩)), (31, .slice A7 n c7), (32, .int .i64 (q : Int)), (33, .pointer (some ⟨b2, 22, none⟩)), (34, .slice A n cp), (35, .int .i64 (q : Int)), (36, .pointer (some ⟨b12, o12 + q * 4, none⟩)), (37, .pointer (some ⟨b12, o12 + q * 4, none⟩)), (38, .pointer (some ⟨b12, o12 + q * 4 + 1, none⟩)), (39, .int .i64 x.mi.hi), (40, .int .i64 ((g.j : Int) - 1)), (41, .int .i64 (x.mi.hi + ((g.j : Int) - 1))), (27, .bool (decide (((g.j : Int) - 1 : Int) ≥ 0))), (8, .int .i64 ((g.j : Int) - 1)), (7, .pointer (some ⟨b14, 0, none⟩)), (5, .int .i64 0), (4, .int .i64 0), (2, .pointer (some ⟨b2, 0, none⟩)), (1, .int .i64 (q : Int))] [(b7, o8), (b14, some (.cells ⟨[.int .i64 b.coal.lo, .int .i64 b.coal.hi, .int .i64 b.water.lo, .int .i64 b.water.hi, .int .i64 b.bunker, .int .i64 b.tank, .int .i64 b.scoop, .int .i64 b.pail, .int .i64 b.burn0.lo, .int .i64 b.burn0.hi, .int .i64 b.burn1.lo, .int .i64 b.burn1.hi, .int .i64 b.drink0.lo, .int .i64 b.drink0.hi, .int .i64 b.drink1.lo, .int .i64 b.drink1.hi, .int .i64 b.full.lo, .int .i64 b.full.hi, .int .i64 b.weak.lo, .int .i64 b.weak.hi, .int .i64 b.mark, .int .i64 b.lamp, .slice A7 n c7]⟩ 27 (0, 0))), (b2, some (.cells ⟨(bookL b A n cp)⟩ 27 (0, 0)))] [] w _ _ := hs46; clear hs46
       refine hK22 _ _ ?_; clear hK22
       have hs48 := hs47.keep [16, 17, 18, 19, 20, 21] [_, _, _, _, _, _] rfl; clear hs47
       refine cd_region fun K24 hK24 => ?_
       refine sq rfl (st_loadA (o := 0) (off := 0) (vs := [.int .i64 b.coal.lo, .int .i64 b.coal.hi, .int .i64 b.water.lo, .int .i64 b.water.hi, .int .i64 b.bunker, .int .i64 b.tank, .int .i64 b.scoop, .int .i64 b.pail, .int .i64 b.burn0.lo, .int .i64 b.burn0.hi, .int .i64 b.burn1.lo, .int .i64 b.burn1.hi, .int .i64 b.drink0.lo, .int .i64 b.drink0.hi, .int .i64 b.drink1.lo, .int .i64 b.drink1.hi, .int .i64 b.full.lo, .int .i64 b.full.hi, .int .i64 b.weak.lo, .int .i64 b.weak.hi, .int .i64 b.mark, .int .i64 b.lamp, .slice A7 n c7]) hs48 (Ev.t 1 rfl) rfl rfl isAgg27 sizeOf27 (hs48.cells 1 rfl) rfl fun _ _ hs49 => ?_); clear hs48
       refine sq rfl (st_build hs49 (qs := [(0, .agg ⟨[.int .i64 b.coal.lo, .int .i64 b.coal.hi, .int .i64 b.water.lo, .int .i64 b.water.hi, .int .i64 b.bunker, .int .i64 b.tank, .int .i64 b.scoop, .int .i64 b.pail, .int .i64 b.burn0.lo, .int .i64 b.burn0.hi, .int .i64 b.burn1.lo, .int .i64 b.burn1.hi, .int .i64 b.drink0.lo, .int .i64 b.drink0.hi, .int .i64 b.drink1.lo, .int .i64 b.drink1.hi, .int .i64 b.full.lo, .int .i64 b.full.hi, .int .i64 b.weak.lo, .int .i64 b.weak.hi, .int .i64 b.mark, .int .i64 b.lamp, .slice A7 n c7]⟩)]) (v := .agg ⟨[.int .i64 b.coal.lo, .int .i64 b.coal.hi, .int .i64 b.water.lo, .int .i64 b.water.hi, .int .i64 b.bunker, .int .i64 b.tank, .int .i64 b.scoop, .int .i64 b.pail, .int .i64 b.burn0.lo, .int .i64 b.burn0.hi, .int .i64 b.burn1.lo, .int .i64 b.burn1.hi, .int .i64 b.drink0.lo, .int .i64 b.drink0.hi, .int .i64 b.drink1.lo, .int .i64 b.drink1.hi, .int .i64 b.full.lo, .int .i64 b.full.hi, .int .i64 b.weak.lo, .int .i64 b.weak.hi, .int .i64 b.mark, .int .i64 b.lamp, .slice A7 n c7]⟩) ⟨(Ev.t 0 rfl), trivial⟩ rfl rfl rfl (fun _ => by kernel_rfl) fun _ _ hs50 => ?_); clear hs49
       refine sq rfl (st_call (vs := [.agg ⟨bookL (b.upto q x (x.mi.hi + ((g.j : Int) - 1))) A7 n c7⟩]) hs50 (.func _) ⟨(Ev.t 0 rfl), trivial⟩ rfl rfl call61 rfl (plan_b (b.upto q x (x.mi.hi + ((g.j : Int) - 1))) A7 n c7 _ (by rw [show n = (b.upto q x (x.mi.hi + ((g.j : Int) - 1))).parts.length from by simp only [Book.upto, List.length_set]; exact hl2]; exact hown8.at hs50 0 rfl) hn (hG.kp hs50.kp (by simp)) (upto_bd hb hx (by omega)) (by simp only [Book.upto, List.length_set]; exact ok_ne hok)) (fun v_ bs_ a_51 w_51 hp9 hs51 => ?_)); clear hs50
       rcases hp9 with ⟨hres, rfl, rfl⟩ | ⟨pl, kk, A9, c9, bb, oo, hres, rfl, hown9, rfl, hk9, hpl9⟩
       · skip
         have hs52 : Sx 51 [] [(47, .agg ⟨[.slice none 0 0, .int .i64 (-1)]⟩), (46, .agg ⟨[.int .i64 b.coal.lo, .int .i64 b.coal.hi, .int .i64 b.water.lo, .int .i64 b.water.hi, .int .i64 b.bunker, .int .i64 b.tank, .int .i64 b.scoop, .int .i64 b.pail, .int .i64 b.burn0.lo, .int .i64 b.burn0.hi, .int .i64 b.burn1.lo, .int .i64 b.burn1.hi, .int .i64 b.drink0.lo, .int .i64 b.drink0.hi, .int .i64 b.drink1.lo, .int .i64 b.drink1.hi, .int .i64 b.full.lo, .int .i64 b.full.hi, .int .i64 b.weak.lo, .int .i64 b.weak.hi, .int .i64 b.mark, .int .i64 b.lamp, .slice A7 n c7]⟩), (45, .agg ⟨[.int .i64 b.coal.lo, .int .i64 b.coal.hi, .int .i64 b.water.lo, .int .i64 b.water.hi, .int .i64 b.bunker, .int .i64 b.tank, .int .i64 b.scoop, .int .i64 b.pail, .int .i64 b.burn0.lo, .int .i64 b.burn0.hi, .int .i64 b.burn1.lo, .int .i64 b.burn1.hi, .int .i64 b.drink0.lo, .int .i64 b.drink0.hi, .int .i64 b.drink1.lo, .int .i64 b.drink1.hi, .int .i64 b.full.lo, .int .i64 b.full.hi, .int .i64 b.weak.lo, .int .i64 b.weak.hi, .int .i64 b.mark, .int .i64 b.lamp, .slice A7 n c7]⟩), (8, .int .i64 ((g.j : Int) - 1)), (7, .pointer (some ⟨b14, 0, none⟩)), (5, .int .i64 0), (4, .int .i64 0), (2, .pointer (some ⟨b2, 0, none⟩)), (1, .int .i64 (q : Int))] [(b7, o8), (b14, some (.cells ⟨[.int .i64 b.coal.lo, .int .i64 b.coal.hi, .int .i64 b.water.lo, .int .i64 b.water.hi, .int .i64 b.bunker, .int .i64 b.tank, .int .i64 b.scoop, .int .i64 b.pail, .int .i64 b.burn0.lo, .int .i64 b.burn0.hi, .int .i64 b.burn1.lo, .int .i64 b.burn1.hi, .int .i64 b.drink0.lo, .int .i64 b.drink0.hi, .int .i64 b.drink1.lo, .int .i64 b.drink1.hi, .int .i64 b.full.lo, .int .i64 b.full.hi, .int .i64 b.weak.lo, .int .i64 b.weak.hi, .int .i64 b.mark, .int .i64 b.lamp, .slice A7 n c7]⟩ 27 (0, 0))), (b2, some (.cells ⟨(bookL b A n cp)⟩ 27 (0, 0)))] [] w _ _ := hs51; clear hs51
         refine sq rfl (st_fieldv (v := .int .i64 (-1)) hs52 (Ev.t 0 rfl) rfl rfl runUnderlying89 rfl isAgg3 rfl fun _ _ hs53 => ?_); clear hs52
         refine sq rfl (st_cmp (c := (-1 : Int) != (-1)) hs53 (Ev.t 0 rfl) (.const _) rfl rfl rfl rfl fun _ _ hs54 => ?_); clear hs53
         refine hK24 _ _ ?_; clear hK24
         have hs55 := hs54.keep [0, 5, 6, 7, 8, 9, 10] [_, _, _, _, _, _, _] rfl; clear hs54
         have hc25 : ((-1 : Int) != (-1)) = false := rfl
         refine cd_cond hs55 (Ev.t 0 rfl) (fun h => absurd (hc25.symm.trans h) (by decide)) (fun _ => ?_)
         have hno := longest_no hjp (can_none hres)
         refine cd_skip ?_
         refine in_norm ?_
         refine th_norm (hK21 _ _ ?_)
         refine cd_region1 ?_
         refine sq rfl (st_move hs55 (Ev.t 1 rfl) rfl rfl fun _ _ hs56 => ?_); clear hs55
         refine sq rfl (st_sub (z := ((g.j : Int) - 1) - 1) hs56 (Ev.t 0 rfl) (.const _) rfl rfl rfl (by omega) fun _ _ hs57 => ?_); clear hs56
         have hs58 := hs57.keep [0, 1, 2, 4, 5, 6, 7, 8] [_, _, _, _, _, _, _, _] rfl; clear hs57
         refine sq rfl (st_assign hs58 (Ev.t 0 rfl) rfl rfl fun _ _ hs59 => ?_); clear hs58
         refine wpListIn_nil ?_
         have hs60 := hs59.keep [0, 4, 5, 6, 7, 8] [_, _, _, _, _, _] rfl; clear hs59
         refine ⟨(LG.mk (g.j - 1) (x.mi.hi + ((g.j : Int) - 1)) o8), ⟨?_, ?_, ?_, ?_⟩, by (show g.j - 1 < g.j; omega)⟩
         · show g.j - 1 ≤ 61; omega
         · exact hf.trans hno
         · exact hown8
         exact Sx.keepE [0, 1, 2, 3, 4, 5] _ ⟨⟨_, rfl, by congr 1; simp only; omega⟩, ⟨_, rfl, rfl⟩, ⟨_, rfl, rfl⟩, ⟨_, rfl, rfl⟩, ⟨_, rfl, rfl⟩, ⟨_, rfl, rfl⟩, trivial⟩ hs60
       · skip
         have hs52 : Sx 51 [] [(47, .agg ⟨[.slice A9 pl.length c9, .int .i64 kk]⟩), (46, .agg ⟨[.int .i64 b.coal.lo, .int .i64 b.coal.hi, .int .i64 b.water.lo, .int .i64 b.water.hi, .int .i64 b.bunker, .int .i64 b.tank, .int .i64 b.scoop, .int .i64 b.pail, .int .i64 b.burn0.lo, .int .i64 b.burn0.hi, .int .i64 b.burn1.lo, .int .i64 b.burn1.hi, .int .i64 b.drink0.lo, .int .i64 b.drink0.hi, .int .i64 b.drink1.lo, .int .i64 b.drink1.hi, .int .i64 b.full.lo, .int .i64 b.full.hi, .int .i64 b.weak.lo, .int .i64 b.weak.hi, .int .i64 b.mark, .int .i64 b.lamp, .slice A7 n c7]⟩), (45, .agg ⟨[.int .i64 b.coal.lo, .int .i64 b.coal.hi, .int .i64 b.water.lo, .int .i64 b.water.hi, .int .i64 b.bunker, .int .i64 b.tank, .int .i64 b.scoop, .int .i64 b.pail, .int .i64 b.burn0.lo, .int .i64 b.burn0.hi, .int .i64 b.burn1.lo, .int .i64 b.burn1.hi, .int .i64 b.drink0.lo, .int .i64 b.drink0.hi, .int .i64 b.drink1.lo, .int .i64 b.drink1.hi, .int .i64 b.full.lo, .int .i64 b.full.hi, .int .i64 b.weak.lo, .int .i64 b.weak.hi, .int .i64 b.mark, .int .i64 b.lamp, .slice A7 n c7]⟩), (8, .int .i64 ((g.j : Int) - 1)), (7, .pointer (some ⟨b14, 0, none⟩)), (5, .int .i64 0), (4, .int .i64 0), (2, .pointer (some ⟨b2, 0, none⟩)), (1, .int .i64 (q : Int))] [(bb, oo), (b7, o8), (b14, some (.cells ⟨[.int .i64 b.coal.lo, .int .i64 b.coal.hi, .int .i64 b.water.lo, .int .i64 b.water.hi, .int .i64 b.bunker, .int .i64 b.tank, .int .i64 b.scoop, .int .i64 b.pail, .int .i64 b.burn0.lo, .int .i64 b.burn0.hi, .int .i64 b.burn1.lo, .int .i64 b.burn1.hi, .int .i64 b.drink0.lo, .int .i64 b.drink0.hi, .int .i64 b.drink1.lo, .int .i64 b.drink1.hi, .int .i64 b.full.lo, .int .i64 b.full.hi, .int .i64 b.weak.lo, .int .i64 b.weak.hi, .int .i64 b.mark, .int .i64 b.lamp, .slice A7 n c7]⟩ 27 (0, 0))), (b2, some (.cells ⟨(bookL b A n cp)⟩ 27 (0, 0)))] [] w _ _ := hs51; clear hs51
         refine sq rfl (st_fieldv (v := .int .i64 kk) hs52 (Ev.t 0 rfl) rfl rfl runUnderlying89 rfl isAgg3 rfl fun _ _ hs53 => ?_); clear hs52
         refine sq rfl (st_cmp (c := (kk : Int) != (-1)) hs53 (Ev.t 0 rfl) (.const _) rfl rfl rfl rfl fun _ _ hs54 => ?_); clear hs53
         refine hK24 _ _ ?_; clear hK24
         have hs55 := hs54.keep [0, 5, 6, 7, 8, 9, 10] [_, _, _, _, _, _, _] rfl; clear hs54
         have hc26 : ((kk : Int) != (-1)) = true := by simp; omega
         refine cd_cond hs55 (Ev.t 0 rfl) (fun _ => ?_) (fun h => absurd (hc26.symm.trans h) (by decide))
         have hF := hf.trans (longest_yes hjp (can_some hres)); have hi0 : ¬ ((g.j : Int) - 1 < 0) := by omega
         refine cd_region fun K27 hK27 => ?_
         refine sq rfl (st_move hs55 (Ev.t 1 rfl) rfl rfl fun _ _ hs56 => ?_); clear hs55
         have hs57 := hs56.keep [0, 1, 2, 3, 4, 6, 7] [_, _, _, _, _, _, _] rfl; clear hs56
         refine sq rfl (st_assign hs57 (Ev.t 0 rfl) rfl rfl fun _ _ hs58 => ?_); clear hs57
         have hs59 := hs58.keep [0, 1, 2, 3, 4, 6, 7] [_, _, _, _, _, _, _] rfl; clear hs58
         refine sq rfl (st_assign hs59 (.const _) rfl rfl fun _ _ hs60 => ?_); clear hs59
         refine hK27 _ _ ?_; clear hK27
         have hs61 := hs60.keep [0, 1] [_, _] rfl; clear hs60
         refine cd_retv (vs := [.int .i64 ((g.j : Int) - 1), .int .i64 0]) hs61 (fun a_ w_ h => in_ret (th_ret (th_ret (in_ret (th_ret (hQ0 a_ w_ h)))))) rfl ⟨.tmp 1 rfl, .tmp 0 rfl, trivial⟩ ?_
         clear hs61 hQ0 hN0 hK21 hK16
         first | (simp [pack, Book.longerR, hok, hwl, hqn, hx, hF]; done) | (simp [pack, Book.longerR, hok, hwl, hqn, hx, hF, hi0]; done) | (simp only [pack, Book.longerR, hok, hwl, hqn, hx, hF, if_true, if_neg hi0]; done) | (simp [pack, Book.longerR, hok, hwl]; done) | simp [pack, Book.longerR, hok]
     · have hj0 : g.j = 0 := by simp at hc20; omega
       have hF : b.longest q x 61 = -1 := by rw [hf, hj0]; rfl
       refine cd_exit ?_
       refine th_exit ?_
       refine th_exit ?_
       refine in_hit ?_
       refine th_norm (hK16 _ _ ?_)
       refine cd_region fun K28 hK28 => ?_
       have hs41 := hs40.keep [0, 1, 2, 3, 5, 6] [_, _, _, _, _, _] rfl; clear hs40
       refine sq rfl (st_assign hs41 (.const _) rfl rfl fun _ _ hs42 => ?_); clear hs41
       have hs43 := hs42.keep [0, 1, 2, 3, 5, 6] [_, _, _, _, _, _] rfl; clear hs42
       refine sq rfl (st_assign hs43 (.const _) rfl rfl fun _ _ hs44 => ?_); clear hs43
       refine hK28 _ _ ?_; clear hK28
       have hs45 := hs44.keep [0, 1] [_, _] rfl; clear hs44
       refine cd_retv (vs := [.int .i64 0, .int .i64 4]) hs45 hQ0 rfl ⟨.tmp 1 rfl, .tmp 0 rfl, trivial⟩ ?_
       clear hs45 hQ0 hN0
       first | (simp [pack, Book.longerR, hok, hwl, hqn, hx, hF]; done) | (simp [pack, Book.longerR, hok, hwl, hqn, hx, hF, hi0]; done) | (simp only [pack, Book.longerR, hok, hwl, hqn, hx, hF, if_true, if_neg hi0]; done) | (simp [pack, Book.longerR, hok, hwl]; done) | simp [pack, Book.longerR, hok]
end Go.Proofs.YtdbcedmofoakmaaDoor
