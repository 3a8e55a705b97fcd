/- The reference of the engine: fewest, Plan. -/
import Derived.Test.YtdbcedmofoakmaaDoorEl
import Derived.Test.YtdbcedmofoakmaaDoorEg
import Derived.Test.YtdbcedmofoakmaaDoorEf2
import Derived.Test.YtdbcedmofoakmaaDoorEv
set_option maxRecDepth 100000
namespace Go.Proofs.YtdbcedmofoakmaaDoor
open Go Go.Sx Go.Eng
/-- The contract of 'fewest' at part i. -/
def fewOk (b : Book) (A : Option Addr) (n cp : Nat) (W : World) (i : Nat) : Prop := ∀ (cl ch vl vh : Int) (pre : List Walks) (A2 : Option Addr) (n2 c2 : Nat) (bp : List Walks) (A3 : Option Addr) (n3 c3 : Nat) (bk : Int) (G : List (Nat × Option Obj)) (w : World),
  (-1000000 * (i : Int) ≤ cl ∧ cl ≤ 1000 ∧ -1000000 * (i : Int) ≤ vl ∧ vl ≤ 1000) → (-1000000 * (i : Int) ≤ ch ∧ ch ≤ 1000 ∧ -1000000 * (i : Int) ≤ vh ∧ vh ≤ 1000) → pre.length = i → SmallP pre → PlIn G A2 n2 c2 pre → PlIn G A3 n3 c3 bp → allSome G → (∀ p ∈ G, W.heap.size ≤ p.1) → Kp [] W w →
  CallsG Tryd.prog 62 [.agg ⟨bookL b A n cp⟩, .agg ⟨[.int .i64 cl, .int .i64 ch, .int .i64 vl, .int .i64 vh]⟩, .slice A2 n2 c2, .slice A3 n3 c3, .int .i64 bk] G w (fewPost W G (b.few (b.parts.drop i) cl vl pre (bp, bk)))

set_option maxHeartbeats 4000000 in
theorem few_step (b : Book) (A : Option Addr) (n cp : Nat) (hn : n ≤ 140737488351232) (hb : Bd b) (W : World) (hP : PartsAt W A n b.parts) (i : Nat) (hi : i ≤ b.parts.length)
    (ih0 : i < b.parts.length → fewOk b A n cp W (i + 1)) : fewOk b A n cp W i := by
 intro cl ch vl vh pre A2 n2 c2 bp A3 n3 c3 bk G w hc hv hpre hsm h2 h3 hGs0 hlo hkW hT
 have hl2 := hP.len
 have hn2 := h2.1
 have hl100 := hb.len
 refine enterG (N := 94) w Tryd.func62 rfl rfl rfl hT (fun Q0 a_0 hQ0 hN0 hs0 => ?_)
 have hMW : ∀ q ∈ G.map (·.1), W.heap.size ≤ q := fun q hq => by obtain ⟨p, hp, rfl⟩ := List.mem_map.1 hq; exact hlo p hp
 generalize hMg : G.map (·.1) = Mg at hs0 hQ0 hN0 hMW
 have hs1 : Sx 94 [] [(0, .agg ⟨(bookL b A n cp)⟩), (1, .agg ⟨[.int .i64 cl, .int .i64 ch, .int .i64 vl, .int .i64 vh]⟩), (2, .slice A2 n2 c2), (3, .slice A3 n3 c3), (4, .int .i64 bk)] (G) Mg w _ _ := hs0; clear hs0
 refine cd_region fun K1 hK1 => ?_
 refine sq rfl (st_box hs1 (Ev.t 0 rfl) rfl rfl rfl fun b2 _ _ hs2 => ?_); clear hs1
 refine sq rfl (st_box hs2 (Ev.t 2 rfl) rfl rfl rfl fun b3 _ _ hs3 => ?_); clear hs2
 refine sq rfl (st_assign hs3 (.const _) rfl rfl fun _ _ hs4 => ?_); clear hs3
 refine sq rfl (st_assign hs4 (.const _) rfl rfl fun _ _ hs5 => ?_); clear hs4
 refine hK1 _ _ ?_; clear hK1
 have hs6 := Sx.keepT [0, 1, 2, 3, 6, 7, 8] [_, _, _, _, _, _, _] ⟨rfl, rfl, rfl, rfl, rfl, rfl, rfl, trivial⟩ hs5; clear hs5
 refine cd_region fun K4 hK4 => ?_
 refine sq rfl (st_move hs6 (Ev.t 4 rfl) rfl rfl fun _ _ hs7 => ?_); clear hs6
 refine sq rfl (st_len hs7 (Ev.t 0 rfl) rfl rfl Tryd.runUnderlying28 fun _ _ hs8 => ?_); clear hs7
 refine sq rfl (st_assign hs8 (Ev.t 0 rfl) rfl rfl fun _ _ hs9 => ?_); clear hs8
 refine hK4 _ _ ?_; clear hK4
 have hs10 := Sx.keepT [0, 3, 4, 5, 6, 7, 8, 9] [_, _, _, _, _, _, _, _] ⟨rfl, rfl, rfl, rfl, rfl, rfl, rfl, rfl, trivial⟩ hs9; clear hs9
 have hs11 := Sx.keepE [0, 1, 2, 3, 4, 5, 6, 7] [(12, .int .i64 (i : Int)), (11, _), (10, _), (6, _), (5, _), (2, _), (3, _), (4, _)] ⟨⟨_, rfl, (by rw [hn2, hpre])⟩, ⟨_, rfl, rfl⟩, ⟨_, rfl, rfl⟩, ⟨_, rfl, rfl⟩, ⟨_, rfl, rfl⟩, ⟨_, rfl, rfl⟩, ⟨_, rfl, rfl⟩, ⟨_, rfl, rfl⟩, trivial⟩ hs10; clear hs10
 refine cd_seq fun K5 hK5 => ?_
 refine cd_region fun K6 hK6 => ?_
 refine sq rfl (st_move hs11 (Ev.t 5 rfl) rfl rfl fun _ _ hs12 => ?_); clear hs11
 refine sq rfl (st_callv (vs := [.slice A2 n2 c2]) hs12 (.func _) ⟨(Ev.t 0 rfl), trivial⟩ rfl rfl Tryd.call79 rfl (rWalks_v A2 n2 c2 pre _ (h2.mem hs12 (fun p hp => List.mem_cons_of_mem _ (List.mem_cons_of_mem _ (hp)))) (by omega) hsm) fun _ _ hs13 => ?_); clear hs12
 refine sq rfl (st_move hs13 (Ev.t 9 rfl) rfl rfl fun _ _ hs14 => ?_); clear hs13
 refine sq rfl (st_cmp (c := decide ((sumW pre : Int) ≥ bk)) hs14 (Ev.t 1 rfl) (Ev.t 0 rfl) rfl rfl rfl rfl fun _ _ hs15 => ?_); clear hs14
 refine hK6 _ _ ?_; clear hK6
 have hs16 := Sx.keepT [0, 4, 5, 6, 7, 8, 9, 10, 11] [_, _, _, _, _, _, _, _, _] ⟨rfl, rfl, rfl, rfl, rfl, rfl, rfl, rfl, rfl, trivial⟩ hs15; clear hs15
 refine cd_cond hs16 (Ev.t 0 rfl) (fun hc7 => ?_) (fun hc7 => ?_)
 · have hle : bk ≤ sumW pre := by simpa using hc7
   have hres := few_le (b := b) (ps := b.parts.drop i) (c := cl) (v := vl) (bp := bp) hle
   refine cd_region fun K8 hK8 => ?_
   refine sq rfl (st_move hs16 (Ev.t 7 rfl) rfl rfl fun _ _ hs17 => ?_); clear hs16
   refine sq rfl (st_move hs17 (Ev.t 9 rfl) rfl rfl fun _ _ hs18 => ?_); clear hs17
   have hs19 := Sx.keepT [0, 1, 2, 3, 4, 6, 7, 8, 9, 10] [_, _, _, _, _, _, _, _, _, _] ⟨rfl, rfl, rfl, rfl, rfl, rfl, rfl, rfl, rfl, rfl, trivial⟩ hs18; clear hs18
   refine sq rfl (st_assign hs19 (Ev.t 1 rfl) rfl rfl fun _ _ hs20 => ?_); clear hs19
   have hs21 := Sx.keepT [0, 1, 2, 3, 4, 6, 7, 8, 9, 10] [_, _, _, _, _, _, _, _, _, _] ⟨rfl, rfl, rfl, rfl, rfl, rfl, rfl, rfl, rfl, rfl, trivial⟩ hs20; clear hs20
   refine sq rfl (st_assign hs21 (Ev.t 1 rfl) rfl rfl fun _ _ hs22 => ?_); clear hs21
   refine hK8 _ _ ?_; clear hK8
   have hs23 := Sx.keepT [0, 1] [_, _] ⟨rfl, rfl, trivial⟩ hs22; clear hs22
   have hsR := hs23.blks (List.sublist_append_right [(b3, some (.cells ⟨[.int .i64 cl, .int .i64 ch, .int .i64 vl, .int .i64 vh]⟩ 82 (0, 0))), (b2, some (.cells ⟨(bookL b A n cp)⟩ 27 (0, 0)))] G)
   exact cd_retG (vs := [.slice A3 n3 c3, .int .i64 bk]) hsR (fun a_ w_ h => th_ret (hQ0 a_ w_ h)) rfl ⟨.tmp 1 rfl, .tmp 0 rfl, trivial⟩ hGs0 ⟨(fun _ h => h), hGs0, hlo, A3, n3, c3, by rw [hres]; rfl, by rw [hres]; exact h3⟩
 · have hlt : ¬ bk ≤ sumW pre := by simpa using hc7
   refine cd_skip ?_
   refine th_norm (hK5 _ _ ?_)
   refine cd_seq fun K9 hK9 => ?_
   refine cd_region fun K10 hK10 => ?_
   refine sq rfl (st_move hs16 (Ev.t 1 rfl) rfl rfl fun _ _ hs17 => ?_); clear hs16
   refine sq rfl (st_field (o' := 22) hs17 (Ev.t 6 rfl) rfl rfl Tryd.runUnderlying27 rfl Tryd.sizeOf25 rfl rfl fun _ _ hs18 => ?_); clear hs17
   refine sq rfl (st_load1 (o := 0) (off := 22) (v := .slice A n cp) hs18 (Ev.t 0 rfl) rfl rfl Tryd.isAgg25 (hs18.cells 1 rfl) rfl fun _ _ hs19 => ?_); clear hs18
   refine sq rfl (st_len hs19 (Ev.t 0 rfl) rfl rfl Tryd.runUnderlying25 fun _ _ hs20 => ?_); clear hs19
   refine sq rfl (st_cmp (c := ((i : Int) : Int) == (n : Int)) hs20 (Ev.t 3 rfl) (Ev.t 0 rfl) rfl rfl rfl rfl fun _ _ hs21 => ?_); clear hs20
   refine hK10 _ _ ?_; clear hK10
   have hs22 := Sx.keepT [0, 6, 7, 8, 9, 10, 11, 12, 13] [_, _, _, _, _, _, _, _, _] ⟨rfl, rfl, rfl, rfl, rfl, rfl, rfl, rfl, rfl, trivial⟩ hs21; clear hs21
   refine cd_cond hs22 (Ev.t 0 rfl) (fun hc11 => ?_) (fun hc11 => ?_)
   · have hin : b.parts.length ≤ i := by simp at hc11; omega
     have hres := few_nil (c := cl) (v := vl) (bp := bp) hin hlt
     refine cd_region fun K12 hK12 => ?_
     refine sq rfl (st_move hs22 (Ev.t 6 rfl) rfl rfl fun _ _ hs23 => ?_); clear hs22
     refine sq rfl (st_move hs23 (Ev.t 7 rfl) rfl rfl fun _ _ hs24 => ?_); clear hs23
     refine sq rfl (st_callv (vs := [.slice A2 n2 c2]) hs24 (.func _) ⟨(Ev.t 0 rfl), trivial⟩ rfl rfl Tryd.call79 rfl (rWalks_v A2 n2 c2 pre _ (h2.mem hs24 (fun p hp => List.mem_cons_of_mem _ (List.mem_cons_of_mem _ (hp)))) (by omega) hsm) fun _ _ hs25 => ?_); clear hs24
     have hs26 := Sx.keepT [0, 1, 2, 3, 4, 5, 7, 8, 9, 10, 11] [_, _, _, _, _, _, _, _, _, _, _] ⟨rfl, rfl, rfl, rfl, rfl, rfl, rfl, rfl, rfl, rfl, rfl, trivial⟩ hs25; clear hs25
     refine sq rfl (st_assign hs26 (Ev.t 2 rfl) rfl rfl fun _ _ hs27 => ?_); clear hs26
     have hs28 := Sx.keepT [0, 1, 2, 3, 4, 5, 7, 8, 9, 10, 11] [_, _, _, _, _, _, _, _, _, _, _] ⟨rfl, rfl, rfl, rfl, rfl, rfl, rfl, rfl, rfl, rfl, rfl, trivial⟩ hs27; clear hs27
     refine sq rfl (st_assign hs28 (Ev.t 1 rfl) rfl rfl fun _ _ hs29 => ?_); clear hs28
     refine hK12 _ _ ?_; clear hK12
     have hs30 := Sx.keepT [0, 1] [_, _] ⟨rfl, rfl, trivial⟩ hs29; clear hs29
     have hsR := hs30.blks (List.sublist_append_right [(b3, some (.cells ⟨[.int .i64 cl, .int .i64 ch, .int .i64 vl, .int .i64 vh]⟩ 82 (0, 0))), (b2, some (.cells ⟨(bookL b A n cp)⟩ 27 (0, 0)))] G)
     exact cd_retG (vs := [.slice A2 n2 c2, .int .i64 (sumW pre)]) hsR (fun a_ w_ h => th_ret (hQ0 a_ w_ h)) rfl ⟨.tmp 1 rfl, .tmp 0 rfl, trivial⟩ hGs0 ⟨(fun _ h => h), hGs0, hlo, A2, n2, c2, by rw [hres]; rfl, by rw [hres]; exact h2⟩
   · have hil : i < b.parts.length := by simp at hc11; omega
     have ih := ih0 hil
     obtain ⟨x13, hx13⟩ : ∃ x, b.parts[i]? = some x := ⟨_, List.getElem?_eq_getElem (by have := hP.len; omega)⟩
     obtain ⟨b14, o14, hA14, -, hc14⟩ := hP.el i x13 hx13
     have hxw := (hb.parts i x13 hx13).2
     have hxy := (hb.parts i x13 hx13).1
     have hlen100 := hb.len
     have hr := hb.room
     have hwt : (x13.walks.toNat : Int) = x13.walks := Int.toNat_of_nonneg hxw.1
     refine cd_skip ?_
     refine th_norm (hK9 _ _ ?_)
     refine cd_seq fun K15 hK15 => ?_
     refine cd_region fun K16 hK16 => ?_
     refine sq rfl (st_assign hs22 (.const _) rfl rfl fun _ _ hs23 => ?_); clear hs22
     refine hK16 _ _ ?_; clear hK16
     have hs24 := Sx.keepT [0, 2, 3, 4, 5, 6, 7, 8, 9] [_, _, _, _, _, _, _, _, _] ⟨rfl, rfl, rfl, rfl, rfl, rfl, rfl, rfl, rfl, trivial⟩ hs23; clear hs23
     refine cd_block ?_
     have hs25 : Sx 94 [] [(13, .int .i64 ((FG.mk 0 A3 n3 c3 bp bk G).k : Int)), (12, .int .i64 (i : Int)), (11, .int .i64 0), (10, .slice none 0 0), (6, .pointer (some ⟨b3, 0, none⟩)), (5, .pointer (some ⟨b2, 0, none⟩)), (2, .slice A2 n2 c2), (3, .slice ((FG.mk 0 A3 n3 c3 bp bk G).A) ((FG.mk 0 A3 n3 c3 bp bk G).n) ((FG.mk 0 A3 n3 c3 bp bk G).c)), (4, .int .i64 ((FG.mk 0 A3 n3 c3 bp bk G).t))] ((b3, some (.cells ⟨[.int .i64 cl, .int .i64 ch, .int .i64 vl, .int .i64 vh]⟩ 82 (0, 0))) :: (b2, some (.cells ⟨(bookL b A n cp)⟩ 27 (0, 0))) :: (FG.mk 0 A3 n3 c3 bp bk G).G) Mg w _ _ := Sx.keepE [0, 1, 2, 3, 4, 5, 6, 7, 8] _ ⟨⟨_, rfl, rfl⟩, ⟨_, rfl, rfl⟩, ⟨_, rfl, rfl⟩, ⟨_, rfl, rfl⟩, ⟨_, rfl, rfl⟩, ⟨_, rfl, rfl⟩, ⟨_, rfl, rfl⟩, ⟨_, rfl, rfl⟩, ⟨_, rfl, rfl⟩, trivial⟩ hs24; clear hs24
     refine cd_loop (X := FG) (fun g a_ w_ => (g.k ≤ x13.walks.toNat + 1) ∧ ((g.pl, g.t) = b.fewC x13 (b.few (b.parts.drop (i + 1))) cl vl pre (bp, bk) g.k) ∧ (PlIn g.G g.A g.n g.c g.pl) ∧ (allSome g.G) ∧ (∀ p ∈ g.G, W.heap.size ≤ p.1) ∧ (∀ p ∈ G, p ∈ g.G) ∧ Sx 94 [] [(13, .int .i64 (g.k : Int)), (12, .int .i64 (i : Int)), (11, .int .i64 0), (10, .slice none 0 0), (6, .pointer (some ⟨b3, 0, none⟩)), (5, .pointer (some ⟨b2, 0, none⟩)), (2, .slice A2 n2 c2), (3, .slice g.A g.n g.c), (4, .int .i64 g.t)] ((b3, some (.cells ⟨[.int .i64 cl, .int .i64 ch, .int .i64 vl, .int .i64 vh]⟩ 82 (0, 0))) :: (b2, some (.cells ⟨(bookL b A n cp)⟩ 27 (0, 0))) :: g.G) Mg w a_ w_) (fun g => x13.walks.toNat + 1 - g.k) ((FG.mk 0 A3 n3 c3 bp bk G)) ⟨?_, ?_, ?_, ?_, ?_, ?_, hs25⟩ ?_
     · exact Nat.zero_le _
     · rfl
     · exact h3
     · exact hGs0
     · exact hlo
     · exact fun _ h => h
     intro g a_26 w_26 ⟨hk, hf, hpl, hGs, hGlo, hsub, hs26⟩; clear hs25
     refine cd_seq fun K17 hK17 => ?_
     refine cd_region fun K18 hK18 => ?_
     refine sq rfl (st_move hs26 (Ev.t 0 rfl) rfl rfl fun _ _ hs27 => ?_); clear hs26
     refine sq rfl (st_field (o' := 22) hs27 (Ev.t 6 rfl) rfl rfl Tryd.runUnderlying27 rfl Tryd.sizeOf25 rfl rfl fun _ _ hs28 => ?_); clear hs27
     refine sq rfl (st_load1 (o := 0) (off := 22) (v := .slice A n cp) hs28 (Ev.t 0 rfl) rfl rfl Tryd.isAgg25 (hs28.cells 1 rfl) rfl fun _ _ hs29 => ?_); clear hs28
     refine sq rfl (st_move hs29 (Ev.t 4 rfl) rfl rfl fun _ _ hs30 => ?_); clear hs29
     refine sq rfl (st_indexM (o' := o14 + i * 4) hs30 (Ev.t 1 rfl) (Ev.t 0 rfl) rfl rfl hA14 Tryd.runUnderlying25 Tryd.sizeOf66 ⟨by omega, by have := hP.len; have := (List.getElem?_eq_some_iff.1 hx13).1; omega⟩ rfl fun _ _ hs31 => ?_); clear hs30
     refine sq rfl (st_field (o' := o14 + i * 4 + 3) hs31 (Ev.t 0 rfl) rfl rfl Tryd.runUnderlying66 rfl Tryd.sizeOf3 rfl rfl fun _ _ hs32 => ?_); clear hs31
     refine sq rfl (st_load1 (o := o14 + i * 4) (off := 3) (v := .int .i64 x13.walks) hs32 (Ev.t 0 rfl) rfl rfl Tryd.isAgg3 (hc14.kp (Kp.via hkW hs32.kp hMW) (by simp)) rfl fun _ _ hs33 => ?_); clear hs32
     refine sq rfl (st_cmp (c := decide (((g.k : Int) : Int) ≤ x13.walks)) hs33 (Ev.t 6 rfl) (Ev.t 0 rfl) rfl rfl rfl rfl fun _ _ hs34 => ?_); clear hs33
     refine hK18 _ _ ?_; clear hK18
     have hs35 := Sx.keepT [0, 8, 9, 10, 11, 12, 13, 14, 15, 16] [_, _, _, _, _, _, _, _, _, _] ⟨rfl, rfl, rfl, rfl, rfl, rfl, rfl, rfl, rfl, rfl, trivial⟩ hs34; clear hs34
     refine cd_cond hs35 (Ev.t 0 rfl) (fun hc19 => ?_) (fun hc19 => ?_)
     · have hgk : g.k < x13.walks.toNat + 1 := by simp at hc19; omega
       refine cd_skip ?_
       refine th_norm (hK17 _ _ ?_)
       refine cd_seq fun K20 hK20 => ?_
       refine cd_block ?_
       refine cd_region fun K21 hK21 => ?_
       refine sq rfl (st_assign hs35 (.const _) rfl rfl fun _ _ hs36 => ?_); clear hs35
       refine hK21 _ _ ?_; clear hK21
       have hs37 := Sx.keepT [0, 2, 3, 4, 5, 6, 7, 8, 9, 10] [_, _, _, _, _, _, _, _, _, _] ⟨rfl, rfl, rfl, rfl, rfl, rfl, rfl, rfl, rfl, rfl, trivial⟩ hs36; clear hs36
       refine cd_block ?_
       have hs38 : Sx 94 [] [(14, .int .i64 ((FG.mk 0 g.A g.n g.c g.pl g.t g.G).k : Int)), (13, .int .i64 (g.k : Int)), (12, .int .i64 (i : Int)), (11, .int .i64 0), (10, .slice none 0 0), (6, .pointer (some ⟨b3, 0, none⟩)), (5, .pointer (some ⟨b2, 0, none⟩)), (2, .slice A2 n2 c2), (3, .slice ((FG.mk 0 g.A g.n g.c g.pl g.t g.G).A) ((FG.mk 0 g.A g.n g.c g.pl g.t g.G).n) ((FG.mk 0 g.A g.n g.c g.pl g.t g.G).c)), (4, .int .i64 ((FG.mk 0 g.A g.n g.c g.pl g.t g.G).t))] ((b3, some (.cells ⟨[.int .i64 cl, .int .i64 ch, .int .i64 vl, .int .i64 vh]⟩ 82 (0, 0))) :: (b2, some (.cells ⟨(bookL b A n cp)⟩ 27 (0, 0))) :: (FG.mk 0 g.A g.n g.c g.pl g.t g.G).G) Mg w _ _ := Sx.keepE [0, 1, 2, 3, 4, 5, 6, 7, 8, 9] _ ⟨⟨_, rfl, rfl⟩, ⟨_, rfl, rfl⟩, ⟨_, rfl, rfl⟩, ⟨_, rfl, rfl⟩, ⟨_, rfl, rfl⟩, ⟨_, rfl, rfl⟩, ⟨_, rfl, rfl⟩, ⟨_, rfl, rfl⟩, ⟨_, rfl, rfl⟩, ⟨_, rfl, rfl⟩, trivial⟩ hs37; clear hs37
       refine cd_loop (X := FG) (fun e a_ w_ => (e.k ≤ x13.walks.toNat + 1 - g.k) ∧ ((e.pl, e.t) = b.fewW x13 (b.few (b.parts.drop (i + 1))) cl vl pre g.k (g.pl, g.t) e.k) ∧ (PlIn e.G e.A e.n e.c e.pl) ∧ (allSome e.G) ∧ (∀ p ∈ e.G, W.heap.size ≤ p.1) ∧ (∀ p ∈ G, p ∈ e.G) ∧ Sx 94 [] [(14, .int .i64 (e.k : Int)), (13, .int .i64 (g.k : Int)), (12, .int .i64 (i : Int)), (11, .int .i64 0), (10, .slice none 0 0), (6, .pointer (some ⟨b3, 0, none⟩)), (5, .pointer (some ⟨b2, 0, none⟩)), (2, .slice A2 n2 c2), (3, .slice e.A e.n e.c), (4, .int .i64 e.t)] ((b3, some (.cells ⟨[.int .i64 cl, .int .i64 ch, .int .i64 vl, .int .i64 vh]⟩ 82 (0, 0))) :: (b2, some (.cells ⟨(bookL b A n cp)⟩ 27 (0, 0))) :: e.G) Mg w a_ w_) (fun e => x13.walks.toNat + 1 - g.k - e.k) ((FG.mk 0 g.A g.n g.c g.pl g.t g.G)) ⟨?_, ?_, ?_, ?_, ?_, ?_, hs38⟩ ?_
       · exact Nat.zero_le _
       · rfl
       · exact hpl
       · exact hGs
       · exact hGlo
       · exact hsub
       intro e a_39 w_39 ⟨hke, hfe, hple, hGse, hGloe, hsube, hs39⟩; clear hs38
       refine cd_seq fun K22 hK22 => ?_
       refine cd_region fun K23 hK23 => ?_
       refine sq rfl (st_move hs39 (Ev.t 1 rfl) rfl rfl fun _ _ hs40 => ?_); clear hs39
       refine sq rfl (st_move hs40 (Ev.t 1 rfl) rfl rfl fun _ _ hs41 => ?_); clear hs40
       refine sq rfl (st_add (z := (g.k : Int) + (e.k : Int)) hs41 (Ev.t 1 rfl) (Ev.t 0 rfl) rfl rfl rfl (by omega) fun _ _ hs42 => ?_); clear hs41
       refine sq rfl (st_field (o' := 22) hs42 (Ev.t 9 rfl) rfl rfl Tryd.runUnderlying27 rfl Tryd.sizeOf25 rfl rfl fun _ _ hs43 => ?_); clear hs42
       refine sq rfl (st_load1 (o := 0) (off := 22) (v := .slice A n cp) hs43 (Ev.t 0 rfl) rfl rfl Tryd.isAgg25 (hs43.cells 1 rfl) rfl fun _ _ hs44 => ?_); clear hs43
       refine sq rfl (st_move hs44 (Ev.t 7 rfl) rfl rfl fun _ _ hs45 => ?_); clear hs44
       refine sq rfl (st_indexM (o' := o14 + i * 4) hs45 (Ev.t 1 rfl) (Ev.t 0 rfl) rfl rfl hA14 Tryd.runUnderlying25 Tryd.sizeOf66 ⟨by omega, by have := hP.len; have := (List.getElem?_eq_some_iff.1 hx13).1; omega⟩ rfl fun _ _ hs46 => ?_); clear hs45
       refine sq rfl (st_field (o' := o14 + i * 4 + 3) hs46 (Ev.t 0 rfl) rfl rfl Tryd.runUnderlying66 rfl Tryd.sizeOf3 rfl rfl fun _ _ hs47 => ?_); clear hs46
       refine sq rfl (st_load1 (o := o14 + i * 4) (off := 3) (v := .int .i64 x13.walks) hs47 (Ev.t 0 rfl) rfl rfl Tryd.isAgg3 (hc14.kp (Kp.via hkW hs47.kp hMW) (by simp)) rfl fun _ _ hs48 => ?_); clear hs47
       refine sq rfl (st_cmp (c := decide (((g.k : Int) + (e.k : Int) : Int) ≤ x13.walks)) hs48 (Ev.t 6 rfl) (Ev.t 0 rfl) rfl rfl rfl rfl fun _ _ hs49 => ?_); clear hs48
       refine hK23 _ _ ?_; clear hK23
       have hs50 := Sx.keepT [0, 10, 11, 12, 13, 14, 15, 16, 17, 18, 19] [_, _, _, _, _, _, _, _, _, _, _] ⟨rfl, rfl, rfl, rfl, rfl, rfl, rfl, rfl, rfl, rfl, rfl, trivial⟩ hs49; clear hs49
       refine cd_cond hs50 (Ev.t 0 rfl) (fun hc24 => ?_) (fun hc24 => ?_)
       · have hjn : e.k < x13.walks.toNat + 1 - g.k := by simp at hc24; omega
         have hwy : 0 ≤ (Walks.mk (g.k : Int) (e.k : Int)).c ∧ (Walks.mk (g.k : Int) (e.k : Int)).c ≤ 1000 ∧ 0 ≤ (Walks.mk (g.k : Int) (e.k : Int)).w ∧ (Walks.mk (g.k : Int) (e.k : Int)).w ≤ 1000 := ⟨by simp only; omega, by simp only; omega, by simp only; omega, by simp only; omega⟩
         have m1 := mulbd ⟨hwy.1, hwy.2.1⟩ ⟨hb.load.1, hb.load.2.1⟩
         have m2 := mulbd ⟨hwy.2.2.1, hwy.2.2.2⟩ hb.load.2.2
         have hab1 := after_bd hb hx13 hwy false cl vl
         have hab2 := after_bd hb hx13 hwy true ch vh
         simp only [Book.afterC, Book.afterW, Span.end, Bool.not_false, Bool.not_true, if_true, if_false, Bool.false_eq_true] at hab1 hab2
         simp only at m1 m2
         refine cd_skip ?_
         refine th_norm (hK22 _ _ ?_)
         refine cd_seq fun K25 hK25 => ?_
         refine cd_block ?_
         refine cd_region fun K26 hK26 => ?_
         refine sq rfl (st_move hs50 (Ev.t 2 rfl) rfl rfl fun _ _ hs51 => ?_); clear hs50
         refine sq rfl (st_move hs51 (Ev.t 2 rfl) rfl rfl fun _ _ hs52 => ?_); clear hs51
         refine sq rfl (st_build hs52 (qs := [(0, .int .i64 (g.k : Int)), (1, .int .i64 (e.k : Int))]) (v := .agg ⟨[.int .i64 (g.k : Int), .int .i64 (e.k : Int)]⟩) ⟨(Ev.t 1 rfl), (Ev.t 0 rfl), trivial⟩ rfl rfl rfl (fun _ => by kernel_rfl) fun _ _ hs53 => ?_); clear hs52
         refine sq rfl (st_alloc hs53 rfl rfl Tryd.zeroValue64 rfl fun b27 _ _ hs54 => ?_); clear hs53
         refine sq rfl (st_store (l' := [.int .i64 (g.k : Int), .int .i64 (e.k : Int)]) (vs := [.int .i64 (g.k : Int), .int .i64 (e.k : Int)]) (i := 0) hs54 (Ev.t 0 rfl) (Ev.t 1 rfl) Tryd.sizeOf64 rfl rfl rfl rfl rfl rfl fun _ _ hs55 => ?_); clear hs54
         have hs56 := Sx.as (T' := [_, _, _, _, _, _, _, _, _, _, _, _, _, _, _]) (B' := _ :: _ :: _ :: _) rfl rfl hs55; clear hs55
         refine hK26 _ _ ?_; clear hK26
         have hs57 := Sx.keepT [0, 5, 6, 7, 8, 9, 10, 11, 12, 13, 14] [_, _, _, _, _, _, _, _, _, _, _] ⟨rfl, rfl, rfl, rfl, rfl, rfl, rfl, rfl, rfl, rfl, rfl, trivial⟩ hs56; clear hs56
         refine cd_drawn mixed hs57 [⟨58, [], Is (.agg ⟨(bookL b A n cp)⟩)⟩,
      ⟨59, [], Is (.agg ⟨(bookL b A n cp)⟩)⟩,
      ⟨60, [], Is (.agg ⟨[.int .i64 cl, .int .i64 ch, .int .i64 vl, .int .i64 vh]⟩)⟩,
      ⟨61, [], Is (.agg ⟨[.int .i64 (g.k : Int), .int .i64 (e.k : Int)]⟩)⟩,
      ⟨62, [1, 2, 3], Is (.agg ⟨[.int .i64 (min b.bunker (cl + (g.k : Int) * b.scoop)), .int .i64 (min b.bunker (ch + (g.k : Int) * b.scoop)), .int .i64 (min b.tank (vl + (e.k : Int) * b.pail)), .int .i64 (min b.tank (vh + (e.k : Int) * b.pail))]⟩)⟩,
      ⟨63, [], Is (.pointer (some ⟨b2, 22, none⟩))⟩,
      ⟨64, [5], Is (.slice A n cp)⟩,
      ⟨65, [], Is (.int .i64 (i : Int))⟩,
      ⟨66, [6, 7], Is (.pointer (some ⟨b14, o14 + i * 4, none⟩))⟩,
      ⟨67, [8], Is (.agg ⟨(partL x13)⟩)⟩,
      ⟨68, [0, 4, 9], Is (.agg ⟨[.int .i64 ((min b.bunker (cl + (g.k : Int) * b.scoop)) - x13.mi.hi * (b.burn x13.light).hi), .int .i64 ((min b.bunker (ch + (g.k : Int) * b.scoop)) - x13.mi.lo * (b.burn x13.light).lo), .int .i64 ((min b.tank (vl + (e.k : Int) * b.pail)) - x13.mi.hi * (b.drink x13.light).hi), .int .i64 ((min b.tank (vh + (e.k : Int) * b.pail)) - x13.mi.lo * (b.drink x13.light).lo)]⟩)⟩,
      ⟨16, [], fun v_ bs_ => ∃ b29, v_ = .pointer (some ⟨b29, 0, none⟩) ∧ bs_ = [(b29, some (.cells ⟨[.int .i64 0, .int .i64 0, .int .i64 0, .int .i64 0]⟩ 82 (0, 0)))]⟩] (by kernel_rfl) (by kernel_rfl) fun K28 hK28 => ⟨⟨?_, ?_, ?_, ?_, ?_, ?_, ?_, ?_, ?_, ?_, ?_, ?_, trivial⟩, ?_⟩
         · intro T_ B_ a_ w_ K_ hT hB
           intro hf hsD hk
           exact ob rfl rfl (st_loadA (o := 0) (off := 0) (vs := (bookL b A n cp)) hsD (Ev.tmp (hT _ (mem_nth (i := 7) rfl))) rfl hf Tryd.isAgg27 Tryd.sizeOf27 (hsD.cellsM (hB _ (mem_nth (i := 2) rfl))) rfl fun a_1 w_1 h1 => hk _ _ _ _ ⟨rfl, rfl⟩ h1)
         · intro T_ B_ a_ w_ K_ hT hB
           intro hf hsD hk
           exact ob rfl rfl (st_loadA (o := 0) (off := 0) (vs := (bookL b A n cp)) hsD (Ev.tmp (hT _ (mem_nth (i := 7) rfl))) rfl hf Tryd.isAgg27 Tryd.sizeOf27 (hsD.cellsM (hB _ (mem_nth (i := 2) rfl))) rfl fun a_1 w_1 h1 => hk _ _ _ _ ⟨rfl, rfl⟩ h1)
         · intro T_ B_ a_ w_ K_ hT hB
           intro hf hsD hk
           exact ob rfl rfl (st_loadA (o := 0) (off := 0) (vs := [.int .i64 cl, .int .i64 ch, .int .i64 vl, .int .i64 vh]) hsD (Ev.tmp (hT _ (mem_nth (i := 6) rfl))) rfl hf Tryd.isAgg82 Tryd.sizeOf82 (hsD.cellsM (hB _ (mem_nth (i := 1) rfl))) rfl fun a_1 w_1 h1 => hk _ _ _ _ ⟨rfl, rfl⟩ h1)
         · intro T_ B_ a_ w_ K_ hT hB
           intro hf hsD hk
           exact ob rfl rfl (st_loadA (o := 0) (off := 0) (vs := [.int .i64 (g.k : Int), .int .i64 (e.k : Int)]) hsD (Ev.tmp (hT _ (mem_nth (i := 0) rfl))) rfl hf Tryd.isAgg64 Tryd.sizeOf64 (hsD.cellsM (hB _ (mem_nth (i := 0) rfl))) rfl fun a_1 w_1 h1 => hk _ _ _ _ ⟨rfl, rfl⟩ h1)
         · intro T_ B_ a_ w_ K_ hT hB
           rintro _ _ ⟨rfl, rfl⟩ h59 -
           rintro _ _ ⟨rfl, rfl⟩ h60 -
           rintro _ _ ⟨rfl, rfl⟩ h61 -
           intro hf hsD hk
           exact ob rfl rfl (st_callv (vs := [.agg ⟨(bookL b A n cp)⟩, .agg ⟨[.int .i64 cl, .int .i64 ch, .int .i64 vl, .int .i64 vh]⟩, .agg ⟨[.int .i64 (g.k : Int), .int .i64 (e.k : Int)]⟩]) hsD (.func _) ⟨(Ev.tmp h59), (Ev.tmp h60), (Ev.tmp h61), trivial⟩ rfl hf Tryd.call57 rfl (brought_v b A n cp (Walks.mk (g.k : Int) (e.k : Int)) cl ch vl vh _ hb hwy (by omega) (by omega)) fun a_1 w_1 h1 => hk _ _ _ _ ⟨rfl, rfl⟩ h1)
         · intro T_ B_ a_ w_ K_ hT hB
           intro hf hsD hk
           exact ob rfl rfl (st_field (o' := 22) hsD (Ev.tmp (hT _ (mem_nth (i := 7) rfl))) rfl hf Tryd.runUnderlying27 rfl Tryd.sizeOf25 rfl rfl fun a_1 w_1 h1 => hk _ _ _ _ ⟨rfl, rfl⟩ h1)
         · intro T_ B_ a_ w_ K_ hT hB
           rintro _ _ ⟨rfl, rfl⟩ h63 -
           intro hf hsD hk
           exact ob rfl rfl (st_load1 (o := 0) (off := 22) (v := .slice A n cp) hsD (Ev.tmp h63) rfl hf Tryd.isAgg25 (hsD.cellsM (hB _ (mem_nth (i := 2) rfl))) rfl fun a_1 w_1 h1 => hk _ _ _ _ ⟨rfl, rfl⟩ h1)
         · intro T_ B_ a_ w_ K_ hT hB
           intro hf hsD hk
           exact ob rfl rfl (st_move hsD (Ev.tmp (hT _ (mem_nth (i := 3) rfl))) rfl hf fun a_1 w_1 h1 => hk _ _ _ _ ⟨rfl, rfl⟩ h1)
         · intro T_ B_ a_ w_ K_ hT hB
           rintro _ _ ⟨rfl, rfl⟩ h64 -
           rintro _ _ ⟨rfl, rfl⟩ h65 -
           intro hf hsD hk
           exact ob rfl rfl (st_indexM (o' := o14 + i * 4) hsD (Ev.tmp h64) (Ev.tmp h65) rfl hf hA14 Tryd.runUnderlying25 Tryd.sizeOf66 ⟨by omega, by have := hP.len; have := (List.getElem?_eq_some_iff.1 hx13).1; omega⟩ rfl fun a_1 w_1 h1 => hk _ _ _ _ ⟨rfl, rfl⟩ h1)
         · intro T_ B_ a_ w_ K_ hT hB
           rintro _ _ ⟨rfl, rfl⟩ h66 -
           intro hf hsD hk
           exact ob rfl rfl (st_loadA (o := o14 + i * 4) (off := 0) (vs := (partL x13)) hsD (Ev.tmp h66) rfl hf Tryd.isAgg66 Tryd.sizeOf66 (hc14.kp (Kp.via hkW hsD.kp hMW) (by simp)) rfl fun a_1 w_1 h1 => hk _ _ _ _ ⟨rfl, rfl⟩ h1)
         · intro T_ B_ a_ w_ K_ hT hB
           rintro _ _ ⟨rfl, rfl⟩ h58 -
           rintro _ _ ⟨rfl, rfl⟩ h62 -
           rintro _ _ ⟨rfl, rfl⟩ h67 -
           intro hf hsD hk
           exact ob rfl rfl (st_callv (vs := [.agg ⟨(bookL b A n cp)⟩, .agg ⟨[.int .i64 (min b.bunker (cl + (g.k : Int) * b.scoop)), .int .i64 (min b.bunker (ch + (g.k : Int) * b.scoop)), .int .i64 (min b.tank (vl + (e.k : Int) * b.pail)), .int .i64 (min b.tank (vh + (e.k : Int) * b.pail))]⟩, .agg ⟨(partL x13)⟩]) hsD (.func _) ⟨(Ev.tmp h58), (Ev.tmp h62), (Ev.tmp h67), trivial⟩ rfl hf Tryd.call56 rfl (worked_v b A n cp x13 (min b.bunker (cl + (g.k : Int) * b.scoop)) (min b.bunker (ch + (g.k : Int) * b.scoop)) (min b.tank (vl + (e.k : Int) * b.pail)) (min b.tank (vh + (e.k : Int) * b.pail)) _ hb hxy (by omega) (by omega)) fun a_1 w_1 h1 => hk _ _ _ _ ⟨rfl, rfl⟩ h1)
         · intro T_ B_ a_ w_ K_ hT hB
           intro hf hsD hk
           exact ob rfl rfl (st_alloc hsD rfl hf Tryd.zeroValue82 rfl fun b29 a_1 w_1 h1 => hk _ _ _ _ ⟨b29, rfl, rfl⟩ h1)
         rintro _ _ ⟨rfl, rfl⟩
         rintro _ _ ⟨rfl, rfl⟩
         rintro _ _ ⟨rfl, rfl⟩
         rintro _ _ ⟨rfl, rfl⟩
         rintro _ _ ⟨rfl, rfl⟩
         rintro _ _ ⟨rfl, rfl⟩
         rintro _ _ ⟨rfl, rfl⟩
         rintro _ _ ⟨rfl, rfl⟩
         rintro _ _ ⟨rfl, rfl⟩
         rintro _ _ ⟨rfl, rfl⟩
         rintro _ _ ⟨rfl, rfl⟩
         rintro _ _ ⟨b29, rfl, rfl⟩
         intro a_58 w_58 hs58
         clear hs57
         have hs59 := Sx.as (T' := [_, _, _, _, _, _, _, _, _, _, _, _, _, _, _, _, _, _, _, _, _, _, _]) (B' := _ :: _ :: _ :: _ :: _) rfl rfl hs58; clear hs58
         refine sq rfl (st_store (l' := [.int .i64 ((min b.bunker (cl + (g.k : Int) * b.scoop)) - x13.mi.hi * (b.burn x13.light).hi), .int .i64 ((min b.bunker (ch + (g.k : Int) * b.scoop)) - x13.mi.lo * (b.burn x13.light).lo), .int .i64 ((min b.tank (vl + (e.k : Int) * b.pail)) - x13.mi.hi * (b.drink x13.light).hi), .int .i64 ((min b.tank (vh + (e.k : Int) * b.pail)) - x13.mi.lo * (b.drink x13.light).lo)]) (vs := [.int .i64 ((min b.bunker (cl + (g.k : Int) * b.scoop)) - x13.mi.hi * (b.burn x13.light).hi), .int .i64 ((min b.bunker (ch + (g.k : Int) * b.scoop)) - x13.mi.lo * (b.burn x13.light).lo), .int .i64 ((min b.tank (vl + (e.k : Int) * b.pail)) - x13.mi.hi * (b.drink x13.light).hi), .int .i64 ((min b.tank (vh + (e.k : Int) * b.pail)) - x13.mi.lo * (b.drink x13.light).lo)]) (i := 0) hs59 (Ev.t 11 rfl) (Ev.t 10 rfl) Tryd.sizeOf82 rfl rfl rfl rfl rfl rfl fun _ _ hs60 => ?_); clear hs59
         have hs61 := Sx.as (T' := [_, _, _, _, _, _, _, _, _, _, _, _, _, _, _, _, _, _, _, _, _, _, _]) (B' := _ :: _ :: _ :: _ :: _) rfl rfl hs60; clear hs60
         refine hK28 _ _ ?_; clear hK28
         have hs62 := Sx.keepT [11, 12, 13, 14, 15, 16, 17, 18, 19, 20, 21, 22] [_, _, _, _, _, _, _, _, _, _, _, _] ⟨rfl, rfl, rfl, rfl, rfl, rfl, rfl, rfl, rfl, rfl, rfl, rfl, trivial⟩ hs61; clear hs61
         refine cd_drawn mixed hs62 [⟨69, [], Is (.agg ⟨(bookL b A n cp)⟩)⟩,
      ⟨70, [], Is (.agg ⟨[.int .i64 ((min b.bunker (cl + (g.k : Int) * b.scoop)) - x13.mi.hi * (b.burn x13.light).hi), .int .i64 ((min b.bunker (ch + (g.k : Int) * b.scoop)) - x13.mi.lo * (b.burn x13.light).lo), .int .i64 ((min b.tank (vl + (e.k : Int) * b.pail)) - x13.mi.hi * (b.drink x13.light).hi), .int .i64 ((min b.tank (vh + (e.k : Int) * b.pail)) - x13.mi.lo * (b.drink x13.light).lo)]⟩)⟩,
      ⟨71, [], Is (.pointer (some ⟨b2, 22, none⟩))⟩,
      ⟨72, [2], Is (.slice A n cp)⟩,
      ⟨73, [], Is (.int .i64 (i : Int))⟩,
      ⟨74, [3, 4], Is (.pointer (some ⟨b14, o14 + i * 4, none⟩))⟩,
      ⟨75, [5], Is (.agg ⟨(partL x13)⟩)⟩] (by kernel_rfl) (by kernel_rfl) fun K30 hK30 => ⟨⟨?_, ?_, ?_, ?_, ?_, ?_, ?_, trivial⟩, ?_⟩
         · intro T_ B_ a_ w_ K_ hT hB
           intro hf hsD hk
           exact ob rfl rfl (st_loadA (o := 0) (off := 0) (vs := (bookL b A n cp)) hsD (Ev.tmp (hT _ (mem_nth (i := 8) rfl))) rfl hf Tryd.isAgg27 Tryd.sizeOf27 (hsD.cellsM (hB _ (mem_nth (i := 3) rfl))) rfl fun a_1 w_1 h1 => hk _ _ _ _ ⟨rfl, rfl⟩ h1)
         · intro T_ B_ a_ w_ K_ hT hB
           intro hf hsD hk
           exact ob rfl rfl (st_loadA (o := 0) (off := 0) (vs := [.int .i64 ((min b.bunker (cl + (g.k : Int) * b.scoop)) - x13.mi.hi * (b.burn x13.light).hi), .int .i64 ((min b.bunker (ch + (g.k : Int) * b.scoop)) - x13.mi.lo * (b.burn x13.light).lo), .int .i64 ((min b.tank (vl + (e.k : Int) * b.pail)) - x13.mi.hi * (b.drink x13.light).hi), .int .i64 ((min b.tank (vh + (e.k : Int) * b.pail)) - x13.mi.lo * (b.drink x13.light).lo)]) hsD (Ev.tmp (hT _ (mem_nth (i := 0) rfl))) rfl hf Tryd.isAgg82 Tryd.sizeOf82 (hsD.cellsM (hB _ (mem_nth (i := 0) rfl))) rfl fun a_1 w_1 h1 => hk _ _ _ _ ⟨rfl, rfl⟩ h1)
         · intro T_ B_ a_ w_ K_ hT hB
           intro hf hsD hk
           exact ob rfl rfl (st_field (o' := 22) hsD (Ev.tmp (hT _ (mem_nth (i := 8) rfl))) rfl hf Tryd.runUnderlying27 rfl Tryd.sizeOf25 rfl rfl fun a_1 w_1 h1 => hk _ _ _ _ ⟨rfl, rfl⟩ h1)
         · intro T_ B_ a_ w_ K_ hT hB
           rintro _ _ ⟨rfl, rfl⟩ h71 -
           intro hf hsD hk
           exact ob rfl rfl (st_load1 (o := 0) (off := 22) (v := .slice A n cp) hsD (Ev.tmp h71) rfl hf Tryd.isAgg25 (hsD.cellsM (hB _ (mem_nth (i := 3) rfl))) rfl fun a_1 w_1 h1 => hk _ _ _ _ ⟨rfl, rfl⟩ h1)
         · intro T_ B_ a_ w_ K_ hT hB
           intro hf hsD hk
           exact ob rfl rfl (st_move hsD (Ev.tmp (hT _ (mem_nth (i := 4) rfl))) rfl hf fun a_1 w_1 h1 => hk _ _ _ _ ⟨rfl, rfl⟩ h1)
         · intro T_ B_ a_ w_ K_ hT hB
           rintro _ _ ⟨rfl, rfl⟩ h72 -
           rintro _ _ ⟨rfl, rfl⟩ h73 -
           intro hf hsD hk
           exact ob rfl rfl (st_indexM (o' := o14 + i * 4) hsD (Ev.tmp h72) (Ev.tmp h73) rfl hf hA14 Tryd.runUnderlying25 Tryd.sizeOf66 ⟨by omega, by have := hP.len; have := (List.getElem?_eq_some_iff.1 hx13).1; omega⟩ rfl fun a_1 w_1 h1 => hk _ _ _ _ ⟨rfl, rfl⟩ h1)
         · intro T_ B_ a_ w_ K_ hT hB
           rintro _ _ ⟨rfl, rfl⟩ h74 -
           intro hf hsD hk
           exact ob rfl rfl (st_loadA (o := o14 + i * 4) (off := 0) (vs := (partL x13)) hsD (Ev.tmp h74) rfl hf Tryd.isAgg66 Tryd.sizeOf66 (hc14.kp (Kp.via hkW hsD.kp hMW) (by simp)) rfl fun a_1 w_1 h1 => hk _ _ _ _ ⟨rfl, rfl⟩ h1)
         rintro _ _ ⟨rfl, rfl⟩
         rintro _ _ ⟨rfl, rfl⟩
         rintro _ _ ⟨rfl, rfl⟩
         rintro _ _ ⟨rfl, rfl⟩
         rintro _ _ ⟨rfl, rfl⟩
         rintro _ _ ⟨rfl, rfl⟩
         rintro _ _ ⟨rfl, rfl⟩
         intro a_63 w_63 hs63
         clear hs62
         have hs64 := Sx.as (T' := [_, _, _, _, _, _, _, _, _, _, _, _, _, _, _, _, _, _, _]) (B' := _ :: _ :: _ :: _ :: _) rfl rfl hs63; clear hs63
         refine sq rfl (st_callv (vs := [.agg ⟨(bookL b A n cp)⟩, .agg ⟨[.int .i64 ((min b.bunker (cl + (g.k : Int) * b.scoop)) - x13.mi.hi * (b.burn x13.light).hi), .int .i64 ((min b.bunker (ch + (g.k : Int) * b.scoop)) - x13.mi.lo * (b.burn x13.light).lo), .int .i64 ((min b.tank (vl + (e.k : Int) * b.pail)) - x13.mi.hi * (b.drink x13.light).hi), .int .i64 ((min b.tank (vh + (e.k : Int) * b.pail)) - x13.mi.lo * (b.drink x13.light).lo)]⟩, .agg ⟨(partL x13)⟩]) hs64 (.func _) ⟨(Ev.t 0 rfl), (Ev.t 1 rfl), (Ev.t 6 rfl), trivial⟩ rfl rfl Tryd.call60 rfl (rfails_v b A n cp x13 ((min b.bunker (cl + (g.k : Int) * b.scoop)) - x13.mi.hi * (b.burn x13.light).hi) ((min b.bunker (ch + (g.k : Int) * b.scoop)) - x13.mi.lo * (b.burn x13.light).lo) ((min b.tank (vl + (e.k : Int) * b.pail)) - x13.mi.hi * (b.drink x13.light).hi) ((min b.tank (vh + (e.k : Int) * b.pail)) - x13.mi.lo * (b.drink x13.light).lo) _ hb) fun _ _ hs65 => ?_); clear hs64
         refine sq rfl (st_not hs65 (Ev.t 0 rfl) rfl rfl fun _ _ hs66 => ?_); clear hs65
         refine hK30 _ _ ?_; clear hK30
         have hs67 := Sx.keepT [0, 9, 10, 11, 12, 13, 14, 15, 16, 17, 18, 19, 20] [_, _, _, _, _, _, _, _, _, _, _, _, _] ⟨rfl, rfl, rfl, rfl, rfl, rfl, rfl, rfl, rfl, rfl, rfl, rfl, rfl, trivial⟩ hs66; clear hs66
         refine cd_cond hs67 (Ev.t 0 rfl) (fun hc31 => ?_) (fun hc31 => ?_)
         · have hmay := hc31
           refine cd_drawSP1 mixed [4, 7] ⟨ApX pre (Walks.mk (g.k : Int) (e.k : Int)), fun n_ x_ => match n_ with | 0 => [] | 1 => [(83, .slice x_.A1 pre.length x_.c1)] | _ => [(86, .slice x_.A2 (pre.length + 1) x_.c2), (83, .slice x_.A1 pre.length x_.c1)], fun n_ x_ => match n_ with | 0 => [] | 1 => [(x_.b1, x_.o1)] | _ => [(x_.b2, x_.o2)]⟩ (ApX.zero pre (Walks.mk (g.k : Int) (e.k : Int))) hs67 [⟨79, [], Is (.agg ⟨(bookL b A n cp)⟩)⟩,
      ⟨80, [], Is (.agg ⟨[.int .i64 ((min b.bunker (cl + (g.k : Int) * b.scoop)) - x13.mi.hi * (b.burn x13.light).hi), .int .i64 ((min b.bunker (ch + (g.k : Int) * b.scoop)) - x13.mi.lo * (b.burn x13.light).lo), .int .i64 ((min b.tank (vl + (e.k : Int) * b.pail)) - x13.mi.hi * (b.drink x13.light).hi), .int .i64 ((min b.tank (vh + (e.k : Int) * b.pail)) - x13.mi.lo * (b.drink x13.light).lo)]⟩)⟩,
      ⟨81, [], fun v_ bs_ => ∃ b32, v_ = .slice (some ⟨b32, 0, none⟩) 0 0 ∧ bs_ = [(b32, some (.cells ⟨[]⟩ 64 (0, 0)))]⟩,
      ⟨82, [], Is (.slice A2 n2 c2)⟩,
      ⟨83, [2, 3], Is undef⟩,
      ⟨84, [], Is (.agg ⟨[.int .i64 (g.k : Int), .int .i64 (e.k : Int)]⟩)⟩,
      ⟨85, [5], fun v_ bs_ => ∃ b33, v_ = .slice (some ⟨b33, 0, none⟩) 1 1 ∧ bs_ = [(b33, some (.cells ⟨[.int .i64 (g.k : Int), .int .i64 (e.k : Int)]⟩ 64 (0, 0)))]⟩,
      ⟨86, [6], Is undef⟩,
      ⟨87, [], Is (.slice e.A e.n e.c)⟩,
      ⟨88, [], Is (.int .i64 e.t)⟩] (by kernel_rfl) (fun n_ _ => by rcases n_ with _ | _ | _ <;> rfl) (by kernel_rfl) ⟨⟨?_, ?_, ?_, ?_, ?_, ?_, ?_, ?_, ?_, ?_, trivial⟩, ?_⟩
           · intro T_ B_ a_ w_ K_ hT hB
             intro hf hsD hk
             exact ob rfl rfl (st_loadA (o := 0) (off := 0) (vs := (bookL b A n cp)) hsD (Ev.tmp (hT _ (mem_nth (i := 9) rfl))) rfl hf Tryd.isAgg27 Tryd.sizeOf27 (hsD.cellsM (hB _ (mem_nth (i := 3) rfl))) rfl fun a_1 w_1 h1 => hk _ _ _ _ ⟨rfl, rfl⟩ h1)
           · intro T_ B_ a_ w_ K_ hT hB
             intro hf hsD hk
             exact ob rfl rfl (st_loadA (o := 0) (off := 0) (vs := [.int .i64 ((min b.bunker (cl + (g.k : Int) * b.scoop)) - x13.mi.hi * (b.burn x13.light).hi), .int .i64 ((min b.bunker (ch + (g.k : Int) * b.scoop)) - x13.mi.lo * (b.burn x13.light).lo), .int .i64 ((min b.tank (vl + (e.k : Int) * b.pail)) - x13.mi.hi * (b.drink x13.light).hi), .int .i64 ((min b.tank (vh + (e.k : Int) * b.pail)) - x13.mi.lo * (b.drink x13.light).lo)]) hsD (Ev.tmp (hT _ (mem_nth (i := 1) rfl))) rfl hf Tryd.isAgg82 Tryd.sizeOf82 (hsD.cellsM (hB _ (mem_nth (i := 0) rfl))) rfl fun a_1 w_1 h1 => hk _ _ _ _ ⟨rfl, rfl⟩ h1)
           · intro T_ B_ a_ w_ K_ hT hB
             intro hf hsD hk
             exact ob rfl rfl (st_buildSlice hsD (qs := []) (e := 64) (l := []) trivial rfl hf rfl (fun _ => by kernel_rfl) fun b32 a_1 w_1 h1 => hk _ _ _ _ ⟨b32, rfl, rfl⟩ h1)
           · intro T_ B_ a_ w_ K_ hT hB
             intro hf hsD hk
             exact ob rfl rfl (st_move hsD (Ev.tmp (hT _ (mem_nth (i := 10) rfl))) rfl hf fun a_1 w_1 h1 => hk _ _ _ _ ⟨rfl, rfl⟩ h1)
           · intro T_ B_ a_ w_ K_ x_ hT hB
             rintro _ _ ⟨b32, rfl, rfl⟩ h81 hB81
             rintro _ _ ⟨rfl, rfl⟩ h82 -
             intro hf hsD hk
             exact ob rfl rfl (st_append (enc := walksL) (zs := ([] : List Walks)) (ys := pre) (c := 0) (i := 0) (o := none) (hsD.hide 0) (Ev.tmp (List.mem_append_right _ h81)) (Ev.tmp (List.mem_append_right _ h82)) rfl hf Tryd.underlying28 (show (Tryd.prog.info? 64).map (fun i => (i.zero, i.size, i.bytes)) = some (some (.agg #[.int .i64 0, .int .i64 0]), 2, 16) by kernel_rfl) rfl (fun _ => rfl) (fun _ u hu => by simp only [walksL, List.mem_cons, List.not_mem_nil, or_false] at hu; rcases hu with rfl | rfl <;> rfl) (.inl ⟨rfl, rfl⟩) rfl ((h2.mono hsube).mem hsD (fun p hp => List.mem_append_right _ (hB _ (List.mem_cons_of_mem _ (List.mem_cons_of_mem _ (List.mem_cons_of_mem _ (List.mem_cons_of_mem _ (hp)))))))) (by simp; omega) (by simp; omega) (fun A7 c7 b7 o7 a_1 w_1 hown7 h1 => hk ⟨A7, c7, b7, o7, hown7, x_.A2, x_.c2, x_.b2, x_.o2, x_.h2⟩ _ _ (by rw [List.length_nil, Nat.zero_add, hn2] at h1; exact h1)))
           · intro T_ B_ a_ w_ K_ hT hB
             intro hf hsD hk
             exact ob rfl rfl (st_loadA (o := 0) (off := 0) (vs := [.int .i64 (g.k : Int), .int .i64 (e.k : Int)]) hsD (Ev.tmp (hT _ (mem_nth (i := 2) rfl))) rfl hf Tryd.isAgg64 Tryd.sizeOf64 (hsD.cellsM (hB _ (mem_nth (i := 1) rfl))) rfl fun a_1 w_1 h1 => hk _ _ _ _ ⟨rfl, rfl⟩ h1)
           · intro T_ B_ a_ w_ K_ hT hB
             rintro _ _ ⟨rfl, rfl⟩ h84 -
             intro hf hsD hk
             exact ob rfl rfl (st_buildSlice hsD (qs := [(0, .agg ⟨[.int .i64 (g.k : Int), .int .i64 (e.k : Int)]⟩)]) (e := 64) (l := [.int .i64 (g.k : Int), .int .i64 (e.k : Int)]) ⟨(Ev.tmp h84), trivial⟩ rfl hf rfl (fun _ => by kernel_rfl) fun b33 a_1 w_1 h1 => hk _ _ _ _ ⟨b33, rfl, rfl⟩ h1)
           · intro T_ B_ a_ w_ K_ x_ hT hB
             rintro _ _ ⟨b33, rfl, rfl⟩ h85 hB85
             intro hf hsD hk
             exact ob rfl rfl (st_append (enc := walksL) (zs := pre) (ys := [(Walks.mk (g.k : Int) (e.k : Int))]) (c := x_.c1) (i := 0) (b := x_.b1) (o := x_.o1) hsD (Ev.t 0 rfl) (Ev.tmp (List.mem_append_right _ h85)) rfl (show fresh 86 ([(83, _)] ++ T_) = true from by simp only [List.nil_append, List.cons_append, fresh, hf]; rfl) Tryd.underlying28 (show (Tryd.prog.info? 64).map (fun i => (i.zero, i.size, i.bytes)) = some (some (.agg #[.int .i64 0, .int .i64 0]), 2, 16) by kernel_rfl) rfl (fun _ => rfl) (fun _ u hu => by simp only [walksL, List.mem_cons, List.not_mem_nil, or_false] at hu; rcases hu with rfl | rfl <;> rfl) x_.h1 rfl (sl_at (enc := walksL) (sz := 2) (ys := [(Walks.mk (g.k : Int) (e.k : Int))]) (fun _ => rfl) (by decide) (hsD.cellsM (List.mem_append_right _ (hB85 _ List.mem_cons_self)))) (by omega) (by omega) (fun A7 c7 b7 o7 a_1 w_1 hown7 h1 => hk ⟨x_.A1, x_.c1, x_.b1, x_.o1, x_.h1, A7, c7, b7, o7, hown7⟩ _ _ h1))
           · intro T_ B_ a_ w_ K_ hT hB
             intro hf hsD hk
             exact ob rfl rfl (st_move hsD (Ev.tmp (hT _ (mem_nth (i := 11) rfl))) rfl hf fun a_1 w_1 h1 => hk _ _ _ _ ⟨rfl, rfl⟩ h1)
           · intro T_ B_ a_ w_ K_ hT hB
             intro hf hsD hk
             exact ob rfl rfl (st_move hsD (Ev.tmp (hT _ (mem_nth (i := 12) rfl))) rfl hf fun a_1 w_1 h1 => hk _ _ _ _ ⟨rfl, rfl⟩ h1)
           rintro _ _ ⟨rfl, rfl⟩
           rintro _ _ ⟨rfl, rfl⟩
           rintro _ _ ⟨b32, rfl, rfl⟩
           rintro _ _ ⟨rfl, rfl⟩
           rintro _ _ ⟨rfl, rfl⟩
           rintro _ _ ⟨b33, rfl, rfl⟩
           rintro _ _ ⟨rfl, rfl⟩
           rintro _ _ ⟨rfl, rfl⟩
           intro x_ a_68 w_68 hs68
           clear hs67
           have hs69 := Sx.as (T' := [_, _, _, _, _, _, _, _, _, _, _, _, _, _, _, _, _, _, _, _, _, _, _]) (B' := _ :: _ :: _ :: _ :: _ :: _ :: _ :: _) rfl rfl hs68; clear hs68
           obtain ⟨oo7, ho7⟩ := x_.h2.isSome (by simp)
           have hb7 : W.heap.size ≤ x_.b2 := by rcases (hs69.blk _ (mem_nth (i := 0) rfl) _ ho7).1 with h | h; exact hMW _ h; exact Nat.le_trans hkW.size h
           have hGs7 : allSome ((x_.b2, x_.o2) :: e.G) := fun p hp => by rcases List.mem_cons.1 hp with rfl | hp; exact ⟨_, ho7⟩; exact hGse p hp
           have hGlo7 : ∀ p ∈ ((x_.b2, x_.o2) :: e.G), W.heap.size ≤ p.1 := fun p hp => by rcases List.mem_cons.1 hp with rfl | hp; exact hb7; exact hGloe p hp
           have hp2 : PlIn ((x_.b2, x_.o2) :: e.G) x_.A2 (pre.length + 1) x_.c2 (pre ++ [(Walks.mk (g.k : Int) (e.k : Int))]) := ⟨by simp, _, _, x_.h2, fun _ => ⟨List.mem_cons_self, oo7, ho7⟩⟩
           have hs69f := Sx.toTail [(b32, some (.cells ⟨[]⟩ 64 (0, 0))), (b33, some (.cells ⟨[.int .i64 (g.k : Int), .int .i64 (e.k : Int)]⟩ 64 (0, 0))), (b29, some (.cells ⟨[.int .i64 ((min b.bunker (cl + (g.k : Int) * b.scoop)) - x13.mi.hi * (b.burn x13.light).hi), .int .i64 ((min b.bunker (ch + (g.k : Int) * b.scoop)) - x13.mi.lo * (b.burn x13.light).lo), .int .i64 ((min b.tank (vl + (e.k : Int) * b.pail)) - x13.mi.hi * (b.drink x13.light).hi), .int .i64 ((min b.tank (vh + (e.k : Int) * b.pail)) - x13.mi.lo * (b.drink x13.light).lo)]⟩ 82 (0, 0))), (b27, some (.cells ⟨[.int .i64 (g.k : Int), .int .i64 (e.k : Int)]⟩ 64 (0, 0))), (b3, some (.cells ⟨[.int .i64 cl, .int .i64 ch, .int .i64 vl, .int .i64 vh]⟩ 82 (0, 0))), (b2, some (.cells ⟨(bookL b A n cp)⟩ 27 (0, 0)))] (Sx.front hs69 0 rfl); clear hs69
           have hs70 : Sx 94 [] [(86, .slice x_.A2 (pre.length + 1) x_.c2), (83, .slice x_.A1 pre.length x_.c1), (79, .agg ⟨(bookL b A n cp)⟩), (80, .agg ⟨[.int .i64 ((min b.bunker (cl + (g.k : Int) * b.scoop)) - x13.mi.hi * (b.burn x13.light).hi), .int .i64 ((min b.bunker (ch + (g.k : Int) * b.scoop)) - x13.mi.lo * (b.burn x13.light).lo), .int .i64 ((min b.tank (vl + (e.k : Int) * b.pail)) - x13.mi.hi * (b.drink x13.light).hi), .int .i64 ((min b.tank (vh + (e.k : Int) * b.pail)) - x13.mi.lo * (b.drink x13.light).lo)]⟩), (81, .slice (some ⟨b32, 0, none⟩) 0 0), (82, .slice A2 n2 c2), (84, .agg ⟨[.int .i64 (g.k : Int), .int .i64 (e.k : Int)]⟩), (85, .slice (some ⟨b33, 0, none⟩) 1 1), (87, .slice e.A e.n e.c), (88, .int .i64 e.t), (77, .bool (!(b.may x13 ((min b.bunker (cl + (g.k : Int) * b.scoop)) - x13.mi.hi * (b.burn x13.light).hi) ((min b.tank (vl + (e.k : Int) * b.pail)) - x13.mi.hi * (b.drink x13.light).hi)))), (16, .pointer (some ⟨b29, 0, none⟩)), (15, .pointer (some ⟨b27, 0, none⟩)), (14, .int .i64 (e.k : Int)), (13, .int .i64 (g.k : Int)), (12, .int .i64 (i : Int)), (11, .int .i64 0), (10, .slice none 0 0), (6, .pointer (some ⟨b3, 0, none⟩)), (5, .pointer (some ⟨b2, 0, none⟩)), (2, .slice A2 n2 c2), (3, .slice e.A e.n e.c), (4, .int .i64 e.t)] ((b32, some (.cells ⟨[]⟩ 64 (0, 0))) :: (b33, some (.cells ⟨[.int .i64 (g.k : Int), .int .i64 (e.k : Int)]⟩ 64 (0, 0))) :: (b29, some (.cells ⟨[.int .i64 ((min b.bunker (cl + (g.k : Int) * b.scoop)) - x13.mi.hi * (b.burn x13.light).hi), .int .i64 ((min b.bunker (ch + (g.k : Int) * b.scoop)) - x13.mi.lo * (b.burn x13.light).lo), .int .i64 ((min b.tank (vl + (e.k : Int) * b.pail)) - x13.mi.hi * (b.drink x13.light).hi), .int .i64 ((min b.tank (vh + (e.k : Int) * b.pail)) - x13.mi.lo * (b.drink x13.light).lo)]⟩ 82 (0, 0))) :: (b27, some (.cells ⟨[.int .i64 (g.k : Int), .int .i64 (e.k : Int)]⟩ 64 (0, 0))) :: (b3, some (.cells ⟨[.int .i64 cl, .int .i64 ch, .int .i64 vl, .int .i64 vh]⟩ 82 (0, 0))) :: (b2, some (.cells ⟨(bookL b A n cp)⟩ 27 (0, 0))) :: ((x_.b2, x_.o2) :: e.G)) Mg w _ _ := hs69f; clear hs69f
           obtain ⟨pl9, k9, hr9⟩ : ∃ pl k, b.few (b.parts.drop (i + 1)) ((min b.bunker (cl + (g.k : Int) * b.scoop)) - x13.mi.hi * (b.burn x13.light).hi) ((min b.tank (vl + (e.k : Int) * b.pail)) - x13.mi.hi * (b.drink x13.light).hi) (pre ++ [(Walks.mk (g.k : Int) (e.k : Int))]) (e.pl, e.t) = (pl, k) := ⟨_, _, rfl⟩
           refine tw_step (by kernel_rfl) (ob rfl rfl (st_callG (B1 := [(b32, some (.cells ⟨[]⟩ 64 (0, 0))), (b33, some (.cells ⟨[.int .i64 (g.k : Int), .int .i64 (e.k : Int)]⟩ 64 (0, 0))), (b29, some (.cells ⟨[.int .i64 ((min b.bunker (cl + (g.k : Int) * b.scoop)) - x13.mi.hi * (b.burn x13.light).hi), .int .i64 ((min b.bunker (ch + (g.k : Int) * b.scoop)) - x13.mi.lo * (b.burn x13.light).lo), .int .i64 ((min b.tank (vl + (e.k : Int) * b.pail)) - x13.mi.hi * (b.drink x13.light).hi), .int .i64 ((min b.tank (vh + (e.k : Int) * b.pail)) - x13.mi.lo * (b.drink x13.light).lo)]⟩ 82 (0, 0))), (b27, some (.cells ⟨[.int .i64 (g.k : Int), .int .i64 (e.k : Int)]⟩ 64 (0, 0))), (b3, some (.cells ⟨[.int .i64 cl, .int .i64 ch, .int .i64 vl, .int .i64 vh]⟩ 82 (0, 0))), (b2, some (.cells ⟨(bookL b A n cp)⟩ 27 (0, 0)))]) (C := ((x_.b2, x_.o2) :: e.G)) (vs := [.agg ⟨(bookL b A n cp)⟩, .agg ⟨[.int .i64 ((min b.bunker (cl + (g.k : Int) * b.scoop)) - x13.mi.hi * (b.burn x13.light).hi), .int .i64 ((min b.bunker (ch + (g.k : Int) * b.scoop)) - x13.mi.lo * (b.burn x13.light).lo), .int .i64 ((min b.tank (vl + (e.k : Int) * b.pail)) - x13.mi.hi * (b.drink x13.light).hi), .int .i64 ((min b.tank (vh + (e.k : Int) * b.pail)) - x13.mi.lo * (b.drink x13.light).lo)]⟩, .slice x_.A2 (pre.length + 1) x_.c2, .slice e.A e.n e.c, .int .i64 e.t]) hs70 (.func _) ⟨(Ev.t 2 rfl), (Ev.t 3 rfl), (Ev.t 0 rfl), (Ev.t 8 rfl), (Ev.t 9 rfl), trivial⟩ rfl rfl Tryd.call62 rfl hGs7 (ih ((min b.bunker (cl + (g.k : Int) * b.scoop)) - x13.mi.hi * (b.burn x13.light).hi) ((min b.bunker (ch + (g.k : Int) * b.scoop)) - x13.mi.lo * (b.burn x13.light).lo) ((min b.tank (vl + (e.k : Int) * b.pail)) - x13.mi.hi * (b.drink x13.light).hi) ((min b.tank (vh + (e.k : Int) * b.pail)) - x13.mi.lo * (b.drink x13.light).lo) (pre ++ [(Walks.mk (g.k : Int) (e.k : Int))]) x_.A2 (pre.length + 1) x_.c2 e.pl e.A e.n e.c e.t ((x_.b2, x_.o2) :: e.G) _ (by omega) (by omega) (by simp; omega) (hsm.snoc (by omega) hwy) hp2 (hple.mono (fun p hp => List.mem_cons_of_mem _ hp)) hGs7 hGlo7 (Kp.via hkW hs70.kp hMW)) (fun v_ G2 a_71 w_71 hp9 hso9 hs71 => ?_))); clear hs70
           rw [hr9] at hp9
           obtain ⟨hsub2, hGs2, hGlo2, A9, n9, c9, rfl, hpl9⟩ := hp9
           have hs72 : Sx 94 [] [(89, .tuple ⟨[.slice A9 n9 c9, .int .i64 k9]⟩), (86, .slice x_.A2 (pre.length + 1) x_.c2), (83, .slice x_.A1 pre.length x_.c1), (79, .agg ⟨(bookL b A n cp)⟩), (80, .agg ⟨[.int .i64 ((min b.bunker (cl + (g.k : Int) * b.scoop)) - x13.mi.hi * (b.burn x13.light).hi), .int .i64 ((min b.bunker (ch + (g.k : Int) * b.scoop)) - x13.mi.lo * (b.burn x13.light).lo), .int .i64 ((min b.tank (vl + (e.k : Int) * b.pail)) - x13.mi.hi * (b.drink x13.light).hi), .int .i64 ((min b.tank (vh + (e.k : Int) * b.pail)) - x13.mi.lo * (b.drink x13.light).lo)]⟩), (81, .slice (some ⟨b32, 0, none⟩) 0 0), (82, .slice A2 n2 c2), (84, .agg ⟨[.int .i64 (g.k : Int), .int .i64 (e.k : Int)]⟩), (85, .slice (some ⟨b33, 0, none⟩) 1 1), (87, .slice e.A e.n e.c), (88, .int .i64 e.t), (77, .bool (!(b.may x13 ((min b.bunker (cl + (g.k : Int) * b.scoop)) - x13.mi.hi * (b.burn x13.light).hi) ((min b.tank (vl + (e.k : Int) * b.pail)) - x13.mi.hi * (b.drink x13.light).hi)))), (16, .pointer (some ⟨b29, 0, none⟩)), (15, .pointer (some ⟨b27, 0, none⟩)), (14, .int .i64 (e.k : Int)), (13, .int .i64 (g.k : Int)), (12, .int .i64 (i : Int)), (11, .int .i64 0), (10, .slice none 0 0), (6, .pointer (some ⟨b3, 0, none⟩)), (5, .pointer (some ⟨b2, 0, none⟩)), (2, .slice A2 n2 c2), (3, .slice e.A e.n e.c), (4, .int .i64 e.t)] ((b32, some (.cells ⟨[]⟩ 64 (0, 0))) :: (b33, some (.cells ⟨[.int .i64 (g.k : Int), .int .i64 (e.k : Int)]⟩ 64 (0, 0))) :: (b29, some (.cells ⟨[.int .i64 ((min b.bunker (cl + (g.k : Int) * b.scoop)) - x13.mi.hi * (b.burn x13.light).hi), .int .i64 ((min b.bunker (ch + (g.k : Int) * b.scoop)) - x13.mi.lo * (b.burn x13.light).lo), .int .i64 ((min b.tank (vl + (e.k : Int) * b.pail)) - x13.mi.hi * (b.drink x13.light).hi), .int .i64 ((min b.tank (vh + (e.k : Int) * b.pail)) - x13.mi.lo * (b.drink x13.light).lo)]⟩ 82 (0, 0))) :: (b27, some (.cells ⟨[.int .i64 (g.k : Int), .int .i64 (e.k : Int)]⟩ 64 (0, 0))) :: (b3, some (.cells ⟨[.int .i64 cl, .int .i64 ch, .int .i64 vl, .int .i64 vh]⟩ 82 (0, 0))) :: (b2, some (.cells ⟨(bookL b A n cp)⟩ 27 (0, 0))) :: G2) Mg w _ _ := hs71; clear hs71
           refine tw_step (by kernel_rfl) (ob rfl rfl (st_move hs72 (Ev.t 0 rfl) rfl rfl fun _ _ hs73 => ?_)); clear hs72
           refine tw_pair2 (fun a_ w_ => Sx 94 [] [(3, .slice A9 n9 c9), (91, .int .i64 k9), (90, .slice A9 n9 c9), (78, .tuple ⟨[.slice A9 n9 c9, .int .i64 k9]⟩), (89, .tuple ⟨[.slice A9 n9 c9, .int .i64 k9]⟩), (86, .slice x_.A2 (pre.length + 1) x_.c2), (83, .slice x_.A1 pre.length x_.c1), (79, .agg ⟨(bookL b A n cp)⟩), (80, .agg ⟨[.int .i64 ((min b.bunker (cl + (g.k : Int) * b.scoop)) - x13.mi.hi * (b.burn x13.light).hi), .int .i64 ((min b.bunker (ch + (g.k : Int) * b.scoop)) - x13.mi.lo * (b.burn x13.light).lo), .int .i64 ((min b.tank (vl + (e.k : Int) * b.pail)) - x13.mi.hi * (b.drink x13.light).hi), .int .i64 ((min b.tank (vh + (e.k : Int) * b.pail)) - x13.mi.lo * (b.drink x13.light).lo)]⟩), (81, .slice (some ⟨b32, 0, none⟩) 0 0), (82, .slice A2 n2 c2), (84, .agg ⟨[.int .i64 (g.k : Int), .int .i64 (e.k : Int)]⟩), (85, .slice (some ⟨b33, 0, none⟩) 1 1), (87, .slice e.A e.n e.c), (88, .int .i64 e.t), (77, .bool (!(b.may x13 ((min b.bunker (cl + (g.k : Int) * b.scoop)) - x13.mi.hi * (b.burn x13.light).hi) ((min b.tank (vl + (e.k : Int) * b.pail)) - x13.mi.hi * (b.drink x13.light).hi)))), (16, .pointer (some ⟨b29, 0, none⟩)), (15, .pointer (some ⟨b27, 0, none⟩)), (14, .int .i64 (e.k : Int)), (13, .int .i64 (g.k : Int)), (12, .int .i64 (i : Int)), (11, .int .i64 0), (10, .slice none 0 0), (6, .pointer (some ⟨b3, 0, none⟩)), (5, .pointer (some ⟨b2, 0, none⟩)), (2, .slice A2 n2 c2), (4, .int .i64 e.t)] ((b32, some (.cells ⟨[]⟩ 64 (0, 0))) :: (b33, some (.cells ⟨[.int .i64 (g.k : Int), .int .i64 (e.k : Int)]⟩ 64 (0, 0))) :: (b29, some (.cells ⟨[.int .i64 ((min b.bunker (cl + (g.k : Int) * b.scoop)) - x13.mi.hi * (b.burn x13.light).hi), .int .i64 ((min b.bunker (ch + (g.k : Int) * b.scoop)) - x13.mi.lo * (b.burn x13.light).lo), .int .i64 ((min b.tank (vl + (e.k : Int) * b.pail)) - x13.mi.hi * (b.drink x13.light).hi), .int .i64 ((min b.tank (vh + (e.k : Int) * b.pail)) - x13.mi.lo * (b.drink x13.light).lo)]⟩ 82 (0, 0))) :: (b27, some (.cells ⟨[.int .i64 (g.k : Int), .int .i64 (e.k : Int)]⟩ 64 (0, 0))) :: (b3, some (.cells ⟨[.int .i64 cl, .int .i64 ch, .int .i64 vl, .int .i64 vh]⟩ 82 (0, 0))) :: (b2, some (.cells ⟨(bookL b A n cp)⟩ 27 (0, 0))) :: G2) Mg w a_ w_) (by kernel_rfl) ?_ ?_ (fun a_78 w_78 hs78 => ?_)
           · skip
             refine ob rfl rfl (st_extract hs73 (Ev.t 0 rfl) rfl rfl rfl fun _ _ hs74 => ?_); clear hs73
             constructor
             · skip
               refine ob rfl rfl (st_extract hs74 (Ev.t 1 rfl) rfl rfl rfl fun _ _ hs75 => ?_); clear hs74
               have hs76 := Sx.keepT [0, 1, 2, 3, 4, 5, 6, 7, 8, 9, 10, 11, 12, 13, 14, 15, 16, 17, 18, 19, 20, 21, 22, 23, 24, 26] [_, _, _, _, _, _, _, _, _, _, _, _, _, _, _, _, _, _, _, _, _, _, _, _, _, _] ⟨rfl, rfl, rfl, rfl, rfl, rfl, rfl, rfl, rfl, rfl, rfl, rfl, rfl, rfl, rfl, rfl, rfl, rfl, rfl, rfl, rfl, rfl, rfl, rfl, rfl, rfl, trivial⟩ hs75; clear hs75
               refine ob rfl rfl (st_assign hs76 (Ev.t 1 rfl) rfl rfl fun _ _ hs77 => ?_); clear hs76
               exact hs77
             · skip
               have hs75 := Sx.keepT [0, 1, 2, 3, 4, 5, 6, 7, 8, 9, 10, 11, 12, 13, 14, 15, 16, 17, 18, 19, 20, 21, 22, 23, 25] [_, _, _, _, _, _, _, _, _, _, _, _, _, _, _, _, _, _, _, _, _, _, _, _, _] ⟨rfl, rfl, rfl, rfl, rfl, rfl, rfl, rfl, rfl, rfl, rfl, rfl, rfl, rfl, rfl, rfl, rfl, rfl, rfl, rfl, rfl, rfl, rfl, rfl, rfl, trivial⟩ hs74; clear hs74
               refine ob rfl rfl (st_assign hs75 (Ev.t 0 rfl) rfl rfl fun _ _ hs76 => ?_); clear hs75
               refine ob rfl rfl (st_extract hs76 (Ev.t 2 rfl) rfl rfl rfl fun _ _ hs77 => ?_); clear hs76
               exact Sx.keepE [1, 0, 2, 3, 4, 5, 6, 7, 8, 9, 10, 11, 12, 13, 14, 15, 16, 17, 18, 19, 20, 21, 22, 23, 24, 25, 26] _ ⟨⟨_, rfl, rfl⟩, ⟨_, rfl, rfl⟩, ⟨_, rfl, rfl⟩, ⟨_, rfl, rfl⟩, ⟨_, rfl, rfl⟩, ⟨_, rfl, rfl⟩, ⟨_, rfl, rfl⟩, ⟨_, rfl, rfl⟩, ⟨_, rfl, rfl⟩, ⟨_, rfl, rfl⟩, ⟨_, rfl, rfl⟩, ⟨_, rfl, rfl⟩, ⟨_, rfl, rfl⟩, ⟨_, rfl, rfl⟩, ⟨_, rfl, rfl⟩, ⟨_, rfl, rfl⟩, ⟨_, rfl, rfl⟩, ⟨_, rfl, rfl⟩, ⟨_, rfl, rfl⟩, ⟨_, rfl, rfl⟩, ⟨_, rfl, rfl⟩, ⟨_, rfl, rfl⟩, ⟨_, rfl, rfl⟩, ⟨_, rfl, rfl⟩, ⟨_, rfl, rfl⟩, ⟨_, rfl, rfl⟩, ⟨_, rfl, rfl⟩, trivial⟩ hs77
           · skip
             refine ob rfl rfl (st_extract hs73 (Ev.t 0 rfl) rfl rfl rfl fun _ _ hs74 => ?_); clear hs73
             refine ob rfl rfl (st_extract hs74 (Ev.t 1 rfl) rfl rfl rfl fun _ _ hs75 => ?_); clear hs74
             have hs76 := Sx.keepT [0, 1, 2, 3, 4, 5, 6, 7, 8, 9, 10, 11, 12, 13, 14, 15, 16, 17, 18, 19, 20, 21, 22, 23, 24, 26] [_, _, _, _, _, _, _, _, _, _, _, _, _, _, _, _, _, _, _, _, _, _, _, _, _, _] ⟨rfl, rfl, rfl, rfl, rfl, rfl, rfl, rfl, rfl, rfl, rfl, rfl, rfl, rfl, rfl, rfl, rfl, rfl, rfl, rfl, rfl, rfl, rfl, rfl, rfl, rfl, trivial⟩ hs75; clear hs75
             refine ob rfl rfl (st_assign hs76 (Ev.t 0 rfl) rfl rfl fun _ _ hs77 => ?_); clear hs76
             exact Sx.keepE [0, 2, 1, 3, 4, 5, 6, 7, 8, 9, 10, 11, 12, 13, 14, 15, 16, 17, 18, 19, 20, 21, 22, 23, 24, 25, 26] _ ⟨⟨_, rfl, rfl⟩, ⟨_, rfl, rfl⟩, ⟨_, rfl, rfl⟩, ⟨_, rfl, rfl⟩, ⟨_, rfl, rfl⟩, ⟨_, rfl, rfl⟩, ⟨_, rfl, rfl⟩, ⟨_, rfl, rfl⟩, ⟨_, rfl, rfl⟩, ⟨_, rfl, rfl⟩, ⟨_, rfl, rfl⟩, ⟨_, rfl, rfl⟩, ⟨_, rfl, rfl⟩, ⟨_, rfl, rfl⟩, ⟨_, rfl, rfl⟩, ⟨_, rfl, rfl⟩, ⟨_, rfl, rfl⟩, ⟨_, rfl, rfl⟩, ⟨_, rfl, rfl⟩, ⟨_, rfl, rfl⟩, ⟨_, rfl, rfl⟩, ⟨_, rfl, rfl⟩, ⟨_, rfl, rfl⟩, ⟨_, rfl, rfl⟩, ⟨_, rfl, rfl⟩, ⟨_, rfl, rfl⟩, ⟨_, rfl, rfl⟩, trivial⟩ hs77
           clear hs73
           have hs79 := Sx.keepT [0, 1, 2, 3, 4, 5, 6, 7, 8, 9, 10, 11, 12, 13, 14, 15, 16, 17, 18, 19, 20, 21, 22, 23, 24, 25] [_, _, _, _, _, _, _, _, _, _, _, _, _, _, _, _, _, _, _, _, _, _, _, _, _, _] ⟨rfl, rfl, rfl, rfl, rfl, rfl, rfl, rfl, rfl, rfl, rfl, rfl, rfl, rfl, rfl, rfl, rfl, rfl, rfl, rfl, rfl, rfl, rfl, rfl, rfl, rfl, trivial⟩ hs78; clear hs78
           refine tw_step (by kernel_rfl) (ob rfl rfl (st_assign hs79 (Ev.t 1 rfl) rfl rfl fun _ _ hs80 => ?_)); clear hs79
           refine tw_nil ?_
           have hs81 := Sx.keepT [0, 1, 19, 20, 21, 22, 23, 24, 25, 26] [_, _, _, _, _, _, _, _, _, _] ⟨rfl, rfl, rfl, rfl, rfl, rfl, rfl, rfl, rfl, rfl, trivial⟩ hs80; clear hs80
           have hstep : (pl9, k9) = b.fewY x13 (b.few (b.parts.drop (i + 1))) cl vl pre (e.pl, e.t) ⟨(g.k : Int), (e.k : Int)⟩ := hr9.symm.trans (if_neg (fun h => by rw [Bool.not_eq_true'] at hmay; exact absurd (h.symm.trans hmay) (by decide))).symm
           refine in_norm ?_
           refine th_norm (hK25 _ _ ?_)
           refine cd_region1 ?_
           refine sq rfl (st_move hs81 (Ev.t 2 rfl) rfl rfl fun _ _ hs82 => ?_); clear hs81
           refine sq rfl (st_add (z := (e.k : Int) + 1) hs82 (Ev.t 0 rfl) (.const _) rfl rfl rfl (by omega) fun _ _ hs83 => ?_); clear hs82
           have hs84 := Sx.keepT [0, 1, 2, 3, 5, 6, 7, 8, 9, 10, 11] [_, _, _, _, _, _, _, _, _, _, _] ⟨rfl, rfl, rfl, rfl, rfl, rfl, rfl, rfl, rfl, rfl, rfl, trivial⟩ hs83; clear hs83
           refine sq rfl (st_assign hs84 (Ev.t 0 rfl) rfl rfl fun _ _ hs85 => ?_); clear hs84
           refine wpListIn_nil ?_
           have hs86 := Sx.keepT [0, 3, 4, 5, 6, 7, 8, 9, 10, 11] [_, _, _, _, _, _, _, _, _, _] ⟨rfl, rfl, rfl, rfl, rfl, rfl, rfl, rfl, rfl, rfl, trivial⟩ hs85; clear hs85
           refine ⟨(FG.mk (e.k + 1) A9 n9 c9 pl9 k9 G2), ⟨?_, ?_, ?_, ?_, ?_, ?_, ?_⟩, by (show x13.walks.toNat + 1 - g.k - (e.k + 1) < x13.walks.toNat + 1 - g.k - e.k; omega)⟩
           · show e.k + 1 ≤ x13.walks.toNat + 1 - g.k; omega
           · show _ = b.fewY x13 (b.few (b.parts.drop (i + 1))) cl vl pre (b.fewW x13 (b.few (b.parts.drop (i + 1))) cl vl pre g.k (g.pl, g.t) e.k) ⟨(g.k : Int), (e.k : Int)⟩
             rw [← hfe]
             exact hstep
           · exact hpl9
           · exact hGs2
           · exact hGlo2
           · exact fun p hp => hsub2 p (List.mem_cons_of_mem _ (hsube p hp))
           have hs87 : Sx 94 [] [(14, .int .i64 ((e.k : Int) + 1)), (4, .int .i64 k9), (3, .slice A9 n9 c9), (13, .int .i64 (g.k : Int)), (12, .int .i64 (i : Int)), (11, .int .i64 0), (10, .slice none 0 0), (6, .pointer (some ⟨b3, 0, none⟩)), (5, .pointer (some ⟨b2, 0, none⟩)), (2, .slice A2 n2 c2)] ((b3, some (.cells ⟨[.int .i64 cl, .int .i64 ch, .int .i64 vl, .int .i64 vh]⟩ 82 (0, 0))) :: (b2, some (.cells ⟨(bookL b A n cp)⟩ 27 (0, 0))) :: G2) Mg w _ _ := Sx.blks hs86 ((List.Sublist.cons _ (List.Sublist.cons _ (List.Sublist.cons _ (List.Sublist.cons _ (List.Sublist.cons_cons _ (List.Sublist.cons_cons _ (List.Sublist.refl _))))))))
           exact Sx.keepE [0, 3, 4, 5, 6, 7, 8, 9, 2, 1] _ ⟨⟨_, rfl, rfl⟩, ⟨_, rfl, rfl⟩, ⟨_, rfl, rfl⟩, ⟨_, rfl, rfl⟩, ⟨_, rfl, rfl⟩, ⟨_, rfl, rfl⟩, ⟨_, rfl, rfl⟩, ⟨_, rfl, rfl⟩, ⟨_, rfl, rfl⟩, ⟨_, rfl, rfl⟩, trivial⟩ hs87
         · have hstep : (e.pl, e.t) = b.fewY x13 (b.few (b.parts.drop (i + 1))) cl vl pre (e.pl, e.t) ⟨(g.k : Int), (e.k : Int)⟩ := (if_pos (by rw [Bool.not_eq_false'] at hc31; exact hc31)).symm
           refine cd_skip ?_
           refine in_norm ?_
           refine th_norm (hK25 _ _ ?_)
           refine cd_region1 ?_
           refine sq rfl (st_move hs67 (Ev.t 3 rfl) rfl rfl fun _ _ hs68 => ?_); clear hs67
           refine sq rfl (st_add (z := (e.k : Int) + 1) hs68 (Ev.t 0 rfl) (.const _) rfl rfl rfl (by omega) fun _ _ hs69 => ?_); clear hs68
           have hs70 := Sx.keepT [0, 1, 2, 3, 4, 6, 7, 8, 9, 10, 11, 12, 13, 14] [_, _, _, _, _, _, _, _, _, _, _, _, _, _] ⟨rfl, rfl, rfl, rfl, rfl, rfl, rfl, rfl, rfl, rfl, rfl, rfl, rfl, rfl, trivial⟩ hs69; clear hs69
           refine sq rfl (st_assign hs70 (Ev.t 0 rfl) rfl rfl fun _ _ hs71 => ?_); clear hs70
           refine wpListIn_nil ?_
           have hs72 := Sx.keepT [0, 6, 7, 8, 9, 10, 11, 12, 13, 14] [_, _, _, _, _, _, _, _, _, _] ⟨rfl, rfl, rfl, rfl, rfl, rfl, rfl, rfl, rfl, rfl, trivial⟩ hs71; clear hs71
           refine ⟨(FG.mk (e.k + 1) e.A e.n e.c e.pl e.t e.G), ⟨?_, ?_, ?_, ?_, ?_, ?_, ?_⟩, by (show x13.walks.toNat + 1 - g.k - (e.k + 1) < x13.walks.toNat + 1 - g.k - e.k; omega)⟩
           · show e.k + 1 ≤ x13.walks.toNat + 1 - g.k; omega
           · show _ = b.fewY x13 (b.few (b.parts.drop (i + 1))) cl vl pre (b.fewW x13 (b.few (b.parts.drop (i + 1))) cl vl pre g.k (g.pl, g.t) e.k) ⟨(g.k : Int), (e.k : Int)⟩
             rw [← hfe]
             exact hstep
           · exact hple
           · exact hGse
           · exact hGloe
           · exact hsube
           have hs73 : Sx 94 [] [(14, .int .i64 ((e.k : Int) + 1)), (13, .int .i64 (g.k : Int)), (12, .int .i64 (i : Int)), (11, .int .i64 0), (10, .slice none 0 0), (6, .pointer (some ⟨b3, 0, none⟩)), (5, .pointer (some ⟨b2, 0, none⟩)), (2, .slice A2 n2 c2), (3, .slice e.A e.n e.c), (4, .int .i64 e.t)] ((b3, some (.cells ⟨[.int .i64 cl, .int .i64 ch, .int .i64 vl, .int .i64 vh]⟩ 82 (0, 0))) :: (b2, some (.cells ⟨(bookL b A n cp)⟩ 27 (0, 0))) :: e.G) Mg w _ _ := Sx.blks hs72 ((List.Sublist.cons _ (List.Sublist.cons _ (List.Sublist.cons_cons _ (List.Sublist.cons_cons _ (List.Sublist.refl _))))))
           exact Sx.keepE [0, 1, 2, 3, 4, 5, 6, 7, 8, 9] _ ⟨⟨_, rfl, rfl⟩, ⟨_, rfl, rfl⟩, ⟨_, rfl, rfl⟩, ⟨_, rfl, rfl⟩, ⟨_, rfl, rfl⟩, ⟨_, rfl, rfl⟩, ⟨_, rfl, rfl⟩, ⟨_, rfl, rfl⟩, ⟨_, rfl, rfl⟩, ⟨_, rfl, rfl⟩, trivial⟩ hs73
       · have hek : e.k = x13.walks.toNat + 1 - g.k := by simp at hc24; omega
         refine cd_exit ?_
         refine th_exit ?_
         refine th_exit ?_
         refine in_hit ?_
         refine in_norm ?_
         refine th_norm (hK20 _ _ ?_)
         refine cd_region1 ?_
         refine sq rfl (st_move hs50 (Ev.t 2 rfl) rfl rfl fun _ _ hs51 => ?_); clear hs50
         refine sq rfl (st_add (z := (g.k : Int) + 1) hs51 (Ev.t 0 rfl) (.const _) rfl rfl rfl (by omega) fun _ _ hs52 => ?_); clear hs51
         have hs53 := Sx.keepT [0, 1, 2, 3, 5, 6, 7, 8, 9, 10, 11, 12] [_, _, _, _, _, _, _, _, _, _, _, _] ⟨rfl, rfl, rfl, rfl, rfl, rfl, rfl, rfl, rfl, rfl, rfl, rfl, trivial⟩ hs52; clear hs52
         refine sq rfl (st_assign hs53 (Ev.t 0 rfl) rfl rfl fun _ _ hs54 => ?_); clear hs53
         refine wpListIn_nil ?_
         have hs55 := Sx.keepT [0, 5, 6, 7, 8, 9, 10, 11, 12] [_, _, _, _, _, _, _, _, _] ⟨rfl, rfl, rfl, rfl, rfl, rfl, rfl, rfl, rfl, trivial⟩ hs54; clear hs54
         refine ⟨(FG.mk (g.k + 1) e.A e.n e.c e.pl e.t e.G), ⟨?_, ?_, ?_, ?_, ?_, ?_, ?_⟩, by (show x13.walks.toNat + 1 - (g.k + 1) < x13.walks.toNat + 1 - g.k; omega)⟩
         · exact hgk
         · show (e.pl, e.t) = b.fewW x13 (b.few (b.parts.drop (i + 1))) cl vl pre g.k (b.fewC x13 (b.few (b.parts.drop (i + 1))) cl vl pre (bp, bk) g.k) (x13.walks.toNat + 1 - g.k)
           rw [← hf, ← hek]; exact hfe
         · exact hple
         · exact hGse
         · exact hGloe
         · exact hsube
         exact Sx.keepE [0, 1, 2, 3, 4, 5, 6, 7, 8] _ ⟨⟨_, rfl, rfl⟩, ⟨_, rfl, rfl⟩, ⟨_, rfl, rfl⟩, ⟨_, rfl, rfl⟩, ⟨_, rfl, rfl⟩, ⟨_, rfl, rfl⟩, ⟨_, rfl, rfl⟩, ⟨_, rfl, rfl⟩, ⟨_, rfl, rfl⟩, trivial⟩ hs55
     · have hgk : g.k = x13.walks.toNat + 1 := by simp at hc19; omega
       have hres : b.few (b.parts.drop i) cl vl pre (bp, bk) = (g.pl, g.t) := by rw [few_drop hx13 hlt, ← hgk]; exact hf.symm
       refine cd_exit ?_
       refine th_exit ?_
       refine th_exit ?_
       refine in_hit ?_
       refine th_norm (hK15 _ _ ?_)
       refine cd_region fun K34 hK34 => ?_
       refine sq rfl (st_move hs35 (Ev.t 8 rfl) rfl rfl fun _ _ hs36 => ?_); clear hs35
       refine sq rfl (st_move hs36 (Ev.t 10 rfl) rfl rfl fun _ _ hs37 => ?_); clear hs36
       have hs38 := Sx.keepT [0, 1, 2, 3, 4, 5, 7, 8, 9, 10, 11] [_, _, _, _, _, _, _, _, _, _, _] ⟨rfl, rfl, rfl, rfl, rfl, rfl, rfl, rfl, rfl, rfl, rfl, trivial⟩ hs37; clear hs37
       refine sq rfl (st_assign hs38 (Ev.t 1 rfl) rfl rfl fun _ _ hs39 => ?_); clear hs38
       have hs40 := Sx.keepT [0, 1, 2, 3, 4, 5, 7, 8, 9, 10, 11] [_, _, _, _, _, _, _, _, _, _, _] ⟨rfl, rfl, rfl, rfl, rfl, rfl, rfl, rfl, rfl, rfl, rfl, trivial⟩ hs39; clear hs39
       refine sq rfl (st_assign hs40 (Ev.t 1 rfl) rfl rfl fun _ _ hs41 => ?_); clear hs40
       refine hK34 _ _ ?_; clear hK34
       have hs42 := Sx.keepT [0, 1] [_, _] ⟨rfl, rfl, trivial⟩ hs41; clear hs41
       have hsR := hs42.blks (List.sublist_append_right [(b3, some (.cells ⟨[.int .i64 cl, .int .i64 ch, .int .i64 vl, .int .i64 vh]⟩ 82 (0, 0))), (b2, some (.cells ⟨(bookL b A n cp)⟩ 27 (0, 0)))] g.G)
       exact cd_retG (vs := [.slice g.A g.n g.c, .int .i64 g.t]) hsR hQ0 rfl ⟨.tmp 1 rfl, .tmp 0 rfl, trivial⟩ hGs ⟨hsub, hGs, hGlo, g.A, g.n, g.c, by rw [hres]; rfl, by rw [hres]; exact hpl⟩

theorem few_all (b : Book) (A : Option Addr) (n cp : Nat) (hn : n ≤ 140737488351232) (hb : Bd b) (W : World) (hP : PartsAt W A n b.parts) : ∀ j i : Nat, i + j = b.parts.length → fewOk b A n cp W i := by
  intro j
  induction j with
  | zero => intro i h; exact few_step b A n cp hn hb W hP i (by omega) (fun h' => by omega)
  | succ j ih => intro i h; exact few_step b A n cp hn hb W hP i (by omega) (fun _ => ih (i + 1) (by omega))
/-- 'fewest' from the evening's begin. -/
theorem few_at (b : Book) (A : Option Addr) (n cp : Nat) (hn : n ≤ 140737488351232) (hok : b.ok = true) (W : World) (hP : PartsAt W A n b.parts) (w : World) (hk : Kp [] W w) :
    CallsG Tryd.prog 62 [.agg ⟨bookL b A n cp⟩, .agg ⟨[.int .i64 b.coal.lo, .int .i64 b.coal.hi, .int .i64 b.water.lo, .int .i64 b.water.hi]⟩, .slice none 0 0, .slice none 0 0, .int .i64 99] [] w
      (fewPost W [] (match b.best b.parts b.coal.lo b.water.lo with | none => ([], 99) | some q => q)) := by
  have hb := ok_bd hok
  have h := few_all b A n cp hn hb W hP b.parts.length 0 (by omega) b.coal.lo b.coal.hi b.water.lo b.water.hi [] none 0 0 [] none 0 0 99 [] w (by have := hb.coal; have := hb.water; simp; omega) (by have := hb.coal; have := hb.water; simp; omega) rfl ⟨by simp, fun i y h => by simp at h⟩
    (plin_nil _) (plin_nil _) (fun p hp => by cases hp) (fun p hp => by cases hp) hk
  rw [List.drop_zero, few_plan hok] at h; exact h

theorem rPlan_b (b : Book) (A : Option Addr) (n cp : Nat) (w : World) (hP : PartsAt w A n b.parts) (hn : n ≤ 140737488351232) :
    CallsB Tryd.prog 24 [.agg ⟨bookL b A n cp⟩] w (plansV b.planR) := by
 refine enter (N := 22) (M := []) w Tryd.func24 rfl rfl rfl (fun Q0 a_0 hQ0 hN0 hs0 => ?_)
 refine cd_region fun K1 hK1 => ?_
 refine sq rfl (st_box hs0 (Ev.t 0 rfl) rfl rfl rfl fun b2 _ _ hs1 => ?_); clear hs0
 refine sq rfl (st_assign hs1 (.const _) rfl rfl fun _ _ hs2 => ?_); clear hs1
 refine sq rfl (st_assign hs2 (.const _) rfl rfl fun _ _ hs3 => ?_); clear hs2
 refine hK1 _ _ ?_; clear hK1
 have hs4 := Sx.keepT [0, 1, 2] [_, _, _] ⟨rfl, rfl, rfl, trivial⟩ hs3; clear hs3
 refine cd_seq fun K3 hK3 => ?_
 refine cd_region fun K4 hK4 => ?_
 refine sq rfl (st_loadA (o := 0) (off := 0) (vs := (bookL b A n cp)) hs4 (Ev.t 2 rfl) rfl rfl Tryd.isAgg27 Tryd.sizeOf27 (hs4.cells 0 rfl) rfl fun _ _ hs5 => ?_); clear hs4
 refine sq rfl (st_callv (vs := [.agg ⟨(bookL b A n cp)⟩]) hs5 (.func _) ⟨(Ev.t 0 rfl), trivial⟩ rfl rfl Tryd.call17 rfl (rcheck_v b A n cp _ (hP.kp hs5.kp) hn) fun _ _ hs6 => ?_); clear hs5
 refine sq rfl (st_assign hs6 (Ev.t 0 rfl) rfl rfl fun _ _ hs7 => ?_); clear hs6
 refine hK4 _ _ ?_; clear hK4
 have hs8 := Sx.keepT [0, 3, 4, 5] [_, _, _, _] ⟨rfl, rfl, rfl, rfl, trivial⟩ hs7; clear hs7
 refine cd_region fun K5 hK5 => ?_
 refine sq rfl (st_move hs8 (Ev.t 0 rfl) rfl rfl fun _ _ hs9 => ?_); clear hs8
 refine sq rfl (st_cmp (c := (if b.ok then 0 else 40 : Int) != 0) hs9 (Ev.t 0 rfl) (.const _) rfl rfl rfl rfl fun _ _ hs10 => ?_); clear hs9
 refine hK5 _ _ ?_; clear hK5
 have hs11 := Sx.keepT [0, 2, 3, 4, 5] [_, _, _, _, _] ⟨rfl, rfl, rfl, rfl, rfl, trivial⟩ hs10; clear hs10
 refine cd_cond hs11 (Ev.t 0 rfl) (fun hc6 => ?_) (fun hc6 => ?_)
 · have hok : b.ok = false := by cases h : b.ok <;> simp [h] at hc6 ⊢
   refine cd_region fun K7 hK7 => ?_
   refine sq rfl (st_move hs11 (Ev.t 1 rfl) rfl rfl fun _ _ hs12 => ?_); clear hs11
   have hs13 := Sx.keepT [0, 1, 2, 3, 5] [_, _, _, _, _] ⟨rfl, rfl, rfl, rfl, rfl, trivial⟩ hs12; clear hs12
   refine sq rfl (st_assign hs13 (.const _) rfl rfl fun _ _ hs14 => ?_); clear hs13
   have hs15 := Sx.keepT [0, 1, 2, 3, 5] [_, _, _, _, _] ⟨rfl, rfl, rfl, rfl, rfl, trivial⟩ hs14; clear hs14
   refine sq rfl (st_assign hs15 (Ev.t 1 rfl) rfl rfl fun _ _ hs16 => ?_); clear hs15
   refine hK7 _ _ ?_; clear hK7
   have hs17 := Sx.keepT [0, 1] [_, _] ⟨rfl, rfl, trivial⟩ hs16; clear hs16
   have hR : b.planR = (none, 40) := by simp [Book.planR, hok]
   refine cd_ret (vs := [.slice none 0 0, .int .i64 (if b.ok then 0 else 40)]) (bs := []) hs17 (fun a_ w_ h => th_ret (hQ0 a_ w_ h)) rfl ⟨.tmp 1 rfl, .tmp 0 rfl, trivial⟩ (List.nil_sublist _) ?_
   rw [hR]
   first | exact ⟨rfl, rfl⟩ | (simp [pack, plansV, hok])
 · have hok : b.ok = true := by cases h : b.ok <;> simp [h] at hc6 ⊢
   have hb := ok_bd hok
   refine cd_skip ?_
   refine th_norm (hK3 _ _ ?_)
   refine cd_drawnP mixed hs11 [⟨13, [], Is (.agg ⟨(bookL b A n cp)⟩)⟩,
      ⟨14, [], Is (.agg ⟨(bookL b A n cp)⟩)⟩,
      ⟨15, [1], Is (.agg ⟨[.int .i64 b.coal.lo, .int .i64 b.coal.hi, .int .i64 b.water.lo, .int .i64 b.water.hi]⟩)⟩] (by kernel_rfl) (by kernel_rfl) fun K8 hK8 => ⟨⟨?_, ?_, ?_, trivial⟩, ?_⟩
   · intro T_ B_ a_ w_ K_ hT hB
     intro hf hsD hk
     exact ob rfl rfl (st_loadA (o := 0) (off := 0) (vs := (bookL b A n cp)) hsD (Ev.tmp (hT _ (mem_nth (i := 4) rfl))) rfl hf Tryd.isAgg27 Tryd.sizeOf27 (hsD.cellsM (hB _ (mem_nth (i := 0) rfl))) rfl fun a_1 w_1 h1 => hk _ _ _ _ ⟨rfl, rfl⟩ h1)
   · intro T_ B_ a_ w_ K_ hT hB
     intro hf hsD hk
     exact ob rfl rfl (st_loadA (o := 0) (off := 0) (vs := (bookL b A n cp)) hsD (Ev.tmp (hT _ (mem_nth (i := 4) rfl))) rfl hf Tryd.isAgg27 Tryd.sizeOf27 (hsD.cellsM (hB _ (mem_nth (i := 0) rfl))) rfl fun a_1 w_1 h1 => hk _ _ _ _ ⟨rfl, rfl⟩ h1)
   · intro T_ B_ a_ w_ K_ hT hB
     rintro _ _ ⟨rfl, rfl⟩ h14 -
     intro hf hsD hk
     exact ob rfl rfl (st_callv (vs := [.agg ⟨(bookL b A n cp)⟩]) hsD (.func _) ⟨(Ev.tmp h14), trivial⟩ rfl hf Tryd.call55 rfl (rat_v b A n cp _) fun a_1 w_1 h1 => hk _ _ _ _ ⟨rfl, rfl⟩ h1)
   rintro _ _ ⟨rfl, rfl⟩
   rintro _ _ ⟨rfl, rfl⟩
   rintro _ _ ⟨rfl, rfl⟩
   intro a_12 w_12 hs12
   clear hs11
   have hs13 := Sx.as (T' := [_, _, _, _, _, _, _, _]) (B' := [_]) rfl rfl hs12; clear hs12
   refine tw_step (by kernel_rfl) (ob rfl rfl (st_callG (B1 := [(b2, some (.cells ⟨(bookL b A n cp)⟩ 27 (0, 0)))]) (C := []) (vs := [.agg ⟨(bookL b A n cp)⟩, .agg ⟨[.int .i64 b.coal.lo, .int .i64 b.coal.hi, .int .i64 b.water.lo, .int .i64 b.water.hi]⟩, .slice none 0 0, .slice none 0 0, .int .i64 99]) hs13 (.func _) ⟨(Ev.t 0 rfl), (Ev.t 2 rfl), (.const _), (.const _), (.const _), trivial⟩ rfl rfl Tryd.call62 rfl (fun p hp => by cases hp) (few_at b A n cp hn hok w hP _ hs13.kp) (fun v_ G2 a_14 w_14 hp9 hso9 hs14 => ?_))); clear hs13
   rcases hbest : b.best b.parts b.coal.lo b.water.lo with _ | ⟨pl, kk⟩
   · skip
     rw [hbest] at hp9
     obtain ⟨hsub2, hGs2, hGlo2, A9, n9, c9, rfl, hpl9⟩ := hp9
     have hs15 : Sx 22 [] [(16, .tuple ⟨[.slice A9 n9 c9, .int .i64 99]⟩), (13, .agg ⟨(bookL b A n cp)⟩), (14, .agg ⟨(bookL b A n cp)⟩), (15, .agg ⟨[.int .i64 b.coal.lo, .int .i64 b.coal.hi, .int .i64 b.water.lo, .int .i64 b.water.hi]⟩), (10, .bool ((if b.ok then 0 else 40 : Int) != 0)), (4, .int .i64 (if b.ok then 0 else 40)), (3, .int .i64 0), (2, .slice none 0 0), (1, .pointer (some ⟨b2, 0, none⟩))] ((b2, some (.cells ⟨(bookL b A n cp)⟩ 27 (0, 0))) :: G2) [] w _ _ := hs14; clear hs14
     refine tw_step (by kernel_rfl) (ob rfl rfl (st_move hs15 (Ev.t 0 rfl) rfl rfl fun _ _ hs16 => ?_)); clear hs15
     refine tw_pair2 (fun a_ w_ => Sx 22 [] [(5, .slice A9 n9 c9), (18, .int .i64 99), (17, .slice A9 n9 c9), (12, .tuple ⟨[.slice A9 n9 c9, .int .i64 99]⟩), (16, .tuple ⟨[.slice A9 n9 c9, .int .i64 99]⟩), (13, .agg ⟨(bookL b A n cp)⟩), (14, .agg ⟨(bookL b A n cp)⟩), (15, .agg ⟨[.int .i64 b.coal.lo, .int .i64 b.coal.hi, .int .i64 b.water.lo, .int .i64 b.water.hi]⟩), (10, .bool ((if b.ok then 0 else 40 : Int) != 0)), (4, .int .i64 (if b.ok then 0 else 40)), (3, .int .i64 0), (2, .slice none 0 0), (1, .pointer (some ⟨b2, 0, none⟩))] ((b2, some (.cells ⟨(bookL b A n cp)⟩ 27 (0, 0))) :: G2) [] w a_ w_) (by kernel_rfl) ?_ ?_ (fun a_20 w_20 hs20 => ?_)
     · skip
       refine ob rfl rfl (st_extract hs16 (Ev.t 0 rfl) rfl rfl rfl fun _ _ hs17 => ?_); clear hs16
       constructor
       · skip
         refine ob rfl rfl (st_extract hs17 (Ev.t 1 rfl) rfl rfl rfl fun _ _ hs18 => ?_); clear hs17
         refine ob rfl rfl (st_assign hs18 (Ev.t 1 rfl) rfl rfl fun _ _ hs19 => ?_); clear hs18
         exact hs19
       · skip
         refine ob rfl rfl (st_assign hs17 (Ev.t 0 rfl) rfl rfl fun _ _ hs18 => ?_); clear hs17
         refine ob rfl rfl (st_extract hs18 (Ev.t 2 rfl) rfl rfl rfl fun _ _ hs19 => ?_); clear hs18
         exact Sx.keepE [1, 0, 2, 3, 4, 5, 6, 7, 8, 9, 10, 11, 12] _ ⟨⟨_, rfl, rfl⟩, ⟨_, rfl, rfl⟩, ⟨_, rfl, rfl⟩, ⟨_, rfl, rfl⟩, ⟨_, rfl, rfl⟩, ⟨_, rfl, rfl⟩, ⟨_, rfl, rfl⟩, ⟨_, rfl, rfl⟩, ⟨_, rfl, rfl⟩, ⟨_, rfl, rfl⟩, ⟨_, rfl, rfl⟩, ⟨_, rfl, rfl⟩, ⟨_, rfl, rfl⟩, trivial⟩ hs19
     · skip
       refine ob rfl rfl (st_extract hs16 (Ev.t 0 rfl) rfl rfl rfl fun _ _ hs17 => ?_); clear hs16
       refine ob rfl rfl (st_extract hs17 (Ev.t 1 rfl) rfl rfl rfl fun _ _ hs18 => ?_); clear hs17
       refine ob rfl rfl (st_assign hs18 (Ev.t 0 rfl) rfl rfl fun _ _ hs19 => ?_); clear hs18
       exact Sx.keepE [0, 2, 1, 3, 4, 5, 6, 7, 8, 9, 10, 11, 12] _ ⟨⟨_, rfl, rfl⟩, ⟨_, rfl, rfl⟩, ⟨_, rfl, rfl⟩, ⟨_, rfl, rfl⟩, ⟨_, rfl, rfl⟩, ⟨_, rfl, rfl⟩, ⟨_, rfl, rfl⟩, ⟨_, rfl, rfl⟩, ⟨_, rfl, rfl⟩, ⟨_, rfl, rfl⟩, ⟨_, rfl, rfl⟩, ⟨_, rfl, rfl⟩, ⟨_, rfl, rfl⟩, trivial⟩ hs19
     clear hs16
     refine tw_step (by kernel_rfl) (ob rfl rfl (st_assign hs20 (Ev.t 1 rfl) rfl rfl fun _ _ hs21 => ?_)); clear hs20
     refine hK8 _ _ ?_; clear hK8
     have hs22 := Sx.keepT [0, 1, 11, 12] [_, _, _, _] ⟨rfl, rfl, rfl, rfl, trivial⟩ hs21; clear hs21
     refine cd_seq fun K9 hK9 => ?_
     refine cd_region fun K10 hK10 => ?_
     refine sq rfl (st_move hs22 (Ev.t 0 rfl) rfl rfl fun _ _ hs23 => ?_); clear hs22
     refine sq rfl (st_cmp (c := (99 : Int) == 99) hs23 (Ev.t 0 rfl) (.const _) rfl rfl rfl rfl fun _ _ hs24 => ?_); clear hs23
     refine hK10 _ _ ?_; clear hK10
     have hs25 := Sx.keepT [0, 3, 4, 5] [_, _, _, _] ⟨rfl, rfl, rfl, rfl, trivial⟩ hs24; clear hs24
     have hc11 : ((99 : Int) == 99) = true := rfl
     refine cd_cond hs25 (Ev.t 0 rfl) (fun _ => ?_) (fun h => absurd (hc11.symm.trans h) (by decide))
     refine cd_region fun K12 hK12 => ?_
     have hs26 := Sx.keepT [0, 1, 2] [_, _, _] ⟨rfl, rfl, rfl, trivial⟩ hs25; clear hs25
     refine sq rfl (st_assign hs26 (.const _) rfl rfl fun _ _ hs27 => ?_); clear hs26
     have hs28 := Sx.keepT [0, 1, 2] [_, _, _] ⟨rfl, rfl, rfl, trivial⟩ hs27; clear hs27
     refine sq rfl (st_assign hs28 (.const _) rfl rfl fun _ _ hs29 => ?_); clear hs28
     refine hK12 _ _ ?_; clear hK12
     have hs30 := Sx.keepT [0, 1] [_, _] ⟨rfl, rfl, trivial⟩ hs29; clear hs29
     have hR : b.planR = (none, 4) := by simp [Book.planR, hok, hbest]
     refine cd_ret (vs := [.slice none 0 0, .int .i64 4]) (bs := []) hs30 (fun a_ w_ h => th_ret (hQ0 a_ w_ h)) rfl ⟨.tmp 1 rfl, .tmp 0 rfl, trivial⟩ (List.nil_sublist _) ?_
     rw [hR]
     first | exact ⟨rfl, rfl⟩ | (simp [pack, plansV, hok])
   · skip
     rw [hbest] at hp9
     obtain ⟨hsub2, hGs2, hGlo2, A9, n9, c9, rfl, hpl9⟩ := hp9
     have hs15 : Sx 22 [] [(16, .tuple ⟨[.slice A9 n9 c9, .int .i64 kk]⟩), (13, .agg ⟨(bookL b A n cp)⟩), (14, .agg ⟨(bookL b A n cp)⟩), (15, .agg ⟨[.int .i64 b.coal.lo, .int .i64 b.coal.hi, .int .i64 b.water.lo, .int .i64 b.water.hi]⟩), (10, .bool ((if b.ok then 0 else 40 : Int) != 0)), (4, .int .i64 (if b.ok then 0 else 40)), (3, .int .i64 0), (2, .slice none 0 0), (1, .pointer (some ⟨b2, 0, none⟩))] ((b2, some (.cells ⟨(bookL b A n cp)⟩ 27 (0, 0))) :: G2) [] w _ _ := hs14; clear hs14
     refine tw_step (by kernel_rfl) (ob rfl rfl (st_move hs15 (Ev.t 0 rfl) rfl rfl fun _ _ hs16 => ?_)); clear hs15
     refine tw_pair2 (fun a_ w_ => Sx 22 [] [(5, .slice A9 n9 c9), (18, .int .i64 kk), (17, .slice A9 n9 c9), (12, .tuple ⟨[.slice A9 n9 c9, .int .i64 kk]⟩), (16, .tuple ⟨[.slice A9 n9 c9, .int .i64 kk]⟩), (13, .agg ⟨(bookL b A n cp)⟩), (14, .agg ⟨(bookL b A n cp)⟩), (15, .agg ⟨[.int .i64 b.coal.lo, .int .i64 b.coal.hi, .int .i64 b.water.lo, .int .i64 b.water.hi]⟩), (10, .bool ((if b.ok then 0 else 40 : Int) != 0)), (4, .int .i64 (if b.ok then 0 else 40)), (3, .int .i64 0), (2, .slice none 0 0), (1, .pointer (some ⟨b2, 0, none⟩))] ((b2, some (.cells ⟨(bookL b A n cp)⟩ 27 (0, 0))) :: G2) [] w a_ w_) (by kernel_rfl) ?_ ?_ (fun a_20 w_20 hs20 => ?_)
     · skip
       refine ob rfl rfl (st_extract hs16 (Ev.t 0 rfl) rfl rfl rfl fun _ _ hs17 => ?_); clear hs16
       constructor
       · skip
         refine ob rfl rfl (st_extract hs17 (Ev.t 1 rfl) rfl rfl rfl fun _ _ hs18 => ?_); clear hs17
         refine ob rfl rfl (st_assign hs18 (Ev.t 1 rfl) rfl rfl fun _ _ hs19 => ?_); clear hs18
         exact hs19
       · skip
         refine ob rfl rfl (st_assign hs17 (Ev.t 0 rfl) rfl rfl fun _ _ hs18 => ?_); clear hs17
         refine ob rfl rfl (st_extract hs18 (Ev.t 2 rfl) rfl rfl rfl fun _ _ hs19 => ?_); clear hs18
         exact Sx.keepE [1, 0, 2, 3, 4, 5, 6, 7, 8, 9, 10, 11, 12] _ ⟨⟨_, rfl, rfl⟩, ⟨_, rfl, rfl⟩, ⟨_, rfl, rfl⟩, ⟨_, rfl, rfl⟩, ⟨_, rfl, rfl⟩, ⟨_, rfl, rfl⟩, ⟨_, rfl, rfl⟩, ⟨_, rfl, rfl⟩, ⟨_, rfl, rfl⟩, ⟨_, rfl, rfl⟩, ⟨_, rfl, rfl⟩, ⟨_, rfl, rfl⟩, ⟨_, rfl, rfl⟩, trivial⟩ hs19
     · skip
       refine ob rfl rfl (st_extract hs16 (Ev.t 0 rfl) rfl rfl rfl fun _ _ hs17 => ?_); clear hs16
       refine ob rfl rfl (st_extract hs17 (Ev.t 1 rfl) rfl rfl rfl fun _ _ hs18 => ?_); clear hs17
       refine ob rfl rfl (st_assign hs18 (Ev.t 0 rfl) rfl rfl fun _ _ hs19 => ?_); clear hs18
       exact Sx.keepE [0, 2, 1, 3, 4, 5, 6, 7, 8, 9, 10, 11, 12] _ ⟨⟨_, rfl, rfl⟩, ⟨_, rfl, rfl⟩, ⟨_, rfl, rfl⟩, ⟨_, rfl, rfl⟩, ⟨_, rfl, rfl⟩, ⟨_, rfl, rfl⟩, ⟨_, rfl, rfl⟩, ⟨_, rfl, rfl⟩, ⟨_, rfl, rfl⟩, ⟨_, rfl, rfl⟩, ⟨_, rfl, rfl⟩, ⟨_, rfl, rfl⟩, ⟨_, rfl, rfl⟩, trivial⟩ hs19
     clear hs16
     refine tw_step (by kernel_rfl) (ob rfl rfl (st_assign hs20 (Ev.t 1 rfl) rfl rfl fun _ _ hs21 => ?_)); clear hs20
     refine hK8 _ _ ?_; clear hK8
     have hs22 := Sx.keepT [0, 1, 11, 12] [_, _, _, _] ⟨rfl, rfl, rfl, rfl, trivial⟩ hs21; clear hs21
     refine cd_seq fun K13 hK13 => ?_
     refine cd_region fun K14 hK14 => ?_
     refine sq rfl (st_move hs22 (Ev.t 0 rfl) rfl rfl fun _ _ hs23 => ?_); clear hs22
     refine sq rfl (st_cmp (c := (kk : Int) == 99) hs23 (Ev.t 0 rfl) (.const _) rfl rfl rfl rfl fun _ _ hs24 => ?_); clear hs23
     refine hK14 _ _ ?_; clear hK14
     have hs25 := Sx.keepT [0, 3, 4, 5] [_, _, _, _] ⟨rfl, rfl, rfl, rfl, trivial⟩ hs24; clear hs24
     have hc15 : ((kk : Int) == 99) = false := by have := few_lt hok hbest; simp; omega
     refine cd_cond hs25 (Ev.t 0 rfl) (fun h => absurd (hc15.symm.trans h) (by decide)) (fun _ => ?_)
     refine cd_skip ?_
     refine th_norm (hK13 _ _ ?_)
     refine cd_region fun K16 hK16 => ?_
     refine sq rfl (st_move hs25 (Ev.t 1 rfl) rfl rfl fun _ _ hs26 => ?_); clear hs25
     have hs27 := Sx.keepT [0, 1, 2, 3] [_, _, _, _] ⟨rfl, rfl, rfl, rfl, trivial⟩ hs26; clear hs26
     refine sq rfl (st_assign hs27 (Ev.t 0 rfl) rfl rfl fun _ _ hs28 => ?_); clear hs27
     have hs29 := Sx.keepT [0, 1, 2, 3] [_, _, _, _] ⟨rfl, rfl, rfl, rfl, trivial⟩ hs28; clear hs28
     refine sq rfl (st_assign hs29 (.const _) rfl rfl fun _ _ hs30 => ?_); clear hs29
     refine hK16 _ _ ?_; clear hK16
     have hs31 := Sx.keepT [0, 1] [_, _] ⟨rfl, rfl, trivial⟩ hs30; clear hs30
     have hR : b.planR = (some pl, 0) := by simp [Book.planR, hok, hbest]
     obtain ⟨hn9, bb, oo, hown9, hin9⟩ := hpl9
     have hplne : pl ≠ [] := fun e => by have := best_len _ _ _ _ _ hbest; rw [e, List.length_nil] at this; have := ok_ne hok; omega
     exact cd_ret (vs := [.slice A9 n9 c9, .int .i64 0]) (bs := [(bb, oo)]) hs31 hQ0 rfl ⟨.tmp 1 rfl, .tmp 0 rfl, trivial⟩ (.cons _ (List.singleton_sublist.2 (hin9 hplne).1)) (by rw [hR]; exact ⟨A9, c9, bb, oo, by rw [hn9]; rfl, hown9, rfl⟩)
end Go.Proofs.YtdbcedmofoakmaaDoor
