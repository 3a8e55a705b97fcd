/- The engine: the plan, by its closure and its map. -/
import Derived.Test.YtdbcedmofoakmaaDoorEh
import Derived.Test.YtdbcedmofoakmaaDoorEp
import Derived.Test.YtdbcedmofoakmaaDoorEq
set_option maxRecDepth 100000
namespace Go.Proofs.YtdbcedmofoakmaaDoor
open Go Go.Sx Go.Eng Go.Proofs.Tryd
theorem key_eq (x y : Nat × Int × Int) (w : World) : (Op.equal 116 (keyV x) (keyV y)).run Tryd.prog w = .ok (keyEq x y) w := eq116 9997 _ _ _ _ _ _ w
theorem key_ck (em : Bool) (x : Nat × Int × Int) (w : World) : (Instr.checkKey em 10000 116 (keyV x)).run Tryd.prog w = .ok () w := check116 em 9997 _ _ _ w
theorem key_sm (x : Nat × Int × Int) : Instr.sameBits 10000 (keyV x) (keyV x) = true := by simp [keyV, Instr.sameBits]
/-- The closure's contract at part i. -/
def planOk (b : Book) (A : Option Addr) (n cp m t1 t2 t3 : Nat) (W : World) (i : Nat) : Prop :=
  ∀ (c v : Int) (es : Array MapEntry) (clk : Nat) (G : List (Nat × Option Obj)) (w : World), (-1000000 * (i : Int) ≤ c ∧ c ≤ 1000 ∧ -1000000 * (i : Int) ≤ v ∧ v ≤ 1000) → Kp [] W w → (∀ p ∈ planC b A n cp m t1 t2 t3 es clk G, W.heap.size ≤ p.1) → allSome G → Ents keyV (b.memo G) es →
    CallsG Tryd.prog 78 [.agg ⟨[.int .i64 (i : Int), .int .i64 c, .int .i64 v]⟩, .pointer (some ⟨t1, 0, none⟩), .pointer (some ⟨t2, 0, none⟩), .pointer (some ⟨t3, 0, none⟩)] (planC b A n cp m t1 t2 t3 es clk G) w
      (planPost b A n cp m t1 t2 t3 W G (b.best (b.parts.drop i) c v))

set_option maxHeartbeats 4000000 in
theorem plan1_step (b : Book) (A : Option Addr) (n cp m t1 t2 t3 : Nat) (hn : n ≤ 140737488351232) (hb : Bd b) (W : World) (hP : PartsAt W A n b.parts) (hG : CellsAt W 0 0 stuffsL) (i : Nat) (hi : i ≤ b.parts.length)
    (ih0 : i < b.parts.length → planOk b A n cp m t1 t2 t3 W (i + 1)) : planOk b A n cp m t1 t2 t3 W i := by
 intro c v es clk G w hcv hkW hlo hGs hE hT
 show Calls Tryd.prog 78 ⟨[.agg ⟨[.int .i64 (i : Int), .int .i64 c, .int .i64 v]⟩, .pointer (some ⟨t1, 0, none⟩), .pointer (some ⟨t2, 0, none⟩), .pointer (some ⟨t3, 0, none⟩)]⟩ w _
 have hl2 := hP.len
 refine enterG (N := 142) w func78 rfl rfl rfl hT (fun Q0 a_0 hQ0 hN0 hs0 => ?_)
 have hMW : ∀ q ∈ (planC b A n cp m t1 t2 t3 es clk G).map (·.1), W.heap.size ≤ q := fun q hq => by obtain ⟨p, hp, rfl⟩ := List.mem_map.1 hq; exact hlo p hp
 have hGlo : ∀ p ∈ G, W.heap.size ≤ p.1 := fun p hp => hlo p (by simp [planC, hp])
 have hlm : W.heap.size ≤ m := hlo (m, _) (by rw [planC]; exact List.mem_cons_self); have hlt1 : W.heap.size ≤ t1 := hlo (t1, _) (by rw [planC]; exact .tail _ List.mem_cons_self); have hlt2 : W.heap.size ≤ t2 := hlo (t2, _) (by rw [planC]; exact .tail _ (.tail _ List.mem_cons_self)); have hlt3 : W.heap.size ≤ t3 := hlo (t3, _) (by rw [planC]; exact .tail _ (.tail _ (.tail _ List.mem_cons_self)))
 generalize hMg : (planC b A n cp m t1 t2 t3 es clk G).map (·.1) = Mg at hs0 hQ0 hN0 hMW
 have hs1 : Sx 142 [] [(0, .agg ⟨[.int .i64 (i : Int), .int .i64 c, .int .i64 v]⟩), (1, .pointer (some ⟨t1, 0, none⟩)), (2, .pointer (some ⟨t2, 0, none⟩)), (3, .pointer (some ⟨t3, 0, none⟩))] ((m, some (.map es clk)) :: (t1, some (.cells ⟨(bookL b A n cp)⟩ 75 (0, 0))) :: (t2, some (.cells ⟨[.map (some m)]⟩ 113 (0, 0))) :: (t3, some (.cells ⟨[.func (.func 78) ⟨[]⟩ ⟨[.pointer (some ⟨t1, 0, none⟩), .pointer (some ⟨t2, 0, none⟩), .pointer (some ⟨t3, 0, none⟩)]⟩]⟩ 114 (0, 0))) :: G) Mg w _ _ := hs0; clear hs0
 refine cd_region fun K1 hK1 => ?_
 refine sq rfl (st_box hs1 (Ev.t 0 rfl) rfl rfl rfl fun b2 _ _ hs2 => ?_); clear hs1
 refine sq rfl (st_alloc hs2 rfl rfl zeroValue89 rfl fun b3 _ _ hs3 => ?_); clear hs2
 refine hK1 _ _ ?_; clear hK1
 have hs4 := hs3.keep [0, 1, 3, 4, 5] [_, _, _, _, _] rfl; clear hs3
 refine cd_scope ?_
 refine cd_seq fun K4 hK4 => ?_
 refine cd_region fun K5 hK5 => ?_
 refine sq rfl (st_field (o' := 0) hs4 (Ev.t 1 rfl) rfl rfl runUnderlying116 rfl sizeOf3 rfl rfl fun _ _ hs5 => ?_); clear hs4
 refine sq rfl (st_load1 (o := 0) (off := 0) (v := .int .i64 (i : Int)) hs5 (Ev.t 0 rfl) rfl rfl isAgg3 (hs5.cells 1 rfl) rfl fun _ _ hs6 => ?_); clear hs5
 refine sq rfl (st_field (o' := 0) hs6 (Ev.t 4 rfl) rfl rfl runUnderlying75 rfl sizeOf27 rfl rfl fun _ _ hs7 => ?_); clear hs6
 refine sq rfl (st_field (o' := 22) hs7 (Ev.t 0 rfl) rfl rfl runUnderlying27 rfl sizeOf25 rfl rfl fun _ _ hs8 => ?_); clear hs7
 refine sq rfl (st_load1 (o := 0) (off := 22) (v := .slice A n cp) hs8 (Ev.t 0 rfl) rfl rfl isAgg25 (hs8.cells 3 rfl) rfl fun _ _ hs9 => ?_); clear hs8
 refine sq rfl (st_len hs9 (Ev.t 0 rfl) rfl rfl runUnderlying25 fun _ _ hs10 => ?_); clear hs9
 refine sq rfl (st_cmp (c := ((i : Int) : Int) == (n : Int)) hs10 (Ev.t 4 rfl) (Ev.t 0 rfl) rfl rfl rfl rfl fun _ _ hs11 => ?_); clear hs10
 refine hK5 _ _ ?_; clear hK5
 have hs12 := hs11.keep [0, 7, 8, 9, 10, 11] [_, _, _, _, _, _] rfl; clear hs11
 refine cd_cond hs12 (Ev.t 0 rfl) (fun hc6 => ?_) (fun hc6 => ?_)
 · refine cd_region fun K7 hK7 => ?_
   refine sq rfl (st_build hs12 (qs := []) (v := .agg ⟨[.slice none 0 0, .int .i64 0]⟩) trivial rfl rfl rfl (fun _ => by kernel_rfl) fun _ _ hs13 => ?_); clear hs12
   refine sq rfl (st_store (l' := [.slice none 0 0, .int .i64 0]) (vs := [.slice none 0 0, .int .i64 0]) (i := 0) hs13 (Ev.t 2 rfl) (Ev.t 0 rfl) sizeOf89 rfl rfl rfl rfl rfl rfl fun _ _ hs14 => ?_); clear hs13
   have hs15 := hs14.asB (_ :: _ :: _ :: _ :: _ :: _ :: _) rfl; clear hs14
   refine hK7 _ _ ?_; clear hK7
   have hs16 := hs15.keep [2] [_] rfl; clear hs15
   have hsR := hs16.blks (List.sublist_append_right [(b3, some (.cells ⟨[.slice none 0 0, .int .i64 0]⟩ 89 (0, 0))), (b2, some (.cells ⟨[.int .i64 (i : Int), .int .i64 c, .int .i64 v]⟩ 116 (0, 0)))] (planC b A n cp m t1 t2 t3 es clk G))
   exact cd_retG (vs := [.agg ⟨[.slice none 0 0, .int .i64 0]⟩]) hsR (fun a_ w_ h => th_ret (hQ0 a_ w_ h)) rfl ⟨resA (o := 0) (off := 0) (vs := [.slice none 0 0, .int .i64 0]) 0 rfl isAgg89 sizeOf89 (hs16.cells 0 rfl) rfl, trivial⟩ (planC_some hGs) ⟨es, clk, G, rfl, (fun _ h => h), hGs, hGlo, hE, ⟨none, 0, 0, 0, rfl, by rw [best_nil (by simp at hc6; omega)]; exact ⟨rfl, rfl, by omega, by simp, 0, none, .inl ⟨rfl, rfl⟩, fun h => absurd rfl h⟩⟩⟩
 · have hil : i < b.parts.length := by simp at hc6; omega
   have ih := ih0 hil
   obtain ⟨x8, hx8⟩ : ∃ x, b.parts[i]? = some x := ⟨_, List.getElem?_eq_getElem (by have := hP.len; omega)⟩
   obtain ⟨b9, o9, hA9, -, hc9⟩ := hP.el i x8 hx8
   have hxw := (hb.parts i x8 hx8).2
   have mw : 0 ≤ (x8.walks + 1) * (x8.walks + 1) ∧ (x8.walks + 1) * (x8.walks + 1) ≤ 1002001 := ⟨Int.mul_nonneg (by omega) (by omega), Int.le_trans (Int.mul_le_mul (show x8.walks + 1 ≤ 1001 by omega) (show x8.walks + 1 ≤ 1001 by omega) (by omega) (by omega)) (by omega)⟩
   have hrx := rounds_eq (x := x8) (by omega)
   have hlen100 := hb.len
   refine cd_skip ?_
   refine th_norm (hK4 _ _ ?_)
   refine cd_seq fun K10 hK10 => ?_
   refine cd_region fun K11 hK11 => ?_
   refine sq rfl (st_load1 (o := 0) (off := 0) (v := .map (some m)) hs12 (Ev.t 4 rfl) rfl rfl isAgg113 (hs12.cells 4 rfl) rfl fun _ _ hs13 => ?_); clear hs12
   refine sq rfl (st_loadA (o := 0) (off := 0) (vs := [.int .i64 (i : Int), .int .i64 c, .int .i64 v]) hs13 (Ev.t 3 rfl) rfl rfl isAgg116 sizeOf116 (hs13.cells 1 rfl) rfl fun _ _ hs14 => ?_); clear hs13
   refine sq rfl (st_lookup (enc := keyV) (good := b.memo G) (beq := keyEq) (q := (i, c, v)) hs14 (Ev.t 1 rfl) (Ev.t 0 rfl) rfl rfl runUnderlying113 (by kernel_rfl) key_eq (fun _ _ => keyEq_eq) key_ck zeroValue89 (i := 2) rfl hE (fun v_ ok_ a_15 w_15 hg1 hg0 hs15 => ?_)); clear hs14
   rcases ok_ with _ | _
   · skip
     obtain rfl := hg0 rfl
     have hs16 : Sx 142 [] [(25, .tuple ⟨[.agg ⟨[.slice none 0 0, .int .i64 0]⟩, .bool false]⟩), (24, .agg ⟨[.int .i64 (i : Int), .int .i64 c, .int .i64 v]⟩), (23, .map (some m)), (20, .bool (((i : Int) : Int) == (n : Int))), (5, .pointer (some ⟨b3, 0, none⟩)), (4, .pointer (some ⟨b2, 0, none⟩)), (1, .pointer (some ⟨t1, 0, none⟩)), (2, .pointer (some ⟨t2, 0, none⟩)), (3, .pointer (some ⟨t3, 0, none⟩))] ((b3, some (.cells ⟨[.slice none 0 0, .int .i64 0]⟩ 89 (0, 0))) :: (b2, some (.cells ⟨[.int .i64 (i : Int), .int .i64 c, .int .i64 v]⟩ 116 (0, 0))) :: (m, some (.map es clk)) :: (t1, some (.cells ⟨(bookL b A n cp)⟩ 75 (0, 0))) :: (t2, some (.cells ⟨[.map (some m)]⟩ 113 (0, 0))) :: (t3, some (.cells ⟨[.func (.func 78) ⟨[]⟩ ⟨[.pointer (some ⟨t1, 0, none⟩), .pointer (some ⟨t2, 0, none⟩), .pointer (some ⟨t3, 0, none⟩)]⟩]⟩ 114 (0, 0))) :: G) Mg w _ _ := hs15; clear hs15
     refine sq rfl (st_move hs16 (Ev.t 0 rfl) rfl rfl fun _ _ hs17 => ?_); clear hs16
     refine sq rfl (st_extract hs17 (Ev.t 0 rfl) rfl rfl rfl fun _ _ hs18 => ?_); clear hs17
     refine sq rfl (st_extract hs18 (Ev.t 1 rfl) rfl rfl rfl fun _ _ hs19 => ?_); clear hs18
     refine sq rfl (st_alloc hs19 rfl rfl zeroValue89 rfl fun b12 _ _ hs20 => ?_); clear hs19
     refine sq rfl (st_store (l' := [.slice none 0 0, .int .i64 0]) (vs := [.slice none 0 0, .int .i64 0]) (i := 0) hs20 (Ev.t 0 rfl) (Ev.t 2 rfl) sizeOf89 rfl rfl rfl rfl rfl rfl fun _ _ hs21 => ?_); clear hs20
     have hs22 := hs21.asB (_ :: _ :: _ :: _ :: _ :: _ :: _ :: _) rfl; clear hs21
     refine sq rfl (st_assign hs22 (Ev.t 1 rfl) rfl rfl fun _ _ hs23 => ?_); clear hs22
     refine hK11 _ _ ?_; clear hK11
     have hs24 := hs23.keep [0, 1, 9, 10, 11, 12, 13] [_, _, _, _, _, _, _] rfl; clear hs23
     refine cd_region fun K13 hK13 => ?_
     refine sq rfl (st_move hs24 (Ev.t 0 rfl) rfl rfl fun _ _ hs25 => ?_); clear hs24
     refine hK13 _ _ ?_; clear hK13
     have hs26 := hs25.keep [0, 2, 3, 4, 5, 6, 7] [_, _, _, _, _, _, _] rfl; clear hs25
     have hc14 : false = false := rfl
     refine cd_cond hs26 (Ev.t 0 rfl) (fun h => absurd (hc14.symm.trans h) (by decide)) (fun _ => ?_)
     refine cd_skip ?_
     refine th_norm (hK10 _ _ ?_)
     refine cd_region fun K15 hK15 => ?_
     refine sq rfl (st_build hs26 (qs := [(1, .int .i64 (-1))]) (v := .agg ⟨[.slice none 0 0, .int .i64 (-1)]⟩) ⟨(.const _), trivial⟩ rfl rfl rfl (fun _ => by kernel_rfl) fun _ _ hs27 => ?_); clear hs26
     refine sq rfl (st_alloc hs27 rfl rfl zeroValue89 rfl fun b16 _ _ hs28 => ?_); clear hs27
     refine sq rfl (st_store (l' := [.slice none 0 0, .int .i64 (-1)]) (vs := [.slice none 0 0, .int .i64 (-1)]) (i := 0) hs28 (Ev.t 0 rfl) (Ev.t 1 rfl) sizeOf89 rfl rfl rfl rfl rfl rfl fun _ _ hs29 => ?_); clear hs28
     have hs30 := hs29.asB (_ :: _ :: _ :: _ :: _ :: _ :: _ :: _ :: _) rfl; clear hs29
     refine hK15 _ _ ?_; clear hK15
     have hs31 := hs30.keep [0, 4, 5, 6, 7, 8] [_, _, _, _, _, _] rfl; clear hs30
     refine cd_seq fun K17 hK17 => ?_
     refine wpIn_label ?_
     refine hK17 _ _ ?_; clear hK17
     refine cd_seq fun K18 hK18 => ?_
     refine cd_drawn mixed hs31 [⟨31, [], Is (.pointer (some ⟨t1, 0, none⟩))⟩, ⟨32, [0], Is (.pointer (some ⟨t1, 22, none⟩))⟩, ⟨33, [1], Is (.slice A n cp)⟩, ⟨34, [], Is (.pointer (some ⟨b2, 0, none⟩))⟩, ⟨35, [3], Is (.int .i64 (i : Int))⟩, ⟨36, [2, 4], Is (.pointer (some ⟨b9, o9 + i * 4, none⟩))⟩, ⟨37, [5], Is (.pointer (some ⟨b9, o9 + i * 4 + 3, none⟩))⟩, ⟨38, [6], Is (.int .i64 x8.walks)⟩, ⟨39, [7], Is (.int .i64 (x8.walks + 1))⟩, ⟨40, [], Is (.pointer (some ⟨t1, 0, none⟩))⟩, ⟨41, [9], Is (.pointer (some ⟨t1, 22, none⟩))⟩, ⟨42, [10], Is (.slice A n cp)⟩, ⟨43, [], Is (.pointer (some ⟨b2, 0, none⟩))⟩, ⟨44, [12], Is (.int .i64 (i : Int))⟩, ⟨45, [11, 13], Is (.pointer (some ⟨b9, o9 + i * 4, none⟩))⟩, ⟨46, [14], Is (.pointer (some ⟨b9, o9 + i * 4 + 3, none⟩))⟩, ⟨47, [15], Is (.int .i64 x8.walks)⟩, ⟨48, [16], Is (.int .i64 (x8.walks + 1))⟩, ⟨49, [8, 17], Is (.int .i64 ((x8.walks + 1) * (x8.walks + 1)))⟩, ⟨50, [], Is (.int .i64 0)⟩] (by kernel_rfl) (by kernel_rfl) fun K19 hK19 => ⟨⟨?_, ?_, ?_, ?_, ?_, ?_, ?_, ?_, ?_, ?_, ?_, ?_, ?_, ?_, ?_, ?_, ?_, ?_, ?_, ?_, trivial⟩, ?_⟩
     · rintro T_ B_ a_ w_ K_ hT hB hf hsD hk
       exact ob rfl rfl (st_field (o' := 0) hsD (evT hT 3 rfl) rfl hf runUnderlying75 rfl sizeOf27 rfl rfl fun _ _ => hk _ _ _ _ ⟨rfl, rfl⟩)
     · rintro T_ B_ a_ w_ K_ hT hB _ _ ⟨rfl, rfl⟩ h31 - hf hsD hk
       exact ob rfl rfl (st_field (o' := 22) hsD (Ev.tmp h31) rfl hf runUnderlying27 rfl sizeOf25 rfl rfl fun _ _ => hk _ _ _ _ ⟨rfl, rfl⟩)
     · rintro T_ B_ a_ w_ K_ hT hB _ _ ⟨rfl, rfl⟩ h32 - hf hsD hk
       exact ob rfl rfl (st_load1 (o := 0) (off := 22) (v := .slice A n cp) hsD (Ev.tmp h32) rfl hf isAgg25 (hsD.cellsM (inB hB 5 rfl)) rfl fun _ _ => hk _ _ _ _ ⟨rfl, rfl⟩)
     · rintro T_ B_ a_ w_ K_ hT hB hf hsD hk
       exact ob rfl rfl (st_field (o' := 0) hsD (evT hT 2 rfl) rfl hf runUnderlying116 rfl sizeOf3 rfl rfl fun _ _ => hk _ _ _ _ ⟨rfl, rfl⟩)
     · rintro T_ B_ a_ w_ K_ hT hB _ _ ⟨rfl, rfl⟩ h34 - hf hsD hk
       exact ob rfl rfl (st_load1 (o := 0) (off := 0) (v := .int .i64 (i : Int)) hsD (Ev.tmp h34) rfl hf isAgg3 (hsD.cellsM (inB hB 3 rfl)) rfl fun _ _ => hk _ _ _ _ ⟨rfl, rfl⟩)
     · rintro T_ B_ a_ w_ K_ hT hB _ _ ⟨rfl, rfl⟩ h33 - _ _ ⟨rfl, rfl⟩ h35 - hf hsD hk
       exact ob rfl rfl (st_indexM (o' := o9 + i * 4) hsD (Ev.tmp h33) (Ev.tmp h35) rfl hf hA9 runUnderlying25 sizeOf66 ⟨by omega, by have := hP.len; have := (List.getElem?_eq_some_iff.1 hx8).1; omega⟩ rfl fun _ _ => hk _ _ _ _ ⟨rfl, rfl⟩)
     · rintro T_ B_ a_ w_ K_ hT hB _ _ ⟨rfl, rfl⟩ h36 - hf hsD hk
       exact ob rfl rfl (st_field (o' := o9 + i * 4 + 3) hsD (Ev.tmp h36) rfl hf runUnderlying66 rfl sizeOf3 rfl rfl fun _ _ => hk _ _ _ _ ⟨rfl, rfl⟩)
     · rintro T_ B_ a_ w_ K_ hT hB _ _ ⟨rfl, rfl⟩ h37 - hf hsD hk
       exact ob rfl rfl (st_load1 (o := o9 + i * 4) (off := 3) (v := .int .i64 x8.walks) hsD (Ev.tmp h37) rfl hf isAgg3 (hc9.kp (Kp.via hkW hsD.kp hMW) (by simp)) rfl fun _ _ => hk _ _ _ _ ⟨rfl, rfl⟩)
     · rintro T_ B_ a_ w_ K_ hT hB _ _ ⟨rfl, rfl⟩ h38 - hf hsD hk
       exact ob rfl rfl (st_add (z := x8.walks + 1) hsD (Ev.tmp h38) (.const _) rfl hf rfl (by omega) fun _ _ => hk _ _ _ _ ⟨rfl, rfl⟩)
     · rintro T_ B_ a_ w_ K_ hT hB hf hsD hk
       exact ob rfl rfl (st_field (o' := 0) hsD (evT hT 3 rfl) rfl hf runUnderlying75 rfl sizeOf27 rfl rfl fun _ _ => hk _ _ _ _ ⟨rfl, rfl⟩)
     · rintro T_ B_ a_ w_ K_ hT hB _ _ ⟨rfl, rfl⟩ h40 - hf hsD hk
       exact ob rfl rfl (st_field (o' := 22) hsD (Ev.tmp h40) rfl hf runUnderlying27 rfl sizeOf25 rfl rfl fun _ _ => hk _ _ _ _ ⟨rfl, rfl⟩)
     · rintro T_ B_ a_ w_ K_ hT hB _ _ ⟨rfl, rfl⟩ h41 - hf hsD hk
       exact ob rfl rfl (st_load1 (o := 0) (off := 22) (v := .slice A n cp) hsD (Ev.tmp h41) rfl hf isAgg25 (hsD.cellsM (inB hB 5 rfl)) rfl fun _ _ => hk _ _ _ _ ⟨rfl, rfl⟩)
     · rintro T_ B_ a_ w_ K_ hT hB hf hsD hk
       exact ob rfl rfl (st_field (o' := 0) hsD (evT hT 2 rfl) rfl hf runUnderlying116 rfl sizeOf3 rfl rfl fun _ _ => hk _ _ _ _ ⟨rfl, rfl⟩)
     · rintro T_ B_ a_ w_ K_ hT hB _ _ ⟨rfl, rfl⟩ h43 - hf hsD hk
       exact ob rfl rfl (st_load1 (o := 0) (off := 0) (v := .int .i64 (i : Int)) hsD (Ev.tmp h43) rfl hf isAgg3 (hsD.cellsM (inB hB 3 rfl)) rfl fun _ _ => hk _ _ _ _ ⟨rfl, rfl⟩)
     · rintro T_ B_ a_ w_ K_ hT hB _ _ ⟨rfl, rfl⟩ h42 - _ _ ⟨rfl, rfl⟩ h44 - hf hsD hk
       exact ob rfl rfl (st_indexM (o' := o9 + i * 4) hsD (Ev.tmp h42) (Ev.tmp h44) rfl hf hA9 runUnderlying25 sizeOf66 ⟨by omega, by have := hP.len; have := (List.getElem?_eq_some_iff.1 hx8).1; omega⟩ rfl fun _ _ => hk _ _ _ _ ⟨rfl, rfl⟩)
     · rintro T_ B_ a_ w_ K_ hT hB _ _ ⟨rfl, rfl⟩ h45 - hf hsD hk
       exact ob rfl rfl (st_field (o' := o9 + i * 4 + 3) hsD (Ev.tmp h45) rfl hf runUnderlying66 rfl sizeOf3 rfl rfl fun _ _ => hk _ _ _ _ ⟨rfl, rfl⟩)
     · rintro T_ B_ a_ w_ K_ hT hB _ _ ⟨rfl, rfl⟩ h46 - hf hsD hk
       exact ob rfl rfl (st_load1 (o := o9 + i * 4) (off := 3) (v := .int .i64 x8.walks) hsD (Ev.tmp h46) rfl hf isAgg3 (hc9.kp (Kp.via hkW hsD.kp hMW) (by simp)) rfl fun _ _ => hk _ _ _ _ ⟨rfl, rfl⟩)
     · rintro T_ B_ a_ w_ K_ hT hB _ _ ⟨rfl, rfl⟩ h47 - hf hsD hk
       exact ob rfl rfl (st_add (z := x8.walks + 1) hsD (Ev.tmp h47) (.const _) rfl hf rfl (by omega) fun _ _ => hk _ _ _ _ ⟨rfl, rfl⟩)
     · rintro T_ B_ a_ w_ K_ hT hB _ _ ⟨rfl, rfl⟩ h39 - _ _ ⟨rfl, rfl⟩ h48 - hf hsD hk
       exact ob rfl rfl (st_mul (z := (x8.walks + 1) * (x8.walks + 1)) hsD (Ev.tmp h39) (Ev.tmp h48) rfl hf rfl (by omega) fun _ _ => hk _ _ _ _ ⟨rfl, rfl⟩)
     · rintro T_ B_ a_ w_ K_ hT hB hf hsD hk
       exact ob rfl rfl (st_move hsD (.const _) rfl hf fun _ _ => hk _ _ _ _ ⟨rfl, rfl⟩)
     rintro _ _ ⟨rfl, rfl⟩ _ _ ⟨rfl, rfl⟩ _ _ ⟨rfl, rfl⟩ _ _ ⟨rfl, rfl⟩ _ _ ⟨rfl, rfl⟩ _ _ ⟨rfl, rfl⟩ _ _ ⟨rfl, rfl⟩ _ _ ⟨rfl, rfl⟩ _ _ ⟨rfl, rfl⟩ _ _ ⟨rfl, rfl⟩ _ _ ⟨rfl, rfl⟩ _ _ ⟨rfl, rfl⟩ _ _ ⟨rfl, rfl⟩ _ _ ⟨rfl, rfl⟩ _ _ ⟨rfl, rfl⟩ _ _ ⟨rfl, rfl⟩ _ _ ⟨rfl, rfl⟩ _ _ ⟨rfl, rfl⟩ _ _ ⟨rfl, rfl⟩ _ _ ⟨rfl, rfl⟩ a_32 w_32 hs32; clear hs31
     have hs33 := Sx.as (T' := [_, _, _, _, _, _, _, _, _, _, _, _, _, _, _, _, _, _, _, _, _, _, _, _, _, _]) (B' := _ :: _ :: _ :: _ :: _ :: _ :: _ :: _ :: _) rfl rfl hs32; clear hs32
     refine hK19 _ _ ?_; clear hK19
     have hs34 := hs33.keep [18, 19, 20, 21, 22, 23, 24, 25] [_, _, _, _, _, _, _, _] rfl; clear hs33
     refine cd_block ?_
     have hs35 : Sx 142 [] [(49, .int .i64 ((x8.walks + 1) * (x8.walks + 1))), (50, .int .i64 ((PG.mk 0 none 0 0 (-1) es clk G).k : Int)), (8, .pointer (some ⟨b16, 0, none⟩)), (5, .pointer (some ⟨b3, 0, none⟩)), (4, .pointer (some ⟨b2, 0, none⟩)), (1, .pointer (some ⟨t1, 0, none⟩)), (2, .pointer (some ⟨t2, 0, none⟩)), (3, .pointer (some ⟨t3, 0, none⟩))] ((b16, some (.cells ⟨[.slice ((PG.mk 0 none 0 0 (-1) es clk G).A) ((PG.mk 0 none 0 0 (-1) es clk G).n) ((PG.mk 0 none 0 0 (-1) es clk G).c), .int .i64 ((PG.mk 0 none 0 0 (-1) es clk G).t)]⟩ 89 (0, 0))) :: (b12, some (.cells ⟨[.slice none 0 0, .int .i64 0]⟩ 89 (0, 0))) :: (b3, some (.cells ⟨[.slice none 0 0, .int .i64 0]⟩ 89 (0, 0))) :: (b2, some (.cells ⟨[.int .i64 (i : Int), .int .i64 c, .int .i64 v]⟩ 116 (0, 0))) :: (m, some (.map (PG.mk 0 none 0 0 (-1) es clk G).es (PG.mk 0 none 0 0 (-1) es clk G).clk)) :: (t1, some (.cells ⟨(bookL b A n cp)⟩ 75 (0, 0))) :: (t2, some (.cells ⟨[.map (some m)]⟩ 113 (0, 0))) :: (t3, some (.cells ⟨[.func (.func 78) ⟨[]⟩ ⟨[.pointer (some ⟨t1, 0, none⟩), .pointer (some ⟨t2, 0, none⟩), .pointer (some ⟨t3, 0, none⟩)]⟩]⟩ 114 (0, 0))) :: (PG.mk 0 none 0 0 (-1) es clk G).G) Mg w _ _ := Sx.keepE [0, 1, 2, 3, 4, 5, 6, 7] _ ⟨⟨_, rfl, rfl⟩, ⟨_, rfl, rfl⟩, ⟨_, rfl, rfl⟩, ⟨_, rfl, rfl⟩, ⟨_, rfl, rfl⟩, ⟨_, rfl, rfl⟩, ⟨_, rfl, rfl⟩, ⟨_, rfl, rfl⟩, trivial⟩ hs34; clear hs34
     refine cd_loop (X := PG) (fun g a_ w_ => (g.k ≤ rounds x8) ∧ (Bst (b.bestN x8 (b.best (b.parts.drop (i + 1))) c v g.k) g.A g.n g.c g.t g.G) ∧ (allSome g.G) ∧ (∀ p ∈ g.G, W.heap.size ≤ p.1) ∧ (Ents keyV (b.memo g.G) g.es) ∧ (∀ p ∈ G, p ∈ g.G) ∧ Sx 142 [] [(49, .int .i64 ((x8.walks + 1) * (x8.walks + 1))), (50, .int .i64 (g.k : Int)), (8, .pointer (some ⟨b16, 0, none⟩)), (5, .pointer (some ⟨b3, 0, none⟩)), (4, .pointer (some ⟨b2, 0, none⟩)), (1, .pointer (some ⟨t1, 0, none⟩)), (2, .pointer (some ⟨t2, 0, none⟩)), (3, .pointer (some ⟨t3, 0, none⟩))] ((b16, some (.cells ⟨[.slice g.A g.n g.c, .int .i64 g.t]⟩ 89 (0, 0))) :: (b12, some (.cells ⟨[.slice none 0 0, .int .i64 0]⟩ 89 (0, 0))) :: (b3, some (.cells ⟨[.slice none 0 0, .int .i64 0]⟩ 89 (0, 0))) :: (b2, some (.cells ⟨[.int .i64 (i : Int), .int .i64 c, .int .i64 v]⟩ 116 (0, 0))) :: (m, some (.map g.es g.clk)) :: (t1, some (.cells ⟨(bookL b A n cp)⟩ 75 (0, 0))) :: (t2, some (.cells ⟨[.map (some m)]⟩ 113 (0, 0))) :: (t3, some (.cells ⟨[.func (.func 78) ⟨[]⟩ ⟨[.pointer (some ⟨t1, 0, none⟩), .pointer (some ⟨t2, 0, none⟩), .pointer (some ⟨t3, 0, none⟩)]⟩]⟩ 114 (0, 0))) :: g.G) Mg w a_ w_) (fun g => rounds x8 - g.k) ((PG.mk 0 none 0 0 (-1) es clk G)) ⟨?_, ?_, ?_, ?_, ?_, ?_, hs35⟩ ?_
     · exact Nat.zero_le _
     · exact ⟨rfl, rfl, rfl, rfl⟩
     · exact hGs
     · exact hGlo
     · exact hE
     · exact fun _ h => h
     intro g a_36 w_36 ⟨hk, hbst, hGs, hGlo, hE, hsub, hs36⟩; clear hs35
     refine cd_region fun K20 hK20 => ?_
     refine sq rfl (st_cmp (c := decide (((g.k : Int) : Int) < ((x8.walks + 1) * (x8.walks + 1)))) hs36 (Ev.t 1 rfl) (Ev.t 0 rfl) rfl rfl rfl rfl fun _ _ hs37 => ?_); clear hs36
     refine hK20 _ _ ?_; clear hK20
     refine cd_seq fun K21 hK21 => ?_
     refine cd_cond hs37 (Ev.t 0 rfl) (fun hc22 => ?_) (fun hc22 => ?_)
     · simp only [decide_eq_true_eq] at hc22
       have hkr : g.k < rounds x8 := by omega
       obtain ⟨y, hye⟩ : ∃ y, pairOf x8.walks g.k = y := ⟨_, rfl⟩
       have hwy := pairOf_bd ⟨hxw.1, hxw.2⟩ hc22 hye
       have hsucc : b.bestN x8 (b.best (b.parts.drop (i + 1))) c v (g.k + 1) = b.try1 x8 (b.best (b.parts.drop (i + 1))) c v (b.bestN x8 (b.best (b.parts.drop (i + 1))) c v g.k) y := by rw [Book.bestN, hye]
       have hab := after_bd hb hx8 hwy false c v
       refine cd_skip ?_
       refine th_norm (hK21 _ _ ?_)
       refine cd_seq fun K23 hK23 => ?_
       refine cd_block ?_
       refine cd_region fun K24 hK24 => ?_
       refine sq rfl (st_move hs37 (Ev.t 2 rfl) rfl rfl fun _ _ hs38 => ?_); clear hs37
       refine sq rfl (st_assign hs38 (Ev.t 0 rfl) rfl rfl fun _ _ hs39 => ?_); clear hs38
       refine hK24 _ _ ?_; clear hK24
       have hs40 := hs39.keep [0, 3, 4, 5, 6, 7, 8, 9, 10] [_, _, _, _, _, _, _, _, _] rfl; clear hs39
       refine cd_drawn mixed hs40 [⟨53, [], Is (.int .i64 (g.k : Int))⟩, ⟨54, [], Is (.pointer (some ⟨t1, 0, none⟩))⟩, ⟨55, [1], Is (.pointer (some ⟨t1, 22, none⟩))⟩, ⟨56, [2], Is (.slice A n cp)⟩, ⟨57, [], Is (.pointer (some ⟨b2, 0, none⟩))⟩, ⟨58, [4], Is (.int .i64 (i : Int))⟩, ⟨59, [3, 5], Is (.pointer (some ⟨b9, o9 + i * 4, none⟩))⟩, ⟨60, [6], Is (.pointer (some ⟨b9, o9 + i * 4 + 3, none⟩))⟩, ⟨61, [7], Is (.int .i64 x8.walks)⟩, ⟨62, [8], Is (.int .i64 (x8.walks + 1))⟩, ⟨63, [0, 9], Is (.int .i64 ((g.k : Int) / (x8.walks + 1)))⟩, ⟨64, [], Is (.int .i64 (g.k : Int))⟩, ⟨65, [], Is (.pointer (some ⟨t1, 0, none⟩))⟩, ⟨66, [12], Is (.pointer (some ⟨t1, 22, none⟩))⟩, ⟨67, [13], Is (.slice A n cp)⟩, ⟨68, [], Is (.pointer (some ⟨b2, 0, none⟩))⟩, ⟨69, [15], Is (.int .i64 (i : Int))⟩, ⟨70, [14, 16], Is (.pointer (some ⟨b9, o9 + i * 4, none⟩))⟩, ⟨71, [17], Is (.pointer (some ⟨b9, o9 + i * 4 + 3, none⟩))⟩, ⟨72, [18], Is (.int .i64 x8.walks)⟩, ⟨73, [19], Is (.int .i64 (x8.walks + 1))⟩, ⟨74, [11, 20], Is (.int .i64 (((g.k : Int) : Int).tmod (x8.walks + 1)))⟩, ⟨75, [10, 21], Is (.agg ⟨[.int .i64 ((g.k : Int) / (x8.walks + 1)), .int .i64 (((g.k : Int) : Int).tmod (x8.walks + 1))]⟩)⟩, ⟨10, [], fun v_ bs_ => ∃ b26, v_ = .pointer (some ⟨b26, 0, none⟩) ∧ bs_ = [(b26, some (.cells ⟨[.int .i64 0, .int .i64 0]⟩ 64 (0, 0)))]⟩] (by kernel_rfl) (by kernel_rfl) fun K25 hK25 => ⟨⟨?_, ?_, ?_, ?_, ?_, ?_, ?_, ?_, ?_, ?_, ?_, ?_, ?_, ?_, ?_, ?_, ?_, ?_, ?_, ?_, ?_, ?_, ?_, ?_, trivial⟩, ?_⟩
       · rintro T_ B_ a_ w_ K_ hT hB hf hsD hk
         exact ob rfl rfl (st_move hsD (evT hT 0 rfl) rfl hf fun _ _ => hk _ _ _ _ ⟨rfl, rfl⟩)
       · rintro T_ B_ a_ w_ K_ hT hB hf hsD hk
         exact ob rfl rfl (st_field (o' := 0) hsD (evT hT 6 rfl) rfl hf runUnderlying75 rfl sizeOf27 rfl rfl fun _ _ => hk _ _ _ _ ⟨rfl, rfl⟩)
       · rintro T_ B_ a_ w_ K_ hT hB _ _ ⟨rfl, rfl⟩ h54 - hf hsD hk
         exact ob rfl rfl (st_field (o' := 22) hsD (Ev.tmp h54) rfl hf runUnderlying27 rfl sizeOf25 rfl rfl fun _ _ => hk _ _ _ _ ⟨rfl, rfl⟩)
       · rintro T_ B_ a_ w_ K_ hT hB _ _ ⟨rfl, rfl⟩ h55 - hf hsD hk
         exact ob rfl rfl (st_load1 (o := 0) (off := 22) (v := .slice A n cp) hsD (Ev.tmp h55) rfl hf isAgg25 (hsD.cellsM (inB hB 5 rfl)) rfl fun _ _ => hk _ _ _ _ ⟨rfl, rfl⟩)
       · rintro T_ B_ a_ w_ K_ hT hB hf hsD hk
         exact ob rfl rfl (st_field (o' := 0) hsD (evT hT 5 rfl) rfl hf runUnderlying116 rfl sizeOf3 rfl rfl fun _ _ => hk _ _ _ _ ⟨rfl, rfl⟩)
       · rintro T_ B_ a_ w_ K_ hT hB _ _ ⟨rfl, rfl⟩ h57 - hf hsD hk
         exact ob rfl rfl (st_load1 (o := 0) (off := 0) (v := .int .i64 (i : Int)) hsD (Ev.tmp h57) rfl hf isAgg3 (hsD.cellsM (inB hB 3 rfl)) rfl fun _ _ => hk _ _ _ _ ⟨rfl, rfl⟩)
       · rintro T_ B_ a_ w_ K_ hT hB _ _ ⟨rfl, rfl⟩ h56 - _ _ ⟨rfl, rfl⟩ h58 - hf hsD hk
         exact ob rfl rfl (st_indexM (o' := o9 + i * 4) hsD (Ev.tmp h56) (Ev.tmp h58) rfl hf hA9 runUnderlying25 sizeOf66 ⟨by omega, by have := hP.len; have := (List.getElem?_eq_some_iff.1 hx8).1; omega⟩ rfl fun _ _ => hk _ _ _ _ ⟨rfl, rfl⟩)
       · rintro T_ B_ a_ w_ K_ hT hB _ _ ⟨rfl, rfl⟩ h59 - hf hsD hk
         exact ob rfl rfl (st_field (o' := o9 + i * 4 + 3) hsD (Ev.tmp h59) rfl hf runUnderlying66 rfl sizeOf3 rfl rfl fun _ _ => hk _ _ _ _ ⟨rfl, rfl⟩)
       · rintro T_ B_ a_ w_ K_ hT hB _ _ ⟨rfl, rfl⟩ h60 - hf hsD hk
         exact ob rfl rfl (st_load1 (o := o9 + i * 4) (off := 3) (v := .int .i64 x8.walks) hsD (Ev.tmp h60) rfl hf isAgg3 (hc9.kp (Kp.via hkW hsD.kp hMW) (by simp)) rfl fun _ _ => hk _ _ _ _ ⟨rfl, rfl⟩)
       · rintro T_ B_ a_ w_ K_ hT hB _ _ ⟨rfl, rfl⟩ h61 - hf hsD hk
         exact ob rfl rfl (st_add (z := x8.walks + 1) hsD (Ev.tmp h61) (.const _) rfl hf rfl (by omega) fun _ _ => hk _ _ _ _ ⟨rfl, rfl⟩)
       · rintro T_ B_ a_ w_ K_ hT hB _ _ ⟨rfl, rfl⟩ h53 - _ _ ⟨rfl, rfl⟩ h62 - hf hsD hk
         exact ob rfl rfl (st_quo hsD (Ev.tmp h53) (Ev.tmp h62) rfl hf (by omega) fun _ _ => hk _ _ _ _ ⟨rfl, rfl⟩)
       · rintro T_ B_ a_ w_ K_ hT hB hf hsD hk
         exact ob rfl rfl (st_move hsD (evT hT 0 rfl) rfl hf fun _ _ => hk _ _ _ _ ⟨rfl, rfl⟩)
       · rintro T_ B_ a_ w_ K_ hT hB hf hsD hk
         exact ob rfl rfl (st_field (o' := 0) hsD (evT hT 6 rfl) rfl hf runUnderlying75 rfl sizeOf27 rfl rfl fun _ _ => hk _ _ _ _ ⟨rfl, rfl⟩)
       · rintro T_ B_ a_ w_ K_ hT hB _ _ ⟨rfl, rfl⟩ h65 - hf hsD hk
         exact ob rfl rfl (st_field (o' := 22) hsD (Ev.tmp h65) rfl hf runUnderlying27 rfl sizeOf25 rfl rfl fun _ _ => hk _ _ _ _ ⟨rfl, rfl⟩)
       · rintro T_ B_ a_ w_ K_ hT hB _ _ ⟨rfl, rfl⟩ h66 - hf hsD hk
         exact ob rfl rfl (st_load1 (o := 0) (off := 22) (v := .slice A n cp) hsD (Ev.tmp h66) rfl hf isAgg25 (hsD.cellsM (inB hB 5 rfl)) rfl fun _ _ => hk _ _ _ _ ⟨rfl, rfl⟩)
       · rintro T_ B_ a_ w_ K_ hT hB hf hsD hk
         exact ob rfl rfl (st_field (o' := 0) hsD (evT hT 5 rfl) rfl hf runUnderlying116 rfl sizeOf3 rfl rfl fun _ _ => hk _ _ _ _ ⟨rfl, rfl⟩)
       · rintro T_ B_ a_ w_ K_ hT hB _ _ ⟨rfl, rfl⟩ h68 - hf hsD hk
         exact ob rfl rfl (st_load1 (o := 0) (off := 0) (v := .int .i64 (i : Int)) hsD (Ev.tmp h68) rfl hf isAgg3 (hsD.cellsM (inB hB 3 rfl)) rfl fun _ _ => hk _ _ _ _ ⟨rfl, rfl⟩)
       · rintro T_ B_ a_ w_ K_ hT hB _ _ ⟨rfl, rfl⟩ h67 - _ _ ⟨rfl, rfl⟩ h69 - hf hsD hk
         exact ob rfl rfl (st_indexM (o' := o9 + i * 4) hsD (Ev.tmp h67) (Ev.tmp h69) rfl hf hA9 runUnderlying25 sizeOf66 ⟨by omega, by have := hP.len; have := (List.getElem?_eq_some_iff.1 hx8).1; omega⟩ rfl fun _ _ => hk _ _ _ _ ⟨rfl, rfl⟩)
       · rintro T_ B_ a_ w_ K_ hT hB _ _ ⟨rfl, rfl⟩ h70 - hf hsD hk
         exact ob rfl rfl (st_field (o' := o9 + i * 4 + 3) hsD (Ev.tmp h70) rfl hf runUnderlying66 rfl sizeOf3 rfl rfl fun _ _ => hk _ _ _ _ ⟨rfl, rfl⟩)
       · rintro T_ B_ a_ w_ K_ hT hB _ _ ⟨rfl, rfl⟩ h71 - hf hsD hk
         exact ob rfl rfl (st_load1 (o := o9 + i * 4) (off := 3) (v := .int .i64 x8.walks) hsD (Ev.tmp h71) rfl hf isAgg3 (hc9.kp (Kp.via hkW hsD.kp hMW) (by simp)) rfl fun _ _ => hk _ _ _ _ ⟨rfl, rfl⟩)
       · rintro T_ B_ a_ w_ K_ hT hB _ _ ⟨rfl, rfl⟩ h72 - hf hsD hk
         exact ob rfl rfl (st_add (z := x8.walks + 1) hsD (Ev.tmp h72) (.const _) rfl hf rfl (by omega) fun _ _ => hk _ _ _ _ ⟨rfl, rfl⟩)
       · rintro T_ B_ a_ w_ K_ hT hB _ _ ⟨rfl, rfl⟩ h64 - _ _ ⟨rfl, rfl⟩ h73 - hf hsD hk
         exact ob rfl rfl (st_rem hsD (Ev.tmp h64) (Ev.tmp h73) rfl hf (by omega) fun _ _ => hk _ _ _ _ ⟨rfl, rfl⟩)
       · rintro T_ B_ a_ w_ K_ hT hB _ _ ⟨rfl, rfl⟩ h63 - _ _ ⟨rfl, rfl⟩ h74 - hf hsD hk
         exact ob rfl rfl (st_build hsD (qs := [(0, .int .i64 ((g.k : Int) / (x8.walks + 1))), (1, .int .i64 (((g.k : Int) : Int).tmod (x8.walks + 1)))]) (v := .agg ⟨[.int .i64 ((g.k : Int) / (x8.walks + 1)), .int .i64 (((g.k : Int) : Int).tmod (x8.walks + 1))]⟩) ⟨(Ev.tmp h63), (Ev.tmp h74), trivial⟩ rfl hf rfl (fun _ => by kernel_rfl) fun _ _ => hk _ _ _ _ ⟨rfl, rfl⟩)
       · rintro T_ B_ a_ w_ K_ hT hB hf hsD hk
         exact ob rfl rfl (st_alloc hsD rfl hf zeroValue64 rfl fun b26 _ _ => hk _ _ _ _ ⟨b26, rfl, rfl⟩)
       rintro _ _ ⟨rfl, rfl⟩ _ _ ⟨rfl, rfl⟩ _ _ ⟨rfl, rfl⟩ _ _ ⟨rfl, rfl⟩ _ _ ⟨rfl, rfl⟩ _ _ ⟨rfl, rfl⟩ _ _ ⟨rfl, rfl⟩ _ _ ⟨rfl, rfl⟩ _ _ ⟨rfl, rfl⟩ _ _ ⟨rfl, rfl⟩ _ _ ⟨rfl, rfl⟩ _ _ ⟨rfl, rfl⟩ _ _ ⟨rfl, rfl⟩ _ _ ⟨rfl, rfl⟩ _ _ ⟨rfl, rfl⟩ _ _ ⟨rfl, rfl⟩ _ _ ⟨rfl, rfl⟩ _ _ ⟨rfl, rfl⟩ _ _ ⟨rfl, rfl⟩ _ _ ⟨rfl, rfl⟩ _ _ ⟨rfl, rfl⟩ _ _ ⟨rfl, rfl⟩ _ _ ⟨rfl, rfl⟩ _ _ ⟨b26, rfl, rfl⟩ a_41 w_41 hs41; clear hs40
       have hs42 := Sx.as (T' := [_, _, _, _, _, _, _, _, _, _, _, _, _, _, _, _, _, _, _, _, _, _, _, _, _, _, _, _, _, _, _, _, _]) (B' := _ :: _ :: _ :: _ :: _ :: _ :: _ :: _ :: _ :: _) rfl rfl hs41; clear hs41
       refine sq rfl (st_store (l' := [.int .i64 ((g.k : Int) / (x8.walks + 1)), .int .i64 (((g.k : Int) : Int).tmod (x8.walks + 1))]) (vs := [.int .i64 ((g.k : Int) / (x8.walks + 1)), .int .i64 (((g.k : Int) : Int).tmod (x8.walks + 1))]) (i := 0) hs42 (Ev.t 23 rfl) (Ev.t 22 rfl) sizeOf64 rfl rfl rfl rfl rfl rfl fun _ _ hs43 => ?_); clear hs42
       have hs44 := hs43.asB (_ :: _ :: _ :: _ :: _ :: _ :: _ :: _ :: _ :: _) rfl; clear hs43
       refine hK25 _ _ ?_; clear hK25
       have hs45 := hs44.keep [23, 25, 26, 27, 28, 29, 30, 31, 32] [_, _, _, _, _, _, _, _, _] rfl; clear hs44
       have hs46 : Sx 142 [] [(10, .pointer (some ⟨b26, 0, none⟩)), (49, .int .i64 ((x8.walks + 1) * (x8.walks + 1))), (50, .int .i64 (g.k : Int)), (8, .pointer (some ⟨b16, 0, none⟩)), (5, .pointer (some ⟨b3, 0, none⟩)), (4, .pointer (some ⟨b2, 0, none⟩)), (1, .pointer (some ⟨t1, 0, none⟩)), (2, .pointer (some ⟨t2, 0, none⟩)), (3, .pointer (some ⟨t3, 0, none⟩))] ((b26, some (.cells ⟨(walksL (pairOf x8.walks g.k))⟩ 64 (0, 0))) :: (b16, some (.cells ⟨[.slice g.A g.n g.c, .int .i64 g.t]⟩ 89 (0, 0))) :: (b12, some (.cells ⟨[.slice none 0 0, .int .i64 0]⟩ 89 (0, 0))) :: (b3, some (.cells ⟨[.slice none 0 0, .int .i64 0]⟩ 89 (0, 0))) :: (b2, some (.cells ⟨[.int .i64 (i : Int), .int .i64 c, .int .i64 v]⟩ 116 (0, 0))) :: (m, some (.map g.es g.clk)) :: (t1, some (.cells ⟨(bookL b A n cp)⟩ 75 (0, 0))) :: (t2, some (.cells ⟨[.map (some m)]⟩ 113 (0, 0))) :: (t3, some (.cells ⟨[.func (.func 78) ⟨[]⟩ ⟨[.pointer (some ⟨t1, 0, none⟩), .pointer (some ⟨t2, 0, none⟩), .pointer (some ⟨t3, 0, none⟩)]⟩]⟩ 114 (0, 0))) :: g.G) Mg w _ _ := hs45; clear hs45
       rw [hye] at hs46
       have hs47 : Sx 142 [] [(10, .pointer (some ⟨b26, 0, none⟩)), (49, .int .i64 ((x8.walks + 1) * (x8.walks + 1))), (50, .int .i64 (g.k : Int)), (8, .pointer (some ⟨b16, 0, none⟩)), (5, .pointer (some ⟨b3, 0, none⟩)), (4, .pointer (some ⟨b2, 0, none⟩)), (1, .pointer (some ⟨t1, 0, none⟩)), (2, .pointer (some ⟨t2, 0, none⟩)), (3, .pointer (some ⟨t3, 0, none⟩))] ((b26, some (.cells ⟨(walksL y)⟩ 64 (0, 0))) :: (b16, some (.cells ⟨[.slice g.A g.n g.c, .int .i64 g.t]⟩ 89 (0, 0))) :: (b12, some (.cells ⟨[.slice none 0 0, .int .i64 0]⟩ 89 (0, 0))) :: (b3, some (.cells ⟨[.slice none 0 0, .int .i64 0]⟩ 89 (0, 0))) :: (b2, some (.cells ⟨[.int .i64 (i : Int), .int .i64 c, .int .i64 v]⟩ 116 (0, 0))) :: (m, some (.map g.es g.clk)) :: (t1, some (.cells ⟨(bookL b A n cp)⟩ 75 (0, 0))) :: (t2, some (.cells ⟨[.map (some m)]⟩ 113 (0, 0))) :: (t3, some (.cells ⟨[.func (.func 78) ⟨[]⟩ ⟨[.pointer (some ⟨t1, 0, none⟩), .pointer (some ⟨t2, 0, none⟩), .pointer (some ⟨t3, 0, none⟩)]⟩]⟩ 114 (0, 0))) :: g.G) Mg w _ _ := hs46; clear hs46
       refine cd_seq fun K27 hK27 => ?_
       refine cd_drawn mixed hs47 [⟨76, [], Is (.pointer (some ⟨b26, 0, none⟩))⟩, ⟨77, [0], Is (.int .i64 y.c)⟩, ⟨78, [], Is (.pointer (some ⟨b26, 1, none⟩))⟩, ⟨79, [2], Is (.int .i64 y.w)⟩, ⟨80, [1, 3], Is (.int .i64 (y.c + y.w))⟩, ⟨81, [], Is (.pointer (some ⟨t1, 0, none⟩))⟩, ⟨82, [5], Is (.pointer (some ⟨t1, 22, none⟩))⟩, ⟨83, [6], Is (.slice A n cp)⟩, ⟨84, [], Is (.pointer (some ⟨b2, 0, none⟩))⟩, ⟨85, [8], Is (.int .i64 (i : Int))⟩, ⟨86, [7, 9], Is (.pointer (some ⟨b9, o9 + i * 4, none⟩))⟩, ⟨87, [10], Is (.pointer (some ⟨b9, o9 + i * 4 + 3, none⟩))⟩, ⟨88, [11], Is (.int .i64 x8.walks)⟩, ⟨89, [4, 12], Is (.bool (decide ((y.c + y.w : Int) > x8.walks)))⟩] (by kernel_rfl) (by kernel_rfl) fun K28 hK28 => ⟨⟨?_, ?_, ?_, ?_, ?_, ?_, ?_, ?_, ?_, ?_, ?_, ?_, ?_, ?_, trivial⟩, ?_⟩
       · rintro T_ B_ a_ w_ K_ hT hB hf hsD hk
         exact ob rfl rfl (st_field (o' := 0) hsD (evT hT 0 rfl) rfl hf runUnderlying64 rfl sizeOf3 rfl rfl fun _ _ => hk _ _ _ _ ⟨rfl, rfl⟩)
       · rintro T_ B_ a_ w_ K_ hT hB _ _ ⟨rfl, rfl⟩ h76 - hf hsD hk
         exact ob rfl rfl (st_load1 (o := 0) (off := 0) (v := .int .i64 y.c) hsD (Ev.tmp h76) rfl hf isAgg3 (hsD.cellsM (inB hB 0 rfl)) rfl fun _ _ => hk _ _ _ _ ⟨rfl, rfl⟩)
       · rintro T_ B_ a_ w_ K_ hT hB hf hsD hk
         exact ob rfl rfl (st_field (o' := 1) hsD (evT hT 0 rfl) rfl hf runUnderlying64 rfl sizeOf3 rfl rfl fun _ _ => hk _ _ _ _ ⟨rfl, rfl⟩)
       · rintro T_ B_ a_ w_ K_ hT hB _ _ ⟨rfl, rfl⟩ h78 - hf hsD hk
         exact ob rfl rfl (st_load1 (o := 0) (off := 1) (v := .int .i64 y.w) hsD (Ev.tmp h78) rfl hf isAgg3 (hsD.cellsM (inB hB 0 rfl)) rfl fun _ _ => hk _ _ _ _ ⟨rfl, rfl⟩)
       · rintro T_ B_ a_ w_ K_ hT hB _ _ ⟨rfl, rfl⟩ h77 - _ _ ⟨rfl, rfl⟩ h79 - hf hsD hk
         exact ob rfl rfl (st_add (z := y.c + y.w) hsD (Ev.tmp h77) (Ev.tmp h79) rfl hf rfl (by omega) fun _ _ => hk _ _ _ _ ⟨rfl, rfl⟩)
       · rintro T_ B_ a_ w_ K_ hT hB hf hsD hk
         exact ob rfl rfl (st_field (o' := 0) hsD (evT hT 6 rfl) rfl hf runUnderlying75 rfl sizeOf27 rfl rfl fun _ _ => hk _ _ _ _ ⟨rfl, rfl⟩)
       · rintro T_ B_ a_ w_ K_ hT hB _ _ ⟨rfl, rfl⟩ h81 - hf hsD hk
         exact ob rfl rfl (st_field (o' := 22) hsD (Ev.tmp h81) rfl hf runUnderlying27 rfl sizeOf25 rfl rfl fun _ _ => hk _ _ _ _ ⟨rfl, rfl⟩)
       · rintro T_ B_ a_ w_ K_ hT hB _ _ ⟨rfl, rfl⟩ h82 - hf hsD hk
         exact ob rfl rfl (st_load1 (o := 0) (off := 22) (v := .slice A n cp) hsD (Ev.tmp h82) rfl hf isAgg25 (hsD.cellsM (inB hB 6 rfl)) rfl fun _ _ => hk _ _ _ _ ⟨rfl, rfl⟩)
       · rintro T_ B_ a_ w_ K_ hT hB hf hsD hk
         exact ob rfl rfl (st_field (o' := 0) hsD (evT hT 5 rfl) rfl hf runUnderlying116 rfl sizeOf3 rfl rfl fun _ _ => hk _ _ _ _ ⟨rfl, rfl⟩)
       · rintro T_ B_ a_ w_ K_ hT hB _ _ ⟨rfl, rfl⟩ h84 - hf hsD hk
         exact ob rfl rfl (st_load1 (o := 0) (off := 0) (v := .int .i64 (i : Int)) hsD (Ev.tmp h84) rfl hf isAgg3 (hsD.cellsM (inB hB 4 rfl)) rfl fun _ _ => hk _ _ _ _ ⟨rfl, rfl⟩)
       · rintro T_ B_ a_ w_ K_ hT hB _ _ ⟨rfl, rfl⟩ h83 - _ _ ⟨rfl, rfl⟩ h85 - hf hsD hk
         exact ob rfl rfl (st_indexM (o' := o9 + i * 4) hsD (Ev.tmp h83) (Ev.tmp h85) rfl hf hA9 runUnderlying25 sizeOf66 ⟨by omega, by have := hP.len; have := (List.getElem?_eq_some_iff.1 hx8).1; omega⟩ rfl fun _ _ => hk _ _ _ _ ⟨rfl, rfl⟩)
       · rintro T_ B_ a_ w_ K_ hT hB _ _ ⟨rfl, rfl⟩ h86 - hf hsD hk
         exact ob rfl rfl (st_field (o' := o9 + i * 4 + 3) hsD (Ev.tmp h86) rfl hf runUnderlying66 rfl sizeOf3 rfl rfl fun _ _ => hk _ _ _ _ ⟨rfl, rfl⟩)
       · rintro T_ B_ a_ w_ K_ hT hB _ _ ⟨rfl, rfl⟩ h87 - hf hsD hk
         exact ob rfl rfl (st_load1 (o := o9 + i * 4) (off := 3) (v := .int .i64 x8.walks) hsD (Ev.tmp h87) rfl hf isAgg3 (hc9.kp (Kp.via hkW hsD.kp hMW) (by simp)) rfl fun _ _ => hk _ _ _ _ ⟨rfl, rfl⟩)
       · rintro T_ B_ a_ w_ K_ hT hB _ _ ⟨rfl, rfl⟩ h80 - _ _ ⟨rfl, rfl⟩ h88 - hf hsD hk
         exact ob rfl rfl (st_cmp (c := decide ((y.c + y.w : Int) > x8.walks)) hsD (Ev.tmp h80) (Ev.tmp h88) rfl hf rfl rfl fun _ _ => hk _ _ _ _ ⟨rfl, rfl⟩)
       rintro _ _ ⟨rfl, rfl⟩ _ _ ⟨rfl, rfl⟩ _ _ ⟨rfl, rfl⟩ _ _ ⟨rfl, rfl⟩ _ _ ⟨rfl, rfl⟩ _ _ ⟨rfl, rfl⟩ _ _ ⟨rfl, rfl⟩ _ _ ⟨rfl, rfl⟩ _ _ ⟨rfl, rfl⟩ _ _ ⟨rfl, rfl⟩ _ _ ⟨rfl, rfl⟩ _ _ ⟨rfl, rfl⟩ _ _ ⟨rfl, rfl⟩ _ _ ⟨rfl, rfl⟩ a_48 w_48 hs48; clear hs47
       have hs49 := Sx.as (T' := [_, _, _, _, _, _, _, _, _, _, _, _, _, _, _, _, _, _, _, _, _, _, _]) (B' := _ :: _ :: _ :: _ :: _ :: _ :: _ :: _ :: _ :: _) rfl rfl hs48; clear hs48
       refine hK28 _ _ ?_; clear hK28
       have hs50 := hs49.keep [13, 14, 15, 16, 17, 18, 19, 20, 21, 22] [_, _, _, _, _, _, _, _, _, _] rfl; clear hs49
       refine cd_cond hs50 (Ev.t 0 rfl) (fun hc29 => ?_) (fun hc29 => ?_)
       · simp only [decide_eq_true_eq] at hc29
         have hkeep := try1_wide (b := b) (rest := b.best (b.parts.drop (i + 1))) (c := c) (v := v) (acc := b.bestN x8 (b.best (b.parts.drop (i + 1))) c v g.k) (y := y) hc29
         refine cd_exit ?_
         refine th_exit ?_
         refine in_hit ?_
         refine th_norm (hK23 _ _ ?_)
         refine cd_region1 ?_
         refine sq rfl (st_add (z := (g.k : Int) + 1) hs50 (Ev.t 3 rfl) (.const _) rfl rfl rfl (by omega) fun _ _ hs51 => ?_); clear hs50
         have hs52 := hs51.keep [0, 1, 2, 3, 5, 6, 7, 8, 9, 10] [_, _, _, _, _, _, _, _, _, _] rfl; clear hs51
         refine sq rfl (st_move hs52 (Ev.t 0 rfl) rfl rfl fun _ _ hs53 => ?_); clear hs52
         refine wpListIn_nil ?_
         have hs54 := hs53.keep [0, 4, 5, 6, 7, 8, 9, 10] [_, _, _, _, _, _, _, _] rfl; clear hs53
         refine ⟨(PG.mk (g.k + 1) g.A g.n g.c g.t g.es g.clk g.G), ⟨?_, ?_, ?_, ?_, ?_, ?_, ?_⟩, by (show rounds x8 - (g.k + 1) < rounds x8 - g.k; omega)⟩
         · exact hkr
         · show Bst (b.bestN _ _ c v (g.k + 1)) _ _ _ _ _
           rw [hsucc, hkeep]
           exact hbst
         · exact hGs
         · exact hGlo
         · exact hE
         · exact hsub
         have hs55 : Sx 142 [] [(50, .int .i64 ((g.k : Int) + 1)), (49, .int .i64 ((x8.walks + 1) * (x8.walks + 1))), (8, .pointer (some ⟨b16, 0, none⟩)), (5, .pointer (some ⟨b3, 0, none⟩)), (4, .pointer (some ⟨b2, 0, none⟩)), (1, .pointer (some ⟨t1, 0, none⟩)), (2, .pointer (some ⟨t2, 0, none⟩)), (3, .pointer (some ⟨t3, 0, none⟩))] ((b16, some (.cells ⟨[.slice g.A g.n g.c, .int .i64 g.t]⟩ 89 (0, 0))) :: (b12, some (.cells ⟨[.slice none 0 0, .int .i64 0]⟩ 89 (0, 0))) :: (b3, some (.cells ⟨[.slice none 0 0, .int .i64 0]⟩ 89 (0, 0))) :: (b2, some (.cells ⟨[.int .i64 (i : Int), .int .i64 c, .int .i64 v]⟩ 116 (0, 0))) :: (m, some (.map g.es g.clk)) :: (t1, some (.cells ⟨(bookL b A n cp)⟩ 75 (0, 0))) :: (t2, some (.cells ⟨[.map (some m)]⟩ 113 (0, 0))) :: (t3, some (.cells ⟨[.func (.func 78) ⟨[]⟩ ⟨[.pointer (some ⟨t1, 0, none⟩), .pointer (some ⟨t2, 0, none⟩), .pointer (some ⟨t3, 0, none⟩)]⟩]⟩ 114 (0, 0))) :: g.G) Mg w _ _ := Sx.blks hs54 ((List.Sublist.cons _ (List.Sublist.cons_cons _ (List.Sublist.cons_cons _ (List.Sublist.cons_cons _ (List.Sublist.cons_cons _ (List.Sublist.cons_cons _ (List.Sublist.cons_cons _ (List.Sublist.cons_cons _ (List.Sublist.cons_cons _ (List.Sublist.refl _)))))))))))
         exact Sx.keepE [1, 0, 2, 3, 4, 5, 6, 7] _ ⟨⟨_, rfl, rfl⟩, ⟨_, rfl, rfl⟩, ⟨_, rfl, rfl⟩, ⟨_, rfl, rfl⟩, ⟨_, rfl, rfl⟩, ⟨_, rfl, rfl⟩, ⟨_, rfl, rfl⟩, ⟨_, rfl, rfl⟩, trivial⟩ hs55
       · have hc89 := hc29
         refine cd_skip ?_
         refine th_norm (hK27 _ _ ?_)
         refine cd_drawn mixed hs50 [⟨90, [], Is (.agg ⟨(bookL b A n cp)⟩)⟩, ⟨91, [], Is (.pointer (some ⟨b2, 0, none⟩))⟩, ⟨92, [1], Is (.int .i64 (i : Int))⟩, ⟨93, [], Is (.pointer (some ⟨b2, 1, none⟩))⟩, ⟨94, [3], Is (.agg ⟨[.int .i64 c, .int .i64 v]⟩)⟩, ⟨95, [], Is (.agg ⟨(walksL y)⟩)⟩, ⟨96, [], Is (.agg ⟨[.func (.func 81) ⟨[]⟩ ⟨[]⟩]⟩)⟩, ⟨97, [0, 2, 4, 5, 6], Is (.agg ⟨[.int .i64 (b.afterC false x8 y.c c), .int .i64 (b.afterW false x8 y.w v)]⟩)⟩, ⟨11, [], fun v_ bs_ => ∃ b31, v_ = .pointer (some ⟨b31, 0, none⟩) ∧ bs_ = [(b31, some (.cells ⟨[.int .i64 0, .int .i64 0]⟩ 103 (0, 0)))]⟩] (by kernel_rfl) (by kernel_rfl) fun K30 hK30 => ⟨⟨?_, ?_, ?_, ?_, ?_, ?_, ?_, ?_, ?_, trivial⟩, ?_⟩
         · rintro T_ B_ a_ w_ K_ hT hB hf hsD hk
           exact ob rfl rfl (st_loadA (o := 0) (off := 0) (vs := (bookL b A n cp)) hsD (evT hT 7 rfl) rfl hf isAgg75 sizeOf75 (hsD.cellsM (inB hB 6 rfl)) rfl fun _ _ => hk _ _ _ _ ⟨rfl, rfl⟩)
         · rintro T_ B_ a_ w_ K_ hT hB hf hsD hk
           exact ob rfl rfl (st_field (o' := 0) hsD (evT hT 6 rfl) rfl hf runUnderlying116 rfl sizeOf3 rfl rfl fun _ _ => hk _ _ _ _ ⟨rfl, rfl⟩)
         · rintro T_ B_ a_ w_ K_ hT hB _ _ ⟨rfl, rfl⟩ h91 - hf hsD hk
           exact ob rfl rfl (st_load1 (o := 0) (off := 0) (v := .int .i64 (i : Int)) hsD (Ev.tmp h91) rfl hf isAgg3 (hsD.cellsM (inB hB 4 rfl)) rfl fun _ _ => hk _ _ _ _ ⟨rfl, rfl⟩)
         · rintro T_ B_ a_ w_ K_ hT hB hf hsD hk
           exact ob rfl rfl (st_field (o' := 1) hsD (evT hT 6 rfl) rfl hf runUnderlying116 rfl sizeOf103 rfl rfl fun _ _ => hk _ _ _ _ ⟨rfl, rfl⟩)
         · rintro T_ B_ a_ w_ K_ hT hB _ _ ⟨rfl, rfl⟩ h93 - hf hsD hk
           exact ob rfl rfl (st_loadA (o := 0) (off := 1) (vs := [.int .i64 c, .int .i64 v]) hsD (Ev.tmp h93) rfl hf isAgg103 sizeOf103 (hsD.cellsM (inB hB 4 rfl)) rfl fun _ _ => hk _ _ _ _ ⟨rfl, rfl⟩)
         · rintro T_ B_ a_ w_ K_ hT hB hf hsD hk
           exact ob rfl rfl (st_loadA (o := 0) (off := 0) (vs := (walksL y)) hsD (evT hT 1 rfl) rfl hf isAgg64 sizeOf64 (hsD.cellsM (inB hB 0 rfl)) rfl fun _ _ => hk _ _ _ _ ⟨rfl, rfl⟩)
         · rintro T_ B_ a_ w_ K_ hT hB hf hsD hk
           exact ob rfl rfl (st_callv (vs := []) hsD (.func _) trivial rfl hf call72 rfl (low_v  _) fun _ _ => hk _ _ _ _ ⟨rfl, rfl⟩)
         · rintro T_ B_ a_ w_ K_ hT hB _ _ ⟨rfl, rfl⟩ h90 - _ _ ⟨rfl, rfl⟩ h92 - _ _ ⟨rfl, rfl⟩ h94 - _ _ ⟨rfl, rfl⟩ h95 - _ _ ⟨rfl, rfl⟩ h96 - hf hsD hk
           exact ob rfl rfl (st_callv (vs := [.agg ⟨(bookL b A n cp)⟩, .int .i64 (i : Int), .agg ⟨[.int .i64 c, .int .i64 v]⟩, .agg ⟨(walksL y)⟩, .agg ⟨[.func (.func 81) ⟨[]⟩ ⟨[]⟩]⟩]) hsD (.func _) ⟨(Ev.tmp h90), (Ev.tmp h92), (Ev.tmp h94), (Ev.tmp h95), (Ev.tmp h96), trivial⟩ rfl hf call74 rfl (after0_v b A n cp i x8 hx8 y c v _ (hP.kp (Kp.via hkW hsD.kp hMW)) hn (hG.kp (Kp.via hkW hsD.kp hMW) (by simp)) hb hwy (by omega)) fun _ _ => hk _ _ _ _ ⟨rfl, rfl⟩)
         · rintro T_ B_ a_ w_ K_ hT hB hf hsD hk
           exact ob rfl rfl (st_alloc hsD rfl hf zeroValue103 rfl fun b31 _ _ => hk _ _ _ _ ⟨b31, rfl, rfl⟩)
         rintro _ _ ⟨rfl, rfl⟩ _ _ ⟨rfl, rfl⟩ _ _ ⟨rfl, rfl⟩ _ _ ⟨rfl, rfl⟩ _ _ ⟨rfl, rfl⟩ _ _ ⟨rfl, rfl⟩ _ _ ⟨rfl, rfl⟩ _ _ ⟨rfl, rfl⟩ _ _ ⟨b31, rfl, rfl⟩ a_51 w_51 hs51; clear hs50
         have hs52 := Sx.as (T' := [_, _, _, _, _, _, _, _, _, _, _, _, _, _, _, _, _, _, _]) (B' := _ :: _ :: _ :: _ :: _ :: _ :: _ :: _ :: _ :: _ :: _) rfl rfl hs51; clear hs51
         refine sq rfl (st_store (l' := [.int .i64 (b.afterC false x8 y.c c), .int .i64 (b.afterW false x8 y.w v)]) (vs := [.int .i64 (b.afterC false x8 y.c c), .int .i64 (b.afterW false x8 y.w v)]) (i := 0) hs52 (Ev.t 8 rfl) (Ev.t 7 rfl) sizeOf103 rfl rfl rfl rfl rfl rfl fun _ _ hs53 => ?_); clear hs52
         have hs54 := hs53.asB (_ :: _ :: _ :: _ :: _ :: _ :: _ :: _ :: _ :: _ :: _) rfl; clear hs53
         refine hK30 _ _ ?_; clear hK30
         have hs55 := hs54.keep [8, 10, 11, 12, 13, 14, 15, 16, 17, 18] [_, _, _, _, _, _, _, _, _, _] rfl; clear hs54
         refine cd_seq fun K32 hK32 => ?_
         refine cd_region fun K33 hK33 => ?_
         refine sq rfl (st_loadA (o := 0) (off := 0) (vs := (bookL b A n cp)) hs55 (Ev.t 7 rfl) rfl rfl isAgg75 sizeOf75 (hs55.cells 7 rfl) rfl fun _ _ hs56 => ?_); clear hs55
         refine sq rfl (st_field (o' := 0) hs56 (Ev.t 7 rfl) rfl rfl runUnderlying116 rfl sizeOf3 rfl rfl fun _ _ hs57 => ?_); clear hs56
         refine sq rfl (st_load1 (o := 0) (off := 0) (v := .int .i64 (i : Int)) hs57 (Ev.t 0 rfl) rfl rfl isAgg3 (hs57.cells 5 rfl) rfl fun _ _ hs58 => ?_); clear hs57
         refine sq rfl (st_loadA (o := 0) (off := 0) (vs := [.int .i64 (b.afterC false x8 y.c c), .int .i64 (b.afterW false x8 y.w v)]) hs58 (Ev.t 3 rfl) rfl rfl isAgg103 sizeOf103 (hs58.cells 0 rfl) rfl fun _ _ hs59 => ?_); clear hs58
         refine sq rfl (st_callv (vs := [.agg ⟨(bookL b A n cp)⟩, .int .i64 (i : Int), .agg ⟨[.int .i64 (b.afterC false x8 y.c c), .int .i64 (b.afterW false x8 y.w v)]⟩]) hs59 (.func _) ⟨(Ev.t 3 rfl), (Ev.t 1 rfl), (Ev.t 0 rfl), trivial⟩ rfl rfl call77 rfl (may_v b A n cp i x8 hx8 (b.afterC false x8 y.c c) (b.afterW false x8 y.w v) _ (hP.kp (Kp.via hkW hs59.kp hMW)) hn) fun _ _ hs60 => ?_); clear hs59
         refine hK33 _ _ ?_; clear hK33
         have hs61 := hs60.keep [0, 5, 6, 7, 8, 9, 10, 11, 12, 13, 14] [_, _, _, _, _, _, _, _, _, _, _] rfl; clear hs60
         refine cd_cond hs61 (Ev.t 0 rfl) (fun hc34 => ?_) (fun hc34 => ?_)
         · have hkeep := try1_may (rest := b.best (b.parts.drop (i + 1))) (acc := b.bestN x8 (b.best (b.parts.drop (i + 1))) c v g.k) (y := y) hc34
           refine cd_exit ?_
           refine th_exit ?_
           refine in_hit ?_
           refine th_norm (hK23 _ _ ?_)
           refine cd_region1 ?_
           refine sq rfl (st_add (z := (g.k : Int) + 1) hs61 (Ev.t 4 rfl) (.const _) rfl rfl rfl (by omega) fun _ _ hs62 => ?_); clear hs61
           have hs63 := hs62.keep [0, 1, 2, 3, 4, 6, 7, 8, 9, 10, 11] [_, _, _, _, _, _, _, _, _, _, _] rfl; clear hs62
           refine sq rfl (st_move hs63 (Ev.t 0 rfl) rfl rfl fun _ _ hs64 => ?_); clear hs63
           refine wpListIn_nil ?_
           have hs65 := hs64.keep [0, 5, 6, 7, 8, 9, 10, 11] [_, _, _, _, _, _, _, _] rfl; clear hs64
           refine ⟨(PG.mk (g.k + 1) g.A g.n g.c g.t g.es g.clk g.G), ⟨?_, ?_, ?_, ?_, ?_, ?_, ?_⟩, by (show rounds x8 - (g.k + 1) < rounds x8 - g.k; omega)⟩
           · exact hkr
           · show Bst (b.bestN _ _ c v (g.k + 1)) _ _ _ _ _
             rw [hsucc, hkeep]
             exact hbst
           · exact hGs
           · exact hGlo
           · exact hE
           · exact hsub
           have hs66 : Sx 142 [] [(50, .int .i64 ((g.k : Int) + 1)), (49, .int .i64 ((x8.walks + 1) * (x8.walks + 1))), (8, .pointer (some ⟨b16, 0, none⟩)), (5, .pointer (some ⟨b3, 0, none⟩)), (4, .pointer (some ⟨b2, 0, none⟩)), (1, .pointer (some ⟨t1, 0, none⟩)), (2, .pointer (some ⟨t2, 0, none⟩)), (3, .pointer (some ⟨t3, 0, none⟩))] ((b16, some (.cells ⟨[.slice g.A g.n g.c, .int .i64 g.t]⟩ 89 (0, 0))) :: (b12, some (.cells ⟨[.slice none 0 0, .int .i64 0]⟩ 89 (0, 0))) :: (b3, some (.cells ⟨[.slice none 0 0, .int .i64 0]⟩ 89 (0, 0))) :: (b2, some (.cells ⟨[.int .i64 (i : Int), .int .i64 c, .int .i64 v]⟩ 116 (0, 0))) :: (m, some (.map g.es g.clk)) :: (t1, some (.cells ⟨(bookL b A n cp)⟩ 75 (0, 0))) :: (t2, some (.cells ⟨[.map (some m)]⟩ 113 (0, 0))) :: (t3, some (.cells ⟨[.func (.func 78) ⟨[]⟩ ⟨[.pointer (some ⟨t1, 0, none⟩), .pointer (some ⟨t2, 0, none⟩), .pointer (some ⟨t3, 0, none⟩)]⟩]⟩ 114 (0, 0))) :: g.G) Mg w _ _ := Sx.blks hs65 ((List.Sublist.cons _ (List.Sublist.cons _ (List.Sublist.cons_cons _ (List.Sublist.cons_cons _ (List.Sublist.cons_cons _ (List.Sublist.cons_cons _ (List.Sublist.cons_cons _ (List.Sublist.cons_cons _ (List.Sublist.cons_cons _ (List.Sublist.cons_cons _ (List.Sublist.refl _))))))))))))
           exact Sx.keepE [1, 0, 2, 3, 4, 5, 6, 7] _ ⟨⟨_, rfl, rfl⟩, ⟨_, rfl, rfl⟩, ⟨_, rfl, rfl⟩, ⟨_, rfl, rfl⟩, ⟨_, rfl, rfl⟩, ⟨_, rfl, rfl⟩, ⟨_, rfl, rfl⟩, ⟨_, rfl, rfl⟩, trivial⟩ hs66
         · have hc102 := hc34
           refine cd_skip ?_
           refine th_norm (hK32 _ _ ?_)
           refine cd_region fun K35 hK35 => ?_
           refine sq rfl (st_load1 (o := 0) (off := 0) (v := .func (.func 78) ⟨[]⟩ ⟨[.pointer (some ⟨t1, 0, none⟩), .pointer (some ⟨t2, 0, none⟩), .pointer (some ⟨t3, 0, none⟩)]⟩) hs61 (Ev.t 10 rfl) rfl rfl isAgg114 (hs61.cells 9 rfl) rfl fun _ _ hs62 => ?_); clear hs61
           refine sq rfl (st_field (o' := 0) hs62 (Ev.t 8 rfl) rfl rfl runUnderlying116 rfl sizeOf3 rfl rfl fun _ _ hs63 => ?_); clear hs62
           refine sq rfl (st_load1 (o := 0) (off := 0) (v := .int .i64 (i : Int)) hs63 (Ev.t 0 rfl) rfl rfl isAgg3 (hs63.cells 5 rfl) rfl fun _ _ hs64 => ?_); clear hs63
           refine sq rfl (st_add (z := (i : Int) + 1) hs64 (Ev.t 0 rfl) (.const _) rfl rfl rfl (by omega) fun _ _ hs65 => ?_); clear hs64
           have hs66 := Sx.keepE [0, 1, 2, 3, 4, 5, 6, 7, 8, 9, 10, 11, 12, 13, 14] [(106, .int .i64 ((i + 1 : Nat) : Int)), (105, _), (104, _), (103, _), (102, _), (11, _), (10, _), (49, _), (50, _), (8, _), (5, _), (4, _), (1, _), (2, _), (3, _)] ⟨⟨_, rfl, (by simp)⟩, ⟨_, rfl, rfl⟩, ⟨_, rfl, rfl⟩, ⟨_, rfl, rfl⟩, ⟨_, rfl, rfl⟩, ⟨_, rfl, rfl⟩, ⟨_, rfl, rfl⟩, ⟨_, rfl, rfl⟩, ⟨_, rfl, rfl⟩, ⟨_, rfl, rfl⟩, ⟨_, rfl, rfl⟩, ⟨_, rfl, rfl⟩, ⟨_, rfl, rfl⟩, ⟨_, rfl, rfl⟩, ⟨_, rfl, rfl⟩, trivial⟩ hs65; clear hs65
           refine sq rfl (st_loadA (o := 0) (off := 0) (vs := [.int .i64 (b.afterC false x8 y.c c), .int .i64 (b.afterW false x8 y.w v)]) hs66 (Ev.t 5 rfl) rfl rfl isAgg103 sizeOf103 (hs66.cells 0 rfl) rfl fun _ _ hs67 => ?_); clear hs66
           refine sq rfl (st_build hs67 (qs := [(0, .int .i64 ((i + 1 : Nat) : Int)), (1, .agg ⟨[.int .i64 (b.afterC false x8 y.c c), .int .i64 (b.afterW false x8 y.w v)]⟩)]) (v := .agg ⟨[.int .i64 ((i + 1 : Nat) : Int), .int .i64 (b.afterC false x8 y.c c), .int .i64 (b.afterW false x8 y.w v)]⟩) ⟨(Ev.t 1 rfl), (Ev.t 0 rfl), trivial⟩ rfl rfl rfl (fun _ => by kernel_rfl) fun _ _ hs68 => ?_); clear hs67
           have hloC : ∀ p ∈ planC b A n cp m t1 t2 t3 g.es g.clk g.G, W.heap.size ≤ p.1 := by
             intro p hp; simp only [planC, List.mem_cons] at hp; rcases hp with rfl | rfl | rfl | rfl | hp; exact hlm; exact hlt1; exact hlt2; exact hlt3; exact hGlo p hp
           refine sq rfl (st_callG (B1 := [(b31, some (.cells ⟨[.int .i64 (b.afterC false x8 y.c c), .int .i64 (b.afterW false x8 y.w v)]⟩ 103 (0, 0))), (b26, some (.cells ⟨(walksL y)⟩ 64 (0, 0))), (b16, some (.cells ⟨[.slice g.A g.n g.c, .int .i64 g.t]⟩ 89 (0, 0))), (b12, some (.cells ⟨[.slice none 0 0, .int .i64 0]⟩ 89 (0, 0))), (b3, some (.cells ⟨[.slice none 0 0, .int .i64 0]⟩ 89 (0, 0))), (b2, some (.cells ⟨[.int .i64 (i : Int), .int .i64 c, .int .i64 v]⟩ 116 (0, 0)))]) (C := planC b A n cp m t1 t2 t3 g.es g.clk g.G) (vs := [.agg ⟨[.int .i64 ((i + 1 : Nat) : Int), .int .i64 (b.afterC false x8 y.c c), .int .i64 (b.afterW false x8 y.w v)]⟩]) hs68 (Ev.t 5 rfl) ⟨(Ev.t 0 rfl), trivial⟩ rfl rfl call78 rfl (planC_some hGs) (ih (b.afterC false x8 y.c c) (b.afterW false x8 y.w v) g.es g.clk g.G _ (by omega) (Kp.via hkW hs68.kp hMW) hloC hGs hE) (fun v_ B_ a_69 w_69 hp9 hso9 hs69 => ?_)); clear hs68
           obtain ⟨es2, clk2, G2, rfl, hsub2, hGs2, hGlo2, hE2, A9, n9, c9, t9, rfl, hB9⟩ := hp9
           have hs70 : Sx 142 [] [(109, .agg ⟨[.slice A9 n9 c9, .int .i64 t9]⟩), (108, .agg ⟨[.int .i64 ((i + 1 : Nat) : Int), .int .i64 (b.afterC false x8 y.c c), .int .i64 (b.afterW false x8 y.w v)]⟩), (107, .agg ⟨[.int .i64 (b.afterC false x8 y.c c), .int .i64 (b.afterW false x8 y.w v)]⟩), (106, .int .i64 ((i + 1 : Nat) : Int)), (105, .int .i64 (i : Int)), (104, .pointer (some ⟨b2, 0, none⟩)), (103, .func (.func 78) ⟨[]⟩ ⟨[.pointer (some ⟨t1, 0, none⟩), .pointer (some ⟨t2, 0, none⟩), .pointer (some ⟨t3, 0, none⟩)]⟩), (102, .bool (b.may x8 (b.afterC false x8 y.c c) (b.afterW false x8 y.w v))), (11, .pointer (some ⟨b31, 0, none⟩)), (10, .pointer (some ⟨b26, 0, none⟩)), (49, .int .i64 ((x8.walks + 1) * (x8.walks + 1))), (50, .int .i64 (g.k : Int)), (8, .pointer (some ⟨b16, 0, none⟩)), (5, .pointer (some ⟨b3, 0, none⟩)), (4, .pointer (some ⟨b2, 0, none⟩)), (1, .pointer (some ⟨t1, 0, none⟩)), (2, .pointer (some ⟨t2, 0, none⟩)), (3, .pointer (some ⟨t3, 0, none⟩))] ((b31, some (.cells ⟨[.int .i64 (b.afterC false x8 y.c c), .int .i64 (b.afterW false x8 y.w v)]⟩ 103 (0, 0))) :: (b26, some (.cells ⟨(walksL y)⟩ 64 (0, 0))) :: (b16, some (.cells ⟨[.slice g.A g.n g.c, .int .i64 g.t]⟩ 89 (0, 0))) :: (b12, some (.cells ⟨[.slice none 0 0, .int .i64 0]⟩ 89 (0, 0))) :: (b3, some (.cells ⟨[.slice none 0 0, .int .i64 0]⟩ 89 (0, 0))) :: (b2, some (.cells ⟨[.int .i64 (i : Int), .int .i64 c, .int .i64 v]⟩ 116 (0, 0))) :: (m, some (.map es2 clk2)) :: (t1, some (.cells ⟨(bookL b A n cp)⟩ 75 (0, 0))) :: (t2, some (.cells ⟨[.map (some m)]⟩ 113 (0, 0))) :: (t3, some (.cells ⟨[.func (.func 78) ⟨[]⟩ ⟨[.pointer (some ⟨t1, 0, none⟩), .pointer (some ⟨t2, 0, none⟩), .pointer (some ⟨t3, 0, none⟩)]⟩]⟩ 114 (0, 0))) :: G2) Mg w _ _ := hs69; clear hs69
           refine sq rfl (st_alloc hs70 rfl rfl zeroValue89 rfl fun b36 _ _ hs71 => ?_); clear hs70
           refine sq rfl (st_store (l' := [.slice A9 n9 c9, .int .i64 t9]) (vs := [.slice A9 n9 c9, .int .i64 t9]) (i := 0) hs71 (Ev.t 0 rfl) (Ev.t 1 rfl) sizeOf89 rfl rfl rfl rfl rfl rfl fun _ _ hs72 => ?_); clear hs71
           have hs73 := hs72.asB (_ :: _ :: _ :: _ :: _ :: _ :: _ :: _ :: _ :: _ :: _ :: _) rfl; clear hs72
           refine hK35 _ _ ?_; clear hK35
           have hs74 := hs73.keep [0, 10, 11, 12, 13, 14, 15, 16, 17, 18] [_, _, _, _, _, _, _, _, _, _] rfl; clear hs73
           refine cd_seq fun K37 hK37 => ?_
           refine cd_region fun K38 hK38 => ?_
           refine sq rfl (st_field (o' := 1) hs74 (Ev.t 0 rfl) rfl rfl runUnderlying89 rfl sizeOf3 rfl rfl fun _ _ hs75 => ?_); clear hs74
           refine sq rfl (st_load1 (o := 0) (off := 1) (v := .int .i64 t9) hs75 (Ev.t 0 rfl) rfl rfl isAgg3 (hs75.cells 0 rfl) rfl fun _ _ hs76 => ?_); clear hs75
           refine sq rfl (st_cmp (c := (t9 : Int) == (-1)) hs76 (Ev.t 0 rfl) (.const _) rfl rfl rfl rfl fun _ _ hs77 => ?_); clear hs76
           refine hK38 _ _ ?_; clear hK38
           have hs78 := hs77.keep [0, 3, 4, 5, 6, 7, 8, 9, 10, 11, 12] [_, _, _, _, _, _, _, _, _, _, _] rfl; clear hs77
           refine cd_cond hs78 (Ev.t 0 rfl) (fun hc39 => ?_) (fun hc39 => ?_)
           · have hrn : b.best (b.parts.drop (i + 1)) (b.afterC false x8 y.c c) (b.afterW false x8 y.w v) = none := by
               cases hq : b.best (b.parts.drop (i + 1)) (b.afterC false x8 y.c c) (b.afterW false x8 y.w v) with
               | none => rfl
               | some q => obtain ⟨pl, kk⟩ := q; rw [hq] at hB9; obtain ⟨-, h2, h3, -⟩ := hB9; simp at hc39; omega
             have hkeep := try1_none (acc := b.bestN x8 (b.best (b.parts.drop (i + 1))) c v g.k) (y := y) hrn
             refine cd_exit ?_
             refine th_exit ?_
             refine in_hit ?_
             refine th_norm (hK23 _ _ ?_)
             refine cd_region1 ?_
             refine sq rfl (st_add (z := (g.k : Int) + 1) hs78 (Ev.t 4 rfl) (.const _) rfl rfl rfl (by omega) fun _ _ hs79 => ?_); clear hs78
             have hs80 := hs79.keep [0, 1, 2, 3, 4, 6, 7, 8, 9, 10, 11] [_, _, _, _, _, _, _, _, _, _, _] rfl; clear hs79
             refine sq rfl (st_move hs80 (Ev.t 0 rfl) rfl rfl fun _ _ hs81 => ?_); clear hs80
             refine wpListIn_nil ?_
             have hs82 := hs81.keep [0, 5, 6, 7, 8, 9, 10, 11] [_, _, _, _, _, _, _, _] rfl; clear hs81
             refine ⟨(PG.mk (g.k + 1) g.A g.n g.c g.t es2 clk2 G2), ⟨?_, ?_, ?_, ?_, ?_, ?_, ?_⟩, by (show rounds x8 - (g.k + 1) < rounds x8 - g.k; omega)⟩
             · exact hkr
             · show Bst (b.bestN _ _ c v (g.k + 1)) _ _ _ _ _
               rw [hsucc, hkeep]
               exact hbst.mono hsub2
             · exact hGs2
             · exact hGlo2
             · exact hE2
             · exact fun p hp => hsub2 p (hsub p hp)
             have hs83 : Sx 142 [] [(50, .int .i64 ((g.k : Int) + 1)), (49, .int .i64 ((x8.walks + 1) * (x8.walks + 1))), (8, .pointer (some ⟨b16, 0, none⟩)), (5, .pointer (some ⟨b3, 0, none⟩)), (4, .pointer (some ⟨b2, 0, none⟩)), (1, .pointer (some ⟨t1, 0, none⟩)), (2, .pointer (some ⟨t2, 0, none⟩)), (3, .pointer (some ⟨t3, 0, none⟩))] ((b16, some (.cells ⟨[.slice g.A g.n g.c, .int .i64 g.t]⟩ 89 (0, 0))) :: (b12, some (.cells ⟨[.slice none 0 0, .int .i64 0]⟩ 89 (0, 0))) :: (b3, some (.cells ⟨[.slice none 0 0, .int .i64 0]⟩ 89 (0, 0))) :: (b2, some (.cells ⟨[.int .i64 (i : Int), .int .i64 c, .int .i64 v]⟩ 116 (0, 0))) :: (m, some (.map es2 clk2)) :: (t1, some (.cells ⟨(bookL b A n cp)⟩ 75 (0, 0))) :: (t2, some (.cells ⟨[.map (some m)]⟩ 113 (0, 0))) :: (t3, some (.cells ⟨[.func (.func 78) ⟨[]⟩ ⟨[.pointer (some ⟨t1, 0, none⟩), .pointer (some ⟨t2, 0, none⟩), .pointer (some ⟨t3, 0, none⟩)]⟩]⟩ 114 (0, 0))) :: G2) Mg w _ _ := Sx.blks hs82 ((List.Sublist.cons _ (List.Sublist.cons _ (List.Sublist.cons _ (List.Sublist.cons_cons _ (List.Sublist.cons_cons _ (List.Sublist.cons_cons _ (List.Sublist.cons_cons _ (List.Sublist.cons_cons _ (List.Sublist.cons_cons _ (List.Sublist.cons_cons _ (List.Sublist.cons_cons _ (List.Sublist.refl _)))))))))))))
             exact Sx.keepE [1, 0, 2, 3, 4, 5, 6, 7] _ ⟨⟨_, rfl, rfl⟩, ⟨_, rfl, rfl⟩, ⟨_, rfl, rfl⟩, ⟨_, rfl, rfl⟩, ⟨_, rfl, rfl⟩, ⟨_, rfl, rfl⟩, ⟨_, rfl, rfl⟩, ⟨_, rfl, rfl⟩, trivial⟩ hs83
           · obtain ⟨pl, hrs⟩ : ∃ pl, b.best (b.parts.drop (i + 1)) (b.afterC false x8 y.c c) (b.afterW false x8 y.w v) = some (pl, t9) := by
               cases hq : b.best (b.parts.drop (i + 1)) (b.afterC false x8 y.c c) (b.afterW false x8 y.w v) with
               | none => rw [hq] at hB9; obtain ⟨-, -, -, h4⟩ := hB9; simp [h4] at hc39
               | some q => obtain ⟨pl, kk⟩ := q; rw [hq] at hB9; obtain ⟨-, h2, -⟩ := hB9; exact ⟨pl, by rw [h2]⟩
             rw [hrs] at hB9
             obtain ⟨hn9, -, hk0, hk1, bb9, oo9, hown9, hin9⟩ := hB9
             have hpl9 := best_len _ _ _ _ _ hrs
             rw [List.length_drop] at hpl9
             have hw89 : ¬ (x8.walks < y.c + y.w) := by simpa using hc89
             refine cd_skip ?_
             refine th_norm (hK37 _ _ ?_)
             refine cd_region fun K40 hK40 => ?_
             refine sq rfl (st_field (o' := 0) hs78 (Ev.t 2 rfl) rfl rfl runUnderlying64 rfl sizeOf3 rfl rfl fun _ _ hs79 => ?_); clear hs78
             refine sq rfl (st_load1 (o := 0) (off := 0) (v := .int .i64 y.c) hs79 (Ev.t 0 rfl) rfl rfl isAgg3 (hs79.cells 2 rfl) rfl fun _ _ hs80 => ?_); clear hs79
             refine sq rfl (st_field (o' := 1) hs80 (Ev.t 4 rfl) rfl rfl runUnderlying64 rfl sizeOf3 rfl rfl fun _ _ hs81 => ?_); clear hs80
             refine sq rfl (st_load1 (o := 0) (off := 1) (v := .int .i64 y.w) hs81 (Ev.t 0 rfl) rfl rfl isAgg3 (hs81.cells 2 rfl) rfl fun _ _ hs82 => ?_); clear hs81
             refine sq rfl (st_add (z := y.c + y.w) hs82 (Ev.t 2 rfl) (Ev.t 0 rfl) rfl rfl rfl (by omega) fun _ _ hs83 => ?_); clear hs82
             refine sq rfl (st_field (o' := 1) hs83 (Ev.t 6 rfl) rfl rfl runUnderlying89 rfl sizeOf3 rfl rfl fun _ _ hs84 => ?_); clear hs83
             refine sq rfl (st_load1 (o := 0) (off := 1) (v := .int .i64 t9) hs84 (Ev.t 0 rfl) rfl rfl isAgg3 (hs84.cells 0 rfl) rfl fun _ _ hs85 => ?_); clear hs84
             refine sq rfl (st_add (z := (y.c + y.w) + t9) hs85 (Ev.t 2 rfl) (Ev.t 0 rfl) rfl rfl rfl (by omega) fun _ _ hs86 => ?_); clear hs85
             refine sq rfl (st_assign hs86 (Ev.t 0 rfl) rfl rfl fun _ _ hs87 => ?_); clear hs86
             refine hK40 _ _ ?_; clear hK40
             have hs88 := hs87.keep [0, 10, 11, 12, 13, 14, 15, 16, 17, 18, 19] [_, _, _, _, _, _, _, _, _, _, _] rfl; clear hs87
             refine cd_region fun K41 hK41 => ?_
             refine sq rfl (st_field (o' := 1) hs88 (Ev.t 5 rfl) rfl rfl runUnderlying89 rfl sizeOf3 rfl rfl fun _ _ hs89 => ?_); clear hs88
             refine sq rfl (st_load1 (o := 0) (off := 1) (v := .int .i64 g.t) hs89 (Ev.t 0 rfl) rfl rfl isAgg3 (hs89.cells 3 rfl) rfl fun _ _ hs90 => ?_); clear hs89
             refine sq rfl (st_cmp (c := (g.t : Int) == (-1)) hs90 (Ev.t 0 rfl) (.const _) rfl rfl rfl rfl fun _ _ hs91 => ?_); clear hs90
             refine sq rfl (st_move hs91 (Ev.t 0 rfl) rfl rfl fun _ _ hs92 => ?_); clear hs91
             refine sq_gv hs92 (gg := !((g.t : Int) == (-1))) (v := .int .i64 ((y.c + y.w) + t9)) rfl rfl 0 rfl (ison_f _) rfl rfl rfl (fun hg42 K43 hK43 => st_move hs92 (Ev.t 4 rfl) rfl rfl hK43) fun _ _ hs93 => ?_; clear hs92
             refine sq_gv hs93 (gg := !((g.t : Int) == (-1))) (v := .pointer (some ⟨b16, 1, none⟩)) rfl rfl 1 rfl (ison_f _) rfl rfl rfl (fun hg44 K45 hK45 => st_field (o' := 1) hs93 (Ev.t 10 rfl) rfl rfl runUnderlying89 rfl sizeOf3 rfl rfl hK45) fun _ _ hs94 => ?_; clear hs93
             refine sq_gv hs94 (gg := !((g.t : Int) == (-1))) (v := .int .i64 g.t) rfl rfl 2 rfl (ison_f _) rfl rfl rfl (fun hg46 K47 hK47 => st_load1 (o := 0) (off := 1) (v := .int .i64 g.t) hs94 ((Ev.t 0 rfl).un hg46) rfl rfl isAgg3 (hs94.cells 3 rfl) rfl hK47) fun _ _ hs95 => ?_; clear hs94
             refine sq_gv hs95 (gg := !((g.t : Int) == (-1))) (v := .bool (decide (((y.c + y.w) + t9 : Int) < g.t))) rfl rfl 3 rfl (ison_f _) rfl rfl rfl (fun hg48 K49 hK49 => st_cmp (c := decide (((y.c + y.w) + t9 : Int) < g.t)) hs95 ((Ev.t 2 rfl).un hg48) ((Ev.t 0 rfl).un hg48) rfl rfl rfl rfl hK49) fun _ _ hs96 => ?_; clear hs95
             refine sq rfl (st_or hs96 (gx := true) (gy := !((g.t : Int) == (-1))) (Ev.t 4 rfl) rfl (Ev.t 0 rfl) (fun h => (by first | exact absurd h (by decide) | (rw [h]; rfl))) rfl rfl fun _ _ hs97 => ?_); clear hs96
             refine hK41 _ _ ?_; clear hK41
             have hs98 := hs97.keep [0, 9, 10, 11, 12, 13, 14, 15, 16, 17, 18, 19] [_, _, _, _, _, _, _, _, _, _, _, _] rfl; clear hs97
             refine cd_cond hs98 (Ev.t 0 rfl) (fun hc50 => ?_) (fun hc50 => ?_)
             · have htake := bst_take (y := y) hbst hw89 hc102 hrs hc50
               refine cd_region1 ?_
               refine sq rfl (st_loadA (o := 0) (off := 0) (vs := (walksL y)) hs98 (Ev.t 3 rfl) rfl rfl isAgg64 sizeOf64 (hs98.cells 2 rfl) rfl fun _ _ hs99 => ?_); clear hs98
               refine sq rfl (st_buildSlice hs99 (qs := [(0, .agg ⟨(walksL y)⟩)]) (e := 64) (l := [.int .i64 y.c, .int .i64 y.w]) ⟨(Ev.t 0 rfl), trivial⟩ rfl rfl rfl (fun _ => by kernel_rfl) fun b51 _ _ hs100 => ?_); clear hs99
               refine sq rfl (st_field (o' := 0) hs100 (Ev.t 4 rfl) rfl rfl runUnderlying89 rfl sizeOf28 rfl rfl fun _ _ hs101 => ?_); clear hs100
               refine sq rfl (st_load1 (o := 0) (off := 0) (v := .slice A9 n9 c9) hs101 (Ev.t 0 rfl) rfl rfl isAgg28 (hs101.cells 1 rfl) rfl fun _ _ hs102 => ?_); clear hs101
               refine sq rfl (st_append (enc := walksL) (zs := [y]) (ys := pl) (c := 1) (i := 0) hs102 (Ev.t 2 rfl) (Ev.t 0 rfl) rfl rfl underlying28 (show (Tryd.prog.info? 64).map (fun i => (i.zero, i.size, i.bytes)) = some (some (.agg #[.int .i64 0, .int .i64 0]), 2, 16) by kernel_rfl) rfl (fun _ => rfl) (fun _ u hu => by simp only [walksL, List.mem_cons, List.not_mem_nil, or_false] at hu; rcases hu with rfl | rfl <;> rfl) (.inr ⟨rfl, Nat.le_refl _, walksL y, rfl, reads_one, Nat.le_refl _⟩) rfl (by rw [hn9]; exact hown9.atMem hs102 (fun h => List.mem_cons_of_mem _ (List.mem_cons_of_mem _ (List.mem_cons_of_mem _ (List.mem_cons_of_mem _ (List.mem_cons_of_mem _ (List.mem_cons_of_mem _ (List.mem_cons_of_mem _ (List.mem_cons_of_mem _ (List.mem_cons_of_mem _ (List.mem_cons_of_mem _ (List.mem_cons_of_mem _ (List.mem_cons_of_mem _ ((hin9 h).1)))))))))))))) (by simp; omega) (by simp; omega) (fun A7 c7 b7 o7 a_103 w_103 hown7 hs103 => ?_)); clear hs102
               have hs104 : Sx 142 [] [(134, .slice A7 ([y].length + n9) c7), (133, .slice A9 n9 c9), (132, .pointer (some ⟨b36, 0, none⟩)), (131, .slice (some ⟨b51, 0, none⟩) 1 1), (130, .agg ⟨(walksL y)⟩), (129, .bool (((g.t : Int) == (-1)) || (decide (((y.c + y.w) + t9 : Int) < g.t)))), (13, .int .i64 ((y.c + y.w) + t9)), (12, .pointer (some ⟨b36, 0, none⟩)), (10, .pointer (some ⟨b26, 0, none⟩)), (49, .int .i64 ((x8.walks + 1) * (x8.walks + 1))), (50, .int .i64 (g.k : Int)), (8, .pointer (some ⟨b16, 0, none⟩)), (5, .pointer (some ⟨b3, 0, none⟩)), (4, .pointer (some ⟨b2, 0, none⟩)), (1, .pointer (some ⟨t1, 0, none⟩)), (2, .pointer (some ⟨t2, 0, none⟩)), (3, .pointer (some ⟨t3, 0, none⟩))] ((b7, o7) :: (b36, some (.cells ⟨[.slice A9 n9 c9, .int .i64 t9]⟩ 89 (0, 0))) :: (b31, some (.cells ⟨[.int .i64 (b.afterC false x8 y.c c), .int .i64 (b.afterW false x8 y.w v)]⟩ 103 (0, 0))) :: (b26, some (.cells ⟨(walksL y)⟩ 64 (0, 0))) :: (b16, some (.cells ⟨[.slice g.A g.n g.c, .int .i64 g.t]⟩ 89 (0, 0))) :: (b12, some (.cells ⟨[.slice none 0 0, .int .i64 0]⟩ 89 (0, 0))) :: (b3, some (.cells ⟨[.slice none 0 0, .int .i64 0]⟩ 89 (0, 0))) :: (b2, some (.cells ⟨[.int .i64 (i : Int), .int .i64 c, .int .i64 v]⟩ 116 (0, 0))) :: (m, some (.map es2 clk2)) :: (t1, some (.cells ⟨(bookL b A n cp)⟩ 75 (0, 0))) :: (t2, some (.cells ⟨[.map (some m)]⟩ 113 (0, 0))) :: (t3, some (.cells ⟨[.func (.func 78) ⟨[]⟩ ⟨[.pointer (some ⟨t1, 0, none⟩), .pointer (some ⟨t2, 0, none⟩), .pointer (some ⟨t3, 0, none⟩)]⟩]⟩ 114 (0, 0))) :: G2) Mg w _ _ := hs103; clear hs103
               refine sq rfl (st_move hs104 (Ev.t 6 rfl) rfl rfl fun _ _ hs105 => ?_); clear hs104
               refine sq rfl (st_build hs105 (qs := [(0, .slice A7 ([y].length + n9) c7), (1, .int .i64 ((y.c + y.w) + t9))]) (v := .agg ⟨[.slice A7 ([y].length + n9) c7, .int .i64 ((y.c + y.w) + t9)]⟩) ⟨(Ev.t 1 rfl), (Ev.t 0 rfl), trivial⟩ rfl rfl rfl (fun _ => by kernel_rfl) fun _ _ hs106 => ?_); clear hs105
               refine sq rfl (st_store (l' := [.slice A7 ([y].length + n9) c7, .int .i64 ((y.c + y.w) + t9)]) (vs := [.slice A7 ([y].length + n9) c7, .int .i64 ((y.c + y.w) + t9)]) (i := 4) hs106 (Ev.t 13 rfl) (Ev.t 0 rfl) sizeOf89 rfl rfl rfl rfl rfl rfl fun _ _ hs107 => ?_); clear hs106
               have hs108 := hs107.asB (_ :: _ :: _ :: _ :: _ :: _ :: _ :: _ :: _ :: _ :: _ :: _ :: _) rfl; clear hs107
               refine wpListIn_nil ?_
               have hs109 := hs108.keep [11, 12, 13, 14, 15, 16, 17, 18] [_, _, _, _, _, _, _, _] rfl; clear hs108
               obtain ⟨oo7, ho7⟩ := hown7.isSome (by simp)
               have hb7 : W.heap.size ≤ b7 := by rcases (hs109.blk _ (mem_nth (i := 0) rfl) _ ho7).1 with h | h; exact hMW _ h; exact Nat.le_trans hkW.size h
               have hGs7 : allSome ((b7, o7) :: G2) := fun p hp => by rcases List.mem_cons.1 hp with rfl | hp; exact ⟨_, ho7⟩; exact hGs2 p hp
               have hGlo7 : ∀ p ∈ ((b7, o7) :: G2), W.heap.size ≤ p.1 := fun p hp => by rcases List.mem_cons.1 hp with rfl | hp; exact hb7; exact hGlo2 p hp
               have hnew : Bst (b.bestN x8 (b.best (b.parts.drop (i + 1))) c v (g.k + 1)) A7 ([y].length + n9) c7 (y.c + y.w + t9) ((b7, o7) :: G2) := by
                 rw [hsucc, htake]; exact ⟨by simp only [hn9, List.length_cons, List.length_nil]; omega, rfl, by omega, by rw [List.length_cons]; omega, b7, o7, hown7, fun _ => ⟨List.mem_cons_self, oo7, ho7⟩⟩
               have hs109f := Sx.toTail [(b36, some (.cells ⟨[.slice A9 n9 c9, .int .i64 t9]⟩ 89 (0, 0))), (b31, some (.cells ⟨[.int .i64 (b.afterC false x8 y.c c), .int .i64 (b.afterW false x8 y.w v)]⟩ 103 (0, 0))), (b26, some (.cells ⟨(walksL y)⟩ 64 (0, 0))), (b16, some (.cells ⟨[.slice A7 ([y].length + n9) c7, .int .i64 ((y.c + y.w) + t9)]⟩ 89 (0, 0))), (b12, some (.cells ⟨[.slice none 0 0, .int .i64 0]⟩ 89 (0, 0))), (b3, some (.cells ⟨[.slice none 0 0, .int .i64 0]⟩ 89 (0, 0))), (b2, some (.cells ⟨[.int .i64 (i : Int), .int .i64 c, .int .i64 v]⟩ 116 (0, 0))), (m, some (.map es2 clk2)), (t1, some (.cells ⟨(bookL b A n cp)⟩ 75 (0, 0))), (t2, some (.cells ⟨[.map (some m)]⟩ 113 (0, 0))), (t3, some (.cells ⟨[.func (.func 78) ⟨[]⟩ ⟨[.pointer (some ⟨t1, 0, none⟩), .pointer (some ⟨t2, 0, none⟩), .pointer (some ⟨t3, 0, none⟩)]⟩]⟩ 114 (0, 0)))] (Sx.front hs109 0 rfl); clear hs109
               have hs110 : Sx 142 [] [(49, .int .i64 ((x8.walks + 1) * (x8.walks + 1))), (50, .int .i64 (g.k : Int)), (8, .pointer (some ⟨b16, 0, none⟩)), (5, .pointer (some ⟨b3, 0, none⟩)), (4, .pointer (some ⟨b2, 0, none⟩)), (1, .pointer (some ⟨t1, 0, none⟩)), (2, .pointer (some ⟨t2, 0, none⟩)), (3, .pointer (some ⟨t3, 0, none⟩))] ((b36, some (.cells ⟨[.slice A9 n9 c9, .int .i64 t9]⟩ 89 (0, 0))) :: (b31, some (.cells ⟨[.int .i64 (b.afterC false x8 y.c c), .int .i64 (b.afterW false x8 y.w v)]⟩ 103 (0, 0))) :: (b26, some (.cells ⟨(walksL y)⟩ 64 (0, 0))) :: (b16, some (.cells ⟨[.slice A7 ([y].length + n9) c7, .int .i64 ((y.c + y.w) + t9)]⟩ 89 (0, 0))) :: (b12, some (.cells ⟨[.slice none 0 0, .int .i64 0]⟩ 89 (0, 0))) :: (b3, some (.cells ⟨[.slice none 0 0, .int .i64 0]⟩ 89 (0, 0))) :: (b2, some (.cells ⟨[.int .i64 (i : Int), .int .i64 c, .int .i64 v]⟩ 116 (0, 0))) :: (m, some (.map es2 clk2)) :: (t1, some (.cells ⟨(bookL b A n cp)⟩ 75 (0, 0))) :: (t2, some (.cells ⟨[.map (some m)]⟩ 113 (0, 0))) :: (t3, some (.cells ⟨[.func (.func 78) ⟨[]⟩ ⟨[.pointer (some ⟨t1, 0, none⟩), .pointer (some ⟨t2, 0, none⟩), .pointer (some ⟨t3, 0, none⟩)]⟩]⟩ 114 (0, 0))) :: ((b7, o7) :: G2)) Mg w _ _ := hs109f; clear hs109f
               refine in_norm ?_
               refine th_norm (hK23 _ _ ?_)
               refine cd_region1 ?_
               refine sq rfl (st_add (z := (g.k : Int) + 1) hs110 (Ev.t 1 rfl) (.const _) rfl rfl rfl (by omega) fun _ _ hs111 => ?_); clear hs110
               have hs112 := hs111.keep [0, 1, 3, 4, 5, 6, 7, 8] [_, _, _, _, _, _, _, _] rfl; clear hs111
               refine sq rfl (st_move hs112 (Ev.t 0 rfl) rfl rfl fun _ _ hs113 => ?_); clear hs112
               refine wpListIn_nil ?_
               have hs114 := hs113.keep [0, 2, 3, 4, 5, 6, 7, 8] [_, _, _, _, _, _, _, _] rfl; clear hs113
               refine ⟨(PG.mk (g.k + 1) A7 ([y].length + n9) c7 (y.c + y.w + t9) es2 clk2 ((b7, o7) :: G2)), ⟨?_, ?_, ?_, ?_, ?_, ?_, ?_⟩, by (show rounds x8 - (g.k + 1) < rounds x8 - g.k; omega)⟩
               · exact hkr
               · exact hnew
               · exact hGs7
               · exact hGlo7
               · exact memo_mono hE2 (fun p hp => List.mem_cons_of_mem _ hp)
               · exact fun p hp => List.mem_cons_of_mem _ (hsub2 p (hsub p hp))
               have hs115 : Sx 142 [] [(50, .int .i64 ((g.k : Int) + 1)), (49, .int .i64 ((x8.walks + 1) * (x8.walks + 1))), (8, .pointer (some ⟨b16, 0, none⟩)), (5, .pointer (some ⟨b3, 0, none⟩)), (4, .pointer (some ⟨b2, 0, none⟩)), (1, .pointer (some ⟨t1, 0, none⟩)), (2, .pointer (some ⟨t2, 0, none⟩)), (3, .pointer (some ⟨t3, 0, none⟩))] ((b16, some (.cells ⟨[.slice A7 ([y].length + n9) c7, .int .i64 ((y.c + y.w) + t9)]⟩ 89 (0, 0))) :: (b12, some (.cells ⟨[.slice none 0 0, .int .i64 0]⟩ 89 (0, 0))) :: (b3, some (.cells ⟨[.slice none 0 0, .int .i64 0]⟩ 89 (0, 0))) :: (b2, some (.cells ⟨[.int .i64 (i : Int), .int .i64 c, .int .i64 v]⟩ 116 (0, 0))) :: (m, some (.map es2 clk2)) :: (t1, some (.cells ⟨(bookL b A n cp)⟩ 75 (0, 0))) :: (t2, some (.cells ⟨[.map (some m)]⟩ 113 (0, 0))) :: (t3, some (.cells ⟨[.func (.func 78) ⟨[]⟩ ⟨[.pointer (some ⟨t1, 0, none⟩), .pointer (some ⟨t2, 0, none⟩), .pointer (some ⟨t3, 0, none⟩)]⟩]⟩ 114 (0, 0))) :: ((b7, o7) :: G2)) Mg w _ _ := Sx.blks hs114 ((List.Sublist.cons _ (List.Sublist.cons _ (List.Sublist.cons _ (List.Sublist.cons_cons _ (List.Sublist.cons_cons _ (List.Sublist.cons_cons _ (List.Sublist.cons_cons _ (List.Sublist.cons_cons _ (List.Sublist.cons_cons _ (List.Sublist.cons_cons _ (List.Sublist.cons_cons _ (List.Sublist.refl _)))))))))))))
               exact Sx.keepE [1, 0, 2, 3, 4, 5, 6, 7] _ ⟨⟨_, rfl, rfl⟩, ⟨_, rfl, rfl⟩, ⟨_, rfl, rfl⟩, ⟨_, rfl, rfl⟩, ⟨_, rfl, rfl⟩, ⟨_, rfl, rfl⟩, ⟨_, rfl, rfl⟩, ⟨_, rfl, rfl⟩, trivial⟩ hs115
             · have hkeep := bst_keep (y := y) hbst hrs hc50
               refine cd_skip ?_
               refine in_norm ?_
               refine th_norm (hK23 _ _ ?_)
               refine cd_region1 ?_
               refine sq rfl (st_add (z := (g.k : Int) + 1) hs98 (Ev.t 5 rfl) (.const _) rfl rfl rfl (by omega) fun _ _ hs99 => ?_); clear hs98
               have hs100 := hs99.keep [0, 1, 2, 3, 4, 5, 7, 8, 9, 10, 11, 12] [_, _, _, _, _, _, _, _, _, _, _, _] rfl; clear hs99
               refine sq rfl (st_move hs100 (Ev.t 0 rfl) rfl rfl fun _ _ hs101 => ?_); clear hs100
               refine wpListIn_nil ?_
               have hs102 := hs101.keep [0, 6, 7, 8, 9, 10, 11, 12] [_, _, _, _, _, _, _, _] rfl; clear hs101
               refine ⟨(PG.mk (g.k + 1) g.A g.n g.c g.t es2 clk2 G2), ⟨?_, ?_, ?_, ?_, ?_, ?_, ?_⟩, by (show rounds x8 - (g.k + 1) < rounds x8 - g.k; omega)⟩
               · exact hkr
               · show Bst (b.bestN _ _ c v (g.k + 1)) _ _ _ _ _
                 rw [hsucc, hkeep]
                 exact hbst.mono hsub2
               · exact hGs2
               · exact hGlo2
               · exact hE2
               · exact fun p hp => hsub2 p (hsub p hp)
               have hs103 : Sx 142 [] [(50, .int .i64 ((g.k : Int) + 1)), (49, .int .i64 ((x8.walks + 1) * (x8.walks + 1))), (8, .pointer (some ⟨b16, 0, none⟩)), (5, .pointer (some ⟨b3, 0, none⟩)), (4, .pointer (some ⟨b2, 0, none⟩)), (1, .pointer (some ⟨t1, 0, none⟩)), (2, .pointer (some ⟨t2, 0, none⟩)), (3, .pointer (some ⟨t3, 0, none⟩))] ((b16, some (.cells ⟨[.slice g.A g.n g.c, .int .i64 g.t]⟩ 89 (0, 0))) :: (b12, some (.cells ⟨[.slice none 0 0, .int .i64 0]⟩ 89 (0, 0))) :: (b3, some (.cells ⟨[.slice none 0 0, .int .i64 0]⟩ 89 (0, 0))) :: (b2, some (.cells ⟨[.int .i64 (i : Int), .int .i64 c, .int .i64 v]⟩ 116 (0, 0))) :: (m, some (.map es2 clk2)) :: (t1, some (.cells ⟨(bookL b A n cp)⟩ 75 (0, 0))) :: (t2, some (.cells ⟨[.map (some m)]⟩ 113 (0, 0))) :: (t3, some (.cells ⟨[.func (.func 78) ⟨[]⟩ ⟨[.pointer (some ⟨t1, 0, none⟩), .pointer (some ⟨t2, 0, none⟩), .pointer (some ⟨t3, 0, none⟩)]⟩]⟩ 114 (0, 0))) :: G2) Mg w _ _ := Sx.blks hs102 ((List.Sublist.cons _ (List.Sublist.cons _ (List.Sublist.cons _ (List.Sublist.cons_cons _ (List.Sublist.cons_cons _ (List.Sublist.cons_cons _ (List.Sublist.cons_cons _ (List.Sublist.cons_cons _ (List.Sublist.cons_cons _ (List.Sublist.cons_cons _ (List.Sublist.cons_cons _ (List.Sublist.refl _)))))))))))))
               exact Sx.keepE [1, 0, 2, 3, 4, 5, 6, 7] _ ⟨⟨_, rfl, rfl⟩, ⟨_, rfl, rfl⟩, ⟨_, rfl, rfl⟩, ⟨_, rfl, rfl⟩, ⟨_, rfl, rfl⟩, ⟨_, rfl, rfl⟩, ⟨_, rfl, rfl⟩, ⟨_, rfl, rfl⟩, trivial⟩ hs103
     · have hkf : g.k = rounds x8 := by simp at hc22; omega
       rw [hkf, ← best_drop hx8] at hbst
       refine cd_exit ?_
       refine th_exit ?_
       refine th_exit ?_
       refine in_hit ?_
       refine th_norm (hK18 _ _ ?_)
       refine cd_region fun K52 hK52 => ?_
       refine sq rfl (st_load1 (o := 0) (off := 0) (v := .map (some m)) hs37 (Ev.t 7 rfl) rfl rfl isAgg113 (hs37.cells 6 rfl) rfl fun _ _ hs38 => ?_); clear hs37
       refine sq rfl (st_loadA (o := 0) (off := 0) (vs := [.int .i64 (i : Int), .int .i64 c, .int .i64 v]) hs38 (Ev.t 6 rfl) rfl rfl isAgg116 sizeOf116 (hs38.cells 3 rfl) rfl fun _ _ hs39 => ?_); clear hs38
       refine sq rfl (st_loadA (o := 0) (off := 0) (vs := [.slice g.A g.n g.c, .int .i64 g.t]) hs39 (Ev.t 5 rfl) rfl rfl isAgg89 sizeOf89 (hs39.cells 0 rfl) rfl fun _ _ hs40 => ?_); clear hs39
       refine sq rfl (st_mapUpdate (enc := keyV) (good := b.memo g.G) (beq := keyEq) (q := (i, c, v)) (i := 4) hs40 (Ev.t 2 rfl) (Ev.t 1 rfl) (Ev.t 0 rfl) runUnderlying113 (by kernel_rfl) key_eq (fun _ _ => keyEq_eq) key_ck key_sm rfl hE ⟨g.A, g.n, g.c, g.t, rfl, hbst⟩ (fun es5 clk5 a_41 w_41 hE5 hs41 => ?_)); clear hs40
       have hs42 : Sx 142 [] [(140, .agg ⟨[.slice g.A g.n g.c, .int .i64 g.t]⟩), (139, .agg ⟨[.int .i64 (i : Int), .int .i64 c, .int .i64 v]⟩), (138, .map (some m)), (51, .bool (decide (((g.k : Int) : Int) < ((x8.walks + 1) * (x8.walks + 1))))), (49, .int .i64 ((x8.walks + 1) * (x8.walks + 1))), (50, .int .i64 (g.k : Int)), (8, .pointer (some ⟨b16, 0, none⟩)), (5, .pointer (some ⟨b3, 0, none⟩)), (4, .pointer (some ⟨b2, 0, none⟩)), (1, .pointer (some ⟨t1, 0, none⟩)), (2, .pointer (some ⟨t2, 0, none⟩)), (3, .pointer (some ⟨t3, 0, none⟩))] ((b16, some (.cells ⟨[.slice g.A g.n g.c, .int .i64 g.t]⟩ 89 (0, 0))) :: (b12, some (.cells ⟨[.slice none 0 0, .int .i64 0]⟩ 89 (0, 0))) :: (b3, some (.cells ⟨[.slice none 0 0, .int .i64 0]⟩ 89 (0, 0))) :: (b2, some (.cells ⟨[.int .i64 (i : Int), .int .i64 c, .int .i64 v]⟩ 116 (0, 0))) :: (m, some (.map es5 clk5)) :: (t1, some (.cells ⟨(bookL b A n cp)⟩ 75 (0, 0))) :: (t2, some (.cells ⟨[.map (some m)]⟩ 113 (0, 0))) :: (t3, some (.cells ⟨[.func (.func 78) ⟨[]⟩ ⟨[.pointer (some ⟨t1, 0, none⟩), .pointer (some ⟨t2, 0, none⟩), .pointer (some ⟨t3, 0, none⟩)]⟩]⟩ 114 (0, 0))) :: g.G) Mg w _ _ := hs41; clear hs41
       refine hK52 _ _ ?_; clear hK52
       have hs43 := hs42.keep [6, 7] [_, _] rfl; clear hs42
       refine cd_region fun K53 hK53 => ?_
       refine sq rfl (st_loadA (o := 0) (off := 0) (vs := [.slice g.A g.n g.c, .int .i64 g.t]) hs43 (Ev.t 0 rfl) rfl rfl isAgg89 sizeOf89 (hs43.cells 0 rfl) rfl fun _ _ hs44 => ?_); clear hs43
       refine sq rfl (st_store (l' := [.slice g.A g.n g.c, .int .i64 g.t]) (vs := [.slice g.A g.n g.c, .int .i64 g.t]) (i := 2) hs44 (Ev.t 2 rfl) (Ev.t 0 rfl) sizeOf89 rfl rfl rfl rfl rfl rfl fun _ _ hs45 => ?_); clear hs44
       have hs46 := hs45.asB (_ :: _ :: _ :: _ :: _ :: _ :: _ :: _ :: _) rfl; clear hs45
       refine hK53 _ _ ?_; clear hK53
       have hs47 := hs46.keep [2] [_] rfl; clear hs46
       have hsR := hs47.blks (List.sublist_append_right [(b16, some (.cells ⟨[.slice g.A g.n g.c, .int .i64 g.t]⟩ 89 (0, 0))), (b12, some (.cells ⟨[.slice none 0 0, .int .i64 0]⟩ 89 (0, 0))), (b3, some (.cells ⟨[.slice g.A g.n g.c, .int .i64 g.t]⟩ 89 (0, 0))), (b2, some (.cells ⟨[.int .i64 (i : Int), .int .i64 c, .int .i64 v]⟩ 116 (0, 0)))] (planC b A n cp m t1 t2 t3 es5 clk5 g.G))
       exact cd_retG (vs := [.agg ⟨[.slice g.A g.n g.c, .int .i64 g.t]⟩]) hsR (fun a_ w_ h => hQ0 a_ w_ h) rfl ⟨resA (o := 0) (off := 0) (vs := [.slice g.A g.n g.c, .int .i64 g.t]) 0 rfl isAgg89 sizeOf89 (hs47.cells 2 rfl) rfl, trivial⟩ (planC_some hGs) ⟨es5, clk5, g.G, rfl, hsub, hGs, hGlo, hE5, ⟨g.A, g.n, g.c, g.t, rfl, hbst⟩⟩
   · skip
     obtain ⟨A9, n9, c9, t9, rfl, hB9⟩ := hg1 rfl
     have hs16 : Sx 142 [] [(25, .tuple ⟨[.agg ⟨[.slice A9 n9 c9, .int .i64 t9]⟩, .bool true]⟩), (24, .agg ⟨[.int .i64 (i : Int), .int .i64 c, .int .i64 v]⟩), (23, .map (some m)), (20, .bool (((i : Int) : Int) == (n : Int))), (5, .pointer (some ⟨b3, 0, none⟩)), (4, .pointer (some ⟨b2, 0, none⟩)), (1, .pointer (some ⟨t1, 0, none⟩)), (2, .pointer (some ⟨t2, 0, none⟩)), (3, .pointer (some ⟨t3, 0, none⟩))] ((b3, some (.cells ⟨[.slice none 0 0, .int .i64 0]⟩ 89 (0, 0))) :: (b2, some (.cells ⟨[.int .i64 (i : Int), .int .i64 c, .int .i64 v]⟩ 116 (0, 0))) :: (m, some (.map es clk)) :: (t1, some (.cells ⟨(bookL b A n cp)⟩ 75 (0, 0))) :: (t2, some (.cells ⟨[.map (some m)]⟩ 113 (0, 0))) :: (t3, some (.cells ⟨[.func (.func 78) ⟨[]⟩ ⟨[.pointer (some ⟨t1, 0, none⟩), .pointer (some ⟨t2, 0, none⟩), .pointer (some ⟨t3, 0, none⟩)]⟩]⟩ 114 (0, 0))) :: G) Mg w _ _ := hs15; clear hs15
     refine sq rfl (st_move hs16 (Ev.t 0 rfl) rfl rfl fun _ _ hs17 => ?_); clear hs16
     refine sq rfl (st_extract hs17 (Ev.t 0 rfl) rfl rfl rfl fun _ _ hs18 => ?_); clear hs17
     refine sq rfl (st_extract hs18 (Ev.t 1 rfl) rfl rfl rfl fun _ _ hs19 => ?_); clear hs18
     refine sq rfl (st_alloc hs19 rfl rfl zeroValue89 rfl fun b54 _ _ hs20 => ?_); clear hs19
     refine sq rfl (st_store (l' := [.slice A9 n9 c9, .int .i64 t9]) (vs := [.slice A9 n9 c9, .int .i64 t9]) (i := 0) hs20 (Ev.t 0 rfl) (Ev.t 2 rfl) sizeOf89 rfl rfl rfl rfl rfl rfl fun _ _ hs21 => ?_); clear hs20
     have hs22 := hs21.asB (_ :: _ :: _ :: _ :: _ :: _ :: _ :: _) rfl; clear hs21
     refine sq rfl (st_assign hs22 (Ev.t 1 rfl) rfl rfl fun _ _ hs23 => ?_); clear hs22
     refine hK11 _ _ ?_; clear hK11
     have hs24 := hs23.keep [0, 1, 9, 10, 11, 12, 13] [_, _, _, _, _, _, _] rfl; clear hs23
     refine cd_region fun K55 hK55 => ?_
     refine sq rfl (st_move hs24 (Ev.t 0 rfl) rfl rfl fun _ _ hs25 => ?_); clear hs24
     refine hK55 _ _ ?_; clear hK55
     have hs26 := hs25.keep [0, 2, 3, 4, 5, 6, 7] [_, _, _, _, _, _, _] rfl; clear hs25
     have hc56 : true = true := rfl
     refine cd_cond hs26 (Ev.t 0 rfl) (fun _ => ?_) (fun h => absurd (hc56.symm.trans h) (by decide))
     refine cd_region fun K57 hK57 => ?_
     refine sq rfl (st_loadA (o := 0) (off := 0) (vs := [.slice A9 n9 c9, .int .i64 t9]) hs26 (Ev.t 1 rfl) rfl rfl isAgg89 sizeOf89 (hs26.cells 0 rfl) rfl fun _ _ hs27 => ?_); clear hs26
     refine sq rfl (st_store (l' := [.slice A9 n9 c9, .int .i64 t9]) (vs := [.slice A9 n9 c9, .int .i64 t9]) (i := 1) hs27 (Ev.t 3 rfl) (Ev.t 0 rfl) sizeOf89 rfl rfl rfl rfl rfl rfl fun _ _ hs28 => ?_); clear hs27
     have hs29 := hs28.asB (_ :: _ :: _ :: _ :: _ :: _ :: _ :: _) rfl; clear hs28
     refine hK57 _ _ ?_; clear hK57
     have hs30 := hs29.keep [3] [_] rfl; clear hs29
     have hsR := hs30.blks (List.sublist_append_right [(b54, some (.cells ⟨[.slice A9 n9 c9, .int .i64 t9]⟩ 89 (0, 0))), (b3, some (.cells ⟨[.slice A9 n9 c9, .int .i64 t9]⟩ 89 (0, 0))), (b2, some (.cells ⟨[.int .i64 (i : Int), .int .i64 c, .int .i64 v]⟩ 116 (0, 0)))] (planC b A n cp m t1 t2 t3 es clk G))
     exact cd_retG (vs := [.agg ⟨[.slice A9 n9 c9, .int .i64 t9]⟩]) hsR (fun a_ w_ h => th_ret (hQ0 a_ w_ h)) rfl ⟨resA (o := 0) (off := 0) (vs := [.slice A9 n9 c9, .int .i64 t9]) 0 rfl isAgg89 sizeOf89 (hs30.cells 1 rfl) rfl, trivial⟩ (planC_some hGs) ⟨es, clk, G, rfl, (fun _ h => h), hGs, hGlo, hE, ⟨A9, n9, c9, t9, rfl, hB9⟩⟩
end Go.Proofs.YtdbcedmofoakmaaDoor
