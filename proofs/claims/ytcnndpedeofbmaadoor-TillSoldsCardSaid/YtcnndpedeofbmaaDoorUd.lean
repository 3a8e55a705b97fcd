/- The till: how many truths go on from a spot, by a closure and its map. -/
import Derived.Test.YtcnndpedeofbmaaDoorUc
set_option maxRecDepth 100000
namespace Go.Proofs.YtcnndpedeofbmaaDoor
open Go Go.Sx Go.Till Go.Proofs.Tryd
/-- What the map may hold. -/
def memo (b : Bx) (ss : List Sp) (q : Nat × Int) (v : Value) : Prop := v = .int .i64 (cnt (right b) ((its b.rolls ss).drop q.1) q.2 : Int)
/-- A map with good entries. -/
structure MX (b : Bx) (ss : List Sp) where
  es : Array MapEntry
  clk : Nat
  h : Ents keyV (memo b ss) es
def MX.zero (b : Bx) (ss : List Sp) : MX b ss := ⟨#[], 0, fun e he => by cases he⟩
def mapC (m : Nat) (es : Array MapEntry) (clk : Nat) : List (Nat × Option Obj) := [(m, some (.map es clk))]
theorem mapC_some {m : Nat} {es : Array MapEntry} {clk : Nat} : ∀ p ∈ mapC m es clk, ∃ o, p.2 = some o := by
  intro p hp
  simp only [mapC, List.mem_cons, List.not_mem_nil, or_false] at hp
  subst hp; exact ⟨_, rfl⟩
def mapPost (b : Bx) (ss : List Sp) (m : Nat) (c : Nat) (v : Value) (B' : List (Nat × Option Obj)) : Prop :=
  v = .int .i64 (c : Int) ∧ ∃ es' clk', B' = mapC m es' clk' ∧ Ents keyV (memo b ss) es'
/-- The closure's contract at roll k. -/
def ofOk (b : Bx) (A : Option Addr) (n cp : Nat) (A2 : Option Addr) (n2 c2 : Nat) (A3 : Option Addr) (n3 c3 m : Nat) (ss : List Sp) (t1 t2 : Nat) (k : Nat) : Prop :=
  ∀ (a : Int) (es : Array MapEntry) (clk : Nat) (w : World), (0 ≤ a ∧ a ≤ 15000 * (k : Int)) → RollsAt w A n b.rolls → SpsAt w A3 n3 ss → CellsAt w t1 0 (boxL b A n cp A2 n2 c2 A3 n3 c3 m) → CellsAt w t2 0 [.func (.func 73) #[] ⟨[.pointer (some ⟨t1, 0, none⟩), .pointer (some ⟨t2, 0, none⟩)]⟩] → Ents keyV (memo b ss) es →
    CallsG Tryd.prog 73 [.agg ⟨[.int .i64 (k : Int), .int .i64 a]⟩, .pointer (some ⟨t1, 0, none⟩), .pointer (some ⟨t2, 0, none⟩)] (mapC m es clk) w (mapPost b ss m (cnt (right b) ((its b.rolls ss).drop k) a))

set_option maxHeartbeats 4000000 in
theorem of_step (b : Bx) (A : Option Addr) (n cp : Nat) (A2 : Option Addr) (n2 c2 : Nat) (A3 : Option Addr) (n3 c3 m : Nat) (ss : List Sp) (t1 t2 : Nat) (hn : n ≤ 140737488351232) (hwf : Wf b ss) (k : Nat) (hk : k ≤ b.rolls.length)
    (ih0 : k < b.rolls.length → ofOk b A n cp A2 n2 c2 A3 n3 c3 m ss t1 t2 (k + 1)) : ofOk b A n cp A2 n2 c2 A3 n3 c3 m ss t1 t2 k := by
 intro a es clk w ha hP hS hq1 hq2 hE hT
 show Calls Tryd.prog 73 ⟨[.agg ⟨[.int .i64 (k : Int), .int .i64 a]⟩, .pointer (some ⟨t1, 0, none⟩), .pointer (some ⟨t2, 0, none⟩)]⟩ w _
 have hl1 := hP.len
 have hl3 := hS.len
 have hn4 := hwf.n4
 have hcb := hwf.count; have heb := hwf.err
 obtain ⟨o_, ho_, hm⟩ := hT.blk _ List.mem_cons_self; simp only [Option.some.injEq] at ho_; subst ho_
 refine enterGM (N := 72) w func73 rfl rfl rfl hT (fun Q0 a_0 hQ0 hN0 hs0 => ?_)
 have hMW : ∀ q ∈ [m], q ∈ [m] ∨ w.heap.size ≤ q := fun q hq => .inl hq
 have hkW : Kp [m] w w := Kp.refl _ _
 have hs1 : Sx 72 (dmarks []) [(0, .agg ⟨[.int .i64 (k : Int), .int .i64 a]⟩), (1, .pointer (some ⟨t1, 0, none⟩)), (2, .pointer (some ⟨t2, 0, none⟩))] ((m, some (.map es clk)) :: (marks [])) [m] w _ _ := hs0; clear hs0
 refine cd_region fun K1 hK1 => ?_
 refine sq rfl (st_box hs1 (Ev.t 0 rfl) rfl rfl rfl fun b2 _ _ hs2 => ?_); clear hs1
 refine sq rfl (st_assign hs2 (.const _) rfl rfl fun _ _ hs3 => ?_); clear hs2
 refine hK1 _ _ ?_; clear hK1
 have hs4 := hs3.keep [0, 1, 3, 4] [_, _, _, _] rfl; clear hs3
 refine cd_scope ?_
 refine cd_seq fun K3 hK3 => ?_
 refine cd_region fun K4 hK4 => ?_
 refine sq rfl (st_field (o' := 0) hs4 (Ev.t 1 rfl) rfl rfl runUnderlying71 rfl sizeOf3 rfl rfl fun _ _ hs5 => ?_); clear hs4
 refine sq rfl (st_load1 (o := 0) (off := 0) (v := .int .i64 (k : Int)) hs5 (Ev.t 0 rfl) rfl rfl isAgg3 (hs5.cells 0 rfl) rfl fun _ _ hs6 => ?_); clear hs5
 refine sq rfl (st_field (o' := 0) hs6 (Ev.t 4 rfl) rfl rfl runUnderlying66 rfl sizeOf25 rfl rfl fun _ _ hs7 => ?_); clear hs6
 refine sq rfl (st_field (o' := 0) hs7 (Ev.t 0 rfl) rfl rfl runUnderlying25 rfl sizeOf22 rfl rfl fun _ _ hs8 => ?_); clear hs7
 refine sq rfl (st_load1 (o := 0) (off := 0) (v := .slice A n cp) hs8 (Ev.t 0 rfl) rfl rfl isAgg22 (hq1.kp (Kp.viaM hkW hs8.kp hMW) (by simpa using hq1.neM (Nat.succ_pos _) hm)) rfl fun _ _ hs9 => ?_); clear hs8
 refine sq rfl (st_len hs9 (Ev.t 0 rfl) rfl rfl runUnderlying22 fun _ _ hs10 => ?_); clear hs9
 refine sq rfl (st_cmp (c := ((k : Int) : Int) == (n : Int)) hs10 (Ev.t 4 rfl) (Ev.t 0 rfl) rfl rfl rfl rfl fun _ _ hs11 => ?_); clear hs10
 refine hK4 _ _ ?_; clear hK4
 have hs12 := hs11.keep [0, 7, 8, 9, 10] [_, _, _, _, _] rfl; clear hs11
 refine cd_cond hs12 (Ev.t 0 rfl) (fun hc5 => ?_) (fun hc5 => ?_)
 · have hkn : k = n := by simp at hc5; omega
   have hdr : (its b.rolls ss).drop k = [] := List.drop_eq_nil_of_le (by rw [hwf.its_len]; omega)
   refine cd_seq fun K6 hK6 => ?_
   refine cd_region fun K7 hK7 => ?_
   refine sq rfl (st_loadA (o := 0) (off := 0) (vs := (boxL b A n cp A2 n2 c2 A3 n3 c3 m)) hs12 (Ev.t 3 rfl) rfl rfl isAgg66 sizeOf66 (hq1.kp (Kp.viaM hkW hs12.kp hMW) (by simpa using hq1.neM (Nat.succ_pos _) hm)) rfl fun _ _ hs13 => ?_); clear hs12
   refine sq rfl (st_field (o' := 1) hs13 (Ev.t 3 rfl) rfl rfl runUnderlying71 rfl sizeOf3 rfl rfl fun _ _ hs14 => ?_); clear hs13
   refine sq rfl (st_load1 (o := 0) (off := 1) (v := .int .i64 a) hs14 (Ev.t 0 rfl) rfl rfl isAgg3 (hs14.cells 0 rfl) rfl fun _ _ hs15 => ?_); clear hs14
   refine sq rfl (st_callv (vs := [.agg ⟨(boxL b A n cp A2 n2 c2 A3 n3 c3 m)⟩, .int .i64 a]) hs15 (.func _) ⟨(Ev.t 2 rfl), (Ev.t 0 rfl), trivial⟩ rfl rfl call54 rfl (right_v b A n cp A2 n2 c2 A3 n3 c3 m a _ ⟨hwf.count, hwf.err⟩) fun _ _ hs16 => ?_); clear hs15
   refine hK7 _ _ ?_; clear hK7
   have hs17 := hs16.keep [0, 5] [_, _] rfl; clear hs16
   refine cd_cond hs17 (Ev.t 0 rfl) (fun hc8 => ?_) (fun hc8 => ?_)
   · have hrt := hc8
     refine cd_region fun K9 hK9 => ?_
     have hs18 := hs17.keep [0] [_] rfl; clear hs17
     refine sq rfl (st_assign hs18 (.const _) rfl rfl fun _ _ hs19 => ?_); clear hs18
     refine hK9 _ _ ?_; clear hK9
     have hs20 := hs19.keep [0] [_] rfl; clear hs19
     refine cd_retYg (B1 := [(b2, some (.cells ⟨[.int .i64 (k : Int), .int .i64 a]⟩ 71 (0, 0))), (m, some (.map es clk))]) (B2 := mapC m es clk) (vs := [.int .i64 1]) hs20 (fun a_ w_ h => th_ret (th_ret (hQ0 a_ w_ h))) rfl (fun _ _ hsM => ⟨.tmp 0 rfl, trivial⟩) (.cons _ (List.Sublist.refl _)) mapC_some ⟨?_, es, clk, rfl, hE⟩
     show Value.int .i64 _ = Value.int .i64 _
     first | rfl | (rw [hdr, cnt_nil, if_pos hrt]; rfl) | (rw [hdr, cnt_nil, if_neg hrt]; rfl)
   · have hrt := Bool.eq_false_iff.1 hc8
     refine cd_skip ?_
     refine th_norm (hK6 _ _ ?_)
     refine cd_region fun K10 hK10 => ?_
     have hs18 := hs17.keep [0] [_] rfl; clear hs17
     refine sq rfl (st_assign hs18 (.const _) rfl rfl fun _ _ hs19 => ?_); clear hs18
     refine hK10 _ _ ?_; clear hK10
     have hs20 := hs19.keep [0] [_] rfl; clear hs19
     refine cd_retYg (B1 := [(b2, some (.cells ⟨[.int .i64 (k : Int), .int .i64 a]⟩ 71 (0, 0))), (m, some (.map es clk))]) (B2 := mapC m es clk) (vs := [.int .i64 0]) hs20 (fun a_ w_ h => th_ret (hQ0 a_ w_ h)) rfl (fun _ _ hsM => ⟨.tmp 0 rfl, trivial⟩) (.cons _ (List.Sublist.refl _)) mapC_some ⟨?_, es, clk, rfl, hE⟩
     show Value.int .i64 _ = Value.int .i64 _
     first | rfl | (rw [hdr, cnt_nil, if_pos hrt]; rfl) | (rw [hdr, cnt_nil, if_neg hrt]; rfl)
 · have hkl : k < b.rolls.length := by simp at hc5; omega
   have hkl2 : k < ss.length := by rw [hwf.len]; exact hkl
   have ih := ih0 hkl
   obtain ⟨x11, hx11⟩ : ∃ x, b.rolls[k]? = some x := ⟨_, List.getElem?_eq_getElem (by have := hP.len; omega)⟩
   obtain ⟨b12, o12, hA12, -, hc12⟩ := hP.el k x11 hx11
   obtain ⟨x13, hx13⟩ : ∃ x, ss[k]? = some x := ⟨_, List.getElem?_eq_getElem (by have := hS.len; omega)⟩
   obtain ⟨b14, o14, hA14, -, hc14⟩ := hS.el k x13 hx13
   have hpr := hwf.price _ _ hx11; have hsp := hwf.sp _ _ hx13
   have hdrop := its_drop hx11 hx13
   refine cd_skip ?_
   refine th_norm (hK3 _ _ ?_)
   refine cd_seq fun K15 hK15 => ?_
   refine cd_region fun K16 hK16 => ?_
   refine sq rfl (st_field (o' := 8) hs12 (Ev.t 3 rfl) rfl rfl runUnderlying66 rfl sizeOf64 rfl rfl fun _ _ hs13 => ?_); clear hs12
   refine sq rfl (st_load1 (o := 0) (off := 8) (v := .map (some m)) hs13 (Ev.t 0 rfl) rfl rfl isAgg64 (hq1.kp (Kp.viaM hkW hs13.kp hMW) (by simpa using hq1.neM (Nat.succ_pos _) hm)) rfl fun _ _ hs14 => ?_); clear hs13
   refine sq rfl (st_loadA (o := 0) (off := 0) (vs := [.int .i64 (k : Int), .int .i64 a]) hs14 (Ev.t 4 rfl) rfl rfl isAgg71 sizeOf71 (hs14.cells 0 rfl) rfl fun _ _ hs15 => ?_); clear hs14
   refine sq rfl (st_lookup (enc := keyV) (good := memo b ss) (beq := keyEq) (q := (k, a)) hs15 (Ev.t 1 rfl) (Ev.t 0 rfl) rfl rfl runUnderlying64 (by kernel_rfl) key_eq (fun _ _ => keyEq_eq) key_ck zeroValue3 (i := 1) rfl hE (fun v_ ok_ a_16 w_16 hg1 hg0 hs16 => ?_)); clear hs15
   rcases ok_ with _ | _
   · skip
     obtain rfl := hg0 rfl
     have hs17 : Sx 72 (dmarks []) [(25, .tuple ⟨[.int .i64 0, .bool false]⟩), (24, .agg ⟨[.int .i64 (k : Int), .int .i64 a]⟩), (23, .map (some m)), (22, .pointer (some ⟨t1, 8, none⟩)), (16, .bool (((k : Int) : Int) == (n : Int))), (4, .int .i64 0), (3, .pointer (some ⟨b2, 0, none⟩)), (1, .pointer (some ⟨t1, 0, none⟩)), (2, .pointer (some ⟨t2, 0, none⟩))] ((b2, some (.cells ⟨[.int .i64 (k : Int), .int .i64 a]⟩ 71 (0, 0))) :: (m, some (.map es clk)) :: (marks [])) [m] w _ _ := hs16; clear hs16
     refine sq rfl (st_move hs17 (Ev.t 0 rfl) rfl rfl fun _ _ hs18 => ?_); clear hs17
     refine sq rfl (st_extract hs18 (Ev.t 0 rfl) rfl rfl rfl fun _ _ hs19 => ?_); clear hs18
     refine sq rfl (st_extract hs19 (Ev.t 1 rfl) rfl rfl rfl fun _ _ hs20 => ?_); clear hs19
     refine sq rfl (st_assign hs20 (Ev.t 1 rfl) rfl rfl fun _ _ hs21 => ?_); clear hs20
     refine sq rfl (st_assign hs21 (Ev.t 1 rfl) rfl rfl fun _ _ hs22 => ?_); clear hs21
     refine hK16 _ _ ?_; clear hK16
     have hs23 := hs22.keep [0, 1, 10, 11, 12, 13] [_, _, _, _, _, _] rfl; clear hs22
     refine cd_region fun K17 hK17 => ?_
     refine sq rfl (st_move hs23 (Ev.t 0 rfl) rfl rfl fun _ _ hs24 => ?_); clear hs23
     refine hK17 _ _ ?_; clear hK17
     have hs25 := hs24.keep [0, 2, 3, 4, 5, 6] [_, _, _, _, _, _] rfl; clear hs24
     have hc18 : false = false := rfl
     refine cd_cond hs25 (Ev.t 0 rfl) (fun h => absurd (hc18.symm.trans h) (by decide)) (fun _ => ?_)
     refine cd_skip ?_
     refine th_norm (hK15 _ _ ?_)
     refine cd_region fun K19 hK19 => ?_
     refine sq rfl (st_alloc hs25 rfl rfl zeroValue3 rfl fun b20 _ _ hs26 => ?_); clear hs25
     refine sq rfl (st_store (l' := [.int .i64 0]) (vs := [.int .i64 0]) (i := 0) hs26 (Ev.t 0 rfl) (.const _) sizeOf3 rfl rfl rfl rfl rfl rfl fun _ _ hs27 => ?_); clear hs26
     have hs28 := hs27.asB (_ :: _ :: _ :: _) rfl; clear hs27
     refine hK19 _ _ ?_; clear hK19
     have hs29 := hs28.keep [0, 3, 4, 5, 6] [_, _, _, _, _] rfl; clear hs28
     refine cd_seq fun K21 hK21 => ?_
     refine wpIn_label ?_
     refine hK21 _ _ ?_; clear hK21
     refine cd_seq fun K22 hK22 => ?_
     refine cd_region fun K23 hK23 => ?_
     refine sq rfl (st_loadA (o := 0) (off := 0) (vs := (boxL b A n cp A2 n2 c2 A3 n3 c3 m)) hs29 (Ev.t 3 rfl) rfl rfl isAgg66 sizeOf66 (hq1.kp (Kp.viaM hkW hs29.kp hMW) (by simpa using hq1.neM (Nat.succ_pos _) hm)) rfl fun _ _ hs30 => ?_); clear hs29
     refine sq rfl (st_field (o' := 0) hs30 (Ev.t 3 rfl) rfl rfl runUnderlying71 rfl sizeOf3 rfl rfl fun _ _ hs31 => ?_); clear hs30
     refine sq rfl (st_load1 (o := 0) (off := 0) (v := .int .i64 (k : Int)) hs31 (Ev.t 0 rfl) rfl rfl isAgg3 (hs31.cells 1 rfl) rfl fun _ _ hs32 => ?_); clear hs31
     refine sq rfl (st_call (vs := [.agg ⟨(boxL b A n cp A2 n2 c2 A3 n3 c3 m)⟩, .int .i64 (k : Int)]) hs32 (.func _) ⟨(Ev.t 2 rfl), (Ev.t 0 rfl), trivial⟩ rfl rfl call48 rfl (numbers_b b A n cp A2 n2 c2 A3 n3 c3 m (k : Int) _) fun v26 bs27 a_33 w_33 hp33 hs33 => ?_); clear hs32
     obtain ⟨b24, b25, rfl, rfl⟩ := hp33
     have hs34 := Sx.as (T' := [_, _, _, _, _, _, _, _, _]) (B' := _ :: _ :: _ :: _ :: _ :: _) rfl rfl hs33; clear hs33
     refine hK23 _ _ ?_; clear hK23
     have hs35 := hs34.keep [0, 4, 5, 6, 7, 8] [_, _, _, _, _, _] rfl; clear hs34
     refine cd_block ?_
     refine cd_rangeY (intL1) (nums x13) (fun i B_ => ∃ (es9 : Array MapEntry) (clk9 : Nat), (Ents keyV (memo b ss) es9) ∧ B_ = ((b25, some (.cells ⟨[.int .i64 (k : Int)]⟩ 3 (0, 0))) :: (b24, some (.cells ⟨(boxL b A n cp A2 n2 c2 A3 n3 c3 m)⟩ 66 (0, 0))) :: (b20, some (.cells ⟨[.int .i64 (((((nums x13).take i).map (fun x_ => cnt (right b) ((its b.rolls ss).drop (k + 1)) (a + x_ * x11.price))).sum : Nat) : Int)]⟩ 3 (0, 0))) :: (b2, some (.cells ⟨[.int .i64 (k : Int), .int .i64 a]⟩ 71 (0, 0))) :: (m, some (.map es9 clk9)) :: (marks []))) (fun c_ B_ => (c_ = .exit 0 ∧ ∃ (es9 : Array MapEntry) (clk9 : Nat), (Ents keyV (memo b ss) es9) ∧ B_ = ((b25, some (.cells ⟨[.int .i64 (k : Int)]⟩ 3 (0, 0))) :: (b24, some (.cells ⟨(boxL b A n cp A2 n2 c2 A3 n3 c3 m)⟩ 66 (0, 0))) :: (b20, some (.cells ⟨[.int .i64 (cnt (right b) ((its b.rolls ss).drop k) a : Int)]⟩ 3 (0, 0))) :: (b2, some (.cells ⟨[.int .i64 (k : Int), .int .i64 a]⟩ 71 (0, 0))) :: (m, some (.map es9 clk9)) :: (marks [])))) (((b25, some (.cells ⟨[.int .i64 (k : Int)]⟩ 3 (0, 0))) :: (b24, some (.cells ⟨(boxL b A n cp A2 n2 c2 A3 n3 c3 m)⟩ 66 (0, 0))) :: (b20, some (.cells ⟨[.int .i64 0]⟩ 3 (0, 0))) :: (b2, some (.cells ⟨[.int .i64 (k : Int), .int .i64 a]⟩ 71 (0, 0))) :: (m, some (.map es clk)) :: (marks [])).map (·.1)) hs35 (Ev.t 0 rfl) call74 (numbers_seq b A n cp A2 n2 c2 A3 n3 c3 m ss k x13 hx13 b24 b25 (by have := hwf.len; have := hwf.n4; omega) (by omega)) ?_ ?_ ?_ (fun _ => rfl) (by kernel_rfl) (by decide) ?_ ?_ ?_ ?_
     · exact ⟨es, clk, hE, rfl⟩
     · rintro i_ B_ ⟨es9, clk9, hE9, rfl⟩; exact ⟨rfl, (by simp [isSome1, marks])⟩
     · rintro c_ B_ h_
       rcases h_ with ⟨rfl, es9, clk9, hE9, rfl⟩ <;> exact ⟨rfl, (by simp [isSome1, marks])⟩
     · rintro i B_ W_ ⟨es9, clk9, hE9, rfl⟩ hk_ ht_
       exact ⟨SlAt.kpMap hS hk_ hm (fun _ => Nat.succ_pos _), CellsAt.of_block (ht_ _ (mem_nth (i := 1) rfl) _ rfl), CellsAt.of_block (ht_ _ (mem_nth (i := 0) rfl) _ rfl)⟩
     · rintro l_ i j_ B_ a_36 w_36 hxi ⟨es9, clk9, hE9, rfl⟩ hkR hs36; clear hs35
       have hs37 : Sx 72 [] [(34, .int .i64 j_), (33, .func (.func 74) ⟨[]⟩ ⟨[.pointer (some ⟨b24, 0, none⟩), .pointer (some ⟨b25, 0, none⟩)]⟩), (7, .pointer (some ⟨b20, 0, none⟩)), (4, .int .i64 0), (3, .pointer (some ⟨b2, 0, none⟩)), (1, .pointer (some ⟨t1, 0, none⟩)), (2, .pointer (some ⟨t2, 0, none⟩))] ((b25, some (.cells ⟨[.int .i64 (k : Int)]⟩ 3 (0, 0))) :: (b24, some (.cells ⟨(boxL b A n cp A2 n2 c2 A3 n3 c3 m)⟩ 66 (0, 0))) :: (b20, some (.cells ⟨[.int .i64 (((((nums x13).take i).map (fun x_ => cnt (right b) ((its b.rolls ss).drop (k + 1)) (a + x_ * x11.price))).sum : Nat) : Int)]⟩ 3 (0, 0))) :: (b2, some (.cells ⟨[.int .i64 (k : Int), .int .i64 a]⟩ 71 (0, 0))) :: (m, some (.map es9 clk9)) :: (marks [])) (((b25, some (.cells ⟨[.int .i64 (k : Int)]⟩ 3 (0, 0))) :: (b24, some (.cells ⟨(boxL b A n cp A2 n2 c2 A3 n3 c3 m)⟩ 66 (0, 0))) :: (b20, some (.cells ⟨[.int .i64 0]⟩ 3 (0, 0))) :: (b2, some (.cells ⟨[.int .i64 (k : Int), .int .i64 a]⟩ 71 (0, 0))) :: (m, some (.map es clk)) :: (marks [])).map (·.1)) w_36 _ _ := hs36; clear hs36
       refine cd_region1 ?_
       refine sq rfl (st_assign hs37 (Ev.t 0 rfl) rfl rfl fun _ _ hs38 => ?_); clear hs37
       refine wpListIn_nil ?_
       have hs39 := hs38.keep [0, 2, 3, 4, 5, 6, 7] [_, _, _, _, _, _, _] rfl; clear hs38
       refine th_norm ⟨_, _, hs39, (by simp [isSome1, marks]), fun w_40 hkR2 hMR2 hs40 => ?_⟩; clear hs39
       have hs41 : Sx 72 [] [(8, .int .i64 j_), (33, .func (.func 74) ⟨[]⟩ ⟨[.pointer (some ⟨b24, 0, none⟩), .pointer (some ⟨b25, 0, none⟩)]⟩), (7, .pointer (some ⟨b20, 0, none⟩)), (4, .int .i64 0), (3, .pointer (some ⟨b2, 0, none⟩)), (1, .pointer (some ⟨t1, 0, none⟩)), (2, .pointer (some ⟨t2, 0, none⟩))] ((b25, some (.cells ⟨[.int .i64 (k : Int)]⟩ 3 (0, 0))) :: (b24, some (.cells ⟨(boxL b A n cp A2 n2 c2 A3 n3 c3 m)⟩ 66 (0, 0))) :: (b20, some (.cells ⟨[.int .i64 (((((nums x13).take i).map (fun x_ => cnt (right b) ((its b.rolls ss).drop (k + 1)) (a + x_ * x11.price))).sum : Nat) : Int)]⟩ 3 (0, 0))) :: (b2, some (.cells ⟨[.int .i64 (k : Int), .int .i64 a]⟩ 71 (0, 0))) :: (m, some (.map es9 clk9)) :: (marks [])) (((b25, some (.cells ⟨[.int .i64 (k : Int)]⟩ 3 (0, 0))) :: (b24, some (.cells ⟨(boxL b A n cp A2 n2 c2 A3 n3 c3 m)⟩ 66 (0, 0))) :: (b20, some (.cells ⟨[.int .i64 (((((nums x13).take i).map (fun x_ => cnt (right b) ((its b.rolls ss).drop (k + 1)) (a + x_ * x11.price))).sum : Nat) : Int)]⟩ 3 (0, 0))) :: (b2, some (.cells ⟨[.int .i64 (k : Int), .int .i64 a]⟩ 71 (0, 0))) :: (m, some (.map es9 clk9)) :: (marks [])).map (·.1)) w_40 _ _ := hs40; clear hs40
       have hkW := hkR2
       have hMW := hMR2
       have hj := nums_at hxi
       have hmb := mul_bd (m := j_) (p := x11.price) ⟨by omega, by omega⟩ hpr
       have hpb := part_bd hwf hx11 hx13 (a := a) hxi
       refine cd_block ?_
       refine cd_drawn mixed hs41 [⟨35, [], Is (.pointer (some ⟨b2, 0, none⟩))⟩, ⟨36, [0], Is (.int .i64 (k : Int))⟩, ⟨37, [1], Is (.int .i64 ((k : Int) + 1))⟩, ⟨38, [], Is (.pointer (some ⟨b2, 1, none⟩))⟩, ⟨39, [3], Is (.int .i64 a)⟩, ⟨40, [], Is (.int .i64 j_)⟩, ⟨41, [], Is (.pointer (some ⟨t1, 0, none⟩))⟩, ⟨42, [6], Is (.pointer (some ⟨t1, 0, none⟩))⟩, ⟨43, [7], Is (.slice A n cp)⟩, ⟨44, [], Is (.pointer (some ⟨b2, 0, none⟩))⟩, ⟨45, [9], Is (.int .i64 (k : Int))⟩, ⟨46, [8, 10], Is (.pointer (some ⟨b12, o12 + k * 5, none⟩))⟩, ⟨47, [11], Is (.pointer (some ⟨b12, o12 + k * 5, none⟩))⟩, ⟨48, [12], Is (.int .i64 x11.price)⟩, ⟨49, [5, 13], Is (.int .i64 (j_ * x11.price))⟩, ⟨50, [4, 14], Is (.int .i64 (a + (j_ * x11.price)))⟩, ⟨51, [2, 15], Is (.agg ⟨[.int .i64 ((k : Int) + 1), .int .i64 (a + (j_ * x11.price))]⟩)⟩, ⟨9, [], fun v_ bs_ => ∃ b29, v_ = .pointer (some ⟨b29, 0, none⟩) ∧ bs_ = [(b29, some (.cells ⟨[.int .i64 0, .int .i64 0]⟩ 71 (0, 0)))]⟩] (by kernel_rfl) (by kernel_rfl) fun K28 hK28 => ⟨⟨?_, ?_, ?_, ?_, ?_, ?_, ?_, ?_, ?_, ?_, ?_, ?_, ?_, ?_, ?_, ?_, ?_, ?_, trivial⟩, ?_⟩
       · rintro T_ B_ a_ w_ K_ hT hB hf hsD hk
         exact ob rfl rfl (st_field (o' := 0) hsD (evT hT 4 rfl) rfl hf runUnderlying71 rfl sizeOf3 rfl rfl fun _ _ => hk _ _ _ _ ⟨rfl, rfl⟩)
       · rintro T_ B_ a_ w_ K_ hT hB _ _ ⟨rfl, rfl⟩ h35 - hf hsD hk
         exact ob rfl rfl (st_load1 (o := 0) (off := 0) (v := .int .i64 (k : Int)) hsD (Ev.tmp h35) rfl hf isAgg3 (hsD.cellsM (inB hB 3 rfl)) rfl fun _ _ => hk _ _ _ _ ⟨rfl, rfl⟩)
       · rintro T_ B_ a_ w_ K_ hT hB _ _ ⟨rfl, rfl⟩ h36 - hf hsD hk
         exact ob rfl rfl (st_add (z := (k : Int) + 1) hsD (Ev.tmp h36) (.const _) rfl hf rfl (by omega) fun _ _ => hk _ _ _ _ ⟨rfl, rfl⟩)
       · rintro T_ B_ a_ w_ K_ hT hB hf hsD hk
         exact ob rfl rfl (st_field (o' := 1) hsD (evT hT 4 rfl) rfl hf runUnderlying71 rfl sizeOf3 rfl rfl fun _ _ => hk _ _ _ _ ⟨rfl, rfl⟩)
       · rintro T_ B_ a_ w_ K_ hT hB _ _ ⟨rfl, rfl⟩ h38 - hf hsD hk
         exact ob rfl rfl (st_load1 (o := 0) (off := 1) (v := .int .i64 a) hsD (Ev.tmp h38) rfl hf isAgg3 (hsD.cellsM (inB hB 3 rfl)) rfl fun _ _ => hk _ _ _ _ ⟨rfl, rfl⟩)
       · rintro T_ B_ a_ w_ K_ hT hB hf hsD hk
         exact ob rfl rfl (st_move hsD (evT hT 0 rfl) rfl hf fun _ _ => hk _ _ _ _ ⟨rfl, rfl⟩)
       · rintro T_ B_ a_ w_ K_ hT hB hf hsD hk
         exact ob rfl rfl (st_field (o' := 0) hsD (evT hT 5 rfl) rfl hf runUnderlying66 rfl sizeOf25 rfl rfl fun _ _ => hk _ _ _ _ ⟨rfl, rfl⟩)
       · rintro T_ B_ a_ w_ K_ hT hB _ _ ⟨rfl, rfl⟩ h41 - hf hsD hk
         exact ob rfl rfl (st_field (o' := 0) hsD (Ev.tmp h41) rfl hf runUnderlying25 rfl sizeOf22 rfl rfl fun _ _ => hk _ _ _ _ ⟨rfl, rfl⟩)
       · rintro T_ B_ a_ w_ K_ hT hB _ _ ⟨rfl, rfl⟩ h42 - hf hsD hk
         exact ob rfl rfl (st_load1 (o := 0) (off := 0) (v := .slice A n cp) hsD (Ev.tmp h42) rfl hf isAgg22 (hq1.kp (Kp.viaM hkW hsD.kp hMW) (by simpa using hq1.neM (Nat.succ_pos _) hm)) rfl fun _ _ => hk _ _ _ _ ⟨rfl, rfl⟩)
       · rintro T_ B_ a_ w_ K_ hT hB hf hsD hk
         exact ob rfl rfl (st_field (o' := 0) hsD (evT hT 4 rfl) rfl hf runUnderlying71 rfl sizeOf3 rfl rfl fun _ _ => hk _ _ _ _ ⟨rfl, rfl⟩)
       · rintro T_ B_ a_ w_ K_ hT hB _ _ ⟨rfl, rfl⟩ h44 - hf hsD hk
         exact ob rfl rfl (st_load1 (o := 0) (off := 0) (v := .int .i64 (k : Int)) hsD (Ev.tmp h44) rfl hf isAgg3 (hsD.cellsM (inB hB 3 rfl)) rfl fun _ _ => hk _ _ _ _ ⟨rfl, rfl⟩)
       · rintro T_ B_ a_ w_ K_ hT hB _ _ ⟨rfl, rfl⟩ h43 - _ _ ⟨rfl, rfl⟩ h45 - hf hsD hk
         exact ob rfl rfl (st_indexM (o' := o12 + k * 5) hsD (Ev.tmp h43) (Ev.tmp h45) rfl hf hA12 runUnderlying22 sizeOf46 ⟨by omega, by have := hP.len; have := (List.getElem?_eq_some_iff.1 hx11).1; omega⟩ rfl fun _ _ => hk _ _ _ _ ⟨rfl, rfl⟩)
       · rintro T_ B_ a_ w_ K_ hT hB _ _ ⟨rfl, rfl⟩ h46 - hf hsD hk
         exact ob rfl rfl (st_field (o' := o12 + k * 5) hsD (Ev.tmp h46) rfl hf runUnderlying46 rfl sizeOf3 rfl rfl fun _ _ => hk _ _ _ _ ⟨rfl, rfl⟩)
       · rintro T_ B_ a_ w_ K_ hT hB _ _ ⟨rfl, rfl⟩ h47 - hf hsD hk
         exact ob rfl rfl (st_load1 (o := o12 + k * 5) (off := 0) (v := .int .i64 x11.price) hsD (Ev.tmp h47) rfl hf isAgg3 (hc12.kp (Kp.viaM hkW hsD.kp hMW) (by simpa using hc12.neM (Nat.succ_pos _) hm)) rfl fun _ _ => hk _ _ _ _ ⟨rfl, rfl⟩)
       · rintro T_ B_ a_ w_ K_ hT hB _ _ ⟨rfl, rfl⟩ h40 - _ _ ⟨rfl, rfl⟩ h48 - hf hsD hk
         exact ob rfl rfl (st_mul (z := j_ * x11.price) hsD (Ev.tmp h40) (Ev.tmp h48) rfl hf rfl (by omega) fun _ _ => hk _ _ _ _ ⟨rfl, rfl⟩)
       · rintro T_ B_ a_ w_ K_ hT hB _ _ ⟨rfl, rfl⟩ h39 - _ _ ⟨rfl, rfl⟩ h49 - hf hsD hk
         exact ob rfl rfl (st_add (z := a + (j_ * x11.price)) hsD (Ev.tmp h39) (Ev.tmp h49) rfl hf rfl (by omega) fun _ _ => hk _ _ _ _ ⟨rfl, rfl⟩)
       · rintro T_ B_ a_ w_ K_ hT hB _ _ ⟨rfl, rfl⟩ h37 - _ _ ⟨rfl, rfl⟩ h50 - hf hsD hk
         exact ob rfl rfl (st_build hsD (qs := [(0, .int .i64 ((k : Int) + 1)), (1, .int .i64 (a + (j_ * x11.price)))]) (v := .agg ⟨[.int .i64 ((k : Int) + 1), .int .i64 (a + (j_ * x11.price))]⟩) ⟨(Ev.tmp h37), (Ev.tmp h50), trivial⟩ rfl hf rfl (fun _ => by kernel_rfl) fun _ _ => hk _ _ _ _ ⟨rfl, rfl⟩)
       · rintro T_ B_ a_ w_ K_ hT hB hf hsD hk
         exact ob rfl rfl (st_alloc hsD rfl hf zeroValue71 rfl fun b29 _ _ => hk _ _ _ _ ⟨b29, rfl, rfl⟩)
       rintro _ _ ⟨rfl, rfl⟩ _ _ ⟨rfl, rfl⟩ _ _ ⟨rfl, rfl⟩ _ _ ⟨rfl, rfl⟩ _ _ ⟨rfl, rfl⟩ _ _ ⟨rfl, rfl⟩ _ _ ⟨rfl, rfl⟩ _ _ ⟨rfl, rfl⟩ _ _ ⟨rfl, rfl⟩ _ _ ⟨rfl, rfl⟩ _ _ ⟨rfl, rfl⟩ _ _ ⟨rfl, rfl⟩ _ _ ⟨rfl, rfl⟩ _ _ ⟨rfl, rfl⟩ _ _ ⟨rfl, rfl⟩ _ _ ⟨rfl, rfl⟩ _ _ ⟨rfl, rfl⟩ _ _ ⟨b29, rfl, rfl⟩ a_42 w_42 hs42; clear hs41
       have hs43 := Sx.as (T' := [_, _, _, _, _, _, _, _, _, _, _, _, _, _, _, _, _, _, _, _, _, _, _, _, _]) (B' := _ :: _ :: _ :: _ :: _ :: _ :: _) rfl rfl hs42; clear hs42
       refine sq rfl (st_store (l' := [.int .i64 ((k : Int) + 1), .int .i64 (a + (j_ * x11.price))]) (vs := [.int .i64 ((k : Int) + 1), .int .i64 (a + (j_ * x11.price))]) (i := 0) hs43 (Ev.t 17 rfl) (Ev.t 16 rfl) sizeOf71 rfl rfl rfl rfl rfl rfl fun _ _ hs44 => ?_); clear hs43
       have hs45 := hs44.asB (_ :: _ :: _ :: _ :: _ :: _ :: _) rfl; clear hs44
       refine hK28 _ _ ?_; clear hK28
       refine cd_seq fun K30 hK30 => ?_
       refine cd_region fun K31 hK31 => ?_
       refine sq rfl (st_field (o' := 1) hs45 (Ev.t 17 rfl) rfl rfl runUnderlying71 rfl sizeOf3 rfl rfl fun _ _ hs46 => ?_); clear hs45
       refine sq rfl (st_load1 (o := 0) (off := 1) (v := .int .i64 (a + (j_ * x11.price))) hs46 (Ev.t 0 rfl) rfl rfl isAgg3 (hs46.cells 0 rfl) rfl fun _ _ hs47 => ?_); clear hs46
       refine sq rfl (st_field (o' := 0) hs47 (Ev.t 25 rfl) rfl rfl runUnderlying66 rfl sizeOf25 rfl rfl fun _ _ hs48 => ?_); clear hs47
       refine sq rfl (st_field (o' := 2) hs48 (Ev.t 0 rfl) rfl rfl runUnderlying25 rfl sizeOf3 rfl rfl fun _ _ hs49 => ?_); clear hs48
       refine sq rfl (st_load1 (o := 0) (off := 2) (v := .int .i64 b.count) hs49 (Ev.t 0 rfl) rfl rfl isAgg3 (hq1.kp (Kp.viaM hkW hs49.kp hMW) (by simpa using hq1.neM (Nat.succ_pos _) hm)) rfl fun _ _ hs50 => ?_); clear hs49
       refine sq rfl (st_field (o' := 0) hs50 (Ev.t 28 rfl) rfl rfl runUnderlying66 rfl sizeOf25 rfl rfl fun _ _ hs51 => ?_); clear hs50
       refine sq rfl (st_field (o' := 3) hs51 (Ev.t 0 rfl) rfl rfl runUnderlying25 rfl sizeOf3 rfl rfl fun _ _ hs52 => ?_); clear hs51
       refine sq rfl (st_load1 (o := 0) (off := 3) (v := .int .i64 b.err) hs52 (Ev.t 0 rfl) rfl rfl isAgg3 (hq1.kp (Kp.viaM hkW hs52.kp hMW) (by simpa using hq1.neM (Nat.succ_pos _) hm)) rfl fun _ _ hs53 => ?_); clear hs52
       refine sq rfl (st_add (z := b.count + b.err) hs53 (Ev.t 3 rfl) (Ev.t 0 rfl) rfl rfl rfl (by omega) fun _ _ hs54 => ?_); clear hs53
       refine sq rfl (st_cmp (c := decide ((a + (j_ * x11.price) : Int) > (b.count + b.err))) hs54 (Ev.t 7 rfl) (Ev.t 0 rfl) rfl rfl rfl rfl fun _ _ hs55 => ?_); clear hs54
       refine hK31 _ _ ?_; clear hK31
       refine cd_cond hs55 (Ev.t 0 rfl) (fun hc32 => ?_) (fun hc32 => ?_)
       · refine cd_exit ?_
         refine th_exit ?_
         refine in_miss rfl ?_
         have hbr := sum_break (b := b) (i := (x11.price, x13)) (l := (its b.rolls ss).drop (k + 1)) (by rw [← hdrop]; exact hwf.small.drop k) (x := a) hxi (by simpa using hc32)
         rw [← hdrop] at hbr
         have hs56 := hs55.asB ((b29, some (.cells ⟨[.int .i64 ((k : Int) + 1), .int .i64 (a + (j_ * x11.price))]⟩ 71 (0, 0))) :: (b25, some (.cells ⟨[.int .i64 (k : Int)]⟩ 3 (0, 0))) :: (b24, some (.cells ⟨(boxL b A n cp A2 n2 c2 A3 n3 c3 m)⟩ 66 (0, 0))) :: (b20, some (.cells ⟨[.int .i64 (cnt (right b) ((its b.rolls ss).drop k) a : Int)]⟩ 3 (0, 0))) :: (b2, some (.cells ⟨[.int .i64 (k : Int), .int .i64 a]⟩ 71 (0, 0))) :: (m, some (.map es9 clk9)) :: (marks [])) (by (rw [← hbr]) <;> rfl); clear hs55
         exact ⟨_, _, _, ⟨rfl, es9, clk9, hE9, rfl⟩, (fun p hp => by simp only [List.mem_cons] at hp; rcases hp with rfl | rfl | rfl | rfl | rfl | hp; exact mem_nth (i := 1) rfl; exact mem_nth (i := 2) rfl; exact mem_nth (i := 3) rfl; exact mem_nth (i := 4) rfl; exact mem_nth (i := 5) rfl; exact List.mem_cons_of_mem _ (List.mem_cons_of_mem _ (List.mem_cons_of_mem _ (List.mem_cons_of_mem _ (List.mem_cons_of_mem _ (List.mem_cons_of_mem _ (hp))))))), hs56⟩
       · refine cd_skip ?_
         refine th_norm (hK30 _ _ ?_)
         have hs56 := Sx.front hs55 5 rfl; clear hs55
         refine cd_drawS1 mixed [3] ⟨MX b ss, fun n_ x_ => match n_ with | 0 => [] | _ => [(65, .int .i64 (cnt (right b) ((its b.rolls ss).drop (k + 1)) (a + j_ * x11.price) : Int))], fun n_ x_ => match n_ with | 0 => (mapC m es9 clk9) | _ => (mapC m x_.es x_.clk)⟩ (MX.zero b ss) hs56 [⟨62, [], Is (.int .i64 (((((nums x13).take i).map (fun x_ => cnt (right b) ((its b.rolls ss).drop (k + 1)) (a + x_ * x11.price))).sum : Nat) : Int))⟩, ⟨63, [], Is (.func (.func 73) ⟨[]⟩ ⟨[.pointer (some ⟨t1, 0, none⟩), .pointer (some ⟨t2, 0, none⟩)]⟩)⟩, ⟨64, [], Is (.agg ⟨[.int .i64 ((k : Int) + 1), .int .i64 (a + (j_ * x11.price))]⟩)⟩, ⟨65, [1, 2], Is undef⟩] (by kernel_rfl) (fun n_ _ => by rcases n_ with _ | _ <;> rfl) (by kernel_rfl) ⟨⟨?_, ?_, ?_, ?_, trivial⟩, ?_⟩
         · rintro T_ B_ a_ w_ K_ hT hB hf hsD hk
           exact ob rfl rfl (st_load1 (o := 0) (off := 0) (v := .int .i64 (((((nums x13).take i).map (fun x_ => cnt (right b) ((its b.rolls ss).drop (k + 1)) (a + x_ * x11.price))).sum : Nat) : Int)) hsD (evT hT 30 rfl) rfl hf isAgg3 (hsD.cellsM (inB hB 3 rfl)) rfl fun _ _ => hk _ _ _ _ ⟨rfl, rfl⟩)
         · rintro T_ B_ a_ w_ K_ hT hB hf hsD hk
           exact ob rfl rfl (st_load1 (o := 0) (off := 0) (v := .func (.func 73) ⟨[]⟩ ⟨[.pointer (some ⟨t1, 0, none⟩), .pointer (some ⟨t2, 0, none⟩)]⟩) hsD (evT hT 34 rfl) rfl hf isAgg69 (hq2.kp (Kp.viaM hkW hsD.kp hMW) (by simpa using hq2.neM (Nat.succ_pos _) hm)) rfl fun _ _ => hk _ _ _ _ ⟨rfl, rfl⟩)
         · rintro T_ B_ a_ w_ K_ hT hB hf hsD hk
           exact ob rfl rfl (st_loadA (o := 0) (off := 0) (vs := [.int .i64 ((k : Int) + 1), .int .i64 (a + (j_ * x11.price))]) hsD (evT hT 27 rfl) rfl hf isAgg71 sizeOf71 (hsD.cellsM (inB hB 0 rfl)) rfl fun _ _ => hk _ _ _ _ ⟨rfl, rfl⟩)
         · rintro T_ B_ a_ w_ K_ x_ hT hB _ _ ⟨rfl, rfl⟩ h63 - _ _ ⟨rfl, rfl⟩ h64 - hf hsD hk
           exact ob rfl rfl (st_callGF (C := mapC m es9 clk9) (vs := [.agg ⟨[.int .i64 ((k : Int) + 1), .int .i64 (a + j_ * x11.price)]⟩]) hsD (Ev.tmp (List.mem_append_right _ h63)) ⟨Ev.tmp (List.mem_append_right _ h64), trivial⟩ rfl hf call73 rfl mapC_some (by have h := ih (a + j_ * x11.price) es9 clk9 w_ (by omega) (SlAt.kpMap hP (Kp.viaM hkW hsD.kp hMW) hm (fun _ => Nat.succ_pos _)) (SlAt.kpMap hS (Kp.viaM hkW hsD.kp hMW) hm (fun _ => Nat.succ_pos _)) (hq1.kp (Kp.viaM hkW hsD.kp hMW) (by simpa using hq1.neM (Nat.succ_pos _) hm)) (hq2.kp (Kp.viaM hkW hsD.kp hMW) (by simpa using hq2.neM (Nat.succ_pos _) hm)) hE9; rw [Int.natCast_add] at h; exact h) (fun v_ B_ a_1 w_1 hp9 _ h1 => by obtain ⟨rfl, es8, clk8, rfl, hE8⟩ := hp9; exact hk ⟨es8, clk8, hE8⟩ _ _ h1))
         rintro _ _ ⟨rfl, rfl⟩
         rintro _ _ ⟨rfl, rfl⟩
         rintro _ _ ⟨rfl, rfl⟩
         intro x_ a_57 w_57 hs57
         clear hs56
         have hs58 := Sx.as (T' := [_, _, _, _, _, _, _, _, _, _, _, _, _, _, _, _, _, _, _, _, _, _, _, _, _, _, _, _, _, _, _, _, _, _, _, _, _, _, _]) (B' := _ :: _ :: _ :: _ :: _ :: _ :: _) rfl rfl hs57; clear hs57
         refine sq rfl (st_add (z := (((((nums x13).take i).map (fun x_ => cnt (right b) ((its b.rolls ss).drop (k + 1)) (a + x_ * x11.price))).sum : Nat) : Int) + (cnt (right b) ((its b.rolls ss).drop (k + 1)) (a + j_ * x11.price) : Int)) hs58 (Ev.t 1 rfl) (Ev.t 0 rfl) rfl rfl rfl (by omega) fun _ _ hs59 => ?_); clear hs58
         refine sq rfl (st_store (l' := [.int .i64 ((((((nums x13).take i).map (fun x_ => cnt (right b) ((its b.rolls ss).drop (k + 1)) (a + x_ * x11.price))).sum : Nat) : Int) + (cnt (right b) ((its b.rolls ss).drop (k + 1)) (a + j_ * x11.price) : Int))]) (vs := [.int .i64 ((((((nums x13).take i).map (fun x_ => cnt (right b) ((its b.rolls ss).drop (k + 1)) (a + x_ * x11.price))).sum : Nat) : Int) + (cnt (right b) ((its b.rolls ss).drop (k + 1)) (a + j_ * x11.price) : Int))]) (i := 4) hs59 (Ev.t 35 rfl) (Ev.t 0 rfl) sizeOf3 rfl rfl rfl rfl rfl rfl fun _ _ hs60 => ?_); clear hs59
         have hs61 := hs60.asB (_ :: _ :: _ :: _ :: _ :: _ :: _) rfl; clear hs60
         refine wpListIn_nil ?_
         refine in_norm ?_
         have hs62 := hs61.asB ((m, some (.map x_.es x_.clk)) :: (b29, some (.cells ⟨[.int .i64 ((k : Int) + 1), .int .i64 (a + (j_ * x11.price))]⟩ 71 (0, 0))) :: (b25, some (.cells ⟨[.int .i64 (k : Int)]⟩ 3 (0, 0))) :: (b24, some (.cells ⟨(boxL b A n cp A2 n2 c2 A3 n3 c3 m)⟩ 66 (0, 0))) :: (b20, some (.cells ⟨[.int .i64 (((((nums x13).take (i + 1)).map (fun x_ => cnt (right b) ((its b.rolls ss).drop (k + 1)) (a + x_ * x11.price))).sum : Nat) : Int)]⟩ 3 (0, 0))) :: (b2, some (.cells ⟨[.int .i64 (k : Int), .int .i64 a]⟩ 71 (0, 0))) :: (marks [])) (by (rw [sum_take_succ hxi, Int.natCast_add]) <;> rfl); clear hs61
         exact ⟨_, _, _, ⟨x_.es, x_.clk, x_.h, rfl⟩, (fun p hp => by simp only [List.mem_cons] at hp; rcases hp with rfl | rfl | rfl | rfl | rfl | hp; exact mem_nth (i := 2) rfl; exact mem_nth (i := 3) rfl; exact mem_nth (i := 4) rfl; exact mem_nth (i := 5) rfl; exact mem_nth (i := 0) rfl; exact List.mem_cons_of_mem _ (List.mem_cons_of_mem _ (List.mem_cons_of_mem _ (List.mem_cons_of_mem _ (List.mem_cons_of_mem _ (List.mem_cons_of_mem _ (hp))))))), hs62⟩
     · rintro d_36 B_ a_36 w_36 ⟨es9, clk9, hE9, rfl⟩ hs36
       clear hs35
       have hs37 : Sx 72 (dmarks (d_36 :: [])) [(33, .func (.func 74) ⟨[]⟩ ⟨[.pointer (some ⟨b24, 0, none⟩), .pointer (some ⟨b25, 0, none⟩)]⟩), (7, .pointer (some ⟨b20, 0, none⟩)), (4, .int .i64 0), (3, .pointer (some ⟨b2, 0, none⟩)), (1, .pointer (some ⟨t1, 0, none⟩)), (2, .pointer (some ⟨t2, 0, none⟩))] ((b25, some (.cells ⟨[.int .i64 (k : Int)]⟩ 3 (0, 0))) :: (b24, some (.cells ⟨(boxL b A n cp A2 n2 c2 A3 n3 c3 m)⟩ 66 (0, 0))) :: (b20, some (.cells ⟨[.int .i64 (((((nums x13).take (nums x13).length).map (fun x_ => cnt (right b) ((its b.rolls ss).drop (k + 1)) (a + x_ * x11.price))).sum : Nat) : Int)]⟩ 3 (0, 0))) :: (b2, some (.cells ⟨[.int .i64 (k : Int), .int .i64 a]⟩ 71 (0, 0))) :: (m, some (.map es9 clk9)) :: (marks (d_36 :: []))) [m] w _ _ := Sx.toTail [(b25, some (.cells ⟨[.int .i64 (k : Int)]⟩ 3 (0, 0))), (b24, some (.cells ⟨(boxL b A n cp A2 n2 c2 A3 n3 c3 m)⟩ 66 (0, 0))), (b20, some (.cells ⟨[.int .i64 (((((nums x13).take (nums x13).length).map (fun x_ => cnt (right b) ((its b.rolls ss).drop (k + 1)) (a + x_ * x11.price))).sum : Nat) : Int)]⟩ 3 (0, 0))), (b2, some (.cells ⟨[.int .i64 (k : Int), .int .i64 a]⟩ 71 (0, 0))), (m, some (.map es9 clk9))] hs36; clear hs36
       rw [List.take_length] at hs37
       have hs38 := hs37.asB ((b25, some (.cells ⟨[.int .i64 (k : Int)]⟩ 3 (0, 0))) :: (b24, some (.cells ⟨(boxL b A n cp A2 n2 c2 A3 n3 c3 m)⟩ 66 (0, 0))) :: (b20, some (.cells ⟨[.int .i64 (cnt (right b) ((its b.rolls ss).drop k) a : Int)]⟩ 3 (0, 0))) :: (b2, some (.cells ⟨[.int .i64 (k : Int), .int .i64 a]⟩ 71 (0, 0))) :: (m, some (.map es9 clk9)) :: (marks (d_36 :: []))) (by (rw [hdrop, cnt_cons]) <;> rfl); clear hs37
       refine in_norm ?_
       refine th_norm (hK22 _ _ ?_)
       refine cd_region fun K33 hK33 => ?_
       refine sq rfl (st_field (o' := 8) hs38 (Ev.t 4 rfl) rfl rfl runUnderlying66 rfl sizeOf64 rfl rfl fun _ _ hs39 => ?_); clear hs38
       refine sq rfl (st_load1 (o := 0) (off := 8) (v := .map (some m)) hs39 (Ev.t 0 rfl) rfl rfl isAgg64 (hq1.kp (Kp.viaM hkW hs39.kp hMW) (by simpa using hq1.neM (Nat.succ_pos _) hm)) rfl fun _ _ hs40 => ?_); clear hs39
       refine sq rfl (st_loadA (o := 0) (off := 0) (vs := [.int .i64 (k : Int), .int .i64 a]) hs40 (Ev.t 5 rfl) rfl rfl isAgg71 sizeOf71 (hs40.cells 3 rfl) rfl fun _ _ hs41 => ?_); clear hs40
       refine sq rfl (st_load1 (o := 0) (off := 0) (v := .int .i64 (cnt (right b) ((its b.rolls ss).drop k) a : Int)) hs41 (Ev.t 4 rfl) rfl rfl isAgg3 (hs41.cells 2 rfl) rfl fun _ _ hs42 => ?_); clear hs41
       refine sq rfl (st_mapUpdate (enc := keyV) (good := memo b ss) (beq := keyEq) (q := (k, a)) (i := 4) hs42 (Ev.t 2 rfl) (Ev.t 1 rfl) (Ev.t 0 rfl) runUnderlying64 (by kernel_rfl) key_eq (fun _ _ => keyEq_eq) key_ck key_sm rfl hE9 rfl (fun es5 clk5 a_43 w_43 hE5 hs43 => ?_)); clear hs42
       have hs44 : Sx 72 (dmarks (d_36 :: [])) [(70, .int .i64 (cnt (right b) ((its b.rolls ss).drop k) a : Int)), (69, .agg ⟨[.int .i64 (k : Int), .int .i64 a]⟩), (68, .map (some m)), (67, .pointer (some ⟨t1, 8, none⟩)), (33, .func (.func 74) ⟨[]⟩ ⟨[.pointer (some ⟨b24, 0, none⟩), .pointer (some ⟨b25, 0, none⟩)]⟩), (7, .pointer (some ⟨b20, 0, none⟩)), (4, .int .i64 0), (3, .pointer (some ⟨b2, 0, none⟩)), (1, .pointer (some ⟨t1, 0, none⟩)), (2, .pointer (some ⟨t2, 0, none⟩))] ((b25, some (.cells ⟨[.int .i64 (k : Int)]⟩ 3 (0, 0))) :: (b24, some (.cells ⟨(boxL b A n cp A2 n2 c2 A3 n3 c3 m)⟩ 66 (0, 0))) :: (b20, some (.cells ⟨[.int .i64 (cnt (right b) ((its b.rolls ss).drop k) a : Int)]⟩ 3 (0, 0))) :: (b2, some (.cells ⟨[.int .i64 (k : Int), .int .i64 a]⟩ 71 (0, 0))) :: (m, some (.map es5 clk5)) :: (marks (d_36 :: []))) [m] w _ _ := hs43; clear hs43
       refine hK33 _ _ ?_; clear hK33
       have hs45 := hs44.keep [5, 6] [_, _] rfl; clear hs44
       refine cd_region fun K34 hK34 => ?_
       refine sq rfl (st_load1 (o := 0) (off := 0) (v := .int .i64 (cnt (right b) ((its b.rolls ss).drop k) a : Int)) hs45 (Ev.t 0 rfl) rfl rfl isAgg3 (hs45.cells 2 rfl) rfl fun _ _ hs46 => ?_); clear hs45
       have hs47 := hs46.keep [0, 1] [_, _] rfl; clear hs46
       refine sq rfl (st_assign hs47 (Ev.t 0 rfl) rfl rfl fun _ _ hs48 => ?_); clear hs47
       refine hK34 _ _ ?_; clear hK34
       have hs49 := hs48.keep [0] [_] rfl; clear hs48
       refine cd_retYg (B1 := [(b25, some (.cells ⟨[.int .i64 (k : Int)]⟩ 3 (0, 0))), (b24, some (.cells ⟨(boxL b A n cp A2 n2 c2 A3 n3 c3 m)⟩ 66 (0, 0))), (b20, some (.cells ⟨[.int .i64 (cnt (right b) ((its b.rolls ss).drop k) a : Int)]⟩ 3 (0, 0))), (b2, some (.cells ⟨[.int .i64 (k : Int), .int .i64 a]⟩ 71 (0, 0))), (m, some (.map es5 clk5))]) (B2 := mapC m es5 clk5) (vs := [.int .i64 (cnt (right b) ((its b.rolls ss).drop k) a : Int)]) hs49 (fun a_ w_ h => hQ0 a_ w_ h) rfl (fun _ _ hsM => ⟨.tmp 0 rfl, trivial⟩) (.cons _ (.cons _ (.cons _ (.cons _ (List.Sublist.refl _))))) mapC_some ⟨?_, es5, clk5, rfl, hE5⟩
       show Value.int .i64 _ = Value.int .i64 _
       first | rfl | (rw [hdr, cnt_nil, if_pos hrt]; rfl) | (rw [hdr, cnt_nil, if_neg hrt]; rfl)
     · rintro d_36 c_ B_ a_36 w_36 h_ hs36
       rcases h_ with ⟨rfl, es9, clk9, hE9, rfl⟩
       · skip
         skip
         clear hs35
         have hs37 : Sx 72 (dmarks (d_36 :: [])) [(33, .func (.func 74) ⟨[]⟩ ⟨[.pointer (some ⟨b24, 0, none⟩), .pointer (some ⟨b25, 0, none⟩)]⟩), (7, .pointer (some ⟨b20, 0, none⟩)), (4, .int .i64 0), (3, .pointer (some ⟨b2, 0, none⟩)), (1, .pointer (some ⟨t1, 0, none⟩)), (2, .pointer (some ⟨t2, 0, none⟩))] ((b25, some (.cells ⟨[.int .i64 (k : Int)]⟩ 3 (0, 0))) :: (b24, some (.cells ⟨(boxL b A n cp A2 n2 c2 A3 n3 c3 m)⟩ 66 (0, 0))) :: (b20, some (.cells ⟨[.int .i64 (cnt (right b) ((its b.rolls ss).drop k) a : Int)]⟩ 3 (0, 0))) :: (b2, some (.cells ⟨[.int .i64 (k : Int), .int .i64 a]⟩ 71 (0, 0))) :: (m, some (.map es9 clk9)) :: (marks (d_36 :: []))) [m] w _ _ := Sx.toTail [(b25, some (.cells ⟨[.int .i64 (k : Int)]⟩ 3 (0, 0))), (b24, some (.cells ⟨(boxL b A n cp A2 n2 c2 A3 n3 c3 m)⟩ 66 (0, 0))), (b20, some (.cells ⟨[.int .i64 (cnt (right b) ((its b.rolls ss).drop k) a : Int)]⟩ 3 (0, 0))), (b2, some (.cells ⟨[.int .i64 (k : Int), .int .i64 a]⟩ 71 (0, 0))), (m, some (.map es9 clk9))] hs36; clear hs36
         refine cd_exit ?_
         refine in_hit ?_
         refine th_norm (hK22 _ _ ?_)
         refine cd_region fun K35 hK35 => ?_
         refine sq rfl (st_field (o' := 8) hs37 (Ev.t 4 rfl) rfl rfl runUnderlying66 rfl sizeOf64 rfl rfl fun _ _ hs38 => ?_); clear hs37
         refine sq rfl (st_load1 (o := 0) (off := 8) (v := .map (some m)) hs38 (Ev.t 0 rfl) rfl rfl isAgg64 (hq1.kp (Kp.viaM hkW hs38.kp hMW) (by simpa using hq1.neM (Nat.succ_pos _) hm)) rfl fun _ _ hs39 => ?_); clear hs38
         refine sq rfl (st_loadA (o := 0) (off := 0) (vs := [.int .i64 (k : Int), .int .i64 a]) hs39 (Ev.t 5 rfl) rfl rfl isAgg71 sizeOf71 (hs39.cells 3 rfl) rfl fun _ _ hs40 => ?_); clear hs39
         refine sq rfl (st_load1 (o := 0) (off := 0) (v := .int .i64 (cnt (right b) ((its b.rolls ss).drop k) a : Int)) hs40 (Ev.t 4 rfl) rfl rfl isAgg3 (hs40.cells 2 rfl) rfl fun _ _ hs41 => ?_); clear hs40
         refine sq rfl (st_mapUpdate (enc := keyV) (good := memo b ss) (beq := keyEq) (q := (k, a)) (i := 4) hs41 (Ev.t 2 rfl) (Ev.t 1 rfl) (Ev.t 0 rfl) runUnderlying64 (by kernel_rfl) key_eq (fun _ _ => keyEq_eq) key_ck key_sm rfl hE9 rfl (fun es5 clk5 a_42 w_42 hE5 hs42 => ?_)); clear hs41
         have hs43 : Sx 72 (dmarks (d_36 :: [])) [(70, .int .i64 (cnt (right b) ((its b.rolls ss).drop k) a : Int)), (69, .agg ⟨[.int .i64 (k : Int), .int .i64 a]⟩), (68, .map (some m)), (67, .pointer (some ⟨t1, 8, none⟩)), (33, .func (.func 74) ⟨[]⟩ ⟨[.pointer (some ⟨b24, 0, none⟩), .pointer (some ⟨b25, 0, none⟩)]⟩), (7, .pointer (some ⟨b20, 0, none⟩)), (4, .int .i64 0), (3, .pointer (some ⟨b2, 0, none⟩)), (1, .pointer (some ⟨t1, 0, none⟩)), (2, .pointer (some ⟨t2, 0, none⟩))] ((b25, some (.cells ⟨[.int .i64 (k : Int)]⟩ 3 (0, 0))) :: (b24, some (.cells ⟨(boxL b A n cp A2 n2 c2 A3 n3 c3 m)⟩ 66 (0, 0))) :: (b20, some (.cells ⟨[.int .i64 (cnt (right b) ((its b.rolls ss).drop k) a : Int)]⟩ 3 (0, 0))) :: (b2, some (.cells ⟨[.int .i64 (k : Int), .int .i64 a]⟩ 71 (0, 0))) :: (m, some (.map es5 clk5)) :: (marks (d_36 :: []))) [m] w _ _ := hs42; clear hs42
         refine hK35 _ _ ?_; clear hK35
         have hs44 := hs43.keep [5, 6] [_, _] rfl; clear hs43
         refine cd_region fun K36 hK36 => ?_
         refine sq rfl (st_load1 (o := 0) (off := 0) (v := .int .i64 (cnt (right b) ((its b.rolls ss).drop k) a : Int)) hs44 (Ev.t 0 rfl) rfl rfl isAgg3 (hs44.cells 2 rfl) rfl fun _ _ hs45 => ?_); clear hs44
         have hs46 := hs45.keep [0, 1] [_, _] rfl; clear hs45
         refine sq rfl (st_assign hs46 (Ev.t 0 rfl) rfl rfl fun _ _ hs47 => ?_); clear hs46
         refine hK36 _ _ ?_; clear hK36
         have hs48 := hs47.keep [0] [_] rfl; clear hs47
         refine cd_retYg (B1 := [(b25, some (.cells ⟨[.int .i64 (k : Int)]⟩ 3 (0, 0))), (b24, some (.cells ⟨(boxL b A n cp A2 n2 c2 A3 n3 c3 m)⟩ 66 (0, 0))), (b20, some (.cells ⟨[.int .i64 (cnt (right b) ((its b.rolls ss).drop k) a : Int)]⟩ 3 (0, 0))), (b2, some (.cells ⟨[.int .i64 (k : Int), .int .i64 a]⟩ 71 (0, 0))), (m, some (.map es5 clk5))]) (B2 := mapC m es5 clk5) (vs := [.int .i64 (cnt (right b) ((its b.rolls ss).drop k) a : Int)]) hs48 (fun a_ w_ h => hQ0 a_ w_ h) rfl (fun _ _ hsM => ⟨.tmp 0 rfl, trivial⟩) (.cons _ (.cons _ (.cons _ (.cons _ (List.Sublist.refl _))))) mapC_some ⟨?_, es5, clk5, rfl, hE5⟩
         show Value.int .i64 _ = Value.int .i64 _
         first | rfl | (rw [hdr, cnt_nil, if_pos hrt]; rfl) | (rw [hdr, cnt_nil, if_neg hrt]; rfl)
   · skip
     obtain rfl := hg1 rfl
     have hs17 : Sx 72 (dmarks []) [(25, .tuple ⟨[.int .i64 (cnt (right b) ((its b.rolls ss).drop k) a : Int), .bool true]⟩), (24, .agg ⟨[.int .i64 (k : Int), .int .i64 a]⟩), (23, .map (some m)), (22, .pointer (some ⟨t1, 8, none⟩)), (16, .bool (((k : Int) : Int) == (n : Int))), (4, .int .i64 0), (3, .pointer (some ⟨b2, 0, none⟩)), (1, .pointer (some ⟨t1, 0, none⟩)), (2, .pointer (some ⟨t2, 0, none⟩))] ((b2, some (.cells ⟨[.int .i64 (k : Int), .int .i64 a]⟩ 71 (0, 0))) :: (m, some (.map es clk)) :: (marks [])) [m] w _ _ := hs16; clear hs16
     refine sq rfl (st_move hs17 (Ev.t 0 rfl) rfl rfl fun _ _ hs18 => ?_); clear hs17
     refine sq rfl (st_extract hs18 (Ev.t 0 rfl) rfl rfl rfl fun _ _ hs19 => ?_); clear hs18
     refine sq rfl (st_extract hs19 (Ev.t 1 rfl) rfl rfl rfl fun _ _ hs20 => ?_); clear hs19
     refine sq rfl (st_assign hs20 (Ev.t 1 rfl) rfl rfl fun _ _ hs21 => ?_); clear hs20
     refine sq rfl (st_assign hs21 (Ev.t 1 rfl) rfl rfl fun _ _ hs22 => ?_); clear hs21
     refine hK16 _ _ ?_; clear hK16
     have hs23 := hs22.keep [0, 1, 10, 11, 12, 13] [_, _, _, _, _, _] rfl; clear hs22
     refine cd_region fun K37 hK37 => ?_
     refine sq rfl (st_move hs23 (Ev.t 0 rfl) rfl rfl fun _ _ hs24 => ?_); clear hs23
     refine hK37 _ _ ?_; clear hK37
     have hs25 := hs24.keep [0, 2, 3, 4, 5, 6] [_, _, _, _, _, _] rfl; clear hs24
     have hc38 : true = true := rfl
     refine cd_cond hs25 (Ev.t 0 rfl) (fun _ => ?_) (fun h => absurd (hc38.symm.trans h) (by decide))
     refine cd_region fun K39 hK39 => ?_
     refine sq rfl (st_move hs25 (Ev.t 1 rfl) rfl rfl fun _ _ hs26 => ?_); clear hs25
     have hs27 := hs26.keep [0, 1, 2, 4, 5, 6] [_, _, _, _, _, _] rfl; clear hs26
     refine sq rfl (st_assign hs27 (Ev.t 0 rfl) rfl rfl fun _ _ hs28 => ?_); clear hs27
     refine hK39 _ _ ?_; clear hK39
     have hs29 := hs28.keep [0] [_] rfl; clear hs28
     refine cd_retYg (B1 := [(b2, some (.cells ⟨[.int .i64 (k : Int), .int .i64 a]⟩ 71 (0, 0))), (m, some (.map es clk))]) (B2 := mapC m es clk) (vs := [.int .i64 (cnt (right b) ((its b.rolls ss).drop k) a : Int)]) hs29 (fun a_ w_ h => th_ret (hQ0 a_ w_ h)) rfl (fun _ _ hsM => ⟨.tmp 0 rfl, trivial⟩) (.cons _ (List.Sublist.refl _)) mapC_some ⟨?_, es, clk, rfl, hE⟩
     show Value.int .i64 _ = Value.int .i64 _
     first | rfl | (rw [hdr, cnt_nil, if_pos hrt]; rfl) | (rw [hdr, cnt_nil, if_neg hrt]; rfl)
end Go.Proofs.YtcnndpedeofbmaaDoor
