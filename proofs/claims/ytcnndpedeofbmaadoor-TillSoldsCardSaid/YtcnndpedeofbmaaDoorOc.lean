/-
  THE TILL's LAWS: what the readings of the arguments say of their cells; what the listed table of functions says.
-/
import Derived.Test.YtcnndpedeofbmaaDoorTie
import Derived.Test.YtcnndpedeofbmaaDoorCards
import Derived.Test.YtcnndpedeofbmaaDoorSd
import Derived.Test.YtcnndpedeofbmaaDoorUk
import Derived.LaidMore
import Derived.Deep.DeepHandedRow
import Derived.Deep.DeepWitnessRowRef
import Derived.OpenShut
import Derived.Stop.Joined
set_option maxRecDepth 100000
namespace Go.Proofs.YtcnndpedeofbmaaDoor
open Go Go.Sx Go.Till
theorem own : ownKnob Tryd.prog.godebug = none := by kernel_rfl
theorem laidOut : laidOutB Tryd.prog = true := by kernel_rfl
section
variable {H : Type} {enc : TypeId × Value → H} {W : World} {b : Nat} {t : TypeId} {v : Value} {d : DataW H} {ps : List MemPlace}
theorem arg_agg (hu : (match Tryd.prog.underlying t with | some (.struct _) | some (.array _ _) => true | _ => false) = true) (hok : Value.okWide Tryd.prog W .any b t v)
    (h : DataW.Trod enc Tryd.prog W 0 (fun _ => true) true t v d ps) (hw : ∀ n ∈ d.weights Tryd.prog t, n ≤ reachBytes) : ∃ l m, v = .agg ⟨l⟩ ∧ Rd enc Tryd.prog W m t l (d, ps) := by
  have : ∃ cs, v = .agg cs := by
    unfold Value.okWide at hok
    split at hok
    · obtain ⟨cs, h, -⟩ := hok; exact ⟨cs, h⟩
    · obtain ⟨cs, h, -⟩ := hok; exact ⟨cs, h⟩
    · rename_i h1 h2
      exfalso
      generalize Tryd.prog.underlying t = u at hu h1 h2
      cases u with
      | none => cases hu
      | some u => cases u <;> first | (cases hu; done) | (exact h1 _ rfl) | exact h2 _ _ rfl
  obtain ⟨⟨l⟩, rfl⟩ := this
  obtain ⟨m, hm⟩ := h
  exact ⟨l, m, rfl, hm, hw⟩
theorem arg_slice {e : TypeId} (hu : Tryd.prog.underlying t = some (.slice e)) (hok : Value.okWide Tryd.prog W .any b t v)
    (h : DataW.Trod enc Tryd.prog W 0 (fun _ => true) true t v d ps) (hw : ∀ n ∈ d.weights Tryd.prog t, n ≤ reachBytes) : ∃ m, Rd enc Tryd.prog W m t [v] (d, ps) := by
  obtain ⟨m, hm⟩ := h
  refine ⟨m, ?_, hw⟩
  have : v.cells.toList = [v] := by
    unfold Value.okWide at hok
    rw [hu] at hok
    unfold Cell.okWide Cell.ok at hok
    rw [hu] at hok
    cases v <;> first | rfl | (exfalso; simp at hok; done) | (exfalso; exact hok)
  rw [this] at hm; exact hm
theorem arg_int (hu : Tryd.prog.underlying t = some (.int .i64)) (hok : Value.okWide Tryd.prog W .any b t v)
    (h : DataW.Trod enc Tryd.prog W 0 (fun _ => true) true t v d ps) (hw : ∀ n ∈ d.weights Tryd.prog t, n ≤ reachBytes) : ∃ z : Int, v = .int .i64 z ∧ -9223372036854775808 ≤ z ∧ z ≤ 9223372036854775807 := by
  obtain ⟨m, hm⟩ := h
  have : v.cells.toList = [v] := by
    unfold Value.okWide at hok
    rw [hu] at hok
    unfold Cell.okWide Cell.ok at hok
    rw [hu] at hok
    cases v <;> first | rfl | (exfalso; simp at hok; done) | (exfalso; exact hok)
  rw [this] at hm
  obtain ⟨z, e, h1, h2⟩ := rd_i64 hu ⟨hm, hw⟩
  cases e
  exact ⟨z, rfl, h1, h2⟩
end
theorem cells35 : Tryd.prog.cellsOf 35 = 2 := by kernel_rfl
theorem len2 {α : Type} {l : List α} (h : l.length = 2) : ∃ a0 a1, l = [a0, a1] := match l, h with | [a0, a1], _ => ⟨a0, a1, rfl⟩

theorem cells3 : Tryd.prog.cellsOf 3 = 1 := by kernel_rfl
theorem open_35 {H : Type} {enc : TypeId × Value → H} {w : World} {m : Nat} {cs : List Value} {x : DataW H × List MemPlace} (h : Rd enc Tryd.prog w m 35 cs x) : ∃ (u0 : Int) (u1 : Int), cs = [.int .i64 u0, .int .i64 u1] := by
  obtain ⟨hl, q, hf⟩ := rd_fields Tryd.underlying35 cells35 h
  obtain ⟨v0, v1, rfl⟩ := len2 hl
  have f0 : ∃ y, Rd enc Tryd.prog w q 3 (([v0, v1].drop 0).take (Tryd.prog.cellsOf 3)) y := hf 0 _ rfl
  rw [cells3] at f0
  obtain ⟨y0, g0⟩ : ∃ y, Rd enc Tryd.prog w q 3 [v0] y := f0
  have f1 : ∃ y, Rd enc Tryd.prog w q 3 (([v0, v1].drop 1).take (Tryd.prog.cellsOf 3)) y := hf 1 _ rfl
  rw [cells3] at f1
  obtain ⟨y1, g1⟩ : ∃ y, Rd enc Tryd.prog w q 3 [v1] y := f1
  obtain ⟨w0, e, -, -⟩ := rd_i64 Tryd.underlying3 g0; cases e
  obtain ⟨w1, e, -, -⟩ := rd_i64 Tryd.underlying3 g1; cases e
  exact ⟨w0, w1, rfl⟩
theorem cells53 : Tryd.prog.cellsOf 53 = 2 := by kernel_rfl
theorem open_53 {H : Type} {enc : TypeId × Value → H} {w : World} {m : Nat} {cs : List Value} {x : DataW H × List MemPlace} (h : Rd enc Tryd.prog w m 53 cs x) : ∃ (u0 : Int) (u1 : Int), cs = [.int .i64 u0, .int .i64 u1] := by
  obtain ⟨hl, q, hf⟩ := rd_elems Tryd.underlying53 cells53 cells3 h
  obtain ⟨v0, v1, rfl⟩ := len2 hl
  have f0 := hf 0 (by decide)
  obtain ⟨y0, g0⟩ : ∃ y, Rd enc Tryd.prog w q 3 [v0] y := f0
  have f1 := hf 1 (by decide)
  obtain ⟨y1, g1⟩ : ∃ y, Rd enc Tryd.prog w q 3 [v1] y := f1
  obtain ⟨w0, e, -, -⟩ := rd_i64 Tryd.underlying3 g0; cases e
  obtain ⟨w1, e, -, -⟩ := rd_i64 Tryd.underlying3 g1; cases e
  exact ⟨w0, w1, rfl⟩
theorem cells60 : Tryd.prog.cellsOf 60 = 4 := by kernel_rfl
theorem len4 {α : Type} {l : List α} (h : l.length = 4) : ∃ a0 a1 a2 a3, l = [a0, a1, a2, a3] := match l, h with | [a0, a1, a2, a3], _ => ⟨a0, a1, a2, a3, rfl⟩

theorem open_60 {H : Type} {enc : TypeId × Value → H} {w : World} {m : Nat} {cs : List Value} {x : DataW H × List MemPlace} (h : Rd enc Tryd.prog w m 60 cs x) : ∃ (u0 : Int) (u1 : Int) (u2 : Int) (u3 : Int), cs = [.int .i64 u0, .int .i64 u1, .int .i64 u2, .int .i64 u3] := by
  obtain ⟨hl, q, hf⟩ := rd_elems Tryd.underlying60 cells60 cells3 h
  obtain ⟨v0, v1, v2, v3, rfl⟩ := len4 hl
  have f0 := hf 0 (by decide)
  obtain ⟨y0, g0⟩ : ∃ y, Rd enc Tryd.prog w q 3 [v0] y := f0
  have f1 := hf 1 (by decide)
  obtain ⟨y1, g1⟩ : ∃ y, Rd enc Tryd.prog w q 3 [v1] y := f1
  have f2 := hf 2 (by decide)
  obtain ⟨y2, g2⟩ : ∃ y, Rd enc Tryd.prog w q 3 [v2] y := f2
  have f3 := hf 3 (by decide)
  obtain ⟨y3, g3⟩ : ∃ y, Rd enc Tryd.prog w q 3 [v3] y := f3
  obtain ⟨w0, e, -, -⟩ := rd_i64 Tryd.underlying3 g0; cases e
  obtain ⟨w1, e, -, -⟩ := rd_i64 Tryd.underlying3 g1; cases e
  obtain ⟨w2, e, -, -⟩ := rd_i64 Tryd.underlying3 g2; cases e
  obtain ⟨w3, e, -, -⟩ := rd_i64 Tryd.underlying3 g3; cases e
  exact ⟨w0, w1, w2, w3, rfl⟩
theorem open_3 {H : Type} {enc : TypeId × Value → H} {w : World} {m : Nat} {cs : List Value} {x : DataW H × List MemPlace} (h : Rd enc Tryd.prog w m 3 cs x) : ∃ u : Int, cs = [.int .i64 u] := by
  obtain ⟨u, e, -, -⟩ := rd_i64 Tryd.underlying3 h; exact ⟨u, e⟩
theorem open_35n {H : Type} {enc : TypeId × Value → H} {w : World} {m : Nat} {cs : List Value} {x : DataW H × List MemPlace} (h : Rd enc Tryd.prog w m 35 cs x) : ∃ u : Sp, cs = spL u := by
  obtain ⟨a, z, e⟩ := open_35 h; exact ⟨⟨a, z⟩, e⟩
theorem open_3n {H : Type} {enc : TypeId × Value → H} {w : World} {m : Nat} {cs : List Value} {x : DataW H × List MemPlace} (h : Rd enc Tryd.prog w m 3 cs x) : ∃ u : Int, cs = intL1 u := open_3 h
theorem cells46 : Tryd.prog.cellsOf 46 = 5 := by kernel_rfl
theorem len5 {α : Type} {l : List α} (h : l.length = 5) : ∃ a0 a1 a2 a3 a4, l = [a0, a1, a2, a3, a4] := match l, h with | [a0, a1, a2, a3, a4], _ => ⟨a0, a1, a2, a3, a4, rfl⟩

theorem open_46 {H : Type} {enc : TypeId × Value → H} {w : World} {m : Nat} {cs : List Value} {x : DataW H × List MemPlace} (h : Rd enc Tryd.prog w m 46 cs x) : ∃ u : Roll, cs = rollL u := by
  obtain ⟨hl, q, hf⟩ := rd_fields Tryd.underlying46 cells46 h
  obtain ⟨v0, v1, v2, v3, v4, rfl⟩ := len5 hl
  have f0 : ∃ y, Rd enc Tryd.prog w q 3 (([v0, v1, v2, v3, v4].drop 0).take (Tryd.prog.cellsOf 3)) y := hf 0 _ rfl
  rw [cells3] at f0
  obtain ⟨y0, g0⟩ : ∃ y, Rd enc Tryd.prog w q 3 [v0] y := f0
  have f1 : ∃ y, Rd enc Tryd.prog w q 35 (([v0, v1, v2, v3, v4].drop 1).take (Tryd.prog.cellsOf 35)) y := hf 1 _ rfl
  rw [cells35] at f1
  obtain ⟨y1, g1⟩ : ∃ y, Rd enc Tryd.prog w q 35 [v1, v2] y := f1
  have f2 : ∃ y, Rd enc Tryd.prog w q 35 (([v0, v1, v2, v3, v4].drop 3).take (Tryd.prog.cellsOf 35)) y := hf 2 _ rfl
  rw [cells35] at f2
  obtain ⟨y2, g2⟩ : ∃ y, Rd enc Tryd.prog w q 35 [v3, v4] y := f2
  obtain ⟨w0, e, -, -⟩ := rd_i64 Tryd.underlying3 g0; cases e
  obtain ⟨w1_0, w1_1, e⟩ := open_35 g1; cases e
  obtain ⟨w2_0, w2_1, e⟩ := open_35 g2; cases e
  exact ⟨⟨w0, ⟨w1_0, w1_1⟩, ⟨w2_0, w2_1⟩⟩, rfl⟩
theorem cells25 : Tryd.prog.cellsOf 25 = 7 := by kernel_rfl
theorem len7 {α : Type} {l : List α} (h : l.length = 7) : ∃ a0 a1 a2 a3 a4 a5 a6, l = [a0, a1, a2, a3, a4, a5, a6] := match l, h with | [a0, a1, a2, a3, a4, a5, a6], _ => ⟨a0, a1, a2, a3, a4, a5, a6, rfl⟩

theorem cells22 : Tryd.prog.cellsOf 22 = 1 := by kernel_rfl
theorem cells23 : Tryd.prog.cellsOf 23 = 1 := by kernel_rfl
theorem open_25 {H : Type} {enc : TypeId × Value → H} {w : World} {m : Nat} {cs : List Value} {x : DataW H × List MemPlace} (h : Rd enc Tryd.prog w m 25 cs x) : ∃ (b : Bx) (A : Option Addr) (n c : Nat) (A2 : Option Addr) (n2 c2 : Nat), cs = bxL b A n c A2 n2 c2 ∧ n ≤ c ∧ c ≤ 140737488351232 ∧ RollsAt w A n b.rolls ∧ n2 ≤ c2 ∧ c2 ≤ 140737488351232 ∧ SpsAt w A2 n2 b.free := by
  obtain ⟨hl, q, hf⟩ := rd_fields Tryd.underlying25 cells25 h
  obtain ⟨v0, v1, v2, v3, v4, v5, v6, rfl⟩ := len7 hl
  have f0 : ∃ y, Rd enc Tryd.prog w q 22 (([v0, v1, v2, v3, v4, v5, v6].drop 0).take (Tryd.prog.cellsOf 22)) y := hf 0 _ rfl
  rw [cells22] at f0
  obtain ⟨y0, g0⟩ : ∃ y, Rd enc Tryd.prog w q 22 [v0] y := f0
  have f1 : ∃ y, Rd enc Tryd.prog w q 23 (([v0, v1, v2, v3, v4, v5, v6].drop 1).take (Tryd.prog.cellsOf 23)) y := hf 1 _ rfl
  rw [cells23] at f1
  obtain ⟨y1, g1⟩ : ∃ y, Rd enc Tryd.prog w q 23 [v1] y := f1
  have f2 : ∃ y, Rd enc Tryd.prog w q 3 (([v0, v1, v2, v3, v4, v5, v6].drop 2).take (Tryd.prog.cellsOf 3)) y := hf 2 _ rfl
  rw [cells3] at f2
  obtain ⟨y2, g2⟩ : ∃ y, Rd enc Tryd.prog w q 3 [v2] y := f2
  have f3 : ∃ y, Rd enc Tryd.prog w q 3 (([v0, v1, v2, v3, v4, v5, v6].drop 3).take (Tryd.prog.cellsOf 3)) y := hf 3 _ rfl
  rw [cells3] at f3
  obtain ⟨y3, g3⟩ : ∃ y, Rd enc Tryd.prog w q 3 [v3] y := f3
  have f4 : ∃ y, Rd enc Tryd.prog w q 3 (([v0, v1, v2, v3, v4, v5, v6].drop 4).take (Tryd.prog.cellsOf 3)) y := hf 4 _ rfl
  rw [cells3] at f4
  obtain ⟨y4, g4⟩ : ∃ y, Rd enc Tryd.prog w q 3 [v4] y := f4
  have f5 : ∃ y, Rd enc Tryd.prog w q 3 (([v0, v1, v2, v3, v4, v5, v6].drop 5).take (Tryd.prog.cellsOf 3)) y := hf 5 _ rfl
  rw [cells3] at f5
  obtain ⟨y5, g5⟩ : ∃ y, Rd enc Tryd.prog w q 3 [v5] y := f5
  have f6 : ∃ y, Rd enc Tryd.prog w q 3 (([v0, v1, v2, v3, v4, v5, v6].drop 6).take (Tryd.prog.cellsOf 3)) y := hf 6 _ rfl
  rw [cells3] at f6
  obtain ⟨y6, g6⟩ : ∃ y, Rd enc Tryd.prog w q 3 [v6] y := f6
  obtain ⟨Aw0, nw0, cw0, lw0, e, h1w0, h2w0, h3w0⟩ := slice_list rollL Tryd.underlying22 cells46 (by decide) (of_decide_eq_true (by kernel_rfl)) (fun m cs y h => open_46 h) g0; cases e
  obtain ⟨Aw1, nw1, cw1, lw1, e, h1w1, h2w1, h3w1⟩ := slice_list spL Tryd.underlying23 cells35 (by decide) (of_decide_eq_true (by kernel_rfl)) (fun m cs y h => open_35n h) g1; cases e
  obtain ⟨w2, e, -, -⟩ := rd_i64 Tryd.underlying3 g2; cases e
  obtain ⟨w3, e, -, -⟩ := rd_i64 Tryd.underlying3 g3; cases e
  obtain ⟨w4, e, -, -⟩ := rd_i64 Tryd.underlying3 g4; cases e
  obtain ⟨w5, e, -, -⟩ := rd_i64 Tryd.underlying3 g5; cases e
  obtain ⟨w6, e, -, -⟩ := rd_i64 Tryd.underlying3 g6; cases e
  exact ⟨{ rolls := lw0, free := lw1, count := w2, err := w3, duty := w4, share := w5, guar := w6 }, Aw0, nw0, cw0, Aw1, nw1, cw1, rfl, h1w0, h2w0, h3w0, h1w1, h2w1, h3w1⟩
theorem open_33 {H : Type} {enc : TypeId × Value → H} {w : World} {m : Nat} {cs : List Value} {x : DataW H × List MemPlace} (h : Rd enc Tryd.prog w m 33 cs x) : ∃ (A : Option Addr) (n c : Nat) (us : List Int), cs = [.slice A n c] ∧ n ≤ c ∧ c ≤ 140737488351232 ∧ SlAt intL1 1 w A n us :=
  slice_list intL1 Tryd.underlying33 cells3 (by decide) (of_decide_eq_true (by kernel_rfl)) (fun m cs y h => open_3n h) h
theorem parts_at {W : World} (h : laidMetH Tryd.prog [("bioscope/till.parts", Rows.laid_bioscope_till_parts)] W) : CellsAt W 0 0 partsL := by
  obtain ⟨g, t, cs, fuel, p, hg, ht, hc, hd⟩ := laidMetH.funcs (n := "bioscope/till.parts") h List.mem_cons_self
  obtain rfl : g = 0 := Option.some.inj (hg.symm.trans (by kernel_rfl))
  obtain rfl : t = 81 := Option.some.inj (ht.symm.trans (by kernel_rfl))
  obtain ⟨xs, q, -, hx, hl, hlen, hel⟩ := DataW.trod_array Tryd.underlying81 hd
  rw [show Tryd.prog.cellsOf 81 = 3 from by kernel_rfl] at hl
  obtain ⟨v0, v1, v2, e⟩ : ∃ v0 v1 v2, cs.toList = [v0, v1, v2] := match cs.toList, hl with | [a, b, c], _ => ⟨a, b, c, rfl⟩
  obtain ⟨x0, x1, x2, rfl⟩ : ∃ x0 x1 x2, xs = [x0, x1, x2] := match xs, hlen with | [a, b, c], _ => ⟨a, b, c, rfl⟩
  have h0 := hel 0 (by decide)
  have h1 := hel 1 (by decide)
  have h2 := hel 2 (by decide)
  rw [e, show Tryd.prog.cellsOf 80 = 1 from by kernel_rfl] at h0 h1 h2
  have hx' := congrArg Prod.fst hx
  have hz := DataW.agg.inj hx'.symm
  have e0 : x0.1 = .held (40 :: [98, 105, 111, 115, 99, 111, 112, 101, 47, 116, 105, 108, 108, 46, 98, 111, 120, 41, 46, 119, 104, 111, 108, 101]) := (hz |> List.cons.inj).1.trans (by rfl)
  have e1 : x1.1 = .held (40 :: [98, 105, 111, 115, 99, 111, 112, 101, 47, 116, 105, 108, 108, 46, 98, 111, 120, 41, 46, 104, 105, 114, 101]) := ((hz |> List.cons.inj).2 |> List.cons.inj).1.trans (by rfl)
  have e2 : x2.1 = .held (40 :: [98, 105, 111, 115, 99, 111, 112, 101, 47, 116, 105, 108, 108, 46, 98, 111, 120, 41, 46, 108, 101, 102, 116]) := (((hz |> List.cons.inj).2 |> List.cons.inj).2 |> List.cons.inj).1.trans (by rfl)
  have k0 : v0 = .func (.func 95) #[] #[] := func_of_trod (b := 40) (r := [98, 105, 111, 115, 99, 111, 112, 101, 47, 116, 105, 108, 108, 46, 98, 111, 120, 41, 46, 119, 104, 111, 108, 101]) (q := x0.2) Tryd.underlying80 (by kernel_rfl) (h0.trans (by show some x0 = _; rw [← e0]))
  have k1 : v1 = .func (.func 96) #[] #[] := func_of_trod (b := 40) (r := [98, 105, 111, 115, 99, 111, 112, 101, 47, 116, 105, 108, 108, 46, 98, 111, 120, 41, 46, 104, 105, 114, 101]) (q := x1.2) Tryd.underlying80 (by kernel_rfl) (h1.trans (by show some x1 = _; rw [← e1]))
  have k2 : v2 = .func (.func 97) #[] #[] := func_of_trod (b := 40) (r := [98, 105, 111, 115, 99, 111, 112, 101, 47, 116, 105, 108, 108, 46, 98, 111, 120, 41, 46, 108, 101, 102, 116]) (q := x2.2) Tryd.underlying80 (by kernel_rfl) (h2.trans (by show some x2 = _; rw [← e2]))
  subst k0 k1 k2
  intro j v hv
  have hv' : cs[j]? = some v := by
    rw [nth_get] at hv
    rw [← Array.getElem?_toList, e]; exact hv
  have := World.var?_cell hg hc j
  rw [hv'] at this
  rw [Nat.zero_add]; exact this
theorem door_met (os : Os) (args : Array Value) : laidMetH Tryd.prog [("bioscope/till.parts", Rows.laid_bioscope_till_parts)] ((World.doorLaid Tryd.prog 400 os).forCall (fun _ _ => 0) ⟨#[], args, []⟩).memory :=
  laidMetH_of_parts3 (fuel := 8) (laidMet_of_run' 8 (by kernel_rfl) (by kernel_rfl)) (by kernel_rfl) (by kernel_rfl)
end Go.Proofs.YtcnndpedeofbmaaDoor
