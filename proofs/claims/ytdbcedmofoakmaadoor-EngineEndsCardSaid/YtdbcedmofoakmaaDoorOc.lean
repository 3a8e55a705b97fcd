/-
  THE ENGINE's LAWS: what the readings of the arguments say of their cells; what the listed table of functions says.
-/
import Derived.Test.YtdbcedmofoakmaaDoorTie
import Derived.Test.YtdbcedmofoakmaaDoorCards
import Derived.Test.YtdbcedmofoakmaaDoorSd
import Derived.Test.YtdbcedmofoakmaaDoorEm
import Derived.LaidMore
import Derived.Deep.DeepHandedRow
import Derived.Deep.DeepWitnessRowRef
import Derived.OpenShut
import Derived.Stop.Joined
set_option maxRecDepth 100000
namespace Go.Proofs.YtdbcedmofoakmaaDoor
open Go Go.Sx Go.Eng
theorem own : ownKnob Tryd.prog.godebug = none := by kernel_rfl
theorem laidOut : laidOutB Tryd.prog = true := by kernel_rfl
section
variable {H : Type} {enc : TypeId × Value → H} {W : World} {b : Nat} {t : TypeId} {v : Value} {d : DataW H} {ps : List MemPlace}
theorem arg_agg (hu : (match Tryd.prog.underlying t with | some (.struct _) | some (.array _ _) => true | _ => false) = true) (hok : Value.okWide Tryd.prog W .any b t v)
    (h : DataW.Trod enc Tryd.prog W 0 (fun _ => true) true t v d ps) (hw : ∀ n ∈ d.weights Tryd.prog t, n ≤ reachBytes) : ∃ l m, v = .agg ⟨l⟩ ∧ Rd enc Tryd.prog W m t l (d, ps) := by
  have : ∃ cs, v = .agg cs := by
    unfold Value.okWide at hok
    split at hok
    · obtain ⟨cs, h, -⟩ := hok; exact ⟨cs, h⟩
    · obtain ⟨cs, h, -⟩ := hok; exact ⟨cs, h⟩
    · rename_i h1 h2
      exfalso
      generalize Tryd.prog.underlying t = u at hu h1 h2
      cases u with
      | none => cases hu
      | some u => cases u <;> first | (cases hu; done) | (exact h1 _ rfl) | exact h2 _ _ rfl
  obtain ⟨⟨l⟩, rfl⟩ := this
  obtain ⟨m, hm⟩ := h
  exact ⟨l, m, rfl, hm, hw⟩
theorem arg_slice {e : TypeId} (hu : Tryd.prog.underlying t = some (.slice e)) (hok : Value.okWide Tryd.prog W .any b t v)
    (h : DataW.Trod enc Tryd.prog W 0 (fun _ => true) true t v d ps) (hw : ∀ n ∈ d.weights Tryd.prog t, n ≤ reachBytes) : ∃ m, Rd enc Tryd.prog W m t [v] (d, ps) := by
  obtain ⟨m, hm⟩ := h
  refine ⟨m, ?_, hw⟩
  have : v.cells.toList = [v] := by
    unfold Value.okWide at hok
    rw [hu] at hok
    unfold Cell.okWide Cell.ok at hok
    rw [hu] at hok
    cases v <;> first | rfl | (exfalso; simp at hok; done) | (exfalso; exact hok)
  rw [this] at hm; exact hm
theorem arg_int (hu : Tryd.prog.underlying t = some (.int .i64)) (hok : Value.okWide Tryd.prog W .any b t v)
    (h : DataW.Trod enc Tryd.prog W 0 (fun _ => true) true t v d ps) (hw : ∀ n ∈ d.weights Tryd.prog t, n ≤ reachBytes) : ∃ z : Int, v = .int .i64 z ∧ -9223372036854775808 ≤ z ∧ z ≤ 9223372036854775807 := by
  obtain ⟨m, hm⟩ := h
  have : v.cells.toList = [v] := by
    unfold Value.okWide at hok
    rw [hu] at hok
    unfold Cell.okWide Cell.ok at hok
    rw [hu] at hok
    cases v <;> first | rfl | (exfalso; simp at hok; done) | (exfalso; exact hok)
  rw [this] at hm
  obtain ⟨z, e, h1, h2⟩ := rd_i64 hu ⟨hm, hw⟩
  cases e
  exact ⟨z, rfl, h1, h2⟩
end
theorem cells23 : Tryd.prog.cellsOf 23 = 2 := by kernel_rfl
theorem len2 {α : Type} {l : List α} (h : l.length = 2) : ∃ a0 a1, l = [a0, a1] := match l, h with | [a0, a1], _ => ⟨a0, a1, rfl⟩

theorem cells3 : Tryd.prog.cellsOf 3 = 1 := by kernel_rfl
theorem open_23 {H : Type} {enc : TypeId × Value → H} {w : World} {m : Nat} {cs : List Value} {x : DataW H × List MemPlace} (h : Rd enc Tryd.prog w m 23 cs x) : ∃ (u0 : Int) (u1 : Int), cs = [.int .i64 u0, .int .i64 u1] := by
  obtain ⟨hl, q, hf⟩ := rd_fields Tryd.underlying23 cells23 h
  obtain ⟨v0, v1, rfl⟩ := len2 hl
  have f0 : ∃ y, Rd enc Tryd.prog w q 3 (([v0, v1].drop 0).take (Tryd.prog.cellsOf 3)) y := hf 0 _ rfl
  rw [cells3] at f0
  obtain ⟨y0, g0⟩ : ∃ y, Rd enc Tryd.prog w q 3 [v0] y := f0
  have f1 : ∃ y, Rd enc Tryd.prog w q 3 (([v0, v1].drop 1).take (Tryd.prog.cellsOf 3)) y := hf 1 _ rfl
  rw [cells3] at f1
  obtain ⟨y1, g1⟩ : ∃ y, Rd enc Tryd.prog w q 3 [v1] y := f1
  obtain ⟨w0, e, -, -⟩ := rd_i64 Tryd.underlying3 g0; cases e
  obtain ⟨w1, e, -, -⟩ := rd_i64 Tryd.underlying3 g1; cases e
  exact ⟨w0, w1, rfl⟩
theorem cells24 : Tryd.prog.cellsOf 24 = 4 := by kernel_rfl
theorem len4 {α : Type} {l : List α} (h : l.length = 4) : ∃ a0 a1 a2 a3, l = [a0, a1, a2, a3] := match l, h with | [a0, a1, a2, a3], _ => ⟨a0, a1, a2, a3, rfl⟩

theorem open_24 {H : Type} {enc : TypeId × Value → H} {w : World} {m : Nat} {cs : List Value} {x : DataW H × List MemPlace} (h : Rd enc Tryd.prog w m 24 cs x) : ∃ (u0 : Int) (u1 : Int) (u2 : Int) (u3 : Int), cs = [.int .i64 u0, .int .i64 u1, .int .i64 u2, .int .i64 u3] := by
  obtain ⟨hl, q, hf⟩ := rd_elems Tryd.underlying24 cells24 cells23 h
  obtain ⟨v0, v1, v2, v3, rfl⟩ := len4 hl
  have f0 := hf 0 (by decide)
  obtain ⟨y0, g0⟩ : ∃ y, Rd enc Tryd.prog w q 23 [v0, v1] y := f0
  have f1 := hf 1 (by decide)
  obtain ⟨y1, g1⟩ : ∃ y, Rd enc Tryd.prog w q 23 [v2, v3] y := f1
  obtain ⟨w0_0, w0_1, e⟩ := open_23 g0; cases e
  obtain ⟨w1_0, w1_1, e⟩ := open_23 g1; cases e
  exact ⟨w0_0, w0_1, w1_0, w1_1, rfl⟩
theorem cells29 : Tryd.prog.cellsOf 29 = 2 := by kernel_rfl
theorem open_29 {H : Type} {enc : TypeId × Value → H} {w : World} {m : Nat} {cs : List Value} {x : DataW H × List MemPlace} (h : Rd enc Tryd.prog w m 29 cs x) : ∃ (u0 : Int) (u1 : Int), cs = [.int .i64 u0, .int .i64 u1] := by
  obtain ⟨hl, q, hf⟩ := rd_elems Tryd.underlying29 cells29 cells3 h
  obtain ⟨v0, v1, rfl⟩ := len2 hl
  have f0 := hf 0 (by decide)
  obtain ⟨y0, g0⟩ : ∃ y, Rd enc Tryd.prog w q 3 [v0] y := f0
  have f1 := hf 1 (by decide)
  obtain ⟨y1, g1⟩ : ∃ y, Rd enc Tryd.prog w q 3 [v1] y := f1
  obtain ⟨w0, e, -, -⟩ := rd_i64 Tryd.underlying3 g0; cases e
  obtain ⟨w1, e, -, -⟩ := rd_i64 Tryd.underlying3 g1; cases e
  exact ⟨w0, w1, rfl⟩
theorem open_3 {H : Type} {enc : TypeId × Value → H} {w : World} {m : Nat} {cs : List Value} {x : DataW H × List MemPlace} (h : Rd enc Tryd.prog w m 3 cs x) : ∃ u : Int, cs = [.int .i64 u] := by
  obtain ⟨u, e, -, -⟩ := rd_i64 Tryd.underlying3 h; exact ⟨u, e⟩
theorem cells66 : Tryd.prog.cellsOf 66 = 4 := by kernel_rfl
theorem cells4 : Tryd.prog.cellsOf 4 = 1 := by kernel_rfl
theorem open_66 {H : Type} {enc : TypeId × Value → H} {w : World} {m : Nat} {cs : List Value} {x : DataW H × List MemPlace} (h : Rd enc Tryd.prog w m 66 cs x) : ∃ u : Part, cs = partL u := by
  obtain ⟨hl, q, hf⟩ := rd_fields Tryd.underlying66 cells66 h
  obtain ⟨v0, v1, v2, v3, rfl⟩ := len4 hl
  have f0 : ∃ y, Rd enc Tryd.prog w q 23 (([v0, v1, v2, v3].drop 0).take (Tryd.prog.cellsOf 23)) y := hf 0 _ rfl
  rw [cells23] at f0
  obtain ⟨y0, g0⟩ : ∃ y, Rd enc Tryd.prog w q 23 [v0, v1] y := f0
  have f1 : ∃ y, Rd enc Tryd.prog w q 4 (([v0, v1, v2, v3].drop 2).take (Tryd.prog.cellsOf 4)) y := hf 1 _ rfl
  rw [cells4] at f1
  obtain ⟨y1, g1⟩ : ∃ y, Rd enc Tryd.prog w q 4 [v2] y := f1
  have f2 : ∃ y, Rd enc Tryd.prog w q 3 (([v0, v1, v2, v3].drop 3).take (Tryd.prog.cellsOf 3)) y := hf 2 _ rfl
  rw [cells3] at f2
  obtain ⟨y2, g2⟩ : ∃ y, Rd enc Tryd.prog w q 3 [v3] y := f2
  obtain ⟨w0_0, w0_1, e⟩ := open_23 g0; cases e
  obtain ⟨w1, e⟩ := rd_b Tryd.underlying4 g1; cases e
  obtain ⟨w2, e, -, -⟩ := rd_i64 Tryd.underlying3 g2; cases e
  exact ⟨⟨⟨w0_0, w0_1⟩, w1, w2⟩, rfl⟩
theorem cells64 : Tryd.prog.cellsOf 64 = 2 := by kernel_rfl
theorem open_64 {H : Type} {enc : TypeId × Value → H} {w : World} {m : Nat} {cs : List Value} {x : DataW H × List MemPlace} (h : Rd enc Tryd.prog w m 64 cs x) : ∃ u : Walks, cs = walksL u := by
  obtain ⟨hl, q, hf⟩ := rd_fields Tryd.underlying64 cells64 h
  obtain ⟨v0, v1, rfl⟩ := len2 hl
  have f0 : ∃ y, Rd enc Tryd.prog w q 3 (([v0, v1].drop 0).take (Tryd.prog.cellsOf 3)) y := hf 0 _ rfl
  rw [cells3] at f0
  obtain ⟨y0, g0⟩ : ∃ y, Rd enc Tryd.prog w q 3 [v0] y := f0
  have f1 : ∃ y, Rd enc Tryd.prog w q 3 (([v0, v1].drop 1).take (Tryd.prog.cellsOf 3)) y := hf 1 _ rfl
  rw [cells3] at f1
  obtain ⟨y1, g1⟩ : ∃ y, Rd enc Tryd.prog w q 3 [v1] y := f1
  obtain ⟨w0, e, -, -⟩ := rd_i64 Tryd.underlying3 g0; cases e
  obtain ⟨w1, e, -, -⟩ := rd_i64 Tryd.underlying3 g1; cases e
  exact ⟨⟨w0, w1⟩, rfl⟩
theorem cells27 : Tryd.prog.cellsOf 27 = 23 := by kernel_rfl
theorem len23 {α : Type} {l : List α} (h : l.length = 23) : ∃ a0 a1 a2 a3 a4 a5 a6 a7 a8 a9 a10 a11 a12 a13 a14 a15 a16 a17 a18 a19 a20 a21 a22, l = [a0, a1, a2, a3, a4, a5, a6, a7, a8, a9, a10, a11, a12, a13, a14, a15, a16, a17, a18, a19, a20, a21, a22] := match l, h with | [a0, a1, a2, a3, a4, a5, a6, a7, a8, a9, a10, a11, a12, a13, a14, a15, a16, a17, a18, a19, a20, a21, a22], _ => ⟨a0, a1, a2, a3, a4, a5, a6, a7, a8, a9, a10, a11, a12, a13, a14, a15, a16, a17, a18, a19, a20, a21, a22, rfl⟩

theorem cells25 : Tryd.prog.cellsOf 25 = 1 := by kernel_rfl
theorem open_27 {H : Type} {enc : TypeId × Value → H} {w : World} {m : Nat} {cs : List Value} {x : DataW H × List MemPlace} (h : Rd enc Tryd.prog w m 27 cs x) : ∃ (b : Book) (A : Option Addr) (n c : Nat), cs = bookL b A n c ∧ n ≤ c ∧ c ≤ 140737488351232 ∧ PartsAt w A n b.parts := by
  obtain ⟨hl, q, hf⟩ := rd_fields Tryd.underlying27 cells27 h
  obtain ⟨v0, v1, v2, v3, v4, v5, v6, v7, v8, v9, v10, v11, v12, v13, v14, v15, v16, v17, v18, v19, v20, v21, v22, rfl⟩ := len23 hl
  have f0 : ∃ y, Rd enc Tryd.prog w q 23 (([v0, v1, v2, v3, v4, v5, v6, v7, v8, v9, v10, v11, v12, v13, v14, v15, v16, v17, v18, v19, v20, v21, v22].drop 0).take (Tryd.prog.cellsOf 23)) y := hf 0 _ rfl
  rw [cells23] at f0
  obtain ⟨y0, g0⟩ : ∃ y, Rd enc Tryd.prog w q 23 [v0, v1] y := f0
  have f1 : ∃ y, Rd enc Tryd.prog w q 23 (([v0, v1, v2, v3, v4, v5, v6, v7, v8, v9, v10, v11, v12, v13, v14, v15, v16, v17, v18, v19, v20, v21, v22].drop 2).take (Tryd.prog.cellsOf 23)) y := hf 1 _ rfl
  rw [cells23] at f1
  obtain ⟨y1, g1⟩ : ∃ y, Rd enc Tryd.prog w q 23 [v2, v3] y := f1
  have f2 : ∃ y, Rd enc Tryd.prog w q 3 (([v0, v1, v2, v3, v4, v5, v6, v7, v8, v9, v10, v11, v12, v13, v14, v15, v16, v17, v18, v19, v20, v21, v22].drop 4).take (Tryd.prog.cellsOf 3)) y := hf 2 _ rfl
  rw [cells3] at f2
  obtain ⟨y2, g2⟩ : ∃ y, Rd enc Tryd.prog w q 3 [v4] y := f2
  have f3 : ∃ y, Rd enc Tryd.prog w q 3 (([v0, v1, v2, v3, v4, v5, v6, v7, v8, v9, v10, v11, v12, v13, v14, v15, v16, v17, v18, v19, v20, v21, v22].drop 5).take (Tryd.prog.cellsOf 3)) y := hf 3 _ rfl
  rw [cells3] at f3
  obtain ⟨y3, g3⟩ : ∃ y, Rd enc Tryd.prog w q 3 [v5] y := f3
  have f4 : ∃ y, Rd enc Tryd.prog w q 3 (([v0, v1, v2, v3, v4, v5, v6, v7, v8, v9, v10, v11, v12, v13, v14, v15, v16, v17, v18, v19, v20, v21, v22].drop 6).take (Tryd.prog.cellsOf 3)) y := hf 4 _ rfl
  rw [cells3] at f4
  obtain ⟨y4, g4⟩ : ∃ y, Rd enc Tryd.prog w q 3 [v6] y := f4
  have f5 : ∃ y, Rd enc Tryd.prog w q 3 (([v0, v1, v2, v3, v4, v5, v6, v7, v8, v9, v10, v11, v12, v13, v14, v15, v16, v17, v18, v19, v20, v21, v22].drop 7).take (Tryd.prog.cellsOf 3)) y := hf 5 _ rfl
  rw [cells3] at f5
  obtain ⟨y5, g5⟩ : ∃ y, Rd enc Tryd.prog w q 3 [v7] y := f5
  have f6 : ∃ y, Rd enc Tryd.prog w q 24 (([v0, v1, v2, v3, v4, v5, v6, v7, v8, v9, v10, v11, v12, v13, v14, v15, v16, v17, v18, v19, v20, v21, v22].drop 8).take (Tryd.prog.cellsOf 24)) y := hf 6 _ rfl
  rw [cells24] at f6
  obtain ⟨y6, g6⟩ : ∃ y, Rd enc Tryd.prog w q 24 [v8, v9, v10, v11] y := f6
  have f7 : ∃ y, Rd enc Tryd.prog w q 24 (([v0, v1, v2, v3, v4, v5, v6, v7, v8, v9, v10, v11, v12, v13, v14, v15, v16, v17, v18, v19, v20, v21, v22].drop 12).take (Tryd.prog.cellsOf 24)) y := hf 7 _ rfl
  rw [cells24] at f7
  obtain ⟨y7, g7⟩ : ∃ y, Rd enc Tryd.prog w q 24 [v12, v13, v14, v15] y := f7
  have f8 : ∃ y, Rd enc Tryd.prog w q 23 (([v0, v1, v2, v3, v4, v5, v6, v7, v8, v9, v10, v11, v12, v13, v14, v15, v16, v17, v18, v19, v20, v21, v22].drop 16).take (Tryd.prog.cellsOf 23)) y := hf 8 _ rfl
  rw [cells23] at f8
  obtain ⟨y8, g8⟩ : ∃ y, Rd enc Tryd.prog w q 23 [v16, v17] y := f8
  have f9 : ∃ y, Rd enc Tryd.prog w q 23 (([v0, v1, v2, v3, v4, v5, v6, v7, v8, v9, v10, v11, v12, v13, v14, v15, v16, v17, v18, v19, v20, v21, v22].drop 18).take (Tryd.prog.cellsOf 23)) y := hf 9 _ rfl
  rw [cells23] at f9
  obtain ⟨y9, g9⟩ : ∃ y, Rd enc Tryd.prog w q 23 [v18, v19] y := f9
  have f10 : ∃ y, Rd enc Tryd.prog w q 3 (([v0, v1, v2, v3, v4, v5, v6, v7, v8, v9, v10, v11, v12, v13, v14, v15, v16, v17, v18, v19, v20, v21, v22].drop 20).take (Tryd.prog.cellsOf 3)) y := hf 10 _ rfl
  rw [cells3] at f10
  obtain ⟨y10, g10⟩ : ∃ y, Rd enc Tryd.prog w q 3 [v20] y := f10
  have f11 : ∃ y, Rd enc Tryd.prog w q 3 (([v0, v1, v2, v3, v4, v5, v6, v7, v8, v9, v10, v11, v12, v13, v14, v15, v16, v17, v18, v19, v20, v21, v22].drop 21).take (Tryd.prog.cellsOf 3)) y := hf 11 _ rfl
  rw [cells3] at f11
  obtain ⟨y11, g11⟩ : ∃ y, Rd enc Tryd.prog w q 3 [v21] y := f11
  have f12 : ∃ y, Rd enc Tryd.prog w q 25 (([v0, v1, v2, v3, v4, v5, v6, v7, v8, v9, v10, v11, v12, v13, v14, v15, v16, v17, v18, v19, v20, v21, v22].drop 22).take (Tryd.prog.cellsOf 25)) y := hf 12 _ rfl
  rw [cells25] at f12
  obtain ⟨y12, g12⟩ : ∃ y, Rd enc Tryd.prog w q 25 [v22] y := f12
  obtain ⟨w0_0, w0_1, e⟩ := open_23 g0; cases e
  obtain ⟨w1_0, w1_1, e⟩ := open_23 g1; cases e
  obtain ⟨w2, e, -, -⟩ := rd_i64 Tryd.underlying3 g2; cases e
  obtain ⟨w3, e, -, -⟩ := rd_i64 Tryd.underlying3 g3; cases e
  obtain ⟨w4, e, -, -⟩ := rd_i64 Tryd.underlying3 g4; cases e
  obtain ⟨w5, e, -, -⟩ := rd_i64 Tryd.underlying3 g5; cases e
  obtain ⟨w6_0, w6_1, w6_2, w6_3, e⟩ := open_24 g6; cases e
  obtain ⟨w7_0, w7_1, w7_2, w7_3, e⟩ := open_24 g7; cases e
  obtain ⟨w8_0, w8_1, e⟩ := open_23 g8; cases e
  obtain ⟨w9_0, w9_1, e⟩ := open_23 g9; cases e
  obtain ⟨w10, e, -, -⟩ := rd_i64 Tryd.underlying3 g10; cases e
  obtain ⟨w11, e, -, -⟩ := rd_i64 Tryd.underlying3 g11; cases e
  obtain ⟨Aw12, nw12, cw12, lw12, e, h1w12, h2w12, h3w12⟩ := slice_list partL Tryd.underlying25 cells66 (by decide) (of_decide_eq_true (by kernel_rfl)) (fun m cs y h => open_66 h) g12; cases e
  exact ⟨{ coal := ⟨w0_0, w0_1⟩, water := ⟨w1_0, w1_1⟩, bunker := w2, tank := w3, scoop := w4, pail := w5, burn0 := ⟨w6_0, w6_1⟩, burn1 := ⟨w6_2, w6_3⟩, drink0 := ⟨w7_0, w7_1⟩, drink1 := ⟨w7_2, w7_3⟩, full := ⟨w8_0, w8_1⟩, weak := ⟨w9_0, w9_1⟩, mark := w10, lamp := w11, parts := lw12 }, Aw12, nw12, cw12, rfl, h1w12, h2w12, h3w12⟩
theorem open_28 {H : Type} {enc : TypeId × Value → H} {w : World} {m : Nat} {cs : List Value} {x : DataW H × List MemPlace} (h : Rd enc Tryd.prog w m 28 cs x) : ∃ (A : Option Addr) (n c : Nat) (us : List Walks), cs = [.slice A n c] ∧ n ≤ c ∧ c ≤ 140737488351232 ∧ SlAt walksL 2 w A n us :=
  slice_list walksL Tryd.underlying28 cells64 (by decide) (of_decide_eq_true (by kernel_rfl)) (fun m cs y h => open_64 h) h
theorem open_47 {H : Type} {enc : TypeId × Value → H} {w : World} {m : Nat} {cs : List Value} {x : DataW H × List MemPlace} (h : Rd enc Tryd.prog w m 47 cs x) : ∃ (A : Option Addr) (n c : Nat) (us : List Int), cs = [.slice A n c] ∧ n ≤ c ∧ c ≤ 140737488351232 ∧ SlAt (fun z : Int => [Value.int .i64 z]) 1 w A n us :=
  slice_list (fun z : Int => [Value.int .i64 z]) Tryd.underlying47 cells3 (by decide) (of_decide_eq_true (by kernel_rfl)) (fun m cs y h => open_3 h) h
theorem stuffs_at {W : World} (h : laidMetH Tryd.prog [("bioscope/engine.stuffs", Rows.laid_bioscope_engine_stuffs)] W) : CellsAt W 0 0 stuffsL := by
  obtain ⟨g, t, cs, fuel, p, hg, ht, hc, hd⟩ := laidMetH.funcs (n := "bioscope/engine.stuffs") h List.mem_cons_self
  obtain rfl : g = 0 := Option.some.inj (hg.symm.trans (by kernel_rfl))
  obtain rfl : t = 121 := Option.some.inj (ht.symm.trans (by kernel_rfl))
  obtain ⟨xs, q, -, hx, hl, hlen, hel⟩ := DataW.trod_array Tryd.underlying121 hd
  rw [show Tryd.prog.cellsOf 121 = 2 from by kernel_rfl] at hl
  obtain ⟨v0, v1, e⟩ : ∃ v0 v1, cs.toList = [v0, v1] := match cs.toList, hl with | [a, b], _ => ⟨a, b, rfl⟩
  obtain ⟨x0, x1, rfl⟩ : ∃ x0 x1, xs = [x0, x1] := match xs, hlen with | [a, b], _ => ⟨a, b, rfl⟩
  have h0 := hel 0 (by decide)
  have h1 := hel 1 (by decide)
  rw [e, show Tryd.prog.cellsOf 120 = 1 from by kernel_rfl] at h0 h1
  have hx' := congrArg Prod.fst hx
  have e0 : x0.1 = .held (40 :: [98, 105, 111, 115, 99, 111, 112, 101, 47, 101, 110, 103, 105, 110, 101, 46, 101, 118, 101, 110, 105, 110, 103, 41, 46, 99, 111, 97, 108]) := (DataW.agg.inj hx'.symm |> List.cons.inj).1.trans (by rfl)
  have e1 : x1.1 = .held (40 :: [98, 105, 111, 115, 99, 111, 112, 101, 47, 101, 110, 103, 105, 110, 101, 46, 101, 118, 101, 110, 105, 110, 103, 41, 46, 119, 97, 116, 101, 114]) := ((DataW.agg.inj hx'.symm |> List.cons.inj).2 |> List.cons.inj).1.trans (by rfl)
  have k0 : v0 = .func (.func 103) #[] #[] := func_of_trod (b := 40) (r := [98, 105, 111, 115, 99, 111, 112, 101, 47, 101, 110, 103, 105, 110, 101, 46, 101, 118, 101, 110, 105, 110, 103, 41, 46, 99, 111, 97, 108]) (q := x0.2) Tryd.underlying120 (by kernel_rfl) (h0.trans (by show some x0 = _; rw [← e0]))
  have k1 : v1 = .func (.func 104) #[] #[] := func_of_trod (b := 40) (r := [98, 105, 111, 115, 99, 111, 112, 101, 47, 101, 110, 103, 105, 110, 101, 46, 101, 118, 101, 110, 105, 110, 103, 41, 46, 119, 97, 116, 101, 114]) (q := x1.2) Tryd.underlying120 (by kernel_rfl) (h1.trans (by show some x1 = _; rw [← e1]))
  subst k0 k1
  intro j v hv
  have hv' : cs[j]? = some v := by
    rw [nth_get] at hv
    rw [← Array.getElem?_toList, e]; exact hv
  have := World.var?_cell hg hc j
  rw [hv'] at this
  rw [Nat.zero_add]; exact this
theorem door_met (os : Os) (args : Array Value) : laidMetH Tryd.prog [("bioscope/engine.stuffs", Rows.laid_bioscope_engine_stuffs)] ((World.doorLaid Tryd.prog 400 os).forCall (fun _ _ => 0) ⟨#[], args, []⟩).memory :=
  laidMetH_of_parts3 (fuel := 8) (laidMet_of_run' 8 (by kernel_rfl) (by kernel_rfl)) (by kernel_rfl) (by kernel_rfl)
end Go.Proofs.YtdbcedmofoakmaaDoor
