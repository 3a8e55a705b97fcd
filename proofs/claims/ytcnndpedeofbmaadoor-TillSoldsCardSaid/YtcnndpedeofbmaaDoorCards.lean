/-
  DERIVED. GIVEN WITH THE SEED: THE CARDS: each row of YtcnndpedeofbmaaDoorRows.lean that lists a variable, with what it lists TIED to the program's text (the seventh form; the later family's looks); each row that meets fmt, with fmt's text TOLD by the authors' own Lean function (tested against real Go, not proved from fmt's source: count such statements apart). THE CARD IS WHAT COUNTS. Prove the row's statement (the work); the ties are given (YtcnndpedeofbmaaDoorTie.lean); close each card by the builder's one call (the guide's Derived/Test/ToyasCard.lean, 'card_holds'). Laid BY PROGRAM, IN A SANDBOX (cutbox-door.mjs). By AI agents, Wed Nov 11 2026. No macro, syntax, notation, axiom, sorry.
-/
import Derived.Test.YtcnndpedeofbmaaDoorRows
import GoSem.ClaimSeven
namespace Go.Proofs.YtcnndpedeofbmaaDoor
namespace Rows

/-- THE TIED CARD OF 'bioscopelaw09.TillAsk'. -/
def tillAskCard : Claim7 := { stood := { row := tillAskRow, standIns := [], harness := (true, "57fae622aa223f8c0ff6c121df77e252b9b317927d4522d0c87d2754d3d83d1f"), looks := false }, kinds := [], alts := [], laidByText := true, laidKinds := [.funcs], laidTests := true, laidLooks := .later }
def TillAskCardSaid : Prop := Claim7.holds Tryd.pinned (.plain (OpenSpec.ofChange tillAskSpec)) tillAskCard

/-- THE TIED CARD OF 'bioscopelaw09.TillKnown'. -/
def tillKnownCard : Claim7 := { stood := { row := tillKnownRow, standIns := [], harness := (true, "57fae622aa223f8c0ff6c121df77e252b9b317927d4522d0c87d2754d3d83d1f"), looks := false }, kinds := [], alts := [], laidByText := true, laidKinds := [.funcs], laidTests := true, laidLooks := .later }
def TillKnownCardSaid : Prop := Claim7.holds Tryd.pinned (.plain (OpenSpec.ofChange tillKnownSpec)) tillKnownCard

/-- THE TIED CARD OF 'bioscopelaw09.TillTruths'. -/
def tillTruthsCard : Claim7 := { stood := { row := tillTruthsRow, standIns := [], harness := (true, "57fae622aa223f8c0ff6c121df77e252b9b317927d4522d0c87d2754d3d83d1f"), looks := false }, kinds := [], alts := [], laidByText := true, laidKinds := [.funcs], laidTests := true, laidLooks := .later }
def TillTruthsCardSaid : Prop := Claim7.holds Tryd.pinned (.plain (OpenSpec.ofChange tillTruthsSpec)) tillTruthsCard

/-- THE TIED CARD OF 'bioscopelaw09.TillSolds'. -/
def tillSoldsCard : Claim7 := { stood := { row := tillSoldsRow, standIns := [], harness := (true, "57fae622aa223f8c0ff6c121df77e252b9b317927d4522d0c87d2754d3d83d1f"), looks := false }, kinds := [], alts := [], laidByText := true, laidKinds := [.funcs], laidTests := true, laidLooks := .later }
def TillSoldsCardSaid : Prop := Claim7.holds Tryd.pinned (.plain (OpenSpec.ofChange tillSoldsSpec)) tillSoldsCard

/-- THE TIED CARD OF 'bioscopelaw09.TillParts'. -/
def tillPartsCard : Claim7 := { stood := { row := tillPartsRow, standIns := [], harness := (true, "57fae622aa223f8c0ff6c121df77e252b9b317927d4522d0c87d2754d3d83d1f"), looks := false }, kinds := [], alts := [], laidByText := true, laidKinds := [.funcs], laidTests := true, laidLooks := .later }
def TillPartsCardSaid : Prop := Claim7.holds Tryd.pinned (.plain (OpenSpec.ofChange tillPartsSpec)) tillPartsCard

/-- THE TIED CARD OF 'bioscopelaw09.TillTrue'. -/
def tillTrueCard : Claim7 := { stood := { row := tillTrueRow, standIns := [], harness := (true, "57fae622aa223f8c0ff6c121df77e252b9b317927d4522d0c87d2754d3d83d1f"), looks := false }, kinds := [], alts := [], laidByText := true, laidKinds := [.funcs], laidTests := true, laidLooks := .later }
def TillTrueCardSaid : Prop := Claim7.holds Tryd.pinned (.plain (OpenSpec.ofChange tillTrueSpec)) tillTrueCard

/-- THE TIED CARD OF 'bioscopelaw09.TillWrong'. -/
def tillWrongCard : Claim7 := { stood := { row := tillWrongRow, standIns := [], harness := (true, "57fae622aa223f8c0ff6c121df77e252b9b317927d4522d0c87d2754d3d83d1f"), looks := false }, kinds := [], alts := [], laidByText := true, laidKinds := [.funcs], laidTests := true, laidLooks := .later }
def TillWrongCardSaid : Prop := Claim7.holds Tryd.pinned (.plain (OpenSpec.ofChange tillWrongSpec)) tillWrongCard

/-- THE TIED CARD OF 'bioscopelaw09.TillNarrow'. -/
def tillNarrowCard : Claim7 := { stood := { row := tillNarrowRow, standIns := [], harness := (true, "57fae622aa223f8c0ff6c121df77e252b9b317927d4522d0c87d2754d3d83d1f"), looks := false }, kinds := [], alts := [], laidByText := true, laidKinds := [.funcs], laidTests := true, laidLooks := .later }
def TillNarrowCardSaid : Prop := Claim7.holds Tryd.pinned (.plain (OpenSpec.ofChange tillNarrowSpec)) tillNarrowCard

/-- THE TIED CARD OF 'bioscopelaw09.TillParted'. -/
def tillPartedCard : Claim7 := { stood := { row := tillPartedRow, standIns := [], harness := (true, "57fae622aa223f8c0ff6c121df77e252b9b317927d4522d0c87d2754d3d83d1f"), looks := false }, kinds := [], alts := [], laidByText := true, laidKinds := [.funcs], laidTests := true, laidLooks := .later }
def TillPartedCardSaid : Prop := Claim7.holds Tryd.pinned (.plain (OpenSpec.ofChange tillPartedSpec)) tillPartedCard

/-- THE SECOND FORM's CARD OF 'bioscopelaw09.TillAsk'. -/
def tillAskUptoCard : Claim7 := { stood := { row := tillAskUptoRow, standIns := [], harness := (true, "57fae622aa223f8c0ff6c121df77e252b9b317927d4522d0c87d2754d3d83d1f"), looks := false }, kinds := [], alts := [], laidByText := true, laidKinds := [.funcs], laidTests := true, laidLooks := .later }
def TillAskUptoCardSaid : Prop := Claim7.holds Tryd.pinned (.plain (OpenSpec.upto tillAskSpec)) tillAskUptoCard

/-- THE SECOND FORM's CARD OF 'bioscopelaw09.TillKnown'. -/
def tillKnownUptoCard : Claim7 := { stood := { row := tillKnownUptoRow, standIns := [], harness := (true, "57fae622aa223f8c0ff6c121df77e252b9b317927d4522d0c87d2754d3d83d1f"), looks := false }, kinds := [], alts := [], laidByText := true, laidKinds := [.funcs], laidTests := true, laidLooks := .later }
def TillKnownUptoCardSaid : Prop := Claim7.holds Tryd.pinned (.plain (OpenSpec.upto tillKnownSpec)) tillKnownUptoCard

/-- THE SECOND FORM's CARD OF 'bioscopelaw09.TillTruths'. -/
def tillTruthsUptoCard : Claim7 := { stood := { row := tillTruthsUptoRow, standIns := [], harness := (true, "57fae622aa223f8c0ff6c121df77e252b9b317927d4522d0c87d2754d3d83d1f"), looks := false }, kinds := [], alts := [], laidByText := true, laidKinds := [.funcs], laidTests := true, laidLooks := .later }
def TillTruthsUptoCardSaid : Prop := Claim7.holds Tryd.pinned (.plain (OpenSpec.upto tillTruthsSpec)) tillTruthsUptoCard

/-- THE SECOND FORM's CARD OF 'bioscopelaw09.TillSolds'. -/
def tillSoldsUptoCard : Claim7 := { stood := { row := tillSoldsUptoRow, standIns := [], harness := (true, "57fae622aa223f8c0ff6c121df77e252b9b317927d4522d0c87d2754d3d83d1f"), looks := false }, kinds := [], alts := [], laidByText := true, laidKinds := [.funcs], laidTests := true, laidLooks := .later }
def TillSoldsUptoCardSaid : Prop := Claim7.holds Tryd.pinned (.plain (OpenSpec.upto tillSoldsSpec)) tillSoldsUptoCard

/-- THE SECOND FORM's CARD OF 'bioscopelaw09.TillParts'. -/
def tillPartsUptoCard : Claim7 := { stood := { row := tillPartsUptoRow, standIns := [], harness := (true, "57fae622aa223f8c0ff6c121df77e252b9b317927d4522d0c87d2754d3d83d1f"), looks := false }, kinds := [], alts := [], laidByText := true, laidKinds := [.funcs], laidTests := true, laidLooks := .later }
def TillPartsUptoCardSaid : Prop := Claim7.holds Tryd.pinned (.plain (OpenSpec.upto tillPartsSpec)) tillPartsUptoCard

/-- THE SECOND FORM's CARD OF 'bioscopelaw09.TillTrue'. -/
def tillTrueUptoCard : Claim7 := { stood := { row := tillTrueUptoRow, standIns := [], harness := (true, "57fae622aa223f8c0ff6c121df77e252b9b317927d4522d0c87d2754d3d83d1f"), looks := false }, kinds := [], alts := [], laidByText := true, laidKinds := [.funcs], laidTests := true, laidLooks := .later }
def TillTrueUptoCardSaid : Prop := Claim7.holds Tryd.pinned (.plain (OpenSpec.upto tillTrueSpec)) tillTrueUptoCard

/-- THE SECOND FORM's CARD OF 'bioscopelaw09.TillWrong'. -/
def tillWrongUptoCard : Claim7 := { stood := { row := tillWrongUptoRow, standIns := [], harness := (true, "57fae622aa223f8c0ff6c121df77e252b9b317927d4522d0c87d2754d3d83d1f"), looks := false }, kinds := [], alts := [], laidByText := true, laidKinds := [.funcs], laidTests := true, laidLooks := .later }
def TillWrongUptoCardSaid : Prop := Claim7.holds Tryd.pinned (.plain (OpenSpec.upto tillWrongSpec)) tillWrongUptoCard

/-- THE SECOND FORM's CARD OF 'bioscopelaw09.TillNarrow'. -/
def tillNarrowUptoCard : Claim7 := { stood := { row := tillNarrowUptoRow, standIns := [], harness := (true, "57fae622aa223f8c0ff6c121df77e252b9b317927d4522d0c87d2754d3d83d1f"), looks := false }, kinds := [], alts := [], laidByText := true, laidKinds := [.funcs], laidTests := true, laidLooks := .later }
def TillNarrowUptoCardSaid : Prop := Claim7.holds Tryd.pinned (.plain (OpenSpec.upto tillNarrowSpec)) tillNarrowUptoCard

/-- THE SECOND FORM's CARD OF 'bioscopelaw09.TillParted'. -/
def tillPartedUptoCard : Claim7 := { stood := { row := tillPartedUptoRow, standIns := [], harness := (true, "57fae622aa223f8c0ff6c121df77e252b9b317927d4522d0c87d2754d3d83d1f"), looks := false }, kinds := [], alts := [], laidByText := true, laidKinds := [.funcs], laidTests := true, laidLooks := .later }
def TillPartedUptoCardSaid : Prop := Claim7.holds Tryd.pinned (.plain (OpenSpec.upto tillPartedSpec)) tillPartedUptoCard
end Rows
end Go.Proofs.YtcnndpedeofbmaaDoor
