/-
  DERIVED. GIVEN WITH THE SEED: THE CARDS: each row of YtdbcedmofoakmaaDoorRows.lean that lists a variable, with what it lists TIED to the program's text (the seventh form; the later family's looks); each row that meets fmt, with fmt's text TOLD by the authors' own Lean function (tested against real Go, not proved from fmt's source: count such statements apart). THE CARD IS WHAT COUNTS. Prove the row's statement (the work); the ties are given (YtdbcedmofoakmaaDoorTie.lean); close each card by the builder's one call (the guide's Derived/Test/ToyasCard.lean, 'card_holds'). Laid BY PROGRAM, IN A SANDBOX (cutbox-door.mjs). By AI agents, Wed Nov 11 2026. No macro, syntax, notation, axiom, sorry.
-/
import Derived.Test.YtdbcedmofoakmaaDoorRows
import GoSem.ClaimSeven
namespace Go.Proofs.YtdbcedmofoakmaaDoor
namespace Rows

/-- THE TIED CARD OF 'bioscopelaw04.EngineLefts'. -/
def engineLeftsCard : Claim7 := { stood := { row := engineLeftsRow, standIns := [], harness := (true, "a00bebfef80b49c1b86e91313a1e0a55b0129dc1019e7fc813bb4a63c1cb55c1"), looks := false }, kinds := [], alts := [], laidByText := true, laidKinds := [.funcs], laidTests := true, laidLooks := .later }
def EngineLeftsCardSaid : Prop := Claim7.holds Tryd.pinned (.plain (OpenSpec.ofChange engineLeftsSpec)) engineLeftsCard

/-- THE TIED CARD OF 'bioscopelaw04.EnginePlans'. -/
def enginePlansCard : Claim7 := { stood := { row := enginePlansRow, standIns := [], harness := (true, "a00bebfef80b49c1b86e91313a1e0a55b0129dc1019e7fc813bb4a63c1cb55c1"), looks := false }, kinds := [], alts := [], laidByText := true, laidKinds := [.funcs], laidTests := true, laidLooks := .later }
def EnginePlansCardSaid : Prop := Claim7.holds Tryd.pinned (.plain (OpenSpec.ofChange enginePlansSpec)) enginePlansCard

/-- THE TIED CARD OF 'bioscopelaw04.EngineLongs'. -/
def engineLongsCard : Claim7 := { stood := { row := engineLongsRow, standIns := [], harness := (true, "a00bebfef80b49c1b86e91313a1e0a55b0129dc1019e7fc813bb4a63c1cb55c1"), looks := false }, kinds := [], alts := [], laidByText := true, laidKinds := [.funcs], laidTests := true, laidLooks := .later }
def EngineLongsCardSaid : Prop := Claim7.holds Tryd.pinned (.plain (OpenSpec.ofChange engineLongsSpec)) engineLongsCard

/-- THE TIED CARD OF 'bioscopelaw04.EngineTrue'. -/
def engineTrueCard : Claim7 := { stood := { row := engineTrueRow, standIns := [], harness := (true, "a00bebfef80b49c1b86e91313a1e0a55b0129dc1019e7fc813bb4a63c1cb55c1"), looks := false }, kinds := [], alts := [], laidByText := true, laidKinds := [.funcs], laidTests := true, laidLooks := .later }
def EngineTrueCardSaid : Prop := Claim7.holds Tryd.pinned (.plain (OpenSpec.ofChange engineTrueSpec)) engineTrueCard

/-- THE TIED CARD OF 'bioscopelaw04.EngineEnds'. -/
def engineEndsCard : Claim7 := { stood := { row := engineEndsRow, standIns := [], harness := (true, "a00bebfef80b49c1b86e91313a1e0a55b0129dc1019e7fc813bb4a63c1cb55c1"), looks := false }, kinds := [], alts := [], laidByText := true, laidKinds := [.funcs], laidTests := true, laidLooks := .later }
def EngineEndsCardSaid : Prop := Claim7.holds Tryd.pinned (.plain (OpenSpec.ofChange engineEndsSpec)) engineEndsCard

/-- THE TIED CARD OF 'bioscopelaw04.EngineFewest'. -/
def engineFewestCard : Claim7 := { stood := { row := engineFewestRow, standIns := [], harness := (true, "a00bebfef80b49c1b86e91313a1e0a55b0129dc1019e7fc813bb4a63c1cb55c1"), looks := false }, kinds := [], alts := [], laidByText := true, laidKinds := [.funcs], laidTests := true, laidLooks := .later }
def EngineFewestCardSaid : Prop := Claim7.holds Tryd.pinned (.plain (OpenSpec.ofChange engineFewestSpec)) engineFewestCard

/-- THE TIED CARD OF 'bioscopelaw04.EngineLonger'. -/
def engineLongerCard : Claim7 := { stood := { row := engineLongerRow, standIns := [], harness := (true, "a00bebfef80b49c1b86e91313a1e0a55b0129dc1019e7fc813bb4a63c1cb55c1"), looks := false }, kinds := [], alts := [], laidByText := true, laidKinds := [.funcs], laidTests := true, laidLooks := .later }
def EngineLongerCardSaid : Prop := Claim7.holds Tryd.pinned (.plain (OpenSpec.ofChange engineLongerSpec)) engineLongerCard

/-- THE TIED CARD OF 'bioscopelaw04.EngineParts'. -/
def enginePartsCard : Claim7 := { stood := { row := enginePartsRow, standIns := [], harness := (true, "a00bebfef80b49c1b86e91313a1e0a55b0129dc1019e7fc813bb4a63c1cb55c1"), looks := false }, kinds := [], alts := [], laidByText := true, laidKinds := [.funcs], laidTests := true, laidLooks := .later }
def EnginePartsCardSaid : Prop := Claim7.holds Tryd.pinned (.plain (OpenSpec.ofChange enginePartsSpec)) enginePartsCard

/-- THE TIED CARD OF 'bioscopelaw04.EngineCoal'. -/
def engineCoalCard : Claim7 := { stood := { row := engineCoalRow, standIns := [], harness := (true, "a00bebfef80b49c1b86e91313a1e0a55b0129dc1019e7fc813bb4a63c1cb55c1"), looks := false }, kinds := [], alts := [], laidByText := true, laidKinds := [.funcs], laidTests := true, laidLooks := .later }
def EngineCoalCardSaid : Prop := Claim7.holds Tryd.pinned (.plain (OpenSpec.ofChange engineCoalSpec)) engineCoalCard

/-- THE TIED CARD OF 'bioscopelaw04.EngineEasier'. -/
def engineEasierCard : Claim7 := { stood := { row := engineEasierRow, standIns := [], harness := (true, "a00bebfef80b49c1b86e91313a1e0a55b0129dc1019e7fc813bb4a63c1cb55c1"), looks := false }, kinds := [], alts := [], laidByText := true, laidKinds := [.funcs], laidTests := true, laidLooks := .later }
def EngineEasierCardSaid : Prop := Claim7.holds Tryd.pinned (.plain (OpenSpec.ofChange engineEasierSpec)) engineEasierCard

/-- THE TIED CARD OF 'bioscopelaw04.EngineKnown'. -/
def engineKnownCard : Claim7 := { stood := { row := engineKnownRow, standIns := [], harness := (true, "a00bebfef80b49c1b86e91313a1e0a55b0129dc1019e7fc813bb4a63c1cb55c1"), looks := false }, kinds := [], alts := [], laidByText := true, laidKinds := [.funcs], laidTests := true, laidLooks := .later }
def EngineKnownCardSaid : Prop := Claim7.holds Tryd.pinned (.plain (OpenSpec.ofChange engineKnownSpec)) engineKnownCard

/-- THE SECOND FORM's CARD OF 'bioscopelaw04.EngineLefts'. -/
def engineLeftsUptoCard : Claim7 := { stood := { row := engineLeftsUptoRow, standIns := [], harness := (true, "a00bebfef80b49c1b86e91313a1e0a55b0129dc1019e7fc813bb4a63c1cb55c1"), looks := false }, kinds := [], alts := [], laidByText := true, laidKinds := [.funcs], laidTests := true, laidLooks := .later }
def EngineLeftsUptoCardSaid : Prop := Claim7.holds Tryd.pinned (.plain (OpenSpec.upto engineLeftsSpec)) engineLeftsUptoCard

/-- THE SECOND FORM's CARD OF 'bioscopelaw04.EnginePlans'. -/
def enginePlansUptoCard : Claim7 := { stood := { row := enginePlansUptoRow, standIns := [], harness := (true, "a00bebfef80b49c1b86e91313a1e0a55b0129dc1019e7fc813bb4a63c1cb55c1"), looks := false }, kinds := [], alts := [], laidByText := true, laidKinds := [.funcs], laidTests := true, laidLooks := .later }
def EnginePlansUptoCardSaid : Prop := Claim7.holds Tryd.pinned (.plain (OpenSpec.upto enginePlansSpec)) enginePlansUptoCard

/-- THE SECOND FORM's CARD OF 'bioscopelaw04.EngineLongs'. -/
def engineLongsUptoCard : Claim7 := { stood := { row := engineLongsUptoRow, standIns := [], harness := (true, "a00bebfef80b49c1b86e91313a1e0a55b0129dc1019e7fc813bb4a63c1cb55c1"), looks := false }, kinds := [], alts := [], laidByText := true, laidKinds := [.funcs], laidTests := true, laidLooks := .later }
def EngineLongsUptoCardSaid : Prop := Claim7.holds Tryd.pinned (.plain (OpenSpec.upto engineLongsSpec)) engineLongsUptoCard

/-- THE SECOND FORM's CARD OF 'bioscopelaw04.EngineTrue'. -/
def engineTrueUptoCard : Claim7 := { stood := { row := engineTrueUptoRow, standIns := [], harness := (true, "a00bebfef80b49c1b86e91313a1e0a55b0129dc1019e7fc813bb4a63c1cb55c1"), looks := false }, kinds := [], alts := [], laidByText := true, laidKinds := [.funcs], laidTests := true, laidLooks := .later }
def EngineTrueUptoCardSaid : Prop := Claim7.holds Tryd.pinned (.plain (OpenSpec.upto engineTrueSpec)) engineTrueUptoCard

/-- THE SECOND FORM's CARD OF 'bioscopelaw04.EngineEnds'. -/
def engineEndsUptoCard : Claim7 := { stood := { row := engineEndsUptoRow, standIns := [], harness := (true, "a00bebfef80b49c1b86e91313a1e0a55b0129dc1019e7fc813bb4a63c1cb55c1"), looks := false }, kinds := [], alts := [], laidByText := true, laidKinds := [.funcs], laidTests := true, laidLooks := .later }
def EngineEndsUptoCardSaid : Prop := Claim7.holds Tryd.pinned (.plain (OpenSpec.upto engineEndsSpec)) engineEndsUptoCard

/-- THE SECOND FORM's CARD OF 'bioscopelaw04.EngineFewest'. -/
def engineFewestUptoCard : Claim7 := { stood := { row := engineFewestUptoRow, standIns := [], harness := (true, "a00bebfef80b49c1b86e91313a1e0a55b0129dc1019e7fc813bb4a63c1cb55c1"), looks := false }, kinds := [], alts := [], laidByText := true, laidKinds := [.funcs], laidTests := true, laidLooks := .later }
def EngineFewestUptoCardSaid : Prop := Claim7.holds Tryd.pinned (.plain (OpenSpec.upto engineFewestSpec)) engineFewestUptoCard

/-- THE SECOND FORM's CARD OF 'bioscopelaw04.EngineLonger'. -/
def engineLongerUptoCard : Claim7 := { stood := { row := engineLongerUptoRow, standIns := [], harness := (true, "a00bebfef80b49c1b86e91313a1e0a55b0129dc1019e7fc813bb4a63c1cb55c1"), looks := false }, kinds := [], alts := [], laidByText := true, laidKinds := [.funcs], laidTests := true, laidLooks := .later }
def EngineLongerUptoCardSaid : Prop := Claim7.holds Tryd.pinned (.plain (OpenSpec.upto engineLongerSpec)) engineLongerUptoCard

/-- THE SECOND FORM's CARD OF 'bioscopelaw04.EngineParts'. -/
def enginePartsUptoCard : Claim7 := { stood := { row := enginePartsUptoRow, standIns := [], harness := (true, "a00bebfef80b49c1b86e91313a1e0a55b0129dc1019e7fc813bb4a63c1cb55c1"), looks := false }, kinds := [], alts := [], laidByText := true, laidKinds := [.funcs], laidTests := true, laidLooks := .later }
def EnginePartsUptoCardSaid : Prop := Claim7.holds Tryd.pinned (.plain (OpenSpec.upto enginePartsSpec)) enginePartsUptoCard

/-- THE SECOND FORM's CARD OF 'bioscopelaw04.EngineCoal'. -/
def engineCoalUptoCard : Claim7 := { stood := { row := engineCoalUptoRow, standIns := [], harness := (true, "a00bebfef80b49c1b86e91313a1e0a55b0129dc1019e7fc813bb4a63c1cb55c1"), looks := false }, kinds := [], alts := [], laidByText := true, laidKinds := [.funcs], laidTests := true, laidLooks := .later }
def EngineCoalUptoCardSaid : Prop := Claim7.holds Tryd.pinned (.plain (OpenSpec.upto engineCoalSpec)) engineCoalUptoCard

/-- THE SECOND FORM's CARD OF 'bioscopelaw04.EngineEasier'. -/
def engineEasierUptoCard : Claim7 := { stood := { row := engineEasierUptoRow, standIns := [], harness := (true, "a00bebfef80b49c1b86e91313a1e0a55b0129dc1019e7fc813bb4a63c1cb55c1"), looks := false }, kinds := [], alts := [], laidByText := true, laidKinds := [.funcs], laidTests := true, laidLooks := .later }
def EngineEasierUptoCardSaid : Prop := Claim7.holds Tryd.pinned (.plain (OpenSpec.upto engineEasierSpec)) engineEasierUptoCard

/-- THE SECOND FORM's CARD OF 'bioscopelaw04.EngineKnown'. -/
def engineKnownUptoCard : Claim7 := { stood := { row := engineKnownUptoRow, standIns := [], harness := (true, "a00bebfef80b49c1b86e91313a1e0a55b0129dc1019e7fc813bb4a63c1cb55c1"), looks := false }, kinds := [], alts := [], laidByText := true, laidKinds := [.funcs], laidTests := true, laidLooks := .later }
def EngineKnownUptoCardSaid : Prop := Claim7.holds Tryd.pinned (.plain (OpenSpec.upto engineKnownSpec)) engineKnownUptoCard
end Rows
end Go.Proofs.YtdbcedmofoakmaaDoor
