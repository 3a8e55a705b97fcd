/-
  NARROWER THAN 'FOR EVERY INPUT', by the rows' own cells (each row's printed sentence says how): EngineLefts: laid · EnginePlans: laid · EngineLongs: laid · EngineTrue: laid · EngineEnds: laid · EngineFewest: laid · EngineLonger: laid · EngineParts: laid · EngineCoal: laid · EngineEasier: laid · EngineKnown: laid.
  DERIVED. THE GIVEN ROWS OF THIS SEAT. 11 by the template 'for every input the law returns true; each argument reads behind the call as it read before'; 0 by the template 'total and deterministic' (their statements: YtdbcedmofoakmaaDoorTotals.lean).
  GIVEN WITH THE SEED: the statements are not yours to turn. If you find one false, say at which input.
  Laid BY PROGRAM, IN A SANDBOX (cutbox-rows.mjs): the forced cells as the released guide's own fill.sh prints them over the translation fab80285d3c2c8b6… (all of the seat's roots in one cut). By AI agents, Wed Nov 11 2026. No macro, syntax, notation, axiom, sorry.
-/
import Derived.Test.YtdbcedmofoakmaaDoorChecked
import GoSem.Claim
import GoSem.ClaimJoined
import GoSem.ClaimMapViews
import Derived.JoinedTies
import Derived.KernelRfl
namespace Go.Proofs.YtdbcedmofoakmaaDoor
/- THE CELL 'sum', in the pinned program and in every row, IS THE sha256 OF THE DUMP (.gsa) THAT YtdbcedmofoakmaaDoorProg.lean LOADS. Nothing in Lean hashes anything: it is a label: what it is worth is what the hold of that sum in a sandbox is worth. -/
noncomputable def Tryd.pinned : Pinned := { name := "ytdbcedmofoakmaadoor", sum := "fab80285d3c2c8b60f04bf61cc032273c9b1f6773034f77d0923db954d8b1fe6", checked := Tryd.checked }
namespace Rows
def none {H : Type} : Left H := { results := [], args := [] }

/- WHAT THE LISTED PACKAGE-LEVEL VARIABLES READ AS WHEN THE CALL BEGINS. Each datum BY PROGRAM (the guide's laid-datum.mjs) off the statement by which the dump's own 'gosem.cut.vars' lays the variable. In a bare row this is a premise. The card (YtdbcedmofoakmaaDoorCards.lean) ties it to the program's text. -/
def laid_bioscope_engine_stuffs {H : Type} : DataW H := .iface "func table" (.agg [.iface "func" (.lit (.string [40, 98, 105, 111, 115, 99, 111, 112, 101, 47, 101, 110, 103, 105, 110, 101, 46, 101, 118, 101, 110, 105, 110, 103, 41, 46, 99, 111, 97, 108])), .iface "func" (.lit (.string [40, 98, 105, 111, 115, 99, 111, 112, 101, 47, 101, 110, 103, 105, 110, 101, 46, 101, 118, 101, 110, 105, 110, 103, 41, 46, 119, 97, 116, 101, 114]))])

/-- 'bioscopelaw04.EngineLefts': WHATEVER THE INPUT: true; the input reads as it did. -/
def engineLeftsSpec : ChangeSpec := { name := "engineLefts", fn := fun _ => fun
  | [d1, d2, d3] => { results := [.lit (.bool true)], args := [d1, d2, d3] }
  | _ => none }
def engineLeftsRow : OpenClaim := { program := "ytdbcedmofoakmaadoor", sum := "fab80285d3c2c8b60f04bf61cc032273c9b1f6773034f77d0923db954d8b1fe6", func := "bioscope/bioscopelaw04.EngineLefts", spec := "engineLefts", unfollowed := true, recurses := true, named := ["bioscope/engine.stuffs"], plainKeys := false, apart := false, laid := [("bioscope/engine.stuffs", laid_bioscope_engine_stuffs)] }
def EngineLeftsSaid : Prop := engineLeftsRow.holds Tryd.pinned (OpenSpec.ofChange engineLeftsSpec)

/-- ITS FALSE NEIGHBOUR: 'it returns false'. Refute it at one input. -/
def engineLeftsWrong : ChangeSpec := { name := "engineLefts", fn := fun _ => fun
  | [d1, d2, d3] => { results := [.lit (.bool false)], args := [d1, d2, d3] }
  | _ => none }
def EngineLeftsWrongFalsely : Prop := engineLeftsRow.holds Tryd.pinned (OpenSpec.ofChange engineLeftsWrong)

/-- 'bioscopelaw04.EnginePlans': WHATEVER THE INPUT: true; the input reads as it did. -/
def enginePlansSpec : ChangeSpec := { name := "enginePlans", fn := fun _ => fun
  | [d1, d2] => { results := [.lit (.bool true)], args := [d1, d2] }
  | _ => none }
def enginePlansRow : OpenClaim := { program := "ytdbcedmofoakmaadoor", sum := "fab80285d3c2c8b60f04bf61cc032273c9b1f6773034f77d0923db954d8b1fe6", func := "bioscope/bioscopelaw04.EnginePlans", spec := "enginePlans", unfollowed := true, recurses := true, named := ["bioscope/engine.stuffs"], plainKeys := false, apart := false, laid := [("bioscope/engine.stuffs", laid_bioscope_engine_stuffs)] }
def EnginePlansSaid : Prop := enginePlansRow.holds Tryd.pinned (OpenSpec.ofChange enginePlansSpec)

/-- ITS FALSE NEIGHBOUR: 'it returns false'. Refute it at one input. -/
def enginePlansWrong : ChangeSpec := { name := "enginePlans", fn := fun _ => fun
  | [d1, d2] => { results := [.lit (.bool false)], args := [d1, d2] }
  | _ => none }
def EnginePlansWrongFalsely : Prop := enginePlansRow.holds Tryd.pinned (OpenSpec.ofChange enginePlansWrong)

/-- 'bioscopelaw04.EngineLongs': WHATEVER THE INPUT: true; the input reads as it did. -/
def engineLongsSpec : ChangeSpec := { name := "engineLongs", fn := fun _ => fun
  | [d1, d2] => { results := [.lit (.bool true)], args := [d1, d2] }
  | _ => none }
def engineLongsRow : OpenClaim := { program := "ytdbcedmofoakmaadoor", sum := "fab80285d3c2c8b60f04bf61cc032273c9b1f6773034f77d0923db954d8b1fe6", func := "bioscope/bioscopelaw04.EngineLongs", spec := "engineLongs", unfollowed := true, recurses := true, named := ["bioscope/engine.stuffs"], plainKeys := false, apart := false, laid := [("bioscope/engine.stuffs", laid_bioscope_engine_stuffs)] }
def EngineLongsSaid : Prop := engineLongsRow.holds Tryd.pinned (OpenSpec.ofChange engineLongsSpec)

/-- ITS FALSE NEIGHBOUR: 'it returns false'. Refute it at one input. -/
def engineLongsWrong : ChangeSpec := { name := "engineLongs", fn := fun _ => fun
  | [d1, d2] => { results := [.lit (.bool false)], args := [d1, d2] }
  | _ => none }
def EngineLongsWrongFalsely : Prop := engineLongsRow.holds Tryd.pinned (OpenSpec.ofChange engineLongsWrong)

/-- 'bioscopelaw04.EngineTrue': WHATEVER THE INPUT: true; the input reads as it did. -/
def engineTrueSpec : ChangeSpec := { name := "engineTrue", fn := fun _ => fun
  | [d1, d2, d3] => { results := [.lit (.bool true)], args := [d1, d2, d3] }
  | _ => none }
def engineTrueRow : OpenClaim := { program := "ytdbcedmofoakmaadoor", sum := "fab80285d3c2c8b60f04bf61cc032273c9b1f6773034f77d0923db954d8b1fe6", func := "bioscope/bioscopelaw04.EngineTrue", spec := "engineTrue", unfollowed := true, recurses := true, named := ["bioscope/engine.stuffs"], plainKeys := false, apart := false, laid := [("bioscope/engine.stuffs", laid_bioscope_engine_stuffs)] }
def EngineTrueSaid : Prop := engineTrueRow.holds Tryd.pinned (OpenSpec.ofChange engineTrueSpec)

/-- ITS FALSE NEIGHBOUR: 'it returns false'. Refute it at one input. -/
def engineTrueWrong : ChangeSpec := { name := "engineTrue", fn := fun _ => fun
  | [d1, d2, d3] => { results := [.lit (.bool false)], args := [d1, d2, d3] }
  | _ => none }
def EngineTrueWrongFalsely : Prop := engineTrueRow.holds Tryd.pinned (OpenSpec.ofChange engineTrueWrong)

/-- 'bioscopelaw04.EngineEnds': WHATEVER THE INPUT: true; the input reads as it did. -/
def engineEndsSpec : ChangeSpec := { name := "engineEnds", fn := fun _ => fun
  | [d1, d2, d3] => { results := [.lit (.bool true)], args := [d1, d2, d3] }
  | _ => none }
def engineEndsRow : OpenClaim := { program := "ytdbcedmofoakmaadoor", sum := "fab80285d3c2c8b60f04bf61cc032273c9b1f6773034f77d0923db954d8b1fe6", func := "bioscope/bioscopelaw04.EngineEnds", spec := "engineEnds", unfollowed := true, recurses := true, named := ["bioscope/engine.stuffs"], plainKeys := false, apart := false, laid := [("bioscope/engine.stuffs", laid_bioscope_engine_stuffs)] }
def EngineEndsSaid : Prop := engineEndsRow.holds Tryd.pinned (OpenSpec.ofChange engineEndsSpec)

/-- ITS FALSE NEIGHBOUR: 'it returns false'. Refute it at one input. -/
def engineEndsWrong : ChangeSpec := { name := "engineEnds", fn := fun _ => fun
  | [d1, d2, d3] => { results := [.lit (.bool false)], args := [d1, d2, d3] }
  | _ => none }
def EngineEndsWrongFalsely : Prop := engineEndsRow.holds Tryd.pinned (OpenSpec.ofChange engineEndsWrong)

/-- 'bioscopelaw04.EngineFewest': WHATEVER THE INPUT: true; the input reads as it did. -/
def engineFewestSpec : ChangeSpec := { name := "engineFewest", fn := fun _ => fun
  | [d1, d2, d3] => { results := [.lit (.bool true)], args := [d1, d2, d3] }
  | _ => none }
def engineFewestRow : OpenClaim := { program := "ytdbcedmofoakmaadoor", sum := "fab80285d3c2c8b60f04bf61cc032273c9b1f6773034f77d0923db954d8b1fe6", func := "bioscope/bioscopelaw04.EngineFewest", spec := "engineFewest", unfollowed := true, recurses := true, named := ["bioscope/engine.stuffs"], plainKeys := false, apart := false, laid := [("bioscope/engine.stuffs", laid_bioscope_engine_stuffs)] }
def EngineFewestSaid : Prop := engineFewestRow.holds Tryd.pinned (OpenSpec.ofChange engineFewestSpec)

/-- ITS FALSE NEIGHBOUR: 'it returns false'. Refute it at one input. -/
def engineFewestWrong : ChangeSpec := { name := "engineFewest", fn := fun _ => fun
  | [d1, d2, d3] => { results := [.lit (.bool false)], args := [d1, d2, d3] }
  | _ => none }
def EngineFewestWrongFalsely : Prop := engineFewestRow.holds Tryd.pinned (OpenSpec.ofChange engineFewestWrong)

/-- 'bioscopelaw04.EngineLonger': WHATEVER THE INPUT: true; the input reads as it did. -/
def engineLongerSpec : ChangeSpec := { name := "engineLonger", fn := fun _ => fun
  | [d1, d2] => { results := [.lit (.bool true)], args := [d1, d2] }
  | _ => none }
def engineLongerRow : OpenClaim := { program := "ytdbcedmofoakmaadoor", sum := "fab80285d3c2c8b60f04bf61cc032273c9b1f6773034f77d0923db954d8b1fe6", func := "bioscope/bioscopelaw04.EngineLonger", spec := "engineLonger", unfollowed := true, recurses := true, named := ["bioscope/engine.stuffs"], plainKeys := false, apart := false, laid := [("bioscope/engine.stuffs", laid_bioscope_engine_stuffs)] }
def EngineLongerSaid : Prop := engineLongerRow.holds Tryd.pinned (OpenSpec.ofChange engineLongerSpec)

/-- ITS FALSE NEIGHBOUR: 'it returns false'. Refute it at one input. -/
def engineLongerWrong : ChangeSpec := { name := "engineLonger", fn := fun _ => fun
  | [d1, d2] => { results := [.lit (.bool false)], args := [d1, d2] }
  | _ => none }
def EngineLongerWrongFalsely : Prop := engineLongerRow.holds Tryd.pinned (OpenSpec.ofChange engineLongerWrong)

/-- 'bioscopelaw04.EngineParts': WHATEVER THE INPUT: true; the input reads as it did. -/
def enginePartsSpec : ChangeSpec := { name := "engineParts", fn := fun _ => fun
  | [d1, d2] => { results := [.lit (.bool true)], args := [d1, d2] }
  | _ => none }
def enginePartsRow : OpenClaim := { program := "ytdbcedmofoakmaadoor", sum := "fab80285d3c2c8b60f04bf61cc032273c9b1f6773034f77d0923db954d8b1fe6", func := "bioscope/bioscopelaw04.EngineParts", spec := "engineParts", unfollowed := true, recurses := true, named := ["bioscope/engine.stuffs"], plainKeys := false, apart := false, laid := [("bioscope/engine.stuffs", laid_bioscope_engine_stuffs)] }
def EnginePartsSaid : Prop := enginePartsRow.holds Tryd.pinned (OpenSpec.ofChange enginePartsSpec)

/-- ITS FALSE NEIGHBOUR: 'it returns false'. Refute it at one input. -/
def enginePartsWrong : ChangeSpec := { name := "engineParts", fn := fun _ => fun
  | [d1, d2] => { results := [.lit (.bool false)], args := [d1, d2] }
  | _ => none }
def EnginePartsWrongFalsely : Prop := enginePartsRow.holds Tryd.pinned (OpenSpec.ofChange enginePartsWrong)

/-- 'bioscopelaw04.EngineCoal': WHATEVER THE INPUT: true; the input reads as it did. -/
def engineCoalSpec : ChangeSpec := { name := "engineCoal", fn := fun _ => fun
  | [d1, d2] => { results := [.lit (.bool true)], args := [d1, d2] }
  | _ => none }
def engineCoalRow : OpenClaim := { program := "ytdbcedmofoakmaadoor", sum := "fab80285d3c2c8b60f04bf61cc032273c9b1f6773034f77d0923db954d8b1fe6", func := "bioscope/bioscopelaw04.EngineCoal", spec := "engineCoal", unfollowed := true, recurses := true, named := ["bioscope/engine.stuffs"], plainKeys := false, apart := false, laid := [("bioscope/engine.stuffs", laid_bioscope_engine_stuffs)] }
def EngineCoalSaid : Prop := engineCoalRow.holds Tryd.pinned (OpenSpec.ofChange engineCoalSpec)

/-- ITS FALSE NEIGHBOUR: 'it returns false'. Refute it at one input. -/
def engineCoalWrong : ChangeSpec := { name := "engineCoal", fn := fun _ => fun
  | [d1, d2] => { results := [.lit (.bool false)], args := [d1, d2] }
  | _ => none }
def EngineCoalWrongFalsely : Prop := engineCoalRow.holds Tryd.pinned (OpenSpec.ofChange engineCoalWrong)

/-- 'bioscopelaw04.EngineEasier': WHATEVER THE INPUT: true; the input reads as it did. -/
def engineEasierSpec : ChangeSpec := { name := "engineEasier", fn := fun _ => fun
  | [d1, d2] => { results := [.lit (.bool true)], args := [d1, d2] }
  | _ => none }
def engineEasierRow : OpenClaim := { program := "ytdbcedmofoakmaadoor", sum := "fab80285d3c2c8b60f04bf61cc032273c9b1f6773034f77d0923db954d8b1fe6", func := "bioscope/bioscopelaw04.EngineEasier", spec := "engineEasier", unfollowed := true, recurses := true, named := ["bioscope/engine.stuffs"], plainKeys := false, apart := false, laid := [("bioscope/engine.stuffs", laid_bioscope_engine_stuffs)] }
def EngineEasierSaid : Prop := engineEasierRow.holds Tryd.pinned (OpenSpec.ofChange engineEasierSpec)

/-- ITS FALSE NEIGHBOUR: 'it returns false'. Refute it at one input. -/
def engineEasierWrong : ChangeSpec := { name := "engineEasier", fn := fun _ => fun
  | [d1, d2] => { results := [.lit (.bool false)], args := [d1, d2] }
  | _ => none }
def EngineEasierWrongFalsely : Prop := engineEasierRow.holds Tryd.pinned (OpenSpec.ofChange engineEasierWrong)

/-- 'bioscopelaw04.EngineKnown': WHATEVER THE INPUT: true; the input reads as it did. -/
def engineKnownSpec : ChangeSpec := { name := "engineKnown", fn := fun _ => fun
  | [] => { results := [.lit (.bool true)], args := [] }
  | _ => none }
def engineKnownRow : OpenClaim := { program := "ytdbcedmofoakmaadoor", sum := "fab80285d3c2c8b60f04bf61cc032273c9b1f6773034f77d0923db954d8b1fe6", func := "bioscope/bioscopelaw04.EngineKnown", spec := "engineKnown", unfollowed := true, recurses := true, named := ["bioscope/engine.stuffs"], plainKeys := false, apart := false, laid := [("bioscope/engine.stuffs", laid_bioscope_engine_stuffs)] }
def EngineKnownSaid : Prop := engineKnownRow.holds Tryd.pinned (OpenSpec.ofChange engineKnownSpec)

/-- ITS FALSE NEIGHBOUR: 'it returns false'. Refute it at one input. -/
def engineKnownWrong : ChangeSpec := { name := "engineKnown", fn := fun _ => fun
  | [] => { results := [.lit (.bool false)], args := [] }
  | _ => none }
def EngineKnownWrongFalsely : Prop := engineKnownRow.holds Tryd.pinned (OpenSpec.ofChange engineKnownWrong)

/- THE SECOND FORM. 'bulk': how many values and letters a reading holds, each counted each time it is reached (what is shared counts as often as it is met; a slice's spare places count too). A statement '..UptoSaid' is the law's where the arguments, and the package variables that the reading takes, are together of bulk at most 1048576: NARROWER than '..Said'. Prove '..Said' where nothing that the law and all that it calls make is longer than what came in: it says more and counts as full. Else prove '..UptoSaid'. A law counts once. -/
mutual
def uptoBulk {H : Type} : DataW H → Nat
  | .lit (.string bytes) => bytes.length + 1
  | .lit _ => 1
  | .nil => 1
  | .ptr d => uptoBulk d + 1
  | .slice elems spare => uptoBulkAll elems + uptoBulkAll spare + 1
  | .agg parts => uptoBulkAll parts + 1
  | .iface _ d => uptoBulk d + 1
  | .map entries => uptoBulkEntries entries + 1
  | .held _ => 1
def uptoBulkAll {H : Type} : List (DataW H) → Nat
  | [] => 0
  | d :: r => uptoBulk d + uptoBulkAll r
def uptoBulkEntries {H : Type} : List (Lit × DataW H) → Nat
  | [] => 0
  | x :: r => uptoBulkEntry x + uptoBulkEntries r
def uptoBulkEntry {H : Type} : Lit × DataW H → Nat
  | (.string bytes, d) => bytes.length + uptoBulk d + 1
  | (_, d) => uptoBulk d + 1
 end
def uptoSmall : (H : Type) → List (DataW H) → Bool := fun _ ds => decide (uptoBulkAll ds ≤ 1048576)
def OpenSpec.upto (s : _root_.Go.ChangeSpec) : _root_.Go.OpenSpec := { _root_.Go.OpenSpec.ofChange s with cond := some uptoSmall }

/-- 'bioscopelaw04.EngineLefts', WHERE WHAT IT READS IS OF BULK AT MOST 1048576: true; the input reads as it did. -/
def engineLeftsUptoRow : OpenClaim := { program := "ytdbcedmofoakmaadoor", sum := "fab80285d3c2c8b60f04bf61cc032273c9b1f6773034f77d0923db954d8b1fe6", func := "bioscope/bioscopelaw04.EngineLefts", spec := "engineLefts", unfollowed := true, recurses := true, named := ["bioscope/engine.stuffs"], plainKeys := false, apart := false, laid := [("bioscope/engine.stuffs", laid_bioscope_engine_stuffs)], narrowed := true }
def EngineLeftsUptoSaid : Prop := engineLeftsUptoRow.holds Tryd.pinned (OpenSpec.upto engineLeftsSpec)

/-- 'bioscopelaw04.EnginePlans', WHERE WHAT IT READS IS OF BULK AT MOST 1048576: true; the input reads as it did. -/
def enginePlansUptoRow : OpenClaim := { program := "ytdbcedmofoakmaadoor", sum := "fab80285d3c2c8b60f04bf61cc032273c9b1f6773034f77d0923db954d8b1fe6", func := "bioscope/bioscopelaw04.EnginePlans", spec := "enginePlans", unfollowed := true, recurses := true, named := ["bioscope/engine.stuffs"], plainKeys := false, apart := false, laid := [("bioscope/engine.stuffs", laid_bioscope_engine_stuffs)], narrowed := true }
def EnginePlansUptoSaid : Prop := enginePlansUptoRow.holds Tryd.pinned (OpenSpec.upto enginePlansSpec)

/-- 'bioscopelaw04.EngineLongs', WHERE WHAT IT READS IS OF BULK AT MOST 1048576: true; the input reads as it did. -/
def engineLongsUptoRow : OpenClaim := { program := "ytdbcedmofoakmaadoor", sum := "fab80285d3c2c8b60f04bf61cc032273c9b1f6773034f77d0923db954d8b1fe6", func := "bioscope/bioscopelaw04.EngineLongs", spec := "engineLongs", unfollowed := true, recurses := true, named := ["bioscope/engine.stuffs"], plainKeys := false, apart := false, laid := [("bioscope/engine.stuffs", laid_bioscope_engine_stuffs)], narrowed := true }
def EngineLongsUptoSaid : Prop := engineLongsUptoRow.holds Tryd.pinned (OpenSpec.upto engineLongsSpec)

/-- 'bioscopelaw04.EngineTrue', WHERE WHAT IT READS IS OF BULK AT MOST 1048576: true; the input reads as it did. -/
def engineTrueUptoRow : OpenClaim := { program := "ytdbcedmofoakmaadoor", sum := "fab80285d3c2c8b60f04bf61cc032273c9b1f6773034f77d0923db954d8b1fe6", func := "bioscope/bioscopelaw04.EngineTrue", spec := "engineTrue", unfollowed := true, recurses := true, named := ["bioscope/engine.stuffs"], plainKeys := false, apart := false, laid := [("bioscope/engine.stuffs", laid_bioscope_engine_stuffs)], narrowed := true }
def EngineTrueUptoSaid : Prop := engineTrueUptoRow.holds Tryd.pinned (OpenSpec.upto engineTrueSpec)

/-- 'bioscopelaw04.EngineEnds', WHERE WHAT IT READS IS OF BULK AT MOST 1048576: true; the input reads as it did. -/
def engineEndsUptoRow : OpenClaim := { program := "ytdbcedmofoakmaadoor", sum := "fab80285d3c2c8b60f04bf61cc032273c9b1f6773034f77d0923db954d8b1fe6", func := "bioscope/bioscopelaw04.EngineEnds", spec := "engineEnds", unfollowed := true, recurses := true, named := ["bioscope/engine.stuffs"], plainKeys := false, apart := false, laid := [("bioscope/engine.stuffs", laid_bioscope_engine_stuffs)], narrowed := true }
def EngineEndsUptoSaid : Prop := engineEndsUptoRow.holds Tryd.pinned (OpenSpec.upto engineEndsSpec)

/-- 'bioscopelaw04.EngineFewest', WHERE WHAT IT READS IS OF BULK AT MOST 1048576: true; the input reads as it did. -/
def engineFewestUptoRow : OpenClaim := { program := "ytdbcedmofoakmaadoor", sum := "fab80285d3c2c8b60f04bf61cc032273c9b1f6773034f77d0923db954d8b1fe6", func := "bioscope/bioscopelaw04.EngineFewest", spec := "engineFewest", unfollowed := true, recurses := true, named := ["bioscope/engine.stuffs"], plainKeys := false, apart := false, laid := [("bioscope/engine.stuffs", laid_bioscope_engine_stuffs)], narrowed := true }
def EngineFewestUptoSaid : Prop := engineFewestUptoRow.holds Tryd.pinned (OpenSpec.upto engineFewestSpec)

/-- 'bioscopelaw04.EngineLonger', WHERE WHAT IT READS IS OF BULK AT MOST 1048576: true; the input reads as it did. -/
def engineLongerUptoRow : OpenClaim := { program := "ytdbcedmofoakmaadoor", sum := "fab80285d3c2c8b60f04bf61cc032273c9b1f6773034f77d0923db954d8b1fe6", func := "bioscope/bioscopelaw04.EngineLonger", spec := "engineLonger", unfollowed := true, recurses := true, named := ["bioscope/engine.stuffs"], plainKeys := false, apart := false, laid := [("bioscope/engine.stuffs", laid_bioscope_engine_stuffs)], narrowed := true }
def EngineLongerUptoSaid : Prop := engineLongerUptoRow.holds Tryd.pinned (OpenSpec.upto engineLongerSpec)

/-- 'bioscopelaw04.EngineParts', WHERE WHAT IT READS IS OF BULK AT MOST 1048576: true; the input reads as it did. -/
def enginePartsUptoRow : OpenClaim := { program := "ytdbcedmofoakmaadoor", sum := "fab80285d3c2c8b60f04bf61cc032273c9b1f6773034f77d0923db954d8b1fe6", func := "bioscope/bioscopelaw04.EngineParts", spec := "engineParts", unfollowed := true, recurses := true, named := ["bioscope/engine.stuffs"], plainKeys := false, apart := false, laid := [("bioscope/engine.stuffs", laid_bioscope_engine_stuffs)], narrowed := true }
def EnginePartsUptoSaid : Prop := enginePartsUptoRow.holds Tryd.pinned (OpenSpec.upto enginePartsSpec)

/-- 'bioscopelaw04.EngineCoal', WHERE WHAT IT READS IS OF BULK AT MOST 1048576: true; the input reads as it did. -/
def engineCoalUptoRow : OpenClaim := { program := "ytdbcedmofoakmaadoor", sum := "fab80285d3c2c8b60f04bf61cc032273c9b1f6773034f77d0923db954d8b1fe6", func := "bioscope/bioscopelaw04.EngineCoal", spec := "engineCoal", unfollowed := true, recurses := true, named := ["bioscope/engine.stuffs"], plainKeys := false, apart := false, laid := [("bioscope/engine.stuffs", laid_bioscope_engine_stuffs)], narrowed := true }
def EngineCoalUptoSaid : Prop := engineCoalUptoRow.holds Tryd.pinned (OpenSpec.upto engineCoalSpec)

/-- 'bioscopelaw04.EngineEasier', WHERE WHAT IT READS IS OF BULK AT MOST 1048576: true; the input reads as it did. -/
def engineEasierUptoRow : OpenClaim := { program := "ytdbcedmofoakmaadoor", sum := "fab80285d3c2c8b60f04bf61cc032273c9b1f6773034f77d0923db954d8b1fe6", func := "bioscope/bioscopelaw04.EngineEasier", spec := "engineEasier", unfollowed := true, recurses := true, named := ["bioscope/engine.stuffs"], plainKeys := false, apart := false, laid := [("bioscope/engine.stuffs", laid_bioscope_engine_stuffs)], narrowed := true }
def EngineEasierUptoSaid : Prop := engineEasierUptoRow.holds Tryd.pinned (OpenSpec.upto engineEasierSpec)

/-- 'bioscopelaw04.EngineKnown', WHERE WHAT IT READS IS OF BULK AT MOST 1048576: true; the input reads as it did. -/
def engineKnownUptoRow : OpenClaim := { program := "ytdbcedmofoakmaadoor", sum := "fab80285d3c2c8b60f04bf61cc032273c9b1f6773034f77d0923db954d8b1fe6", func := "bioscope/bioscopelaw04.EngineKnown", spec := "engineKnown", unfollowed := true, recurses := true, named := ["bioscope/engine.stuffs"], plainKeys := false, apart := false, laid := [("bioscope/engine.stuffs", laid_bioscope_engine_stuffs)], narrowed := true }
def EngineKnownUptoSaid : Prop := engineKnownUptoRow.holds Tryd.pinned (OpenSpec.upto engineKnownSpec)

end Rows
end Go.Proofs.YtdbcedmofoakmaaDoor
