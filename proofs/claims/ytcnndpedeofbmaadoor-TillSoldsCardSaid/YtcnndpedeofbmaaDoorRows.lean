/-
  NARROWER THAN 'FOR EVERY INPUT', by the rows' own cells (each row's printed sentence says how): TillAsk: laid · TillKnown: laid · TillTruths: laid · TillSolds: laid · TillParts: laid · TillTrue: laid · TillWrong: laid · TillNarrow: laid · TillParted: laid.
  DERIVED. THE GIVEN ROWS OF THIS SEAT. 9 by the template 'for every input the law returns true; each argument reads behind the call as it read before'; 0 by the template 'total and deterministic' (their statements: YtcnndpedeofbmaaDoorTotals.lean).
  GIVEN WITH THE SEED: the statements are not yours to turn. If you find one false, say at which input.
  Laid BY PROGRAM, IN A SANDBOX (cutbox-rows.mjs): the forced cells as the released guide's own fill.sh prints them over the translation a95b23d58058ab96… (all of the seat's roots in one cut). By AI agents, Wed Nov 11 2026. No macro, syntax, notation, axiom, sorry.
-/
import Derived.Test.YtcnndpedeofbmaaDoorChecked
import GoSem.Claim
import GoSem.ClaimJoined
import GoSem.ClaimMapViews
import Derived.JoinedTies
import Derived.KernelRfl
namespace Go.Proofs.YtcnndpedeofbmaaDoor
/- THE CELL 'sum', in the pinned program and in every row, IS THE sha256 OF THE DUMP (.gsa) THAT YtcnndpedeofbmaaDoorProg.lean LOADS. Nothing in Lean hashes anything: it is a label: what it is worth is what the hold of that sum in a sandbox is worth. -/
noncomputable def Tryd.pinned : Pinned := { name := "ytcnndpedeofbmaadoor", sum := "a95b23d58058ab96cff8f6cde6464282d2dcccc8d1dec5184037db6dcb986427", checked := Tryd.checked }
namespace Rows
def none {H : Type} : Left H := { results := [], args := [] }

/- WHAT THE LISTED PACKAGE-LEVEL VARIABLES READ AS WHEN THE CALL BEGINS. Each datum BY PROGRAM (the guide's laid-datum.mjs) off the statement by which the dump's own 'gosem.cut.vars' lays the variable. In a bare row this is a premise. The card (YtcnndpedeofbmaaDoorCards.lean) ties it to the program's text. -/
def laid_bioscope_till_parts {H : Type} : DataW H := .iface "func table" (.agg [.iface "func" (.lit (.string [40, 98, 105, 111, 115, 99, 111, 112, 101, 47, 116, 105, 108, 108, 46, 98, 111, 120, 41, 46, 119, 104, 111, 108, 101])), .iface "func" (.lit (.string [40, 98, 105, 111, 115, 99, 111, 112, 101, 47, 116, 105, 108, 108, 46, 98, 111, 120, 41, 46, 104, 105, 114, 101])), .iface "func" (.lit (.string [40, 98, 105, 111, 115, 99, 111, 112, 101, 47, 116, 105, 108, 108, 46, 98, 111, 120, 41, 46, 108, 101, 102, 116]))])

/-- 'bioscopelaw09.TillAsk': WHATEVER THE INPUT: true; the input reads as it did. -/
def tillAskSpec : ChangeSpec := { name := "tillAsk", fn := fun _ => fun
  | [d1, d2] => { results := [.lit (.bool true)], args := [d1, d2] }
  | _ => none }
def tillAskRow : OpenClaim := { program := "ytcnndpedeofbmaadoor", sum := "a95b23d58058ab96cff8f6cde6464282d2dcccc8d1dec5184037db6dcb986427", func := "bioscope/bioscopelaw09.TillAsk", spec := "tillAsk", unfollowed := true, recurses := true, named := ["bioscope/till.parts"], plainKeys := false, apart := false, laid := [("bioscope/till.parts", laid_bioscope_till_parts)] }
def TillAskSaid : Prop := tillAskRow.holds Tryd.pinned (OpenSpec.ofChange tillAskSpec)

/-- ITS FALSE NEIGHBOUR: 'it returns false'. Refute it at one input. -/
def tillAskWrong : ChangeSpec := { name := "tillAsk", fn := fun _ => fun
  | [d1, d2] => { results := [.lit (.bool false)], args := [d1, d2] }
  | _ => none }
def TillAskWrongFalsely : Prop := tillAskRow.holds Tryd.pinned (OpenSpec.ofChange tillAskWrong)

/-- 'bioscopelaw09.TillKnown': WHATEVER THE INPUT: true; the input reads as it did. -/
def tillKnownSpec : ChangeSpec := { name := "tillKnown", fn := fun _ => fun
  | [] => { results := [.lit (.bool true)], args := [] }
  | _ => none }
def tillKnownRow : OpenClaim := { program := "ytcnndpedeofbmaadoor", sum := "a95b23d58058ab96cff8f6cde6464282d2dcccc8d1dec5184037db6dcb986427", func := "bioscope/bioscopelaw09.TillKnown", spec := "tillKnown", unfollowed := true, recurses := true, named := ["bioscope/till.parts"], plainKeys := false, apart := false, laid := [("bioscope/till.parts", laid_bioscope_till_parts)] }
def TillKnownSaid : Prop := tillKnownRow.holds Tryd.pinned (OpenSpec.ofChange tillKnownSpec)

/-- ITS FALSE NEIGHBOUR: 'it returns false'. Refute it at one input. -/
def tillKnownWrong : ChangeSpec := { name := "tillKnown", fn := fun _ => fun
  | [] => { results := [.lit (.bool false)], args := [] }
  | _ => none }
def TillKnownWrongFalsely : Prop := tillKnownRow.holds Tryd.pinned (OpenSpec.ofChange tillKnownWrong)

/-- 'bioscopelaw09.TillTruths': WHATEVER THE INPUT: true; the input reads as it did. -/
def tillTruthsSpec : ChangeSpec := { name := "tillTruths", fn := fun _ => fun
  | [d1, d2] => { results := [.lit (.bool true)], args := [d1, d2] }
  | _ => none }
def tillTruthsRow : OpenClaim := { program := "ytcnndpedeofbmaadoor", sum := "a95b23d58058ab96cff8f6cde6464282d2dcccc8d1dec5184037db6dcb986427", func := "bioscope/bioscopelaw09.TillTruths", spec := "tillTruths", unfollowed := true, recurses := true, named := ["bioscope/till.parts"], plainKeys := false, apart := false, laid := [("bioscope/till.parts", laid_bioscope_till_parts)] }
def TillTruthsSaid : Prop := tillTruthsRow.holds Tryd.pinned (OpenSpec.ofChange tillTruthsSpec)

/-- ITS FALSE NEIGHBOUR: 'it returns false'. Refute it at one input. -/
def tillTruthsWrong : ChangeSpec := { name := "tillTruths", fn := fun _ => fun
  | [d1, d2] => { results := [.lit (.bool false)], args := [d1, d2] }
  | _ => none }
def TillTruthsWrongFalsely : Prop := tillTruthsRow.holds Tryd.pinned (OpenSpec.ofChange tillTruthsWrong)

/-- 'bioscopelaw09.TillSolds': WHATEVER THE INPUT: true; the input reads as it did. -/
def tillSoldsSpec : ChangeSpec := { name := "tillSolds", fn := fun _ => fun
  | [d1, d2] => { results := [.lit (.bool true)], args := [d1, d2] }
  | _ => none }
def tillSoldsRow : OpenClaim := { program := "ytcnndpedeofbmaadoor", sum := "a95b23d58058ab96cff8f6cde6464282d2dcccc8d1dec5184037db6dcb986427", func := "bioscope/bioscopelaw09.TillSolds", spec := "tillSolds", unfollowed := true, recurses := true, named := ["bioscope/till.parts"], plainKeys := false, apart := false, laid := [("bioscope/till.parts", laid_bioscope_till_parts)] }
def TillSoldsSaid : Prop := tillSoldsRow.holds Tryd.pinned (OpenSpec.ofChange tillSoldsSpec)

/-- ITS FALSE NEIGHBOUR: 'it returns false'. Refute it at one input. -/
def tillSoldsWrong : ChangeSpec := { name := "tillSolds", fn := fun _ => fun
  | [d1, d2] => { results := [.lit (.bool false)], args := [d1, d2] }
  | _ => none }
def TillSoldsWrongFalsely : Prop := tillSoldsRow.holds Tryd.pinned (OpenSpec.ofChange tillSoldsWrong)

/-- 'bioscopelaw09.TillParts': WHATEVER THE INPUT: true; the input reads as it did. -/
def tillPartsSpec : ChangeSpec := { name := "tillParts", fn := fun _ => fun
  | [d] => { results := [.lit (.bool true)], args := [d] }
  | _ => none }
def tillPartsRow : OpenClaim := { program := "ytcnndpedeofbmaadoor", sum := "a95b23d58058ab96cff8f6cde6464282d2dcccc8d1dec5184037db6dcb986427", func := "bioscope/bioscopelaw09.TillParts", spec := "tillParts", unfollowed := true, recurses := true, named := ["bioscope/till.parts"], plainKeys := false, apart := false, laid := [("bioscope/till.parts", laid_bioscope_till_parts)] }
def TillPartsSaid : Prop := tillPartsRow.holds Tryd.pinned (OpenSpec.ofChange tillPartsSpec)

/-- ITS FALSE NEIGHBOUR: 'it returns false'. Refute it at one input. -/
def tillPartsWrong : ChangeSpec := { name := "tillParts", fn := fun _ => fun
  | [d] => { results := [.lit (.bool false)], args := [d] }
  | _ => none }
def TillPartsWrongFalsely : Prop := tillPartsRow.holds Tryd.pinned (OpenSpec.ofChange tillPartsWrong)

/-- 'bioscopelaw09.TillTrue': WHATEVER THE INPUT: true; the input reads as it did. -/
def tillTrueSpec : ChangeSpec := { name := "tillTrue", fn := fun _ => fun
  | [d1, d2] => { results := [.lit (.bool true)], args := [d1, d2] }
  | _ => none }
def tillTrueRow : OpenClaim := { program := "ytcnndpedeofbmaadoor", sum := "a95b23d58058ab96cff8f6cde6464282d2dcccc8d1dec5184037db6dcb986427", func := "bioscope/bioscopelaw09.TillTrue", spec := "tillTrue", unfollowed := true, recurses := true, named := ["bioscope/till.parts"], plainKeys := false, apart := false, laid := [("bioscope/till.parts", laid_bioscope_till_parts)] }
def TillTrueSaid : Prop := tillTrueRow.holds Tryd.pinned (OpenSpec.ofChange tillTrueSpec)

/-- ITS FALSE NEIGHBOUR: 'it returns false'. Refute it at one input. -/
def tillTrueWrong : ChangeSpec := { name := "tillTrue", fn := fun _ => fun
  | [d1, d2] => { results := [.lit (.bool false)], args := [d1, d2] }
  | _ => none }
def TillTrueWrongFalsely : Prop := tillTrueRow.holds Tryd.pinned (OpenSpec.ofChange tillTrueWrong)

/-- 'bioscopelaw09.TillWrong': WHATEVER THE INPUT: true; the input reads as it did. -/
def tillWrongSpec : ChangeSpec := { name := "tillWrong", fn := fun _ => fun
  | [d1, d2] => { results := [.lit (.bool true)], args := [d1, d2] }
  | _ => none }
def tillWrongRow : OpenClaim := { program := "ytcnndpedeofbmaadoor", sum := "a95b23d58058ab96cff8f6cde6464282d2dcccc8d1dec5184037db6dcb986427", func := "bioscope/bioscopelaw09.TillWrong", spec := "tillWrong", unfollowed := true, recurses := true, named := ["bioscope/till.parts"], plainKeys := false, apart := false, laid := [("bioscope/till.parts", laid_bioscope_till_parts)] }
def TillWrongSaid : Prop := tillWrongRow.holds Tryd.pinned (OpenSpec.ofChange tillWrongSpec)

/-- ITS FALSE NEIGHBOUR: 'it returns false'. Refute it at one input. -/
def tillWrongWrong : ChangeSpec := { name := "tillWrong", fn := fun _ => fun
  | [d1, d2] => { results := [.lit (.bool false)], args := [d1, d2] }
  | _ => none }
def TillWrongWrongFalsely : Prop := tillWrongRow.holds Tryd.pinned (OpenSpec.ofChange tillWrongWrong)

/-- 'bioscopelaw09.TillNarrow': WHATEVER THE INPUT: true; the input reads as it did. -/
def tillNarrowSpec : ChangeSpec := { name := "tillNarrow", fn := fun _ => fun
  | [d1, d2] => { results := [.lit (.bool true)], args := [d1, d2] }
  | _ => none }
def tillNarrowRow : OpenClaim := { program := "ytcnndpedeofbmaadoor", sum := "a95b23d58058ab96cff8f6cde6464282d2dcccc8d1dec5184037db6dcb986427", func := "bioscope/bioscopelaw09.TillNarrow", spec := "tillNarrow", unfollowed := true, recurses := true, named := ["bioscope/till.parts"], plainKeys := false, apart := false, laid := [("bioscope/till.parts", laid_bioscope_till_parts)] }
def TillNarrowSaid : Prop := tillNarrowRow.holds Tryd.pinned (OpenSpec.ofChange tillNarrowSpec)

/-- ITS FALSE NEIGHBOUR: 'it returns false'. Refute it at one input. -/
def tillNarrowWrong : ChangeSpec := { name := "tillNarrow", fn := fun _ => fun
  | [d1, d2] => { results := [.lit (.bool false)], args := [d1, d2] }
  | _ => none }
def TillNarrowWrongFalsely : Prop := tillNarrowRow.holds Tryd.pinned (OpenSpec.ofChange tillNarrowWrong)

/-- 'bioscopelaw09.TillParted': WHATEVER THE INPUT: true; the input reads as it did. -/
def tillPartedSpec : ChangeSpec := { name := "tillParted", fn := fun _ => fun
  | [d] => { results := [.lit (.bool true)], args := [d] }
  | _ => none }
def tillPartedRow : OpenClaim := { program := "ytcnndpedeofbmaadoor", sum := "a95b23d58058ab96cff8f6cde6464282d2dcccc8d1dec5184037db6dcb986427", func := "bioscope/bioscopelaw09.TillParted", spec := "tillParted", unfollowed := true, recurses := true, named := ["bioscope/till.parts"], plainKeys := false, apart := false, laid := [("bioscope/till.parts", laid_bioscope_till_parts)] }
def TillPartedSaid : Prop := tillPartedRow.holds Tryd.pinned (OpenSpec.ofChange tillPartedSpec)

/-- ITS FALSE NEIGHBOUR: 'it returns false'. Refute it at one input. -/
def tillPartedWrong : ChangeSpec := { name := "tillParted", fn := fun _ => fun
  | [d] => { results := [.lit (.bool false)], args := [d] }
  | _ => none }
def TillPartedWrongFalsely : Prop := tillPartedRow.holds Tryd.pinned (OpenSpec.ofChange tillPartedWrong)

/- THE SECOND FORM. 'bulk': how many values and letters a reading holds, each counted each time it is reached (what is shared counts as often as it is met; a slice's spare places count too). A statement '..UptoSaid' is the law's where the arguments, and the package variables that the reading takes, are together of bulk at most 1048576: NARROWER than '..Said'. Prove '..Said' where nothing that the law and all that it calls make is longer than what came in: it says more and counts as full. Else prove '..UptoSaid'. A law counts once. -/
mutual
def uptoBulk {H : Type} : DataW H → Nat
  | .lit (.string bytes) => bytes.length + 1
  | .lit _ => 1
  | .nil => 1
  | .ptr d => uptoBulk d + 1
  | .slice elems spare => uptoBulkAll elems + uptoBulkAll spare + 1
  | .agg parts => uptoBulkAll parts + 1
  | .iface _ d => uptoBulk d + 1
  | .map entries => uptoBulkEntries entries + 1
  | .held _ => 1
def uptoBulkAll {H : Type} : List (DataW H) → Nat
  | [] => 0
  | d :: r => uptoBulk d + uptoBulkAll r
def uptoBulkEntries {H : Type} : List (Lit × DataW H) → Nat
  | [] => 0
  | x :: r => uptoBulkEntry x + uptoBulkEntries r
def uptoBulkEntry {H : Type} : Lit × DataW H → Nat
  | (.string bytes, d) => bytes.length + uptoBulk d + 1
  | (_, d) => uptoBulk d + 1
 end
def uptoSmall : (H : Type) → List (DataW H) → Bool := fun _ ds => decide (uptoBulkAll ds ≤ 1048576)
def OpenSpec.upto (s : _root_.Go.ChangeSpec) : _root_.Go.OpenSpec := { _root_.Go.OpenSpec.ofChange s with cond := some uptoSmall }

/-- 'bioscopelaw09.TillAsk', WHERE WHAT IT READS IS OF BULK AT MOST 1048576: true; the input reads as it did. -/
def tillAskUptoRow : OpenClaim := { program := "ytcnndpedeofbmaadoor", sum := "a95b23d58058ab96cff8f6cde6464282d2dcccc8d1dec5184037db6dcb986427", func := "bioscope/bioscopelaw09.TillAsk", spec := "tillAsk", unfollowed := true, recurses := true, named := ["bioscope/till.parts"], plainKeys := false, apart := false, laid := [("bioscope/till.parts", laid_bioscope_till_parts)], narrowed := true }
def TillAskUptoSaid : Prop := tillAskUptoRow.holds Tryd.pinned (OpenSpec.upto tillAskSpec)

/-- 'bioscopelaw09.TillKnown', WHERE WHAT IT READS IS OF BULK AT MOST 1048576: true; the input reads as it did. -/
def tillKnownUptoRow : OpenClaim := { program := "ytcnndpedeofbmaadoor", sum := "a95b23d58058ab96cff8f6cde6464282d2dcccc8d1dec5184037db6dcb986427", func := "bioscope/bioscopelaw09.TillKnown", spec := "tillKnown", unfollowed := true, recurses := true, named := ["bioscope/till.parts"], plainKeys := false, apart := false, laid := [("bioscope/till.parts", laid_bioscope_till_parts)], narrowed := true }
def TillKnownUptoSaid : Prop := tillKnownUptoRow.holds Tryd.pinned (OpenSpec.upto tillKnownSpec)

/-- 'bioscopelaw09.TillTruths', WHERE WHAT IT READS IS OF BULK AT MOST 1048576: true; the input reads as it did. -/
def tillTruthsUptoRow : OpenClaim := { program := "ytcnndpedeofbmaadoor", sum := "a95b23d58058ab96cff8f6cde6464282d2dcccc8d1dec5184037db6dcb986427", func := "bioscope/bioscopelaw09.TillTruths", spec := "tillTruths", unfollowed := true, recurses := true, named := ["bioscope/till.parts"], plainKeys := false, apart := false, laid := [("bioscope/till.parts", laid_bioscope_till_parts)], narrowed := true }
def TillTruthsUptoSaid : Prop := tillTruthsUptoRow.holds Tryd.pinned (OpenSpec.upto tillTruthsSpec)

/-- 'bioscopelaw09.TillSolds', WHERE WHAT IT READS IS OF BULK AT MOST 1048576: true; the input reads as it did. -/
def tillSoldsUptoRow : OpenClaim := { program := "ytcnndpedeofbmaadoor", sum := "a95b23d58058ab96cff8f6cde6464282d2dcccc8d1dec5184037db6dcb986427", func := "bioscope/bioscopelaw09.TillSolds", spec := "tillSolds", unfollowed := true, recurses := true, named := ["bioscope/till.parts"], plainKeys := false, apart := false, laid := [("bioscope/till.parts", laid_bioscope_till_parts)], narrowed := true }
def TillSoldsUptoSaid : Prop := tillSoldsUptoRow.holds Tryd.pinned (OpenSpec.upto tillSoldsSpec)

/-- 'bioscopelaw09.TillParts', WHERE WHAT IT READS IS OF BULK AT MOST 1048576: true; the input reads as it did. -/
def tillPartsUptoRow : OpenClaim := { program := "ytcnndpedeofbmaadoor", sum := "a95b23d58058ab96cff8f6cde6464282d2dcccc8d1dec5184037db6dcb986427", func := "bioscope/bioscopelaw09.TillParts", spec := "tillParts", unfollowed := true, recurses := true, named := ["bioscope/till.parts"], plainKeys := false, apart := false, laid := [("bioscope/till.parts", laid_bioscope_till_parts)], narrowed := true }
def TillPartsUptoSaid : Prop := tillPartsUptoRow.holds Tryd.pinned (OpenSpec.upto tillPartsSpec)

/-- 'bioscopelaw09.TillTrue', WHERE WHAT IT READS IS OF BULK AT MOST 1048576: true; the input reads as it did. -/
def tillTrueUptoRow : OpenClaim := { program := "ytcnndpedeofbmaadoor", sum := "a95b23d58058ab96cff8f6cde6464282d2dcccc8d1dec5184037db6dcb986427", func := "bioscope/bioscopelaw09.TillTrue", spec := "tillTrue", unfollowed := true, recurses := true, named := ["bioscope/till.parts"], plainKeys := false, apart := false, laid := [("bioscope/till.parts", laid_bioscope_till_parts)], narrowed := true }
def TillTrueUptoSaid : Prop := tillTrueUptoRow.holds Tryd.pinned (OpenSpec.upto tillTrueSpec)

/-- 'bioscopelaw09.TillWrong', WHERE WHAT IT READS IS OF BULK AT MOST 1048576: true; the input reads as it did. -/
def tillWrongUptoRow : OpenClaim := { program := "ytcnndpedeofbmaadoor", sum := "a95b23d58058ab96cff8f6cde6464282d2dcccc8d1dec5184037db6dcb986427", func := "bioscope/bioscopelaw09.TillWrong", spec := "tillWrong", unfollowed := true, recurses := true, named := ["bioscope/till.parts"], plainKeys := false, apart := false, laid := [("bioscope/till.parts", laid_bioscope_till_parts)], narrowed := true }
def TillWrongUptoSaid : Prop := tillWrongUptoRow.holds Tryd.pinned (OpenSpec.upto tillWrongSpec)

/-- 'bioscopelaw09.TillNarrow', WHERE WHAT IT READS IS OF BULK AT MOST 1048576: true; the input reads as it did. -/
def tillNarrowUptoRow : OpenClaim := { program := "ytcnndpedeofbmaadoor", sum := "a95b23d58058ab96cff8f6cde6464282d2dcccc8d1dec5184037db6dcb986427", func := "bioscope/bioscopelaw09.TillNarrow", spec := "tillNarrow", unfollowed := true, recurses := true, named := ["bioscope/till.parts"], plainKeys := false, apart := false, laid := [("bioscope/till.parts", laid_bioscope_till_parts)], narrowed := true }
def TillNarrowUptoSaid : Prop := tillNarrowUptoRow.holds Tryd.pinned (OpenSpec.upto tillNarrowSpec)

/-- 'bioscopelaw09.TillParted', WHERE WHAT IT READS IS OF BULK AT MOST 1048576: true; the input reads as it did. -/
def tillPartedUptoRow : OpenClaim := { program := "ytcnndpedeofbmaadoor", sum := "a95b23d58058ab96cff8f6cde6464282d2dcccc8d1dec5184037db6dcb986427", func := "bioscope/bioscopelaw09.TillParted", spec := "tillParted", unfollowed := true, recurses := true, named := ["bioscope/till.parts"], plainKeys := false, apart := false, laid := [("bioscope/till.parts", laid_bioscope_till_parts)], narrowed := true }
def TillPartedUptoSaid : Prop := tillPartedUptoRow.holds Tryd.pinned (OpenSpec.upto tillPartedSpec)

end Rows
end Go.Proofs.YtcnndpedeofbmaaDoor
