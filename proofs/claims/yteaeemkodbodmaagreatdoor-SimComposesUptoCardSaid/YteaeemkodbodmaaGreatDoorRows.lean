/-
  NARROWER THAN 'FOR EVERY INPUT', by the rows' own cells (each row's printed sentence says how): SimResets: loops, laid · SimRuns: loops, laid · SimLimits: laid · SimCones: loops, laid · SimComposes: loops, laid · SimFits: loops, laid · SimSteps: loops, laid.
  DERIVED. THE GIVEN ROWS OF THIS SEAT. 7 by the template 'for every input the law returns true; each argument reads behind the call as it read before'; 0 by the template 'total and deterministic' (their statements: YteaeemkodbodmaaGreatDoorTotals.lean).
  GIVEN WITH THE SEED: the statements are not yours to turn. If you find one false, say at which input.
  Laid BY PROGRAM, IN A SANDBOX (cutbox-rows.mjs): the forced cells as the released guide's own fill.sh prints them over the translation bde8455327c1a4aa… (all of the seat's roots in one cut). By AI agents, Wed Nov 11 2026. No macro, syntax, notation, axiom, sorry.
-/
import Derived.Test.YteaeemkodbodmaaGreatDoorChecked
import GoSem.Claim
import GoSem.ClaimJoined
import GoSem.ClaimMapViews
import Derived.JoinedTies
import Derived.KernelRfl
namespace Go.Proofs.YteaeemkodbodmaaGreatDoor
/- THE CELL 'sum', in the pinned program and in every row, IS THE sha256 OF THE DUMP (.gsa) THAT YteaeemkodbodmaaGreatDoorProg.lean LOADS. Nothing in Lean hashes anything: it is a label: what it is worth is what the hold of that sum in a sandbox is worth. -/
noncomputable def Tryz.pinned : Pinned := { name := "yteaeemkodbodmaagreatdoor", sum := "bde8455327c1a4aa7f17ebf273ff5d80ccd6e5e92bf1da09555f623a87401e28", checked := Tryz.checked }
namespace Rows
def none {H : Type} : Left H := { results := [], args := [] }

/- WHAT THE LISTED PACKAGE-LEVEL VARIABLES READ AS WHEN THE CALL BEGINS. Each datum BY PROGRAM (the guide's laid-datum.mjs) off the statement by which the dump's own 'gosem.cut.vars' lays the variable. In a bare row this is a premise. The card (YteaeemkodbodmaaGreatDoorCards.lean) ties it to the program's text. -/
def laid_testbench_lexer_keywords {H : Type} : DataW H := .slice [.lit (.string [99, 108, 97, 115, 115]), .lit (.string [101, 120, 116, 101, 110, 100, 115]), .lit (.string [114, 97, 110, 100]), .lit (.string [114, 97, 110, 100, 99]), .lit (.string [115, 116, 97, 116, 101]), .lit (.string [99, 111, 110, 115, 116, 114, 97, 105, 110, 116]), .lit (.string [115, 111, 102, 116]), .lit (.string [100, 105, 115, 116]), .lit (.string [105, 102]), .lit (.string [101, 108, 115, 101]), .lit (.string [101, 97, 99, 104]), .lit (.string [105, 110]), .lit (.string [115, 111, 108, 118, 101]), .lit (.string [98, 101, 102, 111, 114, 101]), .lit (.string [105, 110, 115, 105, 100, 101]), .lit (.string [112, 114, 111, 112, 101, 114, 116, 121]), .lit (.string [115, 101, 113]), .lit (.string [97, 110, 100]), .lit (.string [111, 114]), .lit (.string [110, 111, 116]), .lit (.string [115, 101, 116]), .lit (.string [104, 111, 108, 100]), .lit (.string [112, 108, 97, 105, 110]), .lit (.string [114, 101, 112, 101, 97, 116])] []

/-- 'testbenchlaw32.SimResets': WHATEVER THE INPUT: true; the input reads as it did. -/
def simResetsSpec : ChangeSpec := { name := "simResets", fn := fun _ => fun
  | [d] => { results := [.lit (.bool true)], args := [d] }
  | _ => none }
def simResetsRow : OpenClaim := { program := "yteaeemkodbodmaagreatdoor", sum := "bde8455327c1a4aa7f17ebf273ff5d80ccd6e5e92bf1da09555f623a87401e28", func := "testbench/testbenchlaw32.SimResets", spec := "simResets", inPlace := ["internal/bytealg.IndexByteString", "internal/bytealg.IndexString"], unfollowed := true, recurses := true, named := ["testbench/lexer.keywords", "internal/bytealg.MaxLen"], loops := true, apart := false, laid := [("testbench/lexer.keywords", laid_testbench_lexer_keywords)] }
def SimResetsSaid : Prop := simResetsRow.holds Tryz.pinned (OpenSpec.ofChange simResetsSpec)

/-- ITS FALSE NEIGHBOUR: 'it returns false'. Refute it at one input. -/
def simResetsWrong : ChangeSpec := { name := "simResets", fn := fun _ => fun
  | [d] => { results := [.lit (.bool false)], args := [d] }
  | _ => none }
def SimResetsWrongFalsely : Prop := simResetsRow.holds Tryz.pinned (OpenSpec.ofChange simResetsWrong)

/-- 'testbenchlaw32.SimRuns': WHATEVER THE INPUT: true; the input reads as it did. -/
def simRunsSpec : ChangeSpec := { name := "simRuns", fn := fun _ => fun
  | [d1, d2] => { results := [.lit (.bool true)], args := [d1, d2] }
  | _ => none }
def simRunsRow : OpenClaim := { program := "yteaeemkodbodmaagreatdoor", sum := "bde8455327c1a4aa7f17ebf273ff5d80ccd6e5e92bf1da09555f623a87401e28", func := "testbench/testbenchlaw32.SimRuns", spec := "simRuns", inPlace := ["internal/bytealg.IndexByteString", "internal/bytealg.IndexString"], unfollowed := true, recurses := true, named := ["testbench/lexer.keywords", "internal/bytealg.MaxLen"], loops := true, apart := false, laid := [("testbench/lexer.keywords", laid_testbench_lexer_keywords)] }
def SimRunsSaid : Prop := simRunsRow.holds Tryz.pinned (OpenSpec.ofChange simRunsSpec)

/-- ITS FALSE NEIGHBOUR: 'it returns false'. Refute it at one input. -/
def simRunsWrong : ChangeSpec := { name := "simRuns", fn := fun _ => fun
  | [d1, d2] => { results := [.lit (.bool false)], args := [d1, d2] }
  | _ => none }
def SimRunsWrongFalsely : Prop := simRunsRow.holds Tryz.pinned (OpenSpec.ofChange simRunsWrong)

/-- 'testbenchlaw32.SimLimits': WHATEVER THE INPUT: true; the input reads as it did. -/
def simLimitsSpec : ChangeSpec := { name := "simLimits", fn := fun _ => fun
  | [d] => { results := [.lit (.bool true)], args := [d] }
  | _ => none }
def simLimitsRow : OpenClaim := { program := "yteaeemkodbodmaagreatdoor", sum := "bde8455327c1a4aa7f17ebf273ff5d80ccd6e5e92bf1da09555f623a87401e28", func := "testbench/testbenchlaw32.SimLimits", spec := "simLimits", inPlace := ["internal/bytealg.IndexByteString", "internal/bytealg.IndexString"], unfollowed := true, recurses := true, named := ["testbench/lexer.keywords", "internal/bytealg.MaxLen"], apart := false, laid := [("testbench/lexer.keywords", laid_testbench_lexer_keywords)] }
def SimLimitsSaid : Prop := simLimitsRow.holds Tryz.pinned (OpenSpec.ofChange simLimitsSpec)

/-- ITS FALSE NEIGHBOUR: 'it returns false'. Refute it at one input. -/
def simLimitsWrong : ChangeSpec := { name := "simLimits", fn := fun _ => fun
  | [d] => { results := [.lit (.bool false)], args := [d] }
  | _ => none }
def SimLimitsWrongFalsely : Prop := simLimitsRow.holds Tryz.pinned (OpenSpec.ofChange simLimitsWrong)

/-- 'testbenchlaw32.SimCones': WHATEVER THE INPUT: true; the input reads as it did. -/
def simConesSpec : ChangeSpec := { name := "simCones", fn := fun _ => fun
  | [d1, d2, d3] => { results := [.lit (.bool true)], args := [d1, d2, d3] }
  | _ => none }
def simConesRow : OpenClaim := { program := "yteaeemkodbodmaagreatdoor", sum := "bde8455327c1a4aa7f17ebf273ff5d80ccd6e5e92bf1da09555f623a87401e28", func := "testbench/testbenchlaw32.SimCones", spec := "simCones", inPlace := ["internal/bytealg.IndexByteString", "internal/bytealg.IndexString"], unfollowed := true, recurses := true, named := ["testbench/lexer.keywords", "internal/bytealg.MaxLen"], loops := true, apart := false, laid := [("testbench/lexer.keywords", laid_testbench_lexer_keywords)] }
def SimConesSaid : Prop := simConesRow.holds Tryz.pinned (OpenSpec.ofChange simConesSpec)

/-- ITS FALSE NEIGHBOUR: 'it returns false'. Refute it at one input. -/
def simConesWrong : ChangeSpec := { name := "simCones", fn := fun _ => fun
  | [d1, d2, d3] => { results := [.lit (.bool false)], args := [d1, d2, d3] }
  | _ => none }
def SimConesWrongFalsely : Prop := simConesRow.holds Tryz.pinned (OpenSpec.ofChange simConesWrong)

/-- 'testbenchlaw32.SimComposes': WHATEVER THE INPUT: true; the input reads as it did. -/
def simComposesSpec : ChangeSpec := { name := "simComposes", fn := fun _ => fun
  | [d1, d2, d3] => { results := [.lit (.bool true)], args := [d1, d2, d3] }
  | _ => none }
def simComposesRow : OpenClaim := { program := "yteaeemkodbodmaagreatdoor", sum := "bde8455327c1a4aa7f17ebf273ff5d80ccd6e5e92bf1da09555f623a87401e28", func := "testbench/testbenchlaw32.SimComposes", spec := "simComposes", inPlace := ["internal/bytealg.IndexByteString", "internal/bytealg.IndexString"], unfollowed := true, recurses := true, named := ["testbench/lexer.keywords", "internal/bytealg.MaxLen"], loops := true, apart := false, laid := [("testbench/lexer.keywords", laid_testbench_lexer_keywords)] }
def SimComposesSaid : Prop := simComposesRow.holds Tryz.pinned (OpenSpec.ofChange simComposesSpec)

/-- ITS FALSE NEIGHBOUR: 'it returns false'. Refute it at one input. -/
def simComposesWrong : ChangeSpec := { name := "simComposes", fn := fun _ => fun
  | [d1, d2, d3] => { results := [.lit (.bool false)], args := [d1, d2, d3] }
  | _ => none }
def SimComposesWrongFalsely : Prop := simComposesRow.holds Tryz.pinned (OpenSpec.ofChange simComposesWrong)

/-- 'testbenchlaw32.SimFits': WHATEVER THE INPUT: true; the input reads as it did. -/
def simFitsSpec : ChangeSpec := { name := "simFits", fn := fun _ => fun
  | [d1, d2, d3] => { results := [.lit (.bool true)], args := [d1, d2, d3] }
  | _ => none }
def simFitsRow : OpenClaim := { program := "yteaeemkodbodmaagreatdoor", sum := "bde8455327c1a4aa7f17ebf273ff5d80ccd6e5e92bf1da09555f623a87401e28", func := "testbench/testbenchlaw32.SimFits", spec := "simFits", inPlace := ["internal/bytealg.IndexByteString", "internal/bytealg.IndexString"], unfollowed := true, recurses := true, named := ["testbench/lexer.keywords", "internal/bytealg.MaxLen"], loops := true, apart := false, laid := [("testbench/lexer.keywords", laid_testbench_lexer_keywords)] }
def SimFitsSaid : Prop := simFitsRow.holds Tryz.pinned (OpenSpec.ofChange simFitsSpec)

/-- ITS FALSE NEIGHBOUR: 'it returns false'. Refute it at one input. -/
def simFitsWrong : ChangeSpec := { name := "simFits", fn := fun _ => fun
  | [d1, d2, d3] => { results := [.lit (.bool false)], args := [d1, d2, d3] }
  | _ => none }
def SimFitsWrongFalsely : Prop := simFitsRow.holds Tryz.pinned (OpenSpec.ofChange simFitsWrong)

/-- 'testbenchlaw32.SimSteps': WHATEVER THE INPUT: true; the input reads as it did. -/
def simStepsSpec : ChangeSpec := { name := "simSteps", fn := fun _ => fun
  | [d1, d2, d3] => { results := [.lit (.bool true)], args := [d1, d2, d3] }
  | _ => none }
def simStepsRow : OpenClaim := { program := "yteaeemkodbodmaagreatdoor", sum := "bde8455327c1a4aa7f17ebf273ff5d80ccd6e5e92bf1da09555f623a87401e28", func := "testbench/testbenchlaw32.SimSteps", spec := "simSteps", inPlace := ["internal/bytealg.IndexByteString", "internal/bytealg.IndexString"], unfollowed := true, recurses := true, named := ["testbench/lexer.keywords", "internal/bytealg.MaxLen"], loops := true, apart := false, laid := [("testbench/lexer.keywords", laid_testbench_lexer_keywords)] }
def SimStepsSaid : Prop := simStepsRow.holds Tryz.pinned (OpenSpec.ofChange simStepsSpec)

/-- ITS FALSE NEIGHBOUR: 'it returns false'. Refute it at one input. -/
def simStepsWrong : ChangeSpec := { name := "simSteps", fn := fun _ => fun
  | [d1, d2, d3] => { results := [.lit (.bool false)], args := [d1, d2, d3] }
  | _ => none }
def SimStepsWrongFalsely : Prop := simStepsRow.holds Tryz.pinned (OpenSpec.ofChange simStepsWrong)

/- THE SECOND FORM. 'bulk': how many values and letters a reading holds, each counted each time it is reached (what is shared counts as often as it is met; a slice's spare places count too). A statement '..UptoSaid' is the law's where the arguments, and the package variables that the reading takes, are together of bulk at most 1048576: NARROWER than '..Said'. Prove '..Said' where nothing that the law and all that it calls make is longer than what came in: it says more and counts as full. Else prove '..UptoSaid'. A law counts once. -/
mutual
def uptoBulk {H : Type} : DataW H → Nat
  | .lit (.string bytes) => bytes.length + 1
  | .lit _ => 1
  | .nil => 1
  | .ptr d => uptoBulk d + 1
  | .slice elems spare => uptoBulkAll elems + uptoBulkAll spare + 1
  | .agg parts => uptoBulkAll parts + 1
  | .iface _ d => uptoBulk d + 1
  | .map entries => uptoBulkEntries entries + 1
  | .held _ => 1
def uptoBulkAll {H : Type} : List (DataW H) → Nat
  | [] => 0
  | d :: r => uptoBulk d + uptoBulkAll r
def uptoBulkEntries {H : Type} : List (Lit × DataW H) → Nat
  | [] => 0
  | x :: r => uptoBulkEntry x + uptoBulkEntries r
def uptoBulkEntry {H : Type} : Lit × DataW H → Nat
  | (.string bytes, d) => bytes.length + uptoBulk d + 1
  | (_, d) => uptoBulk d + 1
 end
def uptoSmall : (H : Type) → List (DataW H) → Bool := fun _ ds => decide (uptoBulkAll ds ≤ 1048576)
def OpenSpec.upto (s : _root_.Go.ChangeSpec) : _root_.Go.OpenSpec := { _root_.Go.OpenSpec.ofChange s with cond := some uptoSmall }

/-- 'testbenchlaw32.SimResets', WHERE WHAT IT READS IS OF BULK AT MOST 1048576: true; the input reads as it did. -/
def simResetsUptoRow : OpenClaim := { program := "yteaeemkodbodmaagreatdoor", sum := "bde8455327c1a4aa7f17ebf273ff5d80ccd6e5e92bf1da09555f623a87401e28", func := "testbench/testbenchlaw32.SimResets", spec := "simResets", inPlace := ["internal/bytealg.IndexByteString", "internal/bytealg.IndexString"], unfollowed := true, recurses := true, named := ["testbench/lexer.keywords", "internal/bytealg.MaxLen"], loops := true, apart := false, laid := [("testbench/lexer.keywords", laid_testbench_lexer_keywords)], narrowed := true }
def SimResetsUptoSaid : Prop := simResetsUptoRow.holds Tryz.pinned (OpenSpec.upto simResetsSpec)

/-- 'testbenchlaw32.SimRuns', WHERE WHAT IT READS IS OF BULK AT MOST 1048576: true; the input reads as it did. -/
def simRunsUptoRow : OpenClaim := { program := "yteaeemkodbodmaagreatdoor", sum := "bde8455327c1a4aa7f17ebf273ff5d80ccd6e5e92bf1da09555f623a87401e28", func := "testbench/testbenchlaw32.SimRuns", spec := "simRuns", inPlace := ["internal/bytealg.IndexByteString", "internal/bytealg.IndexString"], unfollowed := true, recurses := true, named := ["testbench/lexer.keywords", "internal/bytealg.MaxLen"], loops := true, apart := false, laid := [("testbench/lexer.keywords", laid_testbench_lexer_keywords)], narrowed := true }
def SimRunsUptoSaid : Prop := simRunsUptoRow.holds Tryz.pinned (OpenSpec.upto simRunsSpec)

/-- 'testbenchlaw32.SimLimits', WHERE WHAT IT READS IS OF BULK AT MOST 1048576: true; the input reads as it did. -/
def simLimitsUptoRow : OpenClaim := { program := "yteaeemkodbodmaagreatdoor", sum := "bde8455327c1a4aa7f17ebf273ff5d80ccd6e5e92bf1da09555f623a87401e28", func := "testbench/testbenchlaw32.SimLimits", spec := "simLimits", inPlace := ["internal/bytealg.IndexByteString", "internal/bytealg.IndexString"], unfollowed := true, recurses := true, named := ["testbench/lexer.keywords", "internal/bytealg.MaxLen"], apart := false, laid := [("testbench/lexer.keywords", laid_testbench_lexer_keywords)], narrowed := true }
def SimLimitsUptoSaid : Prop := simLimitsUptoRow.holds Tryz.pinned (OpenSpec.upto simLimitsSpec)

/-- 'testbenchlaw32.SimCones', WHERE WHAT IT READS IS OF BULK AT MOST 1048576: true; the input reads as it did. -/
def simConesUptoRow : OpenClaim := { program := "yteaeemkodbodmaagreatdoor", sum := "bde8455327c1a4aa7f17ebf273ff5d80ccd6e5e92bf1da09555f623a87401e28", func := "testbench/testbenchlaw32.SimCones", spec := "simCones", inPlace := ["internal/bytealg.IndexByteString", "internal/bytealg.IndexString"], unfollowed := true, recurses := true, named := ["testbench/lexer.keywords", "internal/bytealg.MaxLen"], loops := true, apart := false, laid := [("testbench/lexer.keywords", laid_testbench_lexer_keywords)], narrowed := true }
def SimConesUptoSaid : Prop := simConesUptoRow.holds Tryz.pinned (OpenSpec.upto simConesSpec)

/-- 'testbenchlaw32.SimComposes', WHERE WHAT IT READS IS OF BULK AT MOST 1048576: true; the input reads as it did. -/
def simComposesUptoRow : OpenClaim := { program := "yteaeemkodbodmaagreatdoor", sum := "bde8455327c1a4aa7f17ebf273ff5d80ccd6e5e92bf1da09555f623a87401e28", func := "testbench/testbenchlaw32.SimComposes", spec := "simComposes", inPlace := ["internal/bytealg.IndexByteString", "internal/bytealg.IndexString"], unfollowed := true, recurses := true, named := ["testbench/lexer.keywords", "internal/bytealg.MaxLen"], loops := true, apart := false, laid := [("testbench/lexer.keywords", laid_testbench_lexer_keywords)], narrowed := true }
def SimComposesUptoSaid : Prop := simComposesUptoRow.holds Tryz.pinned (OpenSpec.upto simComposesSpec)

/-- 'testbenchlaw32.SimFits', WHERE WHAT IT READS IS OF BULK AT MOST 1048576: true; the input reads as it did. -/
def simFitsUptoRow : OpenClaim := { program := "yteaeemkodbodmaagreatdoor", sum := "bde8455327c1a4aa7f17ebf273ff5d80ccd6e5e92bf1da09555f623a87401e28", func := "testbench/testbenchlaw32.SimFits", spec := "simFits", inPlace := ["internal/bytealg.IndexByteString", "internal/bytealg.IndexString"], unfollowed := true, recurses := true, named := ["testbench/lexer.keywords", "internal/bytealg.MaxLen"], loops := true, apart := false, laid := [("testbench/lexer.keywords", laid_testbench_lexer_keywords)], narrowed := true }
def SimFitsUptoSaid : Prop := simFitsUptoRow.holds Tryz.pinned (OpenSpec.upto simFitsSpec)

/-- 'testbenchlaw32.SimSteps', WHERE WHAT IT READS IS OF BULK AT MOST 1048576: true; the input reads as it did. -/
def simStepsUptoRow : OpenClaim := { program := "yteaeemkodbodmaagreatdoor", sum := "bde8455327c1a4aa7f17ebf273ff5d80ccd6e5e92bf1da09555f623a87401e28", func := "testbench/testbenchlaw32.SimSteps", spec := "simSteps", inPlace := ["internal/bytealg.IndexByteString", "internal/bytealg.IndexString"], unfollowed := true, recurses := true, named := ["testbench/lexer.keywords", "internal/bytealg.MaxLen"], loops := true, apart := false, laid := [("testbench/lexer.keywords", laid_testbench_lexer_keywords)], narrowed := true }
def SimStepsUptoSaid : Prop := simStepsUptoRow.holds Tryz.pinned (OpenSpec.upto simStepsSpec)

end Rows
end Go.Proofs.YteaeemkodbodmaaGreatDoor
