/-
  NARROWER THAN 'FOR EVERY INPUT', by the rows' own cells (each row's printed sentence says how): NfaCompiles: loops, laid · NfaChecks: loops, laid · CheckerStays: loops, laid · CheckerShifts: loops, laid · VacuityTallies: laid.
  DERIVED. THE GIVEN ROWS OF THIS SEAT. 5 by the template 'for every input the law returns true; each argument reads behind the call as it read before'; 0 by the template 'total and deterministic' (their statements: YtnfkbliokjjggaaGreatDoorTotals.lean).
  GIVEN WITH THE SEED: the statements are not yours to turn. If you find one false, say at which input.
  Laid BY PROGRAM, IN A SANDBOX (cutbox-rows.mjs): the forced cells as the released guide's own fill.sh prints them over the translation fc144b1a9bb53a43… (all of the seat's roots in one cut). By AI agents, Wed Nov 11 2026. No macro, syntax, notation, axiom, sorry.
-/
import Derived.Test.YtnfkbliokjjggaaGreatDoorChecked
import GoSem.Claim
import GoSem.ClaimJoined
import GoSem.ClaimMapViews
import Derived.JoinedTies
import Derived.KernelRfl
namespace Go.Proofs.YtnfkbliokjjggaaGreatDoor
/- THE CELL 'sum', in the pinned program and in every row, IS THE sha256 OF THE DUMP (.gsa) THAT YtnfkbliokjjggaaGreatDoorProg.lean LOADS. Nothing in Lean hashes anything: it is a label: what it is worth is what the hold of that sum in a sandbox is worth. -/
noncomputable def Tryz.pinned : Pinned := { name := "ytnfkbliokjjggaagreatdoor", sum := "fc144b1a9bb53a432710f4d0442cd93dccabd0e803d8efcb7f8b5aeda596eb0f", checked := Tryz.checked }
namespace Rows
def none {H : Type} : Left H := { results := [], args := [] }

/- WHAT THE LISTED PACKAGE-LEVEL VARIABLES READ AS WHEN THE CALL BEGINS. Each datum BY PROGRAM (the guide's laid-datum.mjs) off the statement by which the dump's own 'gosem.cut.vars' lays the variable. In a bare row this is a premise. The card (YtnfkbliokjjggaaGreatDoorCards.lean) ties it to the program's text. -/
def laid_testbench_lexer_keywords {H : Type} : DataW H := .slice [.lit (.string [99, 108, 97, 115, 115]), .lit (.string [101, 120, 116, 101, 110, 100, 115]), .lit (.string [114, 97, 110, 100]), .lit (.string [114, 97, 110, 100, 99]), .lit (.string [115, 116, 97, 116, 101]), .lit (.string [99, 111, 110, 115, 116, 114, 97, 105, 110, 116]), .lit (.string [115, 111, 102, 116]), .lit (.string [100, 105, 115, 116]), .lit (.string [105, 102]), .lit (.string [101, 108, 115, 101]), .lit (.string [101, 97, 99, 104]), .lit (.string [105, 110]), .lit (.string [115, 111, 108, 118, 101]), .lit (.string [98, 101, 102, 111, 114, 101]), .lit (.string [105, 110, 115, 105, 100, 101]), .lit (.string [112, 114, 111, 112, 101, 114, 116, 121]), .lit (.string [115, 101, 113]), .lit (.string [97, 110, 100]), .lit (.string [111, 114]), .lit (.string [110, 111, 116]), .lit (.string [115, 101, 116]), .lit (.string [104, 111, 108, 100]), .lit (.string [112, 108, 97, 105, 110]), .lit (.string [114, 101, 112, 101, 97, 116])] []
def laid_math_bits_deBruijn32tab {H : Type} : DataW H := .agg [.lit (.int .u8 0), .lit (.int .u8 1), .lit (.int .u8 28), .lit (.int .u8 2), .lit (.int .u8 29), .lit (.int .u8 14), .lit (.int .u8 24), .lit (.int .u8 3), .lit (.int .u8 30), .lit (.int .u8 22), .lit (.int .u8 20), .lit (.int .u8 15), .lit (.int .u8 25), .lit (.int .u8 17), .lit (.int .u8 4), .lit (.int .u8 8), .lit (.int .u8 31), .lit (.int .u8 27), .lit (.int .u8 13), .lit (.int .u8 23), .lit (.int .u8 21), .lit (.int .u8 19), .lit (.int .u8 16), .lit (.int .u8 7), .lit (.int .u8 26), .lit (.int .u8 12), .lit (.int .u8 18), .lit (.int .u8 6), .lit (.int .u8 11), .lit (.int .u8 5), .lit (.int .u8 10), .lit (.int .u8 9)]
def laid_math_bits_deBruijn64tab {H : Type} : DataW H := .agg [.lit (.int .u8 0), .lit (.int .u8 1), .lit (.int .u8 56), .lit (.int .u8 2), .lit (.int .u8 57), .lit (.int .u8 49), .lit (.int .u8 28), .lit (.int .u8 3), .lit (.int .u8 61), .lit (.int .u8 58), .lit (.int .u8 42), .lit (.int .u8 50), .lit (.int .u8 38), .lit (.int .u8 29), .lit (.int .u8 17), .lit (.int .u8 4), .lit (.int .u8 62), .lit (.int .u8 47), .lit (.int .u8 59), .lit (.int .u8 36), .lit (.int .u8 45), .lit (.int .u8 43), .lit (.int .u8 51), .lit (.int .u8 22), .lit (.int .u8 53), .lit (.int .u8 39), .lit (.int .u8 33), .lit (.int .u8 30), .lit (.int .u8 24), .lit (.int .u8 18), .lit (.int .u8 12), .lit (.int .u8 5), .lit (.int .u8 63), .lit (.int .u8 55), .lit (.int .u8 48), .lit (.int .u8 27), .lit (.int .u8 60), .lit (.int .u8 41), .lit (.int .u8 37), .lit (.int .u8 16), .lit (.int .u8 46), .lit (.int .u8 35), .lit (.int .u8 44), .lit (.int .u8 21), .lit (.int .u8 52), .lit (.int .u8 32), .lit (.int .u8 23), .lit (.int .u8 11), .lit (.int .u8 54), .lit (.int .u8 26), .lit (.int .u8 40), .lit (.int .u8 15), .lit (.int .u8 34), .lit (.int .u8 20), .lit (.int .u8 31), .lit (.int .u8 10), .lit (.int .u8 25), .lit (.int .u8 14), .lit (.int .u8 19), .lit (.int .u8 9), .lit (.int .u8 13), .lit (.int .u8 8), .lit (.int .u8 7), .lit (.int .u8 6)]
def laid_internal_strconv_uint64pow10 {H : Type} : DataW H := .agg [.lit (.int .u64 1), .lit (.int .u64 10), .lit (.int .u64 100), .lit (.int .u64 1000), .lit (.int .u64 10000), .lit (.int .u64 100000), .lit (.int .u64 1000000), .lit (.int .u64 10000000), .lit (.int .u64 100000000), .lit (.int .u64 1000000000), .lit (.int .u64 10000000000), .lit (.int .u64 100000000000), .lit (.int .u64 1000000000000), .lit (.int .u64 10000000000000), .lit (.int .u64 100000000000000), .lit (.int .u64 1000000000000000), .lit (.int .u64 10000000000000000), .lit (.int .u64 100000000000000000), .lit (.int .u64 1000000000000000000), .lit (.int .u64 10000000000000000000)]

/-- 'testbenchlaw41.NfaCompiles': WHATEVER THE INPUT: true; the input reads as it did. -/
def nfaCompilesSpec : ChangeSpec := { name := "nfaCompiles", fn := fun _ => fun
  | [d] => { results := [.lit (.bool true)], args := [d] }
  | _ => none }
def nfaCompilesRow : OpenClaim := { program := "ytnfkbliokjjggaagreatdoor", sum := "fc144b1a9bb53a432710f4d0442cd93dccabd0e803d8efcb7f8b5aeda596eb0f", func := "testbench/testbenchlaw41.NfaCompiles", spec := "nfaCompiles", inPlace := ["internal/bytealg.IndexByteString", "internal/bytealg.IndexString", "internal/bytealg.abigen_runtime_cmpstring", "slices.overlaps[testbench/api.Signal]", "slices.overlaps[testbench/api.Thread]"], unfollowed := true, recurses := true, named := ["testbench/lexer.keywords", "internal/bytealg.MaxLen"], loops := true, plainKeys := false, apart := false, laid := [("testbench/lexer.keywords", laid_testbench_lexer_keywords)] }
def NfaCompilesSaid : Prop := nfaCompilesRow.holds Tryz.pinned (OpenSpec.ofChange nfaCompilesSpec)

/-- ITS FALSE NEIGHBOUR: 'it returns false'. Refute it at one input. -/
def nfaCompilesWrong : ChangeSpec := { name := "nfaCompiles", fn := fun _ => fun
  | [d] => { results := [.lit (.bool false)], args := [d] }
  | _ => none }
def NfaCompilesWrongFalsely : Prop := nfaCompilesRow.holds Tryz.pinned (OpenSpec.ofChange nfaCompilesWrong)

/-- 'testbenchlaw41.NfaChecks': WHATEVER THE INPUT: true; the input reads as it did. -/
def nfaChecksSpec : ChangeSpec := { name := "nfaChecks", fn := fun _ => fun
  | [d] => { results := [.lit (.bool true)], args := [d] }
  | _ => none }
def nfaChecksRow : OpenClaim := { program := "ytnfkbliokjjggaagreatdoor", sum := "fc144b1a9bb53a432710f4d0442cd93dccabd0e803d8efcb7f8b5aeda596eb0f", func := "testbench/testbenchlaw41.NfaChecks", spec := "nfaChecks", inPlace := ["internal/bytealg.IndexByteString", "internal/bytealg.IndexString", "internal/bytealg.abigen_runtime_cmpstring", "slices.overlaps[testbench/api.Signal]", "slices.overlaps[testbench/api.Thread]", "internal/abi.NoEscape", "internal/bytealg.MakeNoZero"], unfollowed := true, recurses := true, named := ["testbench/lexer.keywords", "internal/bytealg.MaxLen", "internal/strconv.uint64pow10", "math/bits.deBruijn32tab", "math/bits.deBruijn64tab"], loops := true, plainKeys := false, apart := false, laid := [("math/bits.deBruijn32tab", laid_math_bits_deBruijn32tab), ("math/bits.deBruijn64tab", laid_math_bits_deBruijn64tab), ("internal/strconv.uint64pow10", laid_internal_strconv_uint64pow10), ("testbench/lexer.keywords", laid_testbench_lexer_keywords)] }
def NfaChecksSaid : Prop := nfaChecksRow.holds Tryz.pinned (OpenSpec.ofChange nfaChecksSpec)

/-- ITS FALSE NEIGHBOUR: 'it returns false'. Refute it at one input. -/
def nfaChecksWrong : ChangeSpec := { name := "nfaChecks", fn := fun _ => fun
  | [d] => { results := [.lit (.bool false)], args := [d] }
  | _ => none }
def NfaChecksWrongFalsely : Prop := nfaChecksRow.holds Tryz.pinned (OpenSpec.ofChange nfaChecksWrong)

/-- 'testbenchlaw43.CheckerStays': WHATEVER THE INPUT: true; the input reads as it did. -/
def checkerStaysSpec : ChangeSpec := { name := "checkerStays", fn := fun _ => fun
  | [d1, d2, d3] => { results := [.lit (.bool true)], args := [d1, d2, d3] }
  | _ => none }
def checkerStaysRow : OpenClaim := { program := "ytnfkbliokjjggaagreatdoor", sum := "fc144b1a9bb53a432710f4d0442cd93dccabd0e803d8efcb7f8b5aeda596eb0f", func := "testbench/testbenchlaw43.CheckerStays", spec := "checkerStays", inPlace := ["internal/bytealg.IndexByteString", "internal/bytealg.IndexString", "internal/bytealg.abigen_runtime_cmpstring", "slices.overlaps[testbench/api.Signal]", "slices.overlaps[testbench/api.Thread]"], unfollowed := true, recurses := true, named := ["testbench/lexer.keywords", "internal/bytealg.MaxLen"], loops := true, plainKeys := false, apart := false, laid := [("testbench/lexer.keywords", laid_testbench_lexer_keywords)] }
def CheckerStaysSaid : Prop := checkerStaysRow.holds Tryz.pinned (OpenSpec.ofChange checkerStaysSpec)

/-- ITS FALSE NEIGHBOUR: 'it returns false'. Refute it at one input. -/
def checkerStaysWrong : ChangeSpec := { name := "checkerStays", fn := fun _ => fun
  | [d1, d2, d3] => { results := [.lit (.bool false)], args := [d1, d2, d3] }
  | _ => none }
def CheckerStaysWrongFalsely : Prop := checkerStaysRow.holds Tryz.pinned (OpenSpec.ofChange checkerStaysWrong)

/-- 'testbenchlaw43.CheckerShifts': WHATEVER THE INPUT: true; the input reads as it did. -/
def checkerShiftsSpec : ChangeSpec := { name := "checkerShifts", fn := fun _ => fun
  | [d1, d2, d3] => { results := [.lit (.bool true)], args := [d1, d2, d3] }
  | _ => none }
def checkerShiftsRow : OpenClaim := { program := "ytnfkbliokjjggaagreatdoor", sum := "fc144b1a9bb53a432710f4d0442cd93dccabd0e803d8efcb7f8b5aeda596eb0f", func := "testbench/testbenchlaw43.CheckerShifts", spec := "checkerShifts", inPlace := ["internal/bytealg.IndexByteString", "internal/bytealg.IndexString", "internal/bytealg.abigen_runtime_cmpstring", "slices.overlaps[testbench/api.Signal]", "slices.overlaps[testbench/api.Thread]"], unfollowed := true, recurses := true, named := ["testbench/lexer.keywords", "internal/bytealg.MaxLen"], loops := true, plainKeys := false, apart := false, laid := [("testbench/lexer.keywords", laid_testbench_lexer_keywords)] }
def CheckerShiftsSaid : Prop := checkerShiftsRow.holds Tryz.pinned (OpenSpec.ofChange checkerShiftsSpec)

/-- ITS FALSE NEIGHBOUR: 'it returns false'. Refute it at one input. -/
def checkerShiftsWrong : ChangeSpec := { name := "checkerShifts", fn := fun _ => fun
  | [d1, d2, d3] => { results := [.lit (.bool false)], args := [d1, d2, d3] }
  | _ => none }
def CheckerShiftsWrongFalsely : Prop := checkerShiftsRow.holds Tryz.pinned (OpenSpec.ofChange checkerShiftsWrong)

/-- 'testbenchlaw44.VacuityTallies': WHATEVER THE INPUT: true; the input reads as it did. -/
def vacuityTalliesSpec : ChangeSpec := { name := "vacuityTallies", fn := fun _ => fun
  | [d] => { results := [.lit (.bool true)], args := [d] }
  | _ => none }
def vacuityTalliesRow : OpenClaim := { program := "ytnfkbliokjjggaagreatdoor", sum := "fc144b1a9bb53a432710f4d0442cd93dccabd0e803d8efcb7f8b5aeda596eb0f", func := "testbench/testbenchlaw44.VacuityTallies", spec := "vacuityTallies", inPlace := ["internal/bytealg.IndexByteString", "internal/bytealg.IndexString", "internal/bytealg.abigen_runtime_cmpstring", "slices.overlaps[testbench/api.Signal]", "slices.overlaps[testbench/api.Thread]", "internal/abi.NoEscape", "internal/bytealg.MakeNoZero"], unfollowed := true, recurses := true, named := ["testbench/lexer.keywords", "internal/bytealg.MaxLen", "internal/strconv.uint64pow10", "math/bits.deBruijn32tab", "math/bits.deBruijn64tab"], plainKeys := false, apart := false, laid := [("math/bits.deBruijn32tab", laid_math_bits_deBruijn32tab), ("math/bits.deBruijn64tab", laid_math_bits_deBruijn64tab), ("internal/strconv.uint64pow10", laid_internal_strconv_uint64pow10), ("testbench/lexer.keywords", laid_testbench_lexer_keywords)] }
def VacuityTalliesSaid : Prop := vacuityTalliesRow.holds Tryz.pinned (OpenSpec.ofChange vacuityTalliesSpec)

/-- ITS FALSE NEIGHBOUR: 'it returns false'. Refute it at one input. -/
def vacuityTalliesWrong : ChangeSpec := { name := "vacuityTallies", fn := fun _ => fun
  | [d] => { results := [.lit (.bool false)], args := [d] }
  | _ => none }
def VacuityTalliesWrongFalsely : Prop := vacuityTalliesRow.holds Tryz.pinned (OpenSpec.ofChange vacuityTalliesWrong)

/- THE SECOND FORM. 'bulk': how many values and letters a reading holds, each counted each time it is reached (what is shared counts as often as it is met; a slice's spare places count too). A statement '..UptoSaid' is the law's where the arguments, and the package variables that the reading takes, are together of bulk at most 1048576: NARROWER than '..Said'. Prove '..Said' where nothing that the law and all that it calls make is longer than what came in: it says more and counts as full. Else prove '..UptoSaid'. A law counts once. -/
mutual
def uptoBulk {H : Type} : DataW H → Nat
  | .lit (.string bytes) => bytes.length + 1
  | .lit _ => 1
  | .nil => 1
  | .ptr d => uptoBulk d + 1
  | .slice elems spare => uptoBulkAll elems + uptoBulkAll spare + 1
  | .agg parts => uptoBulkAll parts + 1
  | .iface _ d => uptoBulk d + 1
  | .map entries => uptoBulkEntries entries + 1
  | .held _ => 1
def uptoBulkAll {H : Type} : List (DataW H) → Nat
  | [] => 0
  | d :: r => uptoBulk d + uptoBulkAll r
def uptoBulkEntries {H : Type} : List (Lit × DataW H) → Nat
  | [] => 0
  | x :: r => uptoBulkEntry x + uptoBulkEntries r
def uptoBulkEntry {H : Type} : Lit × DataW H → Nat
  | (.string bytes, d) => bytes.length + uptoBulk d + 1
  | (_, d) => uptoBulk d + 1
 end
def uptoSmall : (H : Type) → List (DataW H) → Bool := fun _ ds => decide (uptoBulkAll ds ≤ 1048576)
def OpenSpec.upto (s : _root_.Go.ChangeSpec) : _root_.Go.OpenSpec := { _root_.Go.OpenSpec.ofChange s with cond := some uptoSmall }

/-- 'testbenchlaw41.NfaCompiles', WHERE WHAT IT READS IS OF BULK AT MOST 1048576: true; the input reads as it did. -/
def nfaCompilesUptoRow : OpenClaim := { program := "ytnfkbliokjjggaagreatdoor", sum := "fc144b1a9bb53a432710f4d0442cd93dccabd0e803d8efcb7f8b5aeda596eb0f", func := "testbench/testbenchlaw41.NfaCompiles", spec := "nfaCompiles", inPlace := ["internal/bytealg.IndexByteString", "internal/bytealg.IndexString", "internal/bytealg.abigen_runtime_cmpstring", "slices.overlaps[testbench/api.Signal]", "slices.overlaps[testbench/api.Thread]"], unfollowed := true, recurses := true, named := ["testbench/lexer.keywords", "internal/bytealg.MaxLen"], loops := true, plainKeys := false, apart := false, laid := [("testbench/lexer.keywords", laid_testbench_lexer_keywords)], narrowed := true }
def NfaCompilesUptoSaid : Prop := nfaCompilesUptoRow.holds Tryz.pinned (OpenSpec.upto nfaCompilesSpec)

/-- 'testbenchlaw41.NfaChecks', WHERE WHAT IT READS IS OF BULK AT MOST 1048576: true; the input reads as it did. -/
def nfaChecksUptoRow : OpenClaim := { program := "ytnfkbliokjjggaagreatdoor", sum := "fc144b1a9bb53a432710f4d0442cd93dccabd0e803d8efcb7f8b5aeda596eb0f", func := "testbench/testbenchlaw41.NfaChecks", spec := "nfaChecks", inPlace := ["internal/bytealg.IndexByteString", "internal/bytealg.IndexString", "internal/bytealg.abigen_runtime_cmpstring", "slices.overlaps[testbench/api.Signal]", "slices.overlaps[testbench/api.Thread]", "internal/abi.NoEscape", "internal/bytealg.MakeNoZero"], unfollowed := true, recurses := true, named := ["testbench/lexer.keywords", "internal/bytealg.MaxLen", "internal/strconv.uint64pow10", "math/bits.deBruijn32tab", "math/bits.deBruijn64tab"], loops := true, plainKeys := false, apart := false, laid := [("math/bits.deBruijn32tab", laid_math_bits_deBruijn32tab), ("math/bits.deBruijn64tab", laid_math_bits_deBruijn64tab), ("internal/strconv.uint64pow10", laid_internal_strconv_uint64pow10), ("testbench/lexer.keywords", laid_testbench_lexer_keywords)], narrowed := true }
def NfaChecksUptoSaid : Prop := nfaChecksUptoRow.holds Tryz.pinned (OpenSpec.upto nfaChecksSpec)

/-- 'testbenchlaw43.CheckerStays', WHERE WHAT IT READS IS OF BULK AT MOST 1048576: true; the input reads as it did. -/
def checkerStaysUptoRow : OpenClaim := { program := "ytnfkbliokjjggaagreatdoor", sum := "fc144b1a9bb53a432710f4d0442cd93dccabd0e803d8efcb7f8b5aeda596eb0f", func := "testbench/testbenchlaw43.CheckerStays", spec := "checkerStays", inPlace := ["internal/bytealg.IndexByteString", "internal/bytealg.IndexString", "internal/bytealg.abigen_runtime_cmpstring", "slices.overlaps[testbench/api.Signal]", "slices.overlaps[testbench/api.Thread]"], unfollowed := true, recurses := true, named := ["testbench/lexer.keywords", "internal/bytealg.MaxLen"], loops := true, plainKeys := false, apart := false, laid := [("testbench/lexer.keywords", laid_testbench_lexer_keywords)], narrowed := true }
def CheckerStaysUptoSaid : Prop := checkerStaysUptoRow.holds Tryz.pinned (OpenSpec.upto checkerStaysSpec)

/-- 'testbenchlaw43.CheckerShifts', WHERE WHAT IT READS IS OF BULK AT MOST 1048576: true; the input reads as it did. -/
def checkerShiftsUptoRow : OpenClaim := { program := "ytnfkbliokjjggaagreatdoor", sum := "fc144b1a9bb53a432710f4d0442cd93dccabd0e803d8efcb7f8b5aeda596eb0f", func := "testbench/testbenchlaw43.CheckerShifts", spec := "checkerShifts", inPlace := ["internal/bytealg.IndexByteString", "internal/bytealg.IndexString", "internal/bytealg.abigen_runtime_cmpstring", "slices.overlaps[testbench/api.Signal]", "slices.overlaps[testbench/api.Thread]"], unfollowed := true, recurses := true, named := ["testbench/lexer.keywords", "internal/bytealg.MaxLen"], loops := true, plainKeys := false, apart := false, laid := [("testbench/lexer.keywords", laid_testbench_lexer_keywords)], narrowed := true }
def CheckerShiftsUptoSaid : Prop := checkerShiftsUptoRow.holds Tryz.pinned (OpenSpec.upto checkerShiftsSpec)

/-- 'testbenchlaw44.VacuityTallies', WHERE WHAT IT READS IS OF BULK AT MOST 1048576: true; the input reads as it did. -/
def vacuityTalliesUptoRow : OpenClaim := { program := "ytnfkbliokjjggaagreatdoor", sum := "fc144b1a9bb53a432710f4d0442cd93dccabd0e803d8efcb7f8b5aeda596eb0f", func := "testbench/testbenchlaw44.VacuityTallies", spec := "vacuityTallies", inPlace := ["internal/bytealg.IndexByteString", "internal/bytealg.IndexString", "internal/bytealg.abigen_runtime_cmpstring", "slices.overlaps[testbench/api.Signal]", "slices.overlaps[testbench/api.Thread]", "internal/abi.NoEscape", "internal/bytealg.MakeNoZero"], unfollowed := true, recurses := true, named := ["testbench/lexer.keywords", "internal/bytealg.MaxLen", "internal/strconv.uint64pow10", "math/bits.deBruijn32tab", "math/bits.deBruijn64tab"], plainKeys := false, apart := false, laid := [("math/bits.deBruijn32tab", laid_math_bits_deBruijn32tab), ("math/bits.deBruijn64tab", laid_math_bits_deBruijn64tab), ("internal/strconv.uint64pow10", laid_internal_strconv_uint64pow10), ("testbench/lexer.keywords", laid_testbench_lexer_keywords)], narrowed := true }
def VacuityTalliesUptoSaid : Prop := vacuityTalliesUptoRow.holds Tryz.pinned (OpenSpec.upto vacuityTalliesSpec)

end Rows
end Go.Proofs.YtnfkbliokjjggaaGreatDoor
