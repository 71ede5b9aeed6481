/-
  NARROWER THAN 'FOR EVERY INPUT', by the rows' own cells (each row's printed sentence says how): SearchFinds: loops, laid · SoftSolves: loops, laid · CoreExplains: loops, laid · CoreLists: loops, laid · CoreMinimal: loops, laid · CoreDiffer: loops, laid · CoreContradicts: loops, laid · CoreMonotone: loops, laid.
  DERIVED. THE GIVEN ROWS OF THIS SEAT. 8 by the template 'for every input the law returns true; each argument reads behind the call as it read before'; 0 by the template 'total and deterministic' (their statements: YtcplmcjbkpmhdaaGreatDoorTotals.lean).
  GIVEN WITH THE SEED: the statements are not yours to turn. If you find one false, say at which input.
  Laid BY PROGRAM, IN A SANDBOX (cutbox-rows.mjs): the forced cells as the released guide's own fill.sh prints them over the translation eeaca6fd6e46cebe… (all of the seat's roots in one cut). By AI agents, Wed Nov 11 2026. No macro, syntax, notation, axiom, sorry.
-/
import Derived.Test.YtcplmcjbkpmhdaaGreatDoorChecked
import GoSem.Claim
import GoSem.ClaimJoined
import GoSem.ClaimMapViews
import Derived.JoinedTies
import Derived.KernelRfl
namespace Go.Proofs.YtcplmcjbkpmhdaaGreatDoor
/- THE CELL 'sum', in the pinned program and in every row, IS THE sha256 OF THE DUMP (.gsa) THAT YtcplmcjbkpmhdaaGreatDoorProg.lean LOADS. Nothing in Lean hashes anything: it is a label: what it is worth is what the hold of that sum in a sandbox is worth. -/
noncomputable def Tryz.pinned : Pinned := { name := "ytcplmcjbkpmhdaagreatdoor", sum := "eeaca6fd6e46cebe02e2c55574e7d75d160e858b400eac67087f9298cd3670b2", checked := Tryz.checked }
namespace Rows
def none {H : Type} : Left H := { results := [], args := [] }

/- WHAT THE LISTED PACKAGE-LEVEL VARIABLES READ AS WHEN THE CALL BEGINS. Each datum BY PROGRAM (the guide's laid-datum.mjs) off the statement by which the dump's own 'gosem.cut.vars' lays the variable. In a bare row this is a premise. The card (YtcplmcjbkpmhdaaGreatDoorCards.lean) ties it to the program's text. -/
def laid_math_bits_deBruijn32tab {H : Type} : DataW H := .agg [.lit (.int .u8 0), .lit (.int .u8 1), .lit (.int .u8 28), .lit (.int .u8 2), .lit (.int .u8 29), .lit (.int .u8 14), .lit (.int .u8 24), .lit (.int .u8 3), .lit (.int .u8 30), .lit (.int .u8 22), .lit (.int .u8 20), .lit (.int .u8 15), .lit (.int .u8 25), .lit (.int .u8 17), .lit (.int .u8 4), .lit (.int .u8 8), .lit (.int .u8 31), .lit (.int .u8 27), .lit (.int .u8 13), .lit (.int .u8 23), .lit (.int .u8 21), .lit (.int .u8 19), .lit (.int .u8 16), .lit (.int .u8 7), .lit (.int .u8 26), .lit (.int .u8 12), .lit (.int .u8 18), .lit (.int .u8 6), .lit (.int .u8 11), .lit (.int .u8 5), .lit (.int .u8 10), .lit (.int .u8 9)]
def laid_math_bits_deBruijn64tab {H : Type} : DataW H := .agg [.lit (.int .u8 0), .lit (.int .u8 1), .lit (.int .u8 56), .lit (.int .u8 2), .lit (.int .u8 57), .lit (.int .u8 49), .lit (.int .u8 28), .lit (.int .u8 3), .lit (.int .u8 61), .lit (.int .u8 58), .lit (.int .u8 42), .lit (.int .u8 50), .lit (.int .u8 38), .lit (.int .u8 29), .lit (.int .u8 17), .lit (.int .u8 4), .lit (.int .u8 62), .lit (.int .u8 47), .lit (.int .u8 59), .lit (.int .u8 36), .lit (.int .u8 45), .lit (.int .u8 43), .lit (.int .u8 51), .lit (.int .u8 22), .lit (.int .u8 53), .lit (.int .u8 39), .lit (.int .u8 33), .lit (.int .u8 30), .lit (.int .u8 24), .lit (.int .u8 18), .lit (.int .u8 12), .lit (.int .u8 5), .lit (.int .u8 63), .lit (.int .u8 55), .lit (.int .u8 48), .lit (.int .u8 27), .lit (.int .u8 60), .lit (.int .u8 41), .lit (.int .u8 37), .lit (.int .u8 16), .lit (.int .u8 46), .lit (.int .u8 35), .lit (.int .u8 44), .lit (.int .u8 21), .lit (.int .u8 52), .lit (.int .u8 32), .lit (.int .u8 23), .lit (.int .u8 11), .lit (.int .u8 54), .lit (.int .u8 26), .lit (.int .u8 40), .lit (.int .u8 15), .lit (.int .u8 34), .lit (.int .u8 20), .lit (.int .u8 31), .lit (.int .u8 10), .lit (.int .u8 25), .lit (.int .u8 14), .lit (.int .u8 19), .lit (.int .u8 9), .lit (.int .u8 13), .lit (.int .u8 8), .lit (.int .u8 7), .lit (.int .u8 6)]
def laid_internal_strconv_uint64pow10 {H : Type} : DataW H := .agg [.lit (.int .u64 1), .lit (.int .u64 10), .lit (.int .u64 100), .lit (.int .u64 1000), .lit (.int .u64 10000), .lit (.int .u64 100000), .lit (.int .u64 1000000), .lit (.int .u64 10000000), .lit (.int .u64 100000000), .lit (.int .u64 1000000000), .lit (.int .u64 10000000000), .lit (.int .u64 100000000000), .lit (.int .u64 1000000000000), .lit (.int .u64 10000000000000), .lit (.int .u64 100000000000000), .lit (.int .u64 1000000000000000), .lit (.int .u64 10000000000000000), .lit (.int .u64 100000000000000000), .lit (.int .u64 1000000000000000000), .lit (.int .u64 10000000000000000000)]
def laid_testbench_lexer_keywords {H : Type} : DataW H := .slice [.lit (.string [99, 108, 97, 115, 115]), .lit (.string [101, 120, 116, 101, 110, 100, 115]), .lit (.string [114, 97, 110, 100]), .lit (.string [114, 97, 110, 100, 99]), .lit (.string [115, 116, 97, 116, 101]), .lit (.string [99, 111, 110, 115, 116, 114, 97, 105, 110, 116]), .lit (.string [115, 111, 102, 116]), .lit (.string [100, 105, 115, 116]), .lit (.string [105, 102]), .lit (.string [101, 108, 115, 101]), .lit (.string [101, 97, 99, 104]), .lit (.string [105, 110]), .lit (.string [115, 111, 108, 118, 101]), .lit (.string [98, 101, 102, 111, 114, 101]), .lit (.string [105, 110, 115, 105, 100, 101]), .lit (.string [112, 114, 111, 112, 101, 114, 116, 121]), .lit (.string [115, 101, 113]), .lit (.string [97, 110, 100]), .lit (.string [111, 114]), .lit (.string [110, 111, 116]), .lit (.string [115, 101, 116]), .lit (.string [104, 111, 108, 100]), .lit (.string [112, 108, 97, 105, 110]), .lit (.string [114, 101, 112, 101, 97, 116])] []

/-- 'testbenchlaw18.SearchFinds': WHATEVER THE INPUT: true; the input reads as it did. -/
def searchFindsSpec : ChangeSpec := { name := "searchFinds", fn := fun _ => fun
  | [d1, d2, d3] => { results := [.lit (.bool true)], args := [d1, d2, d3] }
  | _ => none }
def searchFindsRow : OpenClaim := { program := "ytcplmcjbkpmhdaagreatdoor", sum := "eeaca6fd6e46cebe02e2c55574e7d75d160e858b400eac67087f9298cd3670b2", func := "testbench/testbenchlaw18.SearchFinds", spec := "searchFinds", inPlace := ["internal/bytealg.IndexByteString", "internal/bytealg.IndexString"], unfollowed := true, recurses := true, named := ["testbench/lexer.keywords", "internal/bytealg.MaxLen", "internal/strconv.uint64pow10", "math/bits.deBruijn32tab", "math/bits.deBruijn64tab"], loops := true, apart := false, laid := [("math/bits.deBruijn32tab", laid_math_bits_deBruijn32tab), ("math/bits.deBruijn64tab", laid_math_bits_deBruijn64tab), ("internal/strconv.uint64pow10", laid_internal_strconv_uint64pow10), ("testbench/lexer.keywords", laid_testbench_lexer_keywords)] }
def SearchFindsSaid : Prop := searchFindsRow.holds Tryz.pinned (OpenSpec.ofChange searchFindsSpec)

/-- ITS FALSE NEIGHBOUR: 'it returns false'. Refute it at one input. -/
def searchFindsWrong : ChangeSpec := { name := "searchFinds", fn := fun _ => fun
  | [d1, d2, d3] => { results := [.lit (.bool false)], args := [d1, d2, d3] }
  | _ => none }
def SearchFindsWrongFalsely : Prop := searchFindsRow.holds Tryz.pinned (OpenSpec.ofChange searchFindsWrong)

/-- 'testbenchlaw22.SoftSolves': WHATEVER THE INPUT: true; the input reads as it did. -/
def softSolvesSpec : ChangeSpec := { name := "softSolves", fn := fun _ => fun
  | [d1, d2] => { results := [.lit (.bool true)], args := [d1, d2] }
  | _ => none }
def softSolvesRow : OpenClaim := { program := "ytcplmcjbkpmhdaagreatdoor", sum := "eeaca6fd6e46cebe02e2c55574e7d75d160e858b400eac67087f9298cd3670b2", func := "testbench/testbenchlaw22.SoftSolves", spec := "softSolves", inPlace := ["internal/bytealg.IndexByteString", "internal/bytealg.IndexString"], unfollowed := true, recurses := true, named := ["testbench/lexer.keywords", "internal/bytealg.MaxLen", "internal/strconv.uint64pow10", "math/bits.deBruijn32tab", "math/bits.deBruijn64tab"], loops := true, apart := false, laid := [("math/bits.deBruijn32tab", laid_math_bits_deBruijn32tab), ("math/bits.deBruijn64tab", laid_math_bits_deBruijn64tab), ("internal/strconv.uint64pow10", laid_internal_strconv_uint64pow10), ("testbench/lexer.keywords", laid_testbench_lexer_keywords)] }
def SoftSolvesSaid : Prop := softSolvesRow.holds Tryz.pinned (OpenSpec.ofChange softSolvesSpec)

/-- ITS FALSE NEIGHBOUR: 'it returns false'. Refute it at one input. -/
def softSolvesWrong : ChangeSpec := { name := "softSolves", fn := fun _ => fun
  | [d1, d2] => { results := [.lit (.bool false)], args := [d1, d2] }
  | _ => none }
def SoftSolvesWrongFalsely : Prop := softSolvesRow.holds Tryz.pinned (OpenSpec.ofChange softSolvesWrong)

/-- 'testbenchlaw25.CoreExplains': WHATEVER THE INPUT: true; the input reads as it did. -/
def coreExplainsSpec : ChangeSpec := { name := "coreExplains", fn := fun _ => fun
  | [d] => { results := [.lit (.bool true)], args := [d] }
  | _ => none }
def coreExplainsRow : OpenClaim := { program := "ytcplmcjbkpmhdaagreatdoor", sum := "eeaca6fd6e46cebe02e2c55574e7d75d160e858b400eac67087f9298cd3670b2", func := "testbench/testbenchlaw25.CoreExplains", spec := "coreExplains", inPlace := ["internal/bytealg.IndexByteString", "internal/bytealg.IndexString", "internal/abi.NoEscape", "internal/bytealg.MakeNoZero"], unfollowed := true, recurses := true, named := ["testbench/lexer.keywords", "internal/bytealg.MaxLen", "internal/strconv.uint64pow10", "math/bits.deBruijn32tab", "math/bits.deBruijn64tab"], loops := true, apart := false, laid := [("math/bits.deBruijn32tab", laid_math_bits_deBruijn32tab), ("math/bits.deBruijn64tab", laid_math_bits_deBruijn64tab), ("internal/strconv.uint64pow10", laid_internal_strconv_uint64pow10), ("testbench/lexer.keywords", laid_testbench_lexer_keywords)] }
def CoreExplainsSaid : Prop := coreExplainsRow.holds Tryz.pinned (OpenSpec.ofChange coreExplainsSpec)

/-- ITS FALSE NEIGHBOUR: 'it returns false'. Refute it at one input. -/
def coreExplainsWrong : ChangeSpec := { name := "coreExplains", fn := fun _ => fun
  | [d] => { results := [.lit (.bool false)], args := [d] }
  | _ => none }
def CoreExplainsWrongFalsely : Prop := coreExplainsRow.holds Tryz.pinned (OpenSpec.ofChange coreExplainsWrong)

/-- 'testbenchlaw25.CoreLists': WHATEVER THE INPUT: true; the input reads as it did. -/
def coreListsSpec : ChangeSpec := { name := "coreLists", fn := fun _ => fun
  | [d1, d2] => { results := [.lit (.bool true)], args := [d1, d2] }
  | _ => none }
def coreListsRow : OpenClaim := { program := "ytcplmcjbkpmhdaagreatdoor", sum := "eeaca6fd6e46cebe02e2c55574e7d75d160e858b400eac67087f9298cd3670b2", func := "testbench/testbenchlaw25.CoreLists", spec := "coreLists", inPlace := ["internal/bytealg.IndexByteString", "internal/bytealg.IndexString", "internal/abi.NoEscape", "internal/bytealg.MakeNoZero"], unfollowed := true, recurses := true, named := ["testbench/lexer.keywords", "internal/bytealg.MaxLen", "internal/strconv.uint64pow10", "math/bits.deBruijn32tab", "math/bits.deBruijn64tab"], loops := true, apart := false, laid := [("math/bits.deBruijn32tab", laid_math_bits_deBruijn32tab), ("math/bits.deBruijn64tab", laid_math_bits_deBruijn64tab), ("internal/strconv.uint64pow10", laid_internal_strconv_uint64pow10), ("testbench/lexer.keywords", laid_testbench_lexer_keywords)] }
def CoreListsSaid : Prop := coreListsRow.holds Tryz.pinned (OpenSpec.ofChange coreListsSpec)

/-- ITS FALSE NEIGHBOUR: 'it returns false'. Refute it at one input. -/
def coreListsWrong : ChangeSpec := { name := "coreLists", fn := fun _ => fun
  | [d1, d2] => { results := [.lit (.bool false)], args := [d1, d2] }
  | _ => none }
def CoreListsWrongFalsely : Prop := coreListsRow.holds Tryz.pinned (OpenSpec.ofChange coreListsWrong)

/-- 'testbenchlaw25.CoreMinimal': WHATEVER THE INPUT: true; the input reads as it did. -/
def coreMinimalSpec : ChangeSpec := { name := "coreMinimal", fn := fun _ => fun
  | [d] => { results := [.lit (.bool true)], args := [d] }
  | _ => none }
def coreMinimalRow : OpenClaim := { program := "ytcplmcjbkpmhdaagreatdoor", sum := "eeaca6fd6e46cebe02e2c55574e7d75d160e858b400eac67087f9298cd3670b2", func := "testbench/testbenchlaw25.CoreMinimal", spec := "coreMinimal", inPlace := ["internal/bytealg.IndexByteString", "internal/bytealg.IndexString", "internal/abi.NoEscape", "internal/bytealg.MakeNoZero"], unfollowed := true, recurses := true, named := ["testbench/lexer.keywords", "internal/bytealg.MaxLen", "internal/strconv.uint64pow10", "math/bits.deBruijn32tab", "math/bits.deBruijn64tab"], loops := true, apart := false, laid := [("math/bits.deBruijn32tab", laid_math_bits_deBruijn32tab), ("math/bits.deBruijn64tab", laid_math_bits_deBruijn64tab), ("internal/strconv.uint64pow10", laid_internal_strconv_uint64pow10), ("testbench/lexer.keywords", laid_testbench_lexer_keywords)] }
def CoreMinimalSaid : Prop := coreMinimalRow.holds Tryz.pinned (OpenSpec.ofChange coreMinimalSpec)

/-- ITS FALSE NEIGHBOUR: 'it returns false'. Refute it at one input. -/
def coreMinimalWrong : ChangeSpec := { name := "coreMinimal", fn := fun _ => fun
  | [d] => { results := [.lit (.bool false)], args := [d] }
  | _ => none }
def CoreMinimalWrongFalsely : Prop := coreMinimalRow.holds Tryz.pinned (OpenSpec.ofChange coreMinimalWrong)

/-- 'testbenchlaw25.CoreDiffer': WHATEVER THE INPUT: true; the input reads as it did. -/
def coreDifferSpec : ChangeSpec := { name := "coreDiffer", fn := fun _ => fun
  | [d] => { results := [.lit (.bool true)], args := [d] }
  | _ => none }
def coreDifferRow : OpenClaim := { program := "ytcplmcjbkpmhdaagreatdoor", sum := "eeaca6fd6e46cebe02e2c55574e7d75d160e858b400eac67087f9298cd3670b2", func := "testbench/testbenchlaw25.CoreDiffer", spec := "coreDiffer", inPlace := ["internal/bytealg.IndexByteString", "internal/bytealg.IndexString", "internal/abi.NoEscape", "internal/bytealg.MakeNoZero"], unfollowed := true, recurses := true, named := ["testbench/lexer.keywords", "internal/bytealg.MaxLen", "internal/strconv.uint64pow10", "math/bits.deBruijn32tab", "math/bits.deBruijn64tab"], loops := true, apart := false, laid := [("math/bits.deBruijn32tab", laid_math_bits_deBruijn32tab), ("math/bits.deBruijn64tab", laid_math_bits_deBruijn64tab), ("internal/strconv.uint64pow10", laid_internal_strconv_uint64pow10), ("testbench/lexer.keywords", laid_testbench_lexer_keywords)] }
def CoreDifferSaid : Prop := coreDifferRow.holds Tryz.pinned (OpenSpec.ofChange coreDifferSpec)

/-- ITS FALSE NEIGHBOUR: 'it returns false'. Refute it at one input. -/
def coreDifferWrong : ChangeSpec := { name := "coreDiffer", fn := fun _ => fun
  | [d] => { results := [.lit (.bool false)], args := [d] }
  | _ => none }
def CoreDifferWrongFalsely : Prop := coreDifferRow.holds Tryz.pinned (OpenSpec.ofChange coreDifferWrong)

/-- 'testbenchlaw25.CoreContradicts': WHATEVER THE INPUT: true; the input reads as it did. -/
def coreContradictsSpec : ChangeSpec := { name := "coreContradicts", fn := fun _ => fun
  | [d1, d2] => { results := [.lit (.bool true)], args := [d1, d2] }
  | _ => none }
def coreContradictsRow : OpenClaim := { program := "ytcplmcjbkpmhdaagreatdoor", sum := "eeaca6fd6e46cebe02e2c55574e7d75d160e858b400eac67087f9298cd3670b2", func := "testbench/testbenchlaw25.CoreContradicts", spec := "coreContradicts", inPlace := ["internal/bytealg.IndexByteString", "internal/bytealg.IndexString", "internal/abi.NoEscape", "internal/bytealg.MakeNoZero"], unfollowed := true, recurses := true, named := ["testbench/lexer.keywords", "internal/bytealg.MaxLen", "internal/strconv.uint64pow10", "math/bits.deBruijn32tab", "math/bits.deBruijn64tab"], loops := true, apart := false, laid := [("math/bits.deBruijn32tab", laid_math_bits_deBruijn32tab), ("math/bits.deBruijn64tab", laid_math_bits_deBruijn64tab), ("internal/strconv.uint64pow10", laid_internal_strconv_uint64pow10), ("testbench/lexer.keywords", laid_testbench_lexer_keywords)] }
def CoreContradictsSaid : Prop := coreContradictsRow.holds Tryz.pinned (OpenSpec.ofChange coreContradictsSpec)

/-- ITS FALSE NEIGHBOUR: 'it returns false'. Refute it at one input. -/
def coreContradictsWrong : ChangeSpec := { name := "coreContradicts", fn := fun _ => fun
  | [d1, d2] => { results := [.lit (.bool false)], args := [d1, d2] }
  | _ => none }
def CoreContradictsWrongFalsely : Prop := coreContradictsRow.holds Tryz.pinned (OpenSpec.ofChange coreContradictsWrong)

/-- 'testbenchlaw25.CoreMonotone': WHATEVER THE INPUT: true; the input reads as it did. -/
def coreMonotoneSpec : ChangeSpec := { name := "coreMonotone", fn := fun _ => fun
  | [d1, d2, d3] => { results := [.lit (.bool true)], args := [d1, d2, d3] }
  | _ => none }
def coreMonotoneRow : OpenClaim := { program := "ytcplmcjbkpmhdaagreatdoor", sum := "eeaca6fd6e46cebe02e2c55574e7d75d160e858b400eac67087f9298cd3670b2", func := "testbench/testbenchlaw25.CoreMonotone", spec := "coreMonotone", inPlace := ["internal/bytealg.IndexByteString", "internal/bytealg.IndexString", "internal/abi.NoEscape", "internal/bytealg.MakeNoZero"], unfollowed := true, recurses := true, named := ["testbench/lexer.keywords", "internal/bytealg.MaxLen", "internal/strconv.uint64pow10", "math/bits.deBruijn32tab", "math/bits.deBruijn64tab"], loops := true, apart := false, laid := [("math/bits.deBruijn32tab", laid_math_bits_deBruijn32tab), ("math/bits.deBruijn64tab", laid_math_bits_deBruijn64tab), ("internal/strconv.uint64pow10", laid_internal_strconv_uint64pow10), ("testbench/lexer.keywords", laid_testbench_lexer_keywords)] }
def CoreMonotoneSaid : Prop := coreMonotoneRow.holds Tryz.pinned (OpenSpec.ofChange coreMonotoneSpec)

/-- ITS FALSE NEIGHBOUR: 'it returns false'. Refute it at one input. -/
def coreMonotoneWrong : ChangeSpec := { name := "coreMonotone", fn := fun _ => fun
  | [d1, d2, d3] => { results := [.lit (.bool false)], args := [d1, d2, d3] }
  | _ => none }
def CoreMonotoneWrongFalsely : Prop := coreMonotoneRow.holds Tryz.pinned (OpenSpec.ofChange coreMonotoneWrong)

/- THE SECOND FORM. 'bulk': how many values and letters a reading holds, each counted each time it is reached (what is shared counts as often as it is met; a slice's spare places count too). A statement '..UptoSaid' is the law's where the arguments, and the package variables that the reading takes, are together of bulk at most 1048576: NARROWER than '..Said'. Prove '..Said' where nothing that the law and all that it calls make is longer than what came in: it says more and counts as full. Else prove '..UptoSaid'. A law counts once. -/
mutual
def uptoBulk {H : Type} : DataW H → Nat
  | .lit (.string bytes) => bytes.length + 1
  | .lit _ => 1
  | .nil => 1
  | .ptr d => uptoBulk d + 1
  | .slice elems spare => uptoBulkAll elems + uptoBulkAll spare + 1
  | .agg parts => uptoBulkAll parts + 1
  | .iface _ d => uptoBulk d + 1
  | .map entries => uptoBulkEntries entries + 1
  | .held _ => 1
def uptoBulkAll {H : Type} : List (DataW H) → Nat
  | [] => 0
  | d :: r => uptoBulk d + uptoBulkAll r
def uptoBulkEntries {H : Type} : List (Lit × DataW H) → Nat
  | [] => 0
  | x :: r => uptoBulkEntry x + uptoBulkEntries r
def uptoBulkEntry {H : Type} : Lit × DataW H → Nat
  | (.string bytes, d) => bytes.length + uptoBulk d + 1
  | (_, d) => uptoBulk d + 1
 end
def uptoSmall : (H : Type) → List (DataW H) → Bool := fun _ ds => decide (uptoBulkAll ds ≤ 1048576)
def OpenSpec.upto (s : _root_.Go.ChangeSpec) : _root_.Go.OpenSpec := { _root_.Go.OpenSpec.ofChange s with cond := some uptoSmall }

/-- 'testbenchlaw18.SearchFinds', WHERE WHAT IT READS IS OF BULK AT MOST 1048576: true; the input reads as it did. -/
def searchFindsUptoRow : OpenClaim := { program := "ytcplmcjbkpmhdaagreatdoor", sum := "eeaca6fd6e46cebe02e2c55574e7d75d160e858b400eac67087f9298cd3670b2", func := "testbench/testbenchlaw18.SearchFinds", spec := "searchFinds", inPlace := ["internal/bytealg.IndexByteString", "internal/bytealg.IndexString"], unfollowed := true, recurses := true, named := ["testbench/lexer.keywords", "internal/bytealg.MaxLen", "internal/strconv.uint64pow10", "math/bits.deBruijn32tab", "math/bits.deBruijn64tab"], loops := true, apart := false, laid := [("math/bits.deBruijn32tab", laid_math_bits_deBruijn32tab), ("math/bits.deBruijn64tab", laid_math_bits_deBruijn64tab), ("internal/strconv.uint64pow10", laid_internal_strconv_uint64pow10), ("testbench/lexer.keywords", laid_testbench_lexer_keywords)], narrowed := true }
def SearchFindsUptoSaid : Prop := searchFindsUptoRow.holds Tryz.pinned (OpenSpec.upto searchFindsSpec)

/-- 'testbenchlaw22.SoftSolves', WHERE WHAT IT READS IS OF BULK AT MOST 1048576: true; the input reads as it did. -/
def softSolvesUptoRow : OpenClaim := { program := "ytcplmcjbkpmhdaagreatdoor", sum := "eeaca6fd6e46cebe02e2c55574e7d75d160e858b400eac67087f9298cd3670b2", func := "testbench/testbenchlaw22.SoftSolves", spec := "softSolves", inPlace := ["internal/bytealg.IndexByteString", "internal/bytealg.IndexString"], unfollowed := true, recurses := true, named := ["testbench/lexer.keywords", "internal/bytealg.MaxLen", "internal/strconv.uint64pow10", "math/bits.deBruijn32tab", "math/bits.deBruijn64tab"], loops := true, apart := false, laid := [("math/bits.deBruijn32tab", laid_math_bits_deBruijn32tab), ("math/bits.deBruijn64tab", laid_math_bits_deBruijn64tab), ("internal/strconv.uint64pow10", laid_internal_strconv_uint64pow10), ("testbench/lexer.keywords", laid_testbench_lexer_keywords)], narrowed := true }
def SoftSolvesUptoSaid : Prop := softSolvesUptoRow.holds Tryz.pinned (OpenSpec.upto softSolvesSpec)

/-- 'testbenchlaw25.CoreExplains', WHERE WHAT IT READS IS OF BULK AT MOST 1048576: true; the input reads as it did. -/
def coreExplainsUptoRow : OpenClaim := { program := "ytcplmcjbkpmhdaagreatdoor", sum := "eeaca6fd6e46cebe02e2c55574e7d75d160e858b400eac67087f9298cd3670b2", func := "testbench/testbenchlaw25.CoreExplains", spec := "coreExplains", inPlace := ["internal/bytealg.IndexByteString", "internal/bytealg.IndexString", "internal/abi.NoEscape", "internal/bytealg.MakeNoZero"], unfollowed := true, recurses := true, named := ["testbench/lexer.keywords", "internal/bytealg.MaxLen", "internal/strconv.uint64pow10", "math/bits.deBruijn32tab", "math/bits.deBruijn64tab"], loops := true, apart := false, laid := [("math/bits.deBruijn32tab", laid_math_bits_deBruijn32tab), ("math/bits.deBruijn64tab", laid_math_bits_deBruijn64tab), ("internal/strconv.uint64pow10", laid_internal_strconv_uint64pow10), ("testbench/lexer.keywords", laid_testbench_lexer_keywords)], narrowed := true }
def CoreExplainsUptoSaid : Prop := coreExplainsUptoRow.holds Tryz.pinned (OpenSpec.upto coreExplainsSpec)

/-- 'testbenchlaw25.CoreLists', WHERE WHAT IT READS IS OF BULK AT MOST 1048576: true; the input reads as it did. -/
def coreListsUptoRow : OpenClaim := { program := "ytcplmcjbkpmhdaagreatdoor", sum := "eeaca6fd6e46cebe02e2c55574e7d75d160e858b400eac67087f9298cd3670b2", func := "testbench/testbenchlaw25.CoreLists", spec := "coreLists", inPlace := ["internal/bytealg.IndexByteString", "internal/bytealg.IndexString", "internal/abi.NoEscape", "internal/bytealg.MakeNoZero"], unfollowed := true, recurses := true, named := ["testbench/lexer.keywords", "internal/bytealg.MaxLen", "internal/strconv.uint64pow10", "math/bits.deBruijn32tab", "math/bits.deBruijn64tab"], loops := true, apart := false, laid := [("math/bits.deBruijn32tab", laid_math_bits_deBruijn32tab), ("math/bits.deBruijn64tab", laid_math_bits_deBruijn64tab), ("internal/strconv.uint64pow10", laid_internal_strconv_uint64pow10), ("testbench/lexer.keywords", laid_testbench_lexer_keywords)], narrowed := true }
def CoreListsUptoSaid : Prop := coreListsUptoRow.holds Tryz.pinned (OpenSpec.upto coreListsSpec)

/-- 'testbenchlaw25.CoreMinimal', WHERE WHAT IT READS IS OF BULK AT MOST 1048576: true; the input reads as it did. -/
def coreMinimalUptoRow : OpenClaim := { program := "ytcplmcjbkpmhdaagreatdoor", sum := "eeaca6fd6e46cebe02e2c55574e7d75d160e858b400eac67087f9298cd3670b2", func := "testbench/testbenchlaw25.CoreMinimal", spec := "coreMinimal", inPlace := ["internal/bytealg.IndexByteString", "internal/bytealg.IndexString", "internal/abi.NoEscape", "internal/bytealg.MakeNoZero"], unfollowed := true, recurses := true, named := ["testbench/lexer.keywords", "internal/bytealg.MaxLen", "internal/strconv.uint64pow10", "math/bits.deBruijn32tab", "math/bits.deBruijn64tab"], loops := true, apart := false, laid := [("math/bits.deBruijn32tab", laid_math_bits_deBruijn32tab), ("math/bits.deBruijn64tab", laid_math_bits_deBruijn64tab), ("internal/strconv.uint64pow10", laid_internal_strconv_uint64pow10), ("testbench/lexer.keywords", laid_testbench_lexer_keywords)], narrowed := true }
def CoreMinimalUptoSaid : Prop := coreMinimalUptoRow.holds Tryz.pinned (OpenSpec.upto coreMinimalSpec)

/-- 'testbenchlaw25.CoreDiffer', WHERE WHAT IT READS IS OF BULK AT MOST 1048576: true; the input reads as it did. -/
def coreDifferUptoRow : OpenClaim := { program := "ytcplmcjbkpmhdaagreatdoor", sum := "eeaca6fd6e46cebe02e2c55574e7d75d160e858b400eac67087f9298cd3670b2", func := "testbench/testbenchlaw25.CoreDiffer", spec := "coreDiffer", inPlace := ["internal/bytealg.IndexByteString", "internal/bytealg.IndexString", "internal/abi.NoEscape", "internal/bytealg.MakeNoZero"], unfollowed := true, recurses := true, named := ["testbench/lexer.keywords", "internal/bytealg.MaxLen", "internal/strconv.uint64pow10", "math/bits.deBruijn32tab", "math/bits.deBruijn64tab"], loops := true, apart := false, laid := [("math/bits.deBruijn32tab", laid_math_bits_deBruijn32tab), ("math/bits.deBruijn64tab", laid_math_bits_deBruijn64tab), ("internal/strconv.uint64pow10", laid_internal_strconv_uint64pow10), ("testbench/lexer.keywords", laid_testbench_lexer_keywords)], narrowed := true }
def CoreDifferUptoSaid : Prop := coreDifferUptoRow.holds Tryz.pinned (OpenSpec.upto coreDifferSpec)

/-- 'testbenchlaw25.CoreContradicts', WHERE WHAT IT READS IS OF BULK AT MOST 1048576: true; the input reads as it did. -/
def coreContradictsUptoRow : OpenClaim := { program := "ytcplmcjbkpmhdaagreatdoor", sum := "eeaca6fd6e46cebe02e2c55574e7d75d160e858b400eac67087f9298cd3670b2", func := "testbench/testbenchlaw25.CoreContradicts", spec := "coreContradicts", inPlace := ["internal/bytealg.IndexByteString", "internal/bytealg.IndexString", "internal/abi.NoEscape", "internal/bytealg.MakeNoZero"], unfollowed := true, recurses := true, named := ["testbench/lexer.keywords", "internal/bytealg.MaxLen", "internal/strconv.uint64pow10", "math/bits.deBruijn32tab", "math/bits.deBruijn64tab"], loops := true, apart := false, laid := [("math/bits.deBruijn32tab", laid_math_bits_deBruijn32tab), ("math/bits.deBruijn64tab", laid_math_bits_deBruijn64tab), ("internal/strconv.uint64pow10", laid_internal_strconv_uint64pow10), ("testbench/lexer.keywords", laid_testbench_lexer_keywords)], narrowed := true }
def CoreContradictsUptoSaid : Prop := coreContradictsUptoRow.holds Tryz.pinned (OpenSpec.upto coreContradictsSpec)

/-- 'testbenchlaw25.CoreMonotone', WHERE WHAT IT READS IS OF BULK AT MOST 1048576: true; the input reads as it did. -/
def coreMonotoneUptoRow : OpenClaim := { program := "ytcplmcjbkpmhdaagreatdoor", sum := "eeaca6fd6e46cebe02e2c55574e7d75d160e858b400eac67087f9298cd3670b2", func := "testbench/testbenchlaw25.CoreMonotone", spec := "coreMonotone", inPlace := ["internal/bytealg.IndexByteString", "internal/bytealg.IndexString", "internal/abi.NoEscape", "internal/bytealg.MakeNoZero"], unfollowed := true, recurses := true, named := ["testbench/lexer.keywords", "internal/bytealg.MaxLen", "internal/strconv.uint64pow10", "math/bits.deBruijn32tab", "math/bits.deBruijn64tab"], loops := true, apart := false, laid := [("math/bits.deBruijn32tab", laid_math_bits_deBruijn32tab), ("math/bits.deBruijn64tab", laid_math_bits_deBruijn64tab), ("internal/strconv.uint64pow10", laid_internal_strconv_uint64pow10), ("testbench/lexer.keywords", laid_testbench_lexer_keywords)], narrowed := true }
def CoreMonotoneUptoSaid : Prop := coreMonotoneUptoRow.holds Tryz.pinned (OpenSpec.upto coreMonotoneSpec)

end Rows
end Go.Proofs.YtcplmcjbkpmhdaaGreatDoor
