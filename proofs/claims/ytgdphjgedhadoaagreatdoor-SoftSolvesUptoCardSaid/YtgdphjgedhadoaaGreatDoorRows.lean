/-
  NARROWER THAN 'FOR EVERY INPUT', by the rows' own cells (each row's printed sentence says how): SearchFinds: loops, laid · SearchNext: loops, laid · SearchLeast: loops, laid · SearchAll: loops, laid · SearchWalks: loops, laid · SoftKeeps: loops, laid · SoftGreatest: loops, laid · SoftOrder: loops, laid · SoftRules: loops, laid · SoftSolves: loops, laid.
  DERIVED. THE GIVEN ROWS OF THIS SEAT. 10 by the template 'for every input the law returns true; each argument reads behind the call as it read before'; 0 by the template 'total and deterministic' (their statements: YtgdphjgedhadoaaGreatDoorTotals.lean).
  GIVEN WITH THE SEED: the statements are not yours to turn. If you find one false, say at which input.
  Laid BY PROGRAM, IN A SANDBOX (cutbox-rows.mjs): the forced cells as the released guide's own fill.sh prints them over the translation 97e5e6d259297cf6… (all of the seat's roots in one cut). By AI agents, Wed Nov 11 2026. No macro, syntax, notation, axiom, sorry.
-/
import Derived.Test.YtgdphjgedhadoaaGreatDoorChecked
import GoSem.Claim
import GoSem.ClaimJoined
import GoSem.ClaimMapViews
import Derived.JoinedTies
import Derived.KernelRfl
namespace Go.Proofs.YtgdphjgedhadoaaGreatDoor
/- THE CELL 'sum', in the pinned program and in every row, IS THE sha256 OF THE DUMP (.gsa) THAT YtgdphjgedhadoaaGreatDoorProg.lean LOADS. Nothing in Lean hashes anything: it is a label: what it is worth is what the hold of that sum in a sandbox is worth. -/
noncomputable def Tryz.pinned : Pinned := { name := "ytgdphjgedhadoaagreatdoor", sum := "97e5e6d259297cf6b0e840c24e782ff4d867f1f4660843bf92e2759de5eba130", checked := Tryz.checked }
namespace Rows
def none {H : Type} : Left H := { results := [], args := [] }

/- WHAT THE LISTED PACKAGE-LEVEL VARIABLES READ AS WHEN THE CALL BEGINS. Each datum BY PROGRAM (the guide's laid-datum.mjs) off the statement by which the dump's own 'gosem.cut.vars' lays the variable. In a bare row this is a premise. The card (YtgdphjgedhadoaaGreatDoorCards.lean) ties it to the program's text. -/
def laid_math_bits_deBruijn32tab {H : Type} : DataW H := .agg [.lit (.int .u8 0), .lit (.int .u8 1), .lit (.int .u8 28), .lit (.int .u8 2), .lit (.int .u8 29), .lit (.int .u8 14), .lit (.int .u8 24), .lit (.int .u8 3), .lit (.int .u8 30), .lit (.int .u8 22), .lit (.int .u8 20), .lit (.int .u8 15), .lit (.int .u8 25), .lit (.int .u8 17), .lit (.int .u8 4), .lit (.int .u8 8), .lit (.int .u8 31), .lit (.int .u8 27), .lit (.int .u8 13), .lit (.int .u8 23), .lit (.int .u8 21), .lit (.int .u8 19), .lit (.int .u8 16), .lit (.int .u8 7), .lit (.int .u8 26), .lit (.int .u8 12), .lit (.int .u8 18), .lit (.int .u8 6), .lit (.int .u8 11), .lit (.int .u8 5), .lit (.int .u8 10), .lit (.int .u8 9)]
def laid_math_bits_deBruijn64tab {H : Type} : DataW H := .agg [.lit (.int .u8 0), .lit (.int .u8 1), .lit (.int .u8 56), .lit (.int .u8 2), .lit (.int .u8 57), .lit (.int .u8 49), .lit (.int .u8 28), .lit (.int .u8 3), .lit (.int .u8 61), .lit (.int .u8 58), .lit (.int .u8 42), .lit (.int .u8 50), .lit (.int .u8 38), .lit (.int .u8 29), .lit (.int .u8 17), .lit (.int .u8 4), .lit (.int .u8 62), .lit (.int .u8 47), .lit (.int .u8 59), .lit (.int .u8 36), .lit (.int .u8 45), .lit (.int .u8 43), .lit (.int .u8 51), .lit (.int .u8 22), .lit (.int .u8 53), .lit (.int .u8 39), .lit (.int .u8 33), .lit (.int .u8 30), .lit (.int .u8 24), .lit (.int .u8 18), .lit (.int .u8 12), .lit (.int .u8 5), .lit (.int .u8 63), .lit (.int .u8 55), .lit (.int .u8 48), .lit (.int .u8 27), .lit (.int .u8 60), .lit (.int .u8 41), .lit (.int .u8 37), .lit (.int .u8 16), .lit (.int .u8 46), .lit (.int .u8 35), .lit (.int .u8 44), .lit (.int .u8 21), .lit (.int .u8 52), .lit (.int .u8 32), .lit (.int .u8 23), .lit (.int .u8 11), .lit (.int .u8 54), .lit (.int .u8 26), .lit (.int .u8 40), .lit (.int .u8 15), .lit (.int .u8 34), .lit (.int .u8 20), .lit (.int .u8 31), .lit (.int .u8 10), .lit (.int .u8 25), .lit (.int .u8 14), .lit (.int .u8 19), .lit (.int .u8 9), .lit (.int .u8 13), .lit (.int .u8 8), .lit (.int .u8 7), .lit (.int .u8 6)]
def laid_internal_strconv_uint64pow10 {H : Type} : DataW H := .agg [.lit (.int .u64 1), .lit (.int .u64 10), .lit (.int .u64 100), .lit (.int .u64 1000), .lit (.int .u64 10000), .lit (.int .u64 100000), .lit (.int .u64 1000000), .lit (.int .u64 10000000), .lit (.int .u64 100000000), .lit (.int .u64 1000000000), .lit (.int .u64 10000000000), .lit (.int .u64 100000000000), .lit (.int .u64 1000000000000), .lit (.int .u64 10000000000000), .lit (.int .u64 100000000000000), .lit (.int .u64 1000000000000000), .lit (.int .u64 10000000000000000), .lit (.int .u64 100000000000000000), .lit (.int .u64 1000000000000000000), .lit (.int .u64 10000000000000000000)]
def laid_testbench_lexer_keywords {H : Type} : DataW H := .slice [.lit (.string [99, 108, 97, 115, 115]), .lit (.string [101, 120, 116, 101, 110, 100, 115]), .lit (.string [114, 97, 110, 100]), .lit (.string [114, 97, 110, 100, 99]), .lit (.string [115, 116, 97, 116, 101]), .lit (.string [99, 111, 110, 115, 116, 114, 97, 105, 110, 116]), .lit (.string [115, 111, 102, 116]), .lit (.string [100, 105, 115, 116]), .lit (.string [105, 102]), .lit (.string [101, 108, 115, 101]), .lit (.string [101, 97, 99, 104]), .lit (.string [105, 110]), .lit (.string [115, 111, 108, 118, 101]), .lit (.string [98, 101, 102, 111, 114, 101]), .lit (.string [105, 110, 115, 105, 100, 101]), .lit (.string [112, 114, 111, 112, 101, 114, 116, 121]), .lit (.string [115, 101, 113]), .lit (.string [97, 110, 100]), .lit (.string [111, 114]), .lit (.string [110, 111, 116]), .lit (.string [115, 101, 116]), .lit (.string [104, 111, 108, 100]), .lit (.string [112, 108, 97, 105, 110]), .lit (.string [114, 101, 112, 101, 97, 116])] []

/-- 'testbenchlaw18.SearchFinds': WHATEVER THE INPUT: true; the input reads as it did. -/
def searchFindsSpec : ChangeSpec := { name := "searchFinds", fn := fun _ => fun
  | [d1, d2, d3] => { results := [.lit (.bool true)], args := [d1, d2, d3] }
  | _ => none }
def searchFindsRow : OpenClaim := { program := "ytgdphjgedhadoaagreatdoor", sum := "97e5e6d259297cf6b0e840c24e782ff4d867f1f4660843bf92e2759de5eba130", func := "testbench/testbenchlaw18.SearchFinds", spec := "searchFinds", inPlace := ["internal/bytealg.IndexByteString", "internal/bytealg.IndexString"], unfollowed := true, recurses := true, named := ["testbench/lexer.keywords", "internal/bytealg.MaxLen", "internal/strconv.uint64pow10", "math/bits.deBruijn32tab", "math/bits.deBruijn64tab"], loops := true, apart := false, laid := [("math/bits.deBruijn32tab", laid_math_bits_deBruijn32tab), ("math/bits.deBruijn64tab", laid_math_bits_deBruijn64tab), ("internal/strconv.uint64pow10", laid_internal_strconv_uint64pow10), ("testbench/lexer.keywords", laid_testbench_lexer_keywords)] }
def SearchFindsSaid : Prop := searchFindsRow.holds Tryz.pinned (OpenSpec.ofChange searchFindsSpec)

/-- ITS FALSE NEIGHBOUR: 'it returns false'. Refute it at one input. -/
def searchFindsWrong : ChangeSpec := { name := "searchFinds", fn := fun _ => fun
  | [d1, d2, d3] => { results := [.lit (.bool false)], args := [d1, d2, d3] }
  | _ => none }
def SearchFindsWrongFalsely : Prop := searchFindsRow.holds Tryz.pinned (OpenSpec.ofChange searchFindsWrong)

/-- 'testbenchlaw18.SearchNext': WHATEVER THE INPUT: true; the input reads as it did. -/
def searchNextSpec : ChangeSpec := { name := "searchNext", fn := fun _ => fun
  | [d1, d2, d3] => { results := [.lit (.bool true)], args := [d1, d2, d3] }
  | _ => none }
def searchNextRow : OpenClaim := { program := "ytgdphjgedhadoaagreatdoor", sum := "97e5e6d259297cf6b0e840c24e782ff4d867f1f4660843bf92e2759de5eba130", func := "testbench/testbenchlaw18.SearchNext", spec := "searchNext", inPlace := ["internal/bytealg.IndexByteString", "internal/bytealg.IndexString"], unfollowed := true, recurses := true, named := ["testbench/lexer.keywords", "internal/bytealg.MaxLen", "internal/strconv.uint64pow10", "math/bits.deBruijn32tab", "math/bits.deBruijn64tab"], loops := true, apart := false, laid := [("math/bits.deBruijn32tab", laid_math_bits_deBruijn32tab), ("math/bits.deBruijn64tab", laid_math_bits_deBruijn64tab), ("internal/strconv.uint64pow10", laid_internal_strconv_uint64pow10), ("testbench/lexer.keywords", laid_testbench_lexer_keywords)] }
def SearchNextSaid : Prop := searchNextRow.holds Tryz.pinned (OpenSpec.ofChange searchNextSpec)

/-- ITS FALSE NEIGHBOUR: 'it returns false'. Refute it at one input. -/
def searchNextWrong : ChangeSpec := { name := "searchNext", fn := fun _ => fun
  | [d1, d2, d3] => { results := [.lit (.bool false)], args := [d1, d2, d3] }
  | _ => none }
def SearchNextWrongFalsely : Prop := searchNextRow.holds Tryz.pinned (OpenSpec.ofChange searchNextWrong)

/-- 'testbenchlaw18.SearchLeast': WHATEVER THE INPUT: true; the input reads as it did. -/
def searchLeastSpec : ChangeSpec := { name := "searchLeast", fn := fun _ => fun
  | [d1, d2, d3] => { results := [.lit (.bool true)], args := [d1, d2, d3] }
  | _ => none }
def searchLeastRow : OpenClaim := { program := "ytgdphjgedhadoaagreatdoor", sum := "97e5e6d259297cf6b0e840c24e782ff4d867f1f4660843bf92e2759de5eba130", func := "testbench/testbenchlaw18.SearchLeast", spec := "searchLeast", inPlace := ["internal/bytealg.IndexByteString", "internal/bytealg.IndexString"], unfollowed := true, recurses := true, named := ["testbench/lexer.keywords", "internal/bytealg.MaxLen", "internal/strconv.uint64pow10", "math/bits.deBruijn32tab", "math/bits.deBruijn64tab"], loops := true, apart := false, laid := [("math/bits.deBruijn32tab", laid_math_bits_deBruijn32tab), ("math/bits.deBruijn64tab", laid_math_bits_deBruijn64tab), ("internal/strconv.uint64pow10", laid_internal_strconv_uint64pow10), ("testbench/lexer.keywords", laid_testbench_lexer_keywords)] }
def SearchLeastSaid : Prop := searchLeastRow.holds Tryz.pinned (OpenSpec.ofChange searchLeastSpec)

/-- ITS FALSE NEIGHBOUR: 'it returns false'. Refute it at one input. -/
def searchLeastWrong : ChangeSpec := { name := "searchLeast", fn := fun _ => fun
  | [d1, d2, d3] => { results := [.lit (.bool false)], args := [d1, d2, d3] }
  | _ => none }
def SearchLeastWrongFalsely : Prop := searchLeastRow.holds Tryz.pinned (OpenSpec.ofChange searchLeastWrong)

/-- 'testbenchlaw18.SearchAll': WHATEVER THE INPUT: true; the input reads as it did. -/
def searchAllSpec : ChangeSpec := { name := "searchAll", fn := fun _ => fun
  | [d1, d2, d3] => { results := [.lit (.bool true)], args := [d1, d2, d3] }
  | _ => none }
def searchAllRow : OpenClaim := { program := "ytgdphjgedhadoaagreatdoor", sum := "97e5e6d259297cf6b0e840c24e782ff4d867f1f4660843bf92e2759de5eba130", func := "testbench/testbenchlaw18.SearchAll", spec := "searchAll", inPlace := ["internal/bytealg.IndexByteString", "internal/bytealg.IndexString"], unfollowed := true, recurses := true, named := ["testbench/lexer.keywords", "internal/bytealg.MaxLen", "internal/strconv.uint64pow10", "math/bits.deBruijn32tab", "math/bits.deBruijn64tab"], loops := true, apart := false, laid := [("math/bits.deBruijn32tab", laid_math_bits_deBruijn32tab), ("math/bits.deBruijn64tab", laid_math_bits_deBruijn64tab), ("internal/strconv.uint64pow10", laid_internal_strconv_uint64pow10), ("testbench/lexer.keywords", laid_testbench_lexer_keywords)] }
def SearchAllSaid : Prop := searchAllRow.holds Tryz.pinned (OpenSpec.ofChange searchAllSpec)

/-- ITS FALSE NEIGHBOUR: 'it returns false'. Refute it at one input. -/
def searchAllWrong : ChangeSpec := { name := "searchAll", fn := fun _ => fun
  | [d1, d2, d3] => { results := [.lit (.bool false)], args := [d1, d2, d3] }
  | _ => none }
def SearchAllWrongFalsely : Prop := searchAllRow.holds Tryz.pinned (OpenSpec.ofChange searchAllWrong)

/-- 'testbenchlaw18.SearchWalks': WHATEVER THE INPUT: true; the input reads as it did. -/
def searchWalksSpec : ChangeSpec := { name := "searchWalks", fn := fun _ => fun
  | [d1, d2] => { results := [.lit (.bool true)], args := [d1, d2] }
  | _ => none }
def searchWalksRow : OpenClaim := { program := "ytgdphjgedhadoaagreatdoor", sum := "97e5e6d259297cf6b0e840c24e782ff4d867f1f4660843bf92e2759de5eba130", func := "testbench/testbenchlaw18.SearchWalks", spec := "searchWalks", inPlace := ["internal/bytealg.IndexByteString", "internal/bytealg.IndexString"], unfollowed := true, recurses := true, named := ["testbench/lexer.keywords", "internal/bytealg.MaxLen", "internal/strconv.uint64pow10", "math/bits.deBruijn32tab", "math/bits.deBruijn64tab"], loops := true, apart := false, laid := [("math/bits.deBruijn32tab", laid_math_bits_deBruijn32tab), ("math/bits.deBruijn64tab", laid_math_bits_deBruijn64tab), ("internal/strconv.uint64pow10", laid_internal_strconv_uint64pow10), ("testbench/lexer.keywords", laid_testbench_lexer_keywords)] }
def SearchWalksSaid : Prop := searchWalksRow.holds Tryz.pinned (OpenSpec.ofChange searchWalksSpec)

/-- ITS FALSE NEIGHBOUR: 'it returns false'. Refute it at one input. -/
def searchWalksWrong : ChangeSpec := { name := "searchWalks", fn := fun _ => fun
  | [d1, d2] => { results := [.lit (.bool false)], args := [d1, d2] }
  | _ => none }
def SearchWalksWrongFalsely : Prop := searchWalksRow.holds Tryz.pinned (OpenSpec.ofChange searchWalksWrong)

/-- 'testbenchlaw22.SoftKeeps': WHATEVER THE INPUT: true; the input reads as it did. -/
def softKeepsSpec : ChangeSpec := { name := "softKeeps", fn := fun _ => fun
  | [d] => { results := [.lit (.bool true)], args := [d] }
  | _ => none }
def softKeepsRow : OpenClaim := { program := "ytgdphjgedhadoaagreatdoor", sum := "97e5e6d259297cf6b0e840c24e782ff4d867f1f4660843bf92e2759de5eba130", func := "testbench/testbenchlaw22.SoftKeeps", spec := "softKeeps", inPlace := ["internal/bytealg.IndexByteString", "internal/bytealg.IndexString"], unfollowed := true, recurses := true, named := ["testbench/lexer.keywords", "internal/bytealg.MaxLen", "internal/strconv.uint64pow10", "math/bits.deBruijn32tab", "math/bits.deBruijn64tab"], loops := true, apart := false, laid := [("math/bits.deBruijn32tab", laid_math_bits_deBruijn32tab), ("math/bits.deBruijn64tab", laid_math_bits_deBruijn64tab), ("internal/strconv.uint64pow10", laid_internal_strconv_uint64pow10), ("testbench/lexer.keywords", laid_testbench_lexer_keywords)] }
def SoftKeepsSaid : Prop := softKeepsRow.holds Tryz.pinned (OpenSpec.ofChange softKeepsSpec)

/-- ITS FALSE NEIGHBOUR: 'it returns false'. Refute it at one input. -/
def softKeepsWrong : ChangeSpec := { name := "softKeeps", fn := fun _ => fun
  | [d] => { results := [.lit (.bool false)], args := [d] }
  | _ => none }
def SoftKeepsWrongFalsely : Prop := softKeepsRow.holds Tryz.pinned (OpenSpec.ofChange softKeepsWrong)

/-- 'testbenchlaw22.SoftGreatest': WHATEVER THE INPUT: true; the input reads as it did. -/
def softGreatestSpec : ChangeSpec := { name := "softGreatest", fn := fun _ => fun
  | [d] => { results := [.lit (.bool true)], args := [d] }
  | _ => none }
def softGreatestRow : OpenClaim := { program := "ytgdphjgedhadoaagreatdoor", sum := "97e5e6d259297cf6b0e840c24e782ff4d867f1f4660843bf92e2759de5eba130", func := "testbench/testbenchlaw22.SoftGreatest", spec := "softGreatest", inPlace := ["internal/bytealg.IndexByteString", "internal/bytealg.IndexString"], unfollowed := true, recurses := true, named := ["testbench/lexer.keywords", "internal/bytealg.MaxLen", "internal/strconv.uint64pow10", "math/bits.deBruijn32tab", "math/bits.deBruijn64tab"], loops := true, apart := false, laid := [("math/bits.deBruijn32tab", laid_math_bits_deBruijn32tab), ("math/bits.deBruijn64tab", laid_math_bits_deBruijn64tab), ("internal/strconv.uint64pow10", laid_internal_strconv_uint64pow10), ("testbench/lexer.keywords", laid_testbench_lexer_keywords)] }
def SoftGreatestSaid : Prop := softGreatestRow.holds Tryz.pinned (OpenSpec.ofChange softGreatestSpec)

/-- ITS FALSE NEIGHBOUR: 'it returns false'. Refute it at one input. -/
def softGreatestWrong : ChangeSpec := { name := "softGreatest", fn := fun _ => fun
  | [d] => { results := [.lit (.bool false)], args := [d] }
  | _ => none }
def SoftGreatestWrongFalsely : Prop := softGreatestRow.holds Tryz.pinned (OpenSpec.ofChange softGreatestWrong)

/-- 'testbenchlaw22.SoftOrder': WHATEVER THE INPUT: true; the input reads as it did. -/
def softOrderSpec : ChangeSpec := { name := "softOrder", fn := fun _ => fun
  | [d1, d2] => { results := [.lit (.bool true)], args := [d1, d2] }
  | _ => none }
def softOrderRow : OpenClaim := { program := "ytgdphjgedhadoaagreatdoor", sum := "97e5e6d259297cf6b0e840c24e782ff4d867f1f4660843bf92e2759de5eba130", func := "testbench/testbenchlaw22.SoftOrder", spec := "softOrder", inPlace := ["internal/bytealg.IndexByteString", "internal/bytealg.IndexString"], unfollowed := true, recurses := true, named := ["testbench/lexer.keywords", "internal/bytealg.MaxLen", "internal/strconv.uint64pow10", "math/bits.deBruijn32tab", "math/bits.deBruijn64tab"], loops := true, apart := false, laid := [("math/bits.deBruijn32tab", laid_math_bits_deBruijn32tab), ("math/bits.deBruijn64tab", laid_math_bits_deBruijn64tab), ("internal/strconv.uint64pow10", laid_internal_strconv_uint64pow10), ("testbench/lexer.keywords", laid_testbench_lexer_keywords)] }
def SoftOrderSaid : Prop := softOrderRow.holds Tryz.pinned (OpenSpec.ofChange softOrderSpec)

/-- ITS FALSE NEIGHBOUR: 'it returns false'. Refute it at one input. -/
def softOrderWrong : ChangeSpec := { name := "softOrder", fn := fun _ => fun
  | [d1, d2] => { results := [.lit (.bool false)], args := [d1, d2] }
  | _ => none }
def SoftOrderWrongFalsely : Prop := softOrderRow.holds Tryz.pinned (OpenSpec.ofChange softOrderWrong)

/-- 'testbenchlaw22.SoftRules': WHATEVER THE INPUT: true; the input reads as it did. -/
def softRulesSpec : ChangeSpec := { name := "softRules", fn := fun _ => fun
  | [d] => { results := [.lit (.bool true)], args := [d] }
  | _ => none }
def softRulesRow : OpenClaim := { program := "ytgdphjgedhadoaagreatdoor", sum := "97e5e6d259297cf6b0e840c24e782ff4d867f1f4660843bf92e2759de5eba130", func := "testbench/testbenchlaw22.SoftRules", spec := "softRules", inPlace := ["internal/bytealg.IndexByteString", "internal/bytealg.IndexString"], unfollowed := true, recurses := true, named := ["testbench/lexer.keywords", "internal/bytealg.MaxLen", "internal/strconv.uint64pow10", "math/bits.deBruijn32tab", "math/bits.deBruijn64tab"], loops := true, apart := false, laid := [("math/bits.deBruijn32tab", laid_math_bits_deBruijn32tab), ("math/bits.deBruijn64tab", laid_math_bits_deBruijn64tab), ("internal/strconv.uint64pow10", laid_internal_strconv_uint64pow10), ("testbench/lexer.keywords", laid_testbench_lexer_keywords)] }
def SoftRulesSaid : Prop := softRulesRow.holds Tryz.pinned (OpenSpec.ofChange softRulesSpec)

/-- ITS FALSE NEIGHBOUR: 'it returns false'. Refute it at one input. -/
def softRulesWrong : ChangeSpec := { name := "softRules", fn := fun _ => fun
  | [d] => { results := [.lit (.bool false)], args := [d] }
  | _ => none }
def SoftRulesWrongFalsely : Prop := softRulesRow.holds Tryz.pinned (OpenSpec.ofChange softRulesWrong)

/-- 'testbenchlaw22.SoftSolves': WHATEVER THE INPUT: true; the input reads as it did. -/
def softSolvesSpec : ChangeSpec := { name := "softSolves", fn := fun _ => fun
  | [d1, d2] => { results := [.lit (.bool true)], args := [d1, d2] }
  | _ => none }
def softSolvesRow : OpenClaim := { program := "ytgdphjgedhadoaagreatdoor", sum := "97e5e6d259297cf6b0e840c24e782ff4d867f1f4660843bf92e2759de5eba130", func := "testbench/testbenchlaw22.SoftSolves", spec := "softSolves", inPlace := ["internal/bytealg.IndexByteString", "internal/bytealg.IndexString"], unfollowed := true, recurses := true, named := ["testbench/lexer.keywords", "internal/bytealg.MaxLen", "internal/strconv.uint64pow10", "math/bits.deBruijn32tab", "math/bits.deBruijn64tab"], loops := true, apart := false, laid := [("math/bits.deBruijn32tab", laid_math_bits_deBruijn32tab), ("math/bits.deBruijn64tab", laid_math_bits_deBruijn64tab), ("internal/strconv.uint64pow10", laid_internal_strconv_uint64pow10), ("testbench/lexer.keywords", laid_testbench_lexer_keywords)] }
def SoftSolvesSaid : Prop := softSolvesRow.holds Tryz.pinned (OpenSpec.ofChange softSolvesSpec)

/-- ITS FALSE NEIGHBOUR: 'it returns false'. Refute it at one input. -/
def softSolvesWrong : ChangeSpec := { name := "softSolves", fn := fun _ => fun
  | [d1, d2] => { results := [.lit (.bool false)], args := [d1, d2] }
  | _ => none }
def SoftSolvesWrongFalsely : Prop := softSolvesRow.holds Tryz.pinned (OpenSpec.ofChange softSolvesWrong)

/- THE SECOND FORM. 'bulk': how many values and letters a reading holds, each counted each time it is reached (what is shared counts as often as it is met; a slice's spare places count too). A statement '..UptoSaid' is the law's where the arguments, and the package variables that the reading takes, are together of bulk at most 1048576: NARROWER than '..Said'. Prove '..Said' where nothing that the law and all that it calls make is longer than what came in: it says more and counts as full. Else prove '..UptoSaid'. A law counts once. -/
mutual
def uptoBulk {H : Type} : DataW H → Nat
  | .lit (.string bytes) => bytes.length + 1
  | .lit _ => 1
  | .nil => 1
  | .ptr d => uptoBulk d + 1
  | .slice elems spare => uptoBulkAll elems + uptoBulkAll spare + 1
  | .agg parts => uptoBulkAll parts + 1
  | .iface _ d => uptoBulk d + 1
  | .map entries => uptoBulkEntries entries + 1
  | .held _ => 1
def uptoBulkAll {H : Type} : List (DataW H) → Nat
  | [] => 0
  | d :: r => uptoBulk d + uptoBulkAll r
def uptoBulkEntries {H : Type} : List (Lit × DataW H) → Nat
  | [] => 0
  | x :: r => uptoBulkEntry x + uptoBulkEntries r
def uptoBulkEntry {H : Type} : Lit × DataW H → Nat
  | (.string bytes, d) => bytes.length + uptoBulk d + 1
  | (_, d) => uptoBulk d + 1
 end
def uptoSmall : (H : Type) → List (DataW H) → Bool := fun _ ds => decide (uptoBulkAll ds ≤ 1048576)
def OpenSpec.upto (s : _root_.Go.ChangeSpec) : _root_.Go.OpenSpec := { _root_.Go.OpenSpec.ofChange s with cond := some uptoSmall }

/-- 'testbenchlaw18.SearchFinds', WHERE WHAT IT READS IS OF BULK AT MOST 1048576: true; the input reads as it did. -/
def searchFindsUptoRow : OpenClaim := { program := "ytgdphjgedhadoaagreatdoor", sum := "97e5e6d259297cf6b0e840c24e782ff4d867f1f4660843bf92e2759de5eba130", func := "testbench/testbenchlaw18.SearchFinds", spec := "searchFinds", inPlace := ["internal/bytealg.IndexByteString", "internal/bytealg.IndexString"], unfollowed := true, recurses := true, named := ["testbench/lexer.keywords", "internal/bytealg.MaxLen", "internal/strconv.uint64pow10", "math/bits.deBruijn32tab", "math/bits.deBruijn64tab"], loops := true, apart := false, laid := [("math/bits.deBruijn32tab", laid_math_bits_deBruijn32tab), ("math/bits.deBruijn64tab", laid_math_bits_deBruijn64tab), ("internal/strconv.uint64pow10", laid_internal_strconv_uint64pow10), ("testbench/lexer.keywords", laid_testbench_lexer_keywords)], narrowed := true }
def SearchFindsUptoSaid : Prop := searchFindsUptoRow.holds Tryz.pinned (OpenSpec.upto searchFindsSpec)

/-- 'testbenchlaw18.SearchNext', WHERE WHAT IT READS IS OF BULK AT MOST 1048576: true; the input reads as it did. -/
def searchNextUptoRow : OpenClaim := { program := "ytgdphjgedhadoaagreatdoor", sum := "97e5e6d259297cf6b0e840c24e782ff4d867f1f4660843bf92e2759de5eba130", func := "testbench/testbenchlaw18.SearchNext", spec := "searchNext", inPlace := ["internal/bytealg.IndexByteString", "internal/bytealg.IndexString"], unfollowed := true, recurses := true, named := ["testbench/lexer.keywords", "internal/bytealg.MaxLen", "internal/strconv.uint64pow10", "math/bits.deBruijn32tab", "math/bits.deBruijn64tab"], loops := true, apart := false, laid := [("math/bits.deBruijn32tab", laid_math_bits_deBruijn32tab), ("math/bits.deBruijn64tab", laid_math_bits_deBruijn64tab), ("internal/strconv.uint64pow10", laid_internal_strconv_uint64pow10), ("testbench/lexer.keywords", laid_testbench_lexer_keywords)], narrowed := true }
def SearchNextUptoSaid : Prop := searchNextUptoRow.holds Tryz.pinned (OpenSpec.upto searchNextSpec)

/-- 'testbenchlaw18.SearchLeast', WHERE WHAT IT READS IS OF BULK AT MOST 1048576: true; the input reads as it did. -/
def searchLeastUptoRow : OpenClaim := { program := "ytgdphjgedhadoaagreatdoor", sum := "97e5e6d259297cf6b0e840c24e782ff4d867f1f4660843bf92e2759de5eba130", func := "testbench/testbenchlaw18.SearchLeast", spec := "searchLeast", inPlace := ["internal/bytealg.IndexByteString", "internal/bytealg.IndexString"], unfollowed := true, recurses := true, named := ["testbench/lexer.keywords", "internal/bytealg.MaxLen", "internal/strconv.uint64pow10", "math/bits.deBruijn32tab", "math/bits.deBruijn64tab"], loops := true, apart := false, laid := [("math/bits.deBruijn32tab", laid_math_bits_deBruijn32tab), ("math/bits.deBruijn64tab", laid_math_bits_deBruijn64tab), ("internal/strconv.uint64pow10", laid_internal_strconv_uint64pow10), ("testbench/lexer.keywords", laid_testbench_lexer_keywords)], narrowed := true }
def SearchLeastUptoSaid : Prop := searchLeastUptoRow.holds Tryz.pinned (OpenSpec.upto searchLeastSpec)

/-- 'testbenchlaw18.SearchAll', WHERE WHAT IT READS IS OF BULK AT MOST 1048576: true; the input reads as it did. -/
def searchAllUptoRow : OpenClaim := { program := "ytgdphjgedhadoaagreatdoor", sum := "97e5e6d259297cf6b0e840c24e782ff4d867f1f4660843bf92e2759de5eba130", func := "testbench/testbenchlaw18.SearchAll", spec := "searchAll", inPlace := ["internal/bytealg.IndexByteString", "internal/bytealg.IndexString"], unfollowed := true, recurses := true, named := ["testbench/lexer.keywords", "internal/bytealg.MaxLen", "internal/strconv.uint64pow10", "math/bits.deBruijn32tab", "math/bits.deBruijn64tab"], loops := true, apart := false, laid := [("math/bits.deBruijn32tab", laid_math_bits_deBruijn32tab), ("math/bits.deBruijn64tab", laid_math_bits_deBruijn64tab), ("internal/strconv.uint64pow10", laid_internal_strconv_uint64pow10), ("testbench/lexer.keywords", laid_testbench_lexer_keywords)], narrowed := true }
def SearchAllUptoSaid : Prop := searchAllUptoRow.holds Tryz.pinned (OpenSpec.upto searchAllSpec)

/-- 'testbenchlaw18.SearchWalks', WHERE WHAT IT READS IS OF BULK AT MOST 1048576: true; the input reads as it did. -/
def searchWalksUptoRow : OpenClaim := { program := "ytgdphjgedhadoaagreatdoor", sum := "97e5e6d259297cf6b0e840c24e782ff4d867f1f4660843bf92e2759de5eba130", func := "testbench/testbenchlaw18.SearchWalks", spec := "searchWalks", inPlace := ["internal/bytealg.IndexByteString", "internal/bytealg.IndexString"], unfollowed := true, recurses := true, named := ["testbench/lexer.keywords", "internal/bytealg.MaxLen", "internal/strconv.uint64pow10", "math/bits.deBruijn32tab", "math/bits.deBruijn64tab"], loops := true, apart := false, laid := [("math/bits.deBruijn32tab", laid_math_bits_deBruijn32tab), ("math/bits.deBruijn64tab", laid_math_bits_deBruijn64tab), ("internal/strconv.uint64pow10", laid_internal_strconv_uint64pow10), ("testbench/lexer.keywords", laid_testbench_lexer_keywords)], narrowed := true }
def SearchWalksUptoSaid : Prop := searchWalksUptoRow.holds Tryz.pinned (OpenSpec.upto searchWalksSpec)

/-- 'testbenchlaw22.SoftKeeps', WHERE WHAT IT READS IS OF BULK AT MOST 1048576: true; the input reads as it did. -/
def softKeepsUptoRow : OpenClaim := { program := "ytgdphjgedhadoaagreatdoor", sum := "97e5e6d259297cf6b0e840c24e782ff4d867f1f4660843bf92e2759de5eba130", func := "testbench/testbenchlaw22.SoftKeeps", spec := "softKeeps", inPlace := ["internal/bytealg.IndexByteString", "internal/bytealg.IndexString"], unfollowed := true, recurses := true, named := ["testbench/lexer.keywords", "internal/bytealg.MaxLen", "internal/strconv.uint64pow10", "math/bits.deBruijn32tab", "math/bits.deBruijn64tab"], loops := true, apart := false, laid := [("math/bits.deBruijn32tab", laid_math_bits_deBruijn32tab), ("math/bits.deBruijn64tab", laid_math_bits_deBruijn64tab), ("internal/strconv.uint64pow10", laid_internal_strconv_uint64pow10), ("testbench/lexer.keywords", laid_testbench_lexer_keywords)], narrowed := true }
def SoftKeepsUptoSaid : Prop := softKeepsUptoRow.holds Tryz.pinned (OpenSpec.upto softKeepsSpec)

/-- 'testbenchlaw22.SoftGreatest', WHERE WHAT IT READS IS OF BULK AT MOST 1048576: true; the input reads as it did. -/
def softGreatestUptoRow : OpenClaim := { program := "ytgdphjgedhadoaagreatdoor", sum := "97e5e6d259297cf6b0e840c24e782ff4d867f1f4660843bf92e2759de5eba130", func := "testbench/testbenchlaw22.SoftGreatest", spec := "softGreatest", inPlace := ["internal/bytealg.IndexByteString", "internal/bytealg.IndexString"], unfollowed := true, recurses := true, named := ["testbench/lexer.keywords", "internal/bytealg.MaxLen", "internal/strconv.uint64pow10", "math/bits.deBruijn32tab", "math/bits.deBruijn64tab"], loops := true, apart := false, laid := [("math/bits.deBruijn32tab", laid_math_bits_deBruijn32tab), ("math/bits.deBruijn64tab", laid_math_bits_deBruijn64tab), ("internal/strconv.uint64pow10", laid_internal_strconv_uint64pow10), ("testbench/lexer.keywords", laid_testbench_lexer_keywords)], narrowed := true }
def SoftGreatestUptoSaid : Prop := softGreatestUptoRow.holds Tryz.pinned (OpenSpec.upto softGreatestSpec)

/-- 'testbenchlaw22.SoftOrder', WHERE WHAT IT READS IS OF BULK AT MOST 1048576: true; the input reads as it did. -/
def softOrderUptoRow : OpenClaim := { program := "ytgdphjgedhadoaagreatdoor", sum := "97e5e6d259297cf6b0e840c24e782ff4d867f1f4660843bf92e2759de5eba130", func := "testbench/testbenchlaw22.SoftOrder", spec := "softOrder", inPlace := ["internal/bytealg.IndexByteString", "internal/bytealg.IndexString"], unfollowed := true, recurses := true, named := ["testbench/lexer.keywords", "internal/bytealg.MaxLen", "internal/strconv.uint64pow10", "math/bits.deBruijn32tab", "math/bits.deBruijn64tab"], loops := true, apart := false, laid := [("math/bits.deBruijn32tab", laid_math_bits_deBruijn32tab), ("math/bits.deBruijn64tab", laid_math_bits_deBruijn64tab), ("internal/strconv.uint64pow10", laid_internal_strconv_uint64pow10), ("testbench/lexer.keywords", laid_testbench_lexer_keywords)], narrowed := true }
def SoftOrderUptoSaid : Prop := softOrderUptoRow.holds Tryz.pinned (OpenSpec.upto softOrderSpec)

/-- 'testbenchlaw22.SoftRules', WHERE WHAT IT READS IS OF BULK AT MOST 1048576: true; the input reads as it did. -/
def softRulesUptoRow : OpenClaim := { program := "ytgdphjgedhadoaagreatdoor", sum := "97e5e6d259297cf6b0e840c24e782ff4d867f1f4660843bf92e2759de5eba130", func := "testbench/testbenchlaw22.SoftRules", spec := "softRules", inPlace := ["internal/bytealg.IndexByteString", "internal/bytealg.IndexString"], unfollowed := true, recurses := true, named := ["testbench/lexer.keywords", "internal/bytealg.MaxLen", "internal/strconv.uint64pow10", "math/bits.deBruijn32tab", "math/bits.deBruijn64tab"], loops := true, apart := false, laid := [("math/bits.deBruijn32tab", laid_math_bits_deBruijn32tab), ("math/bits.deBruijn64tab", laid_math_bits_deBruijn64tab), ("internal/strconv.uint64pow10", laid_internal_strconv_uint64pow10), ("testbench/lexer.keywords", laid_testbench_lexer_keywords)], narrowed := true }
def SoftRulesUptoSaid : Prop := softRulesUptoRow.holds Tryz.pinned (OpenSpec.upto softRulesSpec)

/-- 'testbenchlaw22.SoftSolves', WHERE WHAT IT READS IS OF BULK AT MOST 1048576: true; the input reads as it did. -/
def softSolvesUptoRow : OpenClaim := { program := "ytgdphjgedhadoaagreatdoor", sum := "97e5e6d259297cf6b0e840c24e782ff4d867f1f4660843bf92e2759de5eba130", func := "testbench/testbenchlaw22.SoftSolves", spec := "softSolves", inPlace := ["internal/bytealg.IndexByteString", "internal/bytealg.IndexString"], unfollowed := true, recurses := true, named := ["testbench/lexer.keywords", "internal/bytealg.MaxLen", "internal/strconv.uint64pow10", "math/bits.deBruijn32tab", "math/bits.deBruijn64tab"], loops := true, apart := false, laid := [("math/bits.deBruijn32tab", laid_math_bits_deBruijn32tab), ("math/bits.deBruijn64tab", laid_math_bits_deBruijn64tab), ("internal/strconv.uint64pow10", laid_internal_strconv_uint64pow10), ("testbench/lexer.keywords", laid_testbench_lexer_keywords)], narrowed := true }
def SoftSolvesUptoSaid : Prop := softSolvesUptoRow.holds Tryz.pinned (OpenSpec.upto softSolvesSpec)

end Rows
end Go.Proofs.YtgdphjgedhadoaaGreatDoor
