/-
  NARROWER THAN 'FOR EVERY INPUT', by the rows' own cells (each row's printed sentence says how): DatumWritten: laid · DatumLogic: laid · DatumThree: laid · DatumRing: laid · DatumNumbers: laid · DatumChecks: laid · DatumOrder: laid · DatumJoins: laid · DatumSides: laid · DatumTexts: laid · DatumParses: laid · DatumBack: laid.
  DERIVED. THE GIVEN ROWS OF THIS SEAT. 12 by the template 'for every input the law returns true; each argument reads behind the call as it read before'; 0 by the template 'total and deterministic' (their statements: YtobgfegdfcpgfaaDoorTotals.lean).
  GIVEN WITH THE SEED: the statements are not yours to turn. If you find one false, say at which input.
  Laid BY PROGRAM, IN A SANDBOX (cutbox-rows.mjs): the forced cells as the released guide's own fill.sh prints them over the translation ed0bc32f73aebec2… (all of the seat's roots in one cut). By AI agents, Wed Nov 11 2026. No macro, syntax, notation, axiom, sorry.
-/
import Derived.Test.YtobgfegdfcpgfaaDoorChecked
import GoSem.PinnedTables
import GoSem.Claim
import GoSem.ClaimJoined
import GoSem.ClaimMapViews
import Derived.JoinedTies
import Derived.KernelRfl
namespace Go.Proofs.YtobgfegdfcpgfaaDoor
/- THE CELL 'sum', in the pinned program and in every row, IS THE sha256 OF THE DUMP (.gsa) THAT YtobgfegdfcpgfaaDoorProg.lean LOADS. Nothing in Lean hashes anything: it is a label: what it is worth is what the hold of that sum in a sandbox is worth. -/
noncomputable def Tryd.pinned : Pinned := { name := "ytobgfegdfcpgfaadoor", sum := "ed0bc32f73aebec24df8cefe8962dfaa7ba97643ba617c9fabd5c14b70f63ab2", checked := Tryd.checked }
namespace Rows
def none {H : Type} : Left H := { results := [], args := [] }

/- WHAT THE LISTED PACKAGE-LEVEL VARIABLES READ AS WHEN THE CALL BEGINS. Each datum BY PROGRAM (the guide's laid-datum.mjs) off the statement by which the dump's own 'gosem.cut.vars' lays the variable. In a bare row this is a premise. The card (YtobgfegdfcpgfaaDoorCards.lean) ties it to the program's text. -/
def laid_math_bits_deBruijn32tab {H : Type} : DataW H := .agg [.lit (.int .u8 0), .lit (.int .u8 1), .lit (.int .u8 28), .lit (.int .u8 2), .lit (.int .u8 29), .lit (.int .u8 14), .lit (.int .u8 24), .lit (.int .u8 3), .lit (.int .u8 30), .lit (.int .u8 22), .lit (.int .u8 20), .lit (.int .u8 15), .lit (.int .u8 25), .lit (.int .u8 17), .lit (.int .u8 4), .lit (.int .u8 8), .lit (.int .u8 31), .lit (.int .u8 27), .lit (.int .u8 13), .lit (.int .u8 23), .lit (.int .u8 21), .lit (.int .u8 19), .lit (.int .u8 16), .lit (.int .u8 7), .lit (.int .u8 26), .lit (.int .u8 12), .lit (.int .u8 18), .lit (.int .u8 6), .lit (.int .u8 11), .lit (.int .u8 5), .lit (.int .u8 10), .lit (.int .u8 9)]
def laid_math_bits_deBruijn64tab {H : Type} : DataW H := .agg [.lit (.int .u8 0), .lit (.int .u8 1), .lit (.int .u8 56), .lit (.int .u8 2), .lit (.int .u8 57), .lit (.int .u8 49), .lit (.int .u8 28), .lit (.int .u8 3), .lit (.int .u8 61), .lit (.int .u8 58), .lit (.int .u8 42), .lit (.int .u8 50), .lit (.int .u8 38), .lit (.int .u8 29), .lit (.int .u8 17), .lit (.int .u8 4), .lit (.int .u8 62), .lit (.int .u8 47), .lit (.int .u8 59), .lit (.int .u8 36), .lit (.int .u8 45), .lit (.int .u8 43), .lit (.int .u8 51), .lit (.int .u8 22), .lit (.int .u8 53), .lit (.int .u8 39), .lit (.int .u8 33), .lit (.int .u8 30), .lit (.int .u8 24), .lit (.int .u8 18), .lit (.int .u8 12), .lit (.int .u8 5), .lit (.int .u8 63), .lit (.int .u8 55), .lit (.int .u8 48), .lit (.int .u8 27), .lit (.int .u8 60), .lit (.int .u8 41), .lit (.int .u8 37), .lit (.int .u8 16), .lit (.int .u8 46), .lit (.int .u8 35), .lit (.int .u8 44), .lit (.int .u8 21), .lit (.int .u8 52), .lit (.int .u8 32), .lit (.int .u8 23), .lit (.int .u8 11), .lit (.int .u8 54), .lit (.int .u8 26), .lit (.int .u8 40), .lit (.int .u8 15), .lit (.int .u8 34), .lit (.int .u8 20), .lit (.int .u8 31), .lit (.int .u8 10), .lit (.int .u8 25), .lit (.int .u8 14), .lit (.int .u8 19), .lit (.int .u8 9), .lit (.int .u8 13), .lit (.int .u8 8), .lit (.int .u8 7), .lit (.int .u8 6)]
def laid_internal_strconv_uint64pow10 {H : Type} : DataW H := .agg [.lit (.int .u64 1), .lit (.int .u64 10), .lit (.int .u64 100), .lit (.int .u64 1000), .lit (.int .u64 10000), .lit (.int .u64 100000), .lit (.int .u64 1000000), .lit (.int .u64 10000000), .lit (.int .u64 100000000), .lit (.int .u64 1000000000), .lit (.int .u64 10000000000), .lit (.int .u64 100000000000), .lit (.int .u64 1000000000000), .lit (.int .u64 10000000000000), .lit (.int .u64 100000000000000), .lit (.int .u64 1000000000000000), .lit (.int .u64 10000000000000000), .lit (.int .u64 100000000000000000), .lit (.int .u64 1000000000000000000), .lit (.int .u64 10000000000000000000)]
def laid_unicode_utf8_acceptRanges {H : Type} : DataW H := .agg [.agg [.lit (.int .u8 128), .lit (.int .u8 191)], .agg [.lit (.int .u8 160), .lit (.int .u8 191)], .agg [.lit (.int .u8 128), .lit (.int .u8 159)], .agg [.lit (.int .u8 144), .lit (.int .u8 191)], .agg [.lit (.int .u8 128), .lit (.int .u8 143)], .agg [.lit (.int .u8 0), .lit (.int .u8 0)], .agg [.lit (.int .u8 0), .lit (.int .u8 0)], .agg [.lit (.int .u8 0), .lit (.int .u8 0)], .agg [.lit (.int .u8 0), .lit (.int .u8 0)], .agg [.lit (.int .u8 0), .lit (.int .u8 0)], .agg [.lit (.int .u8 0), .lit (.int .u8 0)], .agg [.lit (.int .u8 0), .lit (.int .u8 0)], .agg [.lit (.int .u8 0), .lit (.int .u8 0)], .agg [.lit (.int .u8 0), .lit (.int .u8 0)], .agg [.lit (.int .u8 0), .lit (.int .u8 0)], .agg [.lit (.int .u8 0), .lit (.int .u8 0)]]
/-- One of Go's own tables, pinned by name: the form's constant. -/
def laid_unicode_utf8_first : DataW Unit := Go.Pinned.utf8First
def laid_strconv_ErrRange {H : Type} : DataW H := .iface "*errors.errorString" (.ptr (.agg [.lit (.string [118, 97, 108, 117, 101, 32, 111, 117, 116, 32, 111, 102, 32, 114, 97, 110, 103, 101])]))
def laid_strconv_ErrSyntax {H : Type} : DataW H := .iface "*errors.errorString" (.ptr (.agg [.lit (.string [105, 110, 118, 97, 108, 105, 100, 32, 115, 121, 110, 116, 97, 120])]))

/-- 'penstocklaw01.DatumWritten': WHATEVER THE INPUT: true; the input reads as it did. -/
def datumWrittenSpec : ChangeSpec := { name := "datumWritten", fn := fun _ => fun
  | [d1, d2] => { results := [.lit (.bool true)], args := [d1, d2] }
  | _ => none }
def datumWrittenRow : OpenClaim := { program := "ytobgfegdfcpgfaadoor", sum := "ed0bc32f73aebec24df8cefe8962dfaa7ba97643ba617c9fabd5c14b70f63ab2", func := "penstock/penstocklaw01.DatumWritten", spec := "datumWritten", inPlace := ["internal/abi.NoEscape", "internal/bytealg.MakeNoZero"], unfollowed := true, recurses := true, named := ["unicode/utf8.first", "unicode/utf8.acceptRanges", "internal/strconv.uint64pow10", "math/bits.deBruijn32tab", "math/bits.deBruijn64tab"], apart := false, laid := [("math/bits.deBruijn32tab", laid_math_bits_deBruijn32tab), ("math/bits.deBruijn64tab", laid_math_bits_deBruijn64tab), ("internal/strconv.uint64pow10", laid_internal_strconv_uint64pow10), ("unicode/utf8.acceptRanges", laid_unicode_utf8_acceptRanges), ("unicode/utf8.first", laid_unicode_utf8_first)] }
def DatumWrittenSaid : Prop := datumWrittenRow.holds Tryd.pinned (OpenSpec.ofChange datumWrittenSpec)

/-- ITS FALSE NEIGHBOUR: 'it returns false'. Refute it at one input. -/
def datumWrittenWrong : ChangeSpec := { name := "datumWritten", fn := fun _ => fun
  | [d1, d2] => { results := [.lit (.bool false)], args := [d1, d2] }
  | _ => none }
def DatumWrittenWrongFalsely : Prop := datumWrittenRow.holds Tryd.pinned (OpenSpec.ofChange datumWrittenWrong)

/-- 'penstocklaw01.DatumLogic': WHATEVER THE INPUT: true; the input reads as it did. -/
def datumLogicSpec : ChangeSpec := { name := "datumLogic", fn := fun _ => fun
  | [d1, d2] => { results := [.lit (.bool true)], args := [d1, d2] }
  | _ => none }
def datumLogicRow : OpenClaim := { program := "ytobgfegdfcpgfaadoor", sum := "ed0bc32f73aebec24df8cefe8962dfaa7ba97643ba617c9fabd5c14b70f63ab2", func := "penstock/penstocklaw01.DatumLogic", spec := "datumLogic", inPlace := ["internal/abi.NoEscape", "internal/bytealg.MakeNoZero"], unfollowed := true, recurses := true, named := ["unicode/utf8.first", "unicode/utf8.acceptRanges", "internal/strconv.uint64pow10", "math/bits.deBruijn32tab", "math/bits.deBruijn64tab"], apart := false, laid := [("math/bits.deBruijn32tab", laid_math_bits_deBruijn32tab), ("math/bits.deBruijn64tab", laid_math_bits_deBruijn64tab), ("internal/strconv.uint64pow10", laid_internal_strconv_uint64pow10), ("unicode/utf8.acceptRanges", laid_unicode_utf8_acceptRanges), ("unicode/utf8.first", laid_unicode_utf8_first)] }
def DatumLogicSaid : Prop := datumLogicRow.holds Tryd.pinned (OpenSpec.ofChange datumLogicSpec)

/-- ITS FALSE NEIGHBOUR: 'it returns false'. Refute it at one input. -/
def datumLogicWrong : ChangeSpec := { name := "datumLogic", fn := fun _ => fun
  | [d1, d2] => { results := [.lit (.bool false)], args := [d1, d2] }
  | _ => none }
def DatumLogicWrongFalsely : Prop := datumLogicRow.holds Tryd.pinned (OpenSpec.ofChange datumLogicWrong)

/-- 'penstocklaw01.DatumThree': WHATEVER THE INPUT: true; the input reads as it did. -/
def datumThreeSpec : ChangeSpec := { name := "datumThree", fn := fun _ => fun
  | [d1, d2] => { results := [.lit (.bool true)], args := [d1, d2] }
  | _ => none }
def datumThreeRow : OpenClaim := { program := "ytobgfegdfcpgfaadoor", sum := "ed0bc32f73aebec24df8cefe8962dfaa7ba97643ba617c9fabd5c14b70f63ab2", func := "penstock/penstocklaw01.DatumThree", spec := "datumThree", inPlace := ["internal/abi.NoEscape", "internal/bytealg.MakeNoZero"], unfollowed := true, recurses := true, named := ["unicode/utf8.first", "unicode/utf8.acceptRanges", "internal/strconv.uint64pow10", "math/bits.deBruijn32tab", "math/bits.deBruijn64tab"], apart := false, laid := [("math/bits.deBruijn32tab", laid_math_bits_deBruijn32tab), ("math/bits.deBruijn64tab", laid_math_bits_deBruijn64tab), ("internal/strconv.uint64pow10", laid_internal_strconv_uint64pow10), ("unicode/utf8.acceptRanges", laid_unicode_utf8_acceptRanges), ("unicode/utf8.first", laid_unicode_utf8_first)] }
def DatumThreeSaid : Prop := datumThreeRow.holds Tryd.pinned (OpenSpec.ofChange datumThreeSpec)

/-- ITS FALSE NEIGHBOUR: 'it returns false'. Refute it at one input. -/
def datumThreeWrong : ChangeSpec := { name := "datumThree", fn := fun _ => fun
  | [d1, d2] => { results := [.lit (.bool false)], args := [d1, d2] }
  | _ => none }
def DatumThreeWrongFalsely : Prop := datumThreeRow.holds Tryd.pinned (OpenSpec.ofChange datumThreeWrong)

/-- 'penstocklaw01.DatumRing': WHATEVER THE INPUT: true; the input reads as it did. -/
def datumRingSpec : ChangeSpec := { name := "datumRing", fn := fun _ => fun
  | [d1, d2] => { results := [.lit (.bool true)], args := [d1, d2] }
  | _ => none }
def datumRingRow : OpenClaim := { program := "ytobgfegdfcpgfaadoor", sum := "ed0bc32f73aebec24df8cefe8962dfaa7ba97643ba617c9fabd5c14b70f63ab2", func := "penstock/penstocklaw01.DatumRing", spec := "datumRing", inPlace := ["internal/abi.NoEscape", "internal/bytealg.MakeNoZero"], unfollowed := true, recurses := true, named := ["unicode/utf8.first", "unicode/utf8.acceptRanges", "internal/strconv.uint64pow10", "math/bits.deBruijn32tab", "math/bits.deBruijn64tab"], apart := false, laid := [("math/bits.deBruijn32tab", laid_math_bits_deBruijn32tab), ("math/bits.deBruijn64tab", laid_math_bits_deBruijn64tab), ("internal/strconv.uint64pow10", laid_internal_strconv_uint64pow10), ("unicode/utf8.acceptRanges", laid_unicode_utf8_acceptRanges), ("unicode/utf8.first", laid_unicode_utf8_first)] }
def DatumRingSaid : Prop := datumRingRow.holds Tryd.pinned (OpenSpec.ofChange datumRingSpec)

/-- ITS FALSE NEIGHBOUR: 'it returns false'. Refute it at one input. -/
def datumRingWrong : ChangeSpec := { name := "datumRing", fn := fun _ => fun
  | [d1, d2] => { results := [.lit (.bool false)], args := [d1, d2] }
  | _ => none }
def DatumRingWrongFalsely : Prop := datumRingRow.holds Tryd.pinned (OpenSpec.ofChange datumRingWrong)

/-- 'penstocklaw01.DatumNumbers': WHATEVER THE INPUT: true; the input reads as it did. -/
def datumNumbersSpec : ChangeSpec := { name := "datumNumbers", fn := fun _ => fun
  | [d1, d2] => { results := [.lit (.bool true)], args := [d1, d2] }
  | _ => none }
def datumNumbersRow : OpenClaim := { program := "ytobgfegdfcpgfaadoor", sum := "ed0bc32f73aebec24df8cefe8962dfaa7ba97643ba617c9fabd5c14b70f63ab2", func := "penstock/penstocklaw01.DatumNumbers", spec := "datumNumbers", inPlace := ["internal/abi.NoEscape", "internal/bytealg.MakeNoZero"], unfollowed := true, recurses := true, named := ["unicode/utf8.first", "unicode/utf8.acceptRanges", "internal/strconv.uint64pow10", "math/bits.deBruijn32tab", "math/bits.deBruijn64tab"], apart := false, laid := [("math/bits.deBruijn32tab", laid_math_bits_deBruijn32tab), ("math/bits.deBruijn64tab", laid_math_bits_deBruijn64tab), ("internal/strconv.uint64pow10", laid_internal_strconv_uint64pow10), ("unicode/utf8.acceptRanges", laid_unicode_utf8_acceptRanges), ("unicode/utf8.first", laid_unicode_utf8_first)] }
def DatumNumbersSaid : Prop := datumNumbersRow.holds Tryd.pinned (OpenSpec.ofChange datumNumbersSpec)

/-- ITS FALSE NEIGHBOUR: 'it returns false'. Refute it at one input. -/
def datumNumbersWrong : ChangeSpec := { name := "datumNumbers", fn := fun _ => fun
  | [d1, d2] => { results := [.lit (.bool false)], args := [d1, d2] }
  | _ => none }
def DatumNumbersWrongFalsely : Prop := datumNumbersRow.holds Tryd.pinned (OpenSpec.ofChange datumNumbersWrong)

/-- 'penstocklaw01.DatumChecks': WHATEVER THE INPUT: true; the input reads as it did. -/
def datumChecksSpec : ChangeSpec := { name := "datumChecks", fn := fun _ => fun
  | [d1, d2] => { results := [.lit (.bool true)], args := [d1, d2] }
  | _ => none }
def datumChecksRow : OpenClaim := { program := "ytobgfegdfcpgfaadoor", sum := "ed0bc32f73aebec24df8cefe8962dfaa7ba97643ba617c9fabd5c14b70f63ab2", func := "penstock/penstocklaw01.DatumChecks", spec := "datumChecks", inPlace := ["internal/abi.NoEscape", "internal/bytealg.MakeNoZero"], unfollowed := true, recurses := true, named := ["unicode/utf8.first", "unicode/utf8.acceptRanges", "internal/strconv.uint64pow10", "math/bits.deBruijn32tab", "math/bits.deBruijn64tab"], apart := false, laid := [("math/bits.deBruijn32tab", laid_math_bits_deBruijn32tab), ("math/bits.deBruijn64tab", laid_math_bits_deBruijn64tab), ("internal/strconv.uint64pow10", laid_internal_strconv_uint64pow10), ("unicode/utf8.acceptRanges", laid_unicode_utf8_acceptRanges), ("unicode/utf8.first", laid_unicode_utf8_first)] }
def DatumChecksSaid : Prop := datumChecksRow.holds Tryd.pinned (OpenSpec.ofChange datumChecksSpec)

/-- ITS FALSE NEIGHBOUR: 'it returns false'. Refute it at one input. -/
def datumChecksWrong : ChangeSpec := { name := "datumChecks", fn := fun _ => fun
  | [d1, d2] => { results := [.lit (.bool false)], args := [d1, d2] }
  | _ => none }
def DatumChecksWrongFalsely : Prop := datumChecksRow.holds Tryd.pinned (OpenSpec.ofChange datumChecksWrong)

/-- 'penstocklaw01.DatumOrder': WHATEVER THE INPUT: true; the input reads as it did. -/
def datumOrderSpec : ChangeSpec := { name := "datumOrder", fn := fun _ => fun
  | [d1, d2, d3] => { results := [.lit (.bool true)], args := [d1, d2, d3] }
  | _ => none }
def datumOrderRow : OpenClaim := { program := "ytobgfegdfcpgfaadoor", sum := "ed0bc32f73aebec24df8cefe8962dfaa7ba97643ba617c9fabd5c14b70f63ab2", func := "penstock/penstocklaw01.DatumOrder", spec := "datumOrder", inPlace := ["internal/abi.NoEscape", "internal/bytealg.MakeNoZero"], unfollowed := true, recurses := true, named := ["unicode/utf8.first", "unicode/utf8.acceptRanges", "internal/strconv.uint64pow10", "math/bits.deBruijn32tab", "math/bits.deBruijn64tab"], apart := false, laid := [("math/bits.deBruijn32tab", laid_math_bits_deBruijn32tab), ("math/bits.deBruijn64tab", laid_math_bits_deBruijn64tab), ("internal/strconv.uint64pow10", laid_internal_strconv_uint64pow10), ("unicode/utf8.acceptRanges", laid_unicode_utf8_acceptRanges), ("unicode/utf8.first", laid_unicode_utf8_first)] }
def DatumOrderSaid : Prop := datumOrderRow.holds Tryd.pinned (OpenSpec.ofChange datumOrderSpec)

/-- ITS FALSE NEIGHBOUR: 'it returns false'. Refute it at one input. -/
def datumOrderWrong : ChangeSpec := { name := "datumOrder", fn := fun _ => fun
  | [d1, d2, d3] => { results := [.lit (.bool false)], args := [d1, d2, d3] }
  | _ => none }
def DatumOrderWrongFalsely : Prop := datumOrderRow.holds Tryd.pinned (OpenSpec.ofChange datumOrderWrong)

/-- 'penstocklaw01.DatumJoins': WHATEVER THE INPUT: true; the input reads as it did. -/
def datumJoinsSpec : ChangeSpec := { name := "datumJoins", fn := fun _ => fun
  | [d1, d2, d3] => { results := [.lit (.bool true)], args := [d1, d2, d3] }
  | _ => none }
def datumJoinsRow : OpenClaim := { program := "ytobgfegdfcpgfaadoor", sum := "ed0bc32f73aebec24df8cefe8962dfaa7ba97643ba617c9fabd5c14b70f63ab2", func := "penstock/penstocklaw01.DatumJoins", spec := "datumJoins", inPlace := ["internal/abi.NoEscape", "internal/bytealg.MakeNoZero"], unfollowed := true, recurses := true, named := ["unicode/utf8.first", "unicode/utf8.acceptRanges", "internal/strconv.uint64pow10", "math/bits.deBruijn32tab", "math/bits.deBruijn64tab"], apart := false, laid := [("math/bits.deBruijn32tab", laid_math_bits_deBruijn32tab), ("math/bits.deBruijn64tab", laid_math_bits_deBruijn64tab), ("internal/strconv.uint64pow10", laid_internal_strconv_uint64pow10), ("unicode/utf8.acceptRanges", laid_unicode_utf8_acceptRanges), ("unicode/utf8.first", laid_unicode_utf8_first)] }
def DatumJoinsSaid : Prop := datumJoinsRow.holds Tryd.pinned (OpenSpec.ofChange datumJoinsSpec)

/-- ITS FALSE NEIGHBOUR: 'it returns false'. Refute it at one input. -/
def datumJoinsWrong : ChangeSpec := { name := "datumJoins", fn := fun _ => fun
  | [d1, d2, d3] => { results := [.lit (.bool false)], args := [d1, d2, d3] }
  | _ => none }
def DatumJoinsWrongFalsely : Prop := datumJoinsRow.holds Tryd.pinned (OpenSpec.ofChange datumJoinsWrong)

/-- 'penstocklaw01.DatumSides': WHATEVER THE INPUT: true; the input reads as it did. -/
def datumSidesSpec : ChangeSpec := { name := "datumSides", fn := fun _ => fun
  | [d1, d2] => { results := [.lit (.bool true)], args := [d1, d2] }
  | _ => none }
def datumSidesRow : OpenClaim := { program := "ytobgfegdfcpgfaadoor", sum := "ed0bc32f73aebec24df8cefe8962dfaa7ba97643ba617c9fabd5c14b70f63ab2", func := "penstock/penstocklaw01.DatumSides", spec := "datumSides", inPlace := ["internal/abi.NoEscape", "internal/bytealg.MakeNoZero"], unfollowed := true, recurses := true, named := ["unicode/utf8.first", "unicode/utf8.acceptRanges", "internal/strconv.uint64pow10", "math/bits.deBruijn32tab", "math/bits.deBruijn64tab"], apart := false, laid := [("math/bits.deBruijn32tab", laid_math_bits_deBruijn32tab), ("math/bits.deBruijn64tab", laid_math_bits_deBruijn64tab), ("internal/strconv.uint64pow10", laid_internal_strconv_uint64pow10), ("unicode/utf8.acceptRanges", laid_unicode_utf8_acceptRanges), ("unicode/utf8.first", laid_unicode_utf8_first)] }
def DatumSidesSaid : Prop := datumSidesRow.holds Tryd.pinned (OpenSpec.ofChange datumSidesSpec)

/-- ITS FALSE NEIGHBOUR: 'it returns false'. Refute it at one input. -/
def datumSidesWrong : ChangeSpec := { name := "datumSides", fn := fun _ => fun
  | [d1, d2] => { results := [.lit (.bool false)], args := [d1, d2] }
  | _ => none }
def DatumSidesWrongFalsely : Prop := datumSidesRow.holds Tryd.pinned (OpenSpec.ofChange datumSidesWrong)

/-- 'penstocklaw01.DatumTexts': WHATEVER THE INPUT: true; the input reads as it did. -/
def datumTextsSpec : ChangeSpec := { name := "datumTexts", fn := fun _ => fun
  | [d1, d2, d3] => { results := [.lit (.bool true)], args := [d1, d2, d3] }
  | _ => none }
def datumTextsRow : OpenClaim := { program := "ytobgfegdfcpgfaadoor", sum := "ed0bc32f73aebec24df8cefe8962dfaa7ba97643ba617c9fabd5c14b70f63ab2", func := "penstock/penstocklaw01.DatumTexts", spec := "datumTexts", inPlace := ["internal/abi.NoEscape", "internal/bytealg.MakeNoZero"], unfollowed := true, recurses := true, named := ["unicode/utf8.first", "unicode/utf8.acceptRanges", "internal/strconv.uint64pow10", "math/bits.deBruijn32tab", "math/bits.deBruijn64tab"], apart := false, laid := [("math/bits.deBruijn32tab", laid_math_bits_deBruijn32tab), ("math/bits.deBruijn64tab", laid_math_bits_deBruijn64tab), ("internal/strconv.uint64pow10", laid_internal_strconv_uint64pow10), ("unicode/utf8.acceptRanges", laid_unicode_utf8_acceptRanges), ("unicode/utf8.first", laid_unicode_utf8_first)] }
def DatumTextsSaid : Prop := datumTextsRow.holds Tryd.pinned (OpenSpec.ofChange datumTextsSpec)

/-- ITS FALSE NEIGHBOUR: 'it returns false'. Refute it at one input. -/
def datumTextsWrong : ChangeSpec := { name := "datumTexts", fn := fun _ => fun
  | [d1, d2, d3] => { results := [.lit (.bool false)], args := [d1, d2, d3] }
  | _ => none }
def DatumTextsWrongFalsely : Prop := datumTextsRow.holds Tryd.pinned (OpenSpec.ofChange datumTextsWrong)

/-- 'penstocklaw01.DatumParses': WHATEVER THE INPUT: true; the input reads as it did. -/
def datumParsesSpec : ChangeSpec := { name := "datumParses", fn := fun _ => fun
  | [d] => { results := [.lit (.bool true)], args := [d] }
  | _ => none }
def datumParsesRow : OpenClaim := { program := "ytobgfegdfcpgfaadoor", sum := "ed0bc32f73aebec24df8cefe8962dfaa7ba97643ba617c9fabd5c14b70f63ab2", func := "penstock/penstocklaw01.DatumParses", spec := "datumParses", inPlace := ["internal/abi.NoEscape", "internal/bytealg.MakeNoZero"], unfollowed := true, recurses := true, named := ["strconv.ErrSyntax", "strconv.ErrRange", "internal/strconv.uint64pow10", "math/bits.deBruijn32tab", "math/bits.deBruijn64tab", "unicode/utf8.first", "unicode/utf8.acceptRanges"], apart := false, laid := [("math/bits.deBruijn32tab", laid_math_bits_deBruijn32tab), ("math/bits.deBruijn64tab", laid_math_bits_deBruijn64tab), ("internal/strconv.uint64pow10", laid_internal_strconv_uint64pow10), ("unicode/utf8.acceptRanges", laid_unicode_utf8_acceptRanges), ("strconv.ErrRange", laid_strconv_ErrRange), ("strconv.ErrSyntax", laid_strconv_ErrSyntax), ("unicode/utf8.first", laid_unicode_utf8_first)] }
def DatumParsesSaid : Prop := datumParsesRow.holds Tryd.pinned (OpenSpec.ofChange datumParsesSpec)

/-- ITS FALSE NEIGHBOUR: 'it returns false'. Refute it at one input. -/
def datumParsesWrong : ChangeSpec := { name := "datumParses", fn := fun _ => fun
  | [d] => { results := [.lit (.bool false)], args := [d] }
  | _ => none }
def DatumParsesWrongFalsely : Prop := datumParsesRow.holds Tryd.pinned (OpenSpec.ofChange datumParsesWrong)

/-- 'penstocklaw01.DatumBack': WHATEVER THE INPUT: true; the input reads as it did. -/
def datumBackSpec : ChangeSpec := { name := "datumBack", fn := fun _ => fun
  | [d1, d2] => { results := [.lit (.bool true)], args := [d1, d2] }
  | _ => none }
def datumBackRow : OpenClaim := { program := "ytobgfegdfcpgfaadoor", sum := "ed0bc32f73aebec24df8cefe8962dfaa7ba97643ba617c9fabd5c14b70f63ab2", func := "penstock/penstocklaw01.DatumBack", spec := "datumBack", inPlace := ["internal/abi.NoEscape", "internal/bytealg.MakeNoZero"], unfollowed := true, recurses := true, named := ["unicode/utf8.first", "unicode/utf8.acceptRanges", "internal/strconv.uint64pow10", "math/bits.deBruijn32tab", "math/bits.deBruijn64tab", "strconv.ErrSyntax", "strconv.ErrRange"], apart := false, laid := [("math/bits.deBruijn32tab", laid_math_bits_deBruijn32tab), ("math/bits.deBruijn64tab", laid_math_bits_deBruijn64tab), ("internal/strconv.uint64pow10", laid_internal_strconv_uint64pow10), ("unicode/utf8.acceptRanges", laid_unicode_utf8_acceptRanges), ("strconv.ErrRange", laid_strconv_ErrRange), ("strconv.ErrSyntax", laid_strconv_ErrSyntax), ("unicode/utf8.first", laid_unicode_utf8_first)] }
def DatumBackSaid : Prop := datumBackRow.holds Tryd.pinned (OpenSpec.ofChange datumBackSpec)

/-- ITS FALSE NEIGHBOUR: 'it returns false'. Refute it at one input. -/
def datumBackWrong : ChangeSpec := { name := "datumBack", fn := fun _ => fun
  | [d1, d2] => { results := [.lit (.bool false)], args := [d1, d2] }
  | _ => none }
def DatumBackWrongFalsely : Prop := datumBackRow.holds Tryd.pinned (OpenSpec.ofChange datumBackWrong)

/- THE SECOND FORM. 'bulk': how many values and letters a reading holds, each counted each time it is reached (what is shared counts as often as it is met; a slice's spare places count too). A statement '..UptoSaid' is the law's where the arguments, and the package variables that the reading takes, are together of bulk at most 1048576: NARROWER than '..Said'. Prove '..Said' where nothing that the law and all that it calls make is longer than what came in: it says more and counts as full. Else prove '..UptoSaid'. A law counts once. -/
mutual
def uptoBulk {H : Type} : DataW H → Nat
  | .lit (.string bytes) => bytes.length + 1
  | .lit _ => 1
  | .nil => 1
  | .ptr d => uptoBulk d + 1
  | .slice elems spare => uptoBulkAll elems + uptoBulkAll spare + 1
  | .agg parts => uptoBulkAll parts + 1
  | .iface _ d => uptoBulk d + 1
  | .map entries => uptoBulkEntries entries + 1
  | .held _ => 1
def uptoBulkAll {H : Type} : List (DataW H) → Nat
  | [] => 0
  | d :: r => uptoBulk d + uptoBulkAll r
def uptoBulkEntries {H : Type} : List (Lit × DataW H) → Nat
  | [] => 0
  | x :: r => uptoBulkEntry x + uptoBulkEntries r
def uptoBulkEntry {H : Type} : Lit × DataW H → Nat
  | (.string bytes, d) => bytes.length + uptoBulk d + 1
  | (_, d) => uptoBulk d + 1
 end
def uptoSmall : (H : Type) → List (DataW H) → Bool := fun _ ds => decide (uptoBulkAll ds ≤ 1048576)
def OpenSpec.upto (s : _root_.Go.ChangeSpec) : _root_.Go.OpenSpec := { _root_.Go.OpenSpec.ofChange s with cond := some uptoSmall }

/-- 'penstocklaw01.DatumWritten', WHERE WHAT IT READS IS OF BULK AT MOST 1048576: true; the input reads as it did. -/
def datumWrittenUptoRow : OpenClaim := { program := "ytobgfegdfcpgfaadoor", sum := "ed0bc32f73aebec24df8cefe8962dfaa7ba97643ba617c9fabd5c14b70f63ab2", func := "penstock/penstocklaw01.DatumWritten", spec := "datumWritten", inPlace := ["internal/abi.NoEscape", "internal/bytealg.MakeNoZero"], unfollowed := true, recurses := true, named := ["unicode/utf8.first", "unicode/utf8.acceptRanges", "internal/strconv.uint64pow10", "math/bits.deBruijn32tab", "math/bits.deBruijn64tab"], apart := false, laid := [("math/bits.deBruijn32tab", laid_math_bits_deBruijn32tab), ("math/bits.deBruijn64tab", laid_math_bits_deBruijn64tab), ("internal/strconv.uint64pow10", laid_internal_strconv_uint64pow10), ("unicode/utf8.acceptRanges", laid_unicode_utf8_acceptRanges), ("unicode/utf8.first", laid_unicode_utf8_first)], narrowed := true }
def DatumWrittenUptoSaid : Prop := datumWrittenUptoRow.holds Tryd.pinned (OpenSpec.upto datumWrittenSpec)

/-- 'penstocklaw01.DatumLogic', WHERE WHAT IT READS IS OF BULK AT MOST 1048576: true; the input reads as it did. -/
def datumLogicUptoRow : OpenClaim := { program := "ytobgfegdfcpgfaadoor", sum := "ed0bc32f73aebec24df8cefe8962dfaa7ba97643ba617c9fabd5c14b70f63ab2", func := "penstock/penstocklaw01.DatumLogic", spec := "datumLogic", inPlace := ["internal/abi.NoEscape", "internal/bytealg.MakeNoZero"], unfollowed := true, recurses := true, named := ["unicode/utf8.first", "unicode/utf8.acceptRanges", "internal/strconv.uint64pow10", "math/bits.deBruijn32tab", "math/bits.deBruijn64tab"], apart := false, laid := [("math/bits.deBruijn32tab", laid_math_bits_deBruijn32tab), ("math/bits.deBruijn64tab", laid_math_bits_deBruijn64tab), ("internal/strconv.uint64pow10", laid_internal_strconv_uint64pow10), ("unicode/utf8.acceptRanges", laid_unicode_utf8_acceptRanges), ("unicode/utf8.first", laid_unicode_utf8_first)], narrowed := true }
def DatumLogicUptoSaid : Prop := datumLogicUptoRow.holds Tryd.pinned (OpenSpec.upto datumLogicSpec)

/-- 'penstocklaw01.DatumThree', WHERE WHAT IT READS IS OF BULK AT MOST 1048576: true; the input reads as it did. -/
def datumThreeUptoRow : OpenClaim := { program := "ytobgfegdfcpgfaadoor", sum := "ed0bc32f73aebec24df8cefe8962dfaa7ba97643ba617c9fabd5c14b70f63ab2", func := "penstock/penstocklaw01.DatumThree", spec := "datumThree", inPlace := ["internal/abi.NoEscape", "internal/bytealg.MakeNoZero"], unfollowed := true, recurses := true, named := ["unicode/utf8.first", "unicode/utf8.acceptRanges", "internal/strconv.uint64pow10", "math/bits.deBruijn32tab", "math/bits.deBruijn64tab"], apart := false, laid := [("math/bits.deBruijn32tab", laid_math_bits_deBruijn32tab), ("math/bits.deBruijn64tab", laid_math_bits_deBruijn64tab), ("internal/strconv.uint64pow10", laid_internal_strconv_uint64pow10), ("unicode/utf8.acceptRanges", laid_unicode_utf8_acceptRanges), ("unicode/utf8.first", laid_unicode_utf8_first)], narrowed := true }
def DatumThreeUptoSaid : Prop := datumThreeUptoRow.holds Tryd.pinned (OpenSpec.upto datumThreeSpec)

/-- 'penstocklaw01.DatumRing', WHERE WHAT IT READS IS OF BULK AT MOST 1048576: true; the input reads as it did. -/
def datumRingUptoRow : OpenClaim := { program := "ytobgfegdfcpgfaadoor", sum := "ed0bc32f73aebec24df8cefe8962dfaa7ba97643ba617c9fabd5c14b70f63ab2", func := "penstock/penstocklaw01.DatumRing", spec := "datumRing", inPlace := ["internal/abi.NoEscape", "internal/bytealg.MakeNoZero"], unfollowed := true, recurses := true, named := ["unicode/utf8.first", "unicode/utf8.acceptRanges", "internal/strconv.uint64pow10", "math/bits.deBruijn32tab", "math/bits.deBruijn64tab"], apart := false, laid := [("math/bits.deBruijn32tab", laid_math_bits_deBruijn32tab), ("math/bits.deBruijn64tab", laid_math_bits_deBruijn64tab), ("internal/strconv.uint64pow10", laid_internal_strconv_uint64pow10), ("unicode/utf8.acceptRanges", laid_unicode_utf8_acceptRanges), ("unicode/utf8.first", laid_unicode_utf8_first)], narrowed := true }
def DatumRingUptoSaid : Prop := datumRingUptoRow.holds Tryd.pinned (OpenSpec.upto datumRingSpec)

/-- 'penstocklaw01.DatumNumbers', WHERE WHAT IT READS IS OF BULK AT MOST 1048576: true; the input reads as it did. -/
def datumNumbersUptoRow : OpenClaim := { program := "ytobgfegdfcpgfaadoor", sum := "ed0bc32f73aebec24df8cefe8962dfaa7ba97643ba617c9fabd5c14b70f63ab2", func := "penstock/penstocklaw01.DatumNumbers", spec := "datumNumbers", inPlace := ["internal/abi.NoEscape", "internal/bytealg.MakeNoZero"], unfollowed := true, recurses := true, named := ["unicode/utf8.first", "unicode/utf8.acceptRanges", "internal/strconv.uint64pow10", "math/bits.deBruijn32tab", "math/bits.deBruijn64tab"], apart := false, laid := [("math/bits.deBruijn32tab", laid_math_bits_deBruijn32tab), ("math/bits.deBruijn64tab", laid_math_bits_deBruijn64tab), ("internal/strconv.uint64pow10", laid_internal_strconv_uint64pow10), ("unicode/utf8.acceptRanges", laid_unicode_utf8_acceptRanges), ("unicode/utf8.first", laid_unicode_utf8_first)], narrowed := true }
def DatumNumbersUptoSaid : Prop := datumNumbersUptoRow.holds Tryd.pinned (OpenSpec.upto datumNumbersSpec)

/-- 'penstocklaw01.DatumChecks', WHERE WHAT IT READS IS OF BULK AT MOST 1048576: true; the input reads as it did. -/
def datumChecksUptoRow : OpenClaim := { program := "ytobgfegdfcpgfaadoor", sum := "ed0bc32f73aebec24df8cefe8962dfaa7ba97643ba617c9fabd5c14b70f63ab2", func := "penstock/penstocklaw01.DatumChecks", spec := "datumChecks", inPlace := ["internal/abi.NoEscape", "internal/bytealg.MakeNoZero"], unfollowed := true, recurses := true, named := ["unicode/utf8.first", "unicode/utf8.acceptRanges", "internal/strconv.uint64pow10", "math/bits.deBruijn32tab", "math/bits.deBruijn64tab"], apart := false, laid := [("math/bits.deBruijn32tab", laid_math_bits_deBruijn32tab), ("math/bits.deBruijn64tab", laid_math_bits_deBruijn64tab), ("internal/strconv.uint64pow10", laid_internal_strconv_uint64pow10), ("unicode/utf8.acceptRanges", laid_unicode_utf8_acceptRanges), ("unicode/utf8.first", laid_unicode_utf8_first)], narrowed := true }
def DatumChecksUptoSaid : Prop := datumChecksUptoRow.holds Tryd.pinned (OpenSpec.upto datumChecksSpec)

/-- 'penstocklaw01.DatumOrder', WHERE WHAT IT READS IS OF BULK AT MOST 1048576: true; the input reads as it did. -/
def datumOrderUptoRow : OpenClaim := { program := "ytobgfegdfcpgfaadoor", sum := "ed0bc32f73aebec24df8cefe8962dfaa7ba97643ba617c9fabd5c14b70f63ab2", func := "penstock/penstocklaw01.DatumOrder", spec := "datumOrder", inPlace := ["internal/abi.NoEscape", "internal/bytealg.MakeNoZero"], unfollowed := true, recurses := true, named := ["unicode/utf8.first", "unicode/utf8.acceptRanges", "internal/strconv.uint64pow10", "math/bits.deBruijn32tab", "math/bits.deBruijn64tab"], apart := false, laid := [("math/bits.deBruijn32tab", laid_math_bits_deBruijn32tab), ("math/bits.deBruijn64tab", laid_math_bits_deBruijn64tab), ("internal/strconv.uint64pow10", laid_internal_strconv_uint64pow10), ("unicode/utf8.acceptRanges", laid_unicode_utf8_acceptRanges), ("unicode/utf8.first", laid_unicode_utf8_first)], narrowed := true }
def DatumOrderUptoSaid : Prop := datumOrderUptoRow.holds Tryd.pinned (OpenSpec.upto datumOrderSpec)

/-- 'penstocklaw01.DatumJoins', WHERE WHAT IT READS IS OF BULK AT MOST 1048576: true; the input reads as it did. -/
def datumJoinsUptoRow : OpenClaim := { program := "ytobgfegdfcpgfaadoor", sum := "ed0bc32f73aebec24df8cefe8962dfaa7ba97643ba617c9fabd5c14b70f63ab2", func := "penstock/penstocklaw01.DatumJoins", spec := "datumJoins", inPlace := ["internal/abi.NoEscape", "internal/bytealg.MakeNoZero"], unfollowed := true, recurses := true, named := ["unicode/utf8.first", "unicode/utf8.acceptRanges", "internal/strconv.uint64pow10", "math/bits.deBruijn32tab", "math/bits.deBruijn64tab"], apart := false, laid := [("math/bits.deBruijn32tab", laid_math_bits_deBruijn32tab), ("math/bits.deBruijn64tab", laid_math_bits_deBruijn64tab), ("internal/strconv.uint64pow10", laid_internal_strconv_uint64pow10), ("unicode/utf8.acceptRanges", laid_unicode_utf8_acceptRanges), ("unicode/utf8.first", laid_unicode_utf8_first)], narrowed := true }
def DatumJoinsUptoSaid : Prop := datumJoinsUptoRow.holds Tryd.pinned (OpenSpec.upto datumJoinsSpec)

/-- 'penstocklaw01.DatumSides', WHERE WHAT IT READS IS OF BULK AT MOST 1048576: true; the input reads as it did. -/
def datumSidesUptoRow : OpenClaim := { program := "ytobgfegdfcpgfaadoor", sum := "ed0bc32f73aebec24df8cefe8962dfaa7ba97643ba617c9fabd5c14b70f63ab2", func := "penstock/penstocklaw01.DatumSides", spec := "datumSides", inPlace := ["internal/abi.NoEscape", "internal/bytealg.MakeNoZero"], unfollowed := true, recurses := true, named := ["unicode/utf8.first", "unicode/utf8.acceptRanges", "internal/strconv.uint64pow10", "math/bits.deBruijn32tab", "math/bits.deBruijn64tab"], apart := false, laid := [("math/bits.deBruijn32tab", laid_math_bits_deBruijn32tab), ("math/bits.deBruijn64tab", laid_math_bits_deBruijn64tab), ("internal/strconv.uint64pow10", laid_internal_strconv_uint64pow10), ("unicode/utf8.acceptRanges", laid_unicode_utf8_acceptRanges), ("unicode/utf8.first", laid_unicode_utf8_first)], narrowed := true }
def DatumSidesUptoSaid : Prop := datumSidesUptoRow.holds Tryd.pinned (OpenSpec.upto datumSidesSpec)

/-- 'penstocklaw01.DatumTexts', WHERE WHAT IT READS IS OF BULK AT MOST 1048576: true; the input reads as it did. -/
def datumTextsUptoRow : OpenClaim := { program := "ytobgfegdfcpgfaadoor", sum := "ed0bc32f73aebec24df8cefe8962dfaa7ba97643ba617c9fabd5c14b70f63ab2", func := "penstock/penstocklaw01.DatumTexts", spec := "datumTexts", inPlace := ["internal/abi.NoEscape", "internal/bytealg.MakeNoZero"], unfollowed := true, recurses := true, named := ["unicode/utf8.first", "unicode/utf8.acceptRanges", "internal/strconv.uint64pow10", "math/bits.deBruijn32tab", "math/bits.deBruijn64tab"], apart := false, laid := [("math/bits.deBruijn32tab", laid_math_bits_deBruijn32tab), ("math/bits.deBruijn64tab", laid_math_bits_deBruijn64tab), ("internal/strconv.uint64pow10", laid_internal_strconv_uint64pow10), ("unicode/utf8.acceptRanges", laid_unicode_utf8_acceptRanges), ("unicode/utf8.first", laid_unicode_utf8_first)], narrowed := true }
def DatumTextsUptoSaid : Prop := datumTextsUptoRow.holds Tryd.pinned (OpenSpec.upto datumTextsSpec)

/-- 'penstocklaw01.DatumParses', WHERE WHAT IT READS IS OF BULK AT MOST 1048576: true; the input reads as it did. -/
def datumParsesUptoRow : OpenClaim := { program := "ytobgfegdfcpgfaadoor", sum := "ed0bc32f73aebec24df8cefe8962dfaa7ba97643ba617c9fabd5c14b70f63ab2", func := "penstock/penstocklaw01.DatumParses", spec := "datumParses", inPlace := ["internal/abi.NoEscape", "internal/bytealg.MakeNoZero"], unfollowed := true, recurses := true, named := ["strconv.ErrSyntax", "strconv.ErrRange", "internal/strconv.uint64pow10", "math/bits.deBruijn32tab", "math/bits.deBruijn64tab", "unicode/utf8.first", "unicode/utf8.acceptRanges"], apart := false, laid := [("math/bits.deBruijn32tab", laid_math_bits_deBruijn32tab), ("math/bits.deBruijn64tab", laid_math_bits_deBruijn64tab), ("internal/strconv.uint64pow10", laid_internal_strconv_uint64pow10), ("unicode/utf8.acceptRanges", laid_unicode_utf8_acceptRanges), ("strconv.ErrRange", laid_strconv_ErrRange), ("strconv.ErrSyntax", laid_strconv_ErrSyntax), ("unicode/utf8.first", laid_unicode_utf8_first)], narrowed := true }
def DatumParsesUptoSaid : Prop := datumParsesUptoRow.holds Tryd.pinned (OpenSpec.upto datumParsesSpec)

/-- 'penstocklaw01.DatumBack', WHERE WHAT IT READS IS OF BULK AT MOST 1048576: true; the input reads as it did. -/
def datumBackUptoRow : OpenClaim := { program := "ytobgfegdfcpgfaadoor", sum := "ed0bc32f73aebec24df8cefe8962dfaa7ba97643ba617c9fabd5c14b70f63ab2", func := "penstock/penstocklaw01.DatumBack", spec := "datumBack", inPlace := ["internal/abi.NoEscape", "internal/bytealg.MakeNoZero"], unfollowed := true, recurses := true, named := ["unicode/utf8.first", "unicode/utf8.acceptRanges", "internal/strconv.uint64pow10", "math/bits.deBruijn32tab", "math/bits.deBruijn64tab", "strconv.ErrSyntax", "strconv.ErrRange"], apart := false, laid := [("math/bits.deBruijn32tab", laid_math_bits_deBruijn32tab), ("math/bits.deBruijn64tab", laid_math_bits_deBruijn64tab), ("internal/strconv.uint64pow10", laid_internal_strconv_uint64pow10), ("unicode/utf8.acceptRanges", laid_unicode_utf8_acceptRanges), ("strconv.ErrRange", laid_strconv_ErrRange), ("strconv.ErrSyntax", laid_strconv_ErrSyntax), ("unicode/utf8.first", laid_unicode_utf8_first)], narrowed := true }
def DatumBackUptoSaid : Prop := datumBackUptoRow.holds Tryd.pinned (OpenSpec.upto datumBackSpec)

end Rows
end Go.Proofs.YtobgfegdfcpgfaaDoor
