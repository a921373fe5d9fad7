/-
  NARROWER THAN 'FOR EVERY INPUT', by the rows' own cells (each row's printed sentence says how): RowCmps: laid · RowSums: laid · RowOnce: laid · RowOrder: laid · RowBeginnings: laid · RowHashes: laid · RowDecodes: laid · RowKeeps: laid · RowChecks: laid · RowWritten: laid.
  DERIVED. THE GIVEN ROWS OF THIS SEAT. 10 by the template 'for every input the law returns true; each argument reads behind the call as it read before'; 0 by the template 'total and deterministic' (their statements: YtngeioghihbkeaaDoorTotals.lean).
  GIVEN WITH THE SEED: the statements are not yours to turn. If you find one false, say at which input.
  Laid BY PROGRAM, IN A SANDBOX (cutbox-rows.mjs): the forced cells as the released guide's own fill.sh prints them over the translation 47fc12f29b16717a… (all of the seat's roots in one cut). By AI agents, Wed Nov 11 2026. No macro, syntax, notation, axiom, sorry.
-/
import Derived.Test.YtngeioghihbkeaaDoorChecked
import GoSem.PinnedTables
import GoSem.Claim
import GoSem.ClaimJoined
import GoSem.ClaimMapViews
import Derived.JoinedTies
import Derived.KernelRfl
namespace Go.Proofs.YtngeioghihbkeaaDoor
/- THE CELL 'sum', in the pinned program and in every row, IS THE sha256 OF THE DUMP (.gsa) THAT YtngeioghihbkeaaDoorProg.lean LOADS. Nothing in Lean hashes anything: it is a label: what it is worth is what the hold of that sum in a sandbox is worth. -/
noncomputable def Tryd.pinned : Pinned := { name := "ytngeioghihbkeaadoor", sum := "47fc12f29b16717a22b6280e413122c2282f915d5c77b400884af6d5319873b3", checked := Tryd.checked }
namespace Rows
def none {H : Type} : Left H := { results := [], args := [] }

/- WHAT THE LISTED PACKAGE-LEVEL VARIABLES READ AS WHEN THE CALL BEGINS. Each datum BY PROGRAM (the guide's laid-datum.mjs) off the statement by which the dump's own 'gosem.cut.vars' lays the variable. In a bare row this is a premise. The card (YtngeioghihbkeaaDoorCards.lean) ties it to the program's text. -/
def laid_unicode_utf8_acceptRanges {H : Type} : DataW H := .agg [.agg [.lit (.int .u8 128), .lit (.int .u8 191)], .agg [.lit (.int .u8 160), .lit (.int .u8 191)], .agg [.lit (.int .u8 128), .lit (.int .u8 159)], .agg [.lit (.int .u8 144), .lit (.int .u8 191)], .agg [.lit (.int .u8 128), .lit (.int .u8 143)], .agg [.lit (.int .u8 0), .lit (.int .u8 0)], .agg [.lit (.int .u8 0), .lit (.int .u8 0)], .agg [.lit (.int .u8 0), .lit (.int .u8 0)], .agg [.lit (.int .u8 0), .lit (.int .u8 0)], .agg [.lit (.int .u8 0), .lit (.int .u8 0)], .agg [.lit (.int .u8 0), .lit (.int .u8 0)], .agg [.lit (.int .u8 0), .lit (.int .u8 0)], .agg [.lit (.int .u8 0), .lit (.int .u8 0)], .agg [.lit (.int .u8 0), .lit (.int .u8 0)], .agg [.lit (.int .u8 0), .lit (.int .u8 0)], .agg [.lit (.int .u8 0), .lit (.int .u8 0)]]
/-- One of Go's own tables, pinned by name: the form's constant. -/
def laid_unicode_utf8_first : DataW Unit := Go.Pinned.utf8First
def laid_math_bits_deBruijn32tab {H : Type} : DataW H := .agg [.lit (.int .u8 0), .lit (.int .u8 1), .lit (.int .u8 28), .lit (.int .u8 2), .lit (.int .u8 29), .lit (.int .u8 14), .lit (.int .u8 24), .lit (.int .u8 3), .lit (.int .u8 30), .lit (.int .u8 22), .lit (.int .u8 20), .lit (.int .u8 15), .lit (.int .u8 25), .lit (.int .u8 17), .lit (.int .u8 4), .lit (.int .u8 8), .lit (.int .u8 31), .lit (.int .u8 27), .lit (.int .u8 13), .lit (.int .u8 23), .lit (.int .u8 21), .lit (.int .u8 19), .lit (.int .u8 16), .lit (.int .u8 7), .lit (.int .u8 26), .lit (.int .u8 12), .lit (.int .u8 18), .lit (.int .u8 6), .lit (.int .u8 11), .lit (.int .u8 5), .lit (.int .u8 10), .lit (.int .u8 9)]
def laid_math_bits_deBruijn64tab {H : Type} : DataW H := .agg [.lit (.int .u8 0), .lit (.int .u8 1), .lit (.int .u8 56), .lit (.int .u8 2), .lit (.int .u8 57), .lit (.int .u8 49), .lit (.int .u8 28), .lit (.int .u8 3), .lit (.int .u8 61), .lit (.int .u8 58), .lit (.int .u8 42), .lit (.int .u8 50), .lit (.int .u8 38), .lit (.int .u8 29), .lit (.int .u8 17), .lit (.int .u8 4), .lit (.int .u8 62), .lit (.int .u8 47), .lit (.int .u8 59), .lit (.int .u8 36), .lit (.int .u8 45), .lit (.int .u8 43), .lit (.int .u8 51), .lit (.int .u8 22), .lit (.int .u8 53), .lit (.int .u8 39), .lit (.int .u8 33), .lit (.int .u8 30), .lit (.int .u8 24), .lit (.int .u8 18), .lit (.int .u8 12), .lit (.int .u8 5), .lit (.int .u8 63), .lit (.int .u8 55), .lit (.int .u8 48), .lit (.int .u8 27), .lit (.int .u8 60), .lit (.int .u8 41), .lit (.int .u8 37), .lit (.int .u8 16), .lit (.int .u8 46), .lit (.int .u8 35), .lit (.int .u8 44), .lit (.int .u8 21), .lit (.int .u8 52), .lit (.int .u8 32), .lit (.int .u8 23), .lit (.int .u8 11), .lit (.int .u8 54), .lit (.int .u8 26), .lit (.int .u8 40), .lit (.int .u8 15), .lit (.int .u8 34), .lit (.int .u8 20), .lit (.int .u8 31), .lit (.int .u8 10), .lit (.int .u8 25), .lit (.int .u8 14), .lit (.int .u8 19), .lit (.int .u8 9), .lit (.int .u8 13), .lit (.int .u8 8), .lit (.int .u8 7), .lit (.int .u8 6)]
def laid_internal_strconv_uint64pow10 {H : Type} : DataW H := .agg [.lit (.int .u64 1), .lit (.int .u64 10), .lit (.int .u64 100), .lit (.int .u64 1000), .lit (.int .u64 10000), .lit (.int .u64 100000), .lit (.int .u64 1000000), .lit (.int .u64 10000000), .lit (.int .u64 100000000), .lit (.int .u64 1000000000), .lit (.int .u64 10000000000), .lit (.int .u64 100000000000), .lit (.int .u64 1000000000000), .lit (.int .u64 10000000000000), .lit (.int .u64 100000000000000), .lit (.int .u64 1000000000000000), .lit (.int .u64 10000000000000000), .lit (.int .u64 100000000000000000), .lit (.int .u64 1000000000000000000), .lit (.int .u64 10000000000000000000)]
def laid_strconv_ErrRange {H : Type} : DataW H := .iface "*errors.errorString" (.ptr (.agg [.lit (.string [118, 97, 108, 117, 101, 32, 111, 117, 116, 32, 111, 102, 32, 114, 97, 110, 103, 101])]))
def laid_strconv_ErrSyntax {H : Type} : DataW H := .iface "*errors.errorString" (.ptr (.agg [.lit (.string [105, 110, 118, 97, 108, 105, 100, 32, 115, 121, 110, 116, 97, 120])]))

/-- 'penstocklaw02.RowCmps': WHATEVER THE INPUT: true; the input reads as it did. -/
def rowCmpsSpec : ChangeSpec := { name := "rowCmps", fn := fun _ => fun
  | [d1, d2] => { results := [.lit (.bool true)], args := [d1, d2] }
  | _ => none }
def rowCmpsRow : OpenClaim := { program := "ytngeioghihbkeaadoor", sum := "47fc12f29b16717a22b6280e413122c2282f915d5c77b400884af6d5319873b3", func := "penstock/penstocklaw02.RowCmps", spec := "rowCmps", unfollowed := true, recurses := true, named := ["unicode/utf8.first", "unicode/utf8.acceptRanges"], apart := false, laid := [("unicode/utf8.acceptRanges", laid_unicode_utf8_acceptRanges), ("unicode/utf8.first", laid_unicode_utf8_first)] }
def RowCmpsSaid : Prop := rowCmpsRow.holds Tryd.pinned (OpenSpec.ofChange rowCmpsSpec)

/-- ITS FALSE NEIGHBOUR: 'it returns false'. Refute it at one input. -/
def rowCmpsWrong : ChangeSpec := { name := "rowCmps", fn := fun _ => fun
  | [d1, d2] => { results := [.lit (.bool false)], args := [d1, d2] }
  | _ => none }
def RowCmpsWrongFalsely : Prop := rowCmpsRow.holds Tryd.pinned (OpenSpec.ofChange rowCmpsWrong)

/-- 'penstocklaw02.RowSums': WHATEVER THE INPUT: true; the input reads as it did. -/
def rowSumsSpec : ChangeSpec := { name := "rowSums", fn := fun _ => fun
  | [d] => { results := [.lit (.bool true)], args := [d] }
  | _ => none }
def rowSumsRow : OpenClaim := { program := "ytngeioghihbkeaadoor", sum := "47fc12f29b16717a22b6280e413122c2282f915d5c77b400884af6d5319873b3", func := "penstock/penstocklaw02.RowSums", spec := "rowSums", unfollowed := true, recurses := true, named := ["unicode/utf8.first", "unicode/utf8.acceptRanges"], apart := false, laid := [("unicode/utf8.acceptRanges", laid_unicode_utf8_acceptRanges), ("unicode/utf8.first", laid_unicode_utf8_first)] }
def RowSumsSaid : Prop := rowSumsRow.holds Tryd.pinned (OpenSpec.ofChange rowSumsSpec)

/-- ITS FALSE NEIGHBOUR: 'it returns false'. Refute it at one input. -/
def rowSumsWrong : ChangeSpec := { name := "rowSums", fn := fun _ => fun
  | [d] => { results := [.lit (.bool false)], args := [d] }
  | _ => none }
def RowSumsWrongFalsely : Prop := rowSumsRow.holds Tryd.pinned (OpenSpec.ofChange rowSumsWrong)

/-- 'penstocklaw02.RowOnce': WHATEVER THE INPUT: true; the input reads as it did. -/
def rowOnceSpec : ChangeSpec := { name := "rowOnce", fn := fun _ => fun
  | [d1, d2, d3] => { results := [.lit (.bool true)], args := [d1, d2, d3] }
  | _ => none }
def rowOnceRow : OpenClaim := { program := "ytngeioghihbkeaadoor", sum := "47fc12f29b16717a22b6280e413122c2282f915d5c77b400884af6d5319873b3", func := "penstock/penstocklaw02.RowOnce", spec := "rowOnce", unfollowed := true, recurses := true, named := ["unicode/utf8.first", "unicode/utf8.acceptRanges"], apart := false, laid := [("unicode/utf8.acceptRanges", laid_unicode_utf8_acceptRanges), ("unicode/utf8.first", laid_unicode_utf8_first)] }
def RowOnceSaid : Prop := rowOnceRow.holds Tryd.pinned (OpenSpec.ofChange rowOnceSpec)

/-- ITS FALSE NEIGHBOUR: 'it returns false'. Refute it at one input. -/
def rowOnceWrong : ChangeSpec := { name := "rowOnce", fn := fun _ => fun
  | [d1, d2, d3] => { results := [.lit (.bool false)], args := [d1, d2, d3] }
  | _ => none }
def RowOnceWrongFalsely : Prop := rowOnceRow.holds Tryd.pinned (OpenSpec.ofChange rowOnceWrong)

/-- 'penstocklaw02.RowOrder': WHATEVER THE INPUT: true; the input reads as it did. -/
def rowOrderSpec : ChangeSpec := { name := "rowOrder", fn := fun _ => fun
  | [d1, d2, d3] => { results := [.lit (.bool true)], args := [d1, d2, d3] }
  | _ => none }
def rowOrderRow : OpenClaim := { program := "ytngeioghihbkeaadoor", sum := "47fc12f29b16717a22b6280e413122c2282f915d5c77b400884af6d5319873b3", func := "penstock/penstocklaw02.RowOrder", spec := "rowOrder", unfollowed := true, recurses := true, named := ["unicode/utf8.first", "unicode/utf8.acceptRanges"], apart := false, laid := [("unicode/utf8.acceptRanges", laid_unicode_utf8_acceptRanges), ("unicode/utf8.first", laid_unicode_utf8_first)] }
def RowOrderSaid : Prop := rowOrderRow.holds Tryd.pinned (OpenSpec.ofChange rowOrderSpec)

/-- ITS FALSE NEIGHBOUR: 'it returns false'. Refute it at one input. -/
def rowOrderWrong : ChangeSpec := { name := "rowOrder", fn := fun _ => fun
  | [d1, d2, d3] => { results := [.lit (.bool false)], args := [d1, d2, d3] }
  | _ => none }
def RowOrderWrongFalsely : Prop := rowOrderRow.holds Tryd.pinned (OpenSpec.ofChange rowOrderWrong)

/-- 'penstocklaw02.RowBeginnings': WHATEVER THE INPUT: true; the input reads as it did. -/
def rowBeginningsSpec : ChangeSpec := { name := "rowBeginnings", fn := fun _ => fun
  | [d1, d2] => { results := [.lit (.bool true)], args := [d1, d2] }
  | _ => none }
def rowBeginningsRow : OpenClaim := { program := "ytngeioghihbkeaadoor", sum := "47fc12f29b16717a22b6280e413122c2282f915d5c77b400884af6d5319873b3", func := "penstock/penstocklaw02.RowBeginnings", spec := "rowBeginnings", unfollowed := true, recurses := true, named := ["unicode/utf8.first", "unicode/utf8.acceptRanges"], apart := false, laid := [("unicode/utf8.acceptRanges", laid_unicode_utf8_acceptRanges), ("unicode/utf8.first", laid_unicode_utf8_first)] }
def RowBeginningsSaid : Prop := rowBeginningsRow.holds Tryd.pinned (OpenSpec.ofChange rowBeginningsSpec)

/-- ITS FALSE NEIGHBOUR: 'it returns false'. Refute it at one input. -/
def rowBeginningsWrong : ChangeSpec := { name := "rowBeginnings", fn := fun _ => fun
  | [d1, d2] => { results := [.lit (.bool false)], args := [d1, d2] }
  | _ => none }
def RowBeginningsWrongFalsely : Prop := rowBeginningsRow.holds Tryd.pinned (OpenSpec.ofChange rowBeginningsWrong)

/-- 'penstocklaw02.RowHashes': WHATEVER THE INPUT: true; the input reads as it did. -/
def rowHashesSpec : ChangeSpec := { name := "rowHashes", fn := fun _ => fun
  | [d1, d2, d3] => { results := [.lit (.bool true)], args := [d1, d2, d3] }
  | _ => none }
def rowHashesRow : OpenClaim := { program := "ytngeioghihbkeaadoor", sum := "47fc12f29b16717a22b6280e413122c2282f915d5c77b400884af6d5319873b3", func := "penstock/penstocklaw02.RowHashes", spec := "rowHashes", unfollowed := true, recurses := true, named := ["unicode/utf8.first", "unicode/utf8.acceptRanges"], apart := false, laid := [("unicode/utf8.acceptRanges", laid_unicode_utf8_acceptRanges), ("unicode/utf8.first", laid_unicode_utf8_first)] }
def RowHashesSaid : Prop := rowHashesRow.holds Tryd.pinned (OpenSpec.ofChange rowHashesSpec)

/-- ITS FALSE NEIGHBOUR: 'it returns false'. Refute it at one input. -/
def rowHashesWrong : ChangeSpec := { name := "rowHashes", fn := fun _ => fun
  | [d1, d2, d3] => { results := [.lit (.bool false)], args := [d1, d2, d3] }
  | _ => none }
def RowHashesWrongFalsely : Prop := rowHashesRow.holds Tryd.pinned (OpenSpec.ofChange rowHashesWrong)

/-- 'penstocklaw02.RowDecodes': WHATEVER THE INPUT: true; the input reads as it did. -/
def rowDecodesSpec : ChangeSpec := { name := "rowDecodes", fn := fun _ => fun
  | [d] => { results := [.lit (.bool true)], args := [d] }
  | _ => none }
def rowDecodesRow : OpenClaim := { program := "ytngeioghihbkeaadoor", sum := "47fc12f29b16717a22b6280e413122c2282f915d5c77b400884af6d5319873b3", func := "penstock/penstocklaw02.RowDecodes", spec := "rowDecodes", inPlace := ["internal/bytealg.IndexByte", "internal/abi.NoEscape"], unfollowed := true, recurses := true, named := ["unicode/utf8.first", "unicode/utf8.acceptRanges"], apart := false, laid := [("unicode/utf8.acceptRanges", laid_unicode_utf8_acceptRanges), ("unicode/utf8.first", laid_unicode_utf8_first)] }
def RowDecodesSaid : Prop := rowDecodesRow.holds Tryd.pinned (OpenSpec.ofChange rowDecodesSpec)

/-- ITS FALSE NEIGHBOUR: 'it returns false'. Refute it at one input. -/
def rowDecodesWrong : ChangeSpec := { name := "rowDecodes", fn := fun _ => fun
  | [d] => { results := [.lit (.bool false)], args := [d] }
  | _ => none }
def RowDecodesWrongFalsely : Prop := rowDecodesRow.holds Tryd.pinned (OpenSpec.ofChange rowDecodesWrong)

/-- 'penstocklaw02.RowKeeps': WHATEVER THE INPUT: true; the input reads as it did. -/
def rowKeepsSpec : ChangeSpec := { name := "rowKeeps", fn := fun _ => fun
  | [d1, d2, d3] => { results := [.lit (.bool true)], args := [d1, d2, d3] }
  | _ => none }
def rowKeepsRow : OpenClaim := { program := "ytngeioghihbkeaadoor", sum := "47fc12f29b16717a22b6280e413122c2282f915d5c77b400884af6d5319873b3", func := "penstock/penstocklaw02.RowKeeps", spec := "rowKeeps", inPlace := ["internal/bytealg.IndexByte", "internal/abi.NoEscape"], unfollowed := true, recurses := true, named := ["unicode/utf8.first", "unicode/utf8.acceptRanges"], apart := false, laid := [("unicode/utf8.acceptRanges", laid_unicode_utf8_acceptRanges), ("unicode/utf8.first", laid_unicode_utf8_first)] }
def RowKeepsSaid : Prop := rowKeepsRow.holds Tryd.pinned (OpenSpec.ofChange rowKeepsSpec)

/-- ITS FALSE NEIGHBOUR: 'it returns false'. Refute it at one input. -/
def rowKeepsWrong : ChangeSpec := { name := "rowKeeps", fn := fun _ => fun
  | [d1, d2, d3] => { results := [.lit (.bool false)], args := [d1, d2, d3] }
  | _ => none }
def RowKeepsWrongFalsely : Prop := rowKeepsRow.holds Tryd.pinned (OpenSpec.ofChange rowKeepsWrong)

/-- 'penstocklaw02.RowChecks': WHATEVER THE INPUT: true; the input reads as it did. -/
def rowChecksSpec : ChangeSpec := { name := "rowChecks", fn := fun _ => fun
  | [d1, d2] => { results := [.lit (.bool true)], args := [d1, d2] }
  | _ => none }
def rowChecksRow : OpenClaim := { program := "ytngeioghihbkeaadoor", sum := "47fc12f29b16717a22b6280e413122c2282f915d5c77b400884af6d5319873b3", func := "penstock/penstocklaw02.RowChecks", spec := "rowChecks", inPlace := ["internal/abi.NoEscape", "internal/bytealg.MakeNoZero"], unfollowed := true, recurses := true, named := ["unicode/utf8.first", "unicode/utf8.acceptRanges", "internal/strconv.uint64pow10", "math/bits.deBruijn32tab", "math/bits.deBruijn64tab"], apart := false, laid := [("math/bits.deBruijn32tab", laid_math_bits_deBruijn32tab), ("math/bits.deBruijn64tab", laid_math_bits_deBruijn64tab), ("internal/strconv.uint64pow10", laid_internal_strconv_uint64pow10), ("unicode/utf8.acceptRanges", laid_unicode_utf8_acceptRanges), ("unicode/utf8.first", laid_unicode_utf8_first)] }
def RowChecksSaid : Prop := rowChecksRow.holds Tryd.pinned (OpenSpec.ofChange rowChecksSpec)

/-- ITS FALSE NEIGHBOUR: 'it returns false'. Refute it at one input. -/
def rowChecksWrong : ChangeSpec := { name := "rowChecks", fn := fun _ => fun
  | [d1, d2] => { results := [.lit (.bool false)], args := [d1, d2] }
  | _ => none }
def RowChecksWrongFalsely : Prop := rowChecksRow.holds Tryd.pinned (OpenSpec.ofChange rowChecksWrong)

/-- 'penstocklaw02.RowWritten': WHATEVER THE INPUT: true; the input reads as it did. -/
def rowWrittenSpec : ChangeSpec := { name := "rowWritten", fn := fun _ => fun
  | [d1, d2] => { results := [.lit (.bool true)], args := [d1, d2] }
  | _ => none }
def rowWrittenRow : OpenClaim := { program := "ytngeioghihbkeaadoor", sum := "47fc12f29b16717a22b6280e413122c2282f915d5c77b400884af6d5319873b3", func := "penstock/penstocklaw02.RowWritten", spec := "rowWritten", inPlace := ["internal/abi.NoEscape", "internal/bytealg.MakeNoZero"], unfollowed := true, recurses := true, named := ["unicode/utf8.first", "unicode/utf8.acceptRanges", "internal/strconv.uint64pow10", "math/bits.deBruijn32tab", "math/bits.deBruijn64tab", "strconv.ErrSyntax", "strconv.ErrRange"], apart := false, laid := [("math/bits.deBruijn32tab", laid_math_bits_deBruijn32tab), ("math/bits.deBruijn64tab", laid_math_bits_deBruijn64tab), ("internal/strconv.uint64pow10", laid_internal_strconv_uint64pow10), ("unicode/utf8.acceptRanges", laid_unicode_utf8_acceptRanges), ("strconv.ErrRange", laid_strconv_ErrRange), ("strconv.ErrSyntax", laid_strconv_ErrSyntax), ("unicode/utf8.first", laid_unicode_utf8_first)] }
def RowWrittenSaid : Prop := rowWrittenRow.holds Tryd.pinned (OpenSpec.ofChange rowWrittenSpec)

/-- ITS FALSE NEIGHBOUR: 'it returns false'. Refute it at one input. -/
def rowWrittenWrong : ChangeSpec := { name := "rowWritten", fn := fun _ => fun
  | [d1, d2] => { results := [.lit (.bool false)], args := [d1, d2] }
  | _ => none }
def RowWrittenWrongFalsely : Prop := rowWrittenRow.holds Tryd.pinned (OpenSpec.ofChange rowWrittenWrong)

/- THE SECOND FORM. 'bulk': how many values and letters a reading holds, each counted each time it is reached (what is shared counts as often as it is met; a slice's spare places count too). A statement '..UptoSaid' is the law's where the arguments, and the package variables that the reading takes, are together of bulk at most 1048576: NARROWER than '..Said'. Prove '..Said' where nothing that the law and all that it calls make is longer than what came in: it says more and counts as full. Else prove '..UptoSaid'. A law counts once. -/
mutual
def uptoBulk {H : Type} : DataW H → Nat
  | .lit (.string bytes) => bytes.length + 1
  | .lit _ => 1
  | .nil => 1
  | .ptr d => uptoBulk d + 1
  | .slice elems spare => uptoBulkAll elems + uptoBulkAll spare + 1
  | .agg parts => uptoBulkAll parts + 1
  | .iface _ d => uptoBulk d + 1
  | .map entries => uptoBulkEntries entries + 1
  | .held _ => 1
def uptoBulkAll {H : Type} : List (DataW H) → Nat
  | [] => 0
  | d :: r => uptoBulk d + uptoBulkAll r
def uptoBulkEntries {H : Type} : List (Lit × DataW H) → Nat
  | [] => 0
  | x :: r => uptoBulkEntry x + uptoBulkEntries r
def uptoBulkEntry {H : Type} : Lit × DataW H → Nat
  | (.string bytes, d) => bytes.length + uptoBulk d + 1
  | (_, d) => uptoBulk d + 1
 end
def uptoSmall : (H : Type) → List (DataW H) → Bool := fun _ ds => decide (uptoBulkAll ds ≤ 1048576)
def OpenSpec.upto (s : _root_.Go.ChangeSpec) : _root_.Go.OpenSpec := { _root_.Go.OpenSpec.ofChange s with cond := some uptoSmall }

/-- 'penstocklaw02.RowCmps', WHERE WHAT IT READS IS OF BULK AT MOST 1048576: true; the input reads as it did. -/
def rowCmpsUptoRow : OpenClaim := { program := "ytngeioghihbkeaadoor", sum := "47fc12f29b16717a22b6280e413122c2282f915d5c77b400884af6d5319873b3", func := "penstock/penstocklaw02.RowCmps", spec := "rowCmps", unfollowed := true, recurses := true, named := ["unicode/utf8.first", "unicode/utf8.acceptRanges"], apart := false, laid := [("unicode/utf8.acceptRanges", laid_unicode_utf8_acceptRanges), ("unicode/utf8.first", laid_unicode_utf8_first)], narrowed := true }
def RowCmpsUptoSaid : Prop := rowCmpsUptoRow.holds Tryd.pinned (OpenSpec.upto rowCmpsSpec)

/-- 'penstocklaw02.RowSums', WHERE WHAT IT READS IS OF BULK AT MOST 1048576: true; the input reads as it did. -/
def rowSumsUptoRow : OpenClaim := { program := "ytngeioghihbkeaadoor", sum := "47fc12f29b16717a22b6280e413122c2282f915d5c77b400884af6d5319873b3", func := "penstock/penstocklaw02.RowSums", spec := "rowSums", unfollowed := true, recurses := true, named := ["unicode/utf8.first", "unicode/utf8.acceptRanges"], apart := false, laid := [("unicode/utf8.acceptRanges", laid_unicode_utf8_acceptRanges), ("unicode/utf8.first", laid_unicode_utf8_first)], narrowed := true }
def RowSumsUptoSaid : Prop := rowSumsUptoRow.holds Tryd.pinned (OpenSpec.upto rowSumsSpec)

/-- 'penstocklaw02.RowOnce', WHERE WHAT IT READS IS OF BULK AT MOST 1048576: true; the input reads as it did. -/
def rowOnceUptoRow : OpenClaim := { program := "ytngeioghihbkeaadoor", sum := "47fc12f29b16717a22b6280e413122c2282f915d5c77b400884af6d5319873b3", func := "penstock/penstocklaw02.RowOnce", spec := "rowOnce", unfollowed := true, recurses := true, named := ["unicode/utf8.first", "unicode/utf8.acceptRanges"], apart := false, laid := [("unicode/utf8.acceptRanges", laid_unicode_utf8_acceptRanges), ("unicode/utf8.first", laid_unicode_utf8_first)], narrowed := true }
def RowOnceUptoSaid : Prop := rowOnceUptoRow.holds Tryd.pinned (OpenSpec.upto rowOnceSpec)

/-- 'penstocklaw02.RowOrder', WHERE WHAT IT READS IS OF BULK AT MOST 1048576: true; the input reads as it did. -/
def rowOrderUptoRow : OpenClaim := { program := "ytngeioghihbkeaadoor", sum := "47fc12f29b16717a22b6280e413122c2282f915d5c77b400884af6d5319873b3", func := "penstock/penstocklaw02.RowOrder", spec := "rowOrder", unfollowed := true, recurses := true, named := ["unicode/utf8.first", "unicode/utf8.acceptRanges"], apart := false, laid := [("unicode/utf8.acceptRanges", laid_unicode_utf8_acceptRanges), ("unicode/utf8.first", laid_unicode_utf8_first)], narrowed := true }
def RowOrderUptoSaid : Prop := rowOrderUptoRow.holds Tryd.pinned (OpenSpec.upto rowOrderSpec)

/-- 'penstocklaw02.RowBeginnings', WHERE WHAT IT READS IS OF BULK AT MOST 1048576: true; the input reads as it did. -/
def rowBeginningsUptoRow : OpenClaim := { program := "ytngeioghihbkeaadoor", sum := "47fc12f29b16717a22b6280e413122c2282f915d5c77b400884af6d5319873b3", func := "penstock/penstocklaw02.RowBeginnings", spec := "rowBeginnings", unfollowed := true, recurses := true, named := ["unicode/utf8.first", "unicode/utf8.acceptRanges"], apart := false, laid := [("unicode/utf8.acceptRanges", laid_unicode_utf8_acceptRanges), ("unicode/utf8.first", laid_unicode_utf8_first)], narrowed := true }
def RowBeginningsUptoSaid : Prop := rowBeginningsUptoRow.holds Tryd.pinned (OpenSpec.upto rowBeginningsSpec)

/-- 'penstocklaw02.RowHashes', WHERE WHAT IT READS IS OF BULK AT MOST 1048576: true; the input reads as it did. -/
def rowHashesUptoRow : OpenClaim := { program := "ytngeioghihbkeaadoor", sum := "47fc12f29b16717a22b6280e413122c2282f915d5c77b400884af6d5319873b3", func := "penstock/penstocklaw02.RowHashes", spec := "rowHashes", unfollowed := true, recurses := true, named := ["unicode/utf8.first", "unicode/utf8.acceptRanges"], apart := false, laid := [("unicode/utf8.acceptRanges", laid_unicode_utf8_acceptRanges), ("unicode/utf8.first", laid_unicode_utf8_first)], narrowed := true }
def RowHashesUptoSaid : Prop := rowHashesUptoRow.holds Tryd.pinned (OpenSpec.upto rowHashesSpec)

/-- 'penstocklaw02.RowDecodes', WHERE WHAT IT READS IS OF BULK AT MOST 1048576: true; the input reads as it did. -/
def rowDecodesUptoRow : OpenClaim := { program := "ytngeioghihbkeaadoor", sum := "47fc12f29b16717a22b6280e413122c2282f915d5c77b400884af6d5319873b3", func := "penstock/penstocklaw02.RowDecodes", spec := "rowDecodes", inPlace := ["internal/bytealg.IndexByte", "internal/abi.NoEscape"], unfollowed := true, recurses := true, named := ["unicode/utf8.first", "unicode/utf8.acceptRanges"], apart := false, laid := [("unicode/utf8.acceptRanges", laid_unicode_utf8_acceptRanges), ("unicode/utf8.first", laid_unicode_utf8_first)], narrowed := true }
def RowDecodesUptoSaid : Prop := rowDecodesUptoRow.holds Tryd.pinned (OpenSpec.upto rowDecodesSpec)

/-- 'penstocklaw02.RowKeeps', WHERE WHAT IT READS IS OF BULK AT MOST 1048576: true; the input reads as it did. -/
def rowKeepsUptoRow : OpenClaim := { program := "ytngeioghihbkeaadoor", sum := "47fc12f29b16717a22b6280e413122c2282f915d5c77b400884af6d5319873b3", func := "penstock/penstocklaw02.RowKeeps", spec := "rowKeeps", inPlace := ["internal/bytealg.IndexByte", "internal/abi.NoEscape"], unfollowed := true, recurses := true, named := ["unicode/utf8.first", "unicode/utf8.acceptRanges"], apart := false, laid := [("unicode/utf8.acceptRanges", laid_unicode_utf8_acceptRanges), ("unicode/utf8.first", laid_unicode_utf8_first)], narrowed := true }
def RowKeepsUptoSaid : Prop := rowKeepsUptoRow.holds Tryd.pinned (OpenSpec.upto rowKeepsSpec)

/-- 'penstocklaw02.RowChecks', WHERE WHAT IT READS IS OF BULK AT MOST 1048576: true; the input reads as it did. -/
def rowChecksUptoRow : OpenClaim := { program := "ytngeioghihbkeaadoor", sum := "47fc12f29b16717a22b6280e413122c2282f915d5c77b400884af6d5319873b3", func := "penstock/penstocklaw02.RowChecks", spec := "rowChecks", inPlace := ["internal/abi.NoEscape", "internal/bytealg.MakeNoZero"], unfollowed := true, recurses := true, named := ["unicode/utf8.first", "unicode/utf8.acceptRanges", "internal/strconv.uint64pow10", "math/bits.deBruijn32tab", "math/bits.deBruijn64tab"], apart := false, laid := [("math/bits.deBruijn32tab", laid_math_bits_deBruijn32tab), ("math/bits.deBruijn64tab", laid_math_bits_deBruijn64tab), ("internal/strconv.uint64pow10", laid_internal_strconv_uint64pow10), ("unicode/utf8.acceptRanges", laid_unicode_utf8_acceptRanges), ("unicode/utf8.first", laid_unicode_utf8_first)], narrowed := true }
def RowChecksUptoSaid : Prop := rowChecksUptoRow.holds Tryd.pinned (OpenSpec.upto rowChecksSpec)

/-- 'penstocklaw02.RowWritten', WHERE WHAT IT READS IS OF BULK AT MOST 1048576: true; the input reads as it did. -/
def rowWrittenUptoRow : OpenClaim := { program := "ytngeioghihbkeaadoor", sum := "47fc12f29b16717a22b6280e413122c2282f915d5c77b400884af6d5319873b3", func := "penstock/penstocklaw02.RowWritten", spec := "rowWritten", inPlace := ["internal/abi.NoEscape", "internal/bytealg.MakeNoZero"], unfollowed := true, recurses := true, named := ["unicode/utf8.first", "unicode/utf8.acceptRanges", "internal/strconv.uint64pow10", "math/bits.deBruijn32tab", "math/bits.deBruijn64tab", "strconv.ErrSyntax", "strconv.ErrRange"], apart := false, laid := [("math/bits.deBruijn32tab", laid_math_bits_deBruijn32tab), ("math/bits.deBruijn64tab", laid_math_bits_deBruijn64tab), ("internal/strconv.uint64pow10", laid_internal_strconv_uint64pow10), ("unicode/utf8.acceptRanges", laid_unicode_utf8_acceptRanges), ("strconv.ErrRange", laid_strconv_ErrRange), ("strconv.ErrSyntax", laid_strconv_ErrSyntax), ("unicode/utf8.first", laid_unicode_utf8_first)], narrowed := true }
def RowWrittenUptoSaid : Prop := rowWrittenUptoRow.holds Tryd.pinned (OpenSpec.upto rowWrittenSpec)

end Rows
end Go.Proofs.YtngeioghihbkeaaDoor
