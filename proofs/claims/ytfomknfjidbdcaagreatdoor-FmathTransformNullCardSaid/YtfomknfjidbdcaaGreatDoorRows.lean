/-
  NARROWER THAN 'FOR EVERY INPUT', by the rows' own cells (each row's printed sentence says how): FmathAbsolute: laid · FmathInvert: laid · FmathIsNonNull: laid · FmathMinMax: laid · FmathNegate: laid · FmathOffset: laid · FmathOffsetToZero: laid · FmathPow: laid · FmathRemoveAboveValue: laid · FmathRemoveBelowValue: laid · FmathRound: laid · FmathScale: laid · FmathScaleToSeconds: laid · FmathSign: laid · FmathSquareRoot: laid · FmathTransformNull: laid · FmathOthers: laid.
  DERIVED. THE GIVEN ROWS OF THIS SEAT. 17 by the template 'for every input the law returns true; each argument reads behind the call as it read before'; 0 by the template 'total and deterministic' (their statements: YtfomknfjidbdcaaGreatDoorTotals.lean).
  GIVEN WITH THE SEED: the statements are not yours to turn. If you find one false, say at which input.
  Laid BY PROGRAM, IN A SANDBOX (cutbox-rows.mjs): the forced cells as the released guide's own fill.sh prints them over the translation 2f21bfa25203aeec… (all of the seat's roots in one cut). By AI agents, Wed Nov 11 2026. No macro, syntax, notation, axiom, sorry.
-/
import Derived.Test.YtfomknfjidbdcaaGreatDoorChecked
import GoSem.PinnedTables
import GoSem.Claim
import GoSem.ClaimJoined
import GoSem.ClaimMapViews
import Derived.JoinedTies
import Derived.KernelRfl
namespace Go.Proofs.YtfomknfjidbdcaaGreatDoor
/- THE CELL 'sum', in the pinned program and in every row, IS THE sha256 OF THE DUMP (.gsa) THAT YtfomknfjidbdcaaGreatDoorProg.lean LOADS. Nothing in Lean hashes anything: it is a label: what it is worth is what the hold of that sum in a sandbox is worth. -/
noncomputable def Tryz.pinned : Pinned := { name := "ytfomknfjidbdcaagreatdoor", sum := "2f21bfa25203aeeca8a62068111d914e48d4d251e50eca7f32cb79fb9cf7d250", checked := Tryz.checked }
namespace Rows
def none {H : Type} : Left H := { results := [], args := [] }

/- WHAT THE LISTED PACKAGE-LEVEL VARIABLES READ AS WHEN THE CALL BEGINS. Each datum BY PROGRAM (the guide's laid-datum.mjs) off the statement by which the dump's own 'gosem.cut.vars' lays the variable. In a bare row this is a premise. The card (YtfomknfjidbdcaaGreatDoorCards.lean) ties it to the program's text. -/
def laid_math_bits_deBruijn32tab {H : Type} : DataW H := .agg [.lit (.int .u8 0), .lit (.int .u8 1), .lit (.int .u8 28), .lit (.int .u8 2), .lit (.int .u8 29), .lit (.int .u8 14), .lit (.int .u8 24), .lit (.int .u8 3), .lit (.int .u8 30), .lit (.int .u8 22), .lit (.int .u8 20), .lit (.int .u8 15), .lit (.int .u8 25), .lit (.int .u8 17), .lit (.int .u8 4), .lit (.int .u8 8), .lit (.int .u8 31), .lit (.int .u8 27), .lit (.int .u8 13), .lit (.int .u8 23), .lit (.int .u8 21), .lit (.int .u8 19), .lit (.int .u8 16), .lit (.int .u8 7), .lit (.int .u8 26), .lit (.int .u8 12), .lit (.int .u8 18), .lit (.int .u8 6), .lit (.int .u8 11), .lit (.int .u8 5), .lit (.int .u8 10), .lit (.int .u8 9)]
def laid_math_bits_deBruijn64tab {H : Type} : DataW H := .agg [.lit (.int .u8 0), .lit (.int .u8 1), .lit (.int .u8 56), .lit (.int .u8 2), .lit (.int .u8 57), .lit (.int .u8 49), .lit (.int .u8 28), .lit (.int .u8 3), .lit (.int .u8 61), .lit (.int .u8 58), .lit (.int .u8 42), .lit (.int .u8 50), .lit (.int .u8 38), .lit (.int .u8 29), .lit (.int .u8 17), .lit (.int .u8 4), .lit (.int .u8 62), .lit (.int .u8 47), .lit (.int .u8 59), .lit (.int .u8 36), .lit (.int .u8 45), .lit (.int .u8 43), .lit (.int .u8 51), .lit (.int .u8 22), .lit (.int .u8 53), .lit (.int .u8 39), .lit (.int .u8 33), .lit (.int .u8 30), .lit (.int .u8 24), .lit (.int .u8 18), .lit (.int .u8 12), .lit (.int .u8 5), .lit (.int .u8 63), .lit (.int .u8 55), .lit (.int .u8 48), .lit (.int .u8 27), .lit (.int .u8 60), .lit (.int .u8 41), .lit (.int .u8 37), .lit (.int .u8 16), .lit (.int .u8 46), .lit (.int .u8 35), .lit (.int .u8 44), .lit (.int .u8 21), .lit (.int .u8 52), .lit (.int .u8 32), .lit (.int .u8 23), .lit (.int .u8 11), .lit (.int .u8 54), .lit (.int .u8 26), .lit (.int .u8 40), .lit (.int .u8 15), .lit (.int .u8 34), .lit (.int .u8 20), .lit (.int .u8 31), .lit (.int .u8 10), .lit (.int .u8 25), .lit (.int .u8 14), .lit (.int .u8 19), .lit (.int .u8 9), .lit (.int .u8 13), .lit (.int .u8 8), .lit (.int .u8 7), .lit (.int .u8 6)]
def laid_internal_strconv_uint64pow10 {H : Type} : DataW H := .agg [.lit (.int .u64 1), .lit (.int .u64 10), .lit (.int .u64 100), .lit (.int .u64 1000), .lit (.int .u64 10000), .lit (.int .u64 100000), .lit (.int .u64 1000000), .lit (.int .u64 10000000), .lit (.int .u64 100000000), .lit (.int .u64 1000000000), .lit (.int .u64 10000000000), .lit (.int .u64 100000000000), .lit (.int .u64 1000000000000), .lit (.int .u64 10000000000000), .lit (.int .u64 100000000000000), .lit (.int .u64 1000000000000000), .lit (.int .u64 10000000000000000), .lit (.int .u64 100000000000000000), .lit (.int .u64 1000000000000000000), .lit (.int .u64 10000000000000000000)]
def laid_unicode_utf8_acceptRanges {H : Type} : DataW H := .agg [.agg [.lit (.int .u8 128), .lit (.int .u8 191)], .agg [.lit (.int .u8 160), .lit (.int .u8 191)], .agg [.lit (.int .u8 128), .lit (.int .u8 159)], .agg [.lit (.int .u8 144), .lit (.int .u8 191)], .agg [.lit (.int .u8 128), .lit (.int .u8 143)], .agg [.lit (.int .u8 0), .lit (.int .u8 0)], .agg [.lit (.int .u8 0), .lit (.int .u8 0)], .agg [.lit (.int .u8 0), .lit (.int .u8 0)], .agg [.lit (.int .u8 0), .lit (.int .u8 0)], .agg [.lit (.int .u8 0), .lit (.int .u8 0)], .agg [.lit (.int .u8 0), .lit (.int .u8 0)], .agg [.lit (.int .u8 0), .lit (.int .u8 0)], .agg [.lit (.int .u8 0), .lit (.int .u8 0)], .agg [.lit (.int .u8 0), .lit (.int .u8 0)], .agg [.lit (.int .u8 0), .lit (.int .u8 0)], .agg [.lit (.int .u8 0), .lit (.int .u8 0)]]
/-- One of Go's own tables, pinned by name: the form's constant. -/
def laid_unicode_utf8_first : DataW Unit := Go.Pinned.utf8First

/-- 'graticulelaw19.FmathAbsolute': WHATEVER THE INPUT: true; the input reads as it did. -/
def fmathAbsoluteSpec : ChangeSpec := { name := "fmathAbsolute", fn := fun _ => fun
  | [d] => { results := [.lit (.bool true)], args := [d] }
  | _ => none }
def fmathAbsoluteRow : OpenClaim := { program := "ytfomknfjidbdcaagreatdoor", sum := "2f21bfa25203aeeca8a62068111d914e48d4d251e50eca7f32cb79fb9cf7d250", func := "graticule/graticulelaw19.FmathAbsolute", spec := "fmathAbsolute", inPlace := ["internal/bytealg.IndexByteString", "internal/bytealg.IndexString", "internal/abi.NoEscape", "internal/bytealg.MakeNoZero"], unfollowed := true, recurses := true, named := ["math/bits.divideError", "math/bits.overflowError", "internal/strconv.uint64pow10", "math/bits.deBruijn32tab", "math/bits.deBruijn64tab", "unicode/utf8.first", "unicode/utf8.acceptRanges", "internal/bytealg.MaxLen"], apart := false, laid := [("math/bits.deBruijn32tab", laid_math_bits_deBruijn32tab), ("math/bits.deBruijn64tab", laid_math_bits_deBruijn64tab), ("internal/strconv.uint64pow10", laid_internal_strconv_uint64pow10), ("unicode/utf8.acceptRanges", laid_unicode_utf8_acceptRanges), ("unicode/utf8.first", laid_unicode_utf8_first)] }
def FmathAbsoluteSaid : Prop := fmathAbsoluteRow.holds Tryz.pinned (OpenSpec.ofChange fmathAbsoluteSpec)

/-- ITS FALSE NEIGHBOUR: 'it returns false'. Refute it at one input. -/
def fmathAbsoluteWrong : ChangeSpec := { name := "fmathAbsolute", fn := fun _ => fun
  | [d] => { results := [.lit (.bool false)], args := [d] }
  | _ => none }
def FmathAbsoluteWrongFalsely : Prop := fmathAbsoluteRow.holds Tryz.pinned (OpenSpec.ofChange fmathAbsoluteWrong)

/-- 'graticulelaw19.FmathInvert': WHATEVER THE INPUT: true; the input reads as it did. -/
def fmathInvertSpec : ChangeSpec := { name := "fmathInvert", fn := fun _ => fun
  | [d] => { results := [.lit (.bool true)], args := [d] }
  | _ => none }
def fmathInvertRow : OpenClaim := { program := "ytfomknfjidbdcaagreatdoor", sum := "2f21bfa25203aeeca8a62068111d914e48d4d251e50eca7f32cb79fb9cf7d250", func := "graticule/graticulelaw19.FmathInvert", spec := "fmathInvert", inPlace := ["internal/bytealg.IndexByteString", "internal/bytealg.IndexString", "internal/abi.NoEscape", "internal/bytealg.MakeNoZero"], unfollowed := true, recurses := true, named := ["math/bits.divideError", "math/bits.overflowError", "internal/strconv.uint64pow10", "math/bits.deBruijn32tab", "math/bits.deBruijn64tab", "unicode/utf8.first", "unicode/utf8.acceptRanges", "internal/bytealg.MaxLen"], apart := false, laid := [("math/bits.deBruijn32tab", laid_math_bits_deBruijn32tab), ("math/bits.deBruijn64tab", laid_math_bits_deBruijn64tab), ("internal/strconv.uint64pow10", laid_internal_strconv_uint64pow10), ("unicode/utf8.acceptRanges", laid_unicode_utf8_acceptRanges), ("unicode/utf8.first", laid_unicode_utf8_first)] }
def FmathInvertSaid : Prop := fmathInvertRow.holds Tryz.pinned (OpenSpec.ofChange fmathInvertSpec)

/-- ITS FALSE NEIGHBOUR: 'it returns false'. Refute it at one input. -/
def fmathInvertWrong : ChangeSpec := { name := "fmathInvert", fn := fun _ => fun
  | [d] => { results := [.lit (.bool false)], args := [d] }
  | _ => none }
def FmathInvertWrongFalsely : Prop := fmathInvertRow.holds Tryz.pinned (OpenSpec.ofChange fmathInvertWrong)

/-- 'graticulelaw19.FmathIsNonNull': WHATEVER THE INPUT: true; the input reads as it did. -/
def fmathIsNonNullSpec : ChangeSpec := { name := "fmathIsNonNull", fn := fun _ => fun
  | [d] => { results := [.lit (.bool true)], args := [d] }
  | _ => none }
def fmathIsNonNullRow : OpenClaim := { program := "ytfomknfjidbdcaagreatdoor", sum := "2f21bfa25203aeeca8a62068111d914e48d4d251e50eca7f32cb79fb9cf7d250", func := "graticule/graticulelaw19.FmathIsNonNull", spec := "fmathIsNonNull", inPlace := ["internal/bytealg.IndexByteString", "internal/bytealg.IndexString", "internal/abi.NoEscape", "internal/bytealg.MakeNoZero"], unfollowed := true, recurses := true, named := ["math/bits.divideError", "math/bits.overflowError", "internal/strconv.uint64pow10", "math/bits.deBruijn32tab", "math/bits.deBruijn64tab", "unicode/utf8.first", "unicode/utf8.acceptRanges", "internal/bytealg.MaxLen"], apart := false, laid := [("math/bits.deBruijn32tab", laid_math_bits_deBruijn32tab), ("math/bits.deBruijn64tab", laid_math_bits_deBruijn64tab), ("internal/strconv.uint64pow10", laid_internal_strconv_uint64pow10), ("unicode/utf8.acceptRanges", laid_unicode_utf8_acceptRanges), ("unicode/utf8.first", laid_unicode_utf8_first)] }
def FmathIsNonNullSaid : Prop := fmathIsNonNullRow.holds Tryz.pinned (OpenSpec.ofChange fmathIsNonNullSpec)

/-- ITS FALSE NEIGHBOUR: 'it returns false'. Refute it at one input. -/
def fmathIsNonNullWrong : ChangeSpec := { name := "fmathIsNonNull", fn := fun _ => fun
  | [d] => { results := [.lit (.bool false)], args := [d] }
  | _ => none }
def FmathIsNonNullWrongFalsely : Prop := fmathIsNonNullRow.holds Tryz.pinned (OpenSpec.ofChange fmathIsNonNullWrong)

/-- 'graticulelaw19.FmathMinMax': WHATEVER THE INPUT: true; the input reads as it did. -/
def fmathMinMaxSpec : ChangeSpec := { name := "fmathMinMax", fn := fun _ => fun
  | [d] => { results := [.lit (.bool true)], args := [d] }
  | _ => none }
def fmathMinMaxRow : OpenClaim := { program := "ytfomknfjidbdcaagreatdoor", sum := "2f21bfa25203aeeca8a62068111d914e48d4d251e50eca7f32cb79fb9cf7d250", func := "graticule/graticulelaw19.FmathMinMax", spec := "fmathMinMax", inPlace := ["internal/bytealg.IndexByteString", "internal/bytealg.IndexString", "internal/abi.NoEscape", "internal/bytealg.MakeNoZero"], unfollowed := true, recurses := true, named := ["math/bits.divideError", "math/bits.overflowError", "internal/strconv.uint64pow10", "math/bits.deBruijn32tab", "math/bits.deBruijn64tab", "unicode/utf8.first", "unicode/utf8.acceptRanges", "internal/bytealg.MaxLen"], apart := false, laid := [("math/bits.deBruijn32tab", laid_math_bits_deBruijn32tab), ("math/bits.deBruijn64tab", laid_math_bits_deBruijn64tab), ("internal/strconv.uint64pow10", laid_internal_strconv_uint64pow10), ("unicode/utf8.acceptRanges", laid_unicode_utf8_acceptRanges), ("unicode/utf8.first", laid_unicode_utf8_first)] }
def FmathMinMaxSaid : Prop := fmathMinMaxRow.holds Tryz.pinned (OpenSpec.ofChange fmathMinMaxSpec)

/-- ITS FALSE NEIGHBOUR: 'it returns false'. Refute it at one input. -/
def fmathMinMaxWrong : ChangeSpec := { name := "fmathMinMax", fn := fun _ => fun
  | [d] => { results := [.lit (.bool false)], args := [d] }
  | _ => none }
def FmathMinMaxWrongFalsely : Prop := fmathMinMaxRow.holds Tryz.pinned (OpenSpec.ofChange fmathMinMaxWrong)

/-- 'graticulelaw19.FmathNegate': WHATEVER THE INPUT: true; the input reads as it did. -/
def fmathNegateSpec : ChangeSpec := { name := "fmathNegate", fn := fun _ => fun
  | [d] => { results := [.lit (.bool true)], args := [d] }
  | _ => none }
def fmathNegateRow : OpenClaim := { program := "ytfomknfjidbdcaagreatdoor", sum := "2f21bfa25203aeeca8a62068111d914e48d4d251e50eca7f32cb79fb9cf7d250", func := "graticule/graticulelaw19.FmathNegate", spec := "fmathNegate", inPlace := ["internal/bytealg.IndexByteString", "internal/bytealg.IndexString", "internal/abi.NoEscape", "internal/bytealg.MakeNoZero"], unfollowed := true, recurses := true, named := ["math/bits.divideError", "math/bits.overflowError", "internal/strconv.uint64pow10", "math/bits.deBruijn32tab", "math/bits.deBruijn64tab", "unicode/utf8.first", "unicode/utf8.acceptRanges", "internal/bytealg.MaxLen"], apart := false, laid := [("math/bits.deBruijn32tab", laid_math_bits_deBruijn32tab), ("math/bits.deBruijn64tab", laid_math_bits_deBruijn64tab), ("internal/strconv.uint64pow10", laid_internal_strconv_uint64pow10), ("unicode/utf8.acceptRanges", laid_unicode_utf8_acceptRanges), ("unicode/utf8.first", laid_unicode_utf8_first)] }
def FmathNegateSaid : Prop := fmathNegateRow.holds Tryz.pinned (OpenSpec.ofChange fmathNegateSpec)

/-- ITS FALSE NEIGHBOUR: 'it returns false'. Refute it at one input. -/
def fmathNegateWrong : ChangeSpec := { name := "fmathNegate", fn := fun _ => fun
  | [d] => { results := [.lit (.bool false)], args := [d] }
  | _ => none }
def FmathNegateWrongFalsely : Prop := fmathNegateRow.holds Tryz.pinned (OpenSpec.ofChange fmathNegateWrong)

/-- 'graticulelaw19.FmathOffset': WHATEVER THE INPUT: true; the input reads as it did. -/
def fmathOffsetSpec : ChangeSpec := { name := "fmathOffset", fn := fun _ => fun
  | [d1, d2] => { results := [.lit (.bool true)], args := [d1, d2] }
  | _ => none }
def fmathOffsetRow : OpenClaim := { program := "ytfomknfjidbdcaagreatdoor", sum := "2f21bfa25203aeeca8a62068111d914e48d4d251e50eca7f32cb79fb9cf7d250", func := "graticule/graticulelaw19.FmathOffset", spec := "fmathOffset", inPlace := ["internal/bytealg.IndexByteString", "internal/bytealg.IndexString", "internal/abi.NoEscape", "internal/bytealg.MakeNoZero"], unfollowed := true, recurses := true, named := ["math/bits.divideError", "math/bits.overflowError", "internal/strconv.uint64pow10", "math/bits.deBruijn32tab", "math/bits.deBruijn64tab", "unicode/utf8.first", "unicode/utf8.acceptRanges", "internal/bytealg.MaxLen"], apart := false, laid := [("math/bits.deBruijn32tab", laid_math_bits_deBruijn32tab), ("math/bits.deBruijn64tab", laid_math_bits_deBruijn64tab), ("internal/strconv.uint64pow10", laid_internal_strconv_uint64pow10), ("unicode/utf8.acceptRanges", laid_unicode_utf8_acceptRanges), ("unicode/utf8.first", laid_unicode_utf8_first)] }
def FmathOffsetSaid : Prop := fmathOffsetRow.holds Tryz.pinned (OpenSpec.ofChange fmathOffsetSpec)

/-- ITS FALSE NEIGHBOUR: 'it returns false'. Refute it at one input. -/
def fmathOffsetWrong : ChangeSpec := { name := "fmathOffset", fn := fun _ => fun
  | [d1, d2] => { results := [.lit (.bool false)], args := [d1, d2] }
  | _ => none }
def FmathOffsetWrongFalsely : Prop := fmathOffsetRow.holds Tryz.pinned (OpenSpec.ofChange fmathOffsetWrong)

/-- 'graticulelaw19.FmathOffsetToZero': WHATEVER THE INPUT: true; the input reads as it did. -/
def fmathOffsetToZeroSpec : ChangeSpec := { name := "fmathOffsetToZero", fn := fun _ => fun
  | [d] => { results := [.lit (.bool true)], args := [d] }
  | _ => none }
def fmathOffsetToZeroRow : OpenClaim := { program := "ytfomknfjidbdcaagreatdoor", sum := "2f21bfa25203aeeca8a62068111d914e48d4d251e50eca7f32cb79fb9cf7d250", func := "graticule/graticulelaw19.FmathOffsetToZero", spec := "fmathOffsetToZero", inPlace := ["internal/bytealg.IndexByteString", "internal/bytealg.IndexString", "internal/abi.NoEscape", "internal/bytealg.MakeNoZero"], unfollowed := true, recurses := true, named := ["math/bits.divideError", "math/bits.overflowError", "internal/strconv.uint64pow10", "math/bits.deBruijn32tab", "math/bits.deBruijn64tab", "unicode/utf8.first", "unicode/utf8.acceptRanges", "internal/bytealg.MaxLen"], apart := false, laid := [("math/bits.deBruijn32tab", laid_math_bits_deBruijn32tab), ("math/bits.deBruijn64tab", laid_math_bits_deBruijn64tab), ("internal/strconv.uint64pow10", laid_internal_strconv_uint64pow10), ("unicode/utf8.acceptRanges", laid_unicode_utf8_acceptRanges), ("unicode/utf8.first", laid_unicode_utf8_first)] }
def FmathOffsetToZeroSaid : Prop := fmathOffsetToZeroRow.holds Tryz.pinned (OpenSpec.ofChange fmathOffsetToZeroSpec)

/-- ITS FALSE NEIGHBOUR: 'it returns false'. Refute it at one input. -/
def fmathOffsetToZeroWrong : ChangeSpec := { name := "fmathOffsetToZero", fn := fun _ => fun
  | [d] => { results := [.lit (.bool false)], args := [d] }
  | _ => none }
def FmathOffsetToZeroWrongFalsely : Prop := fmathOffsetToZeroRow.holds Tryz.pinned (OpenSpec.ofChange fmathOffsetToZeroWrong)

/-- 'graticulelaw19.FmathPow': WHATEVER THE INPUT: true; the input reads as it did. -/
def fmathPowSpec : ChangeSpec := { name := "fmathPow", fn := fun _ => fun
  | [d1, d2] => { results := [.lit (.bool true)], args := [d1, d2] }
  | _ => none }
def fmathPowRow : OpenClaim := { program := "ytfomknfjidbdcaagreatdoor", sum := "2f21bfa25203aeeca8a62068111d914e48d4d251e50eca7f32cb79fb9cf7d250", func := "graticule/graticulelaw19.FmathPow", spec := "fmathPow", inPlace := ["internal/bytealg.IndexByteString", "internal/bytealg.IndexString", "internal/abi.NoEscape", "internal/bytealg.MakeNoZero"], unfollowed := true, recurses := true, named := ["math/bits.divideError", "math/bits.overflowError", "internal/strconv.uint64pow10", "math/bits.deBruijn32tab", "math/bits.deBruijn64tab", "unicode/utf8.first", "unicode/utf8.acceptRanges", "internal/bytealg.MaxLen"], apart := false, laid := [("math/bits.deBruijn32tab", laid_math_bits_deBruijn32tab), ("math/bits.deBruijn64tab", laid_math_bits_deBruijn64tab), ("internal/strconv.uint64pow10", laid_internal_strconv_uint64pow10), ("unicode/utf8.acceptRanges", laid_unicode_utf8_acceptRanges), ("unicode/utf8.first", laid_unicode_utf8_first)] }
def FmathPowSaid : Prop := fmathPowRow.holds Tryz.pinned (OpenSpec.ofChange fmathPowSpec)

/-- ITS FALSE NEIGHBOUR: 'it returns false'. Refute it at one input. -/
def fmathPowWrong : ChangeSpec := { name := "fmathPow", fn := fun _ => fun
  | [d1, d2] => { results := [.lit (.bool false)], args := [d1, d2] }
  | _ => none }
def FmathPowWrongFalsely : Prop := fmathPowRow.holds Tryz.pinned (OpenSpec.ofChange fmathPowWrong)

/-- 'graticulelaw19.FmathRemoveAboveValue': WHATEVER THE INPUT: true; the input reads as it did. -/
def fmathRemoveAboveValueSpec : ChangeSpec := { name := "fmathRemoveAboveValue", fn := fun _ => fun
  | [d1, d2] => { results := [.lit (.bool true)], args := [d1, d2] }
  | _ => none }
def fmathRemoveAboveValueRow : OpenClaim := { program := "ytfomknfjidbdcaagreatdoor", sum := "2f21bfa25203aeeca8a62068111d914e48d4d251e50eca7f32cb79fb9cf7d250", func := "graticule/graticulelaw19.FmathRemoveAboveValue", spec := "fmathRemoveAboveValue", inPlace := ["internal/bytealg.IndexByteString", "internal/bytealg.IndexString", "internal/abi.NoEscape", "internal/bytealg.MakeNoZero"], unfollowed := true, recurses := true, named := ["math/bits.divideError", "math/bits.overflowError", "internal/strconv.uint64pow10", "math/bits.deBruijn32tab", "math/bits.deBruijn64tab", "unicode/utf8.first", "unicode/utf8.acceptRanges", "internal/bytealg.MaxLen"], apart := false, laid := [("math/bits.deBruijn32tab", laid_math_bits_deBruijn32tab), ("math/bits.deBruijn64tab", laid_math_bits_deBruijn64tab), ("internal/strconv.uint64pow10", laid_internal_strconv_uint64pow10), ("unicode/utf8.acceptRanges", laid_unicode_utf8_acceptRanges), ("unicode/utf8.first", laid_unicode_utf8_first)] }
def FmathRemoveAboveValueSaid : Prop := fmathRemoveAboveValueRow.holds Tryz.pinned (OpenSpec.ofChange fmathRemoveAboveValueSpec)

/-- ITS FALSE NEIGHBOUR: 'it returns false'. Refute it at one input. -/
def fmathRemoveAboveValueWrong : ChangeSpec := { name := "fmathRemoveAboveValue", fn := fun _ => fun
  | [d1, d2] => { results := [.lit (.bool false)], args := [d1, d2] }
  | _ => none }
def FmathRemoveAboveValueWrongFalsely : Prop := fmathRemoveAboveValueRow.holds Tryz.pinned (OpenSpec.ofChange fmathRemoveAboveValueWrong)

/-- 'graticulelaw19.FmathRemoveBelowValue': WHATEVER THE INPUT: true; the input reads as it did. -/
def fmathRemoveBelowValueSpec : ChangeSpec := { name := "fmathRemoveBelowValue", fn := fun _ => fun
  | [d1, d2] => { results := [.lit (.bool true)], args := [d1, d2] }
  | _ => none }
def fmathRemoveBelowValueRow : OpenClaim := { program := "ytfomknfjidbdcaagreatdoor", sum := "2f21bfa25203aeeca8a62068111d914e48d4d251e50eca7f32cb79fb9cf7d250", func := "graticule/graticulelaw19.FmathRemoveBelowValue", spec := "fmathRemoveBelowValue", inPlace := ["internal/bytealg.IndexByteString", "internal/bytealg.IndexString", "internal/abi.NoEscape", "internal/bytealg.MakeNoZero"], unfollowed := true, recurses := true, named := ["math/bits.divideError", "math/bits.overflowError", "internal/strconv.uint64pow10", "math/bits.deBruijn32tab", "math/bits.deBruijn64tab", "unicode/utf8.first", "unicode/utf8.acceptRanges", "internal/bytealg.MaxLen"], apart := false, laid := [("math/bits.deBruijn32tab", laid_math_bits_deBruijn32tab), ("math/bits.deBruijn64tab", laid_math_bits_deBruijn64tab), ("internal/strconv.uint64pow10", laid_internal_strconv_uint64pow10), ("unicode/utf8.acceptRanges", laid_unicode_utf8_acceptRanges), ("unicode/utf8.first", laid_unicode_utf8_first)] }
def FmathRemoveBelowValueSaid : Prop := fmathRemoveBelowValueRow.holds Tryz.pinned (OpenSpec.ofChange fmathRemoveBelowValueSpec)

/-- ITS FALSE NEIGHBOUR: 'it returns false'. Refute it at one input. -/
def fmathRemoveBelowValueWrong : ChangeSpec := { name := "fmathRemoveBelowValue", fn := fun _ => fun
  | [d1, d2] => { results := [.lit (.bool false)], args := [d1, d2] }
  | _ => none }
def FmathRemoveBelowValueWrongFalsely : Prop := fmathRemoveBelowValueRow.holds Tryz.pinned (OpenSpec.ofChange fmathRemoveBelowValueWrong)

/-- 'graticulelaw19.FmathRound': WHATEVER THE INPUT: true; the input reads as it did. -/
def fmathRoundSpec : ChangeSpec := { name := "fmathRound", fn := fun _ => fun
  | [d1, d2] => { results := [.lit (.bool true)], args := [d1, d2] }
  | _ => none }
def fmathRoundRow : OpenClaim := { program := "ytfomknfjidbdcaagreatdoor", sum := "2f21bfa25203aeeca8a62068111d914e48d4d251e50eca7f32cb79fb9cf7d250", func := "graticule/graticulelaw19.FmathRound", spec := "fmathRound", inPlace := ["internal/bytealg.IndexByteString", "internal/bytealg.IndexString", "internal/abi.NoEscape", "internal/bytealg.MakeNoZero"], unfollowed := true, recurses := true, named := ["math/bits.divideError", "math/bits.overflowError", "internal/strconv.uint64pow10", "math/bits.deBruijn32tab", "math/bits.deBruijn64tab", "unicode/utf8.first", "unicode/utf8.acceptRanges", "internal/bytealg.MaxLen"], apart := false, laid := [("math/bits.deBruijn32tab", laid_math_bits_deBruijn32tab), ("math/bits.deBruijn64tab", laid_math_bits_deBruijn64tab), ("internal/strconv.uint64pow10", laid_internal_strconv_uint64pow10), ("unicode/utf8.acceptRanges", laid_unicode_utf8_acceptRanges), ("unicode/utf8.first", laid_unicode_utf8_first)] }
def FmathRoundSaid : Prop := fmathRoundRow.holds Tryz.pinned (OpenSpec.ofChange fmathRoundSpec)

/-- ITS FALSE NEIGHBOUR: 'it returns false'. Refute it at one input. -/
def fmathRoundWrong : ChangeSpec := { name := "fmathRound", fn := fun _ => fun
  | [d1, d2] => { results := [.lit (.bool false)], args := [d1, d2] }
  | _ => none }
def FmathRoundWrongFalsely : Prop := fmathRoundRow.holds Tryz.pinned (OpenSpec.ofChange fmathRoundWrong)

/-- 'graticulelaw19.FmathScale': WHATEVER THE INPUT: true; the input reads as it did. -/
def fmathScaleSpec : ChangeSpec := { name := "fmathScale", fn := fun _ => fun
  | [d1, d2] => { results := [.lit (.bool true)], args := [d1, d2] }
  | _ => none }
def fmathScaleRow : OpenClaim := { program := "ytfomknfjidbdcaagreatdoor", sum := "2f21bfa25203aeeca8a62068111d914e48d4d251e50eca7f32cb79fb9cf7d250", func := "graticule/graticulelaw19.FmathScale", spec := "fmathScale", inPlace := ["internal/bytealg.IndexByteString", "internal/bytealg.IndexString", "internal/abi.NoEscape", "internal/bytealg.MakeNoZero"], unfollowed := true, recurses := true, named := ["math/bits.divideError", "math/bits.overflowError", "internal/strconv.uint64pow10", "math/bits.deBruijn32tab", "math/bits.deBruijn64tab", "unicode/utf8.first", "unicode/utf8.acceptRanges", "internal/bytealg.MaxLen"], apart := false, laid := [("math/bits.deBruijn32tab", laid_math_bits_deBruijn32tab), ("math/bits.deBruijn64tab", laid_math_bits_deBruijn64tab), ("internal/strconv.uint64pow10", laid_internal_strconv_uint64pow10), ("unicode/utf8.acceptRanges", laid_unicode_utf8_acceptRanges), ("unicode/utf8.first", laid_unicode_utf8_first)] }
def FmathScaleSaid : Prop := fmathScaleRow.holds Tryz.pinned (OpenSpec.ofChange fmathScaleSpec)

/-- ITS FALSE NEIGHBOUR: 'it returns false'. Refute it at one input. -/
def fmathScaleWrong : ChangeSpec := { name := "fmathScale", fn := fun _ => fun
  | [d1, d2] => { results := [.lit (.bool false)], args := [d1, d2] }
  | _ => none }
def FmathScaleWrongFalsely : Prop := fmathScaleRow.holds Tryz.pinned (OpenSpec.ofChange fmathScaleWrong)

/-- 'graticulelaw19.FmathScaleToSeconds': WHATEVER THE INPUT: true; the input reads as it did. -/
def fmathScaleToSecondsSpec : ChangeSpec := { name := "fmathScaleToSeconds", fn := fun _ => fun
  | [d1, d2] => { results := [.lit (.bool true)], args := [d1, d2] }
  | _ => none }
def fmathScaleToSecondsRow : OpenClaim := { program := "ytfomknfjidbdcaagreatdoor", sum := "2f21bfa25203aeeca8a62068111d914e48d4d251e50eca7f32cb79fb9cf7d250", func := "graticule/graticulelaw19.FmathScaleToSeconds", spec := "fmathScaleToSeconds", inPlace := ["internal/bytealg.IndexByteString", "internal/bytealg.IndexString", "internal/abi.NoEscape", "internal/bytealg.MakeNoZero"], unfollowed := true, recurses := true, named := ["math/bits.divideError", "math/bits.overflowError", "internal/strconv.uint64pow10", "math/bits.deBruijn32tab", "math/bits.deBruijn64tab", "unicode/utf8.first", "unicode/utf8.acceptRanges", "internal/bytealg.MaxLen"], apart := false, laid := [("math/bits.deBruijn32tab", laid_math_bits_deBruijn32tab), ("math/bits.deBruijn64tab", laid_math_bits_deBruijn64tab), ("internal/strconv.uint64pow10", laid_internal_strconv_uint64pow10), ("unicode/utf8.acceptRanges", laid_unicode_utf8_acceptRanges), ("unicode/utf8.first", laid_unicode_utf8_first)] }
def FmathScaleToSecondsSaid : Prop := fmathScaleToSecondsRow.holds Tryz.pinned (OpenSpec.ofChange fmathScaleToSecondsSpec)

/-- ITS FALSE NEIGHBOUR: 'it returns false'. Refute it at one input. -/
def fmathScaleToSecondsWrong : ChangeSpec := { name := "fmathScaleToSeconds", fn := fun _ => fun
  | [d1, d2] => { results := [.lit (.bool false)], args := [d1, d2] }
  | _ => none }
def FmathScaleToSecondsWrongFalsely : Prop := fmathScaleToSecondsRow.holds Tryz.pinned (OpenSpec.ofChange fmathScaleToSecondsWrong)

/-- 'graticulelaw19.FmathSign': WHATEVER THE INPUT: true; the input reads as it did. -/
def fmathSignSpec : ChangeSpec := { name := "fmathSign", fn := fun _ => fun
  | [d] => { results := [.lit (.bool true)], args := [d] }
  | _ => none }
def fmathSignRow : OpenClaim := { program := "ytfomknfjidbdcaagreatdoor", sum := "2f21bfa25203aeeca8a62068111d914e48d4d251e50eca7f32cb79fb9cf7d250", func := "graticule/graticulelaw19.FmathSign", spec := "fmathSign", inPlace := ["internal/bytealg.IndexByteString", "internal/bytealg.IndexString", "internal/abi.NoEscape", "internal/bytealg.MakeNoZero"], unfollowed := true, recurses := true, named := ["math/bits.divideError", "math/bits.overflowError", "internal/strconv.uint64pow10", "math/bits.deBruijn32tab", "math/bits.deBruijn64tab", "unicode/utf8.first", "unicode/utf8.acceptRanges", "internal/bytealg.MaxLen"], apart := false, laid := [("math/bits.deBruijn32tab", laid_math_bits_deBruijn32tab), ("math/bits.deBruijn64tab", laid_math_bits_deBruijn64tab), ("internal/strconv.uint64pow10", laid_internal_strconv_uint64pow10), ("unicode/utf8.acceptRanges", laid_unicode_utf8_acceptRanges), ("unicode/utf8.first", laid_unicode_utf8_first)] }
def FmathSignSaid : Prop := fmathSignRow.holds Tryz.pinned (OpenSpec.ofChange fmathSignSpec)

/-- ITS FALSE NEIGHBOUR: 'it returns false'. Refute it at one input. -/
def fmathSignWrong : ChangeSpec := { name := "fmathSign", fn := fun _ => fun
  | [d] => { results := [.lit (.bool false)], args := [d] }
  | _ => none }
def FmathSignWrongFalsely : Prop := fmathSignRow.holds Tryz.pinned (OpenSpec.ofChange fmathSignWrong)

/-- 'graticulelaw19.FmathSquareRoot': WHATEVER THE INPUT: true; the input reads as it did. -/
def fmathSquareRootSpec : ChangeSpec := { name := "fmathSquareRoot", fn := fun _ => fun
  | [d] => { results := [.lit (.bool true)], args := [d] }
  | _ => none }
def fmathSquareRootRow : OpenClaim := { program := "ytfomknfjidbdcaagreatdoor", sum := "2f21bfa25203aeeca8a62068111d914e48d4d251e50eca7f32cb79fb9cf7d250", func := "graticule/graticulelaw19.FmathSquareRoot", spec := "fmathSquareRoot", inPlace := ["internal/bytealg.IndexByteString", "internal/bytealg.IndexString", "internal/abi.NoEscape", "internal/bytealg.MakeNoZero"], unfollowed := true, recurses := true, named := ["math/bits.divideError", "math/bits.overflowError", "internal/strconv.uint64pow10", "math/bits.deBruijn32tab", "math/bits.deBruijn64tab", "unicode/utf8.first", "unicode/utf8.acceptRanges", "internal/bytealg.MaxLen"], apart := false, laid := [("math/bits.deBruijn32tab", laid_math_bits_deBruijn32tab), ("math/bits.deBruijn64tab", laid_math_bits_deBruijn64tab), ("internal/strconv.uint64pow10", laid_internal_strconv_uint64pow10), ("unicode/utf8.acceptRanges", laid_unicode_utf8_acceptRanges), ("unicode/utf8.first", laid_unicode_utf8_first)] }
def FmathSquareRootSaid : Prop := fmathSquareRootRow.holds Tryz.pinned (OpenSpec.ofChange fmathSquareRootSpec)

/-- ITS FALSE NEIGHBOUR: 'it returns false'. Refute it at one input. -/
def fmathSquareRootWrong : ChangeSpec := { name := "fmathSquareRoot", fn := fun _ => fun
  | [d] => { results := [.lit (.bool false)], args := [d] }
  | _ => none }
def FmathSquareRootWrongFalsely : Prop := fmathSquareRootRow.holds Tryz.pinned (OpenSpec.ofChange fmathSquareRootWrong)

/-- 'graticulelaw19.FmathTransformNull': WHATEVER THE INPUT: true; the input reads as it did. -/
def fmathTransformNullSpec : ChangeSpec := { name := "fmathTransformNull", fn := fun _ => fun
  | [d1, d2] => { results := [.lit (.bool true)], args := [d1, d2] }
  | _ => none }
def fmathTransformNullRow : OpenClaim := { program := "ytfomknfjidbdcaagreatdoor", sum := "2f21bfa25203aeeca8a62068111d914e48d4d251e50eca7f32cb79fb9cf7d250", func := "graticule/graticulelaw19.FmathTransformNull", spec := "fmathTransformNull", inPlace := ["internal/bytealg.IndexByteString", "internal/bytealg.IndexString", "internal/abi.NoEscape", "internal/bytealg.MakeNoZero"], unfollowed := true, recurses := true, named := ["math/bits.divideError", "math/bits.overflowError", "internal/strconv.uint64pow10", "math/bits.deBruijn32tab", "math/bits.deBruijn64tab", "unicode/utf8.first", "unicode/utf8.acceptRanges", "internal/bytealg.MaxLen"], apart := false, laid := [("math/bits.deBruijn32tab", laid_math_bits_deBruijn32tab), ("math/bits.deBruijn64tab", laid_math_bits_deBruijn64tab), ("internal/strconv.uint64pow10", laid_internal_strconv_uint64pow10), ("unicode/utf8.acceptRanges", laid_unicode_utf8_acceptRanges), ("unicode/utf8.first", laid_unicode_utf8_first)] }
def FmathTransformNullSaid : Prop := fmathTransformNullRow.holds Tryz.pinned (OpenSpec.ofChange fmathTransformNullSpec)

/-- ITS FALSE NEIGHBOUR: 'it returns false'. Refute it at one input. -/
def fmathTransformNullWrong : ChangeSpec := { name := "fmathTransformNull", fn := fun _ => fun
  | [d1, d2] => { results := [.lit (.bool false)], args := [d1, d2] }
  | _ => none }
def FmathTransformNullWrongFalsely : Prop := fmathTransformNullRow.holds Tryz.pinned (OpenSpec.ofChange fmathTransformNullWrong)

/-- 'graticulelaw19.FmathOthers': WHATEVER THE INPUT: true; the input reads as it did. -/
def fmathOthersSpec : ChangeSpec := { name := "fmathOthers", fn := fun _ => fun
  | [d1, d2, d3] => { results := [.lit (.bool true)], args := [d1, d2, d3] }
  | _ => none }
def fmathOthersRow : OpenClaim := { program := "ytfomknfjidbdcaagreatdoor", sum := "2f21bfa25203aeeca8a62068111d914e48d4d251e50eca7f32cb79fb9cf7d250", func := "graticule/graticulelaw19.FmathOthers", spec := "fmathOthers", inPlace := ["internal/bytealg.IndexByteString", "internal/bytealg.IndexString", "internal/abi.NoEscape", "internal/bytealg.MakeNoZero"], unfollowed := true, recurses := true, named := ["math/bits.divideError", "math/bits.overflowError", "internal/strconv.uint64pow10", "math/bits.deBruijn32tab", "math/bits.deBruijn64tab", "unicode/utf8.first", "unicode/utf8.acceptRanges", "internal/bytealg.MaxLen"], apart := false, laid := [("math/bits.deBruijn32tab", laid_math_bits_deBruijn32tab), ("math/bits.deBruijn64tab", laid_math_bits_deBruijn64tab), ("internal/strconv.uint64pow10", laid_internal_strconv_uint64pow10), ("unicode/utf8.acceptRanges", laid_unicode_utf8_acceptRanges), ("unicode/utf8.first", laid_unicode_utf8_first)] }
def FmathOthersSaid : Prop := fmathOthersRow.holds Tryz.pinned (OpenSpec.ofChange fmathOthersSpec)

/-- ITS FALSE NEIGHBOUR: 'it returns false'. Refute it at one input. -/
def fmathOthersWrong : ChangeSpec := { name := "fmathOthers", fn := fun _ => fun
  | [d1, d2, d3] => { results := [.lit (.bool false)], args := [d1, d2, d3] }
  | _ => none }
def FmathOthersWrongFalsely : Prop := fmathOthersRow.holds Tryz.pinned (OpenSpec.ofChange fmathOthersWrong)

/- THE SECOND FORM. 'bulk': how many values and letters a reading holds, each counted each time it is reached (what is shared counts as often as it is met; a slice's spare places count too). A statement '..UptoSaid' is the law's where the arguments, and the package variables that the reading takes, are together of bulk at most 1048576: NARROWER than '..Said'. Prove '..Said' where nothing that the law and all that it calls make is longer than what came in: it says more and counts as full. Else prove '..UptoSaid'. A law counts once. -/
mutual
def uptoBulk {H : Type} : DataW H → Nat
  | .lit (.string bytes) => bytes.length + 1
  | .lit _ => 1
  | .nil => 1
  | .ptr d => uptoBulk d + 1
  | .slice elems spare => uptoBulkAll elems + uptoBulkAll spare + 1
  | .agg parts => uptoBulkAll parts + 1
  | .iface _ d => uptoBulk d + 1
  | .map entries => uptoBulkEntries entries + 1
  | .held _ => 1
def uptoBulkAll {H : Type} : List (DataW H) → Nat
  | [] => 0
  | d :: r => uptoBulk d + uptoBulkAll r
def uptoBulkEntries {H : Type} : List (Lit × DataW H) → Nat
  | [] => 0
  | x :: r => uptoBulkEntry x + uptoBulkEntries r
def uptoBulkEntry {H : Type} : Lit × DataW H → Nat
  | (.string bytes, d) => bytes.length + uptoBulk d + 1
  | (_, d) => uptoBulk d + 1
 end
def uptoSmall : (H : Type) → List (DataW H) → Bool := fun _ ds => decide (uptoBulkAll ds ≤ 1048576)
def OpenSpec.upto (s : _root_.Go.ChangeSpec) : _root_.Go.OpenSpec := { _root_.Go.OpenSpec.ofChange s with cond := some uptoSmall }

/-- 'graticulelaw19.FmathAbsolute', WHERE WHAT IT READS IS OF BULK AT MOST 1048576: true; the input reads as it did. -/
def fmathAbsoluteUptoRow : OpenClaim := { program := "ytfomknfjidbdcaagreatdoor", sum := "2f21bfa25203aeeca8a62068111d914e48d4d251e50eca7f32cb79fb9cf7d250", func := "graticule/graticulelaw19.FmathAbsolute", spec := "fmathAbsolute", inPlace := ["internal/bytealg.IndexByteString", "internal/bytealg.IndexString", "internal/abi.NoEscape", "internal/bytealg.MakeNoZero"], unfollowed := true, recurses := true, named := ["math/bits.divideError", "math/bits.overflowError", "internal/strconv.uint64pow10", "math/bits.deBruijn32tab", "math/bits.deBruijn64tab", "unicode/utf8.first", "unicode/utf8.acceptRanges", "internal/bytealg.MaxLen"], apart := false, laid := [("math/bits.deBruijn32tab", laid_math_bits_deBruijn32tab), ("math/bits.deBruijn64tab", laid_math_bits_deBruijn64tab), ("internal/strconv.uint64pow10", laid_internal_strconv_uint64pow10), ("unicode/utf8.acceptRanges", laid_unicode_utf8_acceptRanges), ("unicode/utf8.first", laid_unicode_utf8_first)], narrowed := true }
def FmathAbsoluteUptoSaid : Prop := fmathAbsoluteUptoRow.holds Tryz.pinned (OpenSpec.upto fmathAbsoluteSpec)

/-- 'graticulelaw19.FmathInvert', WHERE WHAT IT READS IS OF BULK AT MOST 1048576: true; the input reads as it did. -/
def fmathInvertUptoRow : OpenClaim := { program := "ytfomknfjidbdcaagreatdoor", sum := "2f21bfa25203aeeca8a62068111d914e48d4d251e50eca7f32cb79fb9cf7d250", func := "graticule/graticulelaw19.FmathInvert", spec := "fmathInvert", inPlace := ["internal/bytealg.IndexByteString", "internal/bytealg.IndexString", "internal/abi.NoEscape", "internal/bytealg.MakeNoZero"], unfollowed := true, recurses := true, named := ["math/bits.divideError", "math/bits.overflowError", "internal/strconv.uint64pow10", "math/bits.deBruijn32tab", "math/bits.deBruijn64tab", "unicode/utf8.first", "unicode/utf8.acceptRanges", "internal/bytealg.MaxLen"], apart := false, laid := [("math/bits.deBruijn32tab", laid_math_bits_deBruijn32tab), ("math/bits.deBruijn64tab", laid_math_bits_deBruijn64tab), ("internal/strconv.uint64pow10", laid_internal_strconv_uint64pow10), ("unicode/utf8.acceptRanges", laid_unicode_utf8_acceptRanges), ("unicode/utf8.first", laid_unicode_utf8_first)], narrowed := true }
def FmathInvertUptoSaid : Prop := fmathInvertUptoRow.holds Tryz.pinned (OpenSpec.upto fmathInvertSpec)

/-- 'graticulelaw19.FmathIsNonNull', WHERE WHAT IT READS IS OF BULK AT MOST 1048576: true; the input reads as it did. -/
def fmathIsNonNullUptoRow : OpenClaim := { program := "ytfomknfjidbdcaagreatdoor", sum := "2f21bfa25203aeeca8a62068111d914e48d4d251e50eca7f32cb79fb9cf7d250", func := "graticule/graticulelaw19.FmathIsNonNull", spec := "fmathIsNonNull", inPlace := ["internal/bytealg.IndexByteString", "internal/bytealg.IndexString", "internal/abi.NoEscape", "internal/bytealg.MakeNoZero"], unfollowed := true, recurses := true, named := ["math/bits.divideError", "math/bits.overflowError", "internal/strconv.uint64pow10", "math/bits.deBruijn32tab", "math/bits.deBruijn64tab", "unicode/utf8.first", "unicode/utf8.acceptRanges", "internal/bytealg.MaxLen"], apart := false, laid := [("math/bits.deBruijn32tab", laid_math_bits_deBruijn32tab), ("math/bits.deBruijn64tab", laid_math_bits_deBruijn64tab), ("internal/strconv.uint64pow10", laid_internal_strconv_uint64pow10), ("unicode/utf8.acceptRanges", laid_unicode_utf8_acceptRanges), ("unicode/utf8.first", laid_unicode_utf8_first)], narrowed := true }
def FmathIsNonNullUptoSaid : Prop := fmathIsNonNullUptoRow.holds Tryz.pinned (OpenSpec.upto fmathIsNonNullSpec)

/-- 'graticulelaw19.FmathMinMax', WHERE WHAT IT READS IS OF BULK AT MOST 1048576: true; the input reads as it did. -/
def fmathMinMaxUptoRow : OpenClaim := { program := "ytfomknfjidbdcaagreatdoor", sum := "2f21bfa25203aeeca8a62068111d914e48d4d251e50eca7f32cb79fb9cf7d250", func := "graticule/graticulelaw19.FmathMinMax", spec := "fmathMinMax", inPlace := ["internal/bytealg.IndexByteString", "internal/bytealg.IndexString", "internal/abi.NoEscape", "internal/bytealg.MakeNoZero"], unfollowed := true, recurses := true, named := ["math/bits.divideError", "math/bits.overflowError", "internal/strconv.uint64pow10", "math/bits.deBruijn32tab", "math/bits.deBruijn64tab", "unicode/utf8.first", "unicode/utf8.acceptRanges", "internal/bytealg.MaxLen"], apart := false, laid := [("math/bits.deBruijn32tab", laid_math_bits_deBruijn32tab), ("math/bits.deBruijn64tab", laid_math_bits_deBruijn64tab), ("internal/strconv.uint64pow10", laid_internal_strconv_uint64pow10), ("unicode/utf8.acceptRanges", laid_unicode_utf8_acceptRanges), ("unicode/utf8.first", laid_unicode_utf8_first)], narrowed := true }
def FmathMinMaxUptoSaid : Prop := fmathMinMaxUptoRow.holds Tryz.pinned (OpenSpec.upto fmathMinMaxSpec)

/-- 'graticulelaw19.FmathNegate', WHERE WHAT IT READS IS OF BULK AT MOST 1048576: true; the input reads as it did. -/
def fmathNegateUptoRow : OpenClaim := { program := "ytfomknfjidbdcaagreatdoor", sum := "2f21bfa25203aeeca8a62068111d914e48d4d251e50eca7f32cb79fb9cf7d250", func := "graticule/graticulelaw19.FmathNegate", spec := "fmathNegate", inPlace := ["internal/bytealg.IndexByteString", "internal/bytealg.IndexString", "internal/abi.NoEscape", "internal/bytealg.MakeNoZero"], unfollowed := true, recurses := true, named := ["math/bits.divideError", "math/bits.overflowError", "internal/strconv.uint64pow10", "math/bits.deBruijn32tab", "math/bits.deBruijn64tab", "unicode/utf8.first", "unicode/utf8.acceptRanges", "internal/bytealg.MaxLen"], apart := false, laid := [("math/bits.deBruijn32tab", laid_math_bits_deBruijn32tab), ("math/bits.deBruijn64tab", laid_math_bits_deBruijn64tab), ("internal/strconv.uint64pow10", laid_internal_strconv_uint64pow10), ("unicode/utf8.acceptRanges", laid_unicode_utf8_acceptRanges), ("unicode/utf8.first", laid_unicode_utf8_first)], narrowed := true }
def FmathNegateUptoSaid : Prop := fmathNegateUptoRow.holds Tryz.pinned (OpenSpec.upto fmathNegateSpec)

/-- 'graticulelaw19.FmathOffset', WHERE WHAT IT READS IS OF BULK AT MOST 1048576: true; the input reads as it did. -/
def fmathOffsetUptoRow : OpenClaim := { program := "ytfomknfjidbdcaagreatdoor", sum := "2f21bfa25203aeeca8a62068111d914e48d4d251e50eca7f32cb79fb9cf7d250", func := "graticule/graticulelaw19.FmathOffset", spec := "fmathOffset", inPlace := ["internal/bytealg.IndexByteString", "internal/bytealg.IndexString", "internal/abi.NoEscape", "internal/bytealg.MakeNoZero"], unfollowed := true, recurses := true, named := ["math/bits.divideError", "math/bits.overflowError", "internal/strconv.uint64pow10", "math/bits.deBruijn32tab", "math/bits.deBruijn64tab", "unicode/utf8.first", "unicode/utf8.acceptRanges", "internal/bytealg.MaxLen"], apart := false, laid := [("math/bits.deBruijn32tab", laid_math_bits_deBruijn32tab), ("math/bits.deBruijn64tab", laid_math_bits_deBruijn64tab), ("internal/strconv.uint64pow10", laid_internal_strconv_uint64pow10), ("unicode/utf8.acceptRanges", laid_unicode_utf8_acceptRanges), ("unicode/utf8.first", laid_unicode_utf8_first)], narrowed := true }
def FmathOffsetUptoSaid : Prop := fmathOffsetUptoRow.holds Tryz.pinned (OpenSpec.upto fmathOffsetSpec)

/-- 'graticulelaw19.FmathOffsetToZero', WHERE WHAT IT READS IS OF BULK AT MOST 1048576: true; the input reads as it did. -/
def fmathOffsetToZeroUptoRow : OpenClaim := { program := "ytfomknfjidbdcaagreatdoor", sum := "2f21bfa25203aeeca8a62068111d914e48d4d251e50eca7f32cb79fb9cf7d250", func := "graticule/graticulelaw19.FmathOffsetToZero", spec := "fmathOffsetToZero", inPlace := ["internal/bytealg.IndexByteString", "internal/bytealg.IndexString", "internal/abi.NoEscape", "internal/bytealg.MakeNoZero"], unfollowed := true, recurses := true, named := ["math/bits.divideError", "math/bits.overflowError", "internal/strconv.uint64pow10", "math/bits.deBruijn32tab", "math/bits.deBruijn64tab", "unicode/utf8.first", "unicode/utf8.acceptRanges", "internal/bytealg.MaxLen"], apart := false, laid := [("math/bits.deBruijn32tab", laid_math_bits_deBruijn32tab), ("math/bits.deBruijn64tab", laid_math_bits_deBruijn64tab), ("internal/strconv.uint64pow10", laid_internal_strconv_uint64pow10), ("unicode/utf8.acceptRanges", laid_unicode_utf8_acceptRanges), ("unicode/utf8.first", laid_unicode_utf8_first)], narrowed := true }
def FmathOffsetToZeroUptoSaid : Prop := fmathOffsetToZeroUptoRow.holds Tryz.pinned (OpenSpec.upto fmathOffsetToZeroSpec)

/-- 'graticulelaw19.FmathPow', WHERE WHAT IT READS IS OF BULK AT MOST 1048576: true; the input reads as it did. -/
def fmathPowUptoRow : OpenClaim := { program := "ytfomknfjidbdcaagreatdoor", sum := "2f21bfa25203aeeca8a62068111d914e48d4d251e50eca7f32cb79fb9cf7d250", func := "graticule/graticulelaw19.FmathPow", spec := "fmathPow", inPlace := ["internal/bytealg.IndexByteString", "internal/bytealg.IndexString", "internal/abi.NoEscape", "internal/bytealg.MakeNoZero"], unfollowed := true, recurses := true, named := ["math/bits.divideError", "math/bits.overflowError", "internal/strconv.uint64pow10", "math/bits.deBruijn32tab", "math/bits.deBruijn64tab", "unicode/utf8.first", "unicode/utf8.acceptRanges", "internal/bytealg.MaxLen"], apart := false, laid := [("math/bits.deBruijn32tab", laid_math_bits_deBruijn32tab), ("math/bits.deBruijn64tab", laid_math_bits_deBruijn64tab), ("internal/strconv.uint64pow10", laid_internal_strconv_uint64pow10), ("unicode/utf8.acceptRanges", laid_unicode_utf8_acceptRanges), ("unicode/utf8.first", laid_unicode_utf8_first)], narrowed := true }
def FmathPowUptoSaid : Prop := fmathPowUptoRow.holds Tryz.pinned (OpenSpec.upto fmathPowSpec)

/-- 'graticulelaw19.FmathRemoveAboveValue', WHERE WHAT IT READS IS OF BULK AT MOST 1048576: true; the input reads as it did. -/
def fmathRemoveAboveValueUptoRow : OpenClaim := { program := "ytfomknfjidbdcaagreatdoor", sum := "2f21bfa25203aeeca8a62068111d914e48d4d251e50eca7f32cb79fb9cf7d250", func := "graticule/graticulelaw19.FmathRemoveAboveValue", spec := "fmathRemoveAboveValue", inPlace := ["internal/bytealg.IndexByteString", "internal/bytealg.IndexString", "internal/abi.NoEscape", "internal/bytealg.MakeNoZero"], unfollowed := true, recurses := true, named := ["math/bits.divideError", "math/bits.overflowError", "internal/strconv.uint64pow10", "math/bits.deBruijn32tab", "math/bits.deBruijn64tab", "unicode/utf8.first", "unicode/utf8.acceptRanges", "internal/bytealg.MaxLen"], apart := false, laid := [("math/bits.deBruijn32tab", laid_math_bits_deBruijn32tab), ("math/bits.deBruijn64tab", laid_math_bits_deBruijn64tab), ("internal/strconv.uint64pow10", laid_internal_strconv_uint64pow10), ("unicode/utf8.acceptRanges", laid_unicode_utf8_acceptRanges), ("unicode/utf8.first", laid_unicode_utf8_first)], narrowed := true }
def FmathRemoveAboveValueUptoSaid : Prop := fmathRemoveAboveValueUptoRow.holds Tryz.pinned (OpenSpec.upto fmathRemoveAboveValueSpec)

/-- 'graticulelaw19.FmathRemoveBelowValue', WHERE WHAT IT READS IS OF BULK AT MOST 1048576: true; the input reads as it did. -/
def fmathRemoveBelowValueUptoRow : OpenClaim := { program := "ytfomknfjidbdcaagreatdoor", sum := "2f21bfa25203aeeca8a62068111d914e48d4d251e50eca7f32cb79fb9cf7d250", func := "graticule/graticulelaw19.FmathRemoveBelowValue", spec := "fmathRemoveBelowValue", inPlace := ["internal/bytealg.IndexByteString", "internal/bytealg.IndexString", "internal/abi.NoEscape", "internal/bytealg.MakeNoZero"], unfollowed := true, recurses := true, named := ["math/bits.divideError", "math/bits.overflowError", "internal/strconv.uint64pow10", "math/bits.deBruijn32tab", "math/bits.deBruijn64tab", "unicode/utf8.first", "unicode/utf8.acceptRanges", "internal/bytealg.MaxLen"], apart := false, laid := [("math/bits.deBruijn32tab", laid_math_bits_deBruijn32tab), ("math/bits.deBruijn64tab", laid_math_bits_deBruijn64tab), ("internal/strconv.uint64pow10", laid_internal_strconv_uint64pow10), ("unicode/utf8.acceptRanges", laid_unicode_utf8_acceptRanges), ("unicode/utf8.first", laid_unicode_utf8_first)], narrowed := true }
def FmathRemoveBelowValueUptoSaid : Prop := fmathRemoveBelowValueUptoRow.holds Tryz.pinned (OpenSpec.upto fmathRemoveBelowValueSpec)

/-- 'graticulelaw19.FmathRound', WHERE WHAT IT READS IS OF BULK AT MOST 1048576: true; the input reads as it did. -/
def fmathRoundUptoRow : OpenClaim := { program := "ytfomknfjidbdcaagreatdoor", sum := "2f21bfa25203aeeca8a62068111d914e48d4d251e50eca7f32cb79fb9cf7d250", func := "graticule/graticulelaw19.FmathRound", spec := "fmathRound", inPlace := ["internal/bytealg.IndexByteString", "internal/bytealg.IndexString", "internal/abi.NoEscape", "internal/bytealg.MakeNoZero"], unfollowed := true, recurses := true, named := ["math/bits.divideError", "math/bits.overflowError", "internal/strconv.uint64pow10", "math/bits.deBruijn32tab", "math/bits.deBruijn64tab", "unicode/utf8.first", "unicode/utf8.acceptRanges", "internal/bytealg.MaxLen"], apart := false, laid := [("math/bits.deBruijn32tab", laid_math_bits_deBruijn32tab), ("math/bits.deBruijn64tab", laid_math_bits_deBruijn64tab), ("internal/strconv.uint64pow10", laid_internal_strconv_uint64pow10), ("unicode/utf8.acceptRanges", laid_unicode_utf8_acceptRanges), ("unicode/utf8.first", laid_unicode_utf8_first)], narrowed := true }
def FmathRoundUptoSaid : Prop := fmathRoundUptoRow.holds Tryz.pinned (OpenSpec.upto fmathRoundSpec)

/-- 'graticulelaw19.FmathScale', WHERE WHAT IT READS IS OF BULK AT MOST 1048576: true; the input reads as it did. -/
def fmathScaleUptoRow : OpenClaim := { program := "ytfomknfjidbdcaagreatdoor", sum := "2f21bfa25203aeeca8a62068111d914e48d4d251e50eca7f32cb79fb9cf7d250", func := "graticule/graticulelaw19.FmathScale", spec := "fmathScale", inPlace := ["internal/bytealg.IndexByteString", "internal/bytealg.IndexString", "internal/abi.NoEscape", "internal/bytealg.MakeNoZero"], unfollowed := true, recurses := true, named := ["math/bits.divideError", "math/bits.overflowError", "internal/strconv.uint64pow10", "math/bits.deBruijn32tab", "math/bits.deBruijn64tab", "unicode/utf8.first", "unicode/utf8.acceptRanges", "internal/bytealg.MaxLen"], apart := false, laid := [("math/bits.deBruijn32tab", laid_math_bits_deBruijn32tab), ("math/bits.deBruijn64tab", laid_math_bits_deBruijn64tab), ("internal/strconv.uint64pow10", laid_internal_strconv_uint64pow10), ("unicode/utf8.acceptRanges", laid_unicode_utf8_acceptRanges), ("unicode/utf8.first", laid_unicode_utf8_first)], narrowed := true }
def FmathScaleUptoSaid : Prop := fmathScaleUptoRow.holds Tryz.pinned (OpenSpec.upto fmathScaleSpec)

/-- 'graticulelaw19.FmathScaleToSeconds', WHERE WHAT IT READS IS OF BULK AT MOST 1048576: true; the input reads as it did. -/
def fmathScaleToSecondsUptoRow : OpenClaim := { program := "ytfomknfjidbdcaagreatdoor", sum := "2f21bfa25203aeeca8a62068111d914e48d4d251e50eca7f32cb79fb9cf7d250", func := "graticule/graticulelaw19.FmathScaleToSeconds", spec := "fmathScaleToSeconds", inPlace := ["internal/bytealg.IndexByteString", "internal/bytealg.IndexString", "internal/abi.NoEscape", "internal/bytealg.MakeNoZero"], unfollowed := true, recurses := true, named := ["math/bits.divideError", "math/bits.overflowError", "internal/strconv.uint64pow10", "math/bits.deBruijn32tab", "math/bits.deBruijn64tab", "unicode/utf8.first", "unicode/utf8.acceptRanges", "internal/bytealg.MaxLen"], apart := false, laid := [("math/bits.deBruijn32tab", laid_math_bits_deBruijn32tab), ("math/bits.deBruijn64tab", laid_math_bits_deBruijn64tab), ("internal/strconv.uint64pow10", laid_internal_strconv_uint64pow10), ("unicode/utf8.acceptRanges", laid_unicode_utf8_acceptRanges), ("unicode/utf8.first", laid_unicode_utf8_first)], narrowed := true }
def FmathScaleToSecondsUptoSaid : Prop := fmathScaleToSecondsUptoRow.holds Tryz.pinned (OpenSpec.upto fmathScaleToSecondsSpec)

/-- 'graticulelaw19.FmathSign', WHERE WHAT IT READS IS OF BULK AT MOST 1048576: true; the input reads as it did. -/
def fmathSignUptoRow : OpenClaim := { program := "ytfomknfjidbdcaagreatdoor", sum := "2f21bfa25203aeeca8a62068111d914e48d4d251e50eca7f32cb79fb9cf7d250", func := "graticule/graticulelaw19.FmathSign", spec := "fmathSign", inPlace := ["internal/bytealg.IndexByteString", "internal/bytealg.IndexString", "internal/abi.NoEscape", "internal/bytealg.MakeNoZero"], unfollowed := true, recurses := true, named := ["math/bits.divideError", "math/bits.overflowError", "internal/strconv.uint64pow10", "math/bits.deBruijn32tab", "math/bits.deBruijn64tab", "unicode/utf8.first", "unicode/utf8.acceptRanges", "internal/bytealg.MaxLen"], apart := false, laid := [("math/bits.deBruijn32tab", laid_math_bits_deBruijn32tab), ("math/bits.deBruijn64tab", laid_math_bits_deBruijn64tab), ("internal/strconv.uint64pow10", laid_internal_strconv_uint64pow10), ("unicode/utf8.acceptRanges", laid_unicode_utf8_acceptRanges), ("unicode/utf8.first", laid_unicode_utf8_first)], narrowed := true }
def FmathSignUptoSaid : Prop := fmathSignUptoRow.holds Tryz.pinned (OpenSpec.upto fmathSignSpec)

/-- 'graticulelaw19.FmathSquareRoot', WHERE WHAT IT READS IS OF BULK AT MOST 1048576: true; the input reads as it did. -/
def fmathSquareRootUptoRow : OpenClaim := { program := "ytfomknfjidbdcaagreatdoor", sum := "2f21bfa25203aeeca8a62068111d914e48d4d251e50eca7f32cb79fb9cf7d250", func := "graticule/graticulelaw19.FmathSquareRoot", spec := "fmathSquareRoot", inPlace := ["internal/bytealg.IndexByteString", "internal/bytealg.IndexString", "internal/abi.NoEscape", "internal/bytealg.MakeNoZero"], unfollowed := true, recurses := true, named := ["math/bits.divideError", "math/bits.overflowError", "internal/strconv.uint64pow10", "math/bits.deBruijn32tab", "math/bits.deBruijn64tab", "unicode/utf8.first", "unicode/utf8.acceptRanges", "internal/bytealg.MaxLen"], apart := false, laid := [("math/bits.deBruijn32tab", laid_math_bits_deBruijn32tab), ("math/bits.deBruijn64tab", laid_math_bits_deBruijn64tab), ("internal/strconv.uint64pow10", laid_internal_strconv_uint64pow10), ("unicode/utf8.acceptRanges", laid_unicode_utf8_acceptRanges), ("unicode/utf8.first", laid_unicode_utf8_first)], narrowed := true }
def FmathSquareRootUptoSaid : Prop := fmathSquareRootUptoRow.holds Tryz.pinned (OpenSpec.upto fmathSquareRootSpec)

/-- 'graticulelaw19.FmathTransformNull', WHERE WHAT IT READS IS OF BULK AT MOST 1048576: true; the input reads as it did. -/
def fmathTransformNullUptoRow : OpenClaim := { program := "ytfomknfjidbdcaagreatdoor", sum := "2f21bfa25203aeeca8a62068111d914e48d4d251e50eca7f32cb79fb9cf7d250", func := "graticule/graticulelaw19.FmathTransformNull", spec := "fmathTransformNull", inPlace := ["internal/bytealg.IndexByteString", "internal/bytealg.IndexString", "internal/abi.NoEscape", "internal/bytealg.MakeNoZero"], unfollowed := true, recurses := true, named := ["math/bits.divideError", "math/bits.overflowError", "internal/strconv.uint64pow10", "math/bits.deBruijn32tab", "math/bits.deBruijn64tab", "unicode/utf8.first", "unicode/utf8.acceptRanges", "internal/bytealg.MaxLen"], apart := false, laid := [("math/bits.deBruijn32tab", laid_math_bits_deBruijn32tab), ("math/bits.deBruijn64tab", laid_math_bits_deBruijn64tab), ("internal/strconv.uint64pow10", laid_internal_strconv_uint64pow10), ("unicode/utf8.acceptRanges", laid_unicode_utf8_acceptRanges), ("unicode/utf8.first", laid_unicode_utf8_first)], narrowed := true }
def FmathTransformNullUptoSaid : Prop := fmathTransformNullUptoRow.holds Tryz.pinned (OpenSpec.upto fmathTransformNullSpec)

/-- 'graticulelaw19.FmathOthers', WHERE WHAT IT READS IS OF BULK AT MOST 1048576: true; the input reads as it did. -/
def fmathOthersUptoRow : OpenClaim := { program := "ytfomknfjidbdcaagreatdoor", sum := "2f21bfa25203aeeca8a62068111d914e48d4d251e50eca7f32cb79fb9cf7d250", func := "graticule/graticulelaw19.FmathOthers", spec := "fmathOthers", inPlace := ["internal/bytealg.IndexByteString", "internal/bytealg.IndexString", "internal/abi.NoEscape", "internal/bytealg.MakeNoZero"], unfollowed := true, recurses := true, named := ["math/bits.divideError", "math/bits.overflowError", "internal/strconv.uint64pow10", "math/bits.deBruijn32tab", "math/bits.deBruijn64tab", "unicode/utf8.first", "unicode/utf8.acceptRanges", "internal/bytealg.MaxLen"], apart := false, laid := [("math/bits.deBruijn32tab", laid_math_bits_deBruijn32tab), ("math/bits.deBruijn64tab", laid_math_bits_deBruijn64tab), ("internal/strconv.uint64pow10", laid_internal_strconv_uint64pow10), ("unicode/utf8.acceptRanges", laid_unicode_utf8_acceptRanges), ("unicode/utf8.first", laid_unicode_utf8_first)], narrowed := true }
def FmathOthersUptoSaid : Prop := fmathOthersUptoRow.holds Tryz.pinned (OpenSpec.upto fmathOthersSpec)

end Rows
end Go.Proofs.YtfomknfjidbdcaaGreatDoor
