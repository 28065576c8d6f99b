/-
  NARROWER THAN 'FOR EVERY INPUT', by the rows' own cells (each row's printed sentence says how): PictureEdits: laid · PictureReads: laid · PicturePunches: laid · PictureReadsBack: laid · PictureScales: laid · PictureOrders: laid · PictureSuppresses: laid · PictureSigns: laid · PictureCharacters: laid · PictureRepeats: laid · PictureParses: laid · PictureFits: laid · PictureZeros: laid · PictureFills: laid · PicturePlaces: laid · PictureShapes: laid.
  DERIVED. THE GIVEN ROWS OF THIS SEAT. 16 by the template 'for every input the law returns true; each argument reads behind the call as it read before'; 0 by the template 'total and deterministic' (their statements: YtheglfmhbfngkaaGreatDoorTotals.lean).
  GIVEN WITH THE SEED: the statements are not yours to turn. If you find one false, say at which input.
  Laid BY PROGRAM, IN A SANDBOX (cutbox-rows.mjs): the forced cells as the released guide's own fill.sh prints them over the translation bc2dcb264ec45bec… (all of the seat's roots in one cut). By AI agents, Wed Nov 11 2026. No macro, syntax, notation, axiom, sorry.
-/
import Derived.Test.YtheglfmhbfngkaaGreatDoorChecked
import GoSem.PinnedTables
import GoSem.Claim
import GoSem.ClaimJoined
import GoSem.ClaimMapViews
import Derived.JoinedTies
import Derived.KernelRfl
namespace Go.Proofs.YtheglfmhbfngkaaGreatDoor
/- THE CELL 'sum', in the pinned program and in every row, IS THE sha256 OF THE DUMP (.gsa) THAT YtheglfmhbfngkaaGreatDoorProg.lean LOADS. Nothing in Lean hashes anything: it is a label: what it is worth is what the hold of that sum in a sandbox is worth. -/
noncomputable def Tryz.pinned : Pinned := { name := "ytheglfmhbfngkaagreatdoor", sum := "bc2dcb264ec45beceae26c990d2bbee66bf13ee665acc9c3195480f9b9644ec7", checked := Tryz.checked }
namespace Rows
def none {H : Type} : Left H := { results := [], args := [] }

/- WHAT THE LISTED PACKAGE-LEVEL VARIABLES READ AS WHEN THE CALL BEGINS. Each datum BY PROGRAM (the guide's laid-datum.mjs) off the statement by which the dump's own 'gosem.cut.vars' lays the variable. In a bare row this is a premise. The card (YtheglfmhbfngkaaGreatDoorCards.lean) ties it to the program's text. -/
def laid_math_bits_deBruijn32tab {H : Type} : DataW H := .agg [.lit (.int .u8 0), .lit (.int .u8 1), .lit (.int .u8 28), .lit (.int .u8 2), .lit (.int .u8 29), .lit (.int .u8 14), .lit (.int .u8 24), .lit (.int .u8 3), .lit (.int .u8 30), .lit (.int .u8 22), .lit (.int .u8 20), .lit (.int .u8 15), .lit (.int .u8 25), .lit (.int .u8 17), .lit (.int .u8 4), .lit (.int .u8 8), .lit (.int .u8 31), .lit (.int .u8 27), .lit (.int .u8 13), .lit (.int .u8 23), .lit (.int .u8 21), .lit (.int .u8 19), .lit (.int .u8 16), .lit (.int .u8 7), .lit (.int .u8 26), .lit (.int .u8 12), .lit (.int .u8 18), .lit (.int .u8 6), .lit (.int .u8 11), .lit (.int .u8 5), .lit (.int .u8 10), .lit (.int .u8 9)]
def laid_math_bits_deBruijn64tab {H : Type} : DataW H := .agg [.lit (.int .u8 0), .lit (.int .u8 1), .lit (.int .u8 56), .lit (.int .u8 2), .lit (.int .u8 57), .lit (.int .u8 49), .lit (.int .u8 28), .lit (.int .u8 3), .lit (.int .u8 61), .lit (.int .u8 58), .lit (.int .u8 42), .lit (.int .u8 50), .lit (.int .u8 38), .lit (.int .u8 29), .lit (.int .u8 17), .lit (.int .u8 4), .lit (.int .u8 62), .lit (.int .u8 47), .lit (.int .u8 59), .lit (.int .u8 36), .lit (.int .u8 45), .lit (.int .u8 43), .lit (.int .u8 51), .lit (.int .u8 22), .lit (.int .u8 53), .lit (.int .u8 39), .lit (.int .u8 33), .lit (.int .u8 30), .lit (.int .u8 24), .lit (.int .u8 18), .lit (.int .u8 12), .lit (.int .u8 5), .lit (.int .u8 63), .lit (.int .u8 55), .lit (.int .u8 48), .lit (.int .u8 27), .lit (.int .u8 60), .lit (.int .u8 41), .lit (.int .u8 37), .lit (.int .u8 16), .lit (.int .u8 46), .lit (.int .u8 35), .lit (.int .u8 44), .lit (.int .u8 21), .lit (.int .u8 52), .lit (.int .u8 32), .lit (.int .u8 23), .lit (.int .u8 11), .lit (.int .u8 54), .lit (.int .u8 26), .lit (.int .u8 40), .lit (.int .u8 15), .lit (.int .u8 34), .lit (.int .u8 20), .lit (.int .u8 31), .lit (.int .u8 10), .lit (.int .u8 25), .lit (.int .u8 14), .lit (.int .u8 19), .lit (.int .u8 9), .lit (.int .u8 13), .lit (.int .u8 8), .lit (.int .u8 7), .lit (.int .u8 6)]
def laid_internal_strconv_uint64pow10 {H : Type} : DataW H := .agg [.lit (.int .u64 1), .lit (.int .u64 10), .lit (.int .u64 100), .lit (.int .u64 1000), .lit (.int .u64 10000), .lit (.int .u64 100000), .lit (.int .u64 1000000), .lit (.int .u64 10000000), .lit (.int .u64 100000000), .lit (.int .u64 1000000000), .lit (.int .u64 10000000000), .lit (.int .u64 100000000000), .lit (.int .u64 1000000000000), .lit (.int .u64 10000000000000), .lit (.int .u64 100000000000000), .lit (.int .u64 1000000000000000), .lit (.int .u64 10000000000000000), .lit (.int .u64 100000000000000000), .lit (.int .u64 1000000000000000000), .lit (.int .u64 10000000000000000000)]
def laid_unicode_utf8_acceptRanges {H : Type} : DataW H := .agg [.agg [.lit (.int .u8 128), .lit (.int .u8 191)], .agg [.lit (.int .u8 160), .lit (.int .u8 191)], .agg [.lit (.int .u8 128), .lit (.int .u8 159)], .agg [.lit (.int .u8 144), .lit (.int .u8 191)], .agg [.lit (.int .u8 128), .lit (.int .u8 143)], .agg [.lit (.int .u8 0), .lit (.int .u8 0)], .agg [.lit (.int .u8 0), .lit (.int .u8 0)], .agg [.lit (.int .u8 0), .lit (.int .u8 0)], .agg [.lit (.int .u8 0), .lit (.int .u8 0)], .agg [.lit (.int .u8 0), .lit (.int .u8 0)], .agg [.lit (.int .u8 0), .lit (.int .u8 0)], .agg [.lit (.int .u8 0), .lit (.int .u8 0)], .agg [.lit (.int .u8 0), .lit (.int .u8 0)], .agg [.lit (.int .u8 0), .lit (.int .u8 0)], .agg [.lit (.int .u8 0), .lit (.int .u8 0)], .agg [.lit (.int .u8 0), .lit (.int .u8 0)]]
def laid_strconv_ErrRange {H : Type} : DataW H := .iface "*errors.errorString" (.ptr (.agg [.lit (.string [118, 97, 108, 117, 101, 32, 111, 117, 116, 32, 111, 102, 32, 114, 97, 110, 103, 101])]))
def laid_strconv_ErrSyntax {H : Type} : DataW H := .iface "*errors.errorString" (.ptr (.agg [.lit (.string [105, 110, 118, 97, 108, 105, 100, 32, 115, 121, 110, 116, 97, 120])]))
def laid_pliant_picture_punched {H : Type} : DataW H := .agg [.lit (.int .u8 123), .lit (.int .u8 65), .lit (.int .u8 66), .lit (.int .u8 67), .lit (.int .u8 68), .lit (.int .u8 69), .lit (.int .u8 70), .lit (.int .u8 71), .lit (.int .u8 72), .lit (.int .u8 73), .lit (.int .u8 125), .lit (.int .u8 74), .lit (.int .u8 75), .lit (.int .u8 76), .lit (.int .u8 77), .lit (.int .u8 78), .lit (.int .u8 79), .lit (.int .u8 80), .lit (.int .u8 81), .lit (.int .u8 82)]
/-- One of Go's own tables, pinned by name: the form's constant. -/
def laid_unicode_utf8_first : DataW Unit := Go.Pinned.utf8First

/-- 'pliantlaw03.PictureEdits': WHATEVER THE INPUT: true; the input reads as it did. -/
def pictureEditsSpec : ChangeSpec := { name := "pictureEdits", fn := fun _ => fun
  | [d1, d2, d3] => { results := [.lit (.bool true)], args := [d1, d2, d3] }
  | _ => none }
def pictureEditsRow : OpenClaim := { program := "ytheglfmhbfngkaagreatdoor", sum := "bc2dcb264ec45beceae26c990d2bbee66bf13ee665acc9c3195480f9b9644ec7", func := "pliant/pliantlaw03.PictureEdits", spec := "pictureEdits", inPlace := ["internal/bytealg.IndexByteString", "internal/bytealg.IndexString", "internal/bytealg.CountString", "internal/abi.NoEscape", "internal/bytealg.MakeNoZero"], unfollowed := true, recurses := true, named := ["unicode/utf8.first", "unicode/utf8.acceptRanges", "internal/bytealg.MaxLen", "internal/strconv.uint64pow10", "math/bits.deBruijn32tab", "math/bits.deBruijn64tab", "pliant/picture.punched", "strconv.ErrSyntax", "strconv.ErrRange"], apart := false, laid := [("math/bits.deBruijn32tab", laid_math_bits_deBruijn32tab), ("math/bits.deBruijn64tab", laid_math_bits_deBruijn64tab), ("internal/strconv.uint64pow10", laid_internal_strconv_uint64pow10), ("unicode/utf8.acceptRanges", laid_unicode_utf8_acceptRanges), ("strconv.ErrRange", laid_strconv_ErrRange), ("strconv.ErrSyntax", laid_strconv_ErrSyntax), ("pliant/picture.punched", laid_pliant_picture_punched), ("unicode/utf8.first", laid_unicode_utf8_first)] }
def PictureEditsSaid : Prop := pictureEditsRow.holds Tryz.pinned (OpenSpec.ofChange pictureEditsSpec)

/-- ITS FALSE NEIGHBOUR: 'it returns false'. Refute it at one input. -/
def pictureEditsWrong : ChangeSpec := { name := "pictureEdits", fn := fun _ => fun
  | [d1, d2, d3] => { results := [.lit (.bool false)], args := [d1, d2, d3] }
  | _ => none }
def PictureEditsWrongFalsely : Prop := pictureEditsRow.holds Tryz.pinned (OpenSpec.ofChange pictureEditsWrong)

/-- 'pliantlaw03.PictureReads': WHATEVER THE INPUT: true; the input reads as it did. -/
def pictureReadsSpec : ChangeSpec := { name := "pictureReads", fn := fun _ => fun
  | [d1, d2] => { results := [.lit (.bool true)], args := [d1, d2] }
  | _ => none }
def pictureReadsRow : OpenClaim := { program := "ytheglfmhbfngkaagreatdoor", sum := "bc2dcb264ec45beceae26c990d2bbee66bf13ee665acc9c3195480f9b9644ec7", func := "pliant/pliantlaw03.PictureReads", spec := "pictureReads", inPlace := ["internal/bytealg.IndexByteString", "internal/bytealg.IndexString", "internal/bytealg.CountString", "internal/abi.NoEscape", "internal/bytealg.MakeNoZero"], unfollowed := true, recurses := true, named := ["unicode/utf8.first", "unicode/utf8.acceptRanges", "internal/bytealg.MaxLen", "internal/strconv.uint64pow10", "math/bits.deBruijn32tab", "math/bits.deBruijn64tab", "pliant/picture.punched", "strconv.ErrSyntax", "strconv.ErrRange"], apart := false, laid := [("math/bits.deBruijn32tab", laid_math_bits_deBruijn32tab), ("math/bits.deBruijn64tab", laid_math_bits_deBruijn64tab), ("internal/strconv.uint64pow10", laid_internal_strconv_uint64pow10), ("unicode/utf8.acceptRanges", laid_unicode_utf8_acceptRanges), ("strconv.ErrRange", laid_strconv_ErrRange), ("strconv.ErrSyntax", laid_strconv_ErrSyntax), ("pliant/picture.punched", laid_pliant_picture_punched), ("unicode/utf8.first", laid_unicode_utf8_first)] }
def PictureReadsSaid : Prop := pictureReadsRow.holds Tryz.pinned (OpenSpec.ofChange pictureReadsSpec)

/-- ITS FALSE NEIGHBOUR: 'it returns false'. Refute it at one input. -/
def pictureReadsWrong : ChangeSpec := { name := "pictureReads", fn := fun _ => fun
  | [d1, d2] => { results := [.lit (.bool false)], args := [d1, d2] }
  | _ => none }
def PictureReadsWrongFalsely : Prop := pictureReadsRow.holds Tryz.pinned (OpenSpec.ofChange pictureReadsWrong)

/-- 'pliantlaw03.PicturePunches': WHATEVER THE INPUT: true; the input reads as it did. -/
def picturePunchesSpec : ChangeSpec := { name := "picturePunches", fn := fun _ => fun
  | [d1, d2, d3] => { results := [.lit (.bool true)], args := [d1, d2, d3] }
  | _ => none }
def picturePunchesRow : OpenClaim := { program := "ytheglfmhbfngkaagreatdoor", sum := "bc2dcb264ec45beceae26c990d2bbee66bf13ee665acc9c3195480f9b9644ec7", func := "pliant/pliantlaw03.PicturePunches", spec := "picturePunches", inPlace := ["internal/bytealg.IndexByteString", "internal/bytealg.IndexString", "internal/bytealg.CountString", "internal/abi.NoEscape", "internal/bytealg.MakeNoZero"], unfollowed := true, recurses := true, named := ["unicode/utf8.first", "unicode/utf8.acceptRanges", "internal/bytealg.MaxLen", "internal/strconv.uint64pow10", "math/bits.deBruijn32tab", "math/bits.deBruijn64tab", "pliant/picture.punched", "strconv.ErrSyntax", "strconv.ErrRange"], apart := false, laid := [("math/bits.deBruijn32tab", laid_math_bits_deBruijn32tab), ("math/bits.deBruijn64tab", laid_math_bits_deBruijn64tab), ("internal/strconv.uint64pow10", laid_internal_strconv_uint64pow10), ("unicode/utf8.acceptRanges", laid_unicode_utf8_acceptRanges), ("strconv.ErrRange", laid_strconv_ErrRange), ("strconv.ErrSyntax", laid_strconv_ErrSyntax), ("pliant/picture.punched", laid_pliant_picture_punched), ("unicode/utf8.first", laid_unicode_utf8_first)] }
def PicturePunchesSaid : Prop := picturePunchesRow.holds Tryz.pinned (OpenSpec.ofChange picturePunchesSpec)

/-- ITS FALSE NEIGHBOUR: 'it returns false'. Refute it at one input. -/
def picturePunchesWrong : ChangeSpec := { name := "picturePunches", fn := fun _ => fun
  | [d1, d2, d3] => { results := [.lit (.bool false)], args := [d1, d2, d3] }
  | _ => none }
def PicturePunchesWrongFalsely : Prop := picturePunchesRow.holds Tryz.pinned (OpenSpec.ofChange picturePunchesWrong)

/-- 'pliantlaw03.PictureReadsBack': WHATEVER THE INPUT: true; the input reads as it did. -/
def pictureReadsBackSpec : ChangeSpec := { name := "pictureReadsBack", fn := fun _ => fun
  | [d1, d2, d3] => { results := [.lit (.bool true)], args := [d1, d2, d3] }
  | _ => none }
def pictureReadsBackRow : OpenClaim := { program := "ytheglfmhbfngkaagreatdoor", sum := "bc2dcb264ec45beceae26c990d2bbee66bf13ee665acc9c3195480f9b9644ec7", func := "pliant/pliantlaw03.PictureReadsBack", spec := "pictureReadsBack", inPlace := ["internal/bytealg.IndexByteString", "internal/bytealg.IndexString", "internal/bytealg.CountString", "internal/abi.NoEscape", "internal/bytealg.MakeNoZero"], unfollowed := true, recurses := true, named := ["unicode/utf8.first", "unicode/utf8.acceptRanges", "internal/bytealg.MaxLen", "internal/strconv.uint64pow10", "math/bits.deBruijn32tab", "math/bits.deBruijn64tab", "pliant/picture.punched", "strconv.ErrSyntax", "strconv.ErrRange"], apart := false, laid := [("math/bits.deBruijn32tab", laid_math_bits_deBruijn32tab), ("math/bits.deBruijn64tab", laid_math_bits_deBruijn64tab), ("internal/strconv.uint64pow10", laid_internal_strconv_uint64pow10), ("unicode/utf8.acceptRanges", laid_unicode_utf8_acceptRanges), ("strconv.ErrRange", laid_strconv_ErrRange), ("strconv.ErrSyntax", laid_strconv_ErrSyntax), ("pliant/picture.punched", laid_pliant_picture_punched), ("unicode/utf8.first", laid_unicode_utf8_first)] }
def PictureReadsBackSaid : Prop := pictureReadsBackRow.holds Tryz.pinned (OpenSpec.ofChange pictureReadsBackSpec)

/-- ITS FALSE NEIGHBOUR: 'it returns false'. Refute it at one input. -/
def pictureReadsBackWrong : ChangeSpec := { name := "pictureReadsBack", fn := fun _ => fun
  | [d1, d2, d3] => { results := [.lit (.bool false)], args := [d1, d2, d3] }
  | _ => none }
def PictureReadsBackWrongFalsely : Prop := pictureReadsBackRow.holds Tryz.pinned (OpenSpec.ofChange pictureReadsBackWrong)

/-- 'pliantlaw03.PictureScales': WHATEVER THE INPUT: true; the input reads as it did. -/
def pictureScalesSpec : ChangeSpec := { name := "pictureScales", fn := fun _ => fun
  | [d] => { results := [.lit (.bool true)], args := [d] }
  | _ => none }
def pictureScalesRow : OpenClaim := { program := "ytheglfmhbfngkaagreatdoor", sum := "bc2dcb264ec45beceae26c990d2bbee66bf13ee665acc9c3195480f9b9644ec7", func := "pliant/pliantlaw03.PictureScales", spec := "pictureScales", inPlace := ["internal/bytealg.IndexByteString", "internal/bytealg.IndexString", "internal/bytealg.CountString", "internal/abi.NoEscape", "internal/bytealg.MakeNoZero"], unfollowed := true, recurses := true, named := ["unicode/utf8.first", "unicode/utf8.acceptRanges", "internal/bytealg.MaxLen", "internal/strconv.uint64pow10", "math/bits.deBruijn32tab", "math/bits.deBruijn64tab", "pliant/picture.punched", "strconv.ErrSyntax", "strconv.ErrRange"], apart := false, laid := [("math/bits.deBruijn32tab", laid_math_bits_deBruijn32tab), ("math/bits.deBruijn64tab", laid_math_bits_deBruijn64tab), ("internal/strconv.uint64pow10", laid_internal_strconv_uint64pow10), ("unicode/utf8.acceptRanges", laid_unicode_utf8_acceptRanges), ("strconv.ErrRange", laid_strconv_ErrRange), ("strconv.ErrSyntax", laid_strconv_ErrSyntax), ("pliant/picture.punched", laid_pliant_picture_punched), ("unicode/utf8.first", laid_unicode_utf8_first)] }
def PictureScalesSaid : Prop := pictureScalesRow.holds Tryz.pinned (OpenSpec.ofChange pictureScalesSpec)

/-- ITS FALSE NEIGHBOUR: 'it returns false'. Refute it at one input. -/
def pictureScalesWrong : ChangeSpec := { name := "pictureScales", fn := fun _ => fun
  | [d] => { results := [.lit (.bool false)], args := [d] }
  | _ => none }
def PictureScalesWrongFalsely : Prop := pictureScalesRow.holds Tryz.pinned (OpenSpec.ofChange pictureScalesWrong)

/-- 'pliantlaw03.PictureOrders': WHATEVER THE INPUT: true; the input reads as it did. -/
def pictureOrdersSpec : ChangeSpec := { name := "pictureOrders", fn := fun _ => fun
  | [d1, d2, d3] => { results := [.lit (.bool true)], args := [d1, d2, d3] }
  | _ => none }
def pictureOrdersRow : OpenClaim := { program := "ytheglfmhbfngkaagreatdoor", sum := "bc2dcb264ec45beceae26c990d2bbee66bf13ee665acc9c3195480f9b9644ec7", func := "pliant/pliantlaw03.PictureOrders", spec := "pictureOrders", inPlace := ["internal/bytealg.IndexByteString", "internal/bytealg.IndexString", "internal/bytealg.CountString", "internal/abi.NoEscape", "internal/bytealg.MakeNoZero"], unfollowed := true, recurses := true, named := ["unicode/utf8.first", "unicode/utf8.acceptRanges", "internal/bytealg.MaxLen", "internal/strconv.uint64pow10", "math/bits.deBruijn32tab", "math/bits.deBruijn64tab", "pliant/picture.punched", "strconv.ErrSyntax", "strconv.ErrRange"], apart := false, laid := [("math/bits.deBruijn32tab", laid_math_bits_deBruijn32tab), ("math/bits.deBruijn64tab", laid_math_bits_deBruijn64tab), ("internal/strconv.uint64pow10", laid_internal_strconv_uint64pow10), ("unicode/utf8.acceptRanges", laid_unicode_utf8_acceptRanges), ("strconv.ErrRange", laid_strconv_ErrRange), ("strconv.ErrSyntax", laid_strconv_ErrSyntax), ("pliant/picture.punched", laid_pliant_picture_punched), ("unicode/utf8.first", laid_unicode_utf8_first)] }
def PictureOrdersSaid : Prop := pictureOrdersRow.holds Tryz.pinned (OpenSpec.ofChange pictureOrdersSpec)

/-- ITS FALSE NEIGHBOUR: 'it returns false'. Refute it at one input. -/
def pictureOrdersWrong : ChangeSpec := { name := "pictureOrders", fn := fun _ => fun
  | [d1, d2, d3] => { results := [.lit (.bool false)], args := [d1, d2, d3] }
  | _ => none }
def PictureOrdersWrongFalsely : Prop := pictureOrdersRow.holds Tryz.pinned (OpenSpec.ofChange pictureOrdersWrong)

/-- 'pliantlaw03.PictureSuppresses': WHATEVER THE INPUT: true; the input reads as it did. -/
def pictureSuppressesSpec : ChangeSpec := { name := "pictureSuppresses", fn := fun _ => fun
  | [d1, d2] => { results := [.lit (.bool true)], args := [d1, d2] }
  | _ => none }
def pictureSuppressesRow : OpenClaim := { program := "ytheglfmhbfngkaagreatdoor", sum := "bc2dcb264ec45beceae26c990d2bbee66bf13ee665acc9c3195480f9b9644ec7", func := "pliant/pliantlaw03.PictureSuppresses", spec := "pictureSuppresses", inPlace := ["internal/bytealg.IndexByteString", "internal/bytealg.IndexString", "internal/bytealg.CountString", "internal/abi.NoEscape", "internal/bytealg.MakeNoZero"], unfollowed := true, recurses := true, named := ["unicode/utf8.first", "unicode/utf8.acceptRanges", "internal/bytealg.MaxLen", "internal/strconv.uint64pow10", "math/bits.deBruijn32tab", "math/bits.deBruijn64tab", "pliant/picture.punched", "strconv.ErrSyntax", "strconv.ErrRange"], apart := false, laid := [("math/bits.deBruijn32tab", laid_math_bits_deBruijn32tab), ("math/bits.deBruijn64tab", laid_math_bits_deBruijn64tab), ("internal/strconv.uint64pow10", laid_internal_strconv_uint64pow10), ("unicode/utf8.acceptRanges", laid_unicode_utf8_acceptRanges), ("strconv.ErrRange", laid_strconv_ErrRange), ("strconv.ErrSyntax", laid_strconv_ErrSyntax), ("pliant/picture.punched", laid_pliant_picture_punched), ("unicode/utf8.first", laid_unicode_utf8_first)] }
def PictureSuppressesSaid : Prop := pictureSuppressesRow.holds Tryz.pinned (OpenSpec.ofChange pictureSuppressesSpec)

/-- ITS FALSE NEIGHBOUR: 'it returns false'. Refute it at one input. -/
def pictureSuppressesWrong : ChangeSpec := { name := "pictureSuppresses", fn := fun _ => fun
  | [d1, d2] => { results := [.lit (.bool false)], args := [d1, d2] }
  | _ => none }
def PictureSuppressesWrongFalsely : Prop := pictureSuppressesRow.holds Tryz.pinned (OpenSpec.ofChange pictureSuppressesWrong)

/-- 'pliantlaw03.PictureSigns': WHATEVER THE INPUT: true; the input reads as it did. -/
def pictureSignsSpec : ChangeSpec := { name := "pictureSigns", fn := fun _ => fun
  | [d1, d2] => { results := [.lit (.bool true)], args := [d1, d2] }
  | _ => none }
def pictureSignsRow : OpenClaim := { program := "ytheglfmhbfngkaagreatdoor", sum := "bc2dcb264ec45beceae26c990d2bbee66bf13ee665acc9c3195480f9b9644ec7", func := "pliant/pliantlaw03.PictureSigns", spec := "pictureSigns", inPlace := ["internal/bytealg.IndexByteString", "internal/bytealg.IndexString", "internal/bytealg.CountString", "internal/abi.NoEscape", "internal/bytealg.MakeNoZero"], unfollowed := true, recurses := true, named := ["unicode/utf8.first", "unicode/utf8.acceptRanges", "internal/bytealg.MaxLen", "internal/strconv.uint64pow10", "math/bits.deBruijn32tab", "math/bits.deBruijn64tab", "pliant/picture.punched", "strconv.ErrSyntax", "strconv.ErrRange"], apart := false, laid := [("math/bits.deBruijn32tab", laid_math_bits_deBruijn32tab), ("math/bits.deBruijn64tab", laid_math_bits_deBruijn64tab), ("internal/strconv.uint64pow10", laid_internal_strconv_uint64pow10), ("unicode/utf8.acceptRanges", laid_unicode_utf8_acceptRanges), ("strconv.ErrRange", laid_strconv_ErrRange), ("strconv.ErrSyntax", laid_strconv_ErrSyntax), ("pliant/picture.punched", laid_pliant_picture_punched), ("unicode/utf8.first", laid_unicode_utf8_first)] }
def PictureSignsSaid : Prop := pictureSignsRow.holds Tryz.pinned (OpenSpec.ofChange pictureSignsSpec)

/-- ITS FALSE NEIGHBOUR: 'it returns false'. Refute it at one input. -/
def pictureSignsWrong : ChangeSpec := { name := "pictureSigns", fn := fun _ => fun
  | [d1, d2] => { results := [.lit (.bool false)], args := [d1, d2] }
  | _ => none }
def PictureSignsWrongFalsely : Prop := pictureSignsRow.holds Tryz.pinned (OpenSpec.ofChange pictureSignsWrong)

/-- 'pliantlaw03.PictureCharacters': WHATEVER THE INPUT: true; the input reads as it did. -/
def pictureCharactersSpec : ChangeSpec := { name := "pictureCharacters", fn := fun _ => fun
  | [d] => { results := [.lit (.bool true)], args := [d] }
  | _ => none }
def pictureCharactersRow : OpenClaim := { program := "ytheglfmhbfngkaagreatdoor", sum := "bc2dcb264ec45beceae26c990d2bbee66bf13ee665acc9c3195480f9b9644ec7", func := "pliant/pliantlaw03.PictureCharacters", spec := "pictureCharacters", inPlace := ["internal/bytealg.IndexByteString", "internal/bytealg.IndexString", "internal/bytealg.CountString", "internal/abi.NoEscape", "internal/bytealg.MakeNoZero"], unfollowed := true, recurses := true, named := ["unicode/utf8.first", "unicode/utf8.acceptRanges", "internal/bytealg.MaxLen", "internal/strconv.uint64pow10", "math/bits.deBruijn32tab", "math/bits.deBruijn64tab", "pliant/picture.punched", "strconv.ErrSyntax", "strconv.ErrRange"], apart := false, laid := [("math/bits.deBruijn32tab", laid_math_bits_deBruijn32tab), ("math/bits.deBruijn64tab", laid_math_bits_deBruijn64tab), ("internal/strconv.uint64pow10", laid_internal_strconv_uint64pow10), ("unicode/utf8.acceptRanges", laid_unicode_utf8_acceptRanges), ("strconv.ErrRange", laid_strconv_ErrRange), ("strconv.ErrSyntax", laid_strconv_ErrSyntax), ("pliant/picture.punched", laid_pliant_picture_punched), ("unicode/utf8.first", laid_unicode_utf8_first)] }
def PictureCharactersSaid : Prop := pictureCharactersRow.holds Tryz.pinned (OpenSpec.ofChange pictureCharactersSpec)

/-- ITS FALSE NEIGHBOUR: 'it returns false'. Refute it at one input. -/
def pictureCharactersWrong : ChangeSpec := { name := "pictureCharacters", fn := fun _ => fun
  | [d] => { results := [.lit (.bool false)], args := [d] }
  | _ => none }
def PictureCharactersWrongFalsely : Prop := pictureCharactersRow.holds Tryz.pinned (OpenSpec.ofChange pictureCharactersWrong)

/-- 'pliantlaw03.PictureRepeats': WHATEVER THE INPUT: true; the input reads as it did. -/
def pictureRepeatsSpec : ChangeSpec := { name := "pictureRepeats", fn := fun _ => fun
  | [d] => { results := [.lit (.bool true)], args := [d] }
  | _ => none }
def pictureRepeatsRow : OpenClaim := { program := "ytheglfmhbfngkaagreatdoor", sum := "bc2dcb264ec45beceae26c990d2bbee66bf13ee665acc9c3195480f9b9644ec7", func := "pliant/pliantlaw03.PictureRepeats", spec := "pictureRepeats", inPlace := ["internal/bytealg.IndexByteString", "internal/bytealg.IndexString", "internal/bytealg.CountString", "internal/abi.NoEscape", "internal/bytealg.MakeNoZero"], unfollowed := true, recurses := true, named := ["unicode/utf8.first", "unicode/utf8.acceptRanges", "internal/bytealg.MaxLen", "internal/strconv.uint64pow10", "math/bits.deBruijn32tab", "math/bits.deBruijn64tab", "pliant/picture.punched", "strconv.ErrSyntax", "strconv.ErrRange"], apart := false, laid := [("math/bits.deBruijn32tab", laid_math_bits_deBruijn32tab), ("math/bits.deBruijn64tab", laid_math_bits_deBruijn64tab), ("internal/strconv.uint64pow10", laid_internal_strconv_uint64pow10), ("unicode/utf8.acceptRanges", laid_unicode_utf8_acceptRanges), ("strconv.ErrRange", laid_strconv_ErrRange), ("strconv.ErrSyntax", laid_strconv_ErrSyntax), ("pliant/picture.punched", laid_pliant_picture_punched), ("unicode/utf8.first", laid_unicode_utf8_first)] }
def PictureRepeatsSaid : Prop := pictureRepeatsRow.holds Tryz.pinned (OpenSpec.ofChange pictureRepeatsSpec)

/-- ITS FALSE NEIGHBOUR: 'it returns false'. Refute it at one input. -/
def pictureRepeatsWrong : ChangeSpec := { name := "pictureRepeats", fn := fun _ => fun
  | [d] => { results := [.lit (.bool false)], args := [d] }
  | _ => none }
def PictureRepeatsWrongFalsely : Prop := pictureRepeatsRow.holds Tryz.pinned (OpenSpec.ofChange pictureRepeatsWrong)

/-- 'pliantlaw03.PictureParses': WHATEVER THE INPUT: true; the input reads as it did. -/
def pictureParsesSpec : ChangeSpec := { name := "pictureParses", fn := fun _ => fun
  | [d] => { results := [.lit (.bool true)], args := [d] }
  | _ => none }
def pictureParsesRow : OpenClaim := { program := "ytheglfmhbfngkaagreatdoor", sum := "bc2dcb264ec45beceae26c990d2bbee66bf13ee665acc9c3195480f9b9644ec7", func := "pliant/pliantlaw03.PictureParses", spec := "pictureParses", inPlace := ["internal/bytealg.IndexByteString", "internal/bytealg.IndexString", "internal/bytealg.CountString", "internal/abi.NoEscape", "internal/bytealg.MakeNoZero"], unfollowed := true, recurses := true, named := ["unicode/utf8.first", "unicode/utf8.acceptRanges", "internal/bytealg.MaxLen", "internal/strconv.uint64pow10", "math/bits.deBruijn32tab", "math/bits.deBruijn64tab", "pliant/picture.punched", "strconv.ErrSyntax", "strconv.ErrRange"], apart := false, laid := [("math/bits.deBruijn32tab", laid_math_bits_deBruijn32tab), ("math/bits.deBruijn64tab", laid_math_bits_deBruijn64tab), ("internal/strconv.uint64pow10", laid_internal_strconv_uint64pow10), ("unicode/utf8.acceptRanges", laid_unicode_utf8_acceptRanges), ("strconv.ErrRange", laid_strconv_ErrRange), ("strconv.ErrSyntax", laid_strconv_ErrSyntax), ("pliant/picture.punched", laid_pliant_picture_punched), ("unicode/utf8.first", laid_unicode_utf8_first)] }
def PictureParsesSaid : Prop := pictureParsesRow.holds Tryz.pinned (OpenSpec.ofChange pictureParsesSpec)

/-- ITS FALSE NEIGHBOUR: 'it returns false'. Refute it at one input. -/
def pictureParsesWrong : ChangeSpec := { name := "pictureParses", fn := fun _ => fun
  | [d] => { results := [.lit (.bool false)], args := [d] }
  | _ => none }
def PictureParsesWrongFalsely : Prop := pictureParsesRow.holds Tryz.pinned (OpenSpec.ofChange pictureParsesWrong)

/-- 'pliantlaw03.PictureFits': WHATEVER THE INPUT: true; the input reads as it did. -/
def pictureFitsSpec : ChangeSpec := { name := "pictureFits", fn := fun _ => fun
  | [d1, d2, d3] => { results := [.lit (.bool true)], args := [d1, d2, d3] }
  | _ => none }
def pictureFitsRow : OpenClaim := { program := "ytheglfmhbfngkaagreatdoor", sum := "bc2dcb264ec45beceae26c990d2bbee66bf13ee665acc9c3195480f9b9644ec7", func := "pliant/pliantlaw03.PictureFits", spec := "pictureFits", inPlace := ["internal/bytealg.IndexByteString", "internal/bytealg.IndexString", "internal/bytealg.CountString", "internal/abi.NoEscape", "internal/bytealg.MakeNoZero"], unfollowed := true, recurses := true, named := ["unicode/utf8.first", "unicode/utf8.acceptRanges", "internal/bytealg.MaxLen", "internal/strconv.uint64pow10", "math/bits.deBruijn32tab", "math/bits.deBruijn64tab", "pliant/picture.punched", "strconv.ErrSyntax", "strconv.ErrRange"], apart := false, laid := [("math/bits.deBruijn32tab", laid_math_bits_deBruijn32tab), ("math/bits.deBruijn64tab", laid_math_bits_deBruijn64tab), ("internal/strconv.uint64pow10", laid_internal_strconv_uint64pow10), ("unicode/utf8.acceptRanges", laid_unicode_utf8_acceptRanges), ("strconv.ErrRange", laid_strconv_ErrRange), ("strconv.ErrSyntax", laid_strconv_ErrSyntax), ("pliant/picture.punched", laid_pliant_picture_punched), ("unicode/utf8.first", laid_unicode_utf8_first)] }
def PictureFitsSaid : Prop := pictureFitsRow.holds Tryz.pinned (OpenSpec.ofChange pictureFitsSpec)

/-- ITS FALSE NEIGHBOUR: 'it returns false'. Refute it at one input. -/
def pictureFitsWrong : ChangeSpec := { name := "pictureFits", fn := fun _ => fun
  | [d1, d2, d3] => { results := [.lit (.bool false)], args := [d1, d2, d3] }
  | _ => none }
def PictureFitsWrongFalsely : Prop := pictureFitsRow.holds Tryz.pinned (OpenSpec.ofChange pictureFitsWrong)

/-- 'pliantlaw03.PictureZeros': WHATEVER THE INPUT: true; the input reads as it did. -/
def pictureZerosSpec : ChangeSpec := { name := "pictureZeros", fn := fun _ => fun
  | [d1, d2] => { results := [.lit (.bool true)], args := [d1, d2] }
  | _ => none }
def pictureZerosRow : OpenClaim := { program := "ytheglfmhbfngkaagreatdoor", sum := "bc2dcb264ec45beceae26c990d2bbee66bf13ee665acc9c3195480f9b9644ec7", func := "pliant/pliantlaw03.PictureZeros", spec := "pictureZeros", inPlace := ["internal/bytealg.IndexByteString", "internal/bytealg.IndexString", "internal/bytealg.CountString", "internal/abi.NoEscape", "internal/bytealg.MakeNoZero"], unfollowed := true, recurses := true, named := ["unicode/utf8.first", "unicode/utf8.acceptRanges", "internal/bytealg.MaxLen", "internal/strconv.uint64pow10", "math/bits.deBruijn32tab", "math/bits.deBruijn64tab", "pliant/picture.punched", "strconv.ErrSyntax", "strconv.ErrRange"], apart := false, laid := [("math/bits.deBruijn32tab", laid_math_bits_deBruijn32tab), ("math/bits.deBruijn64tab", laid_math_bits_deBruijn64tab), ("internal/strconv.uint64pow10", laid_internal_strconv_uint64pow10), ("unicode/utf8.acceptRanges", laid_unicode_utf8_acceptRanges), ("strconv.ErrRange", laid_strconv_ErrRange), ("strconv.ErrSyntax", laid_strconv_ErrSyntax), ("pliant/picture.punched", laid_pliant_picture_punched), ("unicode/utf8.first", laid_unicode_utf8_first)] }
def PictureZerosSaid : Prop := pictureZerosRow.holds Tryz.pinned (OpenSpec.ofChange pictureZerosSpec)

/-- ITS FALSE NEIGHBOUR: 'it returns false'. Refute it at one input. -/
def pictureZerosWrong : ChangeSpec := { name := "pictureZeros", fn := fun _ => fun
  | [d1, d2] => { results := [.lit (.bool false)], args := [d1, d2] }
  | _ => none }
def PictureZerosWrongFalsely : Prop := pictureZerosRow.holds Tryz.pinned (OpenSpec.ofChange pictureZerosWrong)

/-- 'pliantlaw03.PictureFills': WHATEVER THE INPUT: true; the input reads as it did. -/
def pictureFillsSpec : ChangeSpec := { name := "pictureFills", fn := fun _ => fun
  | [d1, d2] => { results := [.lit (.bool true)], args := [d1, d2] }
  | _ => none }
def pictureFillsRow : OpenClaim := { program := "ytheglfmhbfngkaagreatdoor", sum := "bc2dcb264ec45beceae26c990d2bbee66bf13ee665acc9c3195480f9b9644ec7", func := "pliant/pliantlaw03.PictureFills", spec := "pictureFills", inPlace := ["internal/bytealg.IndexByteString", "internal/bytealg.IndexString", "internal/bytealg.CountString", "internal/abi.NoEscape", "internal/bytealg.MakeNoZero"], unfollowed := true, recurses := true, named := ["unicode/utf8.first", "unicode/utf8.acceptRanges", "internal/bytealg.MaxLen", "internal/strconv.uint64pow10", "math/bits.deBruijn32tab", "math/bits.deBruijn64tab", "pliant/picture.punched", "strconv.ErrSyntax", "strconv.ErrRange"], apart := false, laid := [("math/bits.deBruijn32tab", laid_math_bits_deBruijn32tab), ("math/bits.deBruijn64tab", laid_math_bits_deBruijn64tab), ("internal/strconv.uint64pow10", laid_internal_strconv_uint64pow10), ("unicode/utf8.acceptRanges", laid_unicode_utf8_acceptRanges), ("strconv.ErrRange", laid_strconv_ErrRange), ("strconv.ErrSyntax", laid_strconv_ErrSyntax), ("pliant/picture.punched", laid_pliant_picture_punched), ("unicode/utf8.first", laid_unicode_utf8_first)] }
def PictureFillsSaid : Prop := pictureFillsRow.holds Tryz.pinned (OpenSpec.ofChange pictureFillsSpec)

/-- ITS FALSE NEIGHBOUR: 'it returns false'. Refute it at one input. -/
def pictureFillsWrong : ChangeSpec := { name := "pictureFills", fn := fun _ => fun
  | [d1, d2] => { results := [.lit (.bool false)], args := [d1, d2] }
  | _ => none }
def PictureFillsWrongFalsely : Prop := pictureFillsRow.holds Tryz.pinned (OpenSpec.ofChange pictureFillsWrong)

/-- 'pliantlaw03.PicturePlaces': WHATEVER THE INPUT: true; the input reads as it did. -/
def picturePlacesSpec : ChangeSpec := { name := "picturePlaces", fn := fun _ => fun
  | [d1, d2] => { results := [.lit (.bool true)], args := [d1, d2] }
  | _ => none }
def picturePlacesRow : OpenClaim := { program := "ytheglfmhbfngkaagreatdoor", sum := "bc2dcb264ec45beceae26c990d2bbee66bf13ee665acc9c3195480f9b9644ec7", func := "pliant/pliantlaw03.PicturePlaces", spec := "picturePlaces", inPlace := ["internal/bytealg.IndexByteString", "internal/bytealg.IndexString", "internal/bytealg.CountString", "internal/abi.NoEscape", "internal/bytealg.MakeNoZero"], unfollowed := true, recurses := true, named := ["unicode/utf8.first", "unicode/utf8.acceptRanges", "internal/bytealg.MaxLen", "internal/strconv.uint64pow10", "math/bits.deBruijn32tab", "math/bits.deBruijn64tab", "pliant/picture.punched", "strconv.ErrSyntax", "strconv.ErrRange"], apart := false, laid := [("math/bits.deBruijn32tab", laid_math_bits_deBruijn32tab), ("math/bits.deBruijn64tab", laid_math_bits_deBruijn64tab), ("internal/strconv.uint64pow10", laid_internal_strconv_uint64pow10), ("unicode/utf8.acceptRanges", laid_unicode_utf8_acceptRanges), ("strconv.ErrRange", laid_strconv_ErrRange), ("strconv.ErrSyntax", laid_strconv_ErrSyntax), ("pliant/picture.punched", laid_pliant_picture_punched), ("unicode/utf8.first", laid_unicode_utf8_first)] }
def PicturePlacesSaid : Prop := picturePlacesRow.holds Tryz.pinned (OpenSpec.ofChange picturePlacesSpec)

/-- ITS FALSE NEIGHBOUR: 'it returns false'. Refute it at one input. -/
def picturePlacesWrong : ChangeSpec := { name := "picturePlaces", fn := fun _ => fun
  | [d1, d2] => { results := [.lit (.bool false)], args := [d1, d2] }
  | _ => none }
def PicturePlacesWrongFalsely : Prop := picturePlacesRow.holds Tryz.pinned (OpenSpec.ofChange picturePlacesWrong)

/-- 'pliantlaw03.PictureShapes': WHATEVER THE INPUT: true; the input reads as it did. -/
def pictureShapesSpec : ChangeSpec := { name := "pictureShapes", fn := fun _ => fun
  | [d1, d2] => { results := [.lit (.bool true)], args := [d1, d2] }
  | _ => none }
def pictureShapesRow : OpenClaim := { program := "ytheglfmhbfngkaagreatdoor", sum := "bc2dcb264ec45beceae26c990d2bbee66bf13ee665acc9c3195480f9b9644ec7", func := "pliant/pliantlaw03.PictureShapes", spec := "pictureShapes", inPlace := ["internal/bytealg.IndexByteString", "internal/bytealg.IndexString", "internal/bytealg.CountString", "internal/abi.NoEscape", "internal/bytealg.MakeNoZero"], unfollowed := true, recurses := true, named := ["unicode/utf8.first", "unicode/utf8.acceptRanges", "internal/bytealg.MaxLen", "internal/strconv.uint64pow10", "math/bits.deBruijn32tab", "math/bits.deBruijn64tab", "pliant/picture.punched", "strconv.ErrSyntax", "strconv.ErrRange"], apart := false, laid := [("math/bits.deBruijn32tab", laid_math_bits_deBruijn32tab), ("math/bits.deBruijn64tab", laid_math_bits_deBruijn64tab), ("internal/strconv.uint64pow10", laid_internal_strconv_uint64pow10), ("unicode/utf8.acceptRanges", laid_unicode_utf8_acceptRanges), ("strconv.ErrRange", laid_strconv_ErrRange), ("strconv.ErrSyntax", laid_strconv_ErrSyntax), ("pliant/picture.punched", laid_pliant_picture_punched), ("unicode/utf8.first", laid_unicode_utf8_first)] }
def PictureShapesSaid : Prop := pictureShapesRow.holds Tryz.pinned (OpenSpec.ofChange pictureShapesSpec)

/-- ITS FALSE NEIGHBOUR: 'it returns false'. Refute it at one input. -/
def pictureShapesWrong : ChangeSpec := { name := "pictureShapes", fn := fun _ => fun
  | [d1, d2] => { results := [.lit (.bool false)], args := [d1, d2] }
  | _ => none }
def PictureShapesWrongFalsely : Prop := pictureShapesRow.holds Tryz.pinned (OpenSpec.ofChange pictureShapesWrong)

/- THE SECOND FORM. 'bulk': how many values and letters a reading holds, each counted each time it is reached (what is shared counts as often as it is met; a slice's spare places count too). A statement '..UptoSaid' is the law's where the arguments, and the package variables that the reading takes, are together of bulk at most 1048576: NARROWER than '..Said'. Prove '..Said' where nothing that the law and all that it calls make is longer than what came in: it says more and counts as full. Else prove '..UptoSaid'. A law counts once. -/
mutual
def uptoBulk {H : Type} : DataW H → Nat
  | .lit (.string bytes) => bytes.length + 1
  | .lit _ => 1
  | .nil => 1
  | .ptr d => uptoBulk d + 1
  | .slice elems spare => uptoBulkAll elems + uptoBulkAll spare + 1
  | .agg parts => uptoBulkAll parts + 1
  | .iface _ d => uptoBulk d + 1
  | .map entries => uptoBulkEntries entries + 1
  | .held _ => 1
def uptoBulkAll {H : Type} : List (DataW H) → Nat
  | [] => 0
  | d :: r => uptoBulk d + uptoBulkAll r
def uptoBulkEntries {H : Type} : List (Lit × DataW H) → Nat
  | [] => 0
  | x :: r => uptoBulkEntry x + uptoBulkEntries r
def uptoBulkEntry {H : Type} : Lit × DataW H → Nat
  | (.string bytes, d) => bytes.length + uptoBulk d + 1
  | (_, d) => uptoBulk d + 1
 end
def uptoSmall : (H : Type) → List (DataW H) → Bool := fun _ ds => decide (uptoBulkAll ds ≤ 1048576)
def OpenSpec.upto (s : _root_.Go.ChangeSpec) : _root_.Go.OpenSpec := { _root_.Go.OpenSpec.ofChange s with cond := some uptoSmall }

/-- 'pliantlaw03.PictureEdits', WHERE WHAT IT READS IS OF BULK AT MOST 1048576: true; the input reads as it did. -/
def pictureEditsUptoRow : OpenClaim := { program := "ytheglfmhbfngkaagreatdoor", sum := "bc2dcb264ec45beceae26c990d2bbee66bf13ee665acc9c3195480f9b9644ec7", func := "pliant/pliantlaw03.PictureEdits", spec := "pictureEdits", inPlace := ["internal/bytealg.IndexByteString", "internal/bytealg.IndexString", "internal/bytealg.CountString", "internal/abi.NoEscape", "internal/bytealg.MakeNoZero"], unfollowed := true, recurses := true, named := ["unicode/utf8.first", "unicode/utf8.acceptRanges", "internal/bytealg.MaxLen", "internal/strconv.uint64pow10", "math/bits.deBruijn32tab", "math/bits.deBruijn64tab", "pliant/picture.punched", "strconv.ErrSyntax", "strconv.ErrRange"], apart := false, laid := [("math/bits.deBruijn32tab", laid_math_bits_deBruijn32tab), ("math/bits.deBruijn64tab", laid_math_bits_deBruijn64tab), ("internal/strconv.uint64pow10", laid_internal_strconv_uint64pow10), ("unicode/utf8.acceptRanges", laid_unicode_utf8_acceptRanges), ("strconv.ErrRange", laid_strconv_ErrRange), ("strconv.ErrSyntax", laid_strconv_ErrSyntax), ("pliant/picture.punched", laid_pliant_picture_punched), ("unicode/utf8.first", laid_unicode_utf8_first)], narrowed := true }
def PictureEditsUptoSaid : Prop := pictureEditsUptoRow.holds Tryz.pinned (OpenSpec.upto pictureEditsSpec)

/-- 'pliantlaw03.PictureReads', WHERE WHAT IT READS IS OF BULK AT MOST 1048576: true; the input reads as it did. -/
def pictureReadsUptoRow : OpenClaim := { program := "ytheglfmhbfngkaagreatdoor", sum := "bc2dcb264ec45beceae26c990d2bbee66bf13ee665acc9c3195480f9b9644ec7", func := "pliant/pliantlaw03.PictureReads", spec := "pictureReads", inPlace := ["internal/bytealg.IndexByteString", "internal/bytealg.IndexString", "internal/bytealg.CountString", "internal/abi.NoEscape", "internal/bytealg.MakeNoZero"], unfollowed := true, recurses := true, named := ["unicode/utf8.first", "unicode/utf8.acceptRanges", "internal/bytealg.MaxLen", "internal/strconv.uint64pow10", "math/bits.deBruijn32tab", "math/bits.deBruijn64tab", "pliant/picture.punched", "strconv.ErrSyntax", "strconv.ErrRange"], apart := false, laid := [("math/bits.deBruijn32tab", laid_math_bits_deBruijn32tab), ("math/bits.deBruijn64tab", laid_math_bits_deBruijn64tab), ("internal/strconv.uint64pow10", laid_internal_strconv_uint64pow10), ("unicode/utf8.acceptRanges", laid_unicode_utf8_acceptRanges), ("strconv.ErrRange", laid_strconv_ErrRange), ("strconv.ErrSyntax", laid_strconv_ErrSyntax), ("pliant/picture.punched", laid_pliant_picture_punched), ("unicode/utf8.first", laid_unicode_utf8_first)], narrowed := true }
def PictureReadsUptoSaid : Prop := pictureReadsUptoRow.holds Tryz.pinned (OpenSpec.upto pictureReadsSpec)

/-- 'pliantlaw03.PicturePunches', WHERE WHAT IT READS IS OF BULK AT MOST 1048576: true; the input reads as it did. -/
def picturePunchesUptoRow : OpenClaim := { program := "ytheglfmhbfngkaagreatdoor", sum := "bc2dcb264ec45beceae26c990d2bbee66bf13ee665acc9c3195480f9b9644ec7", func := "pliant/pliantlaw03.PicturePunches", spec := "picturePunches", inPlace := ["internal/bytealg.IndexByteString", "internal/bytealg.IndexString", "internal/bytealg.CountString", "internal/abi.NoEscape", "internal/bytealg.MakeNoZero"], unfollowed := true, recurses := true, named := ["unicode/utf8.first", "unicode/utf8.acceptRanges", "internal/bytealg.MaxLen", "internal/strconv.uint64pow10", "math/bits.deBruijn32tab", "math/bits.deBruijn64tab", "pliant/picture.punched", "strconv.ErrSyntax", "strconv.ErrRange"], apart := false, laid := [("math/bits.deBruijn32tab", laid_math_bits_deBruijn32tab), ("math/bits.deBruijn64tab", laid_math_bits_deBruijn64tab), ("internal/strconv.uint64pow10", laid_internal_strconv_uint64pow10), ("unicode/utf8.acceptRanges", laid_unicode_utf8_acceptRanges), ("strconv.ErrRange", laid_strconv_ErrRange), ("strconv.ErrSyntax", laid_strconv_ErrSyntax), ("pliant/picture.punched", laid_pliant_picture_punched), ("unicode/utf8.first", laid_unicode_utf8_first)], narrowed := true }
def PicturePunchesUptoSaid : Prop := picturePunchesUptoRow.holds Tryz.pinned (OpenSpec.upto picturePunchesSpec)

/-- 'pliantlaw03.PictureReadsBack', WHERE WHAT IT READS IS OF BULK AT MOST 1048576: true; the input reads as it did. -/
def pictureReadsBackUptoRow : OpenClaim := { program := "ytheglfmhbfngkaagreatdoor", sum := "bc2dcb264ec45beceae26c990d2bbee66bf13ee665acc9c3195480f9b9644ec7", func := "pliant/pliantlaw03.PictureReadsBack", spec := "pictureReadsBack", inPlace := ["internal/bytealg.IndexByteString", "internal/bytealg.IndexString", "internal/bytealg.CountString", "internal/abi.NoEscape", "internal/bytealg.MakeNoZero"], unfollowed := true, recurses := true, named := ["unicode/utf8.first", "unicode/utf8.acceptRanges", "internal/bytealg.MaxLen", "internal/strconv.uint64pow10", "math/bits.deBruijn32tab", "math/bits.deBruijn64tab", "pliant/picture.punched", "strconv.ErrSyntax", "strconv.ErrRange"], apart := false, laid := [("math/bits.deBruijn32tab", laid_math_bits_deBruijn32tab), ("math/bits.deBruijn64tab", laid_math_bits_deBruijn64tab), ("internal/strconv.uint64pow10", laid_internal_strconv_uint64pow10), ("unicode/utf8.acceptRanges", laid_unicode_utf8_acceptRanges), ("strconv.ErrRange", laid_strconv_ErrRange), ("strconv.ErrSyntax", laid_strconv_ErrSyntax), ("pliant/picture.punched", laid_pliant_picture_punched), ("unicode/utf8.first", laid_unicode_utf8_first)], narrowed := true }
def PictureReadsBackUptoSaid : Prop := pictureReadsBackUptoRow.holds Tryz.pinned (OpenSpec.upto pictureReadsBackSpec)

/-- 'pliantlaw03.PictureScales', WHERE WHAT IT READS IS OF BULK AT MOST 1048576: true; the input reads as it did. -/
def pictureScalesUptoRow : OpenClaim := { program := "ytheglfmhbfngkaagreatdoor", sum := "bc2dcb264ec45beceae26c990d2bbee66bf13ee665acc9c3195480f9b9644ec7", func := "pliant/pliantlaw03.PictureScales", spec := "pictureScales", inPlace := ["internal/bytealg.IndexByteString", "internal/bytealg.IndexString", "internal/bytealg.CountString", "internal/abi.NoEscape", "internal/bytealg.MakeNoZero"], unfollowed := true, recurses := true, named := ["unicode/utf8.first", "unicode/utf8.acceptRanges", "internal/bytealg.MaxLen", "internal/strconv.uint64pow10", "math/bits.deBruijn32tab", "math/bits.deBruijn64tab", "pliant/picture.punched", "strconv.ErrSyntax", "strconv.ErrRange"], apart := false, laid := [("math/bits.deBruijn32tab", laid_math_bits_deBruijn32tab), ("math/bits.deBruijn64tab", laid_math_bits_deBruijn64tab), ("internal/strconv.uint64pow10", laid_internal_strconv_uint64pow10), ("unicode/utf8.acceptRanges", laid_unicode_utf8_acceptRanges), ("strconv.ErrRange", laid_strconv_ErrRange), ("strconv.ErrSyntax", laid_strconv_ErrSyntax), ("pliant/picture.punched", laid_pliant_picture_punched), ("unicode/utf8.first", laid_unicode_utf8_first)], narrowed := true }
def PictureScalesUptoSaid : Prop := pictureScalesUptoRow.holds Tryz.pinned (OpenSpec.upto pictureScalesSpec)

/-- 'pliantlaw03.PictureOrders', WHERE WHAT IT READS IS OF BULK AT MOST 1048576: true; the input reads as it did. -/
def pictureOrdersUptoRow : OpenClaim := { program := "ytheglfmhbfngkaagreatdoor", sum := "bc2dcb264ec45beceae26c990d2bbee66bf13ee665acc9c3195480f9b9644ec7", func := "pliant/pliantlaw03.PictureOrders", spec := "pictureOrders", inPlace := ["internal/bytealg.IndexByteString", "internal/bytealg.IndexString", "internal/bytealg.CountString", "internal/abi.NoEscape", "internal/bytealg.MakeNoZero"], unfollowed := true, recurses := true, named := ["unicode/utf8.first", "unicode/utf8.acceptRanges", "internal/bytealg.MaxLen", "internal/strconv.uint64pow10", "math/bits.deBruijn32tab", "math/bits.deBruijn64tab", "pliant/picture.punched", "strconv.ErrSyntax", "strconv.ErrRange"], apart := false, laid := [("math/bits.deBruijn32tab", laid_math_bits_deBruijn32tab), ("math/bits.deBruijn64tab", laid_math_bits_deBruijn64tab), ("internal/strconv.uint64pow10", laid_internal_strconv_uint64pow10), ("unicode/utf8.acceptRanges", laid_unicode_utf8_acceptRanges), ("strconv.ErrRange", laid_strconv_ErrRange), ("strconv.ErrSyntax", laid_strconv_ErrSyntax), ("pliant/picture.punched", laid_pliant_picture_punched), ("unicode/utf8.first", laid_unicode_utf8_first)], narrowed := true }
def PictureOrdersUptoSaid : Prop := pictureOrdersUptoRow.holds Tryz.pinned (OpenSpec.upto pictureOrdersSpec)

/-- 'pliantlaw03.PictureSuppresses', WHERE WHAT IT READS IS OF BULK AT MOST 1048576: true; the input reads as it did. -/
def pictureSuppressesUptoRow : OpenClaim := { program := "ytheglfmhbfngkaagreatdoor", sum := "bc2dcb264ec45beceae26c990d2bbee66bf13ee665acc9c3195480f9b9644ec7", func := "pliant/pliantlaw03.PictureSuppresses", spec := "pictureSuppresses", inPlace := ["internal/bytealg.IndexByteString", "internal/bytealg.IndexString", "internal/bytealg.CountString", "internal/abi.NoEscape", "internal/bytealg.MakeNoZero"], unfollowed := true, recurses := true, named := ["unicode/utf8.first", "unicode/utf8.acceptRanges", "internal/bytealg.MaxLen", "internal/strconv.uint64pow10", "math/bits.deBruijn32tab", "math/bits.deBruijn64tab", "pliant/picture.punched", "strconv.ErrSyntax", "strconv.ErrRange"], apart := false, laid := [("math/bits.deBruijn32tab", laid_math_bits_deBruijn32tab), ("math/bits.deBruijn64tab", laid_math_bits_deBruijn64tab), ("internal/strconv.uint64pow10", laid_internal_strconv_uint64pow10), ("unicode/utf8.acceptRanges", laid_unicode_utf8_acceptRanges), ("strconv.ErrRange", laid_strconv_ErrRange), ("strconv.ErrSyntax", laid_strconv_ErrSyntax), ("pliant/picture.punched", laid_pliant_picture_punched), ("unicode/utf8.first", laid_unicode_utf8_first)], narrowed := true }
def PictureSuppressesUptoSaid : Prop := pictureSuppressesUptoRow.holds Tryz.pinned (OpenSpec.upto pictureSuppressesSpec)

/-- 'pliantlaw03.PictureSigns', WHERE WHAT IT READS IS OF BULK AT MOST 1048576: true; the input reads as it did. -/
def pictureSignsUptoRow : OpenClaim := { program := "ytheglfmhbfngkaagreatdoor", sum := "bc2dcb264ec45beceae26c990d2bbee66bf13ee665acc9c3195480f9b9644ec7", func := "pliant/pliantlaw03.PictureSigns", spec := "pictureSigns", inPlace := ["internal/bytealg.IndexByteString", "internal/bytealg.IndexString", "internal/bytealg.CountString", "internal/abi.NoEscape", "internal/bytealg.MakeNoZero"], unfollowed := true, recurses := true, named := ["unicode/utf8.first", "unicode/utf8.acceptRanges", "internal/bytealg.MaxLen", "internal/strconv.uint64pow10", "math/bits.deBruijn32tab", "math/bits.deBruijn64tab", "pliant/picture.punched", "strconv.ErrSyntax", "strconv.ErrRange"], apart := false, laid := [("math/bits.deBruijn32tab", laid_math_bits_deBruijn32tab), ("math/bits.deBruijn64tab", laid_math_bits_deBruijn64tab), ("internal/strconv.uint64pow10", laid_internal_strconv_uint64pow10), ("unicode/utf8.acceptRanges", laid_unicode_utf8_acceptRanges), ("strconv.ErrRange", laid_strconv_ErrRange), ("strconv.ErrSyntax", laid_strconv_ErrSyntax), ("pliant/picture.punched", laid_pliant_picture_punched), ("unicode/utf8.first", laid_unicode_utf8_first)], narrowed := true }
def PictureSignsUptoSaid : Prop := pictureSignsUptoRow.holds Tryz.pinned (OpenSpec.upto pictureSignsSpec)

/-- 'pliantlaw03.PictureCharacters', WHERE WHAT IT READS IS OF BULK AT MOST 1048576: true; the input reads as it did. -/
def pictureCharactersUptoRow : OpenClaim := { program := "ytheglfmhbfngkaagreatdoor", sum := "bc2dcb264ec45beceae26c990d2bbee66bf13ee665acc9c3195480f9b9644ec7", func := "pliant/pliantlaw03.PictureCharacters", spec := "pictureCharacters", inPlace := ["internal/bytealg.IndexByteString", "internal/bytealg.IndexString", "internal/bytealg.CountString", "internal/abi.NoEscape", "internal/bytealg.MakeNoZero"], unfollowed := true, recurses := true, named := ["unicode/utf8.first", "unicode/utf8.acceptRanges", "internal/bytealg.MaxLen", "internal/strconv.uint64pow10", "math/bits.deBruijn32tab", "math/bits.deBruijn64tab", "pliant/picture.punched", "strconv.ErrSyntax", "strconv.ErrRange"], apart := false, laid := [("math/bits.deBruijn32tab", laid_math_bits_deBruijn32tab), ("math/bits.deBruijn64tab", laid_math_bits_deBruijn64tab), ("internal/strconv.uint64pow10", laid_internal_strconv_uint64pow10), ("unicode/utf8.acceptRanges", laid_unicode_utf8_acceptRanges), ("strconv.ErrRange", laid_strconv_ErrRange), ("strconv.ErrSyntax", laid_strconv_ErrSyntax), ("pliant/picture.punched", laid_pliant_picture_punched), ("unicode/utf8.first", laid_unicode_utf8_first)], narrowed := true }
def PictureCharactersUptoSaid : Prop := pictureCharactersUptoRow.holds Tryz.pinned (OpenSpec.upto pictureCharactersSpec)

/-- 'pliantlaw03.PictureRepeats', WHERE WHAT IT READS IS OF BULK AT MOST 1048576: true; the input reads as it did. -/
def pictureRepeatsUptoRow : OpenClaim := { program := "ytheglfmhbfngkaagreatdoor", sum := "bc2dcb264ec45beceae26c990d2bbee66bf13ee665acc9c3195480f9b9644ec7", func := "pliant/pliantlaw03.PictureRepeats", spec := "pictureRepeats", inPlace := ["internal/bytealg.IndexByteString", "internal/bytealg.IndexString", "internal/bytealg.CountString", "internal/abi.NoEscape", "internal/bytealg.MakeNoZero"], unfollowed := true, recurses := true, named := ["unicode/utf8.first", "unicode/utf8.acceptRanges", "internal/bytealg.MaxLen", "internal/strconv.uint64pow10", "math/bits.deBruijn32tab", "math/bits.deBruijn64tab", "pliant/picture.punched", "strconv.ErrSyntax", "strconv.ErrRange"], apart := false, laid := [("math/bits.deBruijn32tab", laid_math_bits_deBruijn32tab), ("math/bits.deBruijn64tab", laid_math_bits_deBruijn64tab), ("internal/strconv.uint64pow10", laid_internal_strconv_uint64pow10), ("unicode/utf8.acceptRanges", laid_unicode_utf8_acceptRanges), ("strconv.ErrRange", laid_strconv_ErrRange), ("strconv.ErrSyntax", laid_strconv_ErrSyntax), ("pliant/picture.punched", laid_pliant_picture_punched), ("unicode/utf8.first", laid_unicode_utf8_first)], narrowed := true }
def PictureRepeatsUptoSaid : Prop := pictureRepeatsUptoRow.holds Tryz.pinned (OpenSpec.upto pictureRepeatsSpec)

/-- 'pliantlaw03.PictureParses', WHERE WHAT IT READS IS OF BULK AT MOST 1048576: true; the input reads as it did. -/
def pictureParsesUptoRow : OpenClaim := { program := "ytheglfmhbfngkaagreatdoor", sum := "bc2dcb264ec45beceae26c990d2bbee66bf13ee665acc9c3195480f9b9644ec7", func := "pliant/pliantlaw03.PictureParses", spec := "pictureParses", inPlace := ["internal/bytealg.IndexByteString", "internal/bytealg.IndexString", "internal/bytealg.CountString", "internal/abi.NoEscape", "internal/bytealg.MakeNoZero"], unfollowed := true, recurses := true, named := ["unicode/utf8.first", "unicode/utf8.acceptRanges", "internal/bytealg.MaxLen", "internal/strconv.uint64pow10", "math/bits.deBruijn32tab", "math/bits.deBruijn64tab", "pliant/picture.punched", "strconv.ErrSyntax", "strconv.ErrRange"], apart := false, laid := [("math/bits.deBruijn32tab", laid_math_bits_deBruijn32tab), ("math/bits.deBruijn64tab", laid_math_bits_deBruijn64tab), ("internal/strconv.uint64pow10", laid_internal_strconv_uint64pow10), ("unicode/utf8.acceptRanges", laid_unicode_utf8_acceptRanges), ("strconv.ErrRange", laid_strconv_ErrRange), ("strconv.ErrSyntax", laid_strconv_ErrSyntax), ("pliant/picture.punched", laid_pliant_picture_punched), ("unicode/utf8.first", laid_unicode_utf8_first)], narrowed := true }
def PictureParsesUptoSaid : Prop := pictureParsesUptoRow.holds Tryz.pinned (OpenSpec.upto pictureParsesSpec)

/-- 'pliantlaw03.PictureFits', WHERE WHAT IT READS IS OF BULK AT MOST 1048576: true; the input reads as it did. -/
def pictureFitsUptoRow : OpenClaim := { program := "ytheglfmhbfngkaagreatdoor", sum := "bc2dcb264ec45beceae26c990d2bbee66bf13ee665acc9c3195480f9b9644ec7", func := "pliant/pliantlaw03.PictureFits", spec := "pictureFits", inPlace := ["internal/bytealg.IndexByteString", "internal/bytealg.IndexString", "internal/bytealg.CountString", "internal/abi.NoEscape", "internal/bytealg.MakeNoZero"], unfollowed := true, recurses := true, named := ["unicode/utf8.first", "unicode/utf8.acceptRanges", "internal/bytealg.MaxLen", "internal/strconv.uint64pow10", "math/bits.deBruijn32tab", "math/bits.deBruijn64tab", "pliant/picture.punched", "strconv.ErrSyntax", "strconv.ErrRange"], apart := false, laid := [("math/bits.deBruijn32tab", laid_math_bits_deBruijn32tab), ("math/bits.deBruijn64tab", laid_math_bits_deBruijn64tab), ("internal/strconv.uint64pow10", laid_internal_strconv_uint64pow10), ("unicode/utf8.acceptRanges", laid_unicode_utf8_acceptRanges), ("strconv.ErrRange", laid_strconv_ErrRange), ("strconv.ErrSyntax", laid_strconv_ErrSyntax), ("pliant/picture.punched", laid_pliant_picture_punched), ("unicode/utf8.first", laid_unicode_utf8_first)], narrowed := true }
def PictureFitsUptoSaid : Prop := pictureFitsUptoRow.holds Tryz.pinned (OpenSpec.upto pictureFitsSpec)

/-- 'pliantlaw03.PictureZeros', WHERE WHAT IT READS IS OF BULK AT MOST 1048576: true; the input reads as it did. -/
def pictureZerosUptoRow : OpenClaim := { program := "ytheglfmhbfngkaagreatdoor", sum := "bc2dcb264ec45beceae26c990d2bbee66bf13ee665acc9c3195480f9b9644ec7", func := "pliant/pliantlaw03.PictureZeros", spec := "pictureZeros", inPlace := ["internal/bytealg.IndexByteString", "internal/bytealg.IndexString", "internal/bytealg.CountString", "internal/abi.NoEscape", "internal/bytealg.MakeNoZero"], unfollowed := true, recurses := true, named := ["unicode/utf8.first", "unicode/utf8.acceptRanges", "internal/bytealg.MaxLen", "internal/strconv.uint64pow10", "math/bits.deBruijn32tab", "math/bits.deBruijn64tab", "pliant/picture.punched", "strconv.ErrSyntax", "strconv.ErrRange"], apart := false, laid := [("math/bits.deBruijn32tab", laid_math_bits_deBruijn32tab), ("math/bits.deBruijn64tab", laid_math_bits_deBruijn64tab), ("internal/strconv.uint64pow10", laid_internal_strconv_uint64pow10), ("unicode/utf8.acceptRanges", laid_unicode_utf8_acceptRanges), ("strconv.ErrRange", laid_strconv_ErrRange), ("strconv.ErrSyntax", laid_strconv_ErrSyntax), ("pliant/picture.punched", laid_pliant_picture_punched), ("unicode/utf8.first", laid_unicode_utf8_first)], narrowed := true }
def PictureZerosUptoSaid : Prop := pictureZerosUptoRow.holds Tryz.pinned (OpenSpec.upto pictureZerosSpec)

/-- 'pliantlaw03.PictureFills', WHERE WHAT IT READS IS OF BULK AT MOST 1048576: true; the input reads as it did. -/
def pictureFillsUptoRow : OpenClaim := { program := "ytheglfmhbfngkaagreatdoor", sum := "bc2dcb264ec45beceae26c990d2bbee66bf13ee665acc9c3195480f9b9644ec7", func := "pliant/pliantlaw03.PictureFills", spec := "pictureFills", inPlace := ["internal/bytealg.IndexByteString", "internal/bytealg.IndexString", "internal/bytealg.CountString", "internal/abi.NoEscape", "internal/bytealg.MakeNoZero"], unfollowed := true, recurses := true, named := ["unicode/utf8.first", "unicode/utf8.acceptRanges", "internal/bytealg.MaxLen", "internal/strconv.uint64pow10", "math/bits.deBruijn32tab", "math/bits.deBruijn64tab", "pliant/picture.punched", "strconv.ErrSyntax", "strconv.ErrRange"], apart := false, laid := [("math/bits.deBruijn32tab", laid_math_bits_deBruijn32tab), ("math/bits.deBruijn64tab", laid_math_bits_deBruijn64tab), ("internal/strconv.uint64pow10", laid_internal_strconv_uint64pow10), ("unicode/utf8.acceptRanges", laid_unicode_utf8_acceptRanges), ("strconv.ErrRange", laid_strconv_ErrRange), ("strconv.ErrSyntax", laid_strconv_ErrSyntax), ("pliant/picture.punched", laid_pliant_picture_punched), ("unicode/utf8.first", laid_unicode_utf8_first)], narrowed := true }
def PictureFillsUptoSaid : Prop := pictureFillsUptoRow.holds Tryz.pinned (OpenSpec.upto pictureFillsSpec)

/-- 'pliantlaw03.PicturePlaces', WHERE WHAT IT READS IS OF BULK AT MOST 1048576: true; the input reads as it did. -/
def picturePlacesUptoRow : OpenClaim := { program := "ytheglfmhbfngkaagreatdoor", sum := "bc2dcb264ec45beceae26c990d2bbee66bf13ee665acc9c3195480f9b9644ec7", func := "pliant/pliantlaw03.PicturePlaces", spec := "picturePlaces", inPlace := ["internal/bytealg.IndexByteString", "internal/bytealg.IndexString", "internal/bytealg.CountString", "internal/abi.NoEscape", "internal/bytealg.MakeNoZero"], unfollowed := true, recurses := true, named := ["unicode/utf8.first", "unicode/utf8.acceptRanges", "internal/bytealg.MaxLen", "internal/strconv.uint64pow10", "math/bits.deBruijn32tab", "math/bits.deBruijn64tab", "pliant/picture.punched", "strconv.ErrSyntax", "strconv.ErrRange"], apart := false, laid := [("math/bits.deBruijn32tab", laid_math_bits_deBruijn32tab), ("math/bits.deBruijn64tab", laid_math_bits_deBruijn64tab), ("internal/strconv.uint64pow10", laid_internal_strconv_uint64pow10), ("unicode/utf8.acceptRanges", laid_unicode_utf8_acceptRanges), ("strconv.ErrRange", laid_strconv_ErrRange), ("strconv.ErrSyntax", laid_strconv_ErrSyntax), ("pliant/picture.punched", laid_pliant_picture_punched), ("unicode/utf8.first", laid_unicode_utf8_first)], narrowed := true }
def PicturePlacesUptoSaid : Prop := picturePlacesUptoRow.holds Tryz.pinned (OpenSpec.upto picturePlacesSpec)

/-- 'pliantlaw03.PictureShapes', WHERE WHAT IT READS IS OF BULK AT MOST 1048576: true; the input reads as it did. -/
def pictureShapesUptoRow : OpenClaim := { program := "ytheglfmhbfngkaagreatdoor", sum := "bc2dcb264ec45beceae26c990d2bbee66bf13ee665acc9c3195480f9b9644ec7", func := "pliant/pliantlaw03.PictureShapes", spec := "pictureShapes", inPlace := ["internal/bytealg.IndexByteString", "internal/bytealg.IndexString", "internal/bytealg.CountString", "internal/abi.NoEscape", "internal/bytealg.MakeNoZero"], unfollowed := true, recurses := true, named := ["unicode/utf8.first", "unicode/utf8.acceptRanges", "internal/bytealg.MaxLen", "internal/strconv.uint64pow10", "math/bits.deBruijn32tab", "math/bits.deBruijn64tab", "pliant/picture.punched", "strconv.ErrSyntax", "strconv.ErrRange"], apart := false, laid := [("math/bits.deBruijn32tab", laid_math_bits_deBruijn32tab), ("math/bits.deBruijn64tab", laid_math_bits_deBruijn64tab), ("internal/strconv.uint64pow10", laid_internal_strconv_uint64pow10), ("unicode/utf8.acceptRanges", laid_unicode_utf8_acceptRanges), ("strconv.ErrRange", laid_strconv_ErrRange), ("strconv.ErrSyntax", laid_strconv_ErrSyntax), ("pliant/picture.punched", laid_pliant_picture_punched), ("unicode/utf8.first", laid_unicode_utf8_first)], narrowed := true }
def PictureShapesUptoSaid : Prop := pictureShapesUptoRow.holds Tryz.pinned (OpenSpec.upto pictureShapesSpec)

end Rows
end Go.Proofs.YtheglfmhbfngkaaGreatDoor
