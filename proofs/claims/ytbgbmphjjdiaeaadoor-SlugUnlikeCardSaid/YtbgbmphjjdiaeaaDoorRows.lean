/-
  NARROWER THAN 'FOR EVERY INPUT', by the rows' own cells (each row's printed sentence says how): FootNone: loops, laid · FootOrders: laid · ClassIs: laid · ClassFolds: laid · ClassOnce: laid · ClassBlanks: laid · ClassSigns: laid · ClassSums: laid · SlugNames: laid · SlugSound: laid · SlugPlain: laid · SlugFirst: laid · SlugUnlike: loops, laid · FootCoheres: loops, laid · FootIds: laid.
  DERIVED. THE GIVEN ROWS OF THIS SEAT. 15 by the template 'for every input the law returns true; each argument reads behind the call as it read before'; 0 by the template 'total and deterministic' (their statements: YtbgbmphjjdiaeaaDoorTotals.lean).
  GIVEN WITH THE SEED: the statements are not yours to turn. If you find one false, say at which input.
  Laid BY PROGRAM, IN A SANDBOX (cutbox-rows.mjs): the forced cells as the released guide's own fill.sh prints them over the translation ab2d434a6701d7b4… (all of the seat's roots in one cut). By AI agents, Wed Nov 11 2026. No macro, syntax, notation, axiom, sorry.
-/
import Derived.Test.YtbgbmphjjdiaeaaDoorChecked
import GoSem.PinnedTables
import GoSem.Claim
import GoSem.ClaimJoined
import GoSem.ClaimMapViews
import Derived.JoinedTies
import Derived.KernelRfl
namespace Go.Proofs.YtbgbmphjjdiaeaaDoor
/- THE CELL 'sum', in the pinned program and in every row, IS THE sha256 OF THE DUMP (.gsa) THAT YtbgbmphjjdiaeaaDoorProg.lean LOADS. Nothing in Lean hashes anything: it is a label: what it is worth is what the hold of that sum in a sandbox is worth. -/
noncomputable def Tryd.pinned : Pinned := { name := "ytbgbmphjjdiaeaadoor", sum := "ab2d434a6701d7b4c86522583b558cdb331c6c1a7f458bd59dc291cc4e196538", checked := Tryd.checked }
namespace Rows
def none {H : Type} : Left H := { results := [], args := [] }

/- WHAT THE LISTED PACKAGE-LEVEL VARIABLES READ AS WHEN THE CALL BEGINS. Each datum BY PROGRAM (the guide's laid-datum.mjs) off the statement by which the dump's own 'gosem.cut.vars' lays the variable. In a bare row this is a premise. The card (YtbgbmphjjdiaeaaDoorCards.lean) ties it to the program's text. -/
def laid_math_bits_deBruijn32tab {H : Type} : DataW H := .agg [.lit (.int .u8 0), .lit (.int .u8 1), .lit (.int .u8 28), .lit (.int .u8 2), .lit (.int .u8 29), .lit (.int .u8 14), .lit (.int .u8 24), .lit (.int .u8 3), .lit (.int .u8 30), .lit (.int .u8 22), .lit (.int .u8 20), .lit (.int .u8 15), .lit (.int .u8 25), .lit (.int .u8 17), .lit (.int .u8 4), .lit (.int .u8 8), .lit (.int .u8 31), .lit (.int .u8 27), .lit (.int .u8 13), .lit (.int .u8 23), .lit (.int .u8 21), .lit (.int .u8 19), .lit (.int .u8 16), .lit (.int .u8 7), .lit (.int .u8 26), .lit (.int .u8 12), .lit (.int .u8 18), .lit (.int .u8 6), .lit (.int .u8 11), .lit (.int .u8 5), .lit (.int .u8 10), .lit (.int .u8 9)]
def laid_math_bits_deBruijn64tab {H : Type} : DataW H := .agg [.lit (.int .u8 0), .lit (.int .u8 1), .lit (.int .u8 56), .lit (.int .u8 2), .lit (.int .u8 57), .lit (.int .u8 49), .lit (.int .u8 28), .lit (.int .u8 3), .lit (.int .u8 61), .lit (.int .u8 58), .lit (.int .u8 42), .lit (.int .u8 50), .lit (.int .u8 38), .lit (.int .u8 29), .lit (.int .u8 17), .lit (.int .u8 4), .lit (.int .u8 62), .lit (.int .u8 47), .lit (.int .u8 59), .lit (.int .u8 36), .lit (.int .u8 45), .lit (.int .u8 43), .lit (.int .u8 51), .lit (.int .u8 22), .lit (.int .u8 53), .lit (.int .u8 39), .lit (.int .u8 33), .lit (.int .u8 30), .lit (.int .u8 24), .lit (.int .u8 18), .lit (.int .u8 12), .lit (.int .u8 5), .lit (.int .u8 63), .lit (.int .u8 55), .lit (.int .u8 48), .lit (.int .u8 27), .lit (.int .u8 60), .lit (.int .u8 41), .lit (.int .u8 37), .lit (.int .u8 16), .lit (.int .u8 46), .lit (.int .u8 35), .lit (.int .u8 44), .lit (.int .u8 21), .lit (.int .u8 52), .lit (.int .u8 32), .lit (.int .u8 23), .lit (.int .u8 11), .lit (.int .u8 54), .lit (.int .u8 26), .lit (.int .u8 40), .lit (.int .u8 15), .lit (.int .u8 34), .lit (.int .u8 20), .lit (.int .u8 31), .lit (.int .u8 10), .lit (.int .u8 25), .lit (.int .u8 14), .lit (.int .u8 19), .lit (.int .u8 9), .lit (.int .u8 13), .lit (.int .u8 8), .lit (.int .u8 7), .lit (.int .u8 6)]
def laid_internal_strconv_uint64pow10 {H : Type} : DataW H := .agg [.lit (.int .u64 1), .lit (.int .u64 10), .lit (.int .u64 100), .lit (.int .u64 1000), .lit (.int .u64 10000), .lit (.int .u64 100000), .lit (.int .u64 1000000), .lit (.int .u64 10000000), .lit (.int .u64 100000000), .lit (.int .u64 1000000000), .lit (.int .u64 10000000000), .lit (.int .u64 100000000000), .lit (.int .u64 1000000000000), .lit (.int .u64 10000000000000), .lit (.int .u64 100000000000000), .lit (.int .u64 1000000000000000), .lit (.int .u64 10000000000000000), .lit (.int .u64 100000000000000000), .lit (.int .u64 1000000000000000000), .lit (.int .u64 10000000000000000000)]
def laid_unicode_utf8_acceptRanges {H : Type} : DataW H := .agg [.agg [.lit (.int .u8 128), .lit (.int .u8 191)], .agg [.lit (.int .u8 160), .lit (.int .u8 191)], .agg [.lit (.int .u8 128), .lit (.int .u8 159)], .agg [.lit (.int .u8 144), .lit (.int .u8 191)], .agg [.lit (.int .u8 128), .lit (.int .u8 143)], .agg [.lit (.int .u8 0), .lit (.int .u8 0)], .agg [.lit (.int .u8 0), .lit (.int .u8 0)], .agg [.lit (.int .u8 0), .lit (.int .u8 0)], .agg [.lit (.int .u8 0), .lit (.int .u8 0)], .agg [.lit (.int .u8 0), .lit (.int .u8 0)], .agg [.lit (.int .u8 0), .lit (.int .u8 0)], .agg [.lit (.int .u8 0), .lit (.int .u8 0)], .agg [.lit (.int .u8 0), .lit (.int .u8 0)], .agg [.lit (.int .u8 0), .lit (.int .u8 0)], .agg [.lit (.int .u8 0), .lit (.int .u8 0)], .agg [.lit (.int .u8 0), .lit (.int .u8 0)]]
/-- One of Go's own tables, pinned by name: the form's constant. -/
def laid_unicode_utf8_first : DataW Unit := Go.Pinned.utf8First

/-- 'incipitlaw18.FootNone': WHATEVER THE INPUT: true; the input reads as it did. -/
def footNoneSpec : ChangeSpec := { name := "footNone", fn := fun _ => fun
  | [d] => { results := [.lit (.bool true)], args := [d] }
  | _ => none }
def footNoneRow : OpenClaim := { program := "ytbgbmphjjdiaeaadoor", sum := "ab2d434a6701d7b4c86522583b558cdb331c6c1a7f458bd59dc291cc4e196538", func := "incipit/incipitlaw18.FootNone", spec := "footNone", inPlace := ["internal/abi.NoEscape", "internal/bytealg.MakeNoZero"], unfollowed := true, recurses := true, named := ["unicode/utf8.first", "unicode/utf8.acceptRanges", "internal/strconv.uint64pow10", "math/bits.deBruijn32tab", "math/bits.deBruijn64tab"], loops := true, apart := false, laid := [("math/bits.deBruijn32tab", laid_math_bits_deBruijn32tab), ("math/bits.deBruijn64tab", laid_math_bits_deBruijn64tab), ("internal/strconv.uint64pow10", laid_internal_strconv_uint64pow10), ("unicode/utf8.acceptRanges", laid_unicode_utf8_acceptRanges), ("unicode/utf8.first", laid_unicode_utf8_first)] }
def FootNoneSaid : Prop := footNoneRow.holds Tryd.pinned (OpenSpec.ofChange footNoneSpec)

/-- ITS FALSE NEIGHBOUR: 'it returns false'. Refute it at one input. -/
def footNoneWrong : ChangeSpec := { name := "footNone", fn := fun _ => fun
  | [d] => { results := [.lit (.bool false)], args := [d] }
  | _ => none }
def FootNoneWrongFalsely : Prop := footNoneRow.holds Tryd.pinned (OpenSpec.ofChange footNoneWrong)

/-- 'incipitlaw18.FootOrders': WHATEVER THE INPUT: true; the input reads as it did. -/
def footOrdersSpec : ChangeSpec := { name := "footOrders", fn := fun _ => fun
  | [d1, d2] => { results := [.lit (.bool true)], args := [d1, d2] }
  | _ => none }
def footOrdersRow : OpenClaim := { program := "ytbgbmphjjdiaeaadoor", sum := "ab2d434a6701d7b4c86522583b558cdb331c6c1a7f458bd59dc291cc4e196538", func := "incipit/incipitlaw18.FootOrders", spec := "footOrders", inPlace := ["internal/abi.NoEscape", "internal/bytealg.MakeNoZero"], unfollowed := true, recurses := true, named := ["unicode/utf8.first", "unicode/utf8.acceptRanges", "internal/strconv.uint64pow10", "math/bits.deBruijn32tab", "math/bits.deBruijn64tab"], apart := false, laid := [("math/bits.deBruijn32tab", laid_math_bits_deBruijn32tab), ("math/bits.deBruijn64tab", laid_math_bits_deBruijn64tab), ("internal/strconv.uint64pow10", laid_internal_strconv_uint64pow10), ("unicode/utf8.acceptRanges", laid_unicode_utf8_acceptRanges), ("unicode/utf8.first", laid_unicode_utf8_first)] }
def FootOrdersSaid : Prop := footOrdersRow.holds Tryd.pinned (OpenSpec.ofChange footOrdersSpec)

/-- ITS FALSE NEIGHBOUR: 'it returns false'. Refute it at one input. -/
def footOrdersWrong : ChangeSpec := { name := "footOrders", fn := fun _ => fun
  | [d1, d2] => { results := [.lit (.bool false)], args := [d1, d2] }
  | _ => none }
def FootOrdersWrongFalsely : Prop := footOrdersRow.holds Tryd.pinned (OpenSpec.ofChange footOrdersWrong)

/-- 'incipitlaw03.ClassIs': WHATEVER THE INPUT: true; the input reads as it did. -/
def classIsSpec : ChangeSpec := { name := "classIs", fn := fun _ => fun
  | [d1, d2] => { results := [.lit (.bool true)], args := [d1, d2] }
  | _ => none }
def classIsRow : OpenClaim := { program := "ytbgbmphjjdiaeaadoor", sum := "ab2d434a6701d7b4c86522583b558cdb331c6c1a7f458bd59dc291cc4e196538", func := "incipit/incipitlaw03.ClassIs", spec := "classIs", inPlace := ["internal/abi.NoEscape", "internal/bytealg.MakeNoZero"], unfollowed := true, recurses := true, named := ["unicode/utf8.first", "unicode/utf8.acceptRanges"], apart := false, laid := [("unicode/utf8.acceptRanges", laid_unicode_utf8_acceptRanges), ("unicode/utf8.first", laid_unicode_utf8_first)] }
def ClassIsSaid : Prop := classIsRow.holds Tryd.pinned (OpenSpec.ofChange classIsSpec)

/-- ITS FALSE NEIGHBOUR: 'it returns false'. Refute it at one input. -/
def classIsWrong : ChangeSpec := { name := "classIs", fn := fun _ => fun
  | [d1, d2] => { results := [.lit (.bool false)], args := [d1, d2] }
  | _ => none }
def ClassIsWrongFalsely : Prop := classIsRow.holds Tryd.pinned (OpenSpec.ofChange classIsWrong)

/-- 'incipitlaw03.ClassFolds': WHATEVER THE INPUT: true; the input reads as it did. -/
def classFoldsSpec : ChangeSpec := { name := "classFolds", fn := fun _ => fun
  | [d] => { results := [.lit (.bool true)], args := [d] }
  | _ => none }
def classFoldsRow : OpenClaim := { program := "ytbgbmphjjdiaeaadoor", sum := "ab2d434a6701d7b4c86522583b558cdb331c6c1a7f458bd59dc291cc4e196538", func := "incipit/incipitlaw03.ClassFolds", spec := "classFolds", inPlace := ["internal/abi.NoEscape", "internal/bytealg.MakeNoZero"], unfollowed := true, recurses := true, named := ["unicode/utf8.first", "unicode/utf8.acceptRanges"], apart := false, laid := [("unicode/utf8.acceptRanges", laid_unicode_utf8_acceptRanges), ("unicode/utf8.first", laid_unicode_utf8_first)] }
def ClassFoldsSaid : Prop := classFoldsRow.holds Tryd.pinned (OpenSpec.ofChange classFoldsSpec)

/-- ITS FALSE NEIGHBOUR: 'it returns false'. Refute it at one input. -/
def classFoldsWrong : ChangeSpec := { name := "classFolds", fn := fun _ => fun
  | [d] => { results := [.lit (.bool false)], args := [d] }
  | _ => none }
def ClassFoldsWrongFalsely : Prop := classFoldsRow.holds Tryd.pinned (OpenSpec.ofChange classFoldsWrong)

/-- 'incipitlaw03.ClassOnce': WHATEVER THE INPUT: true; the input reads as it did. -/
def classOnceSpec : ChangeSpec := { name := "classOnce", fn := fun _ => fun
  | [d] => { results := [.lit (.bool true)], args := [d] }
  | _ => none }
def classOnceRow : OpenClaim := { program := "ytbgbmphjjdiaeaadoor", sum := "ab2d434a6701d7b4c86522583b558cdb331c6c1a7f458bd59dc291cc4e196538", func := "incipit/incipitlaw03.ClassOnce", spec := "classOnce", inPlace := ["internal/abi.NoEscape", "internal/bytealg.MakeNoZero"], unfollowed := true, recurses := true, named := ["unicode/utf8.first", "unicode/utf8.acceptRanges"], apart := false, laid := [("unicode/utf8.acceptRanges", laid_unicode_utf8_acceptRanges), ("unicode/utf8.first", laid_unicode_utf8_first)] }
def ClassOnceSaid : Prop := classOnceRow.holds Tryd.pinned (OpenSpec.ofChange classOnceSpec)

/-- ITS FALSE NEIGHBOUR: 'it returns false'. Refute it at one input. -/
def classOnceWrong : ChangeSpec := { name := "classOnce", fn := fun _ => fun
  | [d] => { results := [.lit (.bool false)], args := [d] }
  | _ => none }
def ClassOnceWrongFalsely : Prop := classOnceRow.holds Tryd.pinned (OpenSpec.ofChange classOnceWrong)

/-- 'incipitlaw03.ClassBlanks': WHATEVER THE INPUT: true; the input reads as it did. -/
def classBlanksSpec : ChangeSpec := { name := "classBlanks", fn := fun _ => fun
  | [d1, d2, d3] => { results := [.lit (.bool true)], args := [d1, d2, d3] }
  | _ => none }
def classBlanksRow : OpenClaim := { program := "ytbgbmphjjdiaeaadoor", sum := "ab2d434a6701d7b4c86522583b558cdb331c6c1a7f458bd59dc291cc4e196538", func := "incipit/incipitlaw03.ClassBlanks", spec := "classBlanks", inPlace := ["internal/abi.NoEscape", "internal/bytealg.MakeNoZero"], unfollowed := true, recurses := true, named := ["unicode/utf8.first", "unicode/utf8.acceptRanges"], apart := false, laid := [("unicode/utf8.acceptRanges", laid_unicode_utf8_acceptRanges), ("unicode/utf8.first", laid_unicode_utf8_first)] }
def ClassBlanksSaid : Prop := classBlanksRow.holds Tryd.pinned (OpenSpec.ofChange classBlanksSpec)

/-- ITS FALSE NEIGHBOUR: 'it returns false'. Refute it at one input. -/
def classBlanksWrong : ChangeSpec := { name := "classBlanks", fn := fun _ => fun
  | [d1, d2, d3] => { results := [.lit (.bool false)], args := [d1, d2, d3] }
  | _ => none }
def ClassBlanksWrongFalsely : Prop := classBlanksRow.holds Tryd.pinned (OpenSpec.ofChange classBlanksWrong)

/-- 'incipitlaw03.ClassSigns': WHATEVER THE INPUT: true; the input reads as it did. -/
def classSignsSpec : ChangeSpec := { name := "classSigns", fn := fun _ => fun
  | [d] => { results := [.lit (.bool true)], args := [d] }
  | _ => none }
def classSignsRow : OpenClaim := { program := "ytbgbmphjjdiaeaadoor", sum := "ab2d434a6701d7b4c86522583b558cdb331c6c1a7f458bd59dc291cc4e196538", func := "incipit/incipitlaw03.ClassSigns", spec := "classSigns", inPlace := ["internal/abi.NoEscape", "internal/bytealg.MakeNoZero"], unfollowed := true, recurses := true, named := ["unicode/utf8.first", "unicode/utf8.acceptRanges"], apart := false, laid := [("unicode/utf8.acceptRanges", laid_unicode_utf8_acceptRanges), ("unicode/utf8.first", laid_unicode_utf8_first)] }
def ClassSignsSaid : Prop := classSignsRow.holds Tryd.pinned (OpenSpec.ofChange classSignsSpec)

/-- ITS FALSE NEIGHBOUR: 'it returns false'. Refute it at one input. -/
def classSignsWrong : ChangeSpec := { name := "classSigns", fn := fun _ => fun
  | [d] => { results := [.lit (.bool false)], args := [d] }
  | _ => none }
def ClassSignsWrongFalsely : Prop := classSignsRow.holds Tryd.pinned (OpenSpec.ofChange classSignsWrong)

/-- 'incipitlaw03.ClassSums': WHATEVER THE INPUT: true; the input reads as it did. -/
def classSumsSpec : ChangeSpec := { name := "classSums", fn := fun _ => fun
  | [d1, d2] => { results := [.lit (.bool true)], args := [d1, d2] }
  | _ => none }
def classSumsRow : OpenClaim := { program := "ytbgbmphjjdiaeaadoor", sum := "ab2d434a6701d7b4c86522583b558cdb331c6c1a7f458bd59dc291cc4e196538", func := "incipit/incipitlaw03.ClassSums", spec := "classSums", inPlace := ["internal/abi.NoEscape", "internal/bytealg.MakeNoZero"], unfollowed := true, recurses := true, named := ["unicode/utf8.first", "unicode/utf8.acceptRanges"], apart := false, laid := [("unicode/utf8.acceptRanges", laid_unicode_utf8_acceptRanges), ("unicode/utf8.first", laid_unicode_utf8_first)] }
def ClassSumsSaid : Prop := classSumsRow.holds Tryd.pinned (OpenSpec.ofChange classSumsSpec)

/-- ITS FALSE NEIGHBOUR: 'it returns false'. Refute it at one input. -/
def classSumsWrong : ChangeSpec := { name := "classSums", fn := fun _ => fun
  | [d1, d2] => { results := [.lit (.bool false)], args := [d1, d2] }
  | _ => none }
def ClassSumsWrongFalsely : Prop := classSumsRow.holds Tryd.pinned (OpenSpec.ofChange classSumsWrong)

/-- 'incipitlaw19.SlugNames': WHATEVER THE INPUT: true; the input reads as it did. -/
def slugNamesSpec : ChangeSpec := { name := "slugNames", fn := fun _ => fun
  | [d1, d2] => { results := [.lit (.bool true)], args := [d1, d2] }
  | _ => none }
def slugNamesRow : OpenClaim := { program := "ytbgbmphjjdiaeaadoor", sum := "ab2d434a6701d7b4c86522583b558cdb331c6c1a7f458bd59dc291cc4e196538", func := "incipit/incipitlaw19.SlugNames", spec := "slugNames", inPlace := ["internal/abi.NoEscape"], recurses := true, named := ["unicode/utf8.first", "unicode/utf8.acceptRanges", "internal/strconv.uint64pow10", "math/bits.deBruijn32tab", "math/bits.deBruijn64tab"], apart := false, laid := [("math/bits.deBruijn32tab", laid_math_bits_deBruijn32tab), ("math/bits.deBruijn64tab", laid_math_bits_deBruijn64tab), ("internal/strconv.uint64pow10", laid_internal_strconv_uint64pow10), ("unicode/utf8.acceptRanges", laid_unicode_utf8_acceptRanges), ("unicode/utf8.first", laid_unicode_utf8_first)] }
def SlugNamesSaid : Prop := slugNamesRow.holds Tryd.pinned (OpenSpec.ofChange slugNamesSpec)

/-- ITS FALSE NEIGHBOUR: 'it returns false'. Refute it at one input. -/
def slugNamesWrong : ChangeSpec := { name := "slugNames", fn := fun _ => fun
  | [d1, d2] => { results := [.lit (.bool false)], args := [d1, d2] }
  | _ => none }
def SlugNamesWrongFalsely : Prop := slugNamesRow.holds Tryd.pinned (OpenSpec.ofChange slugNamesWrong)

/-- 'incipitlaw19.SlugSound': WHATEVER THE INPUT: true; the input reads as it did. -/
def slugSoundSpec : ChangeSpec := { name := "slugSound", fn := fun _ => fun
  | [d] => { results := [.lit (.bool true)], args := [d] }
  | _ => none }
def slugSoundRow : OpenClaim := { program := "ytbgbmphjjdiaeaadoor", sum := "ab2d434a6701d7b4c86522583b558cdb331c6c1a7f458bd59dc291cc4e196538", func := "incipit/incipitlaw19.SlugSound", spec := "slugSound", inPlace := ["internal/abi.NoEscape"], named := ["unicode/utf8.first", "unicode/utf8.acceptRanges", "internal/strconv.uint64pow10", "math/bits.deBruijn32tab", "math/bits.deBruijn64tab"], apart := false, laid := [("math/bits.deBruijn32tab", laid_math_bits_deBruijn32tab), ("math/bits.deBruijn64tab", laid_math_bits_deBruijn64tab), ("internal/strconv.uint64pow10", laid_internal_strconv_uint64pow10), ("unicode/utf8.acceptRanges", laid_unicode_utf8_acceptRanges), ("unicode/utf8.first", laid_unicode_utf8_first)] }
def SlugSoundSaid : Prop := slugSoundRow.holds Tryd.pinned (OpenSpec.ofChange slugSoundSpec)

/-- ITS FALSE NEIGHBOUR: 'it returns false'. Refute it at one input. -/
def slugSoundWrong : ChangeSpec := { name := "slugSound", fn := fun _ => fun
  | [d] => { results := [.lit (.bool false)], args := [d] }
  | _ => none }
def SlugSoundWrongFalsely : Prop := slugSoundRow.holds Tryd.pinned (OpenSpec.ofChange slugSoundWrong)

/-- 'incipitlaw19.SlugPlain': WHATEVER THE INPUT: true; the input reads as it did. -/
def slugPlainSpec : ChangeSpec := { name := "slugPlain", fn := fun _ => fun
  | [d1, d2, d3] => { results := [.lit (.bool true)], args := [d1, d2, d3] }
  | _ => none }
def slugPlainRow : OpenClaim := { program := "ytbgbmphjjdiaeaadoor", sum := "ab2d434a6701d7b4c86522583b558cdb331c6c1a7f458bd59dc291cc4e196538", func := "incipit/incipitlaw19.SlugPlain", spec := "slugPlain", inPlace := ["internal/abi.NoEscape"], named := ["unicode/utf8.first", "unicode/utf8.acceptRanges", "internal/strconv.uint64pow10", "math/bits.deBruijn32tab", "math/bits.deBruijn64tab"], apart := false, laid := [("math/bits.deBruijn32tab", laid_math_bits_deBruijn32tab), ("math/bits.deBruijn64tab", laid_math_bits_deBruijn64tab), ("internal/strconv.uint64pow10", laid_internal_strconv_uint64pow10), ("unicode/utf8.acceptRanges", laid_unicode_utf8_acceptRanges), ("unicode/utf8.first", laid_unicode_utf8_first)] }
def SlugPlainSaid : Prop := slugPlainRow.holds Tryd.pinned (OpenSpec.ofChange slugPlainSpec)

/-- ITS FALSE NEIGHBOUR: 'it returns false'. Refute it at one input. -/
def slugPlainWrong : ChangeSpec := { name := "slugPlain", fn := fun _ => fun
  | [d1, d2, d3] => { results := [.lit (.bool false)], args := [d1, d2, d3] }
  | _ => none }
def SlugPlainWrongFalsely : Prop := slugPlainRow.holds Tryd.pinned (OpenSpec.ofChange slugPlainWrong)

/-- 'incipitlaw19.SlugFirst': WHATEVER THE INPUT: true; the input reads as it did. -/
def slugFirstSpec : ChangeSpec := { name := "slugFirst", fn := fun _ => fun
  | [d1, d2] => { results := [.lit (.bool true)], args := [d1, d2] }
  | _ => none }
def slugFirstRow : OpenClaim := { program := "ytbgbmphjjdiaeaadoor", sum := "ab2d434a6701d7b4c86522583b558cdb331c6c1a7f458bd59dc291cc4e196538", func := "incipit/incipitlaw19.SlugFirst", spec := "slugFirst", inPlace := ["internal/abi.NoEscape"], named := ["unicode/utf8.first", "unicode/utf8.acceptRanges", "internal/strconv.uint64pow10", "math/bits.deBruijn32tab", "math/bits.deBruijn64tab"], apart := false, laid := [("math/bits.deBruijn32tab", laid_math_bits_deBruijn32tab), ("math/bits.deBruijn64tab", laid_math_bits_deBruijn64tab), ("internal/strconv.uint64pow10", laid_internal_strconv_uint64pow10), ("unicode/utf8.acceptRanges", laid_unicode_utf8_acceptRanges), ("unicode/utf8.first", laid_unicode_utf8_first)] }
def SlugFirstSaid : Prop := slugFirstRow.holds Tryd.pinned (OpenSpec.ofChange slugFirstSpec)

/-- ITS FALSE NEIGHBOUR: 'it returns false'. Refute it at one input. -/
def slugFirstWrong : ChangeSpec := { name := "slugFirst", fn := fun _ => fun
  | [d1, d2] => { results := [.lit (.bool false)], args := [d1, d2] }
  | _ => none }
def SlugFirstWrongFalsely : Prop := slugFirstRow.holds Tryd.pinned (OpenSpec.ofChange slugFirstWrong)

/-- 'incipitlaw19.SlugUnlike': WHATEVER THE INPUT: true; the input reads as it did. -/
def slugUnlikeSpec : ChangeSpec := { name := "slugUnlike", fn := fun _ => fun
  | [d1, d2] => { results := [.lit (.bool true)], args := [d1, d2] }
  | _ => none }
def slugUnlikeRow : OpenClaim := { program := "ytbgbmphjjdiaeaadoor", sum := "ab2d434a6701d7b4c86522583b558cdb331c6c1a7f458bd59dc291cc4e196538", func := "incipit/incipitlaw19.SlugUnlike", spec := "slugUnlike", inPlace := ["internal/abi.NoEscape"], unfollowed := true, recurses := true, named := ["unicode/utf8.first", "unicode/utf8.acceptRanges", "internal/strconv.uint64pow10", "math/bits.deBruijn32tab", "math/bits.deBruijn64tab"], loops := true, apart := false, laid := [("math/bits.deBruijn32tab", laid_math_bits_deBruijn32tab), ("math/bits.deBruijn64tab", laid_math_bits_deBruijn64tab), ("internal/strconv.uint64pow10", laid_internal_strconv_uint64pow10), ("unicode/utf8.acceptRanges", laid_unicode_utf8_acceptRanges), ("unicode/utf8.first", laid_unicode_utf8_first)] }
def SlugUnlikeSaid : Prop := slugUnlikeRow.holds Tryd.pinned (OpenSpec.ofChange slugUnlikeSpec)

/-- ITS FALSE NEIGHBOUR: 'it returns false'. Refute it at one input. -/
def slugUnlikeWrong : ChangeSpec := { name := "slugUnlike", fn := fun _ => fun
  | [d1, d2] => { results := [.lit (.bool false)], args := [d1, d2] }
  | _ => none }
def SlugUnlikeWrongFalsely : Prop := slugUnlikeRow.holds Tryd.pinned (OpenSpec.ofChange slugUnlikeWrong)

/-- 'incipitlaw18.FootCoheres': WHATEVER THE INPUT: true; the input reads as it did. -/
def footCoheresSpec : ChangeSpec := { name := "footCoheres", fn := fun _ => fun
  | [d] => { results := [.lit (.bool true)], args := [d] }
  | _ => none }
def footCoheresRow : OpenClaim := { program := "ytbgbmphjjdiaeaadoor", sum := "ab2d434a6701d7b4c86522583b558cdb331c6c1a7f458bd59dc291cc4e196538", func := "incipit/incipitlaw18.FootCoheres", spec := "footCoheres", inPlace := ["internal/abi.NoEscape", "internal/bytealg.MakeNoZero"], unfollowed := true, recurses := true, named := ["unicode/utf8.first", "unicode/utf8.acceptRanges", "internal/strconv.uint64pow10", "math/bits.deBruijn32tab", "math/bits.deBruijn64tab"], loops := true, apart := false, laid := [("math/bits.deBruijn32tab", laid_math_bits_deBruijn32tab), ("math/bits.deBruijn64tab", laid_math_bits_deBruijn64tab), ("internal/strconv.uint64pow10", laid_internal_strconv_uint64pow10), ("unicode/utf8.acceptRanges", laid_unicode_utf8_acceptRanges), ("unicode/utf8.first", laid_unicode_utf8_first)] }
def FootCoheresSaid : Prop := footCoheresRow.holds Tryd.pinned (OpenSpec.ofChange footCoheresSpec)

/-- ITS FALSE NEIGHBOUR: 'it returns false'. Refute it at one input. -/
def footCoheresWrong : ChangeSpec := { name := "footCoheres", fn := fun _ => fun
  | [d] => { results := [.lit (.bool false)], args := [d] }
  | _ => none }
def FootCoheresWrongFalsely : Prop := footCoheresRow.holds Tryd.pinned (OpenSpec.ofChange footCoheresWrong)

/-- 'incipitlaw18.FootIds': WHATEVER THE INPUT: true; the input reads as it did. -/
def footIdsSpec : ChangeSpec := { name := "footIds", fn := fun _ => fun
  | [d1, d2, d3, d4] => { results := [.lit (.bool true)], args := [d1, d2, d3, d4] }
  | _ => none }
def footIdsRow : OpenClaim := { program := "ytbgbmphjjdiaeaadoor", sum := "ab2d434a6701d7b4c86522583b558cdb331c6c1a7f458bd59dc291cc4e196538", func := "incipit/incipitlaw18.FootIds", spec := "footIds", inPlace := ["internal/abi.NoEscape", "internal/bytealg.MakeNoZero"], unfollowed := true, recurses := true, named := ["unicode/utf8.first", "unicode/utf8.acceptRanges", "internal/strconv.uint64pow10", "math/bits.deBruijn32tab", "math/bits.deBruijn64tab"], apart := false, laid := [("math/bits.deBruijn32tab", laid_math_bits_deBruijn32tab), ("math/bits.deBruijn64tab", laid_math_bits_deBruijn64tab), ("internal/strconv.uint64pow10", laid_internal_strconv_uint64pow10), ("unicode/utf8.acceptRanges", laid_unicode_utf8_acceptRanges), ("unicode/utf8.first", laid_unicode_utf8_first)] }
def FootIdsSaid : Prop := footIdsRow.holds Tryd.pinned (OpenSpec.ofChange footIdsSpec)

/-- ITS FALSE NEIGHBOUR: 'it returns false'. Refute it at one input. -/
def footIdsWrong : ChangeSpec := { name := "footIds", fn := fun _ => fun
  | [d1, d2, d3, d4] => { results := [.lit (.bool false)], args := [d1, d2, d3, d4] }
  | _ => none }
def FootIdsWrongFalsely : Prop := footIdsRow.holds Tryd.pinned (OpenSpec.ofChange footIdsWrong)

/- THE SECOND FORM. 'bulk': how many values and letters a reading holds, each counted each time it is reached (what is shared counts as often as it is met; a slice's spare places count too). A statement '..UptoSaid' is the law's where the arguments, and the package variables that the reading takes, are together of bulk at most 1048576: NARROWER than '..Said'. Prove '..Said' where nothing that the law and all that it calls make is longer than what came in: it says more and counts as full. Else prove '..UptoSaid'. A law counts once. -/
mutual
def uptoBulk {H : Type} : DataW H → Nat
  | .lit (.string bytes) => bytes.length + 1
  | .lit _ => 1
  | .nil => 1
  | .ptr d => uptoBulk d + 1
  | .slice elems spare => uptoBulkAll elems + uptoBulkAll spare + 1
  | .agg parts => uptoBulkAll parts + 1
  | .iface _ d => uptoBulk d + 1
  | .map entries => uptoBulkEntries entries + 1
  | .held _ => 1
def uptoBulkAll {H : Type} : List (DataW H) → Nat
  | [] => 0
  | d :: r => uptoBulk d + uptoBulkAll r
def uptoBulkEntries {H : Type} : List (Lit × DataW H) → Nat
  | [] => 0
  | x :: r => uptoBulkEntry x + uptoBulkEntries r
def uptoBulkEntry {H : Type} : Lit × DataW H → Nat
  | (.string bytes, d) => bytes.length + uptoBulk d + 1
  | (_, d) => uptoBulk d + 1
 end
def uptoSmall : (H : Type) → List (DataW H) → Bool := fun _ ds => decide (uptoBulkAll ds ≤ 1048576)
def OpenSpec.upto (s : _root_.Go.ChangeSpec) : _root_.Go.OpenSpec := { _root_.Go.OpenSpec.ofChange s with cond := some uptoSmall }

/-- 'incipitlaw18.FootNone', WHERE WHAT IT READS IS OF BULK AT MOST 1048576: true; the input reads as it did. -/
def footNoneUptoRow : OpenClaim := { program := "ytbgbmphjjdiaeaadoor", sum := "ab2d434a6701d7b4c86522583b558cdb331c6c1a7f458bd59dc291cc4e196538", func := "incipit/incipitlaw18.FootNone", spec := "footNone", inPlace := ["internal/abi.NoEscape", "internal/bytealg.MakeNoZero"], unfollowed := true, recurses := true, named := ["unicode/utf8.first", "unicode/utf8.acceptRanges", "internal/strconv.uint64pow10", "math/bits.deBruijn32tab", "math/bits.deBruijn64tab"], loops := true, apart := false, laid := [("math/bits.deBruijn32tab", laid_math_bits_deBruijn32tab), ("math/bits.deBruijn64tab", laid_math_bits_deBruijn64tab), ("internal/strconv.uint64pow10", laid_internal_strconv_uint64pow10), ("unicode/utf8.acceptRanges", laid_unicode_utf8_acceptRanges), ("unicode/utf8.first", laid_unicode_utf8_first)], narrowed := true }
def FootNoneUptoSaid : Prop := footNoneUptoRow.holds Tryd.pinned (OpenSpec.upto footNoneSpec)

/-- 'incipitlaw18.FootOrders', WHERE WHAT IT READS IS OF BULK AT MOST 1048576: true; the input reads as it did. -/
def footOrdersUptoRow : OpenClaim := { program := "ytbgbmphjjdiaeaadoor", sum := "ab2d434a6701d7b4c86522583b558cdb331c6c1a7f458bd59dc291cc4e196538", func := "incipit/incipitlaw18.FootOrders", spec := "footOrders", inPlace := ["internal/abi.NoEscape", "internal/bytealg.MakeNoZero"], unfollowed := true, recurses := true, named := ["unicode/utf8.first", "unicode/utf8.acceptRanges", "internal/strconv.uint64pow10", "math/bits.deBruijn32tab", "math/bits.deBruijn64tab"], apart := false, laid := [("math/bits.deBruijn32tab", laid_math_bits_deBruijn32tab), ("math/bits.deBruijn64tab", laid_math_bits_deBruijn64tab), ("internal/strconv.uint64pow10", laid_internal_strconv_uint64pow10), ("unicode/utf8.acceptRanges", laid_unicode_utf8_acceptRanges), ("unicode/utf8.first", laid_unicode_utf8_first)], narrowed := true }
def FootOrdersUptoSaid : Prop := footOrdersUptoRow.holds Tryd.pinned (OpenSpec.upto footOrdersSpec)

/-- 'incipitlaw03.ClassIs', WHERE WHAT IT READS IS OF BULK AT MOST 1048576: true; the input reads as it did. -/
def classIsUptoRow : OpenClaim := { program := "ytbgbmphjjdiaeaadoor", sum := "ab2d434a6701d7b4c86522583b558cdb331c6c1a7f458bd59dc291cc4e196538", func := "incipit/incipitlaw03.ClassIs", spec := "classIs", inPlace := ["internal/abi.NoEscape", "internal/bytealg.MakeNoZero"], unfollowed := true, recurses := true, named := ["unicode/utf8.first", "unicode/utf8.acceptRanges"], apart := false, laid := [("unicode/utf8.acceptRanges", laid_unicode_utf8_acceptRanges), ("unicode/utf8.first", laid_unicode_utf8_first)], narrowed := true }
def ClassIsUptoSaid : Prop := classIsUptoRow.holds Tryd.pinned (OpenSpec.upto classIsSpec)

/-- 'incipitlaw03.ClassFolds', WHERE WHAT IT READS IS OF BULK AT MOST 1048576: true; the input reads as it did. -/
def classFoldsUptoRow : OpenClaim := { program := "ytbgbmphjjdiaeaadoor", sum := "ab2d434a6701d7b4c86522583b558cdb331c6c1a7f458bd59dc291cc4e196538", func := "incipit/incipitlaw03.ClassFolds", spec := "classFolds", inPlace := ["internal/abi.NoEscape", "internal/bytealg.MakeNoZero"], unfollowed := true, recurses := true, named := ["unicode/utf8.first", "unicode/utf8.acceptRanges"], apart := false, laid := [("unicode/utf8.acceptRanges", laid_unicode_utf8_acceptRanges), ("unicode/utf8.first", laid_unicode_utf8_first)], narrowed := true }
def ClassFoldsUptoSaid : Prop := classFoldsUptoRow.holds Tryd.pinned (OpenSpec.upto classFoldsSpec)

/-- 'incipitlaw03.ClassOnce', WHERE WHAT IT READS IS OF BULK AT MOST 1048576: true; the input reads as it did. -/
def classOnceUptoRow : OpenClaim := { program := "ytbgbmphjjdiaeaadoor", sum := "ab2d434a6701d7b4c86522583b558cdb331c6c1a7f458bd59dc291cc4e196538", func := "incipit/incipitlaw03.ClassOnce", spec := "classOnce", inPlace := ["internal/abi.NoEscape", "internal/bytealg.MakeNoZero"], unfollowed := true, recurses := true, named := ["unicode/utf8.first", "unicode/utf8.acceptRanges"], apart := false, laid := [("unicode/utf8.acceptRanges", laid_unicode_utf8_acceptRanges), ("unicode/utf8.first", laid_unicode_utf8_first)], narrowed := true }
def ClassOnceUptoSaid : Prop := classOnceUptoRow.holds Tryd.pinned (OpenSpec.upto classOnceSpec)

/-- 'incipitlaw03.ClassBlanks', WHERE WHAT IT READS IS OF BULK AT MOST 1048576: true; the input reads as it did. -/
def classBlanksUptoRow : OpenClaim := { program := "ytbgbmphjjdiaeaadoor", sum := "ab2d434a6701d7b4c86522583b558cdb331c6c1a7f458bd59dc291cc4e196538", func := "incipit/incipitlaw03.ClassBlanks", spec := "classBlanks", inPlace := ["internal/abi.NoEscape", "internal/bytealg.MakeNoZero"], unfollowed := true, recurses := true, named := ["unicode/utf8.first", "unicode/utf8.acceptRanges"], apart := false, laid := [("unicode/utf8.acceptRanges", laid_unicode_utf8_acceptRanges), ("unicode/utf8.first", laid_unicode_utf8_first)], narrowed := true }
def ClassBlanksUptoSaid : Prop := classBlanksUptoRow.holds Tryd.pinned (OpenSpec.upto classBlanksSpec)

/-- 'incipitlaw03.ClassSigns', WHERE WHAT IT READS IS OF BULK AT MOST 1048576: true; the input reads as it did. -/
def classSignsUptoRow : OpenClaim := { program := "ytbgbmphjjdiaeaadoor", sum := "ab2d434a6701d7b4c86522583b558cdb331c6c1a7f458bd59dc291cc4e196538", func := "incipit/incipitlaw03.ClassSigns", spec := "classSigns", inPlace := ["internal/abi.NoEscape", "internal/bytealg.MakeNoZero"], unfollowed := true, recurses := true, named := ["unicode/utf8.first", "unicode/utf8.acceptRanges"], apart := false, laid := [("unicode/utf8.acceptRanges", laid_unicode_utf8_acceptRanges), ("unicode/utf8.first", laid_unicode_utf8_first)], narrowed := true }
def ClassSignsUptoSaid : Prop := classSignsUptoRow.holds Tryd.pinned (OpenSpec.upto classSignsSpec)

/-- 'incipitlaw03.ClassSums', WHERE WHAT IT READS IS OF BULK AT MOST 1048576: true; the input reads as it did. -/
def classSumsUptoRow : OpenClaim := { program := "ytbgbmphjjdiaeaadoor", sum := "ab2d434a6701d7b4c86522583b558cdb331c6c1a7f458bd59dc291cc4e196538", func := "incipit/incipitlaw03.ClassSums", spec := "classSums", inPlace := ["internal/abi.NoEscape", "internal/bytealg.MakeNoZero"], unfollowed := true, recurses := true, named := ["unicode/utf8.first", "unicode/utf8.acceptRanges"], apart := false, laid := [("unicode/utf8.acceptRanges", laid_unicode_utf8_acceptRanges), ("unicode/utf8.first", laid_unicode_utf8_first)], narrowed := true }
def ClassSumsUptoSaid : Prop := classSumsUptoRow.holds Tryd.pinned (OpenSpec.upto classSumsSpec)

/-- 'incipitlaw19.SlugNames', WHERE WHAT IT READS IS OF BULK AT MOST 1048576: true; the input reads as it did. -/
def slugNamesUptoRow : OpenClaim := { program := "ytbgbmphjjdiaeaadoor", sum := "ab2d434a6701d7b4c86522583b558cdb331c6c1a7f458bd59dc291cc4e196538", func := "incipit/incipitlaw19.SlugNames", spec := "slugNames", inPlace := ["internal/abi.NoEscape"], recurses := true, named := ["unicode/utf8.first", "unicode/utf8.acceptRanges", "internal/strconv.uint64pow10", "math/bits.deBruijn32tab", "math/bits.deBruijn64tab"], apart := false, laid := [("math/bits.deBruijn32tab", laid_math_bits_deBruijn32tab), ("math/bits.deBruijn64tab", laid_math_bits_deBruijn64tab), ("internal/strconv.uint64pow10", laid_internal_strconv_uint64pow10), ("unicode/utf8.acceptRanges", laid_unicode_utf8_acceptRanges), ("unicode/utf8.first", laid_unicode_utf8_first)], narrowed := true }
def SlugNamesUptoSaid : Prop := slugNamesUptoRow.holds Tryd.pinned (OpenSpec.upto slugNamesSpec)

/-- 'incipitlaw19.SlugSound', WHERE WHAT IT READS IS OF BULK AT MOST 1048576: true; the input reads as it did. -/
def slugSoundUptoRow : OpenClaim := { program := "ytbgbmphjjdiaeaadoor", sum := "ab2d434a6701d7b4c86522583b558cdb331c6c1a7f458bd59dc291cc4e196538", func := "incipit/incipitlaw19.SlugSound", spec := "slugSound", inPlace := ["internal/abi.NoEscape"], named := ["unicode/utf8.first", "unicode/utf8.acceptRanges", "internal/strconv.uint64pow10", "math/bits.deBruijn32tab", "math/bits.deBruijn64tab"], apart := false, laid := [("math/bits.deBruijn32tab", laid_math_bits_deBruijn32tab), ("math/bits.deBruijn64tab", laid_math_bits_deBruijn64tab), ("internal/strconv.uint64pow10", laid_internal_strconv_uint64pow10), ("unicode/utf8.acceptRanges", laid_unicode_utf8_acceptRanges), ("unicode/utf8.first", laid_unicode_utf8_first)], narrowed := true }
def SlugSoundUptoSaid : Prop := slugSoundUptoRow.holds Tryd.pinned (OpenSpec.upto slugSoundSpec)

/-- 'incipitlaw19.SlugPlain', WHERE WHAT IT READS IS OF BULK AT MOST 1048576: true; the input reads as it did. -/
def slugPlainUptoRow : OpenClaim := { program := "ytbgbmphjjdiaeaadoor", sum := "ab2d434a6701d7b4c86522583b558cdb331c6c1a7f458bd59dc291cc4e196538", func := "incipit/incipitlaw19.SlugPlain", spec := "slugPlain", inPlace := ["internal/abi.NoEscape"], named := ["unicode/utf8.first", "unicode/utf8.acceptRanges", "internal/strconv.uint64pow10", "math/bits.deBruijn32tab", "math/bits.deBruijn64tab"], apart := false, laid := [("math/bits.deBruijn32tab", laid_math_bits_deBruijn32tab), ("math/bits.deBruijn64tab", laid_math_bits_deBruijn64tab), ("internal/strconv.uint64pow10", laid_internal_strconv_uint64pow10), ("unicode/utf8.acceptRanges", laid_unicode_utf8_acceptRanges), ("unicode/utf8.first", laid_unicode_utf8_first)], narrowed := true }
def SlugPlainUptoSaid : Prop := slugPlainUptoRow.holds Tryd.pinned (OpenSpec.upto slugPlainSpec)

/-- 'incipitlaw19.SlugFirst', WHERE WHAT IT READS IS OF BULK AT MOST 1048576: true; the input reads as it did. -/
def slugFirstUptoRow : OpenClaim := { program := "ytbgbmphjjdiaeaadoor", sum := "ab2d434a6701d7b4c86522583b558cdb331c6c1a7f458bd59dc291cc4e196538", func := "incipit/incipitlaw19.SlugFirst", spec := "slugFirst", inPlace := ["internal/abi.NoEscape"], named := ["unicode/utf8.first", "unicode/utf8.acceptRanges", "internal/strconv.uint64pow10", "math/bits.deBruijn32tab", "math/bits.deBruijn64tab"], apart := false, laid := [("math/bits.deBruijn32tab", laid_math_bits_deBruijn32tab), ("math/bits.deBruijn64tab", laid_math_bits_deBruijn64tab), ("internal/strconv.uint64pow10", laid_internal_strconv_uint64pow10), ("unicode/utf8.acceptRanges", laid_unicode_utf8_acceptRanges), ("unicode/utf8.first", laid_unicode_utf8_first)], narrowed := true }
def SlugFirstUptoSaid : Prop := slugFirstUptoRow.holds Tryd.pinned (OpenSpec.upto slugFirstSpec)

/-- 'incipitlaw19.SlugUnlike', WHERE WHAT IT READS IS OF BULK AT MOST 1048576: true; the input reads as it did. -/
def slugUnlikeUptoRow : OpenClaim := { program := "ytbgbmphjjdiaeaadoor", sum := "ab2d434a6701d7b4c86522583b558cdb331c6c1a7f458bd59dc291cc4e196538", func := "incipit/incipitlaw19.SlugUnlike", spec := "slugUnlike", inPlace := ["internal/abi.NoEscape"], unfollowed := true, recurses := true, named := ["unicode/utf8.first", "unicode/utf8.acceptRanges", "internal/strconv.uint64pow10", "math/bits.deBruijn32tab", "math/bits.deBruijn64tab"], loops := true, apart := false, laid := [("math/bits.deBruijn32tab", laid_math_bits_deBruijn32tab), ("math/bits.deBruijn64tab", laid_math_bits_deBruijn64tab), ("internal/strconv.uint64pow10", laid_internal_strconv_uint64pow10), ("unicode/utf8.acceptRanges", laid_unicode_utf8_acceptRanges), ("unicode/utf8.first", laid_unicode_utf8_first)], narrowed := true }
def SlugUnlikeUptoSaid : Prop := slugUnlikeUptoRow.holds Tryd.pinned (OpenSpec.upto slugUnlikeSpec)

/-- 'incipitlaw18.FootCoheres', WHERE WHAT IT READS IS OF BULK AT MOST 1048576: true; the input reads as it did. -/
def footCoheresUptoRow : OpenClaim := { program := "ytbgbmphjjdiaeaadoor", sum := "ab2d434a6701d7b4c86522583b558cdb331c6c1a7f458bd59dc291cc4e196538", func := "incipit/incipitlaw18.FootCoheres", spec := "footCoheres", inPlace := ["internal/abi.NoEscape", "internal/bytealg.MakeNoZero"], unfollowed := true, recurses := true, named := ["unicode/utf8.first", "unicode/utf8.acceptRanges", "internal/strconv.uint64pow10", "math/bits.deBruijn32tab", "math/bits.deBruijn64tab"], loops := true, apart := false, laid := [("math/bits.deBruijn32tab", laid_math_bits_deBruijn32tab), ("math/bits.deBruijn64tab", laid_math_bits_deBruijn64tab), ("internal/strconv.uint64pow10", laid_internal_strconv_uint64pow10), ("unicode/utf8.acceptRanges", laid_unicode_utf8_acceptRanges), ("unicode/utf8.first", laid_unicode_utf8_first)], narrowed := true }
def FootCoheresUptoSaid : Prop := footCoheresUptoRow.holds Tryd.pinned (OpenSpec.upto footCoheresSpec)

/-- 'incipitlaw18.FootIds', WHERE WHAT IT READS IS OF BULK AT MOST 1048576: true; the input reads as it did. -/
def footIdsUptoRow : OpenClaim := { program := "ytbgbmphjjdiaeaadoor", sum := "ab2d434a6701d7b4c86522583b558cdb331c6c1a7f458bd59dc291cc4e196538", func := "incipit/incipitlaw18.FootIds", spec := "footIds", inPlace := ["internal/abi.NoEscape", "internal/bytealg.MakeNoZero"], unfollowed := true, recurses := true, named := ["unicode/utf8.first", "unicode/utf8.acceptRanges", "internal/strconv.uint64pow10", "math/bits.deBruijn32tab", "math/bits.deBruijn64tab"], apart := false, laid := [("math/bits.deBruijn32tab", laid_math_bits_deBruijn32tab), ("math/bits.deBruijn64tab", laid_math_bits_deBruijn64tab), ("internal/strconv.uint64pow10", laid_internal_strconv_uint64pow10), ("unicode/utf8.acceptRanges", laid_unicode_utf8_acceptRanges), ("unicode/utf8.first", laid_unicode_utf8_first)], narrowed := true }
def FootIdsUptoSaid : Prop := footIdsUptoRow.holds Tryd.pinned (OpenSpec.upto footIdsSpec)

end Rows
end Go.Proofs.YtbgbmphjjdiaeaaDoor
