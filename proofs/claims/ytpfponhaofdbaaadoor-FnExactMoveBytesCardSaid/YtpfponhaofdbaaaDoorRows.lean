/-
  NARROWER THAN 'FOR EVERY INPUT', by the rows' own cells (each row's printed sentence says how): FnExactMoveBytes: laid · FnExactWordsOf: laid · FnExactStateText: laid · FnExactEncodeCmd: laid · FnExactEncodeAll: laid · FnExactEmitDiff: laid · FnExactEmitAll: laid · FnEmits: laid · FnKeys: laid.
  DERIVED. THE GIVEN ROWS OF THIS SEAT. 9 by the template 'for every input the law returns true; each argument reads behind the call as it read before'; 0 by the template 'total and deterministic' (their statements: YtpfponhaofdbaaaDoorTotals.lean).
  GIVEN WITH THE SEED: the statements are not yours to turn. If you find one false, say at which input.
  Laid BY PROGRAM, IN A SANDBOX (cutbox-rows.mjs): the forced cells as the released guide's own fill.sh prints them over the translation 15001616b2bec71f… (all of the seat's roots in one cut). By AI agents, Wed Nov 11 2026. No macro, syntax, notation, axiom, sorry.
-/
import Derived.Test.YtpfponhaofdbaaaDoorChecked
import GoSem.PinnedTables
import GoSem.Claim
import GoSem.ClaimJoined
import GoSem.ClaimMapViews
import Derived.JoinedTies
import Derived.KernelRfl
namespace Go.Proofs.YtpfponhaofdbaaaDoor
/- THE CELL 'sum', in the pinned program and in every row, IS THE sha256 OF THE DUMP (.gsa) THAT YtpfponhaofdbaaaDoorProg.lean LOADS. Nothing in Lean hashes anything: it is a label: what it is worth is what the hold of that sum in a sandbox is worth. -/
noncomputable def Tryd.pinned : Pinned := { name := "ytpfponhaofdbaaadoor", sum := "15001616b2bec71f70ab9db60a772928cfbc4fd066b6bc0acd0cf199613fab06", checked := Tryd.checked }
namespace Rows
def none {H : Type} : Left H := { results := [], args := [] }

/- WHAT THE LISTED PACKAGE-LEVEL VARIABLES READ AS WHEN THE CALL BEGINS. Each datum BY PROGRAM (the guide's laid-datum.mjs) off the statement by which the dump's own 'gosem.cut.vars' lays the variable. In a bare row this is a premise. The card (YtpfponhaofdbaaaDoorCards.lean) ties it to the program's text. -/
def laid_math_bits_deBruijn32tab {H : Type} : DataW H := .agg [.lit (.int .u8 0), .lit (.int .u8 1), .lit (.int .u8 28), .lit (.int .u8 2), .lit (.int .u8 29), .lit (.int .u8 14), .lit (.int .u8 24), .lit (.int .u8 3), .lit (.int .u8 30), .lit (.int .u8 22), .lit (.int .u8 20), .lit (.int .u8 15), .lit (.int .u8 25), .lit (.int .u8 17), .lit (.int .u8 4), .lit (.int .u8 8), .lit (.int .u8 31), .lit (.int .u8 27), .lit (.int .u8 13), .lit (.int .u8 23), .lit (.int .u8 21), .lit (.int .u8 19), .lit (.int .u8 16), .lit (.int .u8 7), .lit (.int .u8 26), .lit (.int .u8 12), .lit (.int .u8 18), .lit (.int .u8 6), .lit (.int .u8 11), .lit (.int .u8 5), .lit (.int .u8 10), .lit (.int .u8 9)]
def laid_math_bits_deBruijn64tab {H : Type} : DataW H := .agg [.lit (.int .u8 0), .lit (.int .u8 1), .lit (.int .u8 56), .lit (.int .u8 2), .lit (.int .u8 57), .lit (.int .u8 49), .lit (.int .u8 28), .lit (.int .u8 3), .lit (.int .u8 61), .lit (.int .u8 58), .lit (.int .u8 42), .lit (.int .u8 50), .lit (.int .u8 38), .lit (.int .u8 29), .lit (.int .u8 17), .lit (.int .u8 4), .lit (.int .u8 62), .lit (.int .u8 47), .lit (.int .u8 59), .lit (.int .u8 36), .lit (.int .u8 45), .lit (.int .u8 43), .lit (.int .u8 51), .lit (.int .u8 22), .lit (.int .u8 53), .lit (.int .u8 39), .lit (.int .u8 33), .lit (.int .u8 30), .lit (.int .u8 24), .lit (.int .u8 18), .lit (.int .u8 12), .lit (.int .u8 5), .lit (.int .u8 63), .lit (.int .u8 55), .lit (.int .u8 48), .lit (.int .u8 27), .lit (.int .u8 60), .lit (.int .u8 41), .lit (.int .u8 37), .lit (.int .u8 16), .lit (.int .u8 46), .lit (.int .u8 35), .lit (.int .u8 44), .lit (.int .u8 21), .lit (.int .u8 52), .lit (.int .u8 32), .lit (.int .u8 23), .lit (.int .u8 11), .lit (.int .u8 54), .lit (.int .u8 26), .lit (.int .u8 40), .lit (.int .u8 15), .lit (.int .u8 34), .lit (.int .u8 20), .lit (.int .u8 31), .lit (.int .u8 10), .lit (.int .u8 25), .lit (.int .u8 14), .lit (.int .u8 19), .lit (.int .u8 9), .lit (.int .u8 13), .lit (.int .u8 8), .lit (.int .u8 7), .lit (.int .u8 6)]
def laid_internal_strconv_uint64pow10 {H : Type} : DataW H := .agg [.lit (.int .u64 1), .lit (.int .u64 10), .lit (.int .u64 100), .lit (.int .u64 1000), .lit (.int .u64 10000), .lit (.int .u64 100000), .lit (.int .u64 1000000), .lit (.int .u64 10000000), .lit (.int .u64 100000000), .lit (.int .u64 1000000000), .lit (.int .u64 10000000000), .lit (.int .u64 100000000000), .lit (.int .u64 1000000000000), .lit (.int .u64 10000000000000), .lit (.int .u64 100000000000000), .lit (.int .u64 1000000000000000), .lit (.int .u64 10000000000000000), .lit (.int .u64 100000000000000000), .lit (.int .u64 1000000000000000000), .lit (.int .u64 10000000000000000000)]
def laid_unicode_utf8_acceptRanges {H : Type} : DataW H := .agg [.agg [.lit (.int .u8 128), .lit (.int .u8 191)], .agg [.lit (.int .u8 160), .lit (.int .u8 191)], .agg [.lit (.int .u8 128), .lit (.int .u8 159)], .agg [.lit (.int .u8 144), .lit (.int .u8 191)], .agg [.lit (.int .u8 128), .lit (.int .u8 143)], .agg [.lit (.int .u8 0), .lit (.int .u8 0)], .agg [.lit (.int .u8 0), .lit (.int .u8 0)], .agg [.lit (.int .u8 0), .lit (.int .u8 0)], .agg [.lit (.int .u8 0), .lit (.int .u8 0)], .agg [.lit (.int .u8 0), .lit (.int .u8 0)], .agg [.lit (.int .u8 0), .lit (.int .u8 0)], .agg [.lit (.int .u8 0), .lit (.int .u8 0)], .agg [.lit (.int .u8 0), .lit (.int .u8 0)], .agg [.lit (.int .u8 0), .lit (.int .u8 0)], .agg [.lit (.int .u8 0), .lit (.int .u8 0)], .agg [.lit (.int .u8 0), .lit (.int .u8 0)]]
/-- One of Go's own tables, pinned by name: the form's constant. -/
def laid_unicode_utf8_first : DataW Unit := Go.Pinned.utf8First

/-- 'laws.FnExactMoveBytes': WHATEVER THE INPUT: true; the input reads as it did. -/
def fnExactMoveBytesSpec : ChangeSpec := { name := "fnExactMoveBytes", fn := fun _ => fun
  | [d1, d2] => { results := [.lit (.bool true)], args := [d1, d2] }
  | _ => none }
def fnExactMoveBytesRow : OpenClaim := { program := "ytpfponhaofdbaaadoor", sum := "15001616b2bec71f70ab9db60a772928cfbc4fd066b6bc0acd0cf199613fab06", func := "loop.example/g00414/laws.FnExactMoveBytes", spec := "fnExactMoveBytes", recurses := true, named := ["internal/strconv.uint64pow10", "math/bits.deBruijn32tab", "math/bits.deBruijn64tab"], apart := false, laid := [("math/bits.deBruijn32tab", laid_math_bits_deBruijn32tab), ("math/bits.deBruijn64tab", laid_math_bits_deBruijn64tab), ("internal/strconv.uint64pow10", laid_internal_strconv_uint64pow10)] }
def FnExactMoveBytesSaid : Prop := fnExactMoveBytesRow.holds Tryd.pinned (OpenSpec.ofChange fnExactMoveBytesSpec)

/-- ITS FALSE NEIGHBOUR: 'it returns false'. Refute it at one input. -/
def fnExactMoveBytesWrong : ChangeSpec := { name := "fnExactMoveBytes", fn := fun _ => fun
  | [d1, d2] => { results := [.lit (.bool false)], args := [d1, d2] }
  | _ => none }
def FnExactMoveBytesWrongFalsely : Prop := fnExactMoveBytesRow.holds Tryd.pinned (OpenSpec.ofChange fnExactMoveBytesWrong)

/-- 'laws.FnExactWordsOf': WHATEVER THE INPUT: true; the input reads as it did. -/
def fnExactWordsOfSpec : ChangeSpec := { name := "fnExactWordsOf", fn := fun _ => fun
  | [d] => { results := [.lit (.bool true)], args := [d] }
  | _ => none }
def fnExactWordsOfRow : OpenClaim := { program := "ytpfponhaofdbaaadoor", sum := "15001616b2bec71f70ab9db60a772928cfbc4fd066b6bc0acd0cf199613fab06", func := "loop.example/g00414/laws.FnExactWordsOf", spec := "fnExactWordsOf", inPlace := ["internal/bytealg.CountString", "internal/bytealg.IndexByteString", "internal/bytealg.IndexString"], unfollowed := true, recurses := true, named := ["unicode/utf8.first", "unicode/utf8.acceptRanges", "internal/bytealg.MaxLen"], apart := false, laid := [("unicode/utf8.acceptRanges", laid_unicode_utf8_acceptRanges), ("unicode/utf8.first", laid_unicode_utf8_first)] }
def FnExactWordsOfSaid : Prop := fnExactWordsOfRow.holds Tryd.pinned (OpenSpec.ofChange fnExactWordsOfSpec)

/-- ITS FALSE NEIGHBOUR: 'it returns false'. Refute it at one input. -/
def fnExactWordsOfWrong : ChangeSpec := { name := "fnExactWordsOf", fn := fun _ => fun
  | [d] => { results := [.lit (.bool false)], args := [d] }
  | _ => none }
def FnExactWordsOfWrongFalsely : Prop := fnExactWordsOfRow.holds Tryd.pinned (OpenSpec.ofChange fnExactWordsOfWrong)

/-- 'laws.FnExactStateText': WHATEVER THE INPUT: true; the input reads as it did. -/
def fnExactStateTextSpec : ChangeSpec := { name := "fnExactStateText", fn := fun _ => fun
  | [d] => { results := [.lit (.bool true)], args := [d] }
  | _ => none }
def fnExactStateTextRow : OpenClaim := { program := "ytpfponhaofdbaaadoor", sum := "15001616b2bec71f70ab9db60a772928cfbc4fd066b6bc0acd0cf199613fab06", func := "loop.example/g00414/laws.FnExactStateText", spec := "fnExactStateText", recurses := true, named := ["internal/strconv.uint64pow10", "math/bits.deBruijn32tab", "math/bits.deBruijn64tab"], apart := false, laid := [("math/bits.deBruijn32tab", laid_math_bits_deBruijn32tab), ("math/bits.deBruijn64tab", laid_math_bits_deBruijn64tab), ("internal/strconv.uint64pow10", laid_internal_strconv_uint64pow10)] }
def FnExactStateTextSaid : Prop := fnExactStateTextRow.holds Tryd.pinned (OpenSpec.ofChange fnExactStateTextSpec)

/-- ITS FALSE NEIGHBOUR: 'it returns false'. Refute it at one input. -/
def fnExactStateTextWrong : ChangeSpec := { name := "fnExactStateText", fn := fun _ => fun
  | [d] => { results := [.lit (.bool false)], args := [d] }
  | _ => none }
def FnExactStateTextWrongFalsely : Prop := fnExactStateTextRow.holds Tryd.pinned (OpenSpec.ofChange fnExactStateTextWrong)

/-- 'laws.FnExactEncodeCmd': WHATEVER THE INPUT: true; the input reads as it did. -/
def fnExactEncodeCmdSpec : ChangeSpec := { name := "fnExactEncodeCmd", fn := fun _ => fun
  | [d] => { results := [.lit (.bool true)], args := [d] }
  | _ => none }
def fnExactEncodeCmdRow : OpenClaim := { program := "ytpfponhaofdbaaadoor", sum := "15001616b2bec71f70ab9db60a772928cfbc4fd066b6bc0acd0cf199613fab06", func := "loop.example/g00414/laws.FnExactEncodeCmd", spec := "fnExactEncodeCmd", inPlace := ["internal/bytealg.IndexByte"], recurses := true, named := ["internal/strconv.uint64pow10", "math/bits.deBruijn32tab", "math/bits.deBruijn64tab"], apart := false, laid := [("math/bits.deBruijn32tab", laid_math_bits_deBruijn32tab), ("math/bits.deBruijn64tab", laid_math_bits_deBruijn64tab), ("internal/strconv.uint64pow10", laid_internal_strconv_uint64pow10)] }
def FnExactEncodeCmdSaid : Prop := fnExactEncodeCmdRow.holds Tryd.pinned (OpenSpec.ofChange fnExactEncodeCmdSpec)

/-- ITS FALSE NEIGHBOUR: 'it returns false'. Refute it at one input. -/
def fnExactEncodeCmdWrong : ChangeSpec := { name := "fnExactEncodeCmd", fn := fun _ => fun
  | [d] => { results := [.lit (.bool false)], args := [d] }
  | _ => none }
def FnExactEncodeCmdWrongFalsely : Prop := fnExactEncodeCmdRow.holds Tryd.pinned (OpenSpec.ofChange fnExactEncodeCmdWrong)

/-- 'laws.FnExactEncodeAll': WHATEVER THE INPUT: true; the input reads as it did. -/
def fnExactEncodeAllSpec : ChangeSpec := { name := "fnExactEncodeAll", fn := fun _ => fun
  | [d] => { results := [.lit (.bool true)], args := [d] }
  | _ => none }
def fnExactEncodeAllRow : OpenClaim := { program := "ytpfponhaofdbaaadoor", sum := "15001616b2bec71f70ab9db60a772928cfbc4fd066b6bc0acd0cf199613fab06", func := "loop.example/g00414/laws.FnExactEncodeAll", spec := "fnExactEncodeAll", inPlace := ["internal/bytealg.IndexByte"], recurses := true, named := ["internal/strconv.uint64pow10", "math/bits.deBruijn32tab", "math/bits.deBruijn64tab"], apart := false, laid := [("math/bits.deBruijn32tab", laid_math_bits_deBruijn32tab), ("math/bits.deBruijn64tab", laid_math_bits_deBruijn64tab), ("internal/strconv.uint64pow10", laid_internal_strconv_uint64pow10)] }
def FnExactEncodeAllSaid : Prop := fnExactEncodeAllRow.holds Tryd.pinned (OpenSpec.ofChange fnExactEncodeAllSpec)

/-- ITS FALSE NEIGHBOUR: 'it returns false'. Refute it at one input. -/
def fnExactEncodeAllWrong : ChangeSpec := { name := "fnExactEncodeAll", fn := fun _ => fun
  | [d] => { results := [.lit (.bool false)], args := [d] }
  | _ => none }
def FnExactEncodeAllWrongFalsely : Prop := fnExactEncodeAllRow.holds Tryd.pinned (OpenSpec.ofChange fnExactEncodeAllWrong)

/-- 'laws.FnExactEmitDiff': WHATEVER THE INPUT: true; the input reads as it did. -/
def fnExactEmitDiffSpec : ChangeSpec := { name := "fnExactEmitDiff", fn := fun _ => fun
  | [d1, d2] => { results := [.lit (.bool true)], args := [d1, d2] }
  | _ => none }
def fnExactEmitDiffRow : OpenClaim := { program := "ytpfponhaofdbaaadoor", sum := "15001616b2bec71f70ab9db60a772928cfbc4fd066b6bc0acd0cf199613fab06", func := "loop.example/g00414/laws.FnExactEmitDiff", spec := "fnExactEmitDiff", unfollowed := true, recurses := true, named := ["internal/strconv.uint64pow10", "math/bits.deBruijn32tab", "math/bits.deBruijn64tab"], apart := false, laid := [("math/bits.deBruijn32tab", laid_math_bits_deBruijn32tab), ("math/bits.deBruijn64tab", laid_math_bits_deBruijn64tab), ("internal/strconv.uint64pow10", laid_internal_strconv_uint64pow10)] }
def FnExactEmitDiffSaid : Prop := fnExactEmitDiffRow.holds Tryd.pinned (OpenSpec.ofChange fnExactEmitDiffSpec)

/-- ITS FALSE NEIGHBOUR: 'it returns false'. Refute it at one input. -/
def fnExactEmitDiffWrong : ChangeSpec := { name := "fnExactEmitDiff", fn := fun _ => fun
  | [d1, d2] => { results := [.lit (.bool false)], args := [d1, d2] }
  | _ => none }
def FnExactEmitDiffWrongFalsely : Prop := fnExactEmitDiffRow.holds Tryd.pinned (OpenSpec.ofChange fnExactEmitDiffWrong)

/-- 'laws.FnExactEmitAll': WHATEVER THE INPUT: true; the input reads as it did. -/
def fnExactEmitAllSpec : ChangeSpec := { name := "fnExactEmitAll", fn := fun _ => fun
  | [d] => { results := [.lit (.bool true)], args := [d] }
  | _ => none }
def fnExactEmitAllRow : OpenClaim := { program := "ytpfponhaofdbaaadoor", sum := "15001616b2bec71f70ab9db60a772928cfbc4fd066b6bc0acd0cf199613fab06", func := "loop.example/g00414/laws.FnExactEmitAll", spec := "fnExactEmitAll", unfollowed := true, recurses := true, named := ["internal/strconv.uint64pow10", "math/bits.deBruijn32tab", "math/bits.deBruijn64tab"], apart := false, laid := [("math/bits.deBruijn32tab", laid_math_bits_deBruijn32tab), ("math/bits.deBruijn64tab", laid_math_bits_deBruijn64tab), ("internal/strconv.uint64pow10", laid_internal_strconv_uint64pow10)] }
def FnExactEmitAllSaid : Prop := fnExactEmitAllRow.holds Tryd.pinned (OpenSpec.ofChange fnExactEmitAllSpec)

/-- ITS FALSE NEIGHBOUR: 'it returns false'. Refute it at one input. -/
def fnExactEmitAllWrong : ChangeSpec := { name := "fnExactEmitAll", fn := fun _ => fun
  | [d] => { results := [.lit (.bool false)], args := [d] }
  | _ => none }
def FnExactEmitAllWrongFalsely : Prop := fnExactEmitAllRow.holds Tryd.pinned (OpenSpec.ofChange fnExactEmitAllWrong)

/-- 'laws.FnEmits': WHATEVER THE INPUT: true; the input reads as it did. -/
def fnEmitsSpec : ChangeSpec := { name := "fnEmits", fn := fun _ => fun
  | [d] => { results := [.lit (.bool true)], args := [d] }
  | _ => none }
def fnEmitsRow : OpenClaim := { program := "ytpfponhaofdbaaadoor", sum := "15001616b2bec71f70ab9db60a772928cfbc4fd066b6bc0acd0cf199613fab06", func := "loop.example/g00414/laws.FnEmits", spec := "fnEmits", unfollowed := true, recurses := true, named := ["internal/strconv.uint64pow10", "math/bits.deBruijn32tab", "math/bits.deBruijn64tab"], apart := false, laid := [("math/bits.deBruijn32tab", laid_math_bits_deBruijn32tab), ("math/bits.deBruijn64tab", laid_math_bits_deBruijn64tab), ("internal/strconv.uint64pow10", laid_internal_strconv_uint64pow10)] }
def FnEmitsSaid : Prop := fnEmitsRow.holds Tryd.pinned (OpenSpec.ofChange fnEmitsSpec)

/-- ITS FALSE NEIGHBOUR: 'it returns false'. Refute it at one input. -/
def fnEmitsWrong : ChangeSpec := { name := "fnEmits", fn := fun _ => fun
  | [d] => { results := [.lit (.bool false)], args := [d] }
  | _ => none }
def FnEmitsWrongFalsely : Prop := fnEmitsRow.holds Tryd.pinned (OpenSpec.ofChange fnEmitsWrong)

/-- 'laws.FnKeys': WHATEVER THE INPUT: true; the input reads as it did. -/
def fnKeysSpec : ChangeSpec := { name := "fnKeys", fn := fun _ => fun
  | [d] => { results := [.lit (.bool true)], args := [d] }
  | _ => none }
def fnKeysRow : OpenClaim := { program := "ytpfponhaofdbaaadoor", sum := "15001616b2bec71f70ab9db60a772928cfbc4fd066b6bc0acd0cf199613fab06", func := "loop.example/g00414/laws.FnKeys", spec := "fnKeys", inPlace := ["internal/bytealg.IndexByte"], recurses := true, named := ["internal/strconv.uint64pow10", "math/bits.deBruijn32tab", "math/bits.deBruijn64tab"], apart := false, laid := [("math/bits.deBruijn32tab", laid_math_bits_deBruijn32tab), ("math/bits.deBruijn64tab", laid_math_bits_deBruijn64tab), ("internal/strconv.uint64pow10", laid_internal_strconv_uint64pow10)] }
def FnKeysSaid : Prop := fnKeysRow.holds Tryd.pinned (OpenSpec.ofChange fnKeysSpec)

/-- ITS FALSE NEIGHBOUR: 'it returns false'. Refute it at one input. -/
def fnKeysWrong : ChangeSpec := { name := "fnKeys", fn := fun _ => fun
  | [d] => { results := [.lit (.bool false)], args := [d] }
  | _ => none }
def FnKeysWrongFalsely : Prop := fnKeysRow.holds Tryd.pinned (OpenSpec.ofChange fnKeysWrong)

/- THE SECOND FORM. 'bulk': how many values and letters a reading holds, each counted each time it is reached (what is shared counts as often as it is met; a slice's spare places count too). A statement '..UptoSaid' is the law's where the arguments, and the package variables that the reading takes, are together of bulk at most 1048576: NARROWER than '..Said'. Prove '..Said' where nothing that the law and all that it calls make is longer than what came in: it says more and counts as full. Else prove '..UptoSaid'. A law counts once. -/
mutual
def uptoBulk {H : Type} : DataW H → Nat
  | .lit (.string bytes) => bytes.length + 1
  | .lit _ => 1
  | .nil => 1
  | .ptr d => uptoBulk d + 1
  | .slice elems spare => uptoBulkAll elems + uptoBulkAll spare + 1
  | .agg parts => uptoBulkAll parts + 1
  | .iface _ d => uptoBulk d + 1
  | .map entries => uptoBulkEntries entries + 1
  | .held _ => 1
def uptoBulkAll {H : Type} : List (DataW H) → Nat
  | [] => 0
  | d :: r => uptoBulk d + uptoBulkAll r
def uptoBulkEntries {H : Type} : List (Lit × DataW H) → Nat
  | [] => 0
  | x :: r => uptoBulkEntry x + uptoBulkEntries r
def uptoBulkEntry {H : Type} : Lit × DataW H → Nat
  | (.string bytes, d) => bytes.length + uptoBulk d + 1
  | (_, d) => uptoBulk d + 1
 end
def uptoSmall : (H : Type) → List (DataW H) → Bool := fun _ ds => decide (uptoBulkAll ds ≤ 1048576)
def OpenSpec.upto (s : _root_.Go.ChangeSpec) : _root_.Go.OpenSpec := { _root_.Go.OpenSpec.ofChange s with cond := some uptoSmall }

/-- 'laws.FnExactMoveBytes', WHERE WHAT IT READS IS OF BULK AT MOST 1048576: true; the input reads as it did. -/
def fnExactMoveBytesUptoRow : OpenClaim := { program := "ytpfponhaofdbaaadoor", sum := "15001616b2bec71f70ab9db60a772928cfbc4fd066b6bc0acd0cf199613fab06", func := "loop.example/g00414/laws.FnExactMoveBytes", spec := "fnExactMoveBytes", recurses := true, named := ["internal/strconv.uint64pow10", "math/bits.deBruijn32tab", "math/bits.deBruijn64tab"], apart := false, laid := [("math/bits.deBruijn32tab", laid_math_bits_deBruijn32tab), ("math/bits.deBruijn64tab", laid_math_bits_deBruijn64tab), ("internal/strconv.uint64pow10", laid_internal_strconv_uint64pow10)], narrowed := true }
def FnExactMoveBytesUptoSaid : Prop := fnExactMoveBytesUptoRow.holds Tryd.pinned (OpenSpec.upto fnExactMoveBytesSpec)

/-- 'laws.FnExactWordsOf', WHERE WHAT IT READS IS OF BULK AT MOST 1048576: true; the input reads as it did. -/
def fnExactWordsOfUptoRow : OpenClaim := { program := "ytpfponhaofdbaaadoor", sum := "15001616b2bec71f70ab9db60a772928cfbc4fd066b6bc0acd0cf199613fab06", func := "loop.example/g00414/laws.FnExactWordsOf", spec := "fnExactWordsOf", inPlace := ["internal/bytealg.CountString", "internal/bytealg.IndexByteString", "internal/bytealg.IndexString"], unfollowed := true, recurses := true, named := ["unicode/utf8.first", "unicode/utf8.acceptRanges", "internal/bytealg.MaxLen"], apart := false, laid := [("unicode/utf8.acceptRanges", laid_unicode_utf8_acceptRanges), ("unicode/utf8.first", laid_unicode_utf8_first)], narrowed := true }
def FnExactWordsOfUptoSaid : Prop := fnExactWordsOfUptoRow.holds Tryd.pinned (OpenSpec.upto fnExactWordsOfSpec)

/-- 'laws.FnExactStateText', WHERE WHAT IT READS IS OF BULK AT MOST 1048576: true; the input reads as it did. -/
def fnExactStateTextUptoRow : OpenClaim := { program := "ytpfponhaofdbaaadoor", sum := "15001616b2bec71f70ab9db60a772928cfbc4fd066b6bc0acd0cf199613fab06", func := "loop.example/g00414/laws.FnExactStateText", spec := "fnExactStateText", recurses := true, named := ["internal/strconv.uint64pow10", "math/bits.deBruijn32tab", "math/bits.deBruijn64tab"], apart := false, laid := [("math/bits.deBruijn32tab", laid_math_bits_deBruijn32tab), ("math/bits.deBruijn64tab", laid_math_bits_deBruijn64tab), ("internal/strconv.uint64pow10", laid_internal_strconv_uint64pow10)], narrowed := true }
def FnExactStateTextUptoSaid : Prop := fnExactStateTextUptoRow.holds Tryd.pinned (OpenSpec.upto fnExactStateTextSpec)

/-- 'laws.FnExactEncodeCmd', WHERE WHAT IT READS IS OF BULK AT MOST 1048576: true; the input reads as it did. -/
def fnExactEncodeCmdUptoRow : OpenClaim := { program := "ytpfponhaofdbaaadoor", sum := "15001616b2bec71f70ab9db60a772928cfbc4fd066b6bc0acd0cf199613fab06", func := "loop.example/g00414/laws.FnExactEncodeCmd", spec := "fnExactEncodeCmd", inPlace := ["internal/bytealg.IndexByte"], recurses := true, named := ["internal/strconv.uint64pow10", "math/bits.deBruijn32tab", "math/bits.deBruijn64tab"], apart := false, laid := [("math/bits.deBruijn32tab", laid_math_bits_deBruijn32tab), ("math/bits.deBruijn64tab", laid_math_bits_deBruijn64tab), ("internal/strconv.uint64pow10", laid_internal_strconv_uint64pow10)], narrowed := true }
def FnExactEncodeCmdUptoSaid : Prop := fnExactEncodeCmdUptoRow.holds Tryd.pinned (OpenSpec.upto fnExactEncodeCmdSpec)

/-- 'laws.FnExactEncodeAll', WHERE WHAT IT READS IS OF BULK AT MOST 1048576: true; the input reads as it did. -/
def fnExactEncodeAllUptoRow : OpenClaim := { program := "ytpfponhaofdbaaadoor", sum := "15001616b2bec71f70ab9db60a772928cfbc4fd066b6bc0acd0cf199613fab06", func := "loop.example/g00414/laws.FnExactEncodeAll", spec := "fnExactEncodeAll", inPlace := ["internal/bytealg.IndexByte"], recurses := true, named := ["internal/strconv.uint64pow10", "math/bits.deBruijn32tab", "math/bits.deBruijn64tab"], apart := false, laid := [("math/bits.deBruijn32tab", laid_math_bits_deBruijn32tab), ("math/bits.deBruijn64tab", laid_math_bits_deBruijn64tab), ("internal/strconv.uint64pow10", laid_internal_strconv_uint64pow10)], narrowed := true }
def FnExactEncodeAllUptoSaid : Prop := fnExactEncodeAllUptoRow.holds Tryd.pinned (OpenSpec.upto fnExactEncodeAllSpec)

/-- 'laws.FnExactEmitDiff', WHERE WHAT IT READS IS OF BULK AT MOST 1048576: true; the input reads as it did. -/
def fnExactEmitDiffUptoRow : OpenClaim := { program := "ytpfponhaofdbaaadoor", sum := "15001616b2bec71f70ab9db60a772928cfbc4fd066b6bc0acd0cf199613fab06", func := "loop.example/g00414/laws.FnExactEmitDiff", spec := "fnExactEmitDiff", unfollowed := true, recurses := true, named := ["internal/strconv.uint64pow10", "math/bits.deBruijn32tab", "math/bits.deBruijn64tab"], apart := false, laid := [("math/bits.deBruijn32tab", laid_math_bits_deBruijn32tab), ("math/bits.deBruijn64tab", laid_math_bits_deBruijn64tab), ("internal/strconv.uint64pow10", laid_internal_strconv_uint64pow10)], narrowed := true }
def FnExactEmitDiffUptoSaid : Prop := fnExactEmitDiffUptoRow.holds Tryd.pinned (OpenSpec.upto fnExactEmitDiffSpec)

/-- 'laws.FnExactEmitAll', WHERE WHAT IT READS IS OF BULK AT MOST 1048576: true; the input reads as it did. -/
def fnExactEmitAllUptoRow : OpenClaim := { program := "ytpfponhaofdbaaadoor", sum := "15001616b2bec71f70ab9db60a772928cfbc4fd066b6bc0acd0cf199613fab06", func := "loop.example/g00414/laws.FnExactEmitAll", spec := "fnExactEmitAll", unfollowed := true, recurses := true, named := ["internal/strconv.uint64pow10", "math/bits.deBruijn32tab", "math/bits.deBruijn64tab"], apart := false, laid := [("math/bits.deBruijn32tab", laid_math_bits_deBruijn32tab), ("math/bits.deBruijn64tab", laid_math_bits_deBruijn64tab), ("internal/strconv.uint64pow10", laid_internal_strconv_uint64pow10)], narrowed := true }
def FnExactEmitAllUptoSaid : Prop := fnExactEmitAllUptoRow.holds Tryd.pinned (OpenSpec.upto fnExactEmitAllSpec)

/-- 'laws.FnEmits', WHERE WHAT IT READS IS OF BULK AT MOST 1048576: true; the input reads as it did. -/
def fnEmitsUptoRow : OpenClaim := { program := "ytpfponhaofdbaaadoor", sum := "15001616b2bec71f70ab9db60a772928cfbc4fd066b6bc0acd0cf199613fab06", func := "loop.example/g00414/laws.FnEmits", spec := "fnEmits", unfollowed := true, recurses := true, named := ["internal/strconv.uint64pow10", "math/bits.deBruijn32tab", "math/bits.deBruijn64tab"], apart := false, laid := [("math/bits.deBruijn32tab", laid_math_bits_deBruijn32tab), ("math/bits.deBruijn64tab", laid_math_bits_deBruijn64tab), ("internal/strconv.uint64pow10", laid_internal_strconv_uint64pow10)], narrowed := true }
def FnEmitsUptoSaid : Prop := fnEmitsUptoRow.holds Tryd.pinned (OpenSpec.upto fnEmitsSpec)

/-- 'laws.FnKeys', WHERE WHAT IT READS IS OF BULK AT MOST 1048576: true; the input reads as it did. -/
def fnKeysUptoRow : OpenClaim := { program := "ytpfponhaofdbaaadoor", sum := "15001616b2bec71f70ab9db60a772928cfbc4fd066b6bc0acd0cf199613fab06", func := "loop.example/g00414/laws.FnKeys", spec := "fnKeys", inPlace := ["internal/bytealg.IndexByte"], recurses := true, named := ["internal/strconv.uint64pow10", "math/bits.deBruijn32tab", "math/bits.deBruijn64tab"], apart := false, laid := [("math/bits.deBruijn32tab", laid_math_bits_deBruijn32tab), ("math/bits.deBruijn64tab", laid_math_bits_deBruijn64tab), ("internal/strconv.uint64pow10", laid_internal_strconv_uint64pow10)], narrowed := true }
def FnKeysUptoSaid : Prop := fnKeysUptoRow.holds Tryd.pinned (OpenSpec.upto fnKeysSpec)

end Rows
end Go.Proofs.YtpfponhaofdbaaaDoor
