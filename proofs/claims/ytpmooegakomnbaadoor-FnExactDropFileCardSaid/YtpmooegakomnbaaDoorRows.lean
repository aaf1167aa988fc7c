/-
  NARROWER THAN 'FOR EVERY INPUT', by the rows' own cells (each row's printed sentence says how): FnExactSplit: laid · FnExactPathOk: laid · FnExactGlobOk: laid · FnExactFilesOk: laid · FnExactMatches: laid · FnExactDropFile: laid · FnExactPutFile: laid · FnExactPicked: laid · FnExactNumText: laid.
  DERIVED. THE GIVEN ROWS OF THIS SEAT. 9 by the template 'for every input the law returns true; each argument reads behind the call as it read before'; 0 by the template 'total and deterministic' (their statements: YtpmooegakomnbaaDoorTotals.lean).
  GIVEN WITH THE SEED: the statements are not yours to turn. If you find one false, say at which input.
  Laid BY PROGRAM, IN A SANDBOX (cutbox-rows.mjs): the forced cells as the released guide's own fill.sh prints them over the translation 42df4318f94a9044… (all of the seat's roots in one cut). By AI agents, Wed Nov 11 2026. No macro, syntax, notation, axiom, sorry.
-/
import Derived.Test.YtpmooegakomnbaaDoorChecked
import GoSem.PinnedTables
import GoSem.Claim
import GoSem.ClaimJoined
import GoSem.ClaimMapViews
import Derived.JoinedTies
import Derived.KernelRfl
namespace Go.Proofs.YtpmooegakomnbaaDoor
/- THE CELL 'sum', in the pinned program and in every row, IS THE sha256 OF THE DUMP (.gsa) THAT YtpmooegakomnbaaDoorProg.lean LOADS. Nothing in Lean hashes anything: it is a label: what it is worth is what the hold of that sum in a sandbox is worth. -/
noncomputable def Tryd.pinned : Pinned := { name := "ytpmooegakomnbaadoor", sum := "42df4318f94a9044b2d53b176b5bb43a87dc639eafad366f66d0a4739aaa73e1", checked := Tryd.checked }
namespace Rows
def none {H : Type} : Left H := { results := [], args := [] }

/- WHAT THE LISTED PACKAGE-LEVEL VARIABLES READ AS WHEN THE CALL BEGINS. Each datum BY PROGRAM (the guide's laid-datum.mjs) off the statement by which the dump's own 'gosem.cut.vars' lays the variable. In a bare row this is a premise. The card (YtpmooegakomnbaaDoorCards.lean) ties it to the program's text. -/
def laid_unicode_utf8_acceptRanges {H : Type} : DataW H := .agg [.agg [.lit (.int .u8 128), .lit (.int .u8 191)], .agg [.lit (.int .u8 160), .lit (.int .u8 191)], .agg [.lit (.int .u8 128), .lit (.int .u8 159)], .agg [.lit (.int .u8 144), .lit (.int .u8 191)], .agg [.lit (.int .u8 128), .lit (.int .u8 143)], .agg [.lit (.int .u8 0), .lit (.int .u8 0)], .agg [.lit (.int .u8 0), .lit (.int .u8 0)], .agg [.lit (.int .u8 0), .lit (.int .u8 0)], .agg [.lit (.int .u8 0), .lit (.int .u8 0)], .agg [.lit (.int .u8 0), .lit (.int .u8 0)], .agg [.lit (.int .u8 0), .lit (.int .u8 0)], .agg [.lit (.int .u8 0), .lit (.int .u8 0)], .agg [.lit (.int .u8 0), .lit (.int .u8 0)], .agg [.lit (.int .u8 0), .lit (.int .u8 0)], .agg [.lit (.int .u8 0), .lit (.int .u8 0)], .agg [.lit (.int .u8 0), .lit (.int .u8 0)]]
/-- One of Go's own tables, pinned by name: the form's constant. -/
def laid_unicode_utf8_first : DataW Unit := Go.Pinned.utf8First
def laid_math_bits_deBruijn32tab {H : Type} : DataW H := .agg [.lit (.int .u8 0), .lit (.int .u8 1), .lit (.int .u8 28), .lit (.int .u8 2), .lit (.int .u8 29), .lit (.int .u8 14), .lit (.int .u8 24), .lit (.int .u8 3), .lit (.int .u8 30), .lit (.int .u8 22), .lit (.int .u8 20), .lit (.int .u8 15), .lit (.int .u8 25), .lit (.int .u8 17), .lit (.int .u8 4), .lit (.int .u8 8), .lit (.int .u8 31), .lit (.int .u8 27), .lit (.int .u8 13), .lit (.int .u8 23), .lit (.int .u8 21), .lit (.int .u8 19), .lit (.int .u8 16), .lit (.int .u8 7), .lit (.int .u8 26), .lit (.int .u8 12), .lit (.int .u8 18), .lit (.int .u8 6), .lit (.int .u8 11), .lit (.int .u8 5), .lit (.int .u8 10), .lit (.int .u8 9)]
def laid_math_bits_deBruijn64tab {H : Type} : DataW H := .agg [.lit (.int .u8 0), .lit (.int .u8 1), .lit (.int .u8 56), .lit (.int .u8 2), .lit (.int .u8 57), .lit (.int .u8 49), .lit (.int .u8 28), .lit (.int .u8 3), .lit (.int .u8 61), .lit (.int .u8 58), .lit (.int .u8 42), .lit (.int .u8 50), .lit (.int .u8 38), .lit (.int .u8 29), .lit (.int .u8 17), .lit (.int .u8 4), .lit (.int .u8 62), .lit (.int .u8 47), .lit (.int .u8 59), .lit (.int .u8 36), .lit (.int .u8 45), .lit (.int .u8 43), .lit (.int .u8 51), .lit (.int .u8 22), .lit (.int .u8 53), .lit (.int .u8 39), .lit (.int .u8 33), .lit (.int .u8 30), .lit (.int .u8 24), .lit (.int .u8 18), .lit (.int .u8 12), .lit (.int .u8 5), .lit (.int .u8 63), .lit (.int .u8 55), .lit (.int .u8 48), .lit (.int .u8 27), .lit (.int .u8 60), .lit (.int .u8 41), .lit (.int .u8 37), .lit (.int .u8 16), .lit (.int .u8 46), .lit (.int .u8 35), .lit (.int .u8 44), .lit (.int .u8 21), .lit (.int .u8 52), .lit (.int .u8 32), .lit (.int .u8 23), .lit (.int .u8 11), .lit (.int .u8 54), .lit (.int .u8 26), .lit (.int .u8 40), .lit (.int .u8 15), .lit (.int .u8 34), .lit (.int .u8 20), .lit (.int .u8 31), .lit (.int .u8 10), .lit (.int .u8 25), .lit (.int .u8 14), .lit (.int .u8 19), .lit (.int .u8 9), .lit (.int .u8 13), .lit (.int .u8 8), .lit (.int .u8 7), .lit (.int .u8 6)]
def laid_internal_strconv_uint64pow10 {H : Type} : DataW H := .agg [.lit (.int .u64 1), .lit (.int .u64 10), .lit (.int .u64 100), .lit (.int .u64 1000), .lit (.int .u64 10000), .lit (.int .u64 100000), .lit (.int .u64 1000000), .lit (.int .u64 10000000), .lit (.int .u64 100000000), .lit (.int .u64 1000000000), .lit (.int .u64 10000000000), .lit (.int .u64 100000000000), .lit (.int .u64 1000000000000), .lit (.int .u64 10000000000000), .lit (.int .u64 100000000000000), .lit (.int .u64 1000000000000000), .lit (.int .u64 10000000000000000), .lit (.int .u64 100000000000000000), .lit (.int .u64 1000000000000000000), .lit (.int .u64 10000000000000000000)]

/-- 'laws.FnExactSplit': WHATEVER THE INPUT: true; the input reads as it did. -/
def fnExactSplitSpec : ChangeSpec := { name := "fnExactSplit", fn := fun _ => fun
  | [d1, d2] => { results := [.lit (.bool true)], args := [d1, d2] }
  | _ => none }
def fnExactSplitRow : OpenClaim := { program := "ytpmooegakomnbaadoor", sum := "42df4318f94a9044b2d53b176b5bb43a87dc639eafad366f66d0a4739aaa73e1", func := "loop.example/g00464/laws.FnExactSplit", spec := "fnExactSplit", inPlace := ["internal/bytealg.CountString", "internal/bytealg.IndexByteString", "internal/bytealg.IndexString"], named := ["unicode/utf8.first", "unicode/utf8.acceptRanges", "internal/bytealg.MaxLen"], apart := false, laid := [("unicode/utf8.acceptRanges", laid_unicode_utf8_acceptRanges), ("unicode/utf8.first", laid_unicode_utf8_first)] }
def FnExactSplitSaid : Prop := fnExactSplitRow.holds Tryd.pinned (OpenSpec.ofChange fnExactSplitSpec)

/-- ITS FALSE NEIGHBOUR: 'it returns false'. Refute it at one input. -/
def fnExactSplitWrong : ChangeSpec := { name := "fnExactSplit", fn := fun _ => fun
  | [d1, d2] => { results := [.lit (.bool false)], args := [d1, d2] }
  | _ => none }
def FnExactSplitWrongFalsely : Prop := fnExactSplitRow.holds Tryd.pinned (OpenSpec.ofChange fnExactSplitWrong)

/-- 'laws.FnExactPathOk': WHATEVER THE INPUT: true; the input reads as it did. -/
def fnExactPathOkSpec : ChangeSpec := { name := "fnExactPathOk", fn := fun _ => fun
  | [d] => { results := [.lit (.bool true)], args := [d] }
  | _ => none }
def fnExactPathOkRow : OpenClaim := { program := "ytpmooegakomnbaadoor", sum := "42df4318f94a9044b2d53b176b5bb43a87dc639eafad366f66d0a4739aaa73e1", func := "loop.example/g00464/laws.FnExactPathOk", spec := "fnExactPathOk", inPlace := ["internal/bytealg.CountString", "internal/bytealg.IndexByteString", "internal/bytealg.IndexString"], named := ["unicode/utf8.first", "unicode/utf8.acceptRanges", "internal/bytealg.MaxLen"], apart := false, laid := [("unicode/utf8.acceptRanges", laid_unicode_utf8_acceptRanges), ("unicode/utf8.first", laid_unicode_utf8_first)] }
def FnExactPathOkSaid : Prop := fnExactPathOkRow.holds Tryd.pinned (OpenSpec.ofChange fnExactPathOkSpec)

/-- ITS FALSE NEIGHBOUR: 'it returns false'. Refute it at one input. -/
def fnExactPathOkWrong : ChangeSpec := { name := "fnExactPathOk", fn := fun _ => fun
  | [d] => { results := [.lit (.bool false)], args := [d] }
  | _ => none }
def FnExactPathOkWrongFalsely : Prop := fnExactPathOkRow.holds Tryd.pinned (OpenSpec.ofChange fnExactPathOkWrong)

/-- 'laws.FnExactGlobOk': WHATEVER THE INPUT: true; the input reads as it did. -/
def fnExactGlobOkSpec : ChangeSpec := { name := "fnExactGlobOk", fn := fun _ => fun
  | [d] => { results := [.lit (.bool true)], args := [d] }
  | _ => none }
def fnExactGlobOkRow : OpenClaim := { program := "ytpmooegakomnbaadoor", sum := "42df4318f94a9044b2d53b176b5bb43a87dc639eafad366f66d0a4739aaa73e1", func := "loop.example/g00464/laws.FnExactGlobOk", spec := "fnExactGlobOk", inPlace := ["internal/bytealg.CountString", "internal/bytealg.IndexByteString", "internal/bytealg.IndexString"], named := ["unicode/utf8.first", "unicode/utf8.acceptRanges", "internal/bytealg.MaxLen"], apart := false, laid := [("unicode/utf8.acceptRanges", laid_unicode_utf8_acceptRanges), ("unicode/utf8.first", laid_unicode_utf8_first)] }
def FnExactGlobOkSaid : Prop := fnExactGlobOkRow.holds Tryd.pinned (OpenSpec.ofChange fnExactGlobOkSpec)

/-- ITS FALSE NEIGHBOUR: 'it returns false'. Refute it at one input. -/
def fnExactGlobOkWrong : ChangeSpec := { name := "fnExactGlobOk", fn := fun _ => fun
  | [d] => { results := [.lit (.bool false)], args := [d] }
  | _ => none }
def FnExactGlobOkWrongFalsely : Prop := fnExactGlobOkRow.holds Tryd.pinned (OpenSpec.ofChange fnExactGlobOkWrong)

/-- 'laws.FnExactFilesOk': WHATEVER THE INPUT: true; the input reads as it did. -/
def fnExactFilesOkSpec : ChangeSpec := { name := "fnExactFilesOk", fn := fun _ => fun
  | [d] => { results := [.lit (.bool true)], args := [d] }
  | _ => none }
def fnExactFilesOkRow : OpenClaim := { program := "ytpmooegakomnbaadoor", sum := "42df4318f94a9044b2d53b176b5bb43a87dc639eafad366f66d0a4739aaa73e1", func := "loop.example/g00464/laws.FnExactFilesOk", spec := "fnExactFilesOk", inPlace := ["internal/bytealg.CountString", "internal/bytealg.IndexByteString", "internal/bytealg.IndexString"], named := ["unicode/utf8.first", "unicode/utf8.acceptRanges", "internal/bytealg.MaxLen"], apart := false, laid := [("unicode/utf8.acceptRanges", laid_unicode_utf8_acceptRanges), ("unicode/utf8.first", laid_unicode_utf8_first)] }
def FnExactFilesOkSaid : Prop := fnExactFilesOkRow.holds Tryd.pinned (OpenSpec.ofChange fnExactFilesOkSpec)

/-- ITS FALSE NEIGHBOUR: 'it returns false'. Refute it at one input. -/
def fnExactFilesOkWrong : ChangeSpec := { name := "fnExactFilesOk", fn := fun _ => fun
  | [d] => { results := [.lit (.bool false)], args := [d] }
  | _ => none }
def FnExactFilesOkWrongFalsely : Prop := fnExactFilesOkRow.holds Tryd.pinned (OpenSpec.ofChange fnExactFilesOkWrong)

/-- 'laws.FnExactMatches': WHATEVER THE INPUT: true; the input reads as it did. -/
def fnExactMatchesSpec : ChangeSpec := { name := "fnExactMatches", fn := fun _ => fun
  | [d1, d2] => { results := [.lit (.bool true)], args := [d1, d2] }
  | _ => none }
def fnExactMatchesRow : OpenClaim := { program := "ytpmooegakomnbaadoor", sum := "42df4318f94a9044b2d53b176b5bb43a87dc639eafad366f66d0a4739aaa73e1", func := "loop.example/g00464/laws.FnExactMatches", spec := "fnExactMatches", inPlace := ["internal/bytealg.CountString", "internal/bytealg.IndexByteString", "internal/bytealg.IndexString"], recurses := true, named := ["unicode/utf8.first", "unicode/utf8.acceptRanges", "internal/bytealg.MaxLen"], apart := false, laid := [("unicode/utf8.acceptRanges", laid_unicode_utf8_acceptRanges), ("unicode/utf8.first", laid_unicode_utf8_first)] }
def FnExactMatchesSaid : Prop := fnExactMatchesRow.holds Tryd.pinned (OpenSpec.ofChange fnExactMatchesSpec)

/-- ITS FALSE NEIGHBOUR: 'it returns false'. Refute it at one input. -/
def fnExactMatchesWrong : ChangeSpec := { name := "fnExactMatches", fn := fun _ => fun
  | [d1, d2] => { results := [.lit (.bool false)], args := [d1, d2] }
  | _ => none }
def FnExactMatchesWrongFalsely : Prop := fnExactMatchesRow.holds Tryd.pinned (OpenSpec.ofChange fnExactMatchesWrong)

/-- 'laws.FnExactDropFile': WHATEVER THE INPUT: true; the input reads as it did. -/
def fnExactDropFileSpec : ChangeSpec := { name := "fnExactDropFile", fn := fun _ => fun
  | [d1, d2] => { results := [.lit (.bool true)], args := [d1, d2] }
  | _ => none }
def fnExactDropFileRow : OpenClaim := { program := "ytpmooegakomnbaadoor", sum := "42df4318f94a9044b2d53b176b5bb43a87dc639eafad366f66d0a4739aaa73e1", func := "loop.example/g00464/laws.FnExactDropFile", spec := "fnExactDropFile", inPlace := ["internal/bytealg.CountString", "internal/bytealg.IndexByteString", "internal/bytealg.IndexString"], unfollowed := true, recurses := true, named := ["unicode/utf8.first", "unicode/utf8.acceptRanges", "internal/bytealg.MaxLen"], apart := false, laid := [("unicode/utf8.acceptRanges", laid_unicode_utf8_acceptRanges), ("unicode/utf8.first", laid_unicode_utf8_first)] }
def FnExactDropFileSaid : Prop := fnExactDropFileRow.holds Tryd.pinned (OpenSpec.ofChange fnExactDropFileSpec)

/-- ITS FALSE NEIGHBOUR: 'it returns false'. Refute it at one input. -/
def fnExactDropFileWrong : ChangeSpec := { name := "fnExactDropFile", fn := fun _ => fun
  | [d1, d2] => { results := [.lit (.bool false)], args := [d1, d2] }
  | _ => none }
def FnExactDropFileWrongFalsely : Prop := fnExactDropFileRow.holds Tryd.pinned (OpenSpec.ofChange fnExactDropFileWrong)

/-- 'laws.FnExactPutFile': WHATEVER THE INPUT: true; the input reads as it did. -/
def fnExactPutFileSpec : ChangeSpec := { name := "fnExactPutFile", fn := fun _ => fun
  | [d1, d2] => { results := [.lit (.bool true)], args := [d1, d2] }
  | _ => none }
def fnExactPutFileRow : OpenClaim := { program := "ytpmooegakomnbaadoor", sum := "42df4318f94a9044b2d53b176b5bb43a87dc639eafad366f66d0a4739aaa73e1", func := "loop.example/g00464/laws.FnExactPutFile", spec := "fnExactPutFile", inPlace := ["slices.overlaps[loop.example/g00464/impl.File]", "internal/bytealg.CountString", "internal/bytealg.IndexByteString", "internal/bytealg.IndexString"], unfollowed := true, recurses := true, named := ["unicode/utf8.first", "unicode/utf8.acceptRanges", "internal/bytealg.MaxLen"], apart := false, laid := [("unicode/utf8.acceptRanges", laid_unicode_utf8_acceptRanges), ("unicode/utf8.first", laid_unicode_utf8_first)] }
def FnExactPutFileSaid : Prop := fnExactPutFileRow.holds Tryd.pinned (OpenSpec.ofChange fnExactPutFileSpec)

/-- ITS FALSE NEIGHBOUR: 'it returns false'. Refute it at one input. -/
def fnExactPutFileWrong : ChangeSpec := { name := "fnExactPutFile", fn := fun _ => fun
  | [d1, d2] => { results := [.lit (.bool false)], args := [d1, d2] }
  | _ => none }
def FnExactPutFileWrongFalsely : Prop := fnExactPutFileRow.holds Tryd.pinned (OpenSpec.ofChange fnExactPutFileWrong)

/-- 'laws.FnExactPicked': WHATEVER THE INPUT: true; the input reads as it did. -/
def fnExactPickedSpec : ChangeSpec := { name := "fnExactPicked", fn := fun _ => fun
  | [d1, d2] => { results := [.lit (.bool true)], args := [d1, d2] }
  | _ => none }
def fnExactPickedRow : OpenClaim := { program := "ytpmooegakomnbaadoor", sum := "42df4318f94a9044b2d53b176b5bb43a87dc639eafad366f66d0a4739aaa73e1", func := "loop.example/g00464/laws.FnExactPicked", spec := "fnExactPicked", inPlace := ["internal/bytealg.CountString", "internal/bytealg.IndexByteString", "internal/bytealg.IndexString"], recurses := true, named := ["unicode/utf8.first", "unicode/utf8.acceptRanges", "internal/bytealg.MaxLen"], apart := false, laid := [("unicode/utf8.acceptRanges", laid_unicode_utf8_acceptRanges), ("unicode/utf8.first", laid_unicode_utf8_first)] }
def FnExactPickedSaid : Prop := fnExactPickedRow.holds Tryd.pinned (OpenSpec.ofChange fnExactPickedSpec)

/-- ITS FALSE NEIGHBOUR: 'it returns false'. Refute it at one input. -/
def fnExactPickedWrong : ChangeSpec := { name := "fnExactPicked", fn := fun _ => fun
  | [d1, d2] => { results := [.lit (.bool false)], args := [d1, d2] }
  | _ => none }
def FnExactPickedWrongFalsely : Prop := fnExactPickedRow.holds Tryd.pinned (OpenSpec.ofChange fnExactPickedWrong)

/-- 'laws.FnExactNumText': WHATEVER THE INPUT: true; the input reads as it did. -/
def fnExactNumTextSpec : ChangeSpec := { name := "fnExactNumText", fn := fun _ => fun
  | [d] => { results := [.lit (.bool true)], args := [d] }
  | _ => none }
def fnExactNumTextRow : OpenClaim := { program := "ytpmooegakomnbaadoor", sum := "42df4318f94a9044b2d53b176b5bb43a87dc639eafad366f66d0a4739aaa73e1", func := "loop.example/g00464/laws.FnExactNumText", spec := "fnExactNumText", named := ["internal/strconv.uint64pow10", "math/bits.deBruijn32tab", "math/bits.deBruijn64tab"], apart := false, laid := [("math/bits.deBruijn32tab", laid_math_bits_deBruijn32tab), ("math/bits.deBruijn64tab", laid_math_bits_deBruijn64tab), ("internal/strconv.uint64pow10", laid_internal_strconv_uint64pow10)] }
def FnExactNumTextSaid : Prop := fnExactNumTextRow.holds Tryd.pinned (OpenSpec.ofChange fnExactNumTextSpec)

/-- ITS FALSE NEIGHBOUR: 'it returns false'. Refute it at one input. -/
def fnExactNumTextWrong : ChangeSpec := { name := "fnExactNumText", fn := fun _ => fun
  | [d] => { results := [.lit (.bool false)], args := [d] }
  | _ => none }
def FnExactNumTextWrongFalsely : Prop := fnExactNumTextRow.holds Tryd.pinned (OpenSpec.ofChange fnExactNumTextWrong)

/- THE SECOND FORM. 'bulk': how many values and letters a reading holds, each counted each time it is reached (what is shared counts as often as it is met; a slice's spare places count too). A statement '..UptoSaid' is the law's where the arguments, and the package variables that the reading takes, are together of bulk at most 1048576: NARROWER than '..Said'. Prove '..Said' where nothing that the law and all that it calls make is longer than what came in: it says more and counts as full. Else prove '..UptoSaid'. A law counts once. -/
mutual
def uptoBulk {H : Type} : DataW H → Nat
  | .lit (.string bytes) => bytes.length + 1
  | .lit _ => 1
  | .nil => 1
  | .ptr d => uptoBulk d + 1
  | .slice elems spare => uptoBulkAll elems + uptoBulkAll spare + 1
  | .agg parts => uptoBulkAll parts + 1
  | .iface _ d => uptoBulk d + 1
  | .map entries => uptoBulkEntries entries + 1
  | .held _ => 1
def uptoBulkAll {H : Type} : List (DataW H) → Nat
  | [] => 0
  | d :: r => uptoBulk d + uptoBulkAll r
def uptoBulkEntries {H : Type} : List (Lit × DataW H) → Nat
  | [] => 0
  | x :: r => uptoBulkEntry x + uptoBulkEntries r
def uptoBulkEntry {H : Type} : Lit × DataW H → Nat
  | (.string bytes, d) => bytes.length + uptoBulk d + 1
  | (_, d) => uptoBulk d + 1
 end
def uptoSmall : (H : Type) → List (DataW H) → Bool := fun _ ds => decide (uptoBulkAll ds ≤ 1048576)
def OpenSpec.upto (s : _root_.Go.ChangeSpec) : _root_.Go.OpenSpec := { _root_.Go.OpenSpec.ofChange s with cond := some uptoSmall }

/-- 'laws.FnExactSplit', WHERE WHAT IT READS IS OF BULK AT MOST 1048576: true; the input reads as it did. -/
def fnExactSplitUptoRow : OpenClaim := { program := "ytpmooegakomnbaadoor", sum := "42df4318f94a9044b2d53b176b5bb43a87dc639eafad366f66d0a4739aaa73e1", func := "loop.example/g00464/laws.FnExactSplit", spec := "fnExactSplit", inPlace := ["internal/bytealg.CountString", "internal/bytealg.IndexByteString", "internal/bytealg.IndexString"], named := ["unicode/utf8.first", "unicode/utf8.acceptRanges", "internal/bytealg.MaxLen"], apart := false, laid := [("unicode/utf8.acceptRanges", laid_unicode_utf8_acceptRanges), ("unicode/utf8.first", laid_unicode_utf8_first)], narrowed := true }
def FnExactSplitUptoSaid : Prop := fnExactSplitUptoRow.holds Tryd.pinned (OpenSpec.upto fnExactSplitSpec)

/-- 'laws.FnExactPathOk', WHERE WHAT IT READS IS OF BULK AT MOST 1048576: true; the input reads as it did. -/
def fnExactPathOkUptoRow : OpenClaim := { program := "ytpmooegakomnbaadoor", sum := "42df4318f94a9044b2d53b176b5bb43a87dc639eafad366f66d0a4739aaa73e1", func := "loop.example/g00464/laws.FnExactPathOk", spec := "fnExactPathOk", inPlace := ["internal/bytealg.CountString", "internal/bytealg.IndexByteString", "internal/bytealg.IndexString"], named := ["unicode/utf8.first", "unicode/utf8.acceptRanges", "internal/bytealg.MaxLen"], apart := false, laid := [("unicode/utf8.acceptRanges", laid_unicode_utf8_acceptRanges), ("unicode/utf8.first", laid_unicode_utf8_first)], narrowed := true }
def FnExactPathOkUptoSaid : Prop := fnExactPathOkUptoRow.holds Tryd.pinned (OpenSpec.upto fnExactPathOkSpec)

/-- 'laws.FnExactGlobOk', WHERE WHAT IT READS IS OF BULK AT MOST 1048576: true; the input reads as it did. -/
def fnExactGlobOkUptoRow : OpenClaim := { program := "ytpmooegakomnbaadoor", sum := "42df4318f94a9044b2d53b176b5bb43a87dc639eafad366f66d0a4739aaa73e1", func := "loop.example/g00464/laws.FnExactGlobOk", spec := "fnExactGlobOk", inPlace := ["internal/bytealg.CountString", "internal/bytealg.IndexByteString", "internal/bytealg.IndexString"], named := ["unicode/utf8.first", "unicode/utf8.acceptRanges", "internal/bytealg.MaxLen"], apart := false, laid := [("unicode/utf8.acceptRanges", laid_unicode_utf8_acceptRanges), ("unicode/utf8.first", laid_unicode_utf8_first)], narrowed := true }
def FnExactGlobOkUptoSaid : Prop := fnExactGlobOkUptoRow.holds Tryd.pinned (OpenSpec.upto fnExactGlobOkSpec)

/-- 'laws.FnExactFilesOk', WHERE WHAT IT READS IS OF BULK AT MOST 1048576: true; the input reads as it did. -/
def fnExactFilesOkUptoRow : OpenClaim := { program := "ytpmooegakomnbaadoor", sum := "42df4318f94a9044b2d53b176b5bb43a87dc639eafad366f66d0a4739aaa73e1", func := "loop.example/g00464/laws.FnExactFilesOk", spec := "fnExactFilesOk", inPlace := ["internal/bytealg.CountString", "internal/bytealg.IndexByteString", "internal/bytealg.IndexString"], named := ["unicode/utf8.first", "unicode/utf8.acceptRanges", "internal/bytealg.MaxLen"], apart := false, laid := [("unicode/utf8.acceptRanges", laid_unicode_utf8_acceptRanges), ("unicode/utf8.first", laid_unicode_utf8_first)], narrowed := true }
def FnExactFilesOkUptoSaid : Prop := fnExactFilesOkUptoRow.holds Tryd.pinned (OpenSpec.upto fnExactFilesOkSpec)

/-- 'laws.FnExactMatches', WHERE WHAT IT READS IS OF BULK AT MOST 1048576: true; the input reads as it did. -/
def fnExactMatchesUptoRow : OpenClaim := { program := "ytpmooegakomnbaadoor", sum := "42df4318f94a9044b2d53b176b5bb43a87dc639eafad366f66d0a4739aaa73e1", func := "loop.example/g00464/laws.FnExactMatches", spec := "fnExactMatches", inPlace := ["internal/bytealg.CountString", "internal/bytealg.IndexByteString", "internal/bytealg.IndexString"], recurses := true, named := ["unicode/utf8.first", "unicode/utf8.acceptRanges", "internal/bytealg.MaxLen"], apart := false, laid := [("unicode/utf8.acceptRanges", laid_unicode_utf8_acceptRanges), ("unicode/utf8.first", laid_unicode_utf8_first)], narrowed := true }
def FnExactMatchesUptoSaid : Prop := fnExactMatchesUptoRow.holds Tryd.pinned (OpenSpec.upto fnExactMatchesSpec)

/-- 'laws.FnExactDropFile', WHERE WHAT IT READS IS OF BULK AT MOST 1048576: true; the input reads as it did. -/
def fnExactDropFileUptoRow : OpenClaim := { program := "ytpmooegakomnbaadoor", sum := "42df4318f94a9044b2d53b176b5bb43a87dc639eafad366f66d0a4739aaa73e1", func := "loop.example/g00464/laws.FnExactDropFile", spec := "fnExactDropFile", inPlace := ["internal/bytealg.CountString", "internal/bytealg.IndexByteString", "internal/bytealg.IndexString"], unfollowed := true, recurses := true, named := ["unicode/utf8.first", "unicode/utf8.acceptRanges", "internal/bytealg.MaxLen"], apart := false, laid := [("unicode/utf8.acceptRanges", laid_unicode_utf8_acceptRanges), ("unicode/utf8.first", laid_unicode_utf8_first)], narrowed := true }
def FnExactDropFileUptoSaid : Prop := fnExactDropFileUptoRow.holds Tryd.pinned (OpenSpec.upto fnExactDropFileSpec)

/-- 'laws.FnExactPutFile', WHERE WHAT IT READS IS OF BULK AT MOST 1048576: true; the input reads as it did. -/
def fnExactPutFileUptoRow : OpenClaim := { program := "ytpmooegakomnbaadoor", sum := "42df4318f94a9044b2d53b176b5bb43a87dc639eafad366f66d0a4739aaa73e1", func := "loop.example/g00464/laws.FnExactPutFile", spec := "fnExactPutFile", inPlace := ["slices.overlaps[loop.example/g00464/impl.File]", "internal/bytealg.CountString", "internal/bytealg.IndexByteString", "internal/bytealg.IndexString"], unfollowed := true, recurses := true, named := ["unicode/utf8.first", "unicode/utf8.acceptRanges", "internal/bytealg.MaxLen"], apart := false, laid := [("unicode/utf8.acceptRanges", laid_unicode_utf8_acceptRanges), ("unicode/utf8.first", laid_unicode_utf8_first)], narrowed := true }
def FnExactPutFileUptoSaid : Prop := fnExactPutFileUptoRow.holds Tryd.pinned (OpenSpec.upto fnExactPutFileSpec)

/-- 'laws.FnExactPicked', WHERE WHAT IT READS IS OF BULK AT MOST 1048576: true; the input reads as it did. -/
def fnExactPickedUptoRow : OpenClaim := { program := "ytpmooegakomnbaadoor", sum := "42df4318f94a9044b2d53b176b5bb43a87dc639eafad366f66d0a4739aaa73e1", func := "loop.example/g00464/laws.FnExactPicked", spec := "fnExactPicked", inPlace := ["internal/bytealg.CountString", "internal/bytealg.IndexByteString", "internal/bytealg.IndexString"], recurses := true, named := ["unicode/utf8.first", "unicode/utf8.acceptRanges", "internal/bytealg.MaxLen"], apart := false, laid := [("unicode/utf8.acceptRanges", laid_unicode_utf8_acceptRanges), ("unicode/utf8.first", laid_unicode_utf8_first)], narrowed := true }
def FnExactPickedUptoSaid : Prop := fnExactPickedUptoRow.holds Tryd.pinned (OpenSpec.upto fnExactPickedSpec)

/-- 'laws.FnExactNumText', WHERE WHAT IT READS IS OF BULK AT MOST 1048576: true; the input reads as it did. -/
def fnExactNumTextUptoRow : OpenClaim := { program := "ytpmooegakomnbaadoor", sum := "42df4318f94a9044b2d53b176b5bb43a87dc639eafad366f66d0a4739aaa73e1", func := "loop.example/g00464/laws.FnExactNumText", spec := "fnExactNumText", named := ["internal/strconv.uint64pow10", "math/bits.deBruijn32tab", "math/bits.deBruijn64tab"], apart := false, laid := [("math/bits.deBruijn32tab", laid_math_bits_deBruijn32tab), ("math/bits.deBruijn64tab", laid_math_bits_deBruijn64tab), ("internal/strconv.uint64pow10", laid_internal_strconv_uint64pow10)], narrowed := true }
def FnExactNumTextUptoSaid : Prop := fnExactNumTextUptoRow.holds Tryd.pinned (OpenSpec.upto fnExactNumTextSpec)

end Rows
end Go.Proofs.YtpmooegakomnbaaDoor
