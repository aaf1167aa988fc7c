/-
  NARROWER THAN 'FOR EVERY INPUT', by the rows' own cells (each row's printed sentence says how): FnExactSameVal: loops · FnExactValOk: loops · FnExactAtKey: loops.
  DERIVED. THE GIVEN ROWS OF THIS SEAT. 14 by the template 'for every input the law returns true; each argument reads behind the call as it read before'; 0 by the template 'total and deterministic' (their statements: YtfbbagddhfeefaaTotals.lean).
  GIVEN WITH THE SEED: the statements are not yours to turn. If you find one false, say at which input.
  Laid BY PROGRAM, IN A SANDBOX (cutbox-rows.mjs): the forced cells as the released guide's own fill.sh prints them over the translation 0ceef8071a118f9a… (all of the seat's roots in one cut). By AI agents, Wed Nov 11 2026. No macro, syntax, notation, axiom, sorry.
-/
import Derived.Test.YtfbbagddhfeefaaChecked
import GoSem.Claim
import GoSem.ClaimJoined
import GoSem.ClaimMapViews
import Derived.JoinedTies
import Derived.KernelRfl
namespace Go.Proofs.Ytfbbagddhfeefaa
/- THE CELL 'sum', in the pinned program and in every row, IS THE sha256 OF THE DUMP (.gsa) THAT YtfbbagddhfeefaaProg.lean LOADS. Nothing in Lean hashes anything: it is a label: what it is worth is what the hold of that sum in a sandbox is worth. -/
noncomputable def Try.pinned : Pinned := { name := "ytfbbagddhfeefaa", sum := "0ceef8071a118f9aeca6544bb29aef6f1b90dcabf3a2798cbb0e279d18de4ca5", checked := Try.checked }
namespace Rows
def none {H : Type} : Left H := { results := [], args := [] }

/-- 'laws.FnExactSameVer': WHATEVER THE INPUT: true; the input reads as it did. -/
def fnExactSameVerSpec : ChangeSpec := { name := "fnExactSameVer", fn := fun _ => fun
  | [d1, d2] => { results := [.lit (.bool true)], args := [d1, d2] }
  | _ => none }
def fnExactSameVerRow : OpenClaim := { program := "ytfbbagddhfeefaa", sum := "0ceef8071a118f9aeca6544bb29aef6f1b90dcabf3a2798cbb0e279d18de4ca5", func := "loop.example/g00464/laws.FnExactSameVer", spec := "fnExactSameVer", apart := false }
def FnExactSameVerSaid : Prop := fnExactSameVerRow.holds Try.pinned (OpenSpec.ofChange fnExactSameVerSpec)

/-- ITS FALSE NEIGHBOUR: 'it returns false'. Refute it at one input. -/
def fnExactSameVerWrong : ChangeSpec := { name := "fnExactSameVer", fn := fun _ => fun
  | [d1, d2] => { results := [.lit (.bool false)], args := [d1, d2] }
  | _ => none }
def FnExactSameVerWrongFalsely : Prop := fnExactSameVerRow.holds Try.pinned (OpenSpec.ofChange fnExactSameVerWrong)

/-- 'laws.FnExactGetFile': WHATEVER THE INPUT: true; the input reads as it did. -/
def fnExactGetFileSpec : ChangeSpec := { name := "fnExactGetFile", fn := fun _ => fun
  | [d1, d2] => { results := [.lit (.bool true)], args := [d1, d2] }
  | _ => none }
def fnExactGetFileRow : OpenClaim := { program := "ytfbbagddhfeefaa", sum := "0ceef8071a118f9aeca6544bb29aef6f1b90dcabf3a2798cbb0e279d18de4ca5", func := "loop.example/g00464/laws.FnExactGetFile", spec := "fnExactGetFile", unfollowed := true, recurses := true, apart := false }
def FnExactGetFileSaid : Prop := fnExactGetFileRow.holds Try.pinned (OpenSpec.ofChange fnExactGetFileSpec)

/-- ITS FALSE NEIGHBOUR: 'it returns false'. Refute it at one input. -/
def fnExactGetFileWrong : ChangeSpec := { name := "fnExactGetFile", fn := fun _ => fun
  | [d1, d2] => { results := [.lit (.bool false)], args := [d1, d2] }
  | _ => none }
def FnExactGetFileWrongFalsely : Prop := fnExactGetFileRow.holds Try.pinned (OpenSpec.ofChange fnExactGetFileWrong)

/-- 'laws.FnExactVerOk': WHATEVER THE INPUT: true; the input reads as it did. -/
def fnExactVerOkSpec : ChangeSpec := { name := "fnExactVerOk", fn := fun _ => fun
  | [d] => { results := [.lit (.bool true)], args := [d] }
  | _ => none }
def fnExactVerOkRow : OpenClaim := { program := "ytfbbagddhfeefaa", sum := "0ceef8071a118f9aeca6544bb29aef6f1b90dcabf3a2798cbb0e279d18de4ca5", func := "loop.example/g00464/laws.FnExactVerOk", spec := "fnExactVerOk", apart := false }
def FnExactVerOkSaid : Prop := fnExactVerOkRow.holds Try.pinned (OpenSpec.ofChange fnExactVerOkSpec)

/-- ITS FALSE NEIGHBOUR: 'it returns false'. Refute it at one input. -/
def fnExactVerOkWrong : ChangeSpec := { name := "fnExactVerOk", fn := fun _ => fun
  | [d] => { results := [.lit (.bool false)], args := [d] }
  | _ => none }
def FnExactVerOkWrongFalsely : Prop := fnExactVerOkRow.holds Try.pinned (OpenSpec.ofChange fnExactVerOkWrong)

/-- 'laws.FnTexts': WHATEVER THE INPUT: true; the input reads as it did. -/
def fnTextsSpec : ChangeSpec := { name := "fnTexts", fn := fun _ => fun
  | [d] => { results := [.lit (.bool true)], args := [d] }
  | _ => none }
def fnTextsRow : OpenClaim := { program := "ytfbbagddhfeefaa", sum := "0ceef8071a118f9aeca6544bb29aef6f1b90dcabf3a2798cbb0e279d18de4ca5", func := "loop.example/g00464/laws.FnTexts", spec := "fnTexts", apart := false }
def FnTextsSaid : Prop := fnTextsRow.holds Try.pinned (OpenSpec.ofChange fnTextsSpec)

/-- ITS FALSE NEIGHBOUR: 'it returns false'. Refute it at one input. -/
def fnTextsWrong : ChangeSpec := { name := "fnTexts", fn := fun _ => fun
  | [d] => { results := [.lit (.bool false)], args := [d] }
  | _ => none }
def FnTextsWrongFalsely : Prop := fnTextsRow.holds Try.pinned (OpenSpec.ofChange fnTextsWrong)

/-- 'laws.FnExactSameVal': WHATEVER THE INPUT: true; the input reads as it did. -/
def fnExactSameValSpec : ChangeSpec := { name := "fnExactSameVal", fn := fun _ => fun
  | [d1, d2] => { results := [.lit (.bool true)], args := [d1, d2] }
  | _ => none }
def fnExactSameValRow : OpenClaim := { program := "ytfbbagddhfeefaa", sum := "0ceef8071a118f9aeca6544bb29aef6f1b90dcabf3a2798cbb0e279d18de4ca5", func := "loop.example/g00464/laws.FnExactSameVal", spec := "fnExactSameVal", unfollowed := true, recurses := true, loops := true, apart := false }
def FnExactSameValSaid : Prop := fnExactSameValRow.holds Try.pinned (OpenSpec.ofChange fnExactSameValSpec)

/-- ITS FALSE NEIGHBOUR: 'it returns false'. Refute it at one input. -/
def fnExactSameValWrong : ChangeSpec := { name := "fnExactSameVal", fn := fun _ => fun
  | [d1, d2] => { results := [.lit (.bool false)], args := [d1, d2] }
  | _ => none }
def FnExactSameValWrongFalsely : Prop := fnExactSameValRow.holds Try.pinned (OpenSpec.ofChange fnExactSameValWrong)

/-- 'laws.FnExactLessVer': WHATEVER THE INPUT: true; the input reads as it did. -/
def fnExactLessVerSpec : ChangeSpec := { name := "fnExactLessVer", fn := fun _ => fun
  | [d1, d2] => { results := [.lit (.bool true)], args := [d1, d2] }
  | _ => none }
def fnExactLessVerRow : OpenClaim := { program := "ytfbbagddhfeefaa", sum := "0ceef8071a118f9aeca6544bb29aef6f1b90dcabf3a2798cbb0e279d18de4ca5", func := "loop.example/g00464/laws.FnExactLessVer", spec := "fnExactLessVer", unfollowed := true, recurses := true, apart := false }
def FnExactLessVerSaid : Prop := fnExactLessVerRow.holds Try.pinned (OpenSpec.ofChange fnExactLessVerSpec)

/-- ITS FALSE NEIGHBOUR: 'it returns false'. Refute it at one input. -/
def fnExactLessVerWrong : ChangeSpec := { name := "fnExactLessVer", fn := fun _ => fun
  | [d1, d2] => { results := [.lit (.bool false)], args := [d1, d2] }
  | _ => none }
def FnExactLessVerWrongFalsely : Prop := fnExactLessVerRow.holds Try.pinned (OpenSpec.ofChange fnExactLessVerWrong)

/-- 'laws.FnExactValOk': WHATEVER THE INPUT: true; the input reads as it did. -/
def fnExactValOkSpec : ChangeSpec := { name := "fnExactValOk", fn := fun _ => fun
  | [d] => { results := [.lit (.bool true)], args := [d] }
  | _ => none }
def fnExactValOkRow : OpenClaim := { program := "ytfbbagddhfeefaa", sum := "0ceef8071a118f9aeca6544bb29aef6f1b90dcabf3a2798cbb0e279d18de4ca5", func := "loop.example/g00464/laws.FnExactValOk", spec := "fnExactValOk", unfollowed := true, recurses := true, loops := true, apart := false }
def FnExactValOkSaid : Prop := fnExactValOkRow.holds Try.pinned (OpenSpec.ofChange fnExactValOkSpec)

/-- ITS FALSE NEIGHBOUR: 'it returns false'. Refute it at one input. -/
def fnExactValOkWrong : ChangeSpec := { name := "fnExactValOk", fn := fun _ => fun
  | [d] => { results := [.lit (.bool false)], args := [d] }
  | _ => none }
def FnExactValOkWrongFalsely : Prop := fnExactValOkRow.holds Try.pinned (OpenSpec.ofChange fnExactValOkWrong)

/-- 'laws.FnExactAtKey': WHATEVER THE INPUT: true; the input reads as it did. -/
def fnExactAtKeySpec : ChangeSpec := { name := "fnExactAtKey", fn := fun _ => fun
  | [d1, d2] => { results := [.lit (.bool true)], args := [d1, d2] }
  | _ => none }
def fnExactAtKeyRow : OpenClaim := { program := "ytfbbagddhfeefaa", sum := "0ceef8071a118f9aeca6544bb29aef6f1b90dcabf3a2798cbb0e279d18de4ca5", func := "loop.example/g00464/laws.FnExactAtKey", spec := "fnExactAtKey", recurses := true, loops := true, apart := false }
def FnExactAtKeySaid : Prop := fnExactAtKeyRow.holds Try.pinned (OpenSpec.ofChange fnExactAtKeySpec)

/-- ITS FALSE NEIGHBOUR: 'it returns false'. Refute it at one input. -/
def fnExactAtKeyWrong : ChangeSpec := { name := "fnExactAtKey", fn := fun _ => fun
  | [d1, d2] => { results := [.lit (.bool false)], args := [d1, d2] }
  | _ => none }
def FnExactAtKeyWrongFalsely : Prop := fnExactAtKeyRow.holds Try.pinned (OpenSpec.ofChange fnExactAtKeyWrong)

/-- 'laws.FnExactFindPack': WHATEVER THE INPUT: true; the input reads as it did. -/
def fnExactFindPackSpec : ChangeSpec := { name := "fnExactFindPack", fn := fun _ => fun
  | [d1, d2] => { results := [.lit (.bool true)], args := [d1, d2] }
  | _ => none }
def fnExactFindPackRow : OpenClaim := { program := "ytfbbagddhfeefaa", sum := "0ceef8071a118f9aeca6544bb29aef6f1b90dcabf3a2798cbb0e279d18de4ca5", func := "loop.example/g00464/laws.FnExactFindPack", spec := "fnExactFindPack", unfollowed := true, recurses := true, apart := false }
def FnExactFindPackSaid : Prop := fnExactFindPackRow.holds Try.pinned (OpenSpec.ofChange fnExactFindPackSpec)

/-- ITS FALSE NEIGHBOUR: 'it returns false'. Refute it at one input. -/
def fnExactFindPackWrong : ChangeSpec := { name := "fnExactFindPack", fn := fun _ => fun
  | [d1, d2] => { results := [.lit (.bool false)], args := [d1, d2] }
  | _ => none }
def FnExactFindPackWrongFalsely : Prop := fnExactFindPackRow.holds Try.pinned (OpenSpec.ofChange fnExactFindPackWrong)

/-- 'laws.FnExactCmpOk': WHATEVER THE INPUT: true; the input reads as it did. -/
def fnExactCmpOkSpec : ChangeSpec := { name := "fnExactCmpOk", fn := fun _ => fun
  | [d1, d2] => { results := [.lit (.bool true)], args := [d1, d2] }
  | _ => none }
def fnExactCmpOkRow : OpenClaim := { program := "ytfbbagddhfeefaa", sum := "0ceef8071a118f9aeca6544bb29aef6f1b90dcabf3a2798cbb0e279d18de4ca5", func := "loop.example/g00464/laws.FnExactCmpOk", spec := "fnExactCmpOk", unfollowed := true, recurses := true, apart := false }
def FnExactCmpOkSaid : Prop := fnExactCmpOkRow.holds Try.pinned (OpenSpec.ofChange fnExactCmpOkSpec)

/-- ITS FALSE NEIGHBOUR: 'it returns false'. Refute it at one input. -/
def fnExactCmpOkWrong : ChangeSpec := { name := "fnExactCmpOk", fn := fun _ => fun
  | [d1, d2] => { results := [.lit (.bool false)], args := [d1, d2] }
  | _ => none }
def FnExactCmpOkWrongFalsely : Prop := fnExactCmpOkRow.holds Try.pinned (OpenSpec.ofChange fnExactCmpOkWrong)

/-- 'laws.FnVersBent': WHATEVER THE INPUT: true; the input reads as it did. -/
def fnVersBentSpec : ChangeSpec := { name := "fnVersBent", fn := fun _ => fun
  | [d] => { results := [.lit (.bool true)], args := [d] }
  | _ => none }
def fnVersBentRow : OpenClaim := { program := "ytfbbagddhfeefaa", sum := "0ceef8071a118f9aeca6544bb29aef6f1b90dcabf3a2798cbb0e279d18de4ca5", func := "loop.example/g00464/laws.FnVersBent", spec := "fnVersBent", unfollowed := true, recurses := true, apart := false }
def FnVersBentSaid : Prop := fnVersBentRow.holds Try.pinned (OpenSpec.ofChange fnVersBentSpec)

/-- ITS FALSE NEIGHBOUR: 'it returns false'. Refute it at one input. -/
def fnVersBentWrong : ChangeSpec := { name := "fnVersBent", fn := fun _ => fun
  | [d] => { results := [.lit (.bool false)], args := [d] }
  | _ => none }
def FnVersBentWrongFalsely : Prop := fnVersBentRow.holds Try.pinned (OpenSpec.ofChange fnVersBentWrong)

/-- 'laws.FnExactPackVal': WHATEVER THE INPUT: true; the input reads as it did. -/
def fnExactPackValSpec : ChangeSpec := { name := "fnExactPackVal", fn := fun _ => fun
  | [d] => { results := [.lit (.bool true)], args := [d] }
  | _ => none }
def fnExactPackValRow : OpenClaim := { program := "ytfbbagddhfeefaa", sum := "0ceef8071a118f9aeca6544bb29aef6f1b90dcabf3a2798cbb0e279d18de4ca5", func := "loop.example/g00464/laws.FnExactPackVal", spec := "fnExactPackVal", recurses := true, apart := false }
def FnExactPackValSaid : Prop := fnExactPackValRow.holds Try.pinned (OpenSpec.ofChange fnExactPackValSpec)

/-- ITS FALSE NEIGHBOUR: 'it returns false'. Refute it at one input. -/
def fnExactPackValWrong : ChangeSpec := { name := "fnExactPackVal", fn := fun _ => fun
  | [d] => { results := [.lit (.bool false)], args := [d] }
  | _ => none }
def FnExactPackValWrongFalsely : Prop := fnExactPackValRow.holds Try.pinned (OpenSpec.ofChange fnExactPackValWrong)

/-- 'laws.FnExactInRange': WHATEVER THE INPUT: true; the input reads as it did. -/
def fnExactInRangeSpec : ChangeSpec := { name := "fnExactInRange", fn := fun _ => fun
  | [d1, d2] => { results := [.lit (.bool true)], args := [d1, d2] }
  | _ => none }
def fnExactInRangeRow : OpenClaim := { program := "ytfbbagddhfeefaa", sum := "0ceef8071a118f9aeca6544bb29aef6f1b90dcabf3a2798cbb0e279d18de4ca5", func := "loop.example/g00464/laws.FnExactInRange", spec := "fnExactInRange", unfollowed := true, recurses := true, apart := false }
def FnExactInRangeSaid : Prop := fnExactInRangeRow.holds Try.pinned (OpenSpec.ofChange fnExactInRangeSpec)

/-- ITS FALSE NEIGHBOUR: 'it returns false'. Refute it at one input. -/
def fnExactInRangeWrong : ChangeSpec := { name := "fnExactInRange", fn := fun _ => fun
  | [d1, d2] => { results := [.lit (.bool false)], args := [d1, d2] }
  | _ => none }
def FnExactInRangeWrongFalsely : Prop := fnExactInRangeRow.holds Try.pinned (OpenSpec.ofChange fnExactInRangeWrong)

/-- 'laws.FnExactEntryOf': WHATEVER THE INPUT: true; the input reads as it did. -/
def fnExactEntryOfSpec : ChangeSpec := { name := "fnExactEntryOf", fn := fun _ => fun
  | [d1, d2, d3] => { results := [.lit (.bool true)], args := [d1, d2, d3] }
  | _ => none }
def fnExactEntryOfRow : OpenClaim := { program := "ytfbbagddhfeefaa", sum := "0ceef8071a118f9aeca6544bb29aef6f1b90dcabf3a2798cbb0e279d18de4ca5", func := "loop.example/g00464/laws.FnExactEntryOf", spec := "fnExactEntryOf", unfollowed := true, recurses := true, apart := false }
def FnExactEntryOfSaid : Prop := fnExactEntryOfRow.holds Try.pinned (OpenSpec.ofChange fnExactEntryOfSpec)

/-- ITS FALSE NEIGHBOUR: 'it returns false'. Refute it at one input. -/
def fnExactEntryOfWrong : ChangeSpec := { name := "fnExactEntryOf", fn := fun _ => fun
  | [d1, d2, d3] => { results := [.lit (.bool false)], args := [d1, d2, d3] }
  | _ => none }
def FnExactEntryOfWrongFalsely : Prop := fnExactEntryOfRow.holds Try.pinned (OpenSpec.ofChange fnExactEntryOfWrong)

/- THE SECOND FORM. 'bulk': how many values and letters a reading holds, each counted each time it is reached (what is shared counts as often as it is met; a slice's spare places count too). A statement '..UptoSaid' is the law's where the arguments, and the package variables that the reading takes, are together of bulk at most 1048576: NARROWER than '..Said'. Prove '..Said' where nothing that the law and all that it calls make is longer than what came in: it says more and counts as full. Else prove '..UptoSaid'. A law counts once. -/
mutual
def uptoBulk {H : Type} : DataW H → Nat
  | .lit (.string bytes) => bytes.length + 1
  | .lit _ => 1
  | .nil => 1
  | .ptr d => uptoBulk d + 1
  | .slice elems spare => uptoBulkAll elems + uptoBulkAll spare + 1
  | .agg parts => uptoBulkAll parts + 1
  | .iface _ d => uptoBulk d + 1
  | .map entries => uptoBulkEntries entries + 1
  | .held _ => 1
def uptoBulkAll {H : Type} : List (DataW H) → Nat
  | [] => 0
  | d :: r => uptoBulk d + uptoBulkAll r
def uptoBulkEntries {H : Type} : List (Lit × DataW H) → Nat
  | [] => 0
  | x :: r => uptoBulkEntry x + uptoBulkEntries r
def uptoBulkEntry {H : Type} : Lit × DataW H → Nat
  | (.string bytes, d) => bytes.length + uptoBulk d + 1
  | (_, d) => uptoBulk d + 1
 end
def uptoSmall : (H : Type) → List (DataW H) → Bool := fun _ ds => decide (uptoBulkAll ds ≤ 1048576)
def OpenSpec.upto (s : _root_.Go.ChangeSpec) : _root_.Go.OpenSpec := { _root_.Go.OpenSpec.ofChange s with cond := some uptoSmall }

/-- 'laws.FnExactSameVer', WHERE WHAT IT READS IS OF BULK AT MOST 1048576: true; the input reads as it did. -/
def fnExactSameVerUptoRow : OpenClaim := { program := "ytfbbagddhfeefaa", sum := "0ceef8071a118f9aeca6544bb29aef6f1b90dcabf3a2798cbb0e279d18de4ca5", func := "loop.example/g00464/laws.FnExactSameVer", spec := "fnExactSameVer", apart := false, narrowed := true }
def FnExactSameVerUptoSaid : Prop := fnExactSameVerUptoRow.holds Try.pinned (OpenSpec.upto fnExactSameVerSpec)

/-- 'laws.FnExactGetFile', WHERE WHAT IT READS IS OF BULK AT MOST 1048576: true; the input reads as it did. -/
def fnExactGetFileUptoRow : OpenClaim := { program := "ytfbbagddhfeefaa", sum := "0ceef8071a118f9aeca6544bb29aef6f1b90dcabf3a2798cbb0e279d18de4ca5", func := "loop.example/g00464/laws.FnExactGetFile", spec := "fnExactGetFile", unfollowed := true, recurses := true, apart := false, narrowed := true }
def FnExactGetFileUptoSaid : Prop := fnExactGetFileUptoRow.holds Try.pinned (OpenSpec.upto fnExactGetFileSpec)

/-- 'laws.FnExactVerOk', WHERE WHAT IT READS IS OF BULK AT MOST 1048576: true; the input reads as it did. -/
def fnExactVerOkUptoRow : OpenClaim := { program := "ytfbbagddhfeefaa", sum := "0ceef8071a118f9aeca6544bb29aef6f1b90dcabf3a2798cbb0e279d18de4ca5", func := "loop.example/g00464/laws.FnExactVerOk", spec := "fnExactVerOk", apart := false, narrowed := true }
def FnExactVerOkUptoSaid : Prop := fnExactVerOkUptoRow.holds Try.pinned (OpenSpec.upto fnExactVerOkSpec)

/-- 'laws.FnTexts', WHERE WHAT IT READS IS OF BULK AT MOST 1048576: true; the input reads as it did. -/
def fnTextsUptoRow : OpenClaim := { program := "ytfbbagddhfeefaa", sum := "0ceef8071a118f9aeca6544bb29aef6f1b90dcabf3a2798cbb0e279d18de4ca5", func := "loop.example/g00464/laws.FnTexts", spec := "fnTexts", apart := false, narrowed := true }
def FnTextsUptoSaid : Prop := fnTextsUptoRow.holds Try.pinned (OpenSpec.upto fnTextsSpec)

/-- 'laws.FnExactSameVal', WHERE WHAT IT READS IS OF BULK AT MOST 1048576: true; the input reads as it did. -/
def fnExactSameValUptoRow : OpenClaim := { program := "ytfbbagddhfeefaa", sum := "0ceef8071a118f9aeca6544bb29aef6f1b90dcabf3a2798cbb0e279d18de4ca5", func := "loop.example/g00464/laws.FnExactSameVal", spec := "fnExactSameVal", unfollowed := true, recurses := true, loops := true, apart := false, narrowed := true }
def FnExactSameValUptoSaid : Prop := fnExactSameValUptoRow.holds Try.pinned (OpenSpec.upto fnExactSameValSpec)

/-- 'laws.FnExactLessVer', WHERE WHAT IT READS IS OF BULK AT MOST 1048576: true; the input reads as it did. -/
def fnExactLessVerUptoRow : OpenClaim := { program := "ytfbbagddhfeefaa", sum := "0ceef8071a118f9aeca6544bb29aef6f1b90dcabf3a2798cbb0e279d18de4ca5", func := "loop.example/g00464/laws.FnExactLessVer", spec := "fnExactLessVer", unfollowed := true, recurses := true, apart := false, narrowed := true }
def FnExactLessVerUptoSaid : Prop := fnExactLessVerUptoRow.holds Try.pinned (OpenSpec.upto fnExactLessVerSpec)

/-- 'laws.FnExactValOk', WHERE WHAT IT READS IS OF BULK AT MOST 1048576: true; the input reads as it did. -/
def fnExactValOkUptoRow : OpenClaim := { program := "ytfbbagddhfeefaa", sum := "0ceef8071a118f9aeca6544bb29aef6f1b90dcabf3a2798cbb0e279d18de4ca5", func := "loop.example/g00464/laws.FnExactValOk", spec := "fnExactValOk", unfollowed := true, recurses := true, loops := true, apart := false, narrowed := true }
def FnExactValOkUptoSaid : Prop := fnExactValOkUptoRow.holds Try.pinned (OpenSpec.upto fnExactValOkSpec)

/-- 'laws.FnExactAtKey', WHERE WHAT IT READS IS OF BULK AT MOST 1048576: true; the input reads as it did. -/
def fnExactAtKeyUptoRow : OpenClaim := { program := "ytfbbagddhfeefaa", sum := "0ceef8071a118f9aeca6544bb29aef6f1b90dcabf3a2798cbb0e279d18de4ca5", func := "loop.example/g00464/laws.FnExactAtKey", spec := "fnExactAtKey", recurses := true, loops := true, apart := false, narrowed := true }
def FnExactAtKeyUptoSaid : Prop := fnExactAtKeyUptoRow.holds Try.pinned (OpenSpec.upto fnExactAtKeySpec)

/-- 'laws.FnExactFindPack', WHERE WHAT IT READS IS OF BULK AT MOST 1048576: true; the input reads as it did. -/
def fnExactFindPackUptoRow : OpenClaim := { program := "ytfbbagddhfeefaa", sum := "0ceef8071a118f9aeca6544bb29aef6f1b90dcabf3a2798cbb0e279d18de4ca5", func := "loop.example/g00464/laws.FnExactFindPack", spec := "fnExactFindPack", unfollowed := true, recurses := true, apart := false, narrowed := true }
def FnExactFindPackUptoSaid : Prop := fnExactFindPackUptoRow.holds Try.pinned (OpenSpec.upto fnExactFindPackSpec)

/-- 'laws.FnExactCmpOk', WHERE WHAT IT READS IS OF BULK AT MOST 1048576: true; the input reads as it did. -/
def fnExactCmpOkUptoRow : OpenClaim := { program := "ytfbbagddhfeefaa", sum := "0ceef8071a118f9aeca6544bb29aef6f1b90dcabf3a2798cbb0e279d18de4ca5", func := "loop.example/g00464/laws.FnExactCmpOk", spec := "fnExactCmpOk", unfollowed := true, recurses := true, apart := false, narrowed := true }
def FnExactCmpOkUptoSaid : Prop := fnExactCmpOkUptoRow.holds Try.pinned (OpenSpec.upto fnExactCmpOkSpec)

/-- 'laws.FnVersBent', WHERE WHAT IT READS IS OF BULK AT MOST 1048576: true; the input reads as it did. -/
def fnVersBentUptoRow : OpenClaim := { program := "ytfbbagddhfeefaa", sum := "0ceef8071a118f9aeca6544bb29aef6f1b90dcabf3a2798cbb0e279d18de4ca5", func := "loop.example/g00464/laws.FnVersBent", spec := "fnVersBent", unfollowed := true, recurses := true, apart := false, narrowed := true }
def FnVersBentUptoSaid : Prop := fnVersBentUptoRow.holds Try.pinned (OpenSpec.upto fnVersBentSpec)

/-- 'laws.FnExactPackVal', WHERE WHAT IT READS IS OF BULK AT MOST 1048576: true; the input reads as it did. -/
def fnExactPackValUptoRow : OpenClaim := { program := "ytfbbagddhfeefaa", sum := "0ceef8071a118f9aeca6544bb29aef6f1b90dcabf3a2798cbb0e279d18de4ca5", func := "loop.example/g00464/laws.FnExactPackVal", spec := "fnExactPackVal", recurses := true, apart := false, narrowed := true }
def FnExactPackValUptoSaid : Prop := fnExactPackValUptoRow.holds Try.pinned (OpenSpec.upto fnExactPackValSpec)

/-- 'laws.FnExactInRange', WHERE WHAT IT READS IS OF BULK AT MOST 1048576: true; the input reads as it did. -/
def fnExactInRangeUptoRow : OpenClaim := { program := "ytfbbagddhfeefaa", sum := "0ceef8071a118f9aeca6544bb29aef6f1b90dcabf3a2798cbb0e279d18de4ca5", func := "loop.example/g00464/laws.FnExactInRange", spec := "fnExactInRange", unfollowed := true, recurses := true, apart := false, narrowed := true }
def FnExactInRangeUptoSaid : Prop := fnExactInRangeUptoRow.holds Try.pinned (OpenSpec.upto fnExactInRangeSpec)

/-- 'laws.FnExactEntryOf', WHERE WHAT IT READS IS OF BULK AT MOST 1048576: true; the input reads as it did. -/
def fnExactEntryOfUptoRow : OpenClaim := { program := "ytfbbagddhfeefaa", sum := "0ceef8071a118f9aeca6544bb29aef6f1b90dcabf3a2798cbb0e279d18de4ca5", func := "loop.example/g00464/laws.FnExactEntryOf", spec := "fnExactEntryOf", unfollowed := true, recurses := true, apart := false, narrowed := true }
def FnExactEntryOfUptoSaid : Prop := fnExactEntryOfUptoRow.holds Try.pinned (OpenSpec.upto fnExactEntryOfSpec)

end Rows
end Go.Proofs.Ytfbbagddhfeefaa
