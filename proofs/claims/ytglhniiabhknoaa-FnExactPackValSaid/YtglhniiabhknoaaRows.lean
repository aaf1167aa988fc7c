/-
  NARROWER THAN 'FOR EVERY INPUT', by the rows' own cells (each row's printed sentence says how): FnExactAtKey: loops.
  DERIVED. THE GIVEN ROWS OF THIS SEAT. 3 by the template 'for every input the law returns true; each argument reads behind the call as it read before'; 0 by the template 'total and deterministic' (their statements: YtglhniiabhknoaaTotals.lean).
  GIVEN WITH THE SEED: the statements are not yours to turn. If you find one false, say at which input.
  Laid BY PROGRAM, IN A SANDBOX (cutbox-rows.mjs): the forced cells as the released guide's own fill.sh prints them over the translation 0eb645cdebb8c750… (all of the seat's roots in one cut). By AI agents, Wed Nov 11 2026. No macro, syntax, notation, axiom, sorry.
-/
import Derived.Test.YtglhniiabhknoaaChecked
import GoSem.Claim
import GoSem.ClaimJoined
import GoSem.ClaimMapViews
import Derived.JoinedTies
import Derived.KernelRfl
namespace Go.Proofs.Ytglhniiabhknoaa
/- THE CELL 'sum', in the pinned program and in every row, IS THE sha256 OF THE DUMP (.gsa) THAT YtglhniiabhknoaaProg.lean LOADS. Nothing in Lean hashes anything: it is a label: what it is worth is what the hold of that sum in a sandbox is worth. -/
noncomputable def Try.pinned : Pinned := { name := "ytglhniiabhknoaa", sum := "0eb645cdebb8c75016ca60d237867f8dc1fd89c631fcac4e244416e14dbd4ea9", checked := Try.checked }
namespace Rows
def none {H : Type} : Left H := { results := [], args := [] }

/-- 'laws.FnExactAtKey': WHATEVER THE INPUT: true; the input reads as it did. -/
def fnExactAtKeySpec : ChangeSpec := { name := "fnExactAtKey", fn := fun _ => fun
  | [d1, d2] => { results := [.lit (.bool true)], args := [d1, d2] }
  | _ => none }
def fnExactAtKeyRow : OpenClaim := { program := "ytglhniiabhknoaa", sum := "0eb645cdebb8c75016ca60d237867f8dc1fd89c631fcac4e244416e14dbd4ea9", func := "loop.example/g00464/laws.FnExactAtKey", spec := "fnExactAtKey", recurses := true, loops := true, apart := false }
def FnExactAtKeySaid : Prop := fnExactAtKeyRow.holds Try.pinned (OpenSpec.ofChange fnExactAtKeySpec)

/-- ITS FALSE NEIGHBOUR: 'it returns false'. Refute it at one input. -/
def fnExactAtKeyWrong : ChangeSpec := { name := "fnExactAtKey", fn := fun _ => fun
  | [d1, d2] => { results := [.lit (.bool false)], args := [d1, d2] }
  | _ => none }
def FnExactAtKeyWrongFalsely : Prop := fnExactAtKeyRow.holds Try.pinned (OpenSpec.ofChange fnExactAtKeyWrong)

/-- 'laws.FnExactPackVal': WHATEVER THE INPUT: true; the input reads as it did. -/
def fnExactPackValSpec : ChangeSpec := { name := "fnExactPackVal", fn := fun _ => fun
  | [d] => { results := [.lit (.bool true)], args := [d] }
  | _ => none }
def fnExactPackValRow : OpenClaim := { program := "ytglhniiabhknoaa", sum := "0eb645cdebb8c75016ca60d237867f8dc1fd89c631fcac4e244416e14dbd4ea9", func := "loop.example/g00464/laws.FnExactPackVal", spec := "fnExactPackVal", recurses := true, apart := false }
def FnExactPackValSaid : Prop := fnExactPackValRow.holds Try.pinned (OpenSpec.ofChange fnExactPackValSpec)

/-- ITS FALSE NEIGHBOUR: 'it returns false'. Refute it at one input. -/
def fnExactPackValWrong : ChangeSpec := { name := "fnExactPackVal", fn := fun _ => fun
  | [d] => { results := [.lit (.bool false)], args := [d] }
  | _ => none }
def FnExactPackValWrongFalsely : Prop := fnExactPackValRow.holds Try.pinned (OpenSpec.ofChange fnExactPackValWrong)

/-- 'laws.FnExactNewestFirst': WHATEVER THE INPUT: true; the input reads as it did. -/
def fnExactNewestFirstSpec : ChangeSpec := { name := "fnExactNewestFirst", fn := fun _ => fun
  | [d1, d2] => { results := [.lit (.bool true)], args := [d1, d2] }
  | _ => none }
def fnExactNewestFirstRow : OpenClaim := { program := "ytglhniiabhknoaa", sum := "0eb645cdebb8c75016ca60d237867f8dc1fd89c631fcac4e244416e14dbd4ea9", func := "loop.example/g00464/laws.FnExactNewestFirst", spec := "fnExactNewestFirst", unfollowed := true, recurses := true, apart := false }
def FnExactNewestFirstSaid : Prop := fnExactNewestFirstRow.holds Try.pinned (OpenSpec.ofChange fnExactNewestFirstSpec)

/-- ITS FALSE NEIGHBOUR: 'it returns false'. Refute it at one input. -/
def fnExactNewestFirstWrong : ChangeSpec := { name := "fnExactNewestFirst", fn := fun _ => fun
  | [d1, d2] => { results := [.lit (.bool false)], args := [d1, d2] }
  | _ => none }
def FnExactNewestFirstWrongFalsely : Prop := fnExactNewestFirstRow.holds Try.pinned (OpenSpec.ofChange fnExactNewestFirstWrong)

/- THE SECOND FORM. 'bulk': how many values and letters a reading holds, each counted each time it is reached (what is shared counts as often as it is met; a slice's spare places count too). A statement '..UptoSaid' is the law's where the arguments, and the package variables that the reading takes, are together of bulk at most 1048576: NARROWER than '..Said'. Prove '..Said' where nothing that the law and all that it calls make is longer than what came in: it says more and counts as full. Else prove '..UptoSaid'. A law counts once. -/
mutual
def uptoBulk {H : Type} : DataW H → Nat
  | .lit (.string bytes) => bytes.length + 1
  | .lit _ => 1
  | .nil => 1
  | .ptr d => uptoBulk d + 1
  | .slice elems spare => uptoBulkAll elems + uptoBulkAll spare + 1
  | .agg parts => uptoBulkAll parts + 1
  | .iface _ d => uptoBulk d + 1
  | .map entries => uptoBulkEntries entries + 1
  | .held _ => 1
def uptoBulkAll {H : Type} : List (DataW H) → Nat
  | [] => 0
  | d :: r => uptoBulk d + uptoBulkAll r
def uptoBulkEntries {H : Type} : List (Lit × DataW H) → Nat
  | [] => 0
  | x :: r => uptoBulkEntry x + uptoBulkEntries r
def uptoBulkEntry {H : Type} : Lit × DataW H → Nat
  | (.string bytes, d) => bytes.length + uptoBulk d + 1
  | (_, d) => uptoBulk d + 1
 end
def uptoSmall : (H : Type) → List (DataW H) → Bool := fun _ ds => decide (uptoBulkAll ds ≤ 1048576)
def OpenSpec.upto (s : _root_.Go.ChangeSpec) : _root_.Go.OpenSpec := { _root_.Go.OpenSpec.ofChange s with cond := some uptoSmall }

/-- 'laws.FnExactAtKey', WHERE WHAT IT READS IS OF BULK AT MOST 1048576: true; the input reads as it did. -/
def fnExactAtKeyUptoRow : OpenClaim := { program := "ytglhniiabhknoaa", sum := "0eb645cdebb8c75016ca60d237867f8dc1fd89c631fcac4e244416e14dbd4ea9", func := "loop.example/g00464/laws.FnExactAtKey", spec := "fnExactAtKey", recurses := true, loops := true, apart := false, narrowed := true }
def FnExactAtKeyUptoSaid : Prop := fnExactAtKeyUptoRow.holds Try.pinned (OpenSpec.upto fnExactAtKeySpec)

/-- 'laws.FnExactPackVal', WHERE WHAT IT READS IS OF BULK AT MOST 1048576: true; the input reads as it did. -/
def fnExactPackValUptoRow : OpenClaim := { program := "ytglhniiabhknoaa", sum := "0eb645cdebb8c75016ca60d237867f8dc1fd89c631fcac4e244416e14dbd4ea9", func := "loop.example/g00464/laws.FnExactPackVal", spec := "fnExactPackVal", recurses := true, apart := false, narrowed := true }
def FnExactPackValUptoSaid : Prop := fnExactPackValUptoRow.holds Try.pinned (OpenSpec.upto fnExactPackValSpec)

/-- 'laws.FnExactNewestFirst', WHERE WHAT IT READS IS OF BULK AT MOST 1048576: true; the input reads as it did. -/
def fnExactNewestFirstUptoRow : OpenClaim := { program := "ytglhniiabhknoaa", sum := "0eb645cdebb8c75016ca60d237867f8dc1fd89c631fcac4e244416e14dbd4ea9", func := "loop.example/g00464/laws.FnExactNewestFirst", spec := "fnExactNewestFirst", unfollowed := true, recurses := true, apart := false, narrowed := true }
def FnExactNewestFirstUptoSaid : Prop := fnExactNewestFirstUptoRow.holds Try.pinned (OpenSpec.upto fnExactNewestFirstSpec)

end Rows
end Go.Proofs.Ytglhniiabhknoaa
