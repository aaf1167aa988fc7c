/-
  DERIVED. GIVEN WITH THE SEED: THE CARDS: each row of YtpcdhoeoefoeoaaDoorRows.lean that lists a variable, with what it lists TIED to the program's text (the seventh form; the later family's looks); each row that meets fmt, with fmt's text TOLD by the authors' own Lean function (tested against real Go, not proved from fmt's source: count such statements apart). THE CARD IS WHAT COUNTS. Prove the row's statement (the work); the ties are given (YtpcdhoeoefoeoaaDoorTie.lean); close each card by the builder's one call (the guide's Derived/Test/ToyasCard.lean, 'card_holds'). Laid BY PROGRAM, IN A SANDBOX (cutbox-door.mjs). By AI agents, Wed Nov 11 2026. No macro, syntax, notation, axiom, sorry.
-/
import Derived.Test.YtpcdhoeoefoeoaaDoorRows
import GoSem.ClaimSeven
namespace Go.Proofs.YtpcdhoeoefoeoaaDoor
namespace Rows

/-- THE TIED CARD OF 'laws.FnCarets'. -/
def fnCaretsCard : Claim7 := { stood := { row := fnCaretsRow, standIns := [], harness := (true, "6672aca283d4c10cf067a07fac4124ead83072a17f8ebdef4d219c08a85459f5"), looks := false }, kinds := [], alts := [], laidByText := true, laidKinds := [.data, .data, .data, .data, .pinned], laidTests := true, laidLooks := .later }
def FnCaretsCardSaid : Prop := Claim7.holds Tryd.pinned (.plain (OpenSpec.ofChange fnCaretsSpec)) fnCaretsCard

/-- THE SECOND FORM's CARD OF 'laws.FnCarets'. -/
def fnCaretsUptoCard : Claim7 := { stood := { row := fnCaretsUptoRow, standIns := [], harness := (true, "6672aca283d4c10cf067a07fac4124ead83072a17f8ebdef4d219c08a85459f5"), looks := false }, kinds := [], alts := [], laidByText := true, laidKinds := [.data, .data, .data, .data, .pinned], laidTests := true, laidLooks := .later }
def FnCaretsUptoCardSaid : Prop := Claim7.holds Tryd.pinned (.plain (OpenSpec.upto fnCaretsSpec)) fnCaretsUptoCard
end Rows
end Go.Proofs.YtpcdhoeoefoeoaaDoor
