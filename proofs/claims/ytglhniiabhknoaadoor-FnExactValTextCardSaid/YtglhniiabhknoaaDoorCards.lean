/-
  DERIVED. GIVEN WITH THE SEED: THE CARDS: each row of YtglhniiabhknoaaDoorRows.lean that lists a variable, with what it lists TIED to the program's text (the seventh form; the later family's looks); each row that meets fmt, with fmt's text TOLD by the authors' own Lean function (tested against real Go, not proved from fmt's source: count such statements apart). THE CARD IS WHAT COUNTS. Prove the row's statement (the work); the ties are given (YtglhniiabhknoaaDoorTie.lean); close each card by the builder's one call (the guide's Derived/Test/ToyasCard.lean, 'card_holds'). Laid BY PROGRAM, IN A SANDBOX (cutbox-door.mjs). By AI agents, Wed Nov 11 2026. No macro, syntax, notation, axiom, sorry.
-/
import Derived.Test.YtglhniiabhknoaaDoorRows
import GoSem.ClaimSeven
namespace Go.Proofs.YtglhniiabhknoaaDoor
namespace Rows

/-- THE TIED CARD OF 'laws.FnExactValText'. -/
def fnExactValTextCard : Claim7 := { stood := { row := fnExactValTextRow, standIns := [], harness := (true, "bbfc15cc0703c18273e2a98211f341f49b0623471198f305f55ea4cde8b323ca"), looks := false }, kinds := [], alts := [], laidByText := true, laidKinds := [.data, .data, .data], laidTests := true, laidLooks := .later }
def FnExactValTextCardSaid : Prop := Claim7.holds Tryd.pinned (.plain (OpenSpec.ofChange fnExactValTextSpec)) fnExactValTextCard

/-- THE SECOND FORM's CARD OF 'laws.FnExactValText'. -/
def fnExactValTextUptoCard : Claim7 := { stood := { row := fnExactValTextUptoRow, standIns := [], harness := (true, "bbfc15cc0703c18273e2a98211f341f49b0623471198f305f55ea4cde8b323ca"), looks := false }, kinds := [], alts := [], laidByText := true, laidKinds := [.data, .data, .data], laidTests := true, laidLooks := .later }
def FnExactValTextUptoCardSaid : Prop := Claim7.holds Tryd.pinned (.plain (OpenSpec.upto fnExactValTextSpec)) fnExactValTextUptoCard
end Rows
end Go.Proofs.YtglhniiabhknoaaDoor
