/-
  DERIVED. GIVEN WITH THE SEED: THE CARDS: each row of YtbjgmbhkofgjaaaDoorRows.lean that lists a variable, with what it lists TIED to the program's text (the seventh form; the later family's looks); each row that meets fmt, with fmt's text TOLD by the authors' own Lean function (tested against real Go, not proved from fmt's source: count such statements apart). THE CARD IS WHAT COUNTS. Prove the row's statement (the work); the ties are given (YtbjgmbhkofgjaaaDoorTie.lean); close each card by the builder's one call (the guide's Derived/Test/ToyasCard.lean, 'card_holds'). Laid BY PROGRAM, IN A SANDBOX (cutbox-door.mjs). By AI agents, Wed Nov 11 2026. No macro, syntax, notation, axiom, sorry.
-/
import Derived.Test.YtbjgmbhkofgjaaaDoorRows
import GoSem.ClaimSeven
namespace Go.Proofs.YtbjgmbhkofgjaaaDoor
namespace Rows

/-- THE TIED CARD OF 'laws.FnVers'. -/
def fnVersCard : Claim7 := { stood := { row := fnVersRow, standIns := [], harness := (true, "02727ea206d99da29be28edda3295ce079e51c5dd032f5115cdeb3cf82ee13ce"), looks := false }, kinds := [], alts := [], laidByText := true, laidKinds := [.data, .data, .data, .data, .pinned], laidTests := true, laidLooks := .later }
def FnVersCardSaid : Prop := Claim7.holds Tryd.pinned (.plain (OpenSpec.ofChange fnVersSpec)) fnVersCard

/-- THE TIED CARD OF 'laws.FnGlobs'. -/
def fnGlobsCard : Claim7 := { stood := { row := fnGlobsRow, standIns := [], harness := (true, "02727ea206d99da29be28edda3295ce079e51c5dd032f5115cdeb3cf82ee13ce"), looks := false }, kinds := [], alts := [], laidByText := true, laidKinds := [.data, .pinned], laidTests := true, laidLooks := .later }
def FnGlobsCardSaid : Prop := Claim7.holds Tryd.pinned (.plain (OpenSpec.ofChange fnGlobsSpec)) fnGlobsCard

/-- THE SECOND FORM's CARD OF 'laws.FnVers'. -/
def fnVersUptoCard : Claim7 := { stood := { row := fnVersUptoRow, standIns := [], harness := (true, "02727ea206d99da29be28edda3295ce079e51c5dd032f5115cdeb3cf82ee13ce"), looks := false }, kinds := [], alts := [], laidByText := true, laidKinds := [.data, .data, .data, .data, .pinned], laidTests := true, laidLooks := .later }
def FnVersUptoCardSaid : Prop := Claim7.holds Tryd.pinned (.plain (OpenSpec.upto fnVersSpec)) fnVersUptoCard

/-- THE SECOND FORM's CARD OF 'laws.FnGlobs'. -/
def fnGlobsUptoCard : Claim7 := { stood := { row := fnGlobsUptoRow, standIns := [], harness := (true, "02727ea206d99da29be28edda3295ce079e51c5dd032f5115cdeb3cf82ee13ce"), looks := false }, kinds := [], alts := [], laidByText := true, laidKinds := [.data, .pinned], laidTests := true, laidLooks := .later }
def FnGlobsUptoCardSaid : Prop := Claim7.holds Tryd.pinned (.plain (OpenSpec.upto fnGlobsSpec)) fnGlobsUptoCard
end Rows
end Go.Proofs.YtbjgmbhkofgjaaaDoor
