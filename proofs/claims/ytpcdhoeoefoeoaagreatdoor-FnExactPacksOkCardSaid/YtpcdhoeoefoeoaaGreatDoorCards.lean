/-
  DERIVED. GIVEN WITH THE SEED: THE CARDS: each row of YtpcdhoeoefoeoaaGreatDoorRows.lean that lists a variable, with what it lists TIED to the program's text (the seventh form; the later family's looks); each row that meets fmt, with fmt's text TOLD by the authors' own Lean function (tested against real Go, not proved from fmt's source: count such statements apart). THE CARD IS WHAT COUNTS. Prove the row's statement (the work); the ties are given (YtpcdhoeoefoeoaaGreatDoorTie.lean); close each card by the builder's one call (the guide's Derived/Test/ToyasCard.lean, 'card_holds'). Laid BY PROGRAM, IN A SANDBOX (cutbox-door.mjs). By AI agents, Wed Nov 11 2026. No macro, syntax, notation, axiom, sorry.
-/
import Derived.Test.YtpcdhoeoefoeoaaGreatDoorRows
import GoSem.ClaimSeven
namespace Go.Proofs.YtpcdhoeoefoeoaaGreatDoor
namespace Rows

/-- THE TIED CARD OF 'laws.FnExactMayTake'. -/
def fnExactMayTakeCard : Claim7 := { stood := { row := fnExactMayTakeRow, standIns := [], harness := (true, "2b66f8d0cf193cf50620628a545c0c8425c1174512bdfbc66f7a55b1c9f4754d"), looks := false }, kinds := [], alts := [], laidByText := true, laidKinds := [.data, .data, .data, .data, .pinned], laidTests := true, laidLooks := .later }
def FnExactMayTakeCardSaid : Prop := Claim7.holds Tryz.pinned (.plain (OpenSpec.ofChange fnExactMayTakeSpec)) fnExactMayTakeCard

/-- THE TIED CARD OF 'laws.FnExactPackOk'. -/
def fnExactPackOkCard : Claim7 := { stood := { row := fnExactPackOkRow, standIns := [], harness := (true, "2b66f8d0cf193cf50620628a545c0c8425c1174512bdfbc66f7a55b1c9f4754d"), looks := false }, kinds := [], alts := [], laidByText := true, laidKinds := [.data, .data, .data, .data, .pinned], laidTests := true, laidLooks := .later }
def FnExactPackOkCardSaid : Prop := Claim7.holds Tryz.pinned (.plain (OpenSpec.ofChange fnExactPackOkSpec)) fnExactPackOkCard

/-- THE TIED CARD OF 'laws.FnExactRegOk'. -/
def fnExactRegOkCard : Claim7 := { stood := { row := fnExactRegOkRow, standIns := [], harness := (true, "2b66f8d0cf193cf50620628a545c0c8425c1174512bdfbc66f7a55b1c9f4754d"), looks := false }, kinds := [], alts := [], laidByText := true, laidKinds := [.data, .data, .data, .data, .pinned], laidTests := true, laidLooks := .later }
def FnExactRegOkCardSaid : Prop := Claim7.holds Tryz.pinned (.plain (OpenSpec.ofChange fnExactRegOkSpec)) fnExactRegOkCard

/-- THE TIED CARD OF 'laws.FnExactPacksOk'. -/
def fnExactPacksOkCard : Claim7 := { stood := { row := fnExactPacksOkRow, standIns := [], harness := (true, "2b66f8d0cf193cf50620628a545c0c8425c1174512bdfbc66f7a55b1c9f4754d"), looks := false }, kinds := [], alts := [], laidByText := true, laidKinds := [.data, .data, .data, .data, .pinned], laidTests := true, laidLooks := .later }
def FnExactPacksOkCardSaid : Prop := Claim7.holds Tryz.pinned (.plain (OpenSpec.ofChange fnExactPacksOkSpec)) fnExactPacksOkCard

/-- THE TIED CARD OF 'laws.FnExactParseRange'. -/
def fnExactParseRangeCard : Claim7 := { stood := { row := fnExactParseRangeRow, standIns := [], harness := (true, "2b66f8d0cf193cf50620628a545c0c8425c1174512bdfbc66f7a55b1c9f4754d"), looks := false }, kinds := [], alts := [], laidByText := true, laidKinds := [.data, .data, .data, .data, .pinned], laidTests := true, laidLooks := .later }
def FnExactParseRangeCardSaid : Prop := Claim7.holds Tryz.pinned (.plain (OpenSpec.ofChange fnExactParseRangeSpec)) fnExactParseRangeCard

/-- THE TIED CARD OF 'laws.FnRanges'. -/
def fnRangesCard : Claim7 := { stood := { row := fnRangesRow, standIns := [], harness := (true, "2b66f8d0cf193cf50620628a545c0c8425c1174512bdfbc66f7a55b1c9f4754d"), looks := false }, kinds := [], alts := [], laidByText := true, laidKinds := [.data, .data, .data, .data, .pinned], laidTests := true, laidLooks := .later }
def FnRangesCardSaid : Prop := Claim7.holds Tryz.pinned (.plain (OpenSpec.ofChange fnRangesSpec)) fnRangesCard

/-- THE SECOND FORM's CARD OF 'laws.FnExactMayTake'. -/
def fnExactMayTakeUptoCard : Claim7 := { stood := { row := fnExactMayTakeUptoRow, standIns := [], harness := (true, "2b66f8d0cf193cf50620628a545c0c8425c1174512bdfbc66f7a55b1c9f4754d"), looks := false }, kinds := [], alts := [], laidByText := true, laidKinds := [.data, .data, .data, .data, .pinned], laidTests := true, laidLooks := .later }
def FnExactMayTakeUptoCardSaid : Prop := Claim7.holds Tryz.pinned (.plain (OpenSpec.upto fnExactMayTakeSpec)) fnExactMayTakeUptoCard

/-- THE SECOND FORM's CARD OF 'laws.FnExactPackOk'. -/
def fnExactPackOkUptoCard : Claim7 := { stood := { row := fnExactPackOkUptoRow, standIns := [], harness := (true, "2b66f8d0cf193cf50620628a545c0c8425c1174512bdfbc66f7a55b1c9f4754d"), looks := false }, kinds := [], alts := [], laidByText := true, laidKinds := [.data, .data, .data, .data, .pinned], laidTests := true, laidLooks := .later }
def FnExactPackOkUptoCardSaid : Prop := Claim7.holds Tryz.pinned (.plain (OpenSpec.upto fnExactPackOkSpec)) fnExactPackOkUptoCard

/-- THE SECOND FORM's CARD OF 'laws.FnExactRegOk'. -/
def fnExactRegOkUptoCard : Claim7 := { stood := { row := fnExactRegOkUptoRow, standIns := [], harness := (true, "2b66f8d0cf193cf50620628a545c0c8425c1174512bdfbc66f7a55b1c9f4754d"), looks := false }, kinds := [], alts := [], laidByText := true, laidKinds := [.data, .data, .data, .data, .pinned], laidTests := true, laidLooks := .later }
def FnExactRegOkUptoCardSaid : Prop := Claim7.holds Tryz.pinned (.plain (OpenSpec.upto fnExactRegOkSpec)) fnExactRegOkUptoCard

/-- THE SECOND FORM's CARD OF 'laws.FnExactPacksOk'. -/
def fnExactPacksOkUptoCard : Claim7 := { stood := { row := fnExactPacksOkUptoRow, standIns := [], harness := (true, "2b66f8d0cf193cf50620628a545c0c8425c1174512bdfbc66f7a55b1c9f4754d"), looks := false }, kinds := [], alts := [], laidByText := true, laidKinds := [.data, .data, .data, .data, .pinned], laidTests := true, laidLooks := .later }
def FnExactPacksOkUptoCardSaid : Prop := Claim7.holds Tryz.pinned (.plain (OpenSpec.upto fnExactPacksOkSpec)) fnExactPacksOkUptoCard

/-- THE SECOND FORM's CARD OF 'laws.FnExactParseRange'. -/
def fnExactParseRangeUptoCard : Claim7 := { stood := { row := fnExactParseRangeUptoRow, standIns := [], harness := (true, "2b66f8d0cf193cf50620628a545c0c8425c1174512bdfbc66f7a55b1c9f4754d"), looks := false }, kinds := [], alts := [], laidByText := true, laidKinds := [.data, .data, .data, .data, .pinned], laidTests := true, laidLooks := .later }
def FnExactParseRangeUptoCardSaid : Prop := Claim7.holds Tryz.pinned (.plain (OpenSpec.upto fnExactParseRangeSpec)) fnExactParseRangeUptoCard

/-- THE SECOND FORM's CARD OF 'laws.FnRanges'. -/
def fnRangesUptoCard : Claim7 := { stood := { row := fnRangesUptoRow, standIns := [], harness := (true, "2b66f8d0cf193cf50620628a545c0c8425c1174512bdfbc66f7a55b1c9f4754d"), looks := false }, kinds := [], alts := [], laidByText := true, laidKinds := [.data, .data, .data, .data, .pinned], laidTests := true, laidLooks := .later }
def FnRangesUptoCardSaid : Prop := Claim7.holds Tryz.pinned (.plain (OpenSpec.upto fnRangesSpec)) fnRangesUptoCard
end Rows
end Go.Proofs.YtpcdhoeoefoeoaaGreatDoor
