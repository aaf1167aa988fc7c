/-
  DERIVED. GIVEN WITH THE SEED: THE CARDS: each row of YtglhniiabhknoaaGreatDoorRows.lean that lists a variable, with what it lists TIED to the program's text (the seventh form; the later family's looks); each row that meets fmt, with fmt's text TOLD by the authors' own Lean function (tested against real Go, not proved from fmt's source: count such statements apart). THE CARD IS WHAT COUNTS. Prove the row's statement (the work); the ties are given (YtglhniiabhknoaaGreatDoorTie.lean); close each card by the builder's one call (the guide's Derived/Test/ToyasCard.lean, 'card_holds'). Laid BY PROGRAM, IN A SANDBOX (cutbox-door.mjs). By AI agents, Wed Nov 11 2026. No macro, syntax, notation, axiom, sorry.
-/
import Derived.Test.YtglhniiabhknoaaGreatDoorRows
import GoSem.ClaimSeven
namespace Go.Proofs.YtglhniiabhknoaaGreatDoor
namespace Rows

/-- THE TIED CARD OF 'laws.FnRanges'. -/
def fnRangesCard : Claim7 := { stood := { row := fnRangesRow, standIns := [], harness := (true, "a28f38fe121e6148c785564c247fb279889ee938b6e73b8e4a0c375a56aec2f7"), looks := false }, kinds := [], alts := [], laidByText := true, laidKinds := [.data, .data, .data, .data, .pinned], laidTests := true, laidLooks := .later }
def FnRangesCardSaid : Prop := Claim7.holds Tryz.pinned (.plain (OpenSpec.ofChange fnRangesSpec)) fnRangesCard

/-- THE TIED CARD OF 'laws.FnRegs'. -/
def fnRegsCard : Claim7 := { stood := { row := fnRegsRow, standIns := [], harness := (true, "a28f38fe121e6148c785564c247fb279889ee938b6e73b8e4a0c375a56aec2f7"), looks := false }, kinds := [], alts := [], laidByText := true, laidKinds := [.data, .data, .data, .data, .pinned], laidTests := true, laidLooks := .later }
def FnRegsCardSaid : Prop := Claim7.holds Tryz.pinned (.plain (OpenSpec.ofChange fnRegsSpec)) fnRegsCard

/-- THE TIED CARD OF 'laws.FnExactParseRange'. -/
def fnExactParseRangeCard : Claim7 := { stood := { row := fnExactParseRangeRow, standIns := [], harness := (true, "a28f38fe121e6148c785564c247fb279889ee938b6e73b8e4a0c375a56aec2f7"), looks := false }, kinds := [], alts := [], laidByText := true, laidKinds := [.data, .data, .data, .data, .pinned], laidTests := true, laidLooks := .later }
def FnExactParseRangeCardSaid : Prop := Claim7.holds Tryz.pinned (.plain (OpenSpec.ofChange fnExactParseRangeSpec)) fnExactParseRangeCard

/-- THE SECOND FORM's CARD OF 'laws.FnRanges'. -/
def fnRangesUptoCard : Claim7 := { stood := { row := fnRangesUptoRow, standIns := [], harness := (true, "a28f38fe121e6148c785564c247fb279889ee938b6e73b8e4a0c375a56aec2f7"), looks := false }, kinds := [], alts := [], laidByText := true, laidKinds := [.data, .data, .data, .data, .pinned], laidTests := true, laidLooks := .later }
def FnRangesUptoCardSaid : Prop := Claim7.holds Tryz.pinned (.plain (OpenSpec.upto fnRangesSpec)) fnRangesUptoCard

/-- THE SECOND FORM's CARD OF 'laws.FnRegs'. -/
def fnRegsUptoCard : Claim7 := { stood := { row := fnRegsUptoRow, standIns := [], harness := (true, "a28f38fe121e6148c785564c247fb279889ee938b6e73b8e4a0c375a56aec2f7"), looks := false }, kinds := [], alts := [], laidByText := true, laidKinds := [.data, .data, .data, .data, .pinned], laidTests := true, laidLooks := .later }
def FnRegsUptoCardSaid : Prop := Claim7.holds Tryz.pinned (.plain (OpenSpec.upto fnRegsSpec)) fnRegsUptoCard

/-- THE SECOND FORM's CARD OF 'laws.FnExactParseRange'. -/
def fnExactParseRangeUptoCard : Claim7 := { stood := { row := fnExactParseRangeUptoRow, standIns := [], harness := (true, "a28f38fe121e6148c785564c247fb279889ee938b6e73b8e4a0c375a56aec2f7"), looks := false }, kinds := [], alts := [], laidByText := true, laidKinds := [.data, .data, .data, .data, .pinned], laidTests := true, laidLooks := .later }
def FnExactParseRangeUptoCardSaid : Prop := Claim7.holds Tryz.pinned (.plain (OpenSpec.upto fnExactParseRangeSpec)) fnExactParseRangeUptoCard
end Rows
end Go.Proofs.YtglhniiabhknoaaGreatDoor
