/-
  DERIVED. GIVEN WITH THE SEED: THE CARDS: each row of YtpmooegakomnbabDoorRows.lean that lists a variable, with what it lists TIED to the program's text (the seventh form; the later family's looks); each row that meets fmt, with fmt's text TOLD by the authors' own Lean function (tested against real Go, not proved from fmt's source: count such statements apart). THE CARD IS WHAT COUNTS. Prove the row's statement (the work); the ties are given (YtpmooegakomnbabDoorTie.lean); close each card by the builder's one call (the guide's Derived/Test/ToyasCard.lean, 'card_holds'). Laid BY PROGRAM, IN A SANDBOX (cutbox-door.mjs). By AI agents, Wed Nov 11 2026. No macro, syntax, notation, axiom, sorry.
-/
import Derived.Test.YtpmooegakomnbabDoorRows
import GoSem.ClaimSeven
namespace Go.Proofs.YtpmooegakomnbabDoor
namespace Rows

/-- THE TIED CARD OF 'laws.FnExactParseNum'. -/
def fnExactParseNumCard : Claim7 := { stood := { row := fnExactParseNumRow, standIns := [], harness := (true, "8e8f59c57fb7d1592637908cf002e2f0372a48fea5aebd5e8a0bcec5d9139f15"), looks := false }, kinds := [], alts := [], laidByText := true, laidKinds := [.data, .data, .data], laidTests := true, laidLooks := .later }
def FnExactParseNumCardSaid : Prop := Claim7.holds Tryd.pinned (.plain (OpenSpec.ofChange fnExactParseNumSpec)) fnExactParseNumCard

/-- THE TIED CARD OF 'laws.FnExactVerText'. -/
def fnExactVerTextCard : Claim7 := { stood := { row := fnExactVerTextRow, standIns := [], harness := (true, "8e8f59c57fb7d1592637908cf002e2f0372a48fea5aebd5e8a0bcec5d9139f15"), looks := false }, kinds := [], alts := [], laidByText := true, laidKinds := [.data, .data, .data], laidTests := true, laidLooks := .later }
def FnExactVerTextCardSaid : Prop := Claim7.holds Tryd.pinned (.plain (OpenSpec.ofChange fnExactVerTextSpec)) fnExactVerTextCard

/-- THE TIED CARD OF 'laws.FnExactRangeText'. -/
def fnExactRangeTextCard : Claim7 := { stood := { row := fnExactRangeTextRow, standIns := [], harness := (true, "8e8f59c57fb7d1592637908cf002e2f0372a48fea5aebd5e8a0bcec5d9139f15"), looks := false }, kinds := [], alts := [], laidByText := true, laidKinds := [.data, .data, .data], laidTests := true, laidLooks := .later }
def FnExactRangeTextCardSaid : Prop := Claim7.holds Tryd.pinned (.plain (OpenSpec.ofChange fnExactRangeTextSpec)) fnExactRangeTextCard

/-- THE TIED CARD OF 'laws.FnExactValText'. -/
def fnExactValTextCard : Claim7 := { stood := { row := fnExactValTextRow, standIns := [], harness := (true, "8e8f59c57fb7d1592637908cf002e2f0372a48fea5aebd5e8a0bcec5d9139f15"), looks := false }, kinds := [], alts := [], laidByText := true, laidKinds := [.data, .data, .data], laidTests := true, laidLooks := .later }
def FnExactValTextCardSaid : Prop := Claim7.holds Tryd.pinned (.plain (OpenSpec.ofChange fnExactValTextSpec)) fnExactValTextCard

/-- THE TIED CARD OF 'laws.FnExactParseVer'. -/
def fnExactParseVerCard : Claim7 := { stood := { row := fnExactParseVerRow, standIns := [], harness := (true, "8e8f59c57fb7d1592637908cf002e2f0372a48fea5aebd5e8a0bcec5d9139f15"), looks := false }, kinds := [], alts := [], laidByText := true, laidKinds := [.data, .data, .data, .data, .pinned], laidTests := true, laidLooks := .later }
def FnExactParseVerCardSaid : Prop := Claim7.holds Tryd.pinned (.plain (OpenSpec.ofChange fnExactParseVerSpec)) fnExactParseVerCard

/-- THE SECOND FORM's CARD OF 'laws.FnExactParseNum'. -/
def fnExactParseNumUptoCard : Claim7 := { stood := { row := fnExactParseNumUptoRow, standIns := [], harness := (true, "8e8f59c57fb7d1592637908cf002e2f0372a48fea5aebd5e8a0bcec5d9139f15"), looks := false }, kinds := [], alts := [], laidByText := true, laidKinds := [.data, .data, .data], laidTests := true, laidLooks := .later }
def FnExactParseNumUptoCardSaid : Prop := Claim7.holds Tryd.pinned (.plain (OpenSpec.upto fnExactParseNumSpec)) fnExactParseNumUptoCard

/-- THE SECOND FORM's CARD OF 'laws.FnExactVerText'. -/
def fnExactVerTextUptoCard : Claim7 := { stood := { row := fnExactVerTextUptoRow, standIns := [], harness := (true, "8e8f59c57fb7d1592637908cf002e2f0372a48fea5aebd5e8a0bcec5d9139f15"), looks := false }, kinds := [], alts := [], laidByText := true, laidKinds := [.data, .data, .data], laidTests := true, laidLooks := .later }
def FnExactVerTextUptoCardSaid : Prop := Claim7.holds Tryd.pinned (.plain (OpenSpec.upto fnExactVerTextSpec)) fnExactVerTextUptoCard

/-- THE SECOND FORM's CARD OF 'laws.FnExactRangeText'. -/
def fnExactRangeTextUptoCard : Claim7 := { stood := { row := fnExactRangeTextUptoRow, standIns := [], harness := (true, "8e8f59c57fb7d1592637908cf002e2f0372a48fea5aebd5e8a0bcec5d9139f15"), looks := false }, kinds := [], alts := [], laidByText := true, laidKinds := [.data, .data, .data], laidTests := true, laidLooks := .later }
def FnExactRangeTextUptoCardSaid : Prop := Claim7.holds Tryd.pinned (.plain (OpenSpec.upto fnExactRangeTextSpec)) fnExactRangeTextUptoCard

/-- THE SECOND FORM's CARD OF 'laws.FnExactValText'. -/
def fnExactValTextUptoCard : Claim7 := { stood := { row := fnExactValTextUptoRow, standIns := [], harness := (true, "8e8f59c57fb7d1592637908cf002e2f0372a48fea5aebd5e8a0bcec5d9139f15"), looks := false }, kinds := [], alts := [], laidByText := true, laidKinds := [.data, .data, .data], laidTests := true, laidLooks := .later }
def FnExactValTextUptoCardSaid : Prop := Claim7.holds Tryd.pinned (.plain (OpenSpec.upto fnExactValTextSpec)) fnExactValTextUptoCard

/-- THE SECOND FORM's CARD OF 'laws.FnExactParseVer'. -/
def fnExactParseVerUptoCard : Claim7 := { stood := { row := fnExactParseVerUptoRow, standIns := [], harness := (true, "8e8f59c57fb7d1592637908cf002e2f0372a48fea5aebd5e8a0bcec5d9139f15"), looks := false }, kinds := [], alts := [], laidByText := true, laidKinds := [.data, .data, .data, .data, .pinned], laidTests := true, laidLooks := .later }
def FnExactParseVerUptoCardSaid : Prop := Claim7.holds Tryd.pinned (.plain (OpenSpec.upto fnExactParseVerSpec)) fnExactParseVerUptoCard
end Rows
end Go.Proofs.YtpmooegakomnbabDoor
