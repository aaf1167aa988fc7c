/-
  DERIVED. GIVEN WITH THE SEED: THE CARDS: each row of YtbaeljcnbkeipaaDoorRows.lean that lists a variable, with what it lists TIED to the program's text (the seventh form; the later family's looks); each row that meets fmt, with fmt's text TOLD by the authors' own Lean function (tested against real Go, not proved from fmt's source: count such statements apart). THE CARD IS WHAT COUNTS. Prove the row's statement (the work); the ties are given (YtbaeljcnbkeipaaDoorTie.lean); close each card by the builder's one call (the guide's Derived/Test/ToyasCard.lean, 'card_holds'). Laid BY PROGRAM, IN A SANDBOX (cutbox-door.mjs). By AI agents, Wed Nov 11 2026. No macro, syntax, notation, axiom, sorry.
-/
import Derived.Test.YtbaeljcnbkeipaaDoorRows
import GoSem.ClaimSeven
namespace Go.Proofs.YtbaeljcnbkeipaaDoor
namespace Rows

/-- THE TIED CARD OF 'laws.FnExactPutFile'. -/
def fnExactPutFileCard : Claim7 := { stood := { row := fnExactPutFileRow, standIns := [], harness := (true, "4485060ac566073c50bd7b4e4f734a9141a02691213803d0539b2fef0fe89169"), looks := false }, kinds := [], alts := [], laidByText := true, laidKinds := [.data, .pinned], laidTests := true, laidLooks := .later }
def FnExactPutFileCardSaid : Prop := Claim7.holds Tryd.pinned (.plain (OpenSpec.ofChange fnExactPutFileSpec)) fnExactPutFileCard

/-- THE TIED CARD OF 'laws.FnFilesBent'. -/
def fnFilesBentCard : Claim7 := { stood := { row := fnFilesBentRow, standIns := [], harness := (true, "4485060ac566073c50bd7b4e4f734a9141a02691213803d0539b2fef0fe89169"), looks := false }, kinds := [], alts := [], laidByText := true, laidKinds := [.data, .pinned], laidTests := true, laidLooks := .later }
def FnFilesBentCardSaid : Prop := Claim7.holds Tryd.pinned (.plain (OpenSpec.ofChange fnFilesBentSpec)) fnFilesBentCard

/-- THE TIED CARD OF 'laws.FnFiles'. -/
def fnFilesCard : Claim7 := { stood := { row := fnFilesRow, standIns := [], harness := (true, "4485060ac566073c50bd7b4e4f734a9141a02691213803d0539b2fef0fe89169"), looks := false }, kinds := [], alts := [], laidByText := true, laidKinds := [.data, .pinned], laidTests := true, laidLooks := .later }
def FnFilesCardSaid : Prop := Claim7.holds Tryd.pinned (.plain (OpenSpec.ofChange fnFilesSpec)) fnFilesCard

/-- THE TIED CARD OF 'laws.FnWords'. -/
def fnWordsCard : Claim7 := { stood := { row := fnWordsRow, standIns := [], harness := (true, "4485060ac566073c50bd7b4e4f734a9141a02691213803d0539b2fef0fe89169"), looks := false }, kinds := [], alts := [], laidByText := true, laidKinds := [.data, .data, .data, .data, .pinned], laidTests := true, laidLooks := .later }
def FnWordsCardSaid : Prop := Claim7.holds Tryd.pinned (.plain (OpenSpec.ofChange fnWordsSpec)) fnWordsCard

/-- THE TIED CARD OF 'laws.FnExactValText'. -/
def fnExactValTextCard : Claim7 := { stood := { row := fnExactValTextRow, standIns := [], harness := (true, "4485060ac566073c50bd7b4e4f734a9141a02691213803d0539b2fef0fe89169"), looks := false }, kinds := [], alts := [], laidByText := true, laidKinds := [.data, .data, .data], laidTests := true, laidLooks := .later }
def FnExactValTextCardSaid : Prop := Claim7.holds Tryd.pinned (.plain (OpenSpec.ofChange fnExactValTextSpec)) fnExactValTextCard

/-- THE SECOND FORM's CARD OF 'laws.FnExactPutFile'. -/
def fnExactPutFileUptoCard : Claim7 := { stood := { row := fnExactPutFileUptoRow, standIns := [], harness := (true, "4485060ac566073c50bd7b4e4f734a9141a02691213803d0539b2fef0fe89169"), looks := false }, kinds := [], alts := [], laidByText := true, laidKinds := [.data, .pinned], laidTests := true, laidLooks := .later }
def FnExactPutFileUptoCardSaid : Prop := Claim7.holds Tryd.pinned (.plain (OpenSpec.upto fnExactPutFileSpec)) fnExactPutFileUptoCard

/-- THE SECOND FORM's CARD OF 'laws.FnFilesBent'. -/
def fnFilesBentUptoCard : Claim7 := { stood := { row := fnFilesBentUptoRow, standIns := [], harness := (true, "4485060ac566073c50bd7b4e4f734a9141a02691213803d0539b2fef0fe89169"), looks := false }, kinds := [], alts := [], laidByText := true, laidKinds := [.data, .pinned], laidTests := true, laidLooks := .later }
def FnFilesBentUptoCardSaid : Prop := Claim7.holds Tryd.pinned (.plain (OpenSpec.upto fnFilesBentSpec)) fnFilesBentUptoCard

/-- THE SECOND FORM's CARD OF 'laws.FnFiles'. -/
def fnFilesUptoCard : Claim7 := { stood := { row := fnFilesUptoRow, standIns := [], harness := (true, "4485060ac566073c50bd7b4e4f734a9141a02691213803d0539b2fef0fe89169"), looks := false }, kinds := [], alts := [], laidByText := true, laidKinds := [.data, .pinned], laidTests := true, laidLooks := .later }
def FnFilesUptoCardSaid : Prop := Claim7.holds Tryd.pinned (.plain (OpenSpec.upto fnFilesSpec)) fnFilesUptoCard

/-- THE SECOND FORM's CARD OF 'laws.FnWords'. -/
def fnWordsUptoCard : Claim7 := { stood := { row := fnWordsUptoRow, standIns := [], harness := (true, "4485060ac566073c50bd7b4e4f734a9141a02691213803d0539b2fef0fe89169"), looks := false }, kinds := [], alts := [], laidByText := true, laidKinds := [.data, .data, .data, .data, .pinned], laidTests := true, laidLooks := .later }
def FnWordsUptoCardSaid : Prop := Claim7.holds Tryd.pinned (.plain (OpenSpec.upto fnWordsSpec)) fnWordsUptoCard

/-- THE SECOND FORM's CARD OF 'laws.FnExactValText'. -/
def fnExactValTextUptoCard : Claim7 := { stood := { row := fnExactValTextUptoRow, standIns := [], harness := (true, "4485060ac566073c50bd7b4e4f734a9141a02691213803d0539b2fef0fe89169"), looks := false }, kinds := [], alts := [], laidByText := true, laidKinds := [.data, .data, .data], laidTests := true, laidLooks := .later }
def FnExactValTextUptoCardSaid : Prop := Claim7.holds Tryd.pinned (.plain (OpenSpec.upto fnExactValTextSpec)) fnExactValTextUptoCard
end Rows
end Go.Proofs.YtbaeljcnbkeipaaDoor
