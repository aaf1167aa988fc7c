/-
  DERIVED. GIVEN WITH THE SEED: THE CARDS: each row of YtpmooegakomnbaaDoorRows.lean that lists a variable, with what it lists TIED to the program's text (the seventh form; the later family's looks); each row that meets fmt, with fmt's text TOLD by the authors' own Lean function (tested against real Go, not proved from fmt's source: count such statements apart). THE CARD IS WHAT COUNTS. Prove the row's statement (the work); the ties are given (YtpmooegakomnbaaDoorTie.lean); close each card by the builder's one call (the guide's Derived/Test/ToyasCard.lean, 'card_holds'). Laid BY PROGRAM, IN A SANDBOX (cutbox-door.mjs). By AI agents, Wed Nov 11 2026. No macro, syntax, notation, axiom, sorry.
-/
import Derived.Test.YtpmooegakomnbaaDoorRows
import GoSem.ClaimSeven
namespace Go.Proofs.YtpmooegakomnbaaDoor
namespace Rows

/-- THE TIED CARD OF 'laws.FnExactSplit'. -/
def fnExactSplitCard : Claim7 := { stood := { row := fnExactSplitRow, standIns := [], harness := (true, "2fdff3f8feaf168524c75cb79cd0734b3662f270b3319839c72408a237fefed3"), looks := false }, kinds := [], alts := [], laidByText := true, laidKinds := [.data, .pinned], laidTests := true, laidLooks := .later }
def FnExactSplitCardSaid : Prop := Claim7.holds Tryd.pinned (.plain (OpenSpec.ofChange fnExactSplitSpec)) fnExactSplitCard

/-- THE TIED CARD OF 'laws.FnExactPathOk'. -/
def fnExactPathOkCard : Claim7 := { stood := { row := fnExactPathOkRow, standIns := [], harness := (true, "2fdff3f8feaf168524c75cb79cd0734b3662f270b3319839c72408a237fefed3"), looks := false }, kinds := [], alts := [], laidByText := true, laidKinds := [.data, .pinned], laidTests := true, laidLooks := .later }
def FnExactPathOkCardSaid : Prop := Claim7.holds Tryd.pinned (.plain (OpenSpec.ofChange fnExactPathOkSpec)) fnExactPathOkCard

/-- THE TIED CARD OF 'laws.FnExactGlobOk'. -/
def fnExactGlobOkCard : Claim7 := { stood := { row := fnExactGlobOkRow, standIns := [], harness := (true, "2fdff3f8feaf168524c75cb79cd0734b3662f270b3319839c72408a237fefed3"), looks := false }, kinds := [], alts := [], laidByText := true, laidKinds := [.data, .pinned], laidTests := true, laidLooks := .later }
def FnExactGlobOkCardSaid : Prop := Claim7.holds Tryd.pinned (.plain (OpenSpec.ofChange fnExactGlobOkSpec)) fnExactGlobOkCard

/-- THE TIED CARD OF 'laws.FnExactFilesOk'. -/
def fnExactFilesOkCard : Claim7 := { stood := { row := fnExactFilesOkRow, standIns := [], harness := (true, "2fdff3f8feaf168524c75cb79cd0734b3662f270b3319839c72408a237fefed3"), looks := false }, kinds := [], alts := [], laidByText := true, laidKinds := [.data, .pinned], laidTests := true, laidLooks := .later }
def FnExactFilesOkCardSaid : Prop := Claim7.holds Tryd.pinned (.plain (OpenSpec.ofChange fnExactFilesOkSpec)) fnExactFilesOkCard

/-- THE TIED CARD OF 'laws.FnExactMatches'. -/
def fnExactMatchesCard : Claim7 := { stood := { row := fnExactMatchesRow, standIns := [], harness := (true, "2fdff3f8feaf168524c75cb79cd0734b3662f270b3319839c72408a237fefed3"), looks := false }, kinds := [], alts := [], laidByText := true, laidKinds := [.data, .pinned], laidTests := true, laidLooks := .later }
def FnExactMatchesCardSaid : Prop := Claim7.holds Tryd.pinned (.plain (OpenSpec.ofChange fnExactMatchesSpec)) fnExactMatchesCard

/-- THE TIED CARD OF 'laws.FnExactDropFile'. -/
def fnExactDropFileCard : Claim7 := { stood := { row := fnExactDropFileRow, standIns := [], harness := (true, "2fdff3f8feaf168524c75cb79cd0734b3662f270b3319839c72408a237fefed3"), looks := false }, kinds := [], alts := [], laidByText := true, laidKinds := [.data, .pinned], laidTests := true, laidLooks := .later }
def FnExactDropFileCardSaid : Prop := Claim7.holds Tryd.pinned (.plain (OpenSpec.ofChange fnExactDropFileSpec)) fnExactDropFileCard

/-- THE TIED CARD OF 'laws.FnExactPutFile'. -/
def fnExactPutFileCard : Claim7 := { stood := { row := fnExactPutFileRow, standIns := [], harness := (true, "2fdff3f8feaf168524c75cb79cd0734b3662f270b3319839c72408a237fefed3"), looks := false }, kinds := [], alts := [], laidByText := true, laidKinds := [.data, .pinned], laidTests := true, laidLooks := .later }
def FnExactPutFileCardSaid : Prop := Claim7.holds Tryd.pinned (.plain (OpenSpec.ofChange fnExactPutFileSpec)) fnExactPutFileCard

/-- THE TIED CARD OF 'laws.FnExactPicked'. -/
def fnExactPickedCard : Claim7 := { stood := { row := fnExactPickedRow, standIns := [], harness := (true, "2fdff3f8feaf168524c75cb79cd0734b3662f270b3319839c72408a237fefed3"), looks := false }, kinds := [], alts := [], laidByText := true, laidKinds := [.data, .pinned], laidTests := true, laidLooks := .later }
def FnExactPickedCardSaid : Prop := Claim7.holds Tryd.pinned (.plain (OpenSpec.ofChange fnExactPickedSpec)) fnExactPickedCard

/-- THE TIED CARD OF 'laws.FnExactNumText'. -/
def fnExactNumTextCard : Claim7 := { stood := { row := fnExactNumTextRow, standIns := [], harness := (true, "2fdff3f8feaf168524c75cb79cd0734b3662f270b3319839c72408a237fefed3"), looks := false }, kinds := [], alts := [], laidByText := true, laidKinds := [.data, .data, .data], laidTests := true, laidLooks := .later }
def FnExactNumTextCardSaid : Prop := Claim7.holds Tryd.pinned (.plain (OpenSpec.ofChange fnExactNumTextSpec)) fnExactNumTextCard

/-- THE SECOND FORM's CARD OF 'laws.FnExactSplit'. -/
def fnExactSplitUptoCard : Claim7 := { stood := { row := fnExactSplitUptoRow, standIns := [], harness := (true, "2fdff3f8feaf168524c75cb79cd0734b3662f270b3319839c72408a237fefed3"), looks := false }, kinds := [], alts := [], laidByText := true, laidKinds := [.data, .pinned], laidTests := true, laidLooks := .later }
def FnExactSplitUptoCardSaid : Prop := Claim7.holds Tryd.pinned (.plain (OpenSpec.upto fnExactSplitSpec)) fnExactSplitUptoCard

/-- THE SECOND FORM's CARD OF 'laws.FnExactPathOk'. -/
def fnExactPathOkUptoCard : Claim7 := { stood := { row := fnExactPathOkUptoRow, standIns := [], harness := (true, "2fdff3f8feaf168524c75cb79cd0734b3662f270b3319839c72408a237fefed3"), looks := false }, kinds := [], alts := [], laidByText := true, laidKinds := [.data, .pinned], laidTests := true, laidLooks := .later }
def FnExactPathOkUptoCardSaid : Prop := Claim7.holds Tryd.pinned (.plain (OpenSpec.upto fnExactPathOkSpec)) fnExactPathOkUptoCard

/-- THE SECOND FORM's CARD OF 'laws.FnExactGlobOk'. -/
def fnExactGlobOkUptoCard : Claim7 := { stood := { row := fnExactGlobOkUptoRow, standIns := [], harness := (true, "2fdff3f8feaf168524c75cb79cd0734b3662f270b3319839c72408a237fefed3"), looks := false }, kinds := [], alts := [], laidByText := true, laidKinds := [.data, .pinned], laidTests := true, laidLooks := .later }
def FnExactGlobOkUptoCardSaid : Prop := Claim7.holds Tryd.pinned (.plain (OpenSpec.upto fnExactGlobOkSpec)) fnExactGlobOkUptoCard

/-- THE SECOND FORM's CARD OF 'laws.FnExactFilesOk'. -/
def fnExactFilesOkUptoCard : Claim7 := { stood := { row := fnExactFilesOkUptoRow, standIns := [], harness := (true, "2fdff3f8feaf168524c75cb79cd0734b3662f270b3319839c72408a237fefed3"), looks := false }, kinds := [], alts := [], laidByText := true, laidKinds := [.data, .pinned], laidTests := true, laidLooks := .later }
def FnExactFilesOkUptoCardSaid : Prop := Claim7.holds Tryd.pinned (.plain (OpenSpec.upto fnExactFilesOkSpec)) fnExactFilesOkUptoCard

/-- THE SECOND FORM's CARD OF 'laws.FnExactMatches'. -/
def fnExactMatchesUptoCard : Claim7 := { stood := { row := fnExactMatchesUptoRow, standIns := [], harness := (true, "2fdff3f8feaf168524c75cb79cd0734b3662f270b3319839c72408a237fefed3"), looks := false }, kinds := [], alts := [], laidByText := true, laidKinds := [.data, .pinned], laidTests := true, laidLooks := .later }
def FnExactMatchesUptoCardSaid : Prop := Claim7.holds Tryd.pinned (.plain (OpenSpec.upto fnExactMatchesSpec)) fnExactMatchesUptoCard

/-- THE SECOND FORM's CARD OF 'laws.FnExactDropFile'. -/
def fnExactDropFileUptoCard : Claim7 := { stood := { row := fnExactDropFileUptoRow, standIns := [], harness := (true, "2fdff3f8feaf168524c75cb79cd0734b3662f270b3319839c72408a237fefed3"), looks := false }, kinds := [], alts := [], laidByText := true, laidKinds := [.data, .pinned], laidTests := true, laidLooks := .later }
def FnExactDropFileUptoCardSaid : Prop := Claim7.holds Tryd.pinned (.plain (OpenSpec.upto fnExactDropFileSpec)) fnExactDropFileUptoCard

/-- THE SECOND FORM's CARD OF 'laws.FnExactPutFile'. -/
def fnExactPutFileUptoCard : Claim7 := { stood := { row := fnExactPutFileUptoRow, standIns := [], harness := (true, "2fdff3f8feaf168524c75cb79cd0734b3662f270b3319839c72408a237fefed3"), looks := false }, kinds := [], alts := [], laidByText := true, laidKinds := [.data, .pinned], laidTests := true, laidLooks := .later }
def FnExactPutFileUptoCardSaid : Prop := Claim7.holds Tryd.pinned (.plain (OpenSpec.upto fnExactPutFileSpec)) fnExactPutFileUptoCard

/-- THE SECOND FORM's CARD OF 'laws.FnExactPicked'. -/
def fnExactPickedUptoCard : Claim7 := { stood := { row := fnExactPickedUptoRow, standIns := [], harness := (true, "2fdff3f8feaf168524c75cb79cd0734b3662f270b3319839c72408a237fefed3"), looks := false }, kinds := [], alts := [], laidByText := true, laidKinds := [.data, .pinned], laidTests := true, laidLooks := .later }
def FnExactPickedUptoCardSaid : Prop := Claim7.holds Tryd.pinned (.plain (OpenSpec.upto fnExactPickedSpec)) fnExactPickedUptoCard

/-- THE SECOND FORM's CARD OF 'laws.FnExactNumText'. -/
def fnExactNumTextUptoCard : Claim7 := { stood := { row := fnExactNumTextUptoRow, standIns := [], harness := (true, "2fdff3f8feaf168524c75cb79cd0734b3662f270b3319839c72408a237fefed3"), looks := false }, kinds := [], alts := [], laidByText := true, laidKinds := [.data, .data, .data], laidTests := true, laidLooks := .later }
def FnExactNumTextUptoCardSaid : Prop := Claim7.holds Tryd.pinned (.plain (OpenSpec.upto fnExactNumTextSpec)) fnExactNumTextUptoCard
end Rows
end Go.Proofs.YtpmooegakomnbaaDoor
