/-
  DERIVED. GIVEN WITH THE SEED: THE CARDS: each row of YtnifmbbpfdghmaaGreatDoorRows.lean that lists a variable, with what it lists TIED to the program's text (the seventh form; the later family's looks); each row that meets fmt, with fmt's text TOLD by the authors' own Lean function (tested against real Go, not proved from fmt's source: count such statements apart). THE CARD IS WHAT COUNTS. Prove the row's statement (the work); the ties are given (YtnifmbbpfdghmaaGreatDoorTie.lean); close each card by the builder's one call (the guide's Derived/Test/ToyasCard.lean, 'card_holds'). Laid BY PROGRAM, IN A SANDBOX (cutbox-door.mjs). By AI agents, Wed Nov 11 2026. No macro, syntax, notation, axiom, sorry.
-/
import Derived.Test.YtnifmbbpfdghmaaGreatDoorRows
import GoSem.ClaimSeven
namespace Go.Proofs.YtnifmbbpfdghmaaGreatDoor
namespace Rows

/-- THE TIED CARD OF 'langdoclaw36.MatchThen'. -/
def matchThenCard : Claim7 := { stood := { row := matchThenRow, standIns := [], harness := (true, "ca624a4096d44ffd18c315bdf3ce9da3697a6d6532087d4342feb6a49359f52f"), looks := false }, kinds := [], alts := [], laidByText := true, laidKinds := [.data, .pinned], laidTests := true, laidLooks := .later }
def MatchThenCardSaid : Prop := Claim7.holds Tryz.pinned (.plain (OpenSpec.ofChange matchThenSpec)) matchThenCard

/-- THE TIED CARD OF 'langdoclaw36.MatchWithin'. -/
def matchWithinCard : Claim7 := { stood := { row := matchWithinRow, standIns := [], harness := (true, "ca624a4096d44ffd18c315bdf3ce9da3697a6d6532087d4342feb6a49359f52f"), looks := false }, kinds := [], alts := [], laidByText := true, laidKinds := [.data, .pinned], laidTests := true, laidLooks := .later }
def MatchWithinCardSaid : Prop := Claim7.holds Tryz.pinned (.plain (OpenSpec.ofChange matchWithinSpec)) matchWithinCard

/-- THE TIED CARD OF 'langdoclaw36.MatchEval'. -/
def matchEvalCard : Claim7 := { stood := { row := matchEvalRow, standIns := [], harness := (true, "ca624a4096d44ffd18c315bdf3ce9da3697a6d6532087d4342feb6a49359f52f"), looks := false }, kinds := [], alts := [], laidByText := true, laidKinds := [.data, .pinned], laidTests := true, laidLooks := .later }
def MatchEvalCardSaid : Prop := Claim7.holds Tryz.pinned (.plain (OpenSpec.ofChange matchEvalSpec)) matchEvalCard

/-- THE TIED CARD OF 'langdoclaw36.MatchFirst'. -/
def matchFirstCard : Claim7 := { stood := { row := matchFirstRow, standIns := [], harness := (true, "ca624a4096d44ffd18c315bdf3ce9da3697a6d6532087d4342feb6a49359f52f"), looks := false }, kinds := [], alts := [], laidByText := true, laidKinds := [.data, .pinned], laidTests := true, laidLooks := .later }
def MatchFirstCardSaid : Prop := Claim7.holds Tryz.pinned (.plain (OpenSpec.ofChange matchFirstSpec)) matchFirstCard

/-- THE TIED CARD OF 'langdoclaw36.MatchLogic'. -/
def matchLogicCard : Claim7 := { stood := { row := matchLogicRow, standIns := [], harness := (true, "ca624a4096d44ffd18c315bdf3ce9da3697a6d6532087d4342feb6a49359f52f"), looks := false }, kinds := [], alts := [], laidByText := true, laidKinds := [.data, .pinned], laidTests := true, laidLooks := .later }
def MatchLogicCardSaid : Prop := Claim7.holds Tryz.pinned (.plain (OpenSpec.ofChange matchLogicSpec)) matchLogicCard

/-- THE TIED CARD OF 'langdoclaw38.SearchTexts'. -/
def searchTextsCard : Claim7 := { stood := { row := searchTextsRow, standIns := [], harness := (true, "ca624a4096d44ffd18c315bdf3ce9da3697a6d6532087d4342feb6a49359f52f"), looks := false }, kinds := [], alts := [], laidByText := true, laidKinds := [.data, .pinned], laidTests := true, laidLooks := .later }
def SearchTextsCardSaid : Prop := Claim7.holds Tryz.pinned (.plain (OpenSpec.ofChange searchTextsSpec)) searchTextsCard

/-- THE TIED CARD OF 'langdoclaw38.SearchBounds'. -/
def searchBoundsCard : Claim7 := { stood := { row := searchBoundsRow, standIns := [], harness := (true, "ca624a4096d44ffd18c315bdf3ce9da3697a6d6532087d4342feb6a49359f52f"), looks := false }, kinds := [], alts := [], laidByText := true, laidKinds := [.data, .pinned], laidTests := true, laidLooks := .later }
def SearchBoundsCardSaid : Prop := Claim7.holds Tryz.pinned (.plain (OpenSpec.ofChange searchBoundsSpec)) searchBoundsCard

/-- THE TIED CARD OF 'langdoclaw38.SearchRuns'. -/
def searchRunsCard : Claim7 := { stood := { row := searchRunsRow, standIns := [], harness := (true, "ca624a4096d44ffd18c315bdf3ce9da3697a6d6532087d4342feb6a49359f52f"), looks := false }, kinds := [], alts := [], laidByText := true, laidKinds := [.data, .pinned], laidTests := true, laidLooks := .later }
def SearchRunsCardSaid : Prop := Claim7.holds Tryz.pinned (.plain (OpenSpec.ofChange searchRunsSpec)) searchRunsCard

/-- THE TIED CARD OF 'langdoclaw38.SearchAll'. -/
def searchAllCard : Claim7 := { stood := { row := searchAllRow, standIns := [], harness := (true, "ca624a4096d44ffd18c315bdf3ce9da3697a6d6532087d4342feb6a49359f52f"), looks := false }, kinds := [], alts := [], laidByText := true, laidKinds := [.data, .pinned], laidTests := true, laidLooks := .later }
def SearchAllCardSaid : Prop := Claim7.holds Tryz.pinned (.plain (OpenSpec.ofChange searchAllSpec)) searchAllCard

/-- THE TIED CARD OF 'langdoclaw38.SearchBounded'. -/
def searchBoundedCard : Claim7 := { stood := { row := searchBoundedRow, standIns := [], harness := (true, "ca624a4096d44ffd18c315bdf3ce9da3697a6d6532087d4342feb6a49359f52f"), looks := false }, kinds := [], alts := [], laidByText := true, laidKinds := [.data, .pinned], laidTests := true, laidLooks := .later }
def SearchBoundedCardSaid : Prop := Claim7.holds Tryz.pinned (.plain (OpenSpec.ofChange searchBoundedSpec)) searchBoundedCard

/-- THE TIED CARD OF 'langdoclaw38.SearchFinds'. -/
def searchFindsCard : Claim7 := { stood := { row := searchFindsRow, standIns := [], harness := (true, "ca624a4096d44ffd18c315bdf3ce9da3697a6d6532087d4342feb6a49359f52f"), looks := false }, kinds := [], alts := [], laidByText := true, laidKinds := [.data, .pinned], laidTests := true, laidLooks := .later }
def SearchFindsCardSaid : Prop := Claim7.holds Tryz.pinned (.plain (OpenSpec.ofChange searchFindsSpec)) searchFindsCard

/-- THE TIED CARD OF 'langdoclaw38.SearchJoins'. -/
def searchJoinsCard : Claim7 := { stood := { row := searchJoinsRow, standIns := [], harness := (true, "ca624a4096d44ffd18c315bdf3ce9da3697a6d6532087d4342feb6a49359f52f"), looks := false }, kinds := [], alts := [], laidByText := true, laidKinds := [.data, .pinned], laidTests := true, laidLooks := .later }
def SearchJoinsCardSaid : Prop := Claim7.holds Tryz.pinned (.plain (OpenSpec.ofChange searchJoinsSpec)) searchJoinsCard

/-- THE TIED CARD OF 'langdoclaw36.MatchTies'. -/
def matchTiesCard : Claim7 := { stood := { row := matchTiesRow, standIns := [], harness := (true, "ca624a4096d44ffd18c315bdf3ce9da3697a6d6532087d4342feb6a49359f52f"), looks := false }, kinds := [], alts := [], laidByText := true, laidKinds := [.data, .pinned], laidTests := true, laidLooks := .later }
def MatchTiesCardSaid : Prop := Claim7.holds Tryz.pinned (.plain (OpenSpec.ofChange matchTiesSpec)) matchTiesCard

/-- THE TIED CARD OF 'langdoclaw38.SearchUpdated'. -/
def searchUpdatedCard : Claim7 := { stood := { row := searchUpdatedRow, standIns := [], harness := (true, "ca624a4096d44ffd18c315bdf3ce9da3697a6d6532087d4342feb6a49359f52f"), looks := false }, kinds := [], alts := [], laidByText := true, laidKinds := [.data, .pinned], laidTests := true, laidLooks := .later }
def SearchUpdatedCardSaid : Prop := Claim7.holds Tryz.pinned (.plain (OpenSpec.ofChange searchUpdatedSpec)) searchUpdatedCard

/-- THE SECOND FORM's CARD OF 'langdoclaw36.MatchThen'. -/
def matchThenUptoCard : Claim7 := { stood := { row := matchThenUptoRow, standIns := [], harness := (true, "ca624a4096d44ffd18c315bdf3ce9da3697a6d6532087d4342feb6a49359f52f"), looks := false }, kinds := [], alts := [], laidByText := true, laidKinds := [.data, .pinned], laidTests := true, laidLooks := .later }
def MatchThenUptoCardSaid : Prop := Claim7.holds Tryz.pinned (.plain (OpenSpec.upto matchThenSpec)) matchThenUptoCard

/-- THE SECOND FORM's CARD OF 'langdoclaw36.MatchWithin'. -/
def matchWithinUptoCard : Claim7 := { stood := { row := matchWithinUptoRow, standIns := [], harness := (true, "ca624a4096d44ffd18c315bdf3ce9da3697a6d6532087d4342feb6a49359f52f"), looks := false }, kinds := [], alts := [], laidByText := true, laidKinds := [.data, .pinned], laidTests := true, laidLooks := .later }
def MatchWithinUptoCardSaid : Prop := Claim7.holds Tryz.pinned (.plain (OpenSpec.upto matchWithinSpec)) matchWithinUptoCard

/-- THE SECOND FORM's CARD OF 'langdoclaw36.MatchEval'. -/
def matchEvalUptoCard : Claim7 := { stood := { row := matchEvalUptoRow, standIns := [], harness := (true, "ca624a4096d44ffd18c315bdf3ce9da3697a6d6532087d4342feb6a49359f52f"), looks := false }, kinds := [], alts := [], laidByText := true, laidKinds := [.data, .pinned], laidTests := true, laidLooks := .later }
def MatchEvalUptoCardSaid : Prop := Claim7.holds Tryz.pinned (.plain (OpenSpec.upto matchEvalSpec)) matchEvalUptoCard

/-- THE SECOND FORM's CARD OF 'langdoclaw36.MatchFirst'. -/
def matchFirstUptoCard : Claim7 := { stood := { row := matchFirstUptoRow, standIns := [], harness := (true, "ca624a4096d44ffd18c315bdf3ce9da3697a6d6532087d4342feb6a49359f52f"), looks := false }, kinds := [], alts := [], laidByText := true, laidKinds := [.data, .pinned], laidTests := true, laidLooks := .later }
def MatchFirstUptoCardSaid : Prop := Claim7.holds Tryz.pinned (.plain (OpenSpec.upto matchFirstSpec)) matchFirstUptoCard

/-- THE SECOND FORM's CARD OF 'langdoclaw36.MatchLogic'. -/
def matchLogicUptoCard : Claim7 := { stood := { row := matchLogicUptoRow, standIns := [], harness := (true, "ca624a4096d44ffd18c315bdf3ce9da3697a6d6532087d4342feb6a49359f52f"), looks := false }, kinds := [], alts := [], laidByText := true, laidKinds := [.data, .pinned], laidTests := true, laidLooks := .later }
def MatchLogicUptoCardSaid : Prop := Claim7.holds Tryz.pinned (.plain (OpenSpec.upto matchLogicSpec)) matchLogicUptoCard

/-- THE SECOND FORM's CARD OF 'langdoclaw38.SearchTexts'. -/
def searchTextsUptoCard : Claim7 := { stood := { row := searchTextsUptoRow, standIns := [], harness := (true, "ca624a4096d44ffd18c315bdf3ce9da3697a6d6532087d4342feb6a49359f52f"), looks := false }, kinds := [], alts := [], laidByText := true, laidKinds := [.data, .pinned], laidTests := true, laidLooks := .later }
def SearchTextsUptoCardSaid : Prop := Claim7.holds Tryz.pinned (.plain (OpenSpec.upto searchTextsSpec)) searchTextsUptoCard

/-- THE SECOND FORM's CARD OF 'langdoclaw38.SearchBounds'. -/
def searchBoundsUptoCard : Claim7 := { stood := { row := searchBoundsUptoRow, standIns := [], harness := (true, "ca624a4096d44ffd18c315bdf3ce9da3697a6d6532087d4342feb6a49359f52f"), looks := false }, kinds := [], alts := [], laidByText := true, laidKinds := [.data, .pinned], laidTests := true, laidLooks := .later }
def SearchBoundsUptoCardSaid : Prop := Claim7.holds Tryz.pinned (.plain (OpenSpec.upto searchBoundsSpec)) searchBoundsUptoCard

/-- THE SECOND FORM's CARD OF 'langdoclaw38.SearchRuns'. -/
def searchRunsUptoCard : Claim7 := { stood := { row := searchRunsUptoRow, standIns := [], harness := (true, "ca624a4096d44ffd18c315bdf3ce9da3697a6d6532087d4342feb6a49359f52f"), looks := false }, kinds := [], alts := [], laidByText := true, laidKinds := [.data, .pinned], laidTests := true, laidLooks := .later }
def SearchRunsUptoCardSaid : Prop := Claim7.holds Tryz.pinned (.plain (OpenSpec.upto searchRunsSpec)) searchRunsUptoCard

/-- THE SECOND FORM's CARD OF 'langdoclaw38.SearchAll'. -/
def searchAllUptoCard : Claim7 := { stood := { row := searchAllUptoRow, standIns := [], harness := (true, "ca624a4096d44ffd18c315bdf3ce9da3697a6d6532087d4342feb6a49359f52f"), looks := false }, kinds := [], alts := [], laidByText := true, laidKinds := [.data, .pinned], laidTests := true, laidLooks := .later }
def SearchAllUptoCardSaid : Prop := Claim7.holds Tryz.pinned (.plain (OpenSpec.upto searchAllSpec)) searchAllUptoCard

/-- THE SECOND FORM's CARD OF 'langdoclaw38.SearchBounded'. -/
def searchBoundedUptoCard : Claim7 := { stood := { row := searchBoundedUptoRow, standIns := [], harness := (true, "ca624a4096d44ffd18c315bdf3ce9da3697a6d6532087d4342feb6a49359f52f"), looks := false }, kinds := [], alts := [], laidByText := true, laidKinds := [.data, .pinned], laidTests := true, laidLooks := .later }
def SearchBoundedUptoCardSaid : Prop := Claim7.holds Tryz.pinned (.plain (OpenSpec.upto searchBoundedSpec)) searchBoundedUptoCard

/-- THE SECOND FORM's CARD OF 'langdoclaw38.SearchFinds'. -/
def searchFindsUptoCard : Claim7 := { stood := { row := searchFindsUptoRow, standIns := [], harness := (true, "ca624a4096d44ffd18c315bdf3ce9da3697a6d6532087d4342feb6a49359f52f"), looks := false }, kinds := [], alts := [], laidByText := true, laidKinds := [.data, .pinned], laidTests := true, laidLooks := .later }
def SearchFindsUptoCardSaid : Prop := Claim7.holds Tryz.pinned (.plain (OpenSpec.upto searchFindsSpec)) searchFindsUptoCard

/-- THE SECOND FORM's CARD OF 'langdoclaw38.SearchJoins'. -/
def searchJoinsUptoCard : Claim7 := { stood := { row := searchJoinsUptoRow, standIns := [], harness := (true, "ca624a4096d44ffd18c315bdf3ce9da3697a6d6532087d4342feb6a49359f52f"), looks := false }, kinds := [], alts := [], laidByText := true, laidKinds := [.data, .pinned], laidTests := true, laidLooks := .later }
def SearchJoinsUptoCardSaid : Prop := Claim7.holds Tryz.pinned (.plain (OpenSpec.upto searchJoinsSpec)) searchJoinsUptoCard

/-- THE SECOND FORM's CARD OF 'langdoclaw36.MatchTies'. -/
def matchTiesUptoCard : Claim7 := { stood := { row := matchTiesUptoRow, standIns := [], harness := (true, "ca624a4096d44ffd18c315bdf3ce9da3697a6d6532087d4342feb6a49359f52f"), looks := false }, kinds := [], alts := [], laidByText := true, laidKinds := [.data, .pinned], laidTests := true, laidLooks := .later }
def MatchTiesUptoCardSaid : Prop := Claim7.holds Tryz.pinned (.plain (OpenSpec.upto matchTiesSpec)) matchTiesUptoCard

/-- THE SECOND FORM's CARD OF 'langdoclaw38.SearchUpdated'. -/
def searchUpdatedUptoCard : Claim7 := { stood := { row := searchUpdatedUptoRow, standIns := [], harness := (true, "ca624a4096d44ffd18c315bdf3ce9da3697a6d6532087d4342feb6a49359f52f"), looks := false }, kinds := [], alts := [], laidByText := true, laidKinds := [.data, .pinned], laidTests := true, laidLooks := .later }
def SearchUpdatedUptoCardSaid : Prop := Claim7.holds Tryz.pinned (.plain (OpenSpec.upto searchUpdatedSpec)) searchUpdatedUptoCard
end Rows
end Go.Proofs.YtnifmbbpfdghmaaGreatDoor
