/-
  DERIVED. GIVEN WITH THE SEED: THE CARDS: each row of YtjpjpgeeeigbkaaDoorRows.lean that lists a variable, with what it lists TIED to the program's text (the seventh form; the later family's looks); each row that meets fmt, with fmt's text TOLD by the authors' own Lean function (tested against real Go, not proved from fmt's source: count such statements apart). THE CARD IS WHAT COUNTS. Prove the row's statement (the work); the ties are given (YtjpjpgeeeigbkaaDoorTie.lean); close each card by the builder's one call (the guide's Derived/Test/ToyasCard.lean, 'card_holds'). Laid BY PROGRAM, IN A SANDBOX (cutbox-door.mjs). By AI agents, Wed Nov 11 2026. No macro, syntax, notation, axiom, sorry.
-/
import Derived.Test.YtjpjpgeeeigbkaaDoorRows
import GoSem.ClaimSeven
namespace Go.Proofs.YtjpjpgeeeigbkaaDoor
namespace Rows

/-- THE TIED CARD OF 'langdoclaw37.IndexChecks'. -/
def indexChecksCard : Claim7 := { stood := { row := indexChecksRow, standIns := [], harness := (true, "1687053bdfad233e66ec07d578c41ad4904a2af35ef14229647584f51a96b9e7"), looks := false }, kinds := [], alts := [], laidByText := true, laidKinds := [.data, .pinned], laidTests := true, laidLooks := .later }
def IndexChecksCardSaid : Prop := Claim7.holds Tryd.pinned (.plain (OpenSpec.ofChange indexChecksSpec)) indexChecksCard

/-- THE TIED CARD OF 'langdoclaw37.IndexBuilds'. -/
def indexBuildsCard : Claim7 := { stood := { row := indexBuildsRow, standIns := [], harness := (true, "1687053bdfad233e66ec07d578c41ad4904a2af35ef14229647584f51a96b9e7"), looks := false }, kinds := [], alts := [], laidByText := true, laidKinds := [.data, .pinned], laidTests := true, laidLooks := .later }
def IndexBuildsCardSaid : Prop := Claim7.holds Tryd.pinned (.plain (OpenSpec.ofChange indexBuildsSpec)) indexBuildsCard

/-- THE TIED CARD OF 'langdoclaw37.IndexFinds'. -/
def indexFindsCard : Claim7 := { stood := { row := indexFindsRow, standIns := [], harness := (true, "1687053bdfad233e66ec07d578c41ad4904a2af35ef14229647584f51a96b9e7"), looks := false }, kinds := [], alts := [], laidByText := true, laidKinds := [.data, .pinned], laidTests := true, laidLooks := .later }
def IndexFindsCardSaid : Prop := Claim7.holds Tryd.pinned (.plain (OpenSpec.ofChange indexFindsSpec)) indexFindsCard

/-- THE TIED CARD OF 'langdoclaw37.IndexPuts'. -/
def indexPutsCard : Claim7 := { stood := { row := indexPutsRow, standIns := [], harness := (true, "1687053bdfad233e66ec07d578c41ad4904a2af35ef14229647584f51a96b9e7"), looks := false }, kinds := [], alts := [], laidByText := true, laidKinds := [.data, .pinned], laidTests := true, laidLooks := .later }
def IndexPutsCardSaid : Prop := Claim7.holds Tryd.pinned (.plain (OpenSpec.ofChange indexPutsSpec)) indexPutsCard

/-- THE TIED CARD OF 'langdoclaw37.IndexSame'. -/
def indexSameCard : Claim7 := { stood := { row := indexSameRow, standIns := [], harness := (true, "1687053bdfad233e66ec07d578c41ad4904a2af35ef14229647584f51a96b9e7"), looks := false }, kinds := [], alts := [], laidByText := true, laidKinds := [.data, .pinned], laidTests := true, laidLooks := .later }
def IndexSameCardSaid : Prop := Claim7.holds Tryd.pinned (.plain (OpenSpec.ofChange indexSameSpec)) indexSameCard

/-- THE TIED CARD OF 'langdoclaw37.IndexKeeps'. -/
def indexKeepsCard : Claim7 := { stood := { row := indexKeepsRow, standIns := [], harness := (true, "1687053bdfad233e66ec07d578c41ad4904a2af35ef14229647584f51a96b9e7"), looks := false }, kinds := [], alts := [], laidByText := true, laidKinds := [.data, .pinned], laidTests := true, laidLooks := .later }
def IndexKeepsCardSaid : Prop := Claim7.holds Tryd.pinned (.plain (OpenSpec.ofChange indexKeepsSpec)) indexKeepsCard

/-- THE TIED CARD OF 'langdoclaw37.IndexOnce'. -/
def indexOnceCard : Claim7 := { stood := { row := indexOnceRow, standIns := [], harness := (true, "1687053bdfad233e66ec07d578c41ad4904a2af35ef14229647584f51a96b9e7"), looks := false }, kinds := [], alts := [], laidByText := true, laidKinds := [.data, .pinned], laidTests := true, laidLooks := .later }
def IndexOnceCardSaid : Prop := Claim7.holds Tryd.pinned (.plain (OpenSpec.ofChange indexOnceSpec)) indexOnceCard

/-- THE TIED CARD OF 'langdoclaw37.IndexMoves'. -/
def indexMovesCard : Claim7 := { stood := { row := indexMovesRow, standIns := [], harness := (true, "1687053bdfad233e66ec07d578c41ad4904a2af35ef14229647584f51a96b9e7"), looks := false }, kinds := [], alts := [], laidByText := true, laidKinds := [.data, .pinned], laidTests := true, laidLooks := .later }
def IndexMovesCardSaid : Prop := Claim7.holds Tryd.pinned (.plain (OpenSpec.ofChange indexMovesSpec)) indexMovesCard

/-- THE TIED CARD OF 'langdoclaw37.IndexUpdates'. -/
def indexUpdatesCard : Claim7 := { stood := { row := indexUpdatesRow, standIns := [], harness := (true, "1687053bdfad233e66ec07d578c41ad4904a2af35ef14229647584f51a96b9e7"), looks := false }, kinds := [], alts := [], laidByText := true, laidKinds := [.data, .pinned], laidTests := true, laidLooks := .later }
def IndexUpdatesCardSaid : Prop := Claim7.holds Tryd.pinned (.plain (OpenSpec.ofChange indexUpdatesSpec)) indexUpdatesCard

/-- THE TIED CARD OF 'langdoclaw37.IndexDerived'. -/
def indexDerivedCard : Claim7 := { stood := { row := indexDerivedRow, standIns := [], harness := (true, "1687053bdfad233e66ec07d578c41ad4904a2af35ef14229647584f51a96b9e7"), looks := false }, kinds := [], alts := [], laidByText := true, laidKinds := [.data, .pinned], laidTests := true, laidLooks := .later }
def IndexDerivedCardSaid : Prop := Claim7.holds Tryd.pinned (.plain (OpenSpec.ofChange indexDerivedSpec)) indexDerivedCard

/-- THE SECOND FORM's CARD OF 'langdoclaw37.IndexChecks'. -/
def indexChecksUptoCard : Claim7 := { stood := { row := indexChecksUptoRow, standIns := [], harness := (true, "1687053bdfad233e66ec07d578c41ad4904a2af35ef14229647584f51a96b9e7"), looks := false }, kinds := [], alts := [], laidByText := true, laidKinds := [.data, .pinned], laidTests := true, laidLooks := .later }
def IndexChecksUptoCardSaid : Prop := Claim7.holds Tryd.pinned (.plain (OpenSpec.upto indexChecksSpec)) indexChecksUptoCard

/-- THE SECOND FORM's CARD OF 'langdoclaw37.IndexBuilds'. -/
def indexBuildsUptoCard : Claim7 := { stood := { row := indexBuildsUptoRow, standIns := [], harness := (true, "1687053bdfad233e66ec07d578c41ad4904a2af35ef14229647584f51a96b9e7"), looks := false }, kinds := [], alts := [], laidByText := true, laidKinds := [.data, .pinned], laidTests := true, laidLooks := .later }
def IndexBuildsUptoCardSaid : Prop := Claim7.holds Tryd.pinned (.plain (OpenSpec.upto indexBuildsSpec)) indexBuildsUptoCard

/-- THE SECOND FORM's CARD OF 'langdoclaw37.IndexFinds'. -/
def indexFindsUptoCard : Claim7 := { stood := { row := indexFindsUptoRow, standIns := [], harness := (true, "1687053bdfad233e66ec07d578c41ad4904a2af35ef14229647584f51a96b9e7"), looks := false }, kinds := [], alts := [], laidByText := true, laidKinds := [.data, .pinned], laidTests := true, laidLooks := .later }
def IndexFindsUptoCardSaid : Prop := Claim7.holds Tryd.pinned (.plain (OpenSpec.upto indexFindsSpec)) indexFindsUptoCard

/-- THE SECOND FORM's CARD OF 'langdoclaw37.IndexPuts'. -/
def indexPutsUptoCard : Claim7 := { stood := { row := indexPutsUptoRow, standIns := [], harness := (true, "1687053bdfad233e66ec07d578c41ad4904a2af35ef14229647584f51a96b9e7"), looks := false }, kinds := [], alts := [], laidByText := true, laidKinds := [.data, .pinned], laidTests := true, laidLooks := .later }
def IndexPutsUptoCardSaid : Prop := Claim7.holds Tryd.pinned (.plain (OpenSpec.upto indexPutsSpec)) indexPutsUptoCard

/-- THE SECOND FORM's CARD OF 'langdoclaw37.IndexSame'. -/
def indexSameUptoCard : Claim7 := { stood := { row := indexSameUptoRow, standIns := [], harness := (true, "1687053bdfad233e66ec07d578c41ad4904a2af35ef14229647584f51a96b9e7"), looks := false }, kinds := [], alts := [], laidByText := true, laidKinds := [.data, .pinned], laidTests := true, laidLooks := .later }
def IndexSameUptoCardSaid : Prop := Claim7.holds Tryd.pinned (.plain (OpenSpec.upto indexSameSpec)) indexSameUptoCard

/-- THE SECOND FORM's CARD OF 'langdoclaw37.IndexKeeps'. -/
def indexKeepsUptoCard : Claim7 := { stood := { row := indexKeepsUptoRow, standIns := [], harness := (true, "1687053bdfad233e66ec07d578c41ad4904a2af35ef14229647584f51a96b9e7"), looks := false }, kinds := [], alts := [], laidByText := true, laidKinds := [.data, .pinned], laidTests := true, laidLooks := .later }
def IndexKeepsUptoCardSaid : Prop := Claim7.holds Tryd.pinned (.plain (OpenSpec.upto indexKeepsSpec)) indexKeepsUptoCard

/-- THE SECOND FORM's CARD OF 'langdoclaw37.IndexOnce'. -/
def indexOnceUptoCard : Claim7 := { stood := { row := indexOnceUptoRow, standIns := [], harness := (true, "1687053bdfad233e66ec07d578c41ad4904a2af35ef14229647584f51a96b9e7"), looks := false }, kinds := [], alts := [], laidByText := true, laidKinds := [.data, .pinned], laidTests := true, laidLooks := .later }
def IndexOnceUptoCardSaid : Prop := Claim7.holds Tryd.pinned (.plain (OpenSpec.upto indexOnceSpec)) indexOnceUptoCard

/-- THE SECOND FORM's CARD OF 'langdoclaw37.IndexMoves'. -/
def indexMovesUptoCard : Claim7 := { stood := { row := indexMovesUptoRow, standIns := [], harness := (true, "1687053bdfad233e66ec07d578c41ad4904a2af35ef14229647584f51a96b9e7"), looks := false }, kinds := [], alts := [], laidByText := true, laidKinds := [.data, .pinned], laidTests := true, laidLooks := .later }
def IndexMovesUptoCardSaid : Prop := Claim7.holds Tryd.pinned (.plain (OpenSpec.upto indexMovesSpec)) indexMovesUptoCard

/-- THE SECOND FORM's CARD OF 'langdoclaw37.IndexUpdates'. -/
def indexUpdatesUptoCard : Claim7 := { stood := { row := indexUpdatesUptoRow, standIns := [], harness := (true, "1687053bdfad233e66ec07d578c41ad4904a2af35ef14229647584f51a96b9e7"), looks := false }, kinds := [], alts := [], laidByText := true, laidKinds := [.data, .pinned], laidTests := true, laidLooks := .later }
def IndexUpdatesUptoCardSaid : Prop := Claim7.holds Tryd.pinned (.plain (OpenSpec.upto indexUpdatesSpec)) indexUpdatesUptoCard

/-- THE SECOND FORM's CARD OF 'langdoclaw37.IndexDerived'. -/
def indexDerivedUptoCard : Claim7 := { stood := { row := indexDerivedUptoRow, standIns := [], harness := (true, "1687053bdfad233e66ec07d578c41ad4904a2af35ef14229647584f51a96b9e7"), looks := false }, kinds := [], alts := [], laidByText := true, laidKinds := [.data, .pinned], laidTests := true, laidLooks := .later }
def IndexDerivedUptoCardSaid : Prop := Claim7.holds Tryd.pinned (.plain (OpenSpec.upto indexDerivedSpec)) indexDerivedUptoCard
end Rows
end Go.Proofs.YtjpjpgeeeigbkaaDoor
