/-
  DERIVED. GIVEN WITH THE SEED: THE CARDS: each row of YtjicdgejhkgpgaaGreatDoorRows.lean that lists a variable, with what it lists TIED to the program's text (the seventh form; the later family's looks); each row that meets fmt, with fmt's text TOLD by the authors' own Lean function (tested against real Go, not proved from fmt's source: count such statements apart). THE CARD IS WHAT COUNTS. Prove the row's statement (the work); the ties are given (YtjicdgejhkgpgaaGreatDoorTie.lean); close each card by the builder's one call (the guide's Derived/Test/ToyasCard.lean, 'card_holds'). Laid BY PROGRAM, IN A SANDBOX (cutbox-door.mjs). By AI agents, Wed Nov 11 2026. No macro, syntax, notation, axiom, sorry.
-/
import Derived.Test.YtjicdgejhkgpgaaGreatDoorRows
import GoSem.ClaimSeven
namespace Go.Proofs.YtjicdgejhkgpgaaGreatDoor
namespace Rows

/-- THE TIED CARD OF 'langdoclaw47.ProvenanceAttests'. -/
def provenanceAttestsCard : Claim7 := { stood := { row := provenanceAttestsRow, standIns := [], harness := (true, "6e1d85ba4b31ce9d5777d93751f94c70435ca57b29cf2c4600f6e2bbfcc22f25"), looks := false }, kinds := [], alts := [], laidByText := true, laidKinds := [.data, .pinned], laidTests := true, laidLooks := .later }
def ProvenanceAttestsCardSaid : Prop := Claim7.holds Tryz.pinned (.plain (OpenSpec.ofChange provenanceAttestsSpec)) provenanceAttestsCard

/-- THE TIED CARD OF 'langdoclaw47.ProvenanceEntries'. -/
def provenanceEntriesCard : Claim7 := { stood := { row := provenanceEntriesRow, standIns := [], harness := (true, "6e1d85ba4b31ce9d5777d93751f94c70435ca57b29cf2c4600f6e2bbfcc22f25"), looks := false }, kinds := [], alts := [], laidByText := true, laidKinds := [.data, .pinned], laidTests := true, laidLooks := .later }
def ProvenanceEntriesCardSaid : Prop := Claim7.holds Tryz.pinned (.plain (OpenSpec.ofChange provenanceEntriesSpec)) provenanceEntriesCard

/-- THE TIED CARD OF 'langdoclaw47.ProvenancePoints'. -/
def provenancePointsCard : Claim7 := { stood := { row := provenancePointsRow, standIns := [], harness := (true, "6e1d85ba4b31ce9d5777d93751f94c70435ca57b29cf2c4600f6e2bbfcc22f25"), looks := false }, kinds := [], alts := [], laidByText := true, laidKinds := [.data, .pinned], laidTests := true, laidLooks := .later }
def ProvenancePointsCardSaid : Prop := Claim7.holds Tryz.pinned (.plain (OpenSpec.ofChange provenancePointsSpec)) provenancePointsCard

/-- THE TIED CARD OF 'langdoclaw47.ProvenanceDangling'. -/
def provenanceDanglingCard : Claim7 := { stood := { row := provenanceDanglingRow, standIns := [], harness := (true, "6e1d85ba4b31ce9d5777d93751f94c70435ca57b29cf2c4600f6e2bbfcc22f25"), looks := false }, kinds := [], alts := [], laidByText := true, laidKinds := [.data, .pinned], laidTests := true, laidLooks := .later }
def ProvenanceDanglingCardSaid : Prop := Claim7.holds Tryz.pinned (.plain (OpenSpec.ofChange provenanceDanglingSpec)) provenanceDanglingCard

/-- THE TIED CARD OF 'langdoclaw47.ProvenanceTimes'. -/
def provenanceTimesCard : Claim7 := { stood := { row := provenanceTimesRow, standIns := [], harness := (true, "6e1d85ba4b31ce9d5777d93751f94c70435ca57b29cf2c4600f6e2bbfcc22f25"), looks := false }, kinds := [], alts := [], laidByText := true, laidKinds := [.data, .pinned], laidTests := true, laidLooks := .later }
def ProvenanceTimesCardSaid : Prop := Claim7.holds Tryz.pinned (.plain (OpenSpec.ofChange provenanceTimesSpec)) provenanceTimesCard

/-- THE TIED CARD OF 'langdoclaw47.ProvenanceLeads'. -/
def provenanceLeadsCard : Claim7 := { stood := { row := provenanceLeadsRow, standIns := [], harness := (true, "6e1d85ba4b31ce9d5777d93751f94c70435ca57b29cf2c4600f6e2bbfcc22f25"), looks := false }, kinds := [], alts := [], laidByText := true, laidKinds := [.data, .pinned], laidTests := true, laidLooks := .later }
def ProvenanceLeadsCardSaid : Prop := Claim7.holds Tryz.pinned (.plain (OpenSpec.ofChange provenanceLeadsSpec)) provenanceLeadsCard

/-- THE TIED CARD OF 'langdoclaw47.ProvenanceFirst'. -/
def provenanceFirstCard : Claim7 := { stood := { row := provenanceFirstRow, standIns := [], harness := (true, "6e1d85ba4b31ce9d5777d93751f94c70435ca57b29cf2c4600f6e2bbfcc22f25"), looks := false }, kinds := [], alts := [], laidByText := true, laidKinds := [.data, .pinned], laidTests := true, laidLooks := .later }
def ProvenanceFirstCardSaid : Prop := Claim7.holds Tryz.pinned (.plain (OpenSpec.ofChange provenanceFirstSpec)) provenanceFirstCard

/-- THE TIED CARD OF 'langdoclaw47.ProvenanceWhere'. -/
def provenanceWhereCard : Claim7 := { stood := { row := provenanceWhereRow, standIns := [], harness := (true, "6e1d85ba4b31ce9d5777d93751f94c70435ca57b29cf2c4600f6e2bbfcc22f25"), looks := false }, kinds := [], alts := [], laidByText := true, laidKinds := [.data, .pinned], laidTests := true, laidLooks := .later }
def ProvenanceWhereCardSaid : Prop := Claim7.holds Tryz.pinned (.plain (OpenSpec.ofChange provenanceWhereSpec)) provenanceWhereCard

/-- THE TIED CARD OF 'langdoclaw47.ProvenanceDrops'. -/
def provenanceDropsCard : Claim7 := { stood := { row := provenanceDropsRow, standIns := [], harness := (true, "6e1d85ba4b31ce9d5777d93751f94c70435ca57b29cf2c4600f6e2bbfcc22f25"), looks := false }, kinds := [], alts := [], laidByText := true, laidKinds := [.data, .pinned], laidTests := true, laidLooks := .later }
def ProvenanceDropsCardSaid : Prop := Claim7.holds Tryz.pinned (.plain (OpenSpec.ofChange provenanceDropsSpec)) provenanceDropsCard

/-- THE SECOND FORM's CARD OF 'langdoclaw47.ProvenanceAttests'. -/
def provenanceAttestsUptoCard : Claim7 := { stood := { row := provenanceAttestsUptoRow, standIns := [], harness := (true, "6e1d85ba4b31ce9d5777d93751f94c70435ca57b29cf2c4600f6e2bbfcc22f25"), looks := false }, kinds := [], alts := [], laidByText := true, laidKinds := [.data, .pinned], laidTests := true, laidLooks := .later }
def ProvenanceAttestsUptoCardSaid : Prop := Claim7.holds Tryz.pinned (.plain (OpenSpec.upto provenanceAttestsSpec)) provenanceAttestsUptoCard

/-- THE SECOND FORM's CARD OF 'langdoclaw47.ProvenanceEntries'. -/
def provenanceEntriesUptoCard : Claim7 := { stood := { row := provenanceEntriesUptoRow, standIns := [], harness := (true, "6e1d85ba4b31ce9d5777d93751f94c70435ca57b29cf2c4600f6e2bbfcc22f25"), looks := false }, kinds := [], alts := [], laidByText := true, laidKinds := [.data, .pinned], laidTests := true, laidLooks := .later }
def ProvenanceEntriesUptoCardSaid : Prop := Claim7.holds Tryz.pinned (.plain (OpenSpec.upto provenanceEntriesSpec)) provenanceEntriesUptoCard

/-- THE SECOND FORM's CARD OF 'langdoclaw47.ProvenancePoints'. -/
def provenancePointsUptoCard : Claim7 := { stood := { row := provenancePointsUptoRow, standIns := [], harness := (true, "6e1d85ba4b31ce9d5777d93751f94c70435ca57b29cf2c4600f6e2bbfcc22f25"), looks := false }, kinds := [], alts := [], laidByText := true, laidKinds := [.data, .pinned], laidTests := true, laidLooks := .later }
def ProvenancePointsUptoCardSaid : Prop := Claim7.holds Tryz.pinned (.plain (OpenSpec.upto provenancePointsSpec)) provenancePointsUptoCard

/-- THE SECOND FORM's CARD OF 'langdoclaw47.ProvenanceDangling'. -/
def provenanceDanglingUptoCard : Claim7 := { stood := { row := provenanceDanglingUptoRow, standIns := [], harness := (true, "6e1d85ba4b31ce9d5777d93751f94c70435ca57b29cf2c4600f6e2bbfcc22f25"), looks := false }, kinds := [], alts := [], laidByText := true, laidKinds := [.data, .pinned], laidTests := true, laidLooks := .later }
def ProvenanceDanglingUptoCardSaid : Prop := Claim7.holds Tryz.pinned (.plain (OpenSpec.upto provenanceDanglingSpec)) provenanceDanglingUptoCard

/-- THE SECOND FORM's CARD OF 'langdoclaw47.ProvenanceTimes'. -/
def provenanceTimesUptoCard : Claim7 := { stood := { row := provenanceTimesUptoRow, standIns := [], harness := (true, "6e1d85ba4b31ce9d5777d93751f94c70435ca57b29cf2c4600f6e2bbfcc22f25"), looks := false }, kinds := [], alts := [], laidByText := true, laidKinds := [.data, .pinned], laidTests := true, laidLooks := .later }
def ProvenanceTimesUptoCardSaid : Prop := Claim7.holds Tryz.pinned (.plain (OpenSpec.upto provenanceTimesSpec)) provenanceTimesUptoCard

/-- THE SECOND FORM's CARD OF 'langdoclaw47.ProvenanceLeads'. -/
def provenanceLeadsUptoCard : Claim7 := { stood := { row := provenanceLeadsUptoRow, standIns := [], harness := (true, "6e1d85ba4b31ce9d5777d93751f94c70435ca57b29cf2c4600f6e2bbfcc22f25"), looks := false }, kinds := [], alts := [], laidByText := true, laidKinds := [.data, .pinned], laidTests := true, laidLooks := .later }
def ProvenanceLeadsUptoCardSaid : Prop := Claim7.holds Tryz.pinned (.plain (OpenSpec.upto provenanceLeadsSpec)) provenanceLeadsUptoCard

/-- THE SECOND FORM's CARD OF 'langdoclaw47.ProvenanceFirst'. -/
def provenanceFirstUptoCard : Claim7 := { stood := { row := provenanceFirstUptoRow, standIns := [], harness := (true, "6e1d85ba4b31ce9d5777d93751f94c70435ca57b29cf2c4600f6e2bbfcc22f25"), looks := false }, kinds := [], alts := [], laidByText := true, laidKinds := [.data, .pinned], laidTests := true, laidLooks := .later }
def ProvenanceFirstUptoCardSaid : Prop := Claim7.holds Tryz.pinned (.plain (OpenSpec.upto provenanceFirstSpec)) provenanceFirstUptoCard

/-- THE SECOND FORM's CARD OF 'langdoclaw47.ProvenanceWhere'. -/
def provenanceWhereUptoCard : Claim7 := { stood := { row := provenanceWhereUptoRow, standIns := [], harness := (true, "6e1d85ba4b31ce9d5777d93751f94c70435ca57b29cf2c4600f6e2bbfcc22f25"), looks := false }, kinds := [], alts := [], laidByText := true, laidKinds := [.data, .pinned], laidTests := true, laidLooks := .later }
def ProvenanceWhereUptoCardSaid : Prop := Claim7.holds Tryz.pinned (.plain (OpenSpec.upto provenanceWhereSpec)) provenanceWhereUptoCard

/-- THE SECOND FORM's CARD OF 'langdoclaw47.ProvenanceDrops'. -/
def provenanceDropsUptoCard : Claim7 := { stood := { row := provenanceDropsUptoRow, standIns := [], harness := (true, "6e1d85ba4b31ce9d5777d93751f94c70435ca57b29cf2c4600f6e2bbfcc22f25"), looks := false }, kinds := [], alts := [], laidByText := true, laidKinds := [.data, .pinned], laidTests := true, laidLooks := .later }
def ProvenanceDropsUptoCardSaid : Prop := Claim7.holds Tryz.pinned (.plain (OpenSpec.upto provenanceDropsSpec)) provenanceDropsUptoCard
end Rows
end Go.Proofs.YtjicdgejhkgpgaaGreatDoor
