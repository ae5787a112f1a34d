/-
  DERIVED. GIVEN WITH THE SEED: THE CARDS: each row of YtghbdkndmmmgmaaDoorRows.lean that lists a variable, with what it lists TIED to the program's text (the seventh form; the later family's looks); each row that meets fmt, with fmt's text TOLD by the authors' own Lean function (tested against real Go, not proved from fmt's source: count such statements apart). THE CARD IS WHAT COUNTS. Prove the row's statement (the work); the ties are given (YtghbdkndmmmgmaaDoorTie.lean); close each card by the builder's one call (the guide's Derived/Test/ToyasCard.lean, 'card_holds'). Laid BY PROGRAM, IN A SANDBOX (cutbox-door.mjs). By AI agents, Wed Nov 11 2026. No macro, syntax, notation, axiom, sorry.
-/
import Derived.Test.YtghbdkndmmmgmaaDoorRows
import GoSem.ClaimSeven
namespace Go.Proofs.YtghbdkndmmmgmaaDoor
namespace Rows

/-- THE TIED CARD OF 'langdoclaw34.PatternChecks'. -/
def patternChecksCard : Claim7 := { stood := { row := patternChecksRow, standIns := [], harness := (true, "7bf31e9812a7f03fe8d0539466c99c161d915f1e3fc4f45d026333a00c4fad3a"), looks := false }, kinds := [], alts := [], laidByText := true, laidKinds := [.data, .pinned], laidTests := true, laidLooks := .later }
def PatternChecksCardSaid : Prop := Claim7.holds Tryd.pinned (.plain (OpenSpec.ofChange patternChecksSpec)) patternChecksCard

/-- THE TIED CARD OF 'langdoclaw34.PatternMatches'. -/
def patternMatchesCard : Claim7 := { stood := { row := patternMatchesRow, standIns := [], harness := (true, "7bf31e9812a7f03fe8d0539466c99c161d915f1e3fc4f45d026333a00c4fad3a"), looks := false }, kinds := [], alts := [], laidByText := true, laidKinds := [.data, .pinned], laidTests := true, laidLooks := .later }
def PatternMatchesCardSaid : Prop := Claim7.holds Tryd.pinned (.plain (OpenSpec.ofChange patternMatchesSpec)) patternMatchesCard

/-- THE TIED CARD OF 'langdoclaw34.PatternPlains'. -/
def patternPlainsCard : Claim7 := { stood := { row := patternPlainsRow, standIns := [], harness := (true, "7bf31e9812a7f03fe8d0539466c99c161d915f1e3fc4f45d026333a00c4fad3a"), looks := false }, kinds := [], alts := [], laidByText := true, laidKinds := [.data, .pinned], laidTests := true, laidLooks := .later }
def PatternPlainsCardSaid : Prop := Claim7.holds Tryd.pinned (.plain (OpenSpec.ofChange patternPlainsSpec)) patternPlainsCard

/-- THE TIED CARD OF 'langdoclaw34.PatternQuotes'. -/
def patternQuotesCard : Claim7 := { stood := { row := patternQuotesRow, standIns := [], harness := (true, "7bf31e9812a7f03fe8d0539466c99c161d915f1e3fc4f45d026333a00c4fad3a"), looks := false }, kinds := [], alts := [], laidByText := true, laidKinds := [.data, .pinned], laidTests := true, laidLooks := .later }
def PatternQuotesCardSaid : Prop := Claim7.holds Tryd.pinned (.plain (OpenSpec.ofChange patternQuotesSpec)) patternQuotesCard

/-- THE TIED CARD OF 'langdoclaw34.PatternAlone'. -/
def patternAloneCard : Claim7 := { stood := { row := patternAloneRow, standIns := [], harness := (true, "7bf31e9812a7f03fe8d0539466c99c161d915f1e3fc4f45d026333a00c4fad3a"), looks := false }, kinds := [], alts := [], laidByText := true, laidKinds := [.data, .pinned], laidTests := true, laidLooks := .later }
def PatternAloneCardSaid : Prop := Claim7.holds Tryd.pinned (.plain (OpenSpec.ofChange patternAloneSpec)) patternAloneCard

/-- THE TIED CARD OF 'langdoclaw34.PatternHeads'. -/
def patternHeadsCard : Claim7 := { stood := { row := patternHeadsRow, standIns := [], harness := (true, "7bf31e9812a7f03fe8d0539466c99c161d915f1e3fc4f45d026333a00c4fad3a"), looks := false }, kinds := [], alts := [], laidByText := true, laidKinds := [.data, .pinned], laidTests := true, laidLooks := .later }
def PatternHeadsCardSaid : Prop := Claim7.holds Tryd.pinned (.plain (OpenSpec.ofChange patternHeadsSpec)) patternHeadsCard

/-- THE TIED CARD OF 'langdoclaw34.PatternStars'. -/
def patternStarsCard : Claim7 := { stood := { row := patternStarsRow, standIns := [], harness := (true, "7bf31e9812a7f03fe8d0539466c99c161d915f1e3fc4f45d026333a00c4fad3a"), looks := false }, kinds := [], alts := [], laidByText := true, laidKinds := [.data, .pinned], laidTests := true, laidLooks := .later }
def PatternStarsCardSaid : Prop := Claim7.holds Tryd.pinned (.plain (OpenSpec.ofChange patternStarsSpec)) patternStarsCard

/-- THE TIED CARD OF 'langdoclaw34.PatternLengths'. -/
def patternLengthsCard : Claim7 := { stood := { row := patternLengthsRow, standIns := [], harness := (true, "7bf31e9812a7f03fe8d0539466c99c161d915f1e3fc4f45d026333a00c4fad3a"), looks := false }, kinds := [], alts := [], laidByText := true, laidKinds := [.data, .pinned], laidTests := true, laidLooks := .later }
def PatternLengthsCardSaid : Prop := Claim7.holds Tryd.pinned (.plain (OpenSpec.ofChange patternLengthsSpec)) patternLengthsCard

/-- THE SECOND FORM's CARD OF 'langdoclaw34.PatternChecks'. -/
def patternChecksUptoCard : Claim7 := { stood := { row := patternChecksUptoRow, standIns := [], harness := (true, "7bf31e9812a7f03fe8d0539466c99c161d915f1e3fc4f45d026333a00c4fad3a"), looks := false }, kinds := [], alts := [], laidByText := true, laidKinds := [.data, .pinned], laidTests := true, laidLooks := .later }
def PatternChecksUptoCardSaid : Prop := Claim7.holds Tryd.pinned (.plain (OpenSpec.upto patternChecksSpec)) patternChecksUptoCard

/-- THE SECOND FORM's CARD OF 'langdoclaw34.PatternMatches'. -/
def patternMatchesUptoCard : Claim7 := { stood := { row := patternMatchesUptoRow, standIns := [], harness := (true, "7bf31e9812a7f03fe8d0539466c99c161d915f1e3fc4f45d026333a00c4fad3a"), looks := false }, kinds := [], alts := [], laidByText := true, laidKinds := [.data, .pinned], laidTests := true, laidLooks := .later }
def PatternMatchesUptoCardSaid : Prop := Claim7.holds Tryd.pinned (.plain (OpenSpec.upto patternMatchesSpec)) patternMatchesUptoCard

/-- THE SECOND FORM's CARD OF 'langdoclaw34.PatternPlains'. -/
def patternPlainsUptoCard : Claim7 := { stood := { row := patternPlainsUptoRow, standIns := [], harness := (true, "7bf31e9812a7f03fe8d0539466c99c161d915f1e3fc4f45d026333a00c4fad3a"), looks := false }, kinds := [], alts := [], laidByText := true, laidKinds := [.data, .pinned], laidTests := true, laidLooks := .later }
def PatternPlainsUptoCardSaid : Prop := Claim7.holds Tryd.pinned (.plain (OpenSpec.upto patternPlainsSpec)) patternPlainsUptoCard

/-- THE SECOND FORM's CARD OF 'langdoclaw34.PatternQuotes'. -/
def patternQuotesUptoCard : Claim7 := { stood := { row := patternQuotesUptoRow, standIns := [], harness := (true, "7bf31e9812a7f03fe8d0539466c99c161d915f1e3fc4f45d026333a00c4fad3a"), looks := false }, kinds := [], alts := [], laidByText := true, laidKinds := [.data, .pinned], laidTests := true, laidLooks := .later }
def PatternQuotesUptoCardSaid : Prop := Claim7.holds Tryd.pinned (.plain (OpenSpec.upto patternQuotesSpec)) patternQuotesUptoCard

/-- THE SECOND FORM's CARD OF 'langdoclaw34.PatternAlone'. -/
def patternAloneUptoCard : Claim7 := { stood := { row := patternAloneUptoRow, standIns := [], harness := (true, "7bf31e9812a7f03fe8d0539466c99c161d915f1e3fc4f45d026333a00c4fad3a"), looks := false }, kinds := [], alts := [], laidByText := true, laidKinds := [.data, .pinned], laidTests := true, laidLooks := .later }
def PatternAloneUptoCardSaid : Prop := Claim7.holds Tryd.pinned (.plain (OpenSpec.upto patternAloneSpec)) patternAloneUptoCard

/-- THE SECOND FORM's CARD OF 'langdoclaw34.PatternHeads'. -/
def patternHeadsUptoCard : Claim7 := { stood := { row := patternHeadsUptoRow, standIns := [], harness := (true, "7bf31e9812a7f03fe8d0539466c99c161d915f1e3fc4f45d026333a00c4fad3a"), looks := false }, kinds := [], alts := [], laidByText := true, laidKinds := [.data, .pinned], laidTests := true, laidLooks := .later }
def PatternHeadsUptoCardSaid : Prop := Claim7.holds Tryd.pinned (.plain (OpenSpec.upto patternHeadsSpec)) patternHeadsUptoCard

/-- THE SECOND FORM's CARD OF 'langdoclaw34.PatternStars'. -/
def patternStarsUptoCard : Claim7 := { stood := { row := patternStarsUptoRow, standIns := [], harness := (true, "7bf31e9812a7f03fe8d0539466c99c161d915f1e3fc4f45d026333a00c4fad3a"), looks := false }, kinds := [], alts := [], laidByText := true, laidKinds := [.data, .pinned], laidTests := true, laidLooks := .later }
def PatternStarsUptoCardSaid : Prop := Claim7.holds Tryd.pinned (.plain (OpenSpec.upto patternStarsSpec)) patternStarsUptoCard

/-- THE SECOND FORM's CARD OF 'langdoclaw34.PatternLengths'. -/
def patternLengthsUptoCard : Claim7 := { stood := { row := patternLengthsUptoRow, standIns := [], harness := (true, "7bf31e9812a7f03fe8d0539466c99c161d915f1e3fc4f45d026333a00c4fad3a"), looks := false }, kinds := [], alts := [], laidByText := true, laidKinds := [.data, .pinned], laidTests := true, laidLooks := .later }
def PatternLengthsUptoCardSaid : Prop := Claim7.holds Tryd.pinned (.plain (OpenSpec.upto patternLengthsSpec)) patternLengthsUptoCard
end Rows
end Go.Proofs.YtghbdkndmmmgmaaDoor
