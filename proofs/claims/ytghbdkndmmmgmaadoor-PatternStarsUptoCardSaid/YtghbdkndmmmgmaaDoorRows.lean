/-
  NARROWER THAN 'FOR EVERY INPUT', by the rows' own cells (each row's printed sentence says how): PatternChecks: laid · PatternMatches: laid · PatternPlains: laid · PatternQuotes: laid · PatternAlone: laid · PatternHeads: laid · PatternStars: laid · PatternLengths: laid.
  DERIVED. THE GIVEN ROWS OF THIS SEAT. 8 by the template 'for every input the law returns true; each argument reads behind the call as it read before'; 0 by the template 'total and deterministic' (their statements: YtghbdkndmmmgmaaDoorTotals.lean).
  GIVEN WITH THE SEED: the statements are not yours to turn. If you find one false, say at which input.
  Laid BY PROGRAM, IN A SANDBOX (cutbox-rows.mjs): the forced cells as the released guide's own fill.sh prints them over the translation f32bff46bd157edf… (all of the seat's roots in one cut). By AI agents, Wed Nov 11 2026. No macro, syntax, notation, axiom, sorry.
-/
import Derived.Test.YtghbdkndmmmgmaaDoorChecked
import GoSem.PinnedTables
import GoSem.Claim
import GoSem.ClaimJoined
import GoSem.ClaimMapViews
import Derived.JoinedTies
import Derived.KernelRfl
namespace Go.Proofs.YtghbdkndmmmgmaaDoor
/- THE CELL 'sum', in the pinned program and in every row, IS THE sha256 OF THE DUMP (.gsa) THAT YtghbdkndmmmgmaaDoorProg.lean LOADS. Nothing in Lean hashes anything: it is a label: what it is worth is what the hold of that sum in a sandbox is worth. -/
noncomputable def Tryd.pinned : Pinned := { name := "ytghbdkndmmmgmaadoor", sum := "f32bff46bd157edfd2810cea5834d24bc6047f86f18566874875b5076fc5669d", checked := Tryd.checked }
namespace Rows
def none {H : Type} : Left H := { results := [], args := [] }

/- WHAT THE LISTED PACKAGE-LEVEL VARIABLES READ AS WHEN THE CALL BEGINS. Each datum BY PROGRAM (the guide's laid-datum.mjs) off the statement by which the dump's own 'gosem.cut.vars' lays the variable. In a bare row this is a premise. The card (YtghbdkndmmmgmaaDoorCards.lean) ties it to the program's text. -/
def laid_unicode_utf8_acceptRanges {H : Type} : DataW H := .agg [.agg [.lit (.int .u8 128), .lit (.int .u8 191)], .agg [.lit (.int .u8 160), .lit (.int .u8 191)], .agg [.lit (.int .u8 128), .lit (.int .u8 159)], .agg [.lit (.int .u8 144), .lit (.int .u8 191)], .agg [.lit (.int .u8 128), .lit (.int .u8 143)], .agg [.lit (.int .u8 0), .lit (.int .u8 0)], .agg [.lit (.int .u8 0), .lit (.int .u8 0)], .agg [.lit (.int .u8 0), .lit (.int .u8 0)], .agg [.lit (.int .u8 0), .lit (.int .u8 0)], .agg [.lit (.int .u8 0), .lit (.int .u8 0)], .agg [.lit (.int .u8 0), .lit (.int .u8 0)], .agg [.lit (.int .u8 0), .lit (.int .u8 0)], .agg [.lit (.int .u8 0), .lit (.int .u8 0)], .agg [.lit (.int .u8 0), .lit (.int .u8 0)], .agg [.lit (.int .u8 0), .lit (.int .u8 0)], .agg [.lit (.int .u8 0), .lit (.int .u8 0)]]
/-- One of Go's own tables, pinned by name: the form's constant. -/
def laid_unicode_utf8_first : DataW Unit := Go.Pinned.utf8First

/-- 'langdoclaw34.PatternChecks': WHATEVER THE INPUT: true; the input reads as it did. -/
def patternChecksSpec : ChangeSpec := { name := "patternChecks", fn := fun _ => fun
  | [d] => { results := [.lit (.bool true)], args := [d] }
  | _ => none }
def patternChecksRow : OpenClaim := { program := "ytghbdkndmmmgmaadoor", sum := "f32bff46bd157edfd2810cea5834d24bc6047f86f18566874875b5076fc5669d", func := "langdoc/langdoclaw34.PatternChecks", spec := "patternChecks", unfollowed := true, recurses := true, named := ["unicode/utf8.first", "unicode/utf8.acceptRanges"], apart := false, laid := [("unicode/utf8.acceptRanges", laid_unicode_utf8_acceptRanges), ("unicode/utf8.first", laid_unicode_utf8_first)] }
def PatternChecksSaid : Prop := patternChecksRow.holds Tryd.pinned (OpenSpec.ofChange patternChecksSpec)

/-- ITS FALSE NEIGHBOUR: 'it returns false'. Refute it at one input. -/
def patternChecksWrong : ChangeSpec := { name := "patternChecks", fn := fun _ => fun
  | [d] => { results := [.lit (.bool false)], args := [d] }
  | _ => none }
def PatternChecksWrongFalsely : Prop := patternChecksRow.holds Tryd.pinned (OpenSpec.ofChange patternChecksWrong)

/-- 'langdoclaw34.PatternMatches': WHATEVER THE INPUT: true; the input reads as it did. -/
def patternMatchesSpec : ChangeSpec := { name := "patternMatches", fn := fun _ => fun
  | [d1, d2] => { results := [.lit (.bool true)], args := [d1, d2] }
  | _ => none }
def patternMatchesRow : OpenClaim := { program := "ytghbdkndmmmgmaadoor", sum := "f32bff46bd157edfd2810cea5834d24bc6047f86f18566874875b5076fc5669d", func := "langdoc/langdoclaw34.PatternMatches", spec := "patternMatches", unfollowed := true, recurses := true, named := ["unicode/utf8.first", "unicode/utf8.acceptRanges"], apart := false, laid := [("unicode/utf8.acceptRanges", laid_unicode_utf8_acceptRanges), ("unicode/utf8.first", laid_unicode_utf8_first)] }
def PatternMatchesSaid : Prop := patternMatchesRow.holds Tryd.pinned (OpenSpec.ofChange patternMatchesSpec)

/-- ITS FALSE NEIGHBOUR: 'it returns false'. Refute it at one input. -/
def patternMatchesWrong : ChangeSpec := { name := "patternMatches", fn := fun _ => fun
  | [d1, d2] => { results := [.lit (.bool false)], args := [d1, d2] }
  | _ => none }
def PatternMatchesWrongFalsely : Prop := patternMatchesRow.holds Tryd.pinned (OpenSpec.ofChange patternMatchesWrong)

/-- 'langdoclaw34.PatternPlains': WHATEVER THE INPUT: true; the input reads as it did. -/
def patternPlainsSpec : ChangeSpec := { name := "patternPlains", fn := fun _ => fun
  | [d] => { results := [.lit (.bool true)], args := [d] }
  | _ => none }
def patternPlainsRow : OpenClaim := { program := "ytghbdkndmmmgmaadoor", sum := "f32bff46bd157edfd2810cea5834d24bc6047f86f18566874875b5076fc5669d", func := "langdoc/langdoclaw34.PatternPlains", spec := "patternPlains", unfollowed := true, recurses := true, named := ["unicode/utf8.first", "unicode/utf8.acceptRanges"], apart := false, laid := [("unicode/utf8.acceptRanges", laid_unicode_utf8_acceptRanges), ("unicode/utf8.first", laid_unicode_utf8_first)] }
def PatternPlainsSaid : Prop := patternPlainsRow.holds Tryd.pinned (OpenSpec.ofChange patternPlainsSpec)

/-- ITS FALSE NEIGHBOUR: 'it returns false'. Refute it at one input. -/
def patternPlainsWrong : ChangeSpec := { name := "patternPlains", fn := fun _ => fun
  | [d] => { results := [.lit (.bool false)], args := [d] }
  | _ => none }
def PatternPlainsWrongFalsely : Prop := patternPlainsRow.holds Tryd.pinned (OpenSpec.ofChange patternPlainsWrong)

/-- 'langdoclaw34.PatternQuotes': WHATEVER THE INPUT: true; the input reads as it did. -/
def patternQuotesSpec : ChangeSpec := { name := "patternQuotes", fn := fun _ => fun
  | [d] => { results := [.lit (.bool true)], args := [d] }
  | _ => none }
def patternQuotesRow : OpenClaim := { program := "ytghbdkndmmmgmaadoor", sum := "f32bff46bd157edfd2810cea5834d24bc6047f86f18566874875b5076fc5669d", func := "langdoc/langdoclaw34.PatternQuotes", spec := "patternQuotes", unfollowed := true, recurses := true, named := ["unicode/utf8.first", "unicode/utf8.acceptRanges"], apart := false, laid := [("unicode/utf8.acceptRanges", laid_unicode_utf8_acceptRanges), ("unicode/utf8.first", laid_unicode_utf8_first)] }
def PatternQuotesSaid : Prop := patternQuotesRow.holds Tryd.pinned (OpenSpec.ofChange patternQuotesSpec)

/-- ITS FALSE NEIGHBOUR: 'it returns false'. Refute it at one input. -/
def patternQuotesWrong : ChangeSpec := { name := "patternQuotes", fn := fun _ => fun
  | [d] => { results := [.lit (.bool false)], args := [d] }
  | _ => none }
def PatternQuotesWrongFalsely : Prop := patternQuotesRow.holds Tryd.pinned (OpenSpec.ofChange patternQuotesWrong)

/-- 'langdoclaw34.PatternAlone': WHATEVER THE INPUT: true; the input reads as it did. -/
def patternAloneSpec : ChangeSpec := { name := "patternAlone", fn := fun _ => fun
  | [d1, d2] => { results := [.lit (.bool true)], args := [d1, d2] }
  | _ => none }
def patternAloneRow : OpenClaim := { program := "ytghbdkndmmmgmaadoor", sum := "f32bff46bd157edfd2810cea5834d24bc6047f86f18566874875b5076fc5669d", func := "langdoc/langdoclaw34.PatternAlone", spec := "patternAlone", unfollowed := true, recurses := true, named := ["unicode/utf8.first", "unicode/utf8.acceptRanges"], apart := false, laid := [("unicode/utf8.acceptRanges", laid_unicode_utf8_acceptRanges), ("unicode/utf8.first", laid_unicode_utf8_first)] }
def PatternAloneSaid : Prop := patternAloneRow.holds Tryd.pinned (OpenSpec.ofChange patternAloneSpec)

/-- ITS FALSE NEIGHBOUR: 'it returns false'. Refute it at one input. -/
def patternAloneWrong : ChangeSpec := { name := "patternAlone", fn := fun _ => fun
  | [d1, d2] => { results := [.lit (.bool false)], args := [d1, d2] }
  | _ => none }
def PatternAloneWrongFalsely : Prop := patternAloneRow.holds Tryd.pinned (OpenSpec.ofChange patternAloneWrong)

/-- 'langdoclaw34.PatternHeads': WHATEVER THE INPUT: true; the input reads as it did. -/
def patternHeadsSpec : ChangeSpec := { name := "patternHeads", fn := fun _ => fun
  | [d1, d2] => { results := [.lit (.bool true)], args := [d1, d2] }
  | _ => none }
def patternHeadsRow : OpenClaim := { program := "ytghbdkndmmmgmaadoor", sum := "f32bff46bd157edfd2810cea5834d24bc6047f86f18566874875b5076fc5669d", func := "langdoc/langdoclaw34.PatternHeads", spec := "patternHeads", unfollowed := true, recurses := true, named := ["unicode/utf8.first", "unicode/utf8.acceptRanges"], apart := false, laid := [("unicode/utf8.acceptRanges", laid_unicode_utf8_acceptRanges), ("unicode/utf8.first", laid_unicode_utf8_first)] }
def PatternHeadsSaid : Prop := patternHeadsRow.holds Tryd.pinned (OpenSpec.ofChange patternHeadsSpec)

/-- ITS FALSE NEIGHBOUR: 'it returns false'. Refute it at one input. -/
def patternHeadsWrong : ChangeSpec := { name := "patternHeads", fn := fun _ => fun
  | [d1, d2] => { results := [.lit (.bool false)], args := [d1, d2] }
  | _ => none }
def PatternHeadsWrongFalsely : Prop := patternHeadsRow.holds Tryd.pinned (OpenSpec.ofChange patternHeadsWrong)

/-- 'langdoclaw34.PatternStars': WHATEVER THE INPUT: true; the input reads as it did. -/
def patternStarsSpec : ChangeSpec := { name := "patternStars", fn := fun _ => fun
  | [d1, d2, d3] => { results := [.lit (.bool true)], args := [d1, d2, d3] }
  | _ => none }
def patternStarsRow : OpenClaim := { program := "ytghbdkndmmmgmaadoor", sum := "f32bff46bd157edfd2810cea5834d24bc6047f86f18566874875b5076fc5669d", func := "langdoc/langdoclaw34.PatternStars", spec := "patternStars", unfollowed := true, recurses := true, named := ["unicode/utf8.first", "unicode/utf8.acceptRanges"], apart := false, laid := [("unicode/utf8.acceptRanges", laid_unicode_utf8_acceptRanges), ("unicode/utf8.first", laid_unicode_utf8_first)] }
def PatternStarsSaid : Prop := patternStarsRow.holds Tryd.pinned (OpenSpec.ofChange patternStarsSpec)

/-- ITS FALSE NEIGHBOUR: 'it returns false'. Refute it at one input. -/
def patternStarsWrong : ChangeSpec := { name := "patternStars", fn := fun _ => fun
  | [d1, d2, d3] => { results := [.lit (.bool false)], args := [d1, d2, d3] }
  | _ => none }
def PatternStarsWrongFalsely : Prop := patternStarsRow.holds Tryd.pinned (OpenSpec.ofChange patternStarsWrong)

/-- 'langdoclaw34.PatternLengths': WHATEVER THE INPUT: true; the input reads as it did. -/
def patternLengthsSpec : ChangeSpec := { name := "patternLengths", fn := fun _ => fun
  | [d1, d2] => { results := [.lit (.bool true)], args := [d1, d2] }
  | _ => none }
def patternLengthsRow : OpenClaim := { program := "ytghbdkndmmmgmaadoor", sum := "f32bff46bd157edfd2810cea5834d24bc6047f86f18566874875b5076fc5669d", func := "langdoc/langdoclaw34.PatternLengths", spec := "patternLengths", unfollowed := true, recurses := true, named := ["unicode/utf8.first", "unicode/utf8.acceptRanges"], apart := false, laid := [("unicode/utf8.acceptRanges", laid_unicode_utf8_acceptRanges), ("unicode/utf8.first", laid_unicode_utf8_first)] }
def PatternLengthsSaid : Prop := patternLengthsRow.holds Tryd.pinned (OpenSpec.ofChange patternLengthsSpec)

/-- ITS FALSE NEIGHBOUR: 'it returns false'. Refute it at one input. -/
def patternLengthsWrong : ChangeSpec := { name := "patternLengths", fn := fun _ => fun
  | [d1, d2] => { results := [.lit (.bool false)], args := [d1, d2] }
  | _ => none }
def PatternLengthsWrongFalsely : Prop := patternLengthsRow.holds Tryd.pinned (OpenSpec.ofChange patternLengthsWrong)

/- THE SECOND FORM. 'bulk': how many values and letters a reading holds, each counted each time it is reached (what is shared counts as often as it is met; a slice's spare places count too). A statement '..UptoSaid' is the law's where the arguments, and the package variables that the reading takes, are together of bulk at most 1048576: NARROWER than '..Said'. Prove '..Said' where nothing that the law and all that it calls make is longer than what came in: it says more and counts as full. Else prove '..UptoSaid'. A law counts once. -/
mutual
def uptoBulk {H : Type} : DataW H → Nat
  | .lit (.string bytes) => bytes.length + 1
  | .lit _ => 1
  | .nil => 1
  | .ptr d => uptoBulk d + 1
  | .slice elems spare => uptoBulkAll elems + uptoBulkAll spare + 1
  | .agg parts => uptoBulkAll parts + 1
  | .iface _ d => uptoBulk d + 1
  | .map entries => uptoBulkEntries entries + 1
  | .held _ => 1
def uptoBulkAll {H : Type} : List (DataW H) → Nat
  | [] => 0
  | d :: r => uptoBulk d + uptoBulkAll r
def uptoBulkEntries {H : Type} : List (Lit × DataW H) → Nat
  | [] => 0
  | x :: r => uptoBulkEntry x + uptoBulkEntries r
def uptoBulkEntry {H : Type} : Lit × DataW H → Nat
  | (.string bytes, d) => bytes.length + uptoBulk d + 1
  | (_, d) => uptoBulk d + 1
 end
def uptoSmall : (H : Type) → List (DataW H) → Bool := fun _ ds => decide (uptoBulkAll ds ≤ 1048576)
def OpenSpec.upto (s : _root_.Go.ChangeSpec) : _root_.Go.OpenSpec := { _root_.Go.OpenSpec.ofChange s with cond := some uptoSmall }

/-- 'langdoclaw34.PatternChecks', WHERE WHAT IT READS IS OF BULK AT MOST 1048576: true; the input reads as it did. -/
def patternChecksUptoRow : OpenClaim := { program := "ytghbdkndmmmgmaadoor", sum := "f32bff46bd157edfd2810cea5834d24bc6047f86f18566874875b5076fc5669d", func := "langdoc/langdoclaw34.PatternChecks", spec := "patternChecks", unfollowed := true, recurses := true, named := ["unicode/utf8.first", "unicode/utf8.acceptRanges"], apart := false, laid := [("unicode/utf8.acceptRanges", laid_unicode_utf8_acceptRanges), ("unicode/utf8.first", laid_unicode_utf8_first)], narrowed := true }
def PatternChecksUptoSaid : Prop := patternChecksUptoRow.holds Tryd.pinned (OpenSpec.upto patternChecksSpec)

/-- 'langdoclaw34.PatternMatches', WHERE WHAT IT READS IS OF BULK AT MOST 1048576: true; the input reads as it did. -/
def patternMatchesUptoRow : OpenClaim := { program := "ytghbdkndmmmgmaadoor", sum := "f32bff46bd157edfd2810cea5834d24bc6047f86f18566874875b5076fc5669d", func := "langdoc/langdoclaw34.PatternMatches", spec := "patternMatches", unfollowed := true, recurses := true, named := ["unicode/utf8.first", "unicode/utf8.acceptRanges"], apart := false, laid := [("unicode/utf8.acceptRanges", laid_unicode_utf8_acceptRanges), ("unicode/utf8.first", laid_unicode_utf8_first)], narrowed := true }
def PatternMatchesUptoSaid : Prop := patternMatchesUptoRow.holds Tryd.pinned (OpenSpec.upto patternMatchesSpec)

/-- 'langdoclaw34.PatternPlains', WHERE WHAT IT READS IS OF BULK AT MOST 1048576: true; the input reads as it did. -/
def patternPlainsUptoRow : OpenClaim := { program := "ytghbdkndmmmgmaadoor", sum := "f32bff46bd157edfd2810cea5834d24bc6047f86f18566874875b5076fc5669d", func := "langdoc/langdoclaw34.PatternPlains", spec := "patternPlains", unfollowed := true, recurses := true, named := ["unicode/utf8.first", "unicode/utf8.acceptRanges"], apart := false, laid := [("unicode/utf8.acceptRanges", laid_unicode_utf8_acceptRanges), ("unicode/utf8.first", laid_unicode_utf8_first)], narrowed := true }
def PatternPlainsUptoSaid : Prop := patternPlainsUptoRow.holds Tryd.pinned (OpenSpec.upto patternPlainsSpec)

/-- 'langdoclaw34.PatternQuotes', WHERE WHAT IT READS IS OF BULK AT MOST 1048576: true; the input reads as it did. -/
def patternQuotesUptoRow : OpenClaim := { program := "ytghbdkndmmmgmaadoor", sum := "f32bff46bd157edfd2810cea5834d24bc6047f86f18566874875b5076fc5669d", func := "langdoc/langdoclaw34.PatternQuotes", spec := "patternQuotes", unfollowed := true, recurses := true, named := ["unicode/utf8.first", "unicode/utf8.acceptRanges"], apart := false, laid := [("unicode/utf8.acceptRanges", laid_unicode_utf8_acceptRanges), ("unicode/utf8.first", laid_unicode_utf8_first)], narrowed := true }
def PatternQuotesUptoSaid : Prop := patternQuotesUptoRow.holds Tryd.pinned (OpenSpec.upto patternQuotesSpec)

/-- 'langdoclaw34.PatternAlone', WHERE WHAT IT READS IS OF BULK AT MOST 1048576: true; the input reads as it did. -/
def patternAloneUptoRow : OpenClaim := { program := "ytghbdkndmmmgmaadoor", sum := "f32bff46bd157edfd2810cea5834d24bc6047f86f18566874875b5076fc5669d", func := "langdoc/langdoclaw34.PatternAlone", spec := "patternAlone", unfollowed := true, recurses := true, named := ["unicode/utf8.first", "unicode/utf8.acceptRanges"], apart := false, laid := [("unicode/utf8.acceptRanges", laid_unicode_utf8_acceptRanges), ("unicode/utf8.first", laid_unicode_utf8_first)], narrowed := true }
def PatternAloneUptoSaid : Prop := patternAloneUptoRow.holds Tryd.pinned (OpenSpec.upto patternAloneSpec)

/-- 'langdoclaw34.PatternHeads', WHERE WHAT IT READS IS OF BULK AT MOST 1048576: true; the input reads as it did. -/
def patternHeadsUptoRow : OpenClaim := { program := "ytghbdkndmmmgmaadoor", sum := "f32bff46bd157edfd2810cea5834d24bc6047f86f18566874875b5076fc5669d", func := "langdoc/langdoclaw34.PatternHeads", spec := "patternHeads", unfollowed := true, recurses := true, named := ["unicode/utf8.first", "unicode/utf8.acceptRanges"], apart := false, laid := [("unicode/utf8.acceptRanges", laid_unicode_utf8_acceptRanges), ("unicode/utf8.first", laid_unicode_utf8_first)], narrowed := true }
def PatternHeadsUptoSaid : Prop := patternHeadsUptoRow.holds Tryd.pinned (OpenSpec.upto patternHeadsSpec)

/-- 'langdoclaw34.PatternStars', WHERE WHAT IT READS IS OF BULK AT MOST 1048576: true; the input reads as it did. -/
def patternStarsUptoRow : OpenClaim := { program := "ytghbdkndmmmgmaadoor", sum := "f32bff46bd157edfd2810cea5834d24bc6047f86f18566874875b5076fc5669d", func := "langdoc/langdoclaw34.PatternStars", spec := "patternStars", unfollowed := true, recurses := true, named := ["unicode/utf8.first", "unicode/utf8.acceptRanges"], apart := false, laid := [("unicode/utf8.acceptRanges", laid_unicode_utf8_acceptRanges), ("unicode/utf8.first", laid_unicode_utf8_first)], narrowed := true }
def PatternStarsUptoSaid : Prop := patternStarsUptoRow.holds Tryd.pinned (OpenSpec.upto patternStarsSpec)

/-- 'langdoclaw34.PatternLengths', WHERE WHAT IT READS IS OF BULK AT MOST 1048576: true; the input reads as it did. -/
def patternLengthsUptoRow : OpenClaim := { program := "ytghbdkndmmmgmaadoor", sum := "f32bff46bd157edfd2810cea5834d24bc6047f86f18566874875b5076fc5669d", func := "langdoc/langdoclaw34.PatternLengths", spec := "patternLengths", unfollowed := true, recurses := true, named := ["unicode/utf8.first", "unicode/utf8.acceptRanges"], apart := false, laid := [("unicode/utf8.acceptRanges", laid_unicode_utf8_acceptRanges), ("unicode/utf8.first", laid_unicode_utf8_first)], narrowed := true }
def PatternLengthsUptoSaid : Prop := patternLengthsUptoRow.holds Tryd.pinned (OpenSpec.upto patternLengthsSpec)

end Rows
end Go.Proofs.YtghbdkndmmmgmaaDoor
