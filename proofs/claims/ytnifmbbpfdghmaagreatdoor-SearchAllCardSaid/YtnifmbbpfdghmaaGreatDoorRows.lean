/-
  NARROWER THAN 'FOR EVERY INPUT', by the rows' own cells (each row's printed sentence says how): MatchThen: laid · MatchWithin: laid · MatchEval: loops, laid · MatchFirst: loops, laid · MatchLogic: loops, laid · SearchTexts: laid · SearchBounds: loops, laid · SearchRuns: loops, laid · SearchAll: loops, laid · SearchBounded: loops, laid · SearchFinds: laid · SearchJoins: loops, laid · MatchTies: laid · SearchUpdated: loops, laid.
  DERIVED. THE GIVEN ROWS OF THIS SEAT. 14 by the template 'for every input the law returns true; each argument reads behind the call as it read before'; 0 by the template 'total and deterministic' (their statements: YtnifmbbpfdghmaaGreatDoorTotals.lean).
  GIVEN WITH THE SEED: the statements are not yours to turn. If you find one false, say at which input.
  Laid BY PROGRAM, IN A SANDBOX (cutbox-rows.mjs): the forced cells as the released guide's own fill.sh prints them over the translation ffddedb88cad85a2… (all of the seat's roots in one cut). By AI agents, Wed Nov 11 2026. No macro, syntax, notation, axiom, sorry.
-/
import Derived.Test.YtnifmbbpfdghmaaGreatDoorChecked
import GoSem.PinnedTables
import GoSem.Claim
import GoSem.ClaimJoined
import GoSem.ClaimMapViews
import Derived.JoinedTies
import Derived.KernelRfl
namespace Go.Proofs.YtnifmbbpfdghmaaGreatDoor
/- THE CELL 'sum', in the pinned program and in every row, IS THE sha256 OF THE DUMP (.gsa) THAT YtnifmbbpfdghmaaGreatDoorProg.lean LOADS. Nothing in Lean hashes anything: it is a label: what it is worth is what the hold of that sum in a sandbox is worth. -/
noncomputable def Tryz.pinned : Pinned := { name := "ytnifmbbpfdghmaagreatdoor", sum := "ffddedb88cad85a2142bfa74289709b0c44e83be7be1cd48396631b7b8f849eb", checked := Tryz.checked }
namespace Rows
def none {H : Type} : Left H := { results := [], args := [] }

/- WHAT THE LISTED PACKAGE-LEVEL VARIABLES READ AS WHEN THE CALL BEGINS. Each datum BY PROGRAM (the guide's laid-datum.mjs) off the statement by which the dump's own 'gosem.cut.vars' lays the variable. In a bare row this is a premise. The card (YtnifmbbpfdghmaaGreatDoorCards.lean) ties it to the program's text. -/
def laid_unicode_utf8_acceptRanges {H : Type} : DataW H := .agg [.agg [.lit (.int .u8 128), .lit (.int .u8 191)], .agg [.lit (.int .u8 160), .lit (.int .u8 191)], .agg [.lit (.int .u8 128), .lit (.int .u8 159)], .agg [.lit (.int .u8 144), .lit (.int .u8 191)], .agg [.lit (.int .u8 128), .lit (.int .u8 143)], .agg [.lit (.int .u8 0), .lit (.int .u8 0)], .agg [.lit (.int .u8 0), .lit (.int .u8 0)], .agg [.lit (.int .u8 0), .lit (.int .u8 0)], .agg [.lit (.int .u8 0), .lit (.int .u8 0)], .agg [.lit (.int .u8 0), .lit (.int .u8 0)], .agg [.lit (.int .u8 0), .lit (.int .u8 0)], .agg [.lit (.int .u8 0), .lit (.int .u8 0)], .agg [.lit (.int .u8 0), .lit (.int .u8 0)], .agg [.lit (.int .u8 0), .lit (.int .u8 0)], .agg [.lit (.int .u8 0), .lit (.int .u8 0)], .agg [.lit (.int .u8 0), .lit (.int .u8 0)]]
/-- One of Go's own tables, pinned by name: the form's constant. -/
def laid_unicode_utf8_first : DataW Unit := Go.Pinned.utf8First

/-- 'langdoclaw36.MatchThen': WHATEVER THE INPUT: true; the input reads as it did. -/
def matchThenSpec : ChangeSpec := { name := "matchThen", fn := fun _ => fun
  | [d1, d2, d3] => { results := [.lit (.bool true)], args := [d1, d2, d3] }
  | _ => none }
def matchThenRow : OpenClaim := { program := "ytnifmbbpfdghmaagreatdoor", sum := "ffddedb88cad85a2142bfa74289709b0c44e83be7be1cd48396631b7b8f849eb", func := "langdoc/langdoclaw36.MatchThen", spec := "matchThen", unfollowed := true, recurses := true, named := ["unicode/utf8.first", "unicode/utf8.acceptRanges"], apart := false, laid := [("unicode/utf8.acceptRanges", laid_unicode_utf8_acceptRanges), ("unicode/utf8.first", laid_unicode_utf8_first)] }
def MatchThenSaid : Prop := matchThenRow.holds Tryz.pinned (OpenSpec.ofChange matchThenSpec)

/-- ITS FALSE NEIGHBOUR: 'it returns false'. Refute it at one input. -/
def matchThenWrong : ChangeSpec := { name := "matchThen", fn := fun _ => fun
  | [d1, d2, d3] => { results := [.lit (.bool false)], args := [d1, d2, d3] }
  | _ => none }
def MatchThenWrongFalsely : Prop := matchThenRow.holds Tryz.pinned (OpenSpec.ofChange matchThenWrong)

/-- 'langdoclaw36.MatchWithin': WHATEVER THE INPUT: true; the input reads as it did. -/
def matchWithinSpec : ChangeSpec := { name := "matchWithin", fn := fun _ => fun
  | [d1, d2, d3] => { results := [.lit (.bool true)], args := [d1, d2, d3] }
  | _ => none }
def matchWithinRow : OpenClaim := { program := "ytnifmbbpfdghmaagreatdoor", sum := "ffddedb88cad85a2142bfa74289709b0c44e83be7be1cd48396631b7b8f849eb", func := "langdoc/langdoclaw36.MatchWithin", spec := "matchWithin", unfollowed := true, recurses := true, named := ["unicode/utf8.first", "unicode/utf8.acceptRanges"], apart := false, laid := [("unicode/utf8.acceptRanges", laid_unicode_utf8_acceptRanges), ("unicode/utf8.first", laid_unicode_utf8_first)] }
def MatchWithinSaid : Prop := matchWithinRow.holds Tryz.pinned (OpenSpec.ofChange matchWithinSpec)

/-- ITS FALSE NEIGHBOUR: 'it returns false'. Refute it at one input. -/
def matchWithinWrong : ChangeSpec := { name := "matchWithin", fn := fun _ => fun
  | [d1, d2, d3] => { results := [.lit (.bool false)], args := [d1, d2, d3] }
  | _ => none }
def MatchWithinWrongFalsely : Prop := matchWithinRow.holds Tryz.pinned (OpenSpec.ofChange matchWithinWrong)

/-- 'langdoclaw36.MatchEval': WHATEVER THE INPUT: true; the input reads as it did. -/
def matchEvalSpec : ChangeSpec := { name := "matchEval", fn := fun _ => fun
  | [d1, d2, d3] => { results := [.lit (.bool true)], args := [d1, d2, d3] }
  | _ => none }
def matchEvalRow : OpenClaim := { program := "ytnifmbbpfdghmaagreatdoor", sum := "ffddedb88cad85a2142bfa74289709b0c44e83be7be1cd48396631b7b8f849eb", func := "langdoc/langdoclaw36.MatchEval", spec := "matchEval", unfollowed := true, recurses := true, named := ["unicode/utf8.first", "unicode/utf8.acceptRanges"], loops := true, apart := false, laid := [("unicode/utf8.acceptRanges", laid_unicode_utf8_acceptRanges), ("unicode/utf8.first", laid_unicode_utf8_first)] }
def MatchEvalSaid : Prop := matchEvalRow.holds Tryz.pinned (OpenSpec.ofChange matchEvalSpec)

/-- ITS FALSE NEIGHBOUR: 'it returns false'. Refute it at one input. -/
def matchEvalWrong : ChangeSpec := { name := "matchEval", fn := fun _ => fun
  | [d1, d2, d3] => { results := [.lit (.bool false)], args := [d1, d2, d3] }
  | _ => none }
def MatchEvalWrongFalsely : Prop := matchEvalRow.holds Tryz.pinned (OpenSpec.ofChange matchEvalWrong)

/-- 'langdoclaw36.MatchFirst': WHATEVER THE INPUT: true; the input reads as it did. -/
def matchFirstSpec : ChangeSpec := { name := "matchFirst", fn := fun _ => fun
  | [d1, d2, d3, d4] => { results := [.lit (.bool true)], args := [d1, d2, d3, d4] }
  | _ => none }
def matchFirstRow : OpenClaim := { program := "ytnifmbbpfdghmaagreatdoor", sum := "ffddedb88cad85a2142bfa74289709b0c44e83be7be1cd48396631b7b8f849eb", func := "langdoc/langdoclaw36.MatchFirst", spec := "matchFirst", unfollowed := true, recurses := true, named := ["unicode/utf8.first", "unicode/utf8.acceptRanges"], loops := true, apart := false, laid := [("unicode/utf8.acceptRanges", laid_unicode_utf8_acceptRanges), ("unicode/utf8.first", laid_unicode_utf8_first)] }
def MatchFirstSaid : Prop := matchFirstRow.holds Tryz.pinned (OpenSpec.ofChange matchFirstSpec)

/-- ITS FALSE NEIGHBOUR: 'it returns false'. Refute it at one input. -/
def matchFirstWrong : ChangeSpec := { name := "matchFirst", fn := fun _ => fun
  | [d1, d2, d3, d4] => { results := [.lit (.bool false)], args := [d1, d2, d3, d4] }
  | _ => none }
def MatchFirstWrongFalsely : Prop := matchFirstRow.holds Tryz.pinned (OpenSpec.ofChange matchFirstWrong)

/-- 'langdoclaw36.MatchLogic': WHATEVER THE INPUT: true; the input reads as it did. -/
def matchLogicSpec : ChangeSpec := { name := "matchLogic", fn := fun _ => fun
  | [d1, d2, d3, d4] => { results := [.lit (.bool true)], args := [d1, d2, d3, d4] }
  | _ => none }
def matchLogicRow : OpenClaim := { program := "ytnifmbbpfdghmaagreatdoor", sum := "ffddedb88cad85a2142bfa74289709b0c44e83be7be1cd48396631b7b8f849eb", func := "langdoc/langdoclaw36.MatchLogic", spec := "matchLogic", unfollowed := true, recurses := true, named := ["unicode/utf8.first", "unicode/utf8.acceptRanges"], loops := true, apart := false, laid := [("unicode/utf8.acceptRanges", laid_unicode_utf8_acceptRanges), ("unicode/utf8.first", laid_unicode_utf8_first)] }
def MatchLogicSaid : Prop := matchLogicRow.holds Tryz.pinned (OpenSpec.ofChange matchLogicSpec)

/-- ITS FALSE NEIGHBOUR: 'it returns false'. Refute it at one input. -/
def matchLogicWrong : ChangeSpec := { name := "matchLogic", fn := fun _ => fun
  | [d1, d2, d3, d4] => { results := [.lit (.bool false)], args := [d1, d2, d3, d4] }
  | _ => none }
def MatchLogicWrongFalsely : Prop := matchLogicRow.holds Tryz.pinned (OpenSpec.ofChange matchLogicWrong)

/-- 'langdoclaw38.SearchTexts': WHATEVER THE INPUT: true; the input reads as it did. -/
def searchTextsSpec : ChangeSpec := { name := "searchTexts", fn := fun _ => fun
  | [d1, d2, d3] => { results := [.lit (.bool true)], args := [d1, d2, d3] }
  | _ => none }
def searchTextsRow : OpenClaim := { program := "ytnifmbbpfdghmaagreatdoor", sum := "ffddedb88cad85a2142bfa74289709b0c44e83be7be1cd48396631b7b8f849eb", func := "langdoc/langdoclaw38.SearchTexts", spec := "searchTexts", unfollowed := true, recurses := true, named := ["unicode/utf8.first", "unicode/utf8.acceptRanges"], apart := false, laid := [("unicode/utf8.acceptRanges", laid_unicode_utf8_acceptRanges), ("unicode/utf8.first", laid_unicode_utf8_first)] }
def SearchTextsSaid : Prop := searchTextsRow.holds Tryz.pinned (OpenSpec.ofChange searchTextsSpec)

/-- ITS FALSE NEIGHBOUR: 'it returns false'. Refute it at one input. -/
def searchTextsWrong : ChangeSpec := { name := "searchTexts", fn := fun _ => fun
  | [d1, d2, d3] => { results := [.lit (.bool false)], args := [d1, d2, d3] }
  | _ => none }
def SearchTextsWrongFalsely : Prop := searchTextsRow.holds Tryz.pinned (OpenSpec.ofChange searchTextsWrong)

/-- 'langdoclaw38.SearchBounds': WHATEVER THE INPUT: true; the input reads as it did. -/
def searchBoundsSpec : ChangeSpec := { name := "searchBounds", fn := fun _ => fun
  | [d1, d2] => { results := [.lit (.bool true)], args := [d1, d2] }
  | _ => none }
def searchBoundsRow : OpenClaim := { program := "ytnifmbbpfdghmaagreatdoor", sum := "ffddedb88cad85a2142bfa74289709b0c44e83be7be1cd48396631b7b8f849eb", func := "langdoc/langdoclaw38.SearchBounds", spec := "searchBounds", unfollowed := true, recurses := true, named := ["unicode/utf8.first", "unicode/utf8.acceptRanges"], loops := true, apart := false, laid := [("unicode/utf8.acceptRanges", laid_unicode_utf8_acceptRanges), ("unicode/utf8.first", laid_unicode_utf8_first)] }
def SearchBoundsSaid : Prop := searchBoundsRow.holds Tryz.pinned (OpenSpec.ofChange searchBoundsSpec)

/-- ITS FALSE NEIGHBOUR: 'it returns false'. Refute it at one input. -/
def searchBoundsWrong : ChangeSpec := { name := "searchBounds", fn := fun _ => fun
  | [d1, d2] => { results := [.lit (.bool false)], args := [d1, d2] }
  | _ => none }
def SearchBoundsWrongFalsely : Prop := searchBoundsRow.holds Tryz.pinned (OpenSpec.ofChange searchBoundsWrong)

/-- 'langdoclaw38.SearchRuns': WHATEVER THE INPUT: true; the input reads as it did. -/
def searchRunsSpec : ChangeSpec := { name := "searchRuns", fn := fun _ => fun
  | [d1, d2] => { results := [.lit (.bool true)], args := [d1, d2] }
  | _ => none }
def searchRunsRow : OpenClaim := { program := "ytnifmbbpfdghmaagreatdoor", sum := "ffddedb88cad85a2142bfa74289709b0c44e83be7be1cd48396631b7b8f849eb", func := "langdoc/langdoclaw38.SearchRuns", spec := "searchRuns", unfollowed := true, recurses := true, named := ["unicode/utf8.first", "unicode/utf8.acceptRanges"], loops := true, apart := false, laid := [("unicode/utf8.acceptRanges", laid_unicode_utf8_acceptRanges), ("unicode/utf8.first", laid_unicode_utf8_first)] }
def SearchRunsSaid : Prop := searchRunsRow.holds Tryz.pinned (OpenSpec.ofChange searchRunsSpec)

/-- ITS FALSE NEIGHBOUR: 'it returns false'. Refute it at one input. -/
def searchRunsWrong : ChangeSpec := { name := "searchRuns", fn := fun _ => fun
  | [d1, d2] => { results := [.lit (.bool false)], args := [d1, d2] }
  | _ => none }
def SearchRunsWrongFalsely : Prop := searchRunsRow.holds Tryz.pinned (OpenSpec.ofChange searchRunsWrong)

/-- 'langdoclaw38.SearchAll': WHATEVER THE INPUT: true; the input reads as it did. -/
def searchAllSpec : ChangeSpec := { name := "searchAll", fn := fun _ => fun
  | [d1, d2, d3] => { results := [.lit (.bool true)], args := [d1, d2, d3] }
  | _ => none }
def searchAllRow : OpenClaim := { program := "ytnifmbbpfdghmaagreatdoor", sum := "ffddedb88cad85a2142bfa74289709b0c44e83be7be1cd48396631b7b8f849eb", func := "langdoc/langdoclaw38.SearchAll", spec := "searchAll", unfollowed := true, recurses := true, named := ["unicode/utf8.first", "unicode/utf8.acceptRanges"], loops := true, apart := false, laid := [("unicode/utf8.acceptRanges", laid_unicode_utf8_acceptRanges), ("unicode/utf8.first", laid_unicode_utf8_first)] }
def SearchAllSaid : Prop := searchAllRow.holds Tryz.pinned (OpenSpec.ofChange searchAllSpec)

/-- ITS FALSE NEIGHBOUR: 'it returns false'. Refute it at one input. -/
def searchAllWrong : ChangeSpec := { name := "searchAll", fn := fun _ => fun
  | [d1, d2, d3] => { results := [.lit (.bool false)], args := [d1, d2, d3] }
  | _ => none }
def SearchAllWrongFalsely : Prop := searchAllRow.holds Tryz.pinned (OpenSpec.ofChange searchAllWrong)

/-- 'langdoclaw38.SearchBounded': WHATEVER THE INPUT: true; the input reads as it did. -/
def searchBoundedSpec : ChangeSpec := { name := "searchBounded", fn := fun _ => fun
  | [d1, d2] => { results := [.lit (.bool true)], args := [d1, d2] }
  | _ => none }
def searchBoundedRow : OpenClaim := { program := "ytnifmbbpfdghmaagreatdoor", sum := "ffddedb88cad85a2142bfa74289709b0c44e83be7be1cd48396631b7b8f849eb", func := "langdoc/langdoclaw38.SearchBounded", spec := "searchBounded", unfollowed := true, recurses := true, named := ["unicode/utf8.first", "unicode/utf8.acceptRanges"], loops := true, apart := false, laid := [("unicode/utf8.acceptRanges", laid_unicode_utf8_acceptRanges), ("unicode/utf8.first", laid_unicode_utf8_first)] }
def SearchBoundedSaid : Prop := searchBoundedRow.holds Tryz.pinned (OpenSpec.ofChange searchBoundedSpec)

/-- ITS FALSE NEIGHBOUR: 'it returns false'. Refute it at one input. -/
def searchBoundedWrong : ChangeSpec := { name := "searchBounded", fn := fun _ => fun
  | [d1, d2] => { results := [.lit (.bool false)], args := [d1, d2] }
  | _ => none }
def SearchBoundedWrongFalsely : Prop := searchBoundedRow.holds Tryz.pinned (OpenSpec.ofChange searchBoundedWrong)

/-- 'langdoclaw38.SearchFinds': WHATEVER THE INPUT: true; the input reads as it did. -/
def searchFindsSpec : ChangeSpec := { name := "searchFinds", fn := fun _ => fun
  | [d1, d2, d3] => { results := [.lit (.bool true)], args := [d1, d2, d3] }
  | _ => none }
def searchFindsRow : OpenClaim := { program := "ytnifmbbpfdghmaagreatdoor", sum := "ffddedb88cad85a2142bfa74289709b0c44e83be7be1cd48396631b7b8f849eb", func := "langdoc/langdoclaw38.SearchFinds", spec := "searchFinds", unfollowed := true, recurses := true, named := ["unicode/utf8.first", "unicode/utf8.acceptRanges"], apart := false, laid := [("unicode/utf8.acceptRanges", laid_unicode_utf8_acceptRanges), ("unicode/utf8.first", laid_unicode_utf8_first)] }
def SearchFindsSaid : Prop := searchFindsRow.holds Tryz.pinned (OpenSpec.ofChange searchFindsSpec)

/-- ITS FALSE NEIGHBOUR: 'it returns false'. Refute it at one input. -/
def searchFindsWrong : ChangeSpec := { name := "searchFinds", fn := fun _ => fun
  | [d1, d2, d3] => { results := [.lit (.bool false)], args := [d1, d2, d3] }
  | _ => none }
def SearchFindsWrongFalsely : Prop := searchFindsRow.holds Tryz.pinned (OpenSpec.ofChange searchFindsWrong)

/-- 'langdoclaw38.SearchJoins': WHATEVER THE INPUT: true; the input reads as it did. -/
def searchJoinsSpec : ChangeSpec := { name := "searchJoins", fn := fun _ => fun
  | [d1, d2, d3] => { results := [.lit (.bool true)], args := [d1, d2, d3] }
  | _ => none }
def searchJoinsRow : OpenClaim := { program := "ytnifmbbpfdghmaagreatdoor", sum := "ffddedb88cad85a2142bfa74289709b0c44e83be7be1cd48396631b7b8f849eb", func := "langdoc/langdoclaw38.SearchJoins", spec := "searchJoins", unfollowed := true, recurses := true, named := ["unicode/utf8.first", "unicode/utf8.acceptRanges"], loops := true, apart := false, laid := [("unicode/utf8.acceptRanges", laid_unicode_utf8_acceptRanges), ("unicode/utf8.first", laid_unicode_utf8_first)] }
def SearchJoinsSaid : Prop := searchJoinsRow.holds Tryz.pinned (OpenSpec.ofChange searchJoinsSpec)

/-- ITS FALSE NEIGHBOUR: 'it returns false'. Refute it at one input. -/
def searchJoinsWrong : ChangeSpec := { name := "searchJoins", fn := fun _ => fun
  | [d1, d2, d3] => { results := [.lit (.bool false)], args := [d1, d2, d3] }
  | _ => none }
def SearchJoinsWrongFalsely : Prop := searchJoinsRow.holds Tryz.pinned (OpenSpec.ofChange searchJoinsWrong)

/-- 'langdoclaw36.MatchTies': WHATEVER THE INPUT: true; the input reads as it did. -/
def matchTiesSpec : ChangeSpec := { name := "matchTies", fn := fun _ => fun
  | [d1, d2, d3] => { results := [.lit (.bool true)], args := [d1, d2, d3] }
  | _ => none }
def matchTiesRow : OpenClaim := { program := "ytnifmbbpfdghmaagreatdoor", sum := "ffddedb88cad85a2142bfa74289709b0c44e83be7be1cd48396631b7b8f849eb", func := "langdoc/langdoclaw36.MatchTies", spec := "matchTies", unfollowed := true, recurses := true, named := ["unicode/utf8.first", "unicode/utf8.acceptRanges"], apart := false, laid := [("unicode/utf8.acceptRanges", laid_unicode_utf8_acceptRanges), ("unicode/utf8.first", laid_unicode_utf8_first)] }
def MatchTiesSaid : Prop := matchTiesRow.holds Tryz.pinned (OpenSpec.ofChange matchTiesSpec)

/-- ITS FALSE NEIGHBOUR: 'it returns false'. Refute it at one input. -/
def matchTiesWrong : ChangeSpec := { name := "matchTies", fn := fun _ => fun
  | [d1, d2, d3] => { results := [.lit (.bool false)], args := [d1, d2, d3] }
  | _ => none }
def MatchTiesWrongFalsely : Prop := matchTiesRow.holds Tryz.pinned (OpenSpec.ofChange matchTiesWrong)

/-- 'langdoclaw38.SearchUpdated': WHATEVER THE INPUT: true; the input reads as it did. -/
def searchUpdatedSpec : ChangeSpec := { name := "searchUpdated", fn := fun _ => fun
  | [d1, d2, d3] => { results := [.lit (.bool true)], args := [d1, d2, d3] }
  | _ => none }
def searchUpdatedRow : OpenClaim := { program := "ytnifmbbpfdghmaagreatdoor", sum := "ffddedb88cad85a2142bfa74289709b0c44e83be7be1cd48396631b7b8f849eb", func := "langdoc/langdoclaw38.SearchUpdated", spec := "searchUpdated", unfollowed := true, recurses := true, named := ["unicode/utf8.first", "unicode/utf8.acceptRanges"], loops := true, apart := false, laid := [("unicode/utf8.acceptRanges", laid_unicode_utf8_acceptRanges), ("unicode/utf8.first", laid_unicode_utf8_first)] }
def SearchUpdatedSaid : Prop := searchUpdatedRow.holds Tryz.pinned (OpenSpec.ofChange searchUpdatedSpec)

/-- ITS FALSE NEIGHBOUR: 'it returns false'. Refute it at one input. -/
def searchUpdatedWrong : ChangeSpec := { name := "searchUpdated", fn := fun _ => fun
  | [d1, d2, d3] => { results := [.lit (.bool false)], args := [d1, d2, d3] }
  | _ => none }
def SearchUpdatedWrongFalsely : Prop := searchUpdatedRow.holds Tryz.pinned (OpenSpec.ofChange searchUpdatedWrong)

/- THE SECOND FORM. 'bulk': how many values and letters a reading holds, each counted each time it is reached (what is shared counts as often as it is met; a slice's spare places count too). A statement '..UptoSaid' is the law's where the arguments, and the package variables that the reading takes, are together of bulk at most 1048576: NARROWER than '..Said'. Prove '..Said' where nothing that the law and all that it calls make is longer than what came in: it says more and counts as full. Else prove '..UptoSaid'. A law counts once. -/
mutual
def uptoBulk {H : Type} : DataW H → Nat
  | .lit (.string bytes) => bytes.length + 1
  | .lit _ => 1
  | .nil => 1
  | .ptr d => uptoBulk d + 1
  | .slice elems spare => uptoBulkAll elems + uptoBulkAll spare + 1
  | .agg parts => uptoBulkAll parts + 1
  | .iface _ d => uptoBulk d + 1
  | .map entries => uptoBulkEntries entries + 1
  | .held _ => 1
def uptoBulkAll {H : Type} : List (DataW H) → Nat
  | [] => 0
  | d :: r => uptoBulk d + uptoBulkAll r
def uptoBulkEntries {H : Type} : List (Lit × DataW H) → Nat
  | [] => 0
  | x :: r => uptoBulkEntry x + uptoBulkEntries r
def uptoBulkEntry {H : Type} : Lit × DataW H → Nat
  | (.string bytes, d) => bytes.length + uptoBulk d + 1
  | (_, d) => uptoBulk d + 1
 end
def uptoSmall : (H : Type) → List (DataW H) → Bool := fun _ ds => decide (uptoBulkAll ds ≤ 1048576)
def OpenSpec.upto (s : _root_.Go.ChangeSpec) : _root_.Go.OpenSpec := { _root_.Go.OpenSpec.ofChange s with cond := some uptoSmall }

/-- 'langdoclaw36.MatchThen', WHERE WHAT IT READS IS OF BULK AT MOST 1048576: true; the input reads as it did. -/
def matchThenUptoRow : OpenClaim := { program := "ytnifmbbpfdghmaagreatdoor", sum := "ffddedb88cad85a2142bfa74289709b0c44e83be7be1cd48396631b7b8f849eb", func := "langdoc/langdoclaw36.MatchThen", spec := "matchThen", unfollowed := true, recurses := true, named := ["unicode/utf8.first", "unicode/utf8.acceptRanges"], apart := false, laid := [("unicode/utf8.acceptRanges", laid_unicode_utf8_acceptRanges), ("unicode/utf8.first", laid_unicode_utf8_first)], narrowed := true }
def MatchThenUptoSaid : Prop := matchThenUptoRow.holds Tryz.pinned (OpenSpec.upto matchThenSpec)

/-- 'langdoclaw36.MatchWithin', WHERE WHAT IT READS IS OF BULK AT MOST 1048576: true; the input reads as it did. -/
def matchWithinUptoRow : OpenClaim := { program := "ytnifmbbpfdghmaagreatdoor", sum := "ffddedb88cad85a2142bfa74289709b0c44e83be7be1cd48396631b7b8f849eb", func := "langdoc/langdoclaw36.MatchWithin", spec := "matchWithin", unfollowed := true, recurses := true, named := ["unicode/utf8.first", "unicode/utf8.acceptRanges"], apart := false, laid := [("unicode/utf8.acceptRanges", laid_unicode_utf8_acceptRanges), ("unicode/utf8.first", laid_unicode_utf8_first)], narrowed := true }
def MatchWithinUptoSaid : Prop := matchWithinUptoRow.holds Tryz.pinned (OpenSpec.upto matchWithinSpec)

/-- 'langdoclaw36.MatchEval', WHERE WHAT IT READS IS OF BULK AT MOST 1048576: true; the input reads as it did. -/
def matchEvalUptoRow : OpenClaim := { program := "ytnifmbbpfdghmaagreatdoor", sum := "ffddedb88cad85a2142bfa74289709b0c44e83be7be1cd48396631b7b8f849eb", func := "langdoc/langdoclaw36.MatchEval", spec := "matchEval", unfollowed := true, recurses := true, named := ["unicode/utf8.first", "unicode/utf8.acceptRanges"], loops := true, apart := false, laid := [("unicode/utf8.acceptRanges", laid_unicode_utf8_acceptRanges), ("unicode/utf8.first", laid_unicode_utf8_first)], narrowed := true }
def MatchEvalUptoSaid : Prop := matchEvalUptoRow.holds Tryz.pinned (OpenSpec.upto matchEvalSpec)

/-- 'langdoclaw36.MatchFirst', WHERE WHAT IT READS IS OF BULK AT MOST 1048576: true; the input reads as it did. -/
def matchFirstUptoRow : OpenClaim := { program := "ytnifmbbpfdghmaagreatdoor", sum := "ffddedb88cad85a2142bfa74289709b0c44e83be7be1cd48396631b7b8f849eb", func := "langdoc/langdoclaw36.MatchFirst", spec := "matchFirst", unfollowed := true, recurses := true, named := ["unicode/utf8.first", "unicode/utf8.acceptRanges"], loops := true, apart := false, laid := [("unicode/utf8.acceptRanges", laid_unicode_utf8_acceptRanges), ("unicode/utf8.first", laid_unicode_utf8_first)], narrowed := true }
def MatchFirstUptoSaid : Prop := matchFirstUptoRow.holds Tryz.pinned (OpenSpec.upto matchFirstSpec)

/-- 'langdoclaw36.MatchLogic', WHERE WHAT IT READS IS OF BULK AT MOST 1048576: true; the input reads as it did. -/
def matchLogicUptoRow : OpenClaim := { program := "ytnifmbbpfdghmaagreatdoor", sum := "ffddedb88cad85a2142bfa74289709b0c44e83be7be1cd48396631b7b8f849eb", func := "langdoc/langdoclaw36.MatchLogic", spec := "matchLogic", unfollowed := true, recurses := true, named := ["unicode/utf8.first", "unicode/utf8.acceptRanges"], loops := true, apart := false, laid := [("unicode/utf8.acceptRanges", laid_unicode_utf8_acceptRanges), ("unicode/utf8.first", laid_unicode_utf8_first)], narrowed := true }
def MatchLogicUptoSaid : Prop := matchLogicUptoRow.holds Tryz.pinned (OpenSpec.upto matchLogicSpec)

/-- 'langdoclaw38.SearchTexts', WHERE WHAT IT READS IS OF BULK AT MOST 1048576: true; the input reads as it did. -/
def searchTextsUptoRow : OpenClaim := { program := "ytnifmbbpfdghmaagreatdoor", sum := "ffddedb88cad85a2142bfa74289709b0c44e83be7be1cd48396631b7b8f849eb", func := "langdoc/langdoclaw38.SearchTexts", spec := "searchTexts", unfollowed := true, recurses := true, named := ["unicode/utf8.first", "unicode/utf8.acceptRanges"], apart := false, laid := [("unicode/utf8.acceptRanges", laid_unicode_utf8_acceptRanges), ("unicode/utf8.first", laid_unicode_utf8_first)], narrowed := true }
def SearchTextsUptoSaid : Prop := searchTextsUptoRow.holds Tryz.pinned (OpenSpec.upto searchTextsSpec)

/-- 'langdoclaw38.SearchBounds', WHERE WHAT IT READS IS OF BULK AT MOST 1048576: true; the input reads as it did. -/
def searchBoundsUptoRow : OpenClaim := { program := "ytnifmbbpfdghmaagreatdoor", sum := "ffddedb88cad85a2142bfa74289709b0c44e83be7be1cd48396631b7b8f849eb", func := "langdoc/langdoclaw38.SearchBounds", spec := "searchBounds", unfollowed := true, recurses := true, named := ["unicode/utf8.first", "unicode/utf8.acceptRanges"], loops := true, apart := false, laid := [("unicode/utf8.acceptRanges", laid_unicode_utf8_acceptRanges), ("unicode/utf8.first", laid_unicode_utf8_first)], narrowed := true }
def SearchBoundsUptoSaid : Prop := searchBoundsUptoRow.holds Tryz.pinned (OpenSpec.upto searchBoundsSpec)

/-- 'langdoclaw38.SearchRuns', WHERE WHAT IT READS IS OF BULK AT MOST 1048576: true; the input reads as it did. -/
def searchRunsUptoRow : OpenClaim := { program := "ytnifmbbpfdghmaagreatdoor", sum := "ffddedb88cad85a2142bfa74289709b0c44e83be7be1cd48396631b7b8f849eb", func := "langdoc/langdoclaw38.SearchRuns", spec := "searchRuns", unfollowed := true, recurses := true, named := ["unicode/utf8.first", "unicode/utf8.acceptRanges"], loops := true, apart := false, laid := [("unicode/utf8.acceptRanges", laid_unicode_utf8_acceptRanges), ("unicode/utf8.first", laid_unicode_utf8_first)], narrowed := true }
def SearchRunsUptoSaid : Prop := searchRunsUptoRow.holds Tryz.pinned (OpenSpec.upto searchRunsSpec)

/-- 'langdoclaw38.SearchAll', WHERE WHAT IT READS IS OF BULK AT MOST 1048576: true; the input reads as it did. -/
def searchAllUptoRow : OpenClaim := { program := "ytnifmbbpfdghmaagreatdoor", sum := "ffddedb88cad85a2142bfa74289709b0c44e83be7be1cd48396631b7b8f849eb", func := "langdoc/langdoclaw38.SearchAll", spec := "searchAll", unfollowed := true, recurses := true, named := ["unicode/utf8.first", "unicode/utf8.acceptRanges"], loops := true, apart := false, laid := [("unicode/utf8.acceptRanges", laid_unicode_utf8_acceptRanges), ("unicode/utf8.first", laid_unicode_utf8_first)], narrowed := true }
def SearchAllUptoSaid : Prop := searchAllUptoRow.holds Tryz.pinned (OpenSpec.upto searchAllSpec)

/-- 'langdoclaw38.SearchBounded', WHERE WHAT IT READS IS OF BULK AT MOST 1048576: true; the input reads as it did. -/
def searchBoundedUptoRow : OpenClaim := { program := "ytnifmbbpfdghmaagreatdoor", sum := "ffddedb88cad85a2142bfa74289709b0c44e83be7be1cd48396631b7b8f849eb", func := "langdoc/langdoclaw38.SearchBounded", spec := "searchBounded", unfollowed := true, recurses := true, named := ["unicode/utf8.first", "unicode/utf8.acceptRanges"], loops := true, apart := false, laid := [("unicode/utf8.acceptRanges", laid_unicode_utf8_acceptRanges), ("unicode/utf8.first", laid_unicode_utf8_first)], narrowed := true }
def SearchBoundedUptoSaid : Prop := searchBoundedUptoRow.holds Tryz.pinned (OpenSpec.upto searchBoundedSpec)

/-- 'langdoclaw38.SearchFinds', WHERE WHAT IT READS IS OF BULK AT MOST 1048576: true; the input reads as it did. -/
def searchFindsUptoRow : OpenClaim := { program := "ytnifmbbpfdghmaagreatdoor", sum := "ffddedb88cad85a2142bfa74289709b0c44e83be7be1cd48396631b7b8f849eb", func := "langdoc/langdoclaw38.SearchFinds", spec := "searchFinds", unfollowed := true, recurses := true, named := ["unicode/utf8.first", "unicode/utf8.acceptRanges"], apart := false, laid := [("unicode/utf8.acceptRanges", laid_unicode_utf8_acceptRanges), ("unicode/utf8.first", laid_unicode_utf8_first)], narrowed := true }
def SearchFindsUptoSaid : Prop := searchFindsUptoRow.holds Tryz.pinned (OpenSpec.upto searchFindsSpec)

/-- 'langdoclaw38.SearchJoins', WHERE WHAT IT READS IS OF BULK AT MOST 1048576: true; the input reads as it did. -/
def searchJoinsUptoRow : OpenClaim := { program := "ytnifmbbpfdghmaagreatdoor", sum := "ffddedb88cad85a2142bfa74289709b0c44e83be7be1cd48396631b7b8f849eb", func := "langdoc/langdoclaw38.SearchJoins", spec := "searchJoins", unfollowed := true, recurses := true, named := ["unicode/utf8.first", "unicode/utf8.acceptRanges"], loops := true, apart := false, laid := [("unicode/utf8.acceptRanges", laid_unicode_utf8_acceptRanges), ("unicode/utf8.first", laid_unicode_utf8_first)], narrowed := true }
def SearchJoinsUptoSaid : Prop := searchJoinsUptoRow.holds Tryz.pinned (OpenSpec.upto searchJoinsSpec)

/-- 'langdoclaw36.MatchTies', WHERE WHAT IT READS IS OF BULK AT MOST 1048576: true; the input reads as it did. -/
def matchTiesUptoRow : OpenClaim := { program := "ytnifmbbpfdghmaagreatdoor", sum := "ffddedb88cad85a2142bfa74289709b0c44e83be7be1cd48396631b7b8f849eb", func := "langdoc/langdoclaw36.MatchTies", spec := "matchTies", unfollowed := true, recurses := true, named := ["unicode/utf8.first", "unicode/utf8.acceptRanges"], apart := false, laid := [("unicode/utf8.acceptRanges", laid_unicode_utf8_acceptRanges), ("unicode/utf8.first", laid_unicode_utf8_first)], narrowed := true }
def MatchTiesUptoSaid : Prop := matchTiesUptoRow.holds Tryz.pinned (OpenSpec.upto matchTiesSpec)

/-- 'langdoclaw38.SearchUpdated', WHERE WHAT IT READS IS OF BULK AT MOST 1048576: true; the input reads as it did. -/
def searchUpdatedUptoRow : OpenClaim := { program := "ytnifmbbpfdghmaagreatdoor", sum := "ffddedb88cad85a2142bfa74289709b0c44e83be7be1cd48396631b7b8f849eb", func := "langdoc/langdoclaw38.SearchUpdated", spec := "searchUpdated", unfollowed := true, recurses := true, named := ["unicode/utf8.first", "unicode/utf8.acceptRanges"], loops := true, apart := false, laid := [("unicode/utf8.acceptRanges", laid_unicode_utf8_acceptRanges), ("unicode/utf8.first", laid_unicode_utf8_first)], narrowed := true }
def SearchUpdatedUptoSaid : Prop := searchUpdatedUptoRow.holds Tryz.pinned (OpenSpec.upto searchUpdatedSpec)

end Rows
end Go.Proofs.YtnifmbbpfdghmaaGreatDoor
