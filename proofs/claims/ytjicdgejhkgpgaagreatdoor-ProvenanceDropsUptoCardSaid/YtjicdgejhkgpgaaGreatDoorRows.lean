/-
  NARROWER THAN 'FOR EVERY INPUT', by the rows' own cells (each row's printed sentence says how): ProvenanceAttests: laid · ProvenanceEntries: laid · ProvenancePoints: laid · ProvenanceDangling: laid · ProvenanceTimes: laid · ProvenanceLeads: laid · ProvenanceFirst: laid · ProvenanceWhere: laid · ProvenanceDrops: laid.
  DERIVED. THE GIVEN ROWS OF THIS SEAT. 9 by the template 'for every input the law returns true; each argument reads behind the call as it read before'; 0 by the template 'total and deterministic' (their statements: YtjicdgejhkgpgaaGreatDoorTotals.lean).
  GIVEN WITH THE SEED: the statements are not yours to turn. If you find one false, say at which input.
  Laid BY PROGRAM, IN A SANDBOX (cutbox-rows.mjs): the forced cells as the released guide's own fill.sh prints them over the translation 41c0359a397af5b9… (all of the seat's roots in one cut). By AI agents, Wed Nov 11 2026. No macro, syntax, notation, axiom, sorry.
-/
import Derived.Test.YtjicdgejhkgpgaaGreatDoorChecked
import GoSem.PinnedTables
import GoSem.Claim
import GoSem.ClaimJoined
import GoSem.ClaimMapViews
import Derived.JoinedTies
import Derived.KernelRfl
namespace Go.Proofs.YtjicdgejhkgpgaaGreatDoor
/- THE CELL 'sum', in the pinned program and in every row, IS THE sha256 OF THE DUMP (.gsa) THAT YtjicdgejhkgpgaaGreatDoorProg.lean LOADS. Nothing in Lean hashes anything: it is a label: what it is worth is what the hold of that sum in a sandbox is worth. -/
noncomputable def Tryz.pinned : Pinned := { name := "ytjicdgejhkgpgaagreatdoor", sum := "41c0359a397af5b907a9fd427446f75e7d07e2e1b4b5e317d66c3d07a8771206", checked := Tryz.checked }
namespace Rows
def none {H : Type} : Left H := { results := [], args := [] }

/- WHAT THE LISTED PACKAGE-LEVEL VARIABLES READ AS WHEN THE CALL BEGINS. Each datum BY PROGRAM (the guide's laid-datum.mjs) off the statement by which the dump's own 'gosem.cut.vars' lays the variable. In a bare row this is a premise. The card (YtjicdgejhkgpgaaGreatDoorCards.lean) ties it to the program's text. -/
def laid_unicode_utf8_acceptRanges {H : Type} : DataW H := .agg [.agg [.lit (.int .u8 128), .lit (.int .u8 191)], .agg [.lit (.int .u8 160), .lit (.int .u8 191)], .agg [.lit (.int .u8 128), .lit (.int .u8 159)], .agg [.lit (.int .u8 144), .lit (.int .u8 191)], .agg [.lit (.int .u8 128), .lit (.int .u8 143)], .agg [.lit (.int .u8 0), .lit (.int .u8 0)], .agg [.lit (.int .u8 0), .lit (.int .u8 0)], .agg [.lit (.int .u8 0), .lit (.int .u8 0)], .agg [.lit (.int .u8 0), .lit (.int .u8 0)], .agg [.lit (.int .u8 0), .lit (.int .u8 0)], .agg [.lit (.int .u8 0), .lit (.int .u8 0)], .agg [.lit (.int .u8 0), .lit (.int .u8 0)], .agg [.lit (.int .u8 0), .lit (.int .u8 0)], .agg [.lit (.int .u8 0), .lit (.int .u8 0)], .agg [.lit (.int .u8 0), .lit (.int .u8 0)], .agg [.lit (.int .u8 0), .lit (.int .u8 0)]]
/-- One of Go's own tables, pinned by name: the form's constant. -/
def laid_unicode_utf8_first : DataW Unit := Go.Pinned.utf8First

/-- 'langdoclaw47.ProvenanceAttests': WHATEVER THE INPUT: true; the input reads as it did. -/
def provenanceAttestsSpec : ChangeSpec := { name := "provenanceAttests", fn := fun _ => fun
  | [d1, d2, d3, d4] => { results := [.lit (.bool true)], args := [d1, d2, d3, d4] }
  | _ => none }
def provenanceAttestsRow : OpenClaim := { program := "ytjicdgejhkgpgaagreatdoor", sum := "41c0359a397af5b907a9fd427446f75e7d07e2e1b4b5e317d66c3d07a8771206", func := "langdoc/langdoclaw47.ProvenanceAttests", spec := "provenanceAttests", unfollowed := true, recurses := true, named := ["unicode/utf8.first", "unicode/utf8.acceptRanges"], apart := false, laid := [("unicode/utf8.acceptRanges", laid_unicode_utf8_acceptRanges), ("unicode/utf8.first", laid_unicode_utf8_first)] }
def ProvenanceAttestsSaid : Prop := provenanceAttestsRow.holds Tryz.pinned (OpenSpec.ofChange provenanceAttestsSpec)

/-- ITS FALSE NEIGHBOUR: 'it returns false'. Refute it at one input. -/
def provenanceAttestsWrong : ChangeSpec := { name := "provenanceAttests", fn := fun _ => fun
  | [d1, d2, d3, d4] => { results := [.lit (.bool false)], args := [d1, d2, d3, d4] }
  | _ => none }
def ProvenanceAttestsWrongFalsely : Prop := provenanceAttestsRow.holds Tryz.pinned (OpenSpec.ofChange provenanceAttestsWrong)

/-- 'langdoclaw47.ProvenanceEntries': WHATEVER THE INPUT: true; the input reads as it did. -/
def provenanceEntriesSpec : ChangeSpec := { name := "provenanceEntries", fn := fun _ => fun
  | [d1, d2, d3] => { results := [.lit (.bool true)], args := [d1, d2, d3] }
  | _ => none }
def provenanceEntriesRow : OpenClaim := { program := "ytjicdgejhkgpgaagreatdoor", sum := "41c0359a397af5b907a9fd427446f75e7d07e2e1b4b5e317d66c3d07a8771206", func := "langdoc/langdoclaw47.ProvenanceEntries", spec := "provenanceEntries", unfollowed := true, recurses := true, named := ["unicode/utf8.first", "unicode/utf8.acceptRanges"], apart := false, laid := [("unicode/utf8.acceptRanges", laid_unicode_utf8_acceptRanges), ("unicode/utf8.first", laid_unicode_utf8_first)] }
def ProvenanceEntriesSaid : Prop := provenanceEntriesRow.holds Tryz.pinned (OpenSpec.ofChange provenanceEntriesSpec)

/-- ITS FALSE NEIGHBOUR: 'it returns false'. Refute it at one input. -/
def provenanceEntriesWrong : ChangeSpec := { name := "provenanceEntries", fn := fun _ => fun
  | [d1, d2, d3] => { results := [.lit (.bool false)], args := [d1, d2, d3] }
  | _ => none }
def ProvenanceEntriesWrongFalsely : Prop := provenanceEntriesRow.holds Tryz.pinned (OpenSpec.ofChange provenanceEntriesWrong)

/-- 'langdoclaw47.ProvenancePoints': WHATEVER THE INPUT: true; the input reads as it did. -/
def provenancePointsSpec : ChangeSpec := { name := "provenancePoints", fn := fun _ => fun
  | [d1, d2] => { results := [.lit (.bool true)], args := [d1, d2] }
  | _ => none }
def provenancePointsRow : OpenClaim := { program := "ytjicdgejhkgpgaagreatdoor", sum := "41c0359a397af5b907a9fd427446f75e7d07e2e1b4b5e317d66c3d07a8771206", func := "langdoc/langdoclaw47.ProvenancePoints", spec := "provenancePoints", unfollowed := true, recurses := true, named := ["unicode/utf8.first", "unicode/utf8.acceptRanges"], apart := false, laid := [("unicode/utf8.acceptRanges", laid_unicode_utf8_acceptRanges), ("unicode/utf8.first", laid_unicode_utf8_first)] }
def ProvenancePointsSaid : Prop := provenancePointsRow.holds Tryz.pinned (OpenSpec.ofChange provenancePointsSpec)

/-- ITS FALSE NEIGHBOUR: 'it returns false'. Refute it at one input. -/
def provenancePointsWrong : ChangeSpec := { name := "provenancePoints", fn := fun _ => fun
  | [d1, d2] => { results := [.lit (.bool false)], args := [d1, d2] }
  | _ => none }
def ProvenancePointsWrongFalsely : Prop := provenancePointsRow.holds Tryz.pinned (OpenSpec.ofChange provenancePointsWrong)

/-- 'langdoclaw47.ProvenanceDangling': WHATEVER THE INPUT: true; the input reads as it did. -/
def provenanceDanglingSpec : ChangeSpec := { name := "provenanceDangling", fn := fun _ => fun
  | [d1, d2, d3] => { results := [.lit (.bool true)], args := [d1, d2, d3] }
  | _ => none }
def provenanceDanglingRow : OpenClaim := { program := "ytjicdgejhkgpgaagreatdoor", sum := "41c0359a397af5b907a9fd427446f75e7d07e2e1b4b5e317d66c3d07a8771206", func := "langdoc/langdoclaw47.ProvenanceDangling", spec := "provenanceDangling", unfollowed := true, recurses := true, named := ["unicode/utf8.first", "unicode/utf8.acceptRanges"], apart := false, laid := [("unicode/utf8.acceptRanges", laid_unicode_utf8_acceptRanges), ("unicode/utf8.first", laid_unicode_utf8_first)] }
def ProvenanceDanglingSaid : Prop := provenanceDanglingRow.holds Tryz.pinned (OpenSpec.ofChange provenanceDanglingSpec)

/-- ITS FALSE NEIGHBOUR: 'it returns false'. Refute it at one input. -/
def provenanceDanglingWrong : ChangeSpec := { name := "provenanceDangling", fn := fun _ => fun
  | [d1, d2, d3] => { results := [.lit (.bool false)], args := [d1, d2, d3] }
  | _ => none }
def ProvenanceDanglingWrongFalsely : Prop := provenanceDanglingRow.holds Tryz.pinned (OpenSpec.ofChange provenanceDanglingWrong)

/-- 'langdoclaw47.ProvenanceTimes': WHATEVER THE INPUT: true; the input reads as it did. -/
def provenanceTimesSpec : ChangeSpec := { name := "provenanceTimes", fn := fun _ => fun
  | [d1, d2] => { results := [.lit (.bool true)], args := [d1, d2] }
  | _ => none }
def provenanceTimesRow : OpenClaim := { program := "ytjicdgejhkgpgaagreatdoor", sum := "41c0359a397af5b907a9fd427446f75e7d07e2e1b4b5e317d66c3d07a8771206", func := "langdoc/langdoclaw47.ProvenanceTimes", spec := "provenanceTimes", unfollowed := true, recurses := true, named := ["unicode/utf8.first", "unicode/utf8.acceptRanges"], apart := false, laid := [("unicode/utf8.acceptRanges", laid_unicode_utf8_acceptRanges), ("unicode/utf8.first", laid_unicode_utf8_first)] }
def ProvenanceTimesSaid : Prop := provenanceTimesRow.holds Tryz.pinned (OpenSpec.ofChange provenanceTimesSpec)

/-- ITS FALSE NEIGHBOUR: 'it returns false'. Refute it at one input. -/
def provenanceTimesWrong : ChangeSpec := { name := "provenanceTimes", fn := fun _ => fun
  | [d1, d2] => { results := [.lit (.bool false)], args := [d1, d2] }
  | _ => none }
def ProvenanceTimesWrongFalsely : Prop := provenanceTimesRow.holds Tryz.pinned (OpenSpec.ofChange provenanceTimesWrong)

/-- 'langdoclaw47.ProvenanceLeads': WHATEVER THE INPUT: true; the input reads as it did. -/
def provenanceLeadsSpec : ChangeSpec := { name := "provenanceLeads", fn := fun _ => fun
  | [d1, d2, d3, d4] => { results := [.lit (.bool true)], args := [d1, d2, d3, d4] }
  | _ => none }
def provenanceLeadsRow : OpenClaim := { program := "ytjicdgejhkgpgaagreatdoor", sum := "41c0359a397af5b907a9fd427446f75e7d07e2e1b4b5e317d66c3d07a8771206", func := "langdoc/langdoclaw47.ProvenanceLeads", spec := "provenanceLeads", unfollowed := true, recurses := true, named := ["unicode/utf8.first", "unicode/utf8.acceptRanges"], apart := false, laid := [("unicode/utf8.acceptRanges", laid_unicode_utf8_acceptRanges), ("unicode/utf8.first", laid_unicode_utf8_first)] }
def ProvenanceLeadsSaid : Prop := provenanceLeadsRow.holds Tryz.pinned (OpenSpec.ofChange provenanceLeadsSpec)

/-- ITS FALSE NEIGHBOUR: 'it returns false'. Refute it at one input. -/
def provenanceLeadsWrong : ChangeSpec := { name := "provenanceLeads", fn := fun _ => fun
  | [d1, d2, d3, d4] => { results := [.lit (.bool false)], args := [d1, d2, d3, d4] }
  | _ => none }
def ProvenanceLeadsWrongFalsely : Prop := provenanceLeadsRow.holds Tryz.pinned (OpenSpec.ofChange provenanceLeadsWrong)

/-- 'langdoclaw47.ProvenanceFirst': WHATEVER THE INPUT: true; the input reads as it did. -/
def provenanceFirstSpec : ChangeSpec := { name := "provenanceFirst", fn := fun _ => fun
  | [d1, d2, d3] => { results := [.lit (.bool true)], args := [d1, d2, d3] }
  | _ => none }
def provenanceFirstRow : OpenClaim := { program := "ytjicdgejhkgpgaagreatdoor", sum := "41c0359a397af5b907a9fd427446f75e7d07e2e1b4b5e317d66c3d07a8771206", func := "langdoc/langdoclaw47.ProvenanceFirst", spec := "provenanceFirst", unfollowed := true, recurses := true, named := ["unicode/utf8.first", "unicode/utf8.acceptRanges"], apart := false, laid := [("unicode/utf8.acceptRanges", laid_unicode_utf8_acceptRanges), ("unicode/utf8.first", laid_unicode_utf8_first)] }
def ProvenanceFirstSaid : Prop := provenanceFirstRow.holds Tryz.pinned (OpenSpec.ofChange provenanceFirstSpec)

/-- ITS FALSE NEIGHBOUR: 'it returns false'. Refute it at one input. -/
def provenanceFirstWrong : ChangeSpec := { name := "provenanceFirst", fn := fun _ => fun
  | [d1, d2, d3] => { results := [.lit (.bool false)], args := [d1, d2, d3] }
  | _ => none }
def ProvenanceFirstWrongFalsely : Prop := provenanceFirstRow.holds Tryz.pinned (OpenSpec.ofChange provenanceFirstWrong)

/-- 'langdoclaw47.ProvenanceWhere': WHATEVER THE INPUT: true; the input reads as it did. -/
def provenanceWhereSpec : ChangeSpec := { name := "provenanceWhere", fn := fun _ => fun
  | [d1, d2] => { results := [.lit (.bool true)], args := [d1, d2] }
  | _ => none }
def provenanceWhereRow : OpenClaim := { program := "ytjicdgejhkgpgaagreatdoor", sum := "41c0359a397af5b907a9fd427446f75e7d07e2e1b4b5e317d66c3d07a8771206", func := "langdoc/langdoclaw47.ProvenanceWhere", spec := "provenanceWhere", unfollowed := true, recurses := true, named := ["unicode/utf8.first", "unicode/utf8.acceptRanges"], apart := false, laid := [("unicode/utf8.acceptRanges", laid_unicode_utf8_acceptRanges), ("unicode/utf8.first", laid_unicode_utf8_first)] }
def ProvenanceWhereSaid : Prop := provenanceWhereRow.holds Tryz.pinned (OpenSpec.ofChange provenanceWhereSpec)

/-- ITS FALSE NEIGHBOUR: 'it returns false'. Refute it at one input. -/
def provenanceWhereWrong : ChangeSpec := { name := "provenanceWhere", fn := fun _ => fun
  | [d1, d2] => { results := [.lit (.bool false)], args := [d1, d2] }
  | _ => none }
def ProvenanceWhereWrongFalsely : Prop := provenanceWhereRow.holds Tryz.pinned (OpenSpec.ofChange provenanceWhereWrong)

/-- 'langdoclaw47.ProvenanceDrops': WHATEVER THE INPUT: true; the input reads as it did. -/
def provenanceDropsSpec : ChangeSpec := { name := "provenanceDrops", fn := fun _ => fun
  | [d1, d2, d3] => { results := [.lit (.bool true)], args := [d1, d2, d3] }
  | _ => none }
def provenanceDropsRow : OpenClaim := { program := "ytjicdgejhkgpgaagreatdoor", sum := "41c0359a397af5b907a9fd427446f75e7d07e2e1b4b5e317d66c3d07a8771206", func := "langdoc/langdoclaw47.ProvenanceDrops", spec := "provenanceDrops", unfollowed := true, recurses := true, named := ["unicode/utf8.first", "unicode/utf8.acceptRanges"], apart := false, laid := [("unicode/utf8.acceptRanges", laid_unicode_utf8_acceptRanges), ("unicode/utf8.first", laid_unicode_utf8_first)] }
def ProvenanceDropsSaid : Prop := provenanceDropsRow.holds Tryz.pinned (OpenSpec.ofChange provenanceDropsSpec)

/-- ITS FALSE NEIGHBOUR: 'it returns false'. Refute it at one input. -/
def provenanceDropsWrong : ChangeSpec := { name := "provenanceDrops", fn := fun _ => fun
  | [d1, d2, d3] => { results := [.lit (.bool false)], args := [d1, d2, d3] }
  | _ => none }
def ProvenanceDropsWrongFalsely : Prop := provenanceDropsRow.holds Tryz.pinned (OpenSpec.ofChange provenanceDropsWrong)

/- THE SECOND FORM. 'bulk': how many values and letters a reading holds, each counted each time it is reached (what is shared counts as often as it is met; a slice's spare places count too). A statement '..UptoSaid' is the law's where the arguments, and the package variables that the reading takes, are together of bulk at most 1048576: NARROWER than '..Said'. Prove '..Said' where nothing that the law and all that it calls make is longer than what came in: it says more and counts as full. Else prove '..UptoSaid'. A law counts once. -/
mutual
def uptoBulk {H : Type} : DataW H → Nat
  | .lit (.string bytes) => bytes.length + 1
  | .lit _ => 1
  | .nil => 1
  | .ptr d => uptoBulk d + 1
  | .slice elems spare => uptoBulkAll elems + uptoBulkAll spare + 1
  | .agg parts => uptoBulkAll parts + 1
  | .iface _ d => uptoBulk d + 1
  | .map entries => uptoBulkEntries entries + 1
  | .held _ => 1
def uptoBulkAll {H : Type} : List (DataW H) → Nat
  | [] => 0
  | d :: r => uptoBulk d + uptoBulkAll r
def uptoBulkEntries {H : Type} : List (Lit × DataW H) → Nat
  | [] => 0
  | x :: r => uptoBulkEntry x + uptoBulkEntries r
def uptoBulkEntry {H : Type} : Lit × DataW H → Nat
  | (.string bytes, d) => bytes.length + uptoBulk d + 1
  | (_, d) => uptoBulk d + 1
 end
def uptoSmall : (H : Type) → List (DataW H) → Bool := fun _ ds => decide (uptoBulkAll ds ≤ 1048576)
def OpenSpec.upto (s : _root_.Go.ChangeSpec) : _root_.Go.OpenSpec := { _root_.Go.OpenSpec.ofChange s with cond := some uptoSmall }

/-- 'langdoclaw47.ProvenanceAttests', WHERE WHAT IT READS IS OF BULK AT MOST 1048576: true; the input reads as it did. -/
def provenanceAttestsUptoRow : OpenClaim := { program := "ytjicdgejhkgpgaagreatdoor", sum := "41c0359a397af5b907a9fd427446f75e7d07e2e1b4b5e317d66c3d07a8771206", func := "langdoc/langdoclaw47.ProvenanceAttests", spec := "provenanceAttests", unfollowed := true, recurses := true, named := ["unicode/utf8.first", "unicode/utf8.acceptRanges"], apart := false, laid := [("unicode/utf8.acceptRanges", laid_unicode_utf8_acceptRanges), ("unicode/utf8.first", laid_unicode_utf8_first)], narrowed := true }
def ProvenanceAttestsUptoSaid : Prop := provenanceAttestsUptoRow.holds Tryz.pinned (OpenSpec.upto provenanceAttestsSpec)

/-- 'langdoclaw47.ProvenanceEntries', WHERE WHAT IT READS IS OF BULK AT MOST 1048576: true; the input reads as it did. -/
def provenanceEntriesUptoRow : OpenClaim := { program := "ytjicdgejhkgpgaagreatdoor", sum := "41c0359a397af5b907a9fd427446f75e7d07e2e1b4b5e317d66c3d07a8771206", func := "langdoc/langdoclaw47.ProvenanceEntries", spec := "provenanceEntries", unfollowed := true, recurses := true, named := ["unicode/utf8.first", "unicode/utf8.acceptRanges"], apart := false, laid := [("unicode/utf8.acceptRanges", laid_unicode_utf8_acceptRanges), ("unicode/utf8.first", laid_unicode_utf8_first)], narrowed := true }
def ProvenanceEntriesUptoSaid : Prop := provenanceEntriesUptoRow.holds Tryz.pinned (OpenSpec.upto provenanceEntriesSpec)

/-- 'langdoclaw47.ProvenancePoints', WHERE WHAT IT READS IS OF BULK AT MOST 1048576: true; the input reads as it did. -/
def provenancePointsUptoRow : OpenClaim := { program := "ytjicdgejhkgpgaagreatdoor", sum := "41c0359a397af5b907a9fd427446f75e7d07e2e1b4b5e317d66c3d07a8771206", func := "langdoc/langdoclaw47.ProvenancePoints", spec := "provenancePoints", unfollowed := true, recurses := true, named := ["unicode/utf8.first", "unicode/utf8.acceptRanges"], apart := false, laid := [("unicode/utf8.acceptRanges", laid_unicode_utf8_acceptRanges), ("unicode/utf8.first", laid_unicode_utf8_first)], narrowed := true }
def ProvenancePointsUptoSaid : Prop := provenancePointsUptoRow.holds Tryz.pinned (OpenSpec.upto provenancePointsSpec)

/-- 'langdoclaw47.ProvenanceDangling', WHERE WHAT IT READS IS OF BULK AT MOST 1048576: true; the input reads as it did. -/
def provenanceDanglingUptoRow : OpenClaim := { program := "ytjicdgejhkgpgaagreatdoor", sum := "41c0359a397af5b907a9fd427446f75e7d07e2e1b4b5e317d66c3d07a8771206", func := "langdoc/langdoclaw47.ProvenanceDangling", spec := "provenanceDangling", unfollowed := true, recurses := true, named := ["unicode/utf8.first", "unicode/utf8.acceptRanges"], apart := false, laid := [("unicode/utf8.acceptRanges", laid_unicode_utf8_acceptRanges), ("unicode/utf8.first", laid_unicode_utf8_first)], narrowed := true }
def ProvenanceDanglingUptoSaid : Prop := provenanceDanglingUptoRow.holds Tryz.pinned (OpenSpec.upto provenanceDanglingSpec)

/-- 'langdoclaw47.ProvenanceTimes', WHERE WHAT IT READS IS OF BULK AT MOST 1048576: true; the input reads as it did. -/
def provenanceTimesUptoRow : OpenClaim := { program := "ytjicdgejhkgpgaagreatdoor", sum := "41c0359a397af5b907a9fd427446f75e7d07e2e1b4b5e317d66c3d07a8771206", func := "langdoc/langdoclaw47.ProvenanceTimes", spec := "provenanceTimes", unfollowed := true, recurses := true, named := ["unicode/utf8.first", "unicode/utf8.acceptRanges"], apart := false, laid := [("unicode/utf8.acceptRanges", laid_unicode_utf8_acceptRanges), ("unicode/utf8.first", laid_unicode_utf8_first)], narrowed := true }
def ProvenanceTimesUptoSaid : Prop := provenanceTimesUptoRow.holds Tryz.pinned (OpenSpec.upto provenanceTimesSpec)

/-- 'langdoclaw47.ProvenanceLeads', WHERE WHAT IT READS IS OF BULK AT MOST 1048576: true; the input reads as it did. -/
def provenanceLeadsUptoRow : OpenClaim := { program := "ytjicdgejhkgpgaagreatdoor", sum := "41c0359a397af5b907a9fd427446f75e7d07e2e1b4b5e317d66c3d07a8771206", func := "langdoc/langdoclaw47.ProvenanceLeads", spec := "provenanceLeads", unfollowed := true, recurses := true, named := ["unicode/utf8.first", "unicode/utf8.acceptRanges"], apart := false, laid := [("unicode/utf8.acceptRanges", laid_unicode_utf8_acceptRanges), ("unicode/utf8.first", laid_unicode_utf8_first)], narrowed := true }
def ProvenanceLeadsUptoSaid : Prop := provenanceLeadsUptoRow.holds Tryz.pinned (OpenSpec.upto provenanceLeadsSpec)

/-- 'langdoclaw47.ProvenanceFirst', WHERE WHAT IT READS IS OF BULK AT MOST 1048576: true; the input reads as it did. -/
def provenanceFirstUptoRow : OpenClaim := { program := "ytjicdgejhkgpgaagreatdoor", sum := "41c0359a397af5b907a9fd427446f75e7d07e2e1b4b5e317d66c3d07a8771206", func := "langdoc/langdoclaw47.ProvenanceFirst", spec := "provenanceFirst", unfollowed := true, recurses := true, named := ["unicode/utf8.first", "unicode/utf8.acceptRanges"], apart := false, laid := [("unicode/utf8.acceptRanges", laid_unicode_utf8_acceptRanges), ("unicode/utf8.first", laid_unicode_utf8_first)], narrowed := true }
def ProvenanceFirstUptoSaid : Prop := provenanceFirstUptoRow.holds Tryz.pinned (OpenSpec.upto provenanceFirstSpec)

/-- 'langdoclaw47.ProvenanceWhere', WHERE WHAT IT READS IS OF BULK AT MOST 1048576: true; the input reads as it did. -/
def provenanceWhereUptoRow : OpenClaim := { program := "ytjicdgejhkgpgaagreatdoor", sum := "41c0359a397af5b907a9fd427446f75e7d07e2e1b4b5e317d66c3d07a8771206", func := "langdoc/langdoclaw47.ProvenanceWhere", spec := "provenanceWhere", unfollowed := true, recurses := true, named := ["unicode/utf8.first", "unicode/utf8.acceptRanges"], apart := false, laid := [("unicode/utf8.acceptRanges", laid_unicode_utf8_acceptRanges), ("unicode/utf8.first", laid_unicode_utf8_first)], narrowed := true }
def ProvenanceWhereUptoSaid : Prop := provenanceWhereUptoRow.holds Tryz.pinned (OpenSpec.upto provenanceWhereSpec)

/-- 'langdoclaw47.ProvenanceDrops', WHERE WHAT IT READS IS OF BULK AT MOST 1048576: true; the input reads as it did. -/
def provenanceDropsUptoRow : OpenClaim := { program := "ytjicdgejhkgpgaagreatdoor", sum := "41c0359a397af5b907a9fd427446f75e7d07e2e1b4b5e317d66c3d07a8771206", func := "langdoc/langdoclaw47.ProvenanceDrops", spec := "provenanceDrops", unfollowed := true, recurses := true, named := ["unicode/utf8.first", "unicode/utf8.acceptRanges"], apart := false, laid := [("unicode/utf8.acceptRanges", laid_unicode_utf8_acceptRanges), ("unicode/utf8.first", laid_unicode_utf8_first)], narrowed := true }
def ProvenanceDropsUptoSaid : Prop := provenanceDropsUptoRow.holds Tryz.pinned (OpenSpec.upto provenanceDropsSpec)

end Rows
end Go.Proofs.YtjicdgejhkgpgaaGreatDoor
