/-
  NARROWER THAN 'FOR EVERY INPUT', by the rows' own cells (each row's printed sentence says how): IndexChecks: laid · IndexBuilds: laid · IndexFinds: laid · IndexPuts: laid · IndexSame: laid · IndexKeeps: laid · IndexOnce: laid · IndexMoves: laid · IndexUpdates: laid · IndexDerived: laid.
  DERIVED. THE GIVEN ROWS OF THIS SEAT. 10 by the template 'for every input the law returns true; each argument reads behind the call as it read before'; 0 by the template 'total and deterministic' (their statements: YtjpjpgeeeigbkaaDoorTotals.lean).
  GIVEN WITH THE SEED: the statements are not yours to turn. If you find one false, say at which input.
  Laid BY PROGRAM, IN A SANDBOX (cutbox-rows.mjs): the forced cells as the released guide's own fill.sh prints them over the translation ee84fc694bc3bcd5… (all of the seat's roots in one cut). By AI agents, Wed Nov 11 2026. No macro, syntax, notation, axiom, sorry.
-/
import Derived.Test.YtjpjpgeeeigbkaaDoorChecked
import GoSem.PinnedTables
import GoSem.Claim
import GoSem.ClaimJoined
import GoSem.ClaimMapViews
import Derived.JoinedTies
import Derived.KernelRfl
namespace Go.Proofs.YtjpjpgeeeigbkaaDoor
/- THE CELL 'sum', in the pinned program and in every row, IS THE sha256 OF THE DUMP (.gsa) THAT YtjpjpgeeeigbkaaDoorProg.lean LOADS. Nothing in Lean hashes anything: it is a label: what it is worth is what the hold of that sum in a sandbox is worth. -/
noncomputable def Tryd.pinned : Pinned := { name := "ytjpjpgeeeigbkaadoor", sum := "ee84fc694bc3bcd5087fdac6005391268f7165697d61bb844d83acf439cb3d04", checked := Tryd.checked }
namespace Rows
def none {H : Type} : Left H := { results := [], args := [] }

/- WHAT THE LISTED PACKAGE-LEVEL VARIABLES READ AS WHEN THE CALL BEGINS. Each datum BY PROGRAM (the guide's laid-datum.mjs) off the statement by which the dump's own 'gosem.cut.vars' lays the variable. In a bare row this is a premise. The card (YtjpjpgeeeigbkaaDoorCards.lean) ties it to the program's text. -/
def laid_unicode_utf8_acceptRanges {H : Type} : DataW H := .agg [.agg [.lit (.int .u8 128), .lit (.int .u8 191)], .agg [.lit (.int .u8 160), .lit (.int .u8 191)], .agg [.lit (.int .u8 128), .lit (.int .u8 159)], .agg [.lit (.int .u8 144), .lit (.int .u8 191)], .agg [.lit (.int .u8 128), .lit (.int .u8 143)], .agg [.lit (.int .u8 0), .lit (.int .u8 0)], .agg [.lit (.int .u8 0), .lit (.int .u8 0)], .agg [.lit (.int .u8 0), .lit (.int .u8 0)], .agg [.lit (.int .u8 0), .lit (.int .u8 0)], .agg [.lit (.int .u8 0), .lit (.int .u8 0)], .agg [.lit (.int .u8 0), .lit (.int .u8 0)], .agg [.lit (.int .u8 0), .lit (.int .u8 0)], .agg [.lit (.int .u8 0), .lit (.int .u8 0)], .agg [.lit (.int .u8 0), .lit (.int .u8 0)], .agg [.lit (.int .u8 0), .lit (.int .u8 0)], .agg [.lit (.int .u8 0), .lit (.int .u8 0)]]
/-- One of Go's own tables, pinned by name: the form's constant. -/
def laid_unicode_utf8_first : DataW Unit := Go.Pinned.utf8First

/-- 'langdoclaw37.IndexChecks': WHATEVER THE INPUT: true; the input reads as it did. -/
def indexChecksSpec : ChangeSpec := { name := "indexChecks", fn := fun _ => fun
  | [d] => { results := [.lit (.bool true)], args := [d] }
  | _ => none }
def indexChecksRow : OpenClaim := { program := "ytjpjpgeeeigbkaadoor", sum := "ee84fc694bc3bcd5087fdac6005391268f7165697d61bb844d83acf439cb3d04", func := "langdoc/langdoclaw37.IndexChecks", spec := "indexChecks", unfollowed := true, recurses := true, named := ["unicode/utf8.first", "unicode/utf8.acceptRanges"], apart := false, laid := [("unicode/utf8.acceptRanges", laid_unicode_utf8_acceptRanges), ("unicode/utf8.first", laid_unicode_utf8_first)] }
def IndexChecksSaid : Prop := indexChecksRow.holds Tryd.pinned (OpenSpec.ofChange indexChecksSpec)

/-- ITS FALSE NEIGHBOUR: 'it returns false'. Refute it at one input. -/
def indexChecksWrong : ChangeSpec := { name := "indexChecks", fn := fun _ => fun
  | [d] => { results := [.lit (.bool false)], args := [d] }
  | _ => none }
def IndexChecksWrongFalsely : Prop := indexChecksRow.holds Tryd.pinned (OpenSpec.ofChange indexChecksWrong)

/-- 'langdoclaw37.IndexBuilds': WHATEVER THE INPUT: true; the input reads as it did. -/
def indexBuildsSpec : ChangeSpec := { name := "indexBuilds", fn := fun _ => fun
  | [d] => { results := [.lit (.bool true)], args := [d] }
  | _ => none }
def indexBuildsRow : OpenClaim := { program := "ytjpjpgeeeigbkaadoor", sum := "ee84fc694bc3bcd5087fdac6005391268f7165697d61bb844d83acf439cb3d04", func := "langdoc/langdoclaw37.IndexBuilds", spec := "indexBuilds", unfollowed := true, recurses := true, named := ["unicode/utf8.first", "unicode/utf8.acceptRanges"], apart := false, laid := [("unicode/utf8.acceptRanges", laid_unicode_utf8_acceptRanges), ("unicode/utf8.first", laid_unicode_utf8_first)] }
def IndexBuildsSaid : Prop := indexBuildsRow.holds Tryd.pinned (OpenSpec.ofChange indexBuildsSpec)

/-- ITS FALSE NEIGHBOUR: 'it returns false'. Refute it at one input. -/
def indexBuildsWrong : ChangeSpec := { name := "indexBuilds", fn := fun _ => fun
  | [d] => { results := [.lit (.bool false)], args := [d] }
  | _ => none }
def IndexBuildsWrongFalsely : Prop := indexBuildsRow.holds Tryd.pinned (OpenSpec.ofChange indexBuildsWrong)

/-- 'langdoclaw37.IndexFinds': WHATEVER THE INPUT: true; the input reads as it did. -/
def indexFindsSpec : ChangeSpec := { name := "indexFinds", fn := fun _ => fun
  | [d1, d2, d3] => { results := [.lit (.bool true)], args := [d1, d2, d3] }
  | _ => none }
def indexFindsRow : OpenClaim := { program := "ytjpjpgeeeigbkaadoor", sum := "ee84fc694bc3bcd5087fdac6005391268f7165697d61bb844d83acf439cb3d04", func := "langdoc/langdoclaw37.IndexFinds", spec := "indexFinds", unfollowed := true, recurses := true, named := ["unicode/utf8.first", "unicode/utf8.acceptRanges"], apart := false, laid := [("unicode/utf8.acceptRanges", laid_unicode_utf8_acceptRanges), ("unicode/utf8.first", laid_unicode_utf8_first)] }
def IndexFindsSaid : Prop := indexFindsRow.holds Tryd.pinned (OpenSpec.ofChange indexFindsSpec)

/-- ITS FALSE NEIGHBOUR: 'it returns false'. Refute it at one input. -/
def indexFindsWrong : ChangeSpec := { name := "indexFinds", fn := fun _ => fun
  | [d1, d2, d3] => { results := [.lit (.bool false)], args := [d1, d2, d3] }
  | _ => none }
def IndexFindsWrongFalsely : Prop := indexFindsRow.holds Tryd.pinned (OpenSpec.ofChange indexFindsWrong)

/-- 'langdoclaw37.IndexPuts': WHATEVER THE INPUT: true; the input reads as it did. -/
def indexPutsSpec : ChangeSpec := { name := "indexPuts", fn := fun _ => fun
  | [d1, d2, d3] => { results := [.lit (.bool true)], args := [d1, d2, d3] }
  | _ => none }
def indexPutsRow : OpenClaim := { program := "ytjpjpgeeeigbkaadoor", sum := "ee84fc694bc3bcd5087fdac6005391268f7165697d61bb844d83acf439cb3d04", func := "langdoc/langdoclaw37.IndexPuts", spec := "indexPuts", unfollowed := true, recurses := true, named := ["unicode/utf8.first", "unicode/utf8.acceptRanges"], apart := false, laid := [("unicode/utf8.acceptRanges", laid_unicode_utf8_acceptRanges), ("unicode/utf8.first", laid_unicode_utf8_first)] }
def IndexPutsSaid : Prop := indexPutsRow.holds Tryd.pinned (OpenSpec.ofChange indexPutsSpec)

/-- ITS FALSE NEIGHBOUR: 'it returns false'. Refute it at one input. -/
def indexPutsWrong : ChangeSpec := { name := "indexPuts", fn := fun _ => fun
  | [d1, d2, d3] => { results := [.lit (.bool false)], args := [d1, d2, d3] }
  | _ => none }
def IndexPutsWrongFalsely : Prop := indexPutsRow.holds Tryd.pinned (OpenSpec.ofChange indexPutsWrong)

/-- 'langdoclaw37.IndexSame': WHATEVER THE INPUT: true; the input reads as it did. -/
def indexSameSpec : ChangeSpec := { name := "indexSame", fn := fun _ => fun
  | [d1, d2] => { results := [.lit (.bool true)], args := [d1, d2] }
  | _ => none }
def indexSameRow : OpenClaim := { program := "ytjpjpgeeeigbkaadoor", sum := "ee84fc694bc3bcd5087fdac6005391268f7165697d61bb844d83acf439cb3d04", func := "langdoc/langdoclaw37.IndexSame", spec := "indexSame", unfollowed := true, recurses := true, named := ["unicode/utf8.first", "unicode/utf8.acceptRanges"], apart := false, laid := [("unicode/utf8.acceptRanges", laid_unicode_utf8_acceptRanges), ("unicode/utf8.first", laid_unicode_utf8_first)] }
def IndexSameSaid : Prop := indexSameRow.holds Tryd.pinned (OpenSpec.ofChange indexSameSpec)

/-- ITS FALSE NEIGHBOUR: 'it returns false'. Refute it at one input. -/
def indexSameWrong : ChangeSpec := { name := "indexSame", fn := fun _ => fun
  | [d1, d2] => { results := [.lit (.bool false)], args := [d1, d2] }
  | _ => none }
def IndexSameWrongFalsely : Prop := indexSameRow.holds Tryd.pinned (OpenSpec.ofChange indexSameWrong)

/-- 'langdoclaw37.IndexKeeps': WHATEVER THE INPUT: true; the input reads as it did. -/
def indexKeepsSpec : ChangeSpec := { name := "indexKeeps", fn := fun _ => fun
  | [d1, d2, d3] => { results := [.lit (.bool true)], args := [d1, d2, d3] }
  | _ => none }
def indexKeepsRow : OpenClaim := { program := "ytjpjpgeeeigbkaadoor", sum := "ee84fc694bc3bcd5087fdac6005391268f7165697d61bb844d83acf439cb3d04", func := "langdoc/langdoclaw37.IndexKeeps", spec := "indexKeeps", unfollowed := true, recurses := true, named := ["unicode/utf8.first", "unicode/utf8.acceptRanges"], apart := false, laid := [("unicode/utf8.acceptRanges", laid_unicode_utf8_acceptRanges), ("unicode/utf8.first", laid_unicode_utf8_first)] }
def IndexKeepsSaid : Prop := indexKeepsRow.holds Tryd.pinned (OpenSpec.ofChange indexKeepsSpec)

/-- ITS FALSE NEIGHBOUR: 'it returns false'. Refute it at one input. -/
def indexKeepsWrong : ChangeSpec := { name := "indexKeeps", fn := fun _ => fun
  | [d1, d2, d3] => { results := [.lit (.bool false)], args := [d1, d2, d3] }
  | _ => none }
def IndexKeepsWrongFalsely : Prop := indexKeepsRow.holds Tryd.pinned (OpenSpec.ofChange indexKeepsWrong)

/-- 'langdoclaw37.IndexOnce': WHATEVER THE INPUT: true; the input reads as it did. -/
def indexOnceSpec : ChangeSpec := { name := "indexOnce", fn := fun _ => fun
  | [d] => { results := [.lit (.bool true)], args := [d] }
  | _ => none }
def indexOnceRow : OpenClaim := { program := "ytjpjpgeeeigbkaadoor", sum := "ee84fc694bc3bcd5087fdac6005391268f7165697d61bb844d83acf439cb3d04", func := "langdoc/langdoclaw37.IndexOnce", spec := "indexOnce", unfollowed := true, recurses := true, named := ["unicode/utf8.first", "unicode/utf8.acceptRanges"], apart := false, laid := [("unicode/utf8.acceptRanges", laid_unicode_utf8_acceptRanges), ("unicode/utf8.first", laid_unicode_utf8_first)] }
def IndexOnceSaid : Prop := indexOnceRow.holds Tryd.pinned (OpenSpec.ofChange indexOnceSpec)

/-- ITS FALSE NEIGHBOUR: 'it returns false'. Refute it at one input. -/
def indexOnceWrong : ChangeSpec := { name := "indexOnce", fn := fun _ => fun
  | [d] => { results := [.lit (.bool false)], args := [d] }
  | _ => none }
def IndexOnceWrongFalsely : Prop := indexOnceRow.holds Tryd.pinned (OpenSpec.ofChange indexOnceWrong)

/-- 'langdoclaw37.IndexMoves': WHATEVER THE INPUT: true; the input reads as it did. -/
def indexMovesSpec : ChangeSpec := { name := "indexMoves", fn := fun _ => fun
  | [d] => { results := [.lit (.bool true)], args := [d] }
  | _ => none }
def indexMovesRow : OpenClaim := { program := "ytjpjpgeeeigbkaadoor", sum := "ee84fc694bc3bcd5087fdac6005391268f7165697d61bb844d83acf439cb3d04", func := "langdoc/langdoclaw37.IndexMoves", spec := "indexMoves", unfollowed := true, recurses := true, named := ["unicode/utf8.first", "unicode/utf8.acceptRanges"], apart := false, laid := [("unicode/utf8.acceptRanges", laid_unicode_utf8_acceptRanges), ("unicode/utf8.first", laid_unicode_utf8_first)] }
def IndexMovesSaid : Prop := indexMovesRow.holds Tryd.pinned (OpenSpec.ofChange indexMovesSpec)

/-- ITS FALSE NEIGHBOUR: 'it returns false'. Refute it at one input. -/
def indexMovesWrong : ChangeSpec := { name := "indexMoves", fn := fun _ => fun
  | [d] => { results := [.lit (.bool false)], args := [d] }
  | _ => none }
def IndexMovesWrongFalsely : Prop := indexMovesRow.holds Tryd.pinned (OpenSpec.ofChange indexMovesWrong)

/-- 'langdoclaw37.IndexUpdates': WHATEVER THE INPUT: true; the input reads as it did. -/
def indexUpdatesSpec : ChangeSpec := { name := "indexUpdates", fn := fun _ => fun
  | [d1, d2, d3] => { results := [.lit (.bool true)], args := [d1, d2, d3] }
  | _ => none }
def indexUpdatesRow : OpenClaim := { program := "ytjpjpgeeeigbkaadoor", sum := "ee84fc694bc3bcd5087fdac6005391268f7165697d61bb844d83acf439cb3d04", func := "langdoc/langdoclaw37.IndexUpdates", spec := "indexUpdates", unfollowed := true, recurses := true, named := ["unicode/utf8.first", "unicode/utf8.acceptRanges"], apart := false, laid := [("unicode/utf8.acceptRanges", laid_unicode_utf8_acceptRanges), ("unicode/utf8.first", laid_unicode_utf8_first)] }
def IndexUpdatesSaid : Prop := indexUpdatesRow.holds Tryd.pinned (OpenSpec.ofChange indexUpdatesSpec)

/-- ITS FALSE NEIGHBOUR: 'it returns false'. Refute it at one input. -/
def indexUpdatesWrong : ChangeSpec := { name := "indexUpdates", fn := fun _ => fun
  | [d1, d2, d3] => { results := [.lit (.bool false)], args := [d1, d2, d3] }
  | _ => none }
def IndexUpdatesWrongFalsely : Prop := indexUpdatesRow.holds Tryd.pinned (OpenSpec.ofChange indexUpdatesWrong)

/-- 'langdoclaw37.IndexDerived': WHATEVER THE INPUT: true; the input reads as it did. -/
def indexDerivedSpec : ChangeSpec := { name := "indexDerived", fn := fun _ => fun
  | [d1, d2] => { results := [.lit (.bool true)], args := [d1, d2] }
  | _ => none }
def indexDerivedRow : OpenClaim := { program := "ytjpjpgeeeigbkaadoor", sum := "ee84fc694bc3bcd5087fdac6005391268f7165697d61bb844d83acf439cb3d04", func := "langdoc/langdoclaw37.IndexDerived", spec := "indexDerived", unfollowed := true, recurses := true, named := ["unicode/utf8.first", "unicode/utf8.acceptRanges"], apart := false, laid := [("unicode/utf8.acceptRanges", laid_unicode_utf8_acceptRanges), ("unicode/utf8.first", laid_unicode_utf8_first)] }
def IndexDerivedSaid : Prop := indexDerivedRow.holds Tryd.pinned (OpenSpec.ofChange indexDerivedSpec)

/-- ITS FALSE NEIGHBOUR: 'it returns false'. Refute it at one input. -/
def indexDerivedWrong : ChangeSpec := { name := "indexDerived", fn := fun _ => fun
  | [d1, d2] => { results := [.lit (.bool false)], args := [d1, d2] }
  | _ => none }
def IndexDerivedWrongFalsely : Prop := indexDerivedRow.holds Tryd.pinned (OpenSpec.ofChange indexDerivedWrong)

/- THE SECOND FORM. 'bulk': how many values and letters a reading holds, each counted each time it is reached (what is shared counts as often as it is met; a slice's spare places count too). A statement '..UptoSaid' is the law's where the arguments, and the package variables that the reading takes, are together of bulk at most 1048576: NARROWER than '..Said'. Prove '..Said' where nothing that the law and all that it calls make is longer than what came in: it says more and counts as full. Else prove '..UptoSaid'. A law counts once. -/
mutual
def uptoBulk {H : Type} : DataW H → Nat
  | .lit (.string bytes) => bytes.length + 1
  | .lit _ => 1
  | .nil => 1
  | .ptr d => uptoBulk d + 1
  | .slice elems spare => uptoBulkAll elems + uptoBulkAll spare + 1
  | .agg parts => uptoBulkAll parts + 1
  | .iface _ d => uptoBulk d + 1
  | .map entries => uptoBulkEntries entries + 1
  | .held _ => 1
def uptoBulkAll {H : Type} : List (DataW H) → Nat
  | [] => 0
  | d :: r => uptoBulk d + uptoBulkAll r
def uptoBulkEntries {H : Type} : List (Lit × DataW H) → Nat
  | [] => 0
  | x :: r => uptoBulkEntry x + uptoBulkEntries r
def uptoBulkEntry {H : Type} : Lit × DataW H → Nat
  | (.string bytes, d) => bytes.length + uptoBulk d + 1
  | (_, d) => uptoBulk d + 1
 end
def uptoSmall : (H : Type) → List (DataW H) → Bool := fun _ ds => decide (uptoBulkAll ds ≤ 1048576)
def OpenSpec.upto (s : _root_.Go.ChangeSpec) : _root_.Go.OpenSpec := { _root_.Go.OpenSpec.ofChange s with cond := some uptoSmall }

/-- 'langdoclaw37.IndexChecks', WHERE WHAT IT READS IS OF BULK AT MOST 1048576: true; the input reads as it did. -/
def indexChecksUptoRow : OpenClaim := { program := "ytjpjpgeeeigbkaadoor", sum := "ee84fc694bc3bcd5087fdac6005391268f7165697d61bb844d83acf439cb3d04", func := "langdoc/langdoclaw37.IndexChecks", spec := "indexChecks", unfollowed := true, recurses := true, named := ["unicode/utf8.first", "unicode/utf8.acceptRanges"], apart := false, laid := [("unicode/utf8.acceptRanges", laid_unicode_utf8_acceptRanges), ("unicode/utf8.first", laid_unicode_utf8_first)], narrowed := true }
def IndexChecksUptoSaid : Prop := indexChecksUptoRow.holds Tryd.pinned (OpenSpec.upto indexChecksSpec)

/-- 'langdoclaw37.IndexBuilds', WHERE WHAT IT READS IS OF BULK AT MOST 1048576: true; the input reads as it did. -/
def indexBuildsUptoRow : OpenClaim := { program := "ytjpjpgeeeigbkaadoor", sum := "ee84fc694bc3bcd5087fdac6005391268f7165697d61bb844d83acf439cb3d04", func := "langdoc/langdoclaw37.IndexBuilds", spec := "indexBuilds", unfollowed := true, recurses := true, named := ["unicode/utf8.first", "unicode/utf8.acceptRanges"], apart := false, laid := [("unicode/utf8.acceptRanges", laid_unicode_utf8_acceptRanges), ("unicode/utf8.first", laid_unicode_utf8_first)], narrowed := true }
def IndexBuildsUptoSaid : Prop := indexBuildsUptoRow.holds Tryd.pinned (OpenSpec.upto indexBuildsSpec)

/-- 'langdoclaw37.IndexFinds', WHERE WHAT IT READS IS OF BULK AT MOST 1048576: true; the input reads as it did. -/
def indexFindsUptoRow : OpenClaim := { program := "ytjpjpgeeeigbkaadoor", sum := "ee84fc694bc3bcd5087fdac6005391268f7165697d61bb844d83acf439cb3d04", func := "langdoc/langdoclaw37.IndexFinds", spec := "indexFinds", unfollowed := true, recurses := true, named := ["unicode/utf8.first", "unicode/utf8.acceptRanges"], apart := false, laid := [("unicode/utf8.acceptRanges", laid_unicode_utf8_acceptRanges), ("unicode/utf8.first", laid_unicode_utf8_first)], narrowed := true }
def IndexFindsUptoSaid : Prop := indexFindsUptoRow.holds Tryd.pinned (OpenSpec.upto indexFindsSpec)

/-- 'langdoclaw37.IndexPuts', WHERE WHAT IT READS IS OF BULK AT MOST 1048576: true; the input reads as it did. -/
def indexPutsUptoRow : OpenClaim := { program := "ytjpjpgeeeigbkaadoor", sum := "ee84fc694bc3bcd5087fdac6005391268f7165697d61bb844d83acf439cb3d04", func := "langdoc/langdoclaw37.IndexPuts", spec := "indexPuts", unfollowed := true, recurses := true, named := ["unicode/utf8.first", "unicode/utf8.acceptRanges"], apart := false, laid := [("unicode/utf8.acceptRanges", laid_unicode_utf8_acceptRanges), ("unicode/utf8.first", laid_unicode_utf8_first)], narrowed := true }
def IndexPutsUptoSaid : Prop := indexPutsUptoRow.holds Tryd.pinned (OpenSpec.upto indexPutsSpec)

/-- 'langdoclaw37.IndexSame', WHERE WHAT IT READS IS OF BULK AT MOST 1048576: true; the input reads as it did. -/
def indexSameUptoRow : OpenClaim := { program := "ytjpjpgeeeigbkaadoor", sum := "ee84fc694bc3bcd5087fdac6005391268f7165697d61bb844d83acf439cb3d04", func := "langdoc/langdoclaw37.IndexSame", spec := "indexSame", unfollowed := true, recurses := true, named := ["unicode/utf8.first", "unicode/utf8.acceptRanges"], apart := false, laid := [("unicode/utf8.acceptRanges", laid_unicode_utf8_acceptRanges), ("unicode/utf8.first", laid_unicode_utf8_first)], narrowed := true }
def IndexSameUptoSaid : Prop := indexSameUptoRow.holds Tryd.pinned (OpenSpec.upto indexSameSpec)

/-- 'langdoclaw37.IndexKeeps', WHERE WHAT IT READS IS OF BULK AT MOST 1048576: true; the input reads as it did. -/
def indexKeepsUptoRow : OpenClaim := { program := "ytjpjpgeeeigbkaadoor", sum := "ee84fc694bc3bcd5087fdac6005391268f7165697d61bb844d83acf439cb3d04", func := "langdoc/langdoclaw37.IndexKeeps", spec := "indexKeeps", unfollowed := true, recurses := true, named := ["unicode/utf8.first", "unicode/utf8.acceptRanges"], apart := false, laid := [("unicode/utf8.acceptRanges", laid_unicode_utf8_acceptRanges), ("unicode/utf8.first", laid_unicode_utf8_first)], narrowed := true }
def IndexKeepsUptoSaid : Prop := indexKeepsUptoRow.holds Tryd.pinned (OpenSpec.upto indexKeepsSpec)

/-- 'langdoclaw37.IndexOnce', WHERE WHAT IT READS IS OF BULK AT MOST 1048576: true; the input reads as it did. -/
def indexOnceUptoRow : OpenClaim := { program := "ytjpjpgeeeigbkaadoor", sum := "ee84fc694bc3bcd5087fdac6005391268f7165697d61bb844d83acf439cb3d04", func := "langdoc/langdoclaw37.IndexOnce", spec := "indexOnce", unfollowed := true, recurses := true, named := ["unicode/utf8.first", "unicode/utf8.acceptRanges"], apart := false, laid := [("unicode/utf8.acceptRanges", laid_unicode_utf8_acceptRanges), ("unicode/utf8.first", laid_unicode_utf8_first)], narrowed := true }
def IndexOnceUptoSaid : Prop := indexOnceUptoRow.holds Tryd.pinned (OpenSpec.upto indexOnceSpec)

/-- 'langdoclaw37.IndexMoves', WHERE WHAT IT READS IS OF BULK AT MOST 1048576: true; the input reads as it did. -/
def indexMovesUptoRow : OpenClaim := { program := "ytjpjpgeeeigbkaadoor", sum := "ee84fc694bc3bcd5087fdac6005391268f7165697d61bb844d83acf439cb3d04", func := "langdoc/langdoclaw37.IndexMoves", spec := "indexMoves", unfollowed := true, recurses := true, named := ["unicode/utf8.first", "unicode/utf8.acceptRanges"], apart := false, laid := [("unicode/utf8.acceptRanges", laid_unicode_utf8_acceptRanges), ("unicode/utf8.first", laid_unicode_utf8_first)], narrowed := true }
def IndexMovesUptoSaid : Prop := indexMovesUptoRow.holds Tryd.pinned (OpenSpec.upto indexMovesSpec)

/-- 'langdoclaw37.IndexUpdates', WHERE WHAT IT READS IS OF BULK AT MOST 1048576: true; the input reads as it did. -/
def indexUpdatesUptoRow : OpenClaim := { program := "ytjpjpgeeeigbkaadoor", sum := "ee84fc694bc3bcd5087fdac6005391268f7165697d61bb844d83acf439cb3d04", func := "langdoc/langdoclaw37.IndexUpdates", spec := "indexUpdates", unfollowed := true, recurses := true, named := ["unicode/utf8.first", "unicode/utf8.acceptRanges"], apart := false, laid := [("unicode/utf8.acceptRanges", laid_unicode_utf8_acceptRanges), ("unicode/utf8.first", laid_unicode_utf8_first)], narrowed := true }
def IndexUpdatesUptoSaid : Prop := indexUpdatesUptoRow.holds Tryd.pinned (OpenSpec.upto indexUpdatesSpec)

/-- 'langdoclaw37.IndexDerived', WHERE WHAT IT READS IS OF BULK AT MOST 1048576: true; the input reads as it did. -/
def indexDerivedUptoRow : OpenClaim := { program := "ytjpjpgeeeigbkaadoor", sum := "ee84fc694bc3bcd5087fdac6005391268f7165697d61bb844d83acf439cb3d04", func := "langdoc/langdoclaw37.IndexDerived", spec := "indexDerived", unfollowed := true, recurses := true, named := ["unicode/utf8.first", "unicode/utf8.acceptRanges"], apart := false, laid := [("unicode/utf8.acceptRanges", laid_unicode_utf8_acceptRanges), ("unicode/utf8.first", laid_unicode_utf8_first)], narrowed := true }
def IndexDerivedUptoSaid : Prop := indexDerivedUptoRow.holds Tryd.pinned (OpenSpec.upto indexDerivedSpec)

end Rows
end Go.Proofs.YtjpjpgeeeigbkaaDoor
