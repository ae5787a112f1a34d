/-
  No cell of these rows narrows 'for every input' (looked for: loops, veiled, ifaces, maps, wideKeys, modest, calm, conditions, laid).
  DERIVED. THE GIVEN ROWS OF THIS SEAT. 8 by the template 'for every input the law returns true; each argument reads behind the call as it read before'; 0 by the template 'total and deterministic' (their statements: YtaajcbhingpfeaaTotals.lean).
  GIVEN WITH THE SEED: the statements are not yours to turn. If you find one false, say at which input.
  Laid BY PROGRAM, IN A SANDBOX (cutbox-rows.mjs): the forced cells as the released guide's own fill.sh prints them over the translation 085b9549e0722bb1… (all of the seat's roots in one cut). By AI agents, Wed Nov 11 2026. No macro, syntax, notation, axiom, sorry.
-/
import Derived.Test.YtaajcbhingpfeaaChecked
import GoSem.Claim
import GoSem.ClaimJoined
import GoSem.ClaimMapViews
import Derived.JoinedTies
import Derived.KernelRfl
namespace Go.Proofs.Ytaajcbhingpfeaa
/- THE CELL 'sum', in the pinned program and in every row, IS THE sha256 OF THE DUMP (.gsa) THAT YtaajcbhingpfeaaProg.lean LOADS. Nothing in Lean hashes anything: it is a label: what it is worth is what the hold of that sum in a sandbox is worth. -/
noncomputable def Try.pinned : Pinned := { name := "ytaajcbhingpfeaa", sum := "085b9549e0722bb1089f301eb6ff0ed3b0d356f77824ef642473fb128c0a219e", checked := Try.checked }
namespace Rows
def none {H : Type} : Left H := { results := [], args := [] }

/-- 'langdoclaw14.AlignChains': WHATEVER THE INPUT: true; the input reads as it did. -/
def alignChainsSpec : ChangeSpec := { name := "alignChains", fn := fun _ => fun
  | [d1, d2] => { results := [.lit (.bool true)], args := [d1, d2] }
  | _ => none }
def alignChainsRow : OpenClaim := { program := "ytaajcbhingpfeaa", sum := "085b9549e0722bb1089f301eb6ff0ed3b0d356f77824ef642473fb128c0a219e", func := "langdoc/langdoclaw14.AlignChains", spec := "alignChains", unfollowed := true, recurses := true, apart := false }
def AlignChainsSaid : Prop := alignChainsRow.holds Try.pinned (OpenSpec.ofChange alignChainsSpec)

/-- ITS FALSE NEIGHBOUR: 'it returns false'. Refute it at one input. -/
def alignChainsWrong : ChangeSpec := { name := "alignChains", fn := fun _ => fun
  | [d1, d2] => { results := [.lit (.bool false)], args := [d1, d2] }
  | _ => none }
def AlignChainsWrongFalsely : Prop := alignChainsRow.holds Try.pinned (OpenSpec.ofChange alignChainsWrong)

/-- 'langdoclaw14.AlignWhere': WHATEVER THE INPUT: true; the input reads as it did. -/
def alignWhereSpec : ChangeSpec := { name := "alignWhere", fn := fun _ => fun
  | [d1, d2] => { results := [.lit (.bool true)], args := [d1, d2] }
  | _ => none }
def alignWhereRow : OpenClaim := { program := "ytaajcbhingpfeaa", sum := "085b9549e0722bb1089f301eb6ff0ed3b0d356f77824ef642473fb128c0a219e", func := "langdoc/langdoclaw14.AlignWhere", spec := "alignWhere", unfollowed := true, recurses := true, apart := false }
def AlignWhereSaid : Prop := alignWhereRow.holds Try.pinned (OpenSpec.ofChange alignWhereSpec)

/-- ITS FALSE NEIGHBOUR: 'it returns false'. Refute it at one input. -/
def alignWhereWrong : ChangeSpec := { name := "alignWhere", fn := fun _ => fun
  | [d1, d2] => { results := [.lit (.bool false)], args := [d1, d2] }
  | _ => none }
def AlignWhereWrongFalsely : Prop := alignWhereRow.holds Try.pinned (OpenSpec.ofChange alignWhereWrong)

/-- 'langdoclaw14.AlignOver': WHATEVER THE INPUT: true; the input reads as it did. -/
def alignOverSpec : ChangeSpec := { name := "alignOver", fn := fun _ => fun
  | [d1, d2, d3] => { results := [.lit (.bool true)], args := [d1, d2, d3] }
  | _ => none }
def alignOverRow : OpenClaim := { program := "ytaajcbhingpfeaa", sum := "085b9549e0722bb1089f301eb6ff0ed3b0d356f77824ef642473fb128c0a219e", func := "langdoc/langdoclaw14.AlignOver", spec := "alignOver", unfollowed := true, recurses := true, apart := false }
def AlignOverSaid : Prop := alignOverRow.holds Try.pinned (OpenSpec.ofChange alignOverSpec)

/-- ITS FALSE NEIGHBOUR: 'it returns false'. Refute it at one input. -/
def alignOverWrong : ChangeSpec := { name := "alignOver", fn := fun _ => fun
  | [d1, d2, d3] => { results := [.lit (.bool false)], args := [d1, d2, d3] }
  | _ => none }
def AlignOverWrongFalsely : Prop := alignOverRow.holds Try.pinned (OpenSpec.ofChange alignOverWrong)

/-- 'langdoclaw14.AlignAt': WHATEVER THE INPUT: true; the input reads as it did. -/
def alignAtSpec : ChangeSpec := { name := "alignAt", fn := fun _ => fun
  | [d1, d2, d3] => { results := [.lit (.bool true)], args := [d1, d2, d3] }
  | _ => none }
def alignAtRow : OpenClaim := { program := "ytaajcbhingpfeaa", sum := "085b9549e0722bb1089f301eb6ff0ed3b0d356f77824ef642473fb128c0a219e", func := "langdoc/langdoclaw14.AlignAt", spec := "alignAt", unfollowed := true, recurses := true, apart := false }
def AlignAtSaid : Prop := alignAtRow.holds Try.pinned (OpenSpec.ofChange alignAtSpec)

/-- ITS FALSE NEIGHBOUR: 'it returns false'. Refute it at one input. -/
def alignAtWrong : ChangeSpec := { name := "alignAt", fn := fun _ => fun
  | [d1, d2, d3] => { results := [.lit (.bool false)], args := [d1, d2, d3] }
  | _ => none }
def AlignAtWrongFalsely : Prop := alignAtRow.holds Try.pinned (OpenSpec.ofChange alignAtWrong)

/-- 'langdoclaw14.AlignWords': WHATEVER THE INPUT: true; the input reads as it did. -/
def alignWordsSpec : ChangeSpec := { name := "alignWords", fn := fun _ => fun
  | [d1, d2, d3] => { results := [.lit (.bool true)], args := [d1, d2, d3] }
  | _ => none }
def alignWordsRow : OpenClaim := { program := "ytaajcbhingpfeaa", sum := "085b9549e0722bb1089f301eb6ff0ed3b0d356f77824ef642473fb128c0a219e", func := "langdoc/langdoclaw14.AlignWords", spec := "alignWords", unfollowed := true, recurses := true, apart := false }
def AlignWordsSaid : Prop := alignWordsRow.holds Try.pinned (OpenSpec.ofChange alignWordsSpec)

/-- ITS FALSE NEIGHBOUR: 'it returns false'. Refute it at one input. -/
def alignWordsWrong : ChangeSpec := { name := "alignWords", fn := fun _ => fun
  | [d1, d2, d3] => { results := [.lit (.bool false)], args := [d1, d2, d3] }
  | _ => none }
def AlignWordsWrongFalsely : Prop := alignWordsRow.holds Try.pinned (OpenSpec.ofChange alignWordsWrong)

/-- 'langdoclaw14.AlignWithin': WHATEVER THE INPUT: true; the input reads as it did. -/
def alignWithinSpec : ChangeSpec := { name := "alignWithin", fn := fun _ => fun
  | [d] => { results := [.lit (.bool true)], args := [d] }
  | _ => none }
def alignWithinRow : OpenClaim := { program := "ytaajcbhingpfeaa", sum := "085b9549e0722bb1089f301eb6ff0ed3b0d356f77824ef642473fb128c0a219e", func := "langdoc/langdoclaw14.AlignWithin", spec := "alignWithin", unfollowed := true, recurses := true, apart := false }
def AlignWithinSaid : Prop := alignWithinRow.holds Try.pinned (OpenSpec.ofChange alignWithinSpec)

/-- ITS FALSE NEIGHBOUR: 'it returns false'. Refute it at one input. -/
def alignWithinWrong : ChangeSpec := { name := "alignWithin", fn := fun _ => fun
  | [d] => { results := [.lit (.bool false)], args := [d] }
  | _ => none }
def AlignWithinWrongFalsely : Prop := alignWithinRow.holds Try.pinned (OpenSpec.ofChange alignWithinWrong)

/-- 'langdoclaw14.AlignOrders': WHATEVER THE INPUT: true; the input reads as it did. -/
def alignOrdersSpec : ChangeSpec := { name := "alignOrders", fn := fun _ => fun
  | [d] => { results := [.lit (.bool true)], args := [d] }
  | _ => none }
def alignOrdersRow : OpenClaim := { program := "ytaajcbhingpfeaa", sum := "085b9549e0722bb1089f301eb6ff0ed3b0d356f77824ef642473fb128c0a219e", func := "langdoc/langdoclaw14.AlignOrders", spec := "alignOrders", unfollowed := true, recurses := true, apart := false }
def AlignOrdersSaid : Prop := alignOrdersRow.holds Try.pinned (OpenSpec.ofChange alignOrdersSpec)

/-- ITS FALSE NEIGHBOUR: 'it returns false'. Refute it at one input. -/
def alignOrdersWrong : ChangeSpec := { name := "alignOrders", fn := fun _ => fun
  | [d] => { results := [.lit (.bool false)], args := [d] }
  | _ => none }
def AlignOrdersWrongFalsely : Prop := alignOrdersRow.holds Try.pinned (OpenSpec.ofChange alignOrdersWrong)

/-- 'langdoclaw14.AlignMeets': WHATEVER THE INPUT: true; the input reads as it did. -/
def alignMeetsSpec : ChangeSpec := { name := "alignMeets", fn := fun _ => fun
  | [d1, d2, d3, d4] => { results := [.lit (.bool true)], args := [d1, d2, d3, d4] }
  | _ => none }
def alignMeetsRow : OpenClaim := { program := "ytaajcbhingpfeaa", sum := "085b9549e0722bb1089f301eb6ff0ed3b0d356f77824ef642473fb128c0a219e", func := "langdoc/langdoclaw14.AlignMeets", spec := "alignMeets", unfollowed := true, recurses := true, apart := false }
def AlignMeetsSaid : Prop := alignMeetsRow.holds Try.pinned (OpenSpec.ofChange alignMeetsSpec)

/-- ITS FALSE NEIGHBOUR: 'it returns false'. Refute it at one input. -/
def alignMeetsWrong : ChangeSpec := { name := "alignMeets", fn := fun _ => fun
  | [d1, d2, d3, d4] => { results := [.lit (.bool false)], args := [d1, d2, d3, d4] }
  | _ => none }
def AlignMeetsWrongFalsely : Prop := alignMeetsRow.holds Try.pinned (OpenSpec.ofChange alignMeetsWrong)

/- THE SECOND FORM. 'bulk': how many values and letters a reading holds, each counted each time it is reached (what is shared counts as often as it is met; a slice's spare places count too). A statement '..UptoSaid' is the law's where the arguments, and the package variables that the reading takes, are together of bulk at most 1048576: NARROWER than '..Said'. Prove '..Said' where nothing that the law and all that it calls make is longer than what came in: it says more and counts as full. Else prove '..UptoSaid'. A law counts once. -/
mutual
def uptoBulk {H : Type} : DataW H → Nat
  | .lit (.string bytes) => bytes.length + 1
  | .lit _ => 1
  | .nil => 1
  | .ptr d => uptoBulk d + 1
  | .slice elems spare => uptoBulkAll elems + uptoBulkAll spare + 1
  | .agg parts => uptoBulkAll parts + 1
  | .iface _ d => uptoBulk d + 1
  | .map entries => uptoBulkEntries entries + 1
  | .held _ => 1
def uptoBulkAll {H : Type} : List (DataW H) → Nat
  | [] => 0
  | d :: r => uptoBulk d + uptoBulkAll r
def uptoBulkEntries {H : Type} : List (Lit × DataW H) → Nat
  | [] => 0
  | x :: r => uptoBulkEntry x + uptoBulkEntries r
def uptoBulkEntry {H : Type} : Lit × DataW H → Nat
  | (.string bytes, d) => bytes.length + uptoBulk d + 1
  | (_, d) => uptoBulk d + 1
 end
def uptoSmall : (H : Type) → List (DataW H) → Bool := fun _ ds => decide (uptoBulkAll ds ≤ 1048576)
def OpenSpec.upto (s : _root_.Go.ChangeSpec) : _root_.Go.OpenSpec := { _root_.Go.OpenSpec.ofChange s with cond := some uptoSmall }

/-- 'langdoclaw14.AlignChains', WHERE WHAT IT READS IS OF BULK AT MOST 1048576: true; the input reads as it did. -/
def alignChainsUptoRow : OpenClaim := { program := "ytaajcbhingpfeaa", sum := "085b9549e0722bb1089f301eb6ff0ed3b0d356f77824ef642473fb128c0a219e", func := "langdoc/langdoclaw14.AlignChains", spec := "alignChains", unfollowed := true, recurses := true, apart := false, narrowed := true }
def AlignChainsUptoSaid : Prop := alignChainsUptoRow.holds Try.pinned (OpenSpec.upto alignChainsSpec)

/-- 'langdoclaw14.AlignWhere', WHERE WHAT IT READS IS OF BULK AT MOST 1048576: true; the input reads as it did. -/
def alignWhereUptoRow : OpenClaim := { program := "ytaajcbhingpfeaa", sum := "085b9549e0722bb1089f301eb6ff0ed3b0d356f77824ef642473fb128c0a219e", func := "langdoc/langdoclaw14.AlignWhere", spec := "alignWhere", unfollowed := true, recurses := true, apart := false, narrowed := true }
def AlignWhereUptoSaid : Prop := alignWhereUptoRow.holds Try.pinned (OpenSpec.upto alignWhereSpec)

/-- 'langdoclaw14.AlignOver', WHERE WHAT IT READS IS OF BULK AT MOST 1048576: true; the input reads as it did. -/
def alignOverUptoRow : OpenClaim := { program := "ytaajcbhingpfeaa", sum := "085b9549e0722bb1089f301eb6ff0ed3b0d356f77824ef642473fb128c0a219e", func := "langdoc/langdoclaw14.AlignOver", spec := "alignOver", unfollowed := true, recurses := true, apart := false, narrowed := true }
def AlignOverUptoSaid : Prop := alignOverUptoRow.holds Try.pinned (OpenSpec.upto alignOverSpec)

/-- 'langdoclaw14.AlignAt', WHERE WHAT IT READS IS OF BULK AT MOST 1048576: true; the input reads as it did. -/
def alignAtUptoRow : OpenClaim := { program := "ytaajcbhingpfeaa", sum := "085b9549e0722bb1089f301eb6ff0ed3b0d356f77824ef642473fb128c0a219e", func := "langdoc/langdoclaw14.AlignAt", spec := "alignAt", unfollowed := true, recurses := true, apart := false, narrowed := true }
def AlignAtUptoSaid : Prop := alignAtUptoRow.holds Try.pinned (OpenSpec.upto alignAtSpec)

/-- 'langdoclaw14.AlignWords', WHERE WHAT IT READS IS OF BULK AT MOST 1048576: true; the input reads as it did. -/
def alignWordsUptoRow : OpenClaim := { program := "ytaajcbhingpfeaa", sum := "085b9549e0722bb1089f301eb6ff0ed3b0d356f77824ef642473fb128c0a219e", func := "langdoc/langdoclaw14.AlignWords", spec := "alignWords", unfollowed := true, recurses := true, apart := false, narrowed := true }
def AlignWordsUptoSaid : Prop := alignWordsUptoRow.holds Try.pinned (OpenSpec.upto alignWordsSpec)

/-- 'langdoclaw14.AlignWithin', WHERE WHAT IT READS IS OF BULK AT MOST 1048576: true; the input reads as it did. -/
def alignWithinUptoRow : OpenClaim := { program := "ytaajcbhingpfeaa", sum := "085b9549e0722bb1089f301eb6ff0ed3b0d356f77824ef642473fb128c0a219e", func := "langdoc/langdoclaw14.AlignWithin", spec := "alignWithin", unfollowed := true, recurses := true, apart := false, narrowed := true }
def AlignWithinUptoSaid : Prop := alignWithinUptoRow.holds Try.pinned (OpenSpec.upto alignWithinSpec)

/-- 'langdoclaw14.AlignOrders', WHERE WHAT IT READS IS OF BULK AT MOST 1048576: true; the input reads as it did. -/
def alignOrdersUptoRow : OpenClaim := { program := "ytaajcbhingpfeaa", sum := "085b9549e0722bb1089f301eb6ff0ed3b0d356f77824ef642473fb128c0a219e", func := "langdoc/langdoclaw14.AlignOrders", spec := "alignOrders", unfollowed := true, recurses := true, apart := false, narrowed := true }
def AlignOrdersUptoSaid : Prop := alignOrdersUptoRow.holds Try.pinned (OpenSpec.upto alignOrdersSpec)

/-- 'langdoclaw14.AlignMeets', WHERE WHAT IT READS IS OF BULK AT MOST 1048576: true; the input reads as it did. -/
def alignMeetsUptoRow : OpenClaim := { program := "ytaajcbhingpfeaa", sum := "085b9549e0722bb1089f301eb6ff0ed3b0d356f77824ef642473fb128c0a219e", func := "langdoc/langdoclaw14.AlignMeets", spec := "alignMeets", unfollowed := true, recurses := true, apart := false, narrowed := true }
def AlignMeetsUptoSaid : Prop := alignMeetsUptoRow.holds Try.pinned (OpenSpec.upto alignMeetsSpec)

end Rows
end Go.Proofs.Ytaajcbhingpfeaa
