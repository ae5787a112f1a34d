/-
  Walks: the reference's noteError, tierError. Walks: the reference's Check of tiers, Check, Light, Copy of documents.
-/
import Derived.Test.YtnifmbbpfdghmaaGreatDoorY6
set_option linter.all false
namespace Go.Proofs.YtnifmbbpfdghmaaGreatDoor
open Go.RowKit Go.En
attribute [local irreducible] E EL K Val Enters Rt Calls bodyPost Code.wp RQ
end Go.Proofs.YtnifmbbpfdghmaaGreatDoor
namespace Go.Proofs.YtnifmbbpfdghmaaGreatDoor
open Go.RowKit Go.En
/-- no name is longer than a string can be -/
def Names (d : Dc) : Prop := ∀ t ∈ d.tiers, t.name.length ≤ 9223372036854775807
attribute [local irreducible] E EL K Val Enters Rt Calls bodyPost Code.wp RQ
end Go.Proofs.YtnifmbbpfdghmaaGreatDoor
