/-
  Walks of align: the reference's Of.
-/
import Derived.Test.YtnifmbbpfdghmaaGreatDoorVa
set_option linter.all false
namespace Go.Proofs.YtnifmbbpfdghmaaGreatDoor
open Go.RowKit Go.En
attribute [local irreducible] E EL K Val Enters Rt Calls bodyPost Code.wp RQ
end Go.Proofs.YtnifmbbpfdghmaaGreatDoor
