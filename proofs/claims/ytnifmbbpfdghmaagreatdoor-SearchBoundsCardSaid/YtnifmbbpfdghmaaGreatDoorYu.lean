/-
  Walks of the reference's match: Role, text; of the tier of a role. Walks of match: Holds; of the reference's Eval and Holds.
-/
import Derived.Test.YtnifmbbpfdghmaaGreatDoorNi
import Derived.Test.YtnifmbbpfdghmaaGreatDoorQe
import Derived.Test.YtnifmbbpfdghmaaGreatDoorY3
set_option linter.all false
namespace Go.Proofs.YtnifmbbpfdghmaaGreatDoor
open Go.RowKit Go.En
attribute [local irreducible] E EL K Val Enters Rt Calls bodyPost Code.wp RQ
end Go.Proofs.YtnifmbbpfdghmaaGreatDoor
namespace Go.Proofs.YtnifmbbpfdghmaaGreatDoor
open Go.RowKit Go.En
attribute [local irreducible] E EL K Val Enters Rt Calls bodyPost Code.wp RQ
/-- a Kid of a query that lies in memory -/
theorem kid_at {w : World} {b off n cap i : Nat} {kids : List Qy} {k : Qy} (h : Sl w (.slice (some ⟨b, off, none⟩) n cap) kids) (hk : kids[i]? = some k) : ∃ kv, At w b (off + i * 4) [int k.op, int k.role, str k.text, kv] ∧ Sl w kv k.kids := by
  obtain ⟨kcs, hkr, hkat⟩ := h.elem hk
  obtain ⟨kkv, rfl, hkk⟩ := qy_cells hkr
  exact ⟨kkv, hkat, hkk⟩
end Go.Proofs.YtnifmbbpfdghmaaGreatDoor
