/-
  Walks: the reference's lists of spans (insert, without, Union, Minus, Covers): they come to an end. Walks: the reference's tier, Check of tiers. Walks: the reference's placed, noteError.
-/
import Derived.Test.YtnifmbbpfdghmaaGreatDoorY5
import Derived.Test.YtnifmbbpfdghmaaGreatDoorY1
set_option linter.all false
namespace Go.Proofs.YtnifmbbpfdghmaaGreatDoor
open Go.RowKit Go.En
/-- two rows of one's own, apart -/
def Sep (u v : Value) : Prop := ∀ b, u.ownBlock = some b → v.ownBlock ≠ some b
theorem Sep.symm {u v : Value} (h : Sep u v) : Sep v u := fun b h1 h2 => h b h2 h1
theorem Sep.kept {u v : Value} (h : Sep u v) : u.ownBlock = none ∨ u.ownBlock ≠ v.ownBlock := by
  cases hu : u.ownBlock with
  | none => exact .inl rfl
  | some b => exact .inr (fun e => h b hu e.symm)
theorem Sep.app {u v v' : Value} {w : World} {B : Nat} {e : TypeId} {sz n : Nat} {xs : List Value} (h : Sep u v) (hu : w.ownsRow B e sz u n xs) (hv : v'.ownBlock = v.ownBlock ∨ v'.ownBlock = some w.heap.size) : Sep u v' := fun b hb e => by
  rcases hv with hv | hv
  · exact h b hb (hv ▸ e)
  · have := (hu.lt b hb).2
    rw [hv] at e; cases e; omega
attribute [local irreducible] E EL K Val Enters Rt Calls bodyPost Code.wp RQ
end Go.Proofs.YtnifmbbpfdghmaaGreatDoor
namespace Go.Proofs.YtnifmbbpfdghmaaGreatDoor
open Go.RowKit Go.En
attribute [local irreducible] E EL K Val Enters Rt Calls bodyPost Code.wp RQ
end Go.Proofs.YtnifmbbpfdghmaaGreatDoor
namespace Go.Proofs.YtnifmbbpfdghmaaGreatDoor
open Go.RowKit Go.En
attribute [local irreducible] E EL K Val Enters Rt Calls bodyPost Code.wp RQ
end Go.Proofs.YtnifmbbpfdghmaaGreatDoor
