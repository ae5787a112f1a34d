/-
  Walks of the laws of search: SearchTexts, SearchBounds, SearchRuns.
-/
import Derived.Test.YtnifmbbpfdghmaaGreatDoorTj
import Derived.Test.YtnifmbbpfdghmaaGreatDoorTi
set_option linter.all false
namespace Go.Proofs.YtnifmbbpfdghmaaGreatDoor
open Go.RowKit Go.En
theorem light_tierIn {d:Dc} (h:LightD d):Ix.TierIn d:=fun n hn=>by
  obtain⟨t,k,hk,ht,_⟩:=tier_of h hn
  have:=(List.getElem?_eq_some_iff.1 ht).1
  exact⟨by omega,by omega⟩
theorem light_few {d:Dc} (h:LightD d):d.notes.length≤1000:=Nat.le_trans h.nnotes (by omega)
attribute [local irreducible] E EL K Val Enters Rt Calls bodyPost Code.wp RQ
end Go.Proofs.YtnifmbbpfdghmaaGreatDoor
