/-
  What the rows of the seat ask of the whole program, each once.
-/
import Derived.Test.YtnifmbbpfdghmaaGreatDoorCards
import Derived.Test.YtnifmbbpfdghmaaGreatDoorProg
import Derived.JoinedCond
import Derived.SevenTiedAt
import Derived.KernelRfl
set_option linter.all false
namespace Go.Proofs.YtnifmbbpfdghmaaGreatDoor
theorem band {a b:Bool} (ha:a=true) (hb:b=true):(a&&b)=true:=by rw [ha,hb];rfl
theorem pj_laid:laidOutB Tryz.pinned.checked.prog=true:=by kernel_rfl
theorem pj_rowed:mapsRowed Tryz.pinned.checked.prog=true:=by kernel_rfl
theorem pj_heard:Tryz.pinned.checked.prog.stopsHeard=true:=by kernel_rfl
theorem pj_enter:Tryz.pinned.checked.prog.mayEnter=true:=by kernel_rfl
theorem pj_lifts:(Rows.searchTextsRow.lifted==Tryz.pinned.checked.prog.liftsFinal)=true:=by kernel_rfl
theorem pj_make:(Tryz.pinned.checked.prog.make==some Rows.searchTextsRow.make)=true:=by kernel_rfl
theorem pj_plain:(Rows.searchTextsRow.plainKeys==Tryz.pinned.checked.prog.plainKeys)=true:=by kernel_rfl
theorem pj_main:Tryz.pinned.checked.prog.mainIs=some (Rows.searchTextsCard.stood.harness.1,Rows.searchTextsCard.stood.harness.2.toList):=by kernel_rfl
end Go.Proofs.YtnifmbbpfdghmaaGreatDoor
