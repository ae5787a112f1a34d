/-
  The chapter's example: what its queries find.
-/
import Derived.Test.YtnifmbbpfdghmaaGreatDoorYc
import Derived.Test.YtnifmbbpfdghmaaGreatDoorY4
import Derived.Test.YtnifmbbpfdghmaaGreatDoorY2
set_option linter.all false
namespace Go.Proofs.YtnifmbbpfdghmaaGreatDoor
open Go.RowKit Go.En
def baT : List UInt8 := [98, 97]
def miT : List UInt8 := [109, 105]
def dogT : List UInt8 := [100, 42]
def starT : List UInt8 := [42]
def textQ (role : Int) (p : List UInt8) : Qy := .mk 0 role p []
def twoQ (op : Int) (a b : Qy) : Qy := .mk op 0 [] [a, b]
def notQ (role : Int) (q : Qy) : Qy := .mk 3 role [] [q]
theorem ev_then1 : evF matchF exD (twoQ 4 (textQ 2 baT) (textQ 2 miT)) = [3] := by kernel_rfl
theorem ev_then2 : evF matchF exD (twoQ 4 (textQ 2 miT) (textQ 2 baT)) = [] := by kernel_rfl
theorem ev_has : evF matchF exD (twoQ 6 (textQ 2 starT) (textQ 4 dogT)) = [3] := by kernel_rfl
theorem ev_within : evF matchF exD (twoQ 5 (textQ 4 dogT) (textQ 2 baT)) = [5] := by kernel_rfl
theorem ev_not : evF matchF exD (notQ 2 (textQ 2 baT)) = [2] := by kernel_rfl
theorem ev_or : evF matchF exD (twoQ 2 (textQ 2 baT) (textQ 2 miT)) = [2, 3] := by kernel_rfl
theorem ev_and : evF matchF exD (twoQ 1 (textQ 2 baT) (textQ 2 miT)) = [] := by kernel_rfl
theorem then_ex : idsOf exD (thenP exD [3, 9] [2]) = [3] := by kernel_rfl
end Go.Proofs.YtnifmbbpfdghmaaGreatDoor
