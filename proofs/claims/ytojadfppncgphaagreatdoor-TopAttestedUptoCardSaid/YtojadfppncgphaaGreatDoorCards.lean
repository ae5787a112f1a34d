/-
  DERIVED. GIVEN WITH THE SEED: THE CARDS: each row of YtojadfppncgphaaGreatDoorRows.lean that lists a variable, with what it lists TIED to the program's text (the seventh form; the later family's looks); each row that meets fmt, with fmt's text TOLD by the authors' own Lean function (tested against real Go, not proved from fmt's source: count such statements apart). THE CARD IS WHAT COUNTS. Prove the row's statement (the work); the ties are given (YtojadfppncgphaaGreatDoorTie.lean); close each card by the builder's one call (the guide's Derived/Test/ToyasCard.lean, 'card_holds'). Laid BY PROGRAM, IN A SANDBOX (cutbox-door.mjs). By AI agents, Wed Nov 11 2026. No macro, syntax, notation, axiom, sorry.
-/
import Derived.Test.YtojadfppncgphaaGreatDoorRows
import GoSem.ClaimSeven
namespace Go.Proofs.YtojadfppncgphaaGreatDoor
namespace Rows

/-- THE TIED CARD OF 'langdoctop.TopWithdrawn'. -/
def topWithdrawnCard : Claim7 := { stood := { row := topWithdrawnRow, standIns := [], harness := (true, "2cd051b41ccb1482a82d5dcd70d0e4e5f3833d7c66981f8d4e8a17e933768ba5"), looks := false }, kinds := [], alts := [], laidByText := true, laidKinds := [.data, .data, .data, .data, .pinned], laidTests := true, laidLooks := .later }
def TopWithdrawnCardSaid : Prop := Claim7.holds Tryz.pinned (.plain (OpenSpec.ofChange topWithdrawnSpec)) topWithdrawnCard

/-- THE TIED CARD OF 'langdoctop.TopAttested'. -/
def topAttestedCard : Claim7 := { stood := { row := topAttestedRow, standIns := [], harness := (true, "2cd051b41ccb1482a82d5dcd70d0e4e5f3833d7c66981f8d4e8a17e933768ba5"), looks := false }, kinds := [], alts := [], laidByText := true, laidKinds := [.data, .data, .data, .data, .pinned], laidTests := true, laidLooks := .later }
def TopAttestedCardSaid : Prop := Claim7.holds Tryz.pinned (.plain (OpenSpec.ofChange topAttestedSpec)) topAttestedCard

/-- THE SECOND FORM's CARD OF 'langdoctop.TopWithdrawn'. -/
def topWithdrawnUptoCard : Claim7 := { stood := { row := topWithdrawnUptoRow, standIns := [], harness := (true, "2cd051b41ccb1482a82d5dcd70d0e4e5f3833d7c66981f8d4e8a17e933768ba5"), looks := false }, kinds := [], alts := [], laidByText := true, laidKinds := [.data, .data, .data, .data, .pinned], laidTests := true, laidLooks := .later }
def TopWithdrawnUptoCardSaid : Prop := Claim7.holds Tryz.pinned (.plain (OpenSpec.upto topWithdrawnSpec)) topWithdrawnUptoCard

/-- THE SECOND FORM's CARD OF 'langdoctop.TopAttested'. -/
def topAttestedUptoCard : Claim7 := { stood := { row := topAttestedUptoRow, standIns := [], harness := (true, "2cd051b41ccb1482a82d5dcd70d0e4e5f3833d7c66981f8d4e8a17e933768ba5"), looks := false }, kinds := [], alts := [], laidByText := true, laidKinds := [.data, .data, .data, .data, .pinned], laidTests := true, laidLooks := .later }
def TopAttestedUptoCardSaid : Prop := Claim7.holds Tryz.pinned (.plain (OpenSpec.upto topAttestedSpec)) topAttestedUptoCard
end Rows
end Go.Proofs.YtojadfppncgphaaGreatDoor
