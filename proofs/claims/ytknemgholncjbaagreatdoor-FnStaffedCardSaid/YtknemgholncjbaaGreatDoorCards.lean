/-
  DERIVED. GIVEN WITH THE SEED: THE CARDS: each row of YtknemgholncjbaaGreatDoorRows.lean that lists a variable, with what it lists TIED to the program's text (the seventh form; the later family's looks); each row that meets fmt, with fmt's text TOLD by the authors' own Lean function (tested against real Go, not proved from fmt's source: count such statements apart). THE CARD IS WHAT COUNTS. Prove the row's statement (the work); the ties are given (YtknemgholncjbaaGreatDoorTie.lean); close each card by the builder's one call (the guide's Derived/Test/ToyasCard.lean, 'card_holds'). Laid BY PROGRAM, IN A SANDBOX (cutbox-door.mjs). By AI agents, Wed Nov 11 2026. No macro, syntax, notation, axiom, sorry.
-/
import Derived.Test.YtknemgholncjbaaGreatDoorRows
import GoSem.ClaimSeven
namespace Go.Proofs.YtknemgholncjbaaGreatDoor
namespace Rows

/-- THE TIED CARD OF 'laws.FnStaffed'. -/
def fnStaffedCard : Claim7 := { stood := { row := fnStaffedRow, standIns := [], harness := (true, "dd85c1ebc51e65d383ccec4115fa44338b805439a4a321f526eab75f938add93"), looks := true }, kinds := [], alts := [], laidByText := true, laidKinds := [.data, .data, .data, .sentinel, .sentinel], laidTests := true, laidLooks := .later }
def FnStaffedCardSaid : Prop := Claim7.holds Tryz.pinned (.plain (OpenSpec.ofChange fnStaffedSpec)) fnStaffedCard

/-- THE SECOND FORM's CARD OF 'laws.FnStaffed'. -/
def fnStaffedUptoCard : Claim7 := { stood := { row := fnStaffedUptoRow, standIns := [], harness := (true, "dd85c1ebc51e65d383ccec4115fa44338b805439a4a321f526eab75f938add93"), looks := true }, kinds := [], alts := [], laidByText := true, laidKinds := [.data, .data, .data, .sentinel, .sentinel], laidTests := true, laidLooks := .later }
def FnStaffedUptoCardSaid : Prop := Claim7.holds Tryz.pinned (.plain (OpenSpec.upto fnStaffedSpec)) fnStaffedUptoCard
end Rows
end Go.Proofs.YtknemgholncjbaaGreatDoor
