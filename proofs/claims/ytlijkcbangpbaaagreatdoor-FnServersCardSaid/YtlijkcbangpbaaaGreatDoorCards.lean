/-
  DERIVED. GIVEN WITH THE SEED: THE CARDS: each row of YtlijkcbangpbaaaGreatDoorRows.lean that lists a variable, with what it lists TIED to the program's text (the seventh form; the later family's looks); each row that meets fmt, with fmt's text TOLD by the authors' own Lean function (tested against real Go, not proved from fmt's source: count such statements apart). THE CARD IS WHAT COUNTS. Prove the row's statement (the work); the ties are given (YtlijkcbangpbaaaGreatDoorTie.lean); close each card by the builder's one call (the guide's Derived/Test/ToyasCard.lean, 'card_holds'). Laid BY PROGRAM, IN A SANDBOX (cutbox-door.mjs). By AI agents, Wed Nov 11 2026. No macro, syntax, notation, axiom, sorry.
-/
import Derived.Test.YtlijkcbangpbaaaGreatDoorRows
import GoSem.ClaimSeven
namespace Go.Proofs.YtlijkcbangpbaaaGreatDoor
namespace Rows

/-- THE TIED CARD OF 'laws.FnServers'. -/
def fnServersCard : Claim7 := { stood := { row := fnServersRow, standIns := [], harness := (true, "691eaeeed4392504c292277594d34a2d4ea009b9413856a6b038a0013a56841e"), looks := true }, kinds := [], alts := [], laidByText := true, laidKinds := [.data, .data, .data, .sentinel, .sentinel], laidTests := true, laidLooks := .later }
def FnServersCardSaid : Prop := Claim7.holds Tryz.pinned (.plain (OpenSpec.ofChange fnServersSpec)) fnServersCard

/-- THE SECOND FORM's CARD OF 'laws.FnServers'. -/
def fnServersUptoCard : Claim7 := { stood := { row := fnServersUptoRow, standIns := [], harness := (true, "691eaeeed4392504c292277594d34a2d4ea009b9413856a6b038a0013a56841e"), looks := true }, kinds := [], alts := [], laidByText := true, laidKinds := [.data, .data, .data, .sentinel, .sentinel], laidTests := true, laidLooks := .later }
def FnServersUptoCardSaid : Prop := Claim7.holds Tryz.pinned (.plain (OpenSpec.upto fnServersSpec)) fnServersUptoCard
end Rows
end Go.Proofs.YtlijkcbangpbaaaGreatDoor
