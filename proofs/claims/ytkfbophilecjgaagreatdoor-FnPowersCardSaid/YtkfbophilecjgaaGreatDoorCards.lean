/-
  DERIVED. GIVEN WITH THE SEED: THE CARDS: each row of YtkfbophilecjgaaGreatDoorRows.lean that lists a variable, with what it lists TIED to the program's text (the seventh form; the later family's looks); each row that meets fmt, with fmt's text TOLD by the authors' own Lean function (tested against real Go, not proved from fmt's source: count such statements apart). THE CARD IS WHAT COUNTS. Prove the row's statement (the work); the ties are given (YtkfbophilecjgaaGreatDoorTie.lean); close each card by the builder's one call (the guide's Derived/Test/ToyasCard.lean, 'card_holds'). Laid BY PROGRAM, IN A SANDBOX (cutbox-door.mjs). By AI agents, Wed Nov 11 2026. No macro, syntax, notation, axiom, sorry.
-/
import Derived.Test.YtkfbophilecjgaaGreatDoorRows
import GoSem.ClaimSeven
namespace Go.Proofs.YtkfbophilecjgaaGreatDoor
namespace Rows

/-- THE TIED CARD OF 'laws.FnPowers'. -/
def fnPowersCard : Claim7 := { stood := { row := fnPowersRow, standIns := [], harness := (true, "bc4d7a7cdba213d71eede1de389b7e7d1fa6f03eec689b0bd1d2046c03765331"), looks := true }, kinds := [], alts := [], laidByText := true, laidKinds := [.data, .data, .data, .sentinel, .sentinel], laidTests := true, laidLooks := .later }
def FnPowersCardSaid : Prop := Claim7.holds Tryz.pinned (.plain (OpenSpec.ofChange fnPowersSpec)) fnPowersCard

/-- THE SECOND FORM's CARD OF 'laws.FnPowers'. -/
def fnPowersUptoCard : Claim7 := { stood := { row := fnPowersUptoRow, standIns := [], harness := (true, "bc4d7a7cdba213d71eede1de389b7e7d1fa6f03eec689b0bd1d2046c03765331"), looks := true }, kinds := [], alts := [], laidByText := true, laidKinds := [.data, .data, .data, .sentinel, .sentinel], laidTests := true, laidLooks := .later }
def FnPowersUptoCardSaid : Prop := Claim7.holds Tryz.pinned (.plain (OpenSpec.upto fnPowersSpec)) fnPowersUptoCard
end Rows
end Go.Proofs.YtkfbophilecjgaaGreatDoor
