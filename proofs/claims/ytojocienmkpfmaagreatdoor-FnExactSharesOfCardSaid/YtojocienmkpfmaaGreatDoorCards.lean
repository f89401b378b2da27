/-
  DERIVED. GIVEN WITH THE SEED: THE CARDS: each row of YtojocienmkpfmaaGreatDoorRows.lean that lists a variable, with what it lists TIED to the program's text (the seventh form; the later family's looks); each row that meets fmt, with fmt's text TOLD by the authors' own Lean function (tested against real Go, not proved from fmt's source: count such statements apart). THE CARD IS WHAT COUNTS. Prove the row's statement (the work); the ties are given (YtojocienmkpfmaaGreatDoorTie.lean); close each card by the builder's one call (the guide's Derived/Test/ToyasCard.lean, 'card_holds'). Laid BY PROGRAM, IN A SANDBOX (cutbox-door.mjs). By AI agents, Wed Nov 11 2026. No macro, syntax, notation, axiom, sorry.
-/
import Derived.Test.YtojocienmkpfmaaGreatDoorRows
import GoSem.ClaimSeven
namespace Go.Proofs.YtojocienmkpfmaaGreatDoor
namespace Rows

/-- THE TIED CARD OF 'laws.FnExactServersFor'. -/
def fnExactServersForCard : Claim7 := { stood := { row := fnExactServersForRow, standIns := [], harness := (true, "1e62e2e67db4de36a6c5b7563da9af994fe60dcc31a73585201dbafc86f2df93"), looks := true }, kinds := [], alts := [], laidByText := true, laidKinds := [.data, .data, .data, .sentinel, .sentinel], laidTests := true, laidLooks := .later }
def FnExactServersForCardSaid : Prop := Claim7.holds Tryz.pinned (.plain (OpenSpec.ofChange fnExactServersForSpec)) fnExactServersForCard

/-- THE TIED CARD OF 'laws.FnExactStaffFor'. -/
def fnExactStaffForCard : Claim7 := { stood := { row := fnExactStaffForRow, standIns := [], harness := (true, "1e62e2e67db4de36a6c5b7563da9af994fe60dcc31a73585201dbafc86f2df93"), looks := true }, kinds := [], alts := [], laidByText := true, laidKinds := [.data, .data, .data, .sentinel, .sentinel], laidTests := true, laidLooks := .later }
def FnExactStaffForCardSaid : Prop := Claim7.holds Tryz.pinned (.plain (OpenSpec.ofChange fnExactStaffForSpec)) fnExactStaffForCard

/-- THE TIED CARD OF 'laws.FnExactCostOf'. -/
def fnExactCostOfCard : Claim7 := { stood := { row := fnExactCostOfRow, standIns := [], harness := (true, "1e62e2e67db4de36a6c5b7563da9af994fe60dcc31a73585201dbafc86f2df93"), looks := true }, kinds := [], alts := [], laidByText := true, laidKinds := [.data, .data, .data, .sentinel, .sentinel], laidTests := true, laidLooks := .later }
def FnExactCostOfCardSaid : Prop := Claim7.holds Tryz.pinned (.plain (OpenSpec.ofChange fnExactCostOfSpec)) fnExactCostOfCard

/-- THE TIED CARD OF 'laws.FnExactSharesOf'. -/
def fnExactSharesOfCard : Claim7 := { stood := { row := fnExactSharesOfRow, standIns := [], harness := (true, "1e62e2e67db4de36a6c5b7563da9af994fe60dcc31a73585201dbafc86f2df93"), looks := true }, kinds := [], alts := [], laidByText := true, laidKinds := [.data, .data, .data, .sentinel, .sentinel], laidTests := true, laidLooks := .later }
def FnExactSharesOfCardSaid : Prop := Claim7.holds Tryz.pinned (.plain (OpenSpec.ofChange fnExactSharesOfSpec)) fnExactSharesOfCard

/-- THE TIED CARD OF 'laws.FnExactMeanLength'. -/
def fnExactMeanLengthCard : Claim7 := { stood := { row := fnExactMeanLengthRow, standIns := [], harness := (true, "1e62e2e67db4de36a6c5b7563da9af994fe60dcc31a73585201dbafc86f2df93"), looks := true }, kinds := [], alts := [], laidByText := true, laidKinds := [.data, .data, .data, .sentinel, .sentinel], laidTests := true, laidLooks := .later }
def FnExactMeanLengthCardSaid : Prop := Claim7.holds Tryz.pinned (.plain (OpenSpec.ofChange fnExactMeanLengthSpec)) fnExactMeanLengthCard

/-- THE TIED CARD OF 'laws.FnExactLineLoss'. -/
def fnExactLineLossCard : Claim7 := { stood := { row := fnExactLineLossRow, standIns := [], harness := (true, "1e62e2e67db4de36a6c5b7563da9af994fe60dcc31a73585201dbafc86f2df93"), looks := true }, kinds := [], alts := [], laidByText := true, laidKinds := [.data, .data, .data, .sentinel, .sentinel], laidTests := true, laidLooks := .later }
def FnExactLineLossCardSaid : Prop := Claim7.holds Tryz.pinned (.plain (OpenSpec.ofChange fnExactLineLossSpec)) fnExactLineLossCard

/-- THE TIED CARD OF 'laws.FnExactThroughOf'. -/
def fnExactThroughOfCard : Claim7 := { stood := { row := fnExactThroughOfRow, standIns := [], harness := (true, "1e62e2e67db4de36a6c5b7563da9af994fe60dcc31a73585201dbafc86f2df93"), looks := true }, kinds := [], alts := [], laidByText := true, laidKinds := [.data, .data, .data, .sentinel, .sentinel], laidTests := true, laidLooks := .later }
def FnExactThroughOfCardSaid : Prop := Claim7.holds Tryz.pinned (.plain (OpenSpec.ofChange fnExactThroughOfSpec)) fnExactThroughOfCard

/-- THE TIED CARD OF 'laws.FnExactWaitingOf'. -/
def fnExactWaitingOfCard : Claim7 := { stood := { row := fnExactWaitingOfRow, standIns := [], harness := (true, "1e62e2e67db4de36a6c5b7563da9af994fe60dcc31a73585201dbafc86f2df93"), looks := true }, kinds := [], alts := [], laidByText := true, laidKinds := [.data, .data, .data, .sentinel, .sentinel], laidTests := true, laidLooks := .later }
def FnExactWaitingOfCardSaid : Prop := Claim7.holds Tryz.pinned (.plain (OpenSpec.ofChange fnExactWaitingOfSpec)) fnExactWaitingOfCard

/-- THE TIED CARD OF 'laws.FnExactTimeIn'. -/
def fnExactTimeInCard : Claim7 := { stood := { row := fnExactTimeInRow, standIns := [], harness := (true, "1e62e2e67db4de36a6c5b7563da9af994fe60dcc31a73585201dbafc86f2df93"), looks := true }, kinds := [], alts := [], laidByText := true, laidKinds := [.data, .data, .data, .sentinel, .sentinel], laidTests := true, laidLooks := .later }
def FnExactTimeInCardSaid : Prop := Claim7.holds Tryz.pinned (.plain (OpenSpec.ofChange fnExactTimeInSpec)) fnExactTimeInCard

/-- THE TIED CARD OF 'laws.FnExactTimeWaiting'. -/
def fnExactTimeWaitingCard : Claim7 := { stood := { row := fnExactTimeWaitingRow, standIns := [], harness := (true, "1e62e2e67db4de36a6c5b7563da9af994fe60dcc31a73585201dbafc86f2df93"), looks := true }, kinds := [], alts := [], laidByText := true, laidKinds := [.data, .data, .data, .sentinel, .sentinel], laidTests := true, laidLooks := .later }
def FnExactTimeWaitingCardSaid : Prop := Claim7.holds Tryz.pinned (.plain (OpenSpec.ofChange fnExactTimeWaitingSpec)) fnExactTimeWaitingCard

/-- THE TIED CARD OF 'laws.FnServers'. -/
def fnServersCard : Claim7 := { stood := { row := fnServersRow, standIns := [], harness := (true, "1e62e2e67db4de36a6c5b7563da9af994fe60dcc31a73585201dbafc86f2df93"), looks := true }, kinds := [], alts := [], laidByText := true, laidKinds := [.data, .data, .data, .sentinel, .sentinel], laidTests := true, laidLooks := .later }
def FnServersCardSaid : Prop := Claim7.holds Tryz.pinned (.plain (OpenSpec.ofChange fnServersSpec)) fnServersCard

/-- THE TIED CARD OF 'laws.FnShares'. -/
def fnSharesCard : Claim7 := { stood := { row := fnSharesRow, standIns := [], harness := (true, "1e62e2e67db4de36a6c5b7563da9af994fe60dcc31a73585201dbafc86f2df93"), looks := true }, kinds := [], alts := [], laidByText := true, laidKinds := [.data, .data, .data, .sentinel, .sentinel], laidTests := true, laidLooks := .later }
def FnSharesCardSaid : Prop := Claim7.holds Tryz.pinned (.plain (OpenSpec.ofChange fnSharesSpec)) fnSharesCard

/-- THE SECOND FORM's CARD OF 'laws.FnExactServersFor'. -/
def fnExactServersForUptoCard : Claim7 := { stood := { row := fnExactServersForUptoRow, standIns := [], harness := (true, "1e62e2e67db4de36a6c5b7563da9af994fe60dcc31a73585201dbafc86f2df93"), looks := true }, kinds := [], alts := [], laidByText := true, laidKinds := [.data, .data, .data, .sentinel, .sentinel], laidTests := true, laidLooks := .later }
def FnExactServersForUptoCardSaid : Prop := Claim7.holds Tryz.pinned (.plain (OpenSpec.upto fnExactServersForSpec)) fnExactServersForUptoCard

/-- THE SECOND FORM's CARD OF 'laws.FnExactStaffFor'. -/
def fnExactStaffForUptoCard : Claim7 := { stood := { row := fnExactStaffForUptoRow, standIns := [], harness := (true, "1e62e2e67db4de36a6c5b7563da9af994fe60dcc31a73585201dbafc86f2df93"), looks := true }, kinds := [], alts := [], laidByText := true, laidKinds := [.data, .data, .data, .sentinel, .sentinel], laidTests := true, laidLooks := .later }
def FnExactStaffForUptoCardSaid : Prop := Claim7.holds Tryz.pinned (.plain (OpenSpec.upto fnExactStaffForSpec)) fnExactStaffForUptoCard

/-- THE SECOND FORM's CARD OF 'laws.FnExactCostOf'. -/
def fnExactCostOfUptoCard : Claim7 := { stood := { row := fnExactCostOfUptoRow, standIns := [], harness := (true, "1e62e2e67db4de36a6c5b7563da9af994fe60dcc31a73585201dbafc86f2df93"), looks := true }, kinds := [], alts := [], laidByText := true, laidKinds := [.data, .data, .data, .sentinel, .sentinel], laidTests := true, laidLooks := .later }
def FnExactCostOfUptoCardSaid : Prop := Claim7.holds Tryz.pinned (.plain (OpenSpec.upto fnExactCostOfSpec)) fnExactCostOfUptoCard

/-- THE SECOND FORM's CARD OF 'laws.FnExactSharesOf'. -/
def fnExactSharesOfUptoCard : Claim7 := { stood := { row := fnExactSharesOfUptoRow, standIns := [], harness := (true, "1e62e2e67db4de36a6c5b7563da9af994fe60dcc31a73585201dbafc86f2df93"), looks := true }, kinds := [], alts := [], laidByText := true, laidKinds := [.data, .data, .data, .sentinel, .sentinel], laidTests := true, laidLooks := .later }
def FnExactSharesOfUptoCardSaid : Prop := Claim7.holds Tryz.pinned (.plain (OpenSpec.upto fnExactSharesOfSpec)) fnExactSharesOfUptoCard

/-- THE SECOND FORM's CARD OF 'laws.FnExactMeanLength'. -/
def fnExactMeanLengthUptoCard : Claim7 := { stood := { row := fnExactMeanLengthUptoRow, standIns := [], harness := (true, "1e62e2e67db4de36a6c5b7563da9af994fe60dcc31a73585201dbafc86f2df93"), looks := true }, kinds := [], alts := [], laidByText := true, laidKinds := [.data, .data, .data, .sentinel, .sentinel], laidTests := true, laidLooks := .later }
def FnExactMeanLengthUptoCardSaid : Prop := Claim7.holds Tryz.pinned (.plain (OpenSpec.upto fnExactMeanLengthSpec)) fnExactMeanLengthUptoCard

/-- THE SECOND FORM's CARD OF 'laws.FnExactLineLoss'. -/
def fnExactLineLossUptoCard : Claim7 := { stood := { row := fnExactLineLossUptoRow, standIns := [], harness := (true, "1e62e2e67db4de36a6c5b7563da9af994fe60dcc31a73585201dbafc86f2df93"), looks := true }, kinds := [], alts := [], laidByText := true, laidKinds := [.data, .data, .data, .sentinel, .sentinel], laidTests := true, laidLooks := .later }
def FnExactLineLossUptoCardSaid : Prop := Claim7.holds Tryz.pinned (.plain (OpenSpec.upto fnExactLineLossSpec)) fnExactLineLossUptoCard

/-- THE SECOND FORM's CARD OF 'laws.FnExactThroughOf'. -/
def fnExactThroughOfUptoCard : Claim7 := { stood := { row := fnExactThroughOfUptoRow, standIns := [], harness := (true, "1e62e2e67db4de36a6c5b7563da9af994fe60dcc31a73585201dbafc86f2df93"), looks := true }, kinds := [], alts := [], laidByText := true, laidKinds := [.data, .data, .data, .sentinel, .sentinel], laidTests := true, laidLooks := .later }
def FnExactThroughOfUptoCardSaid : Prop := Claim7.holds Tryz.pinned (.plain (OpenSpec.upto fnExactThroughOfSpec)) fnExactThroughOfUptoCard

/-- THE SECOND FORM's CARD OF 'laws.FnExactWaitingOf'. -/
def fnExactWaitingOfUptoCard : Claim7 := { stood := { row := fnExactWaitingOfUptoRow, standIns := [], harness := (true, "1e62e2e67db4de36a6c5b7563da9af994fe60dcc31a73585201dbafc86f2df93"), looks := true }, kinds := [], alts := [], laidByText := true, laidKinds := [.data, .data, .data, .sentinel, .sentinel], laidTests := true, laidLooks := .later }
def FnExactWaitingOfUptoCardSaid : Prop := Claim7.holds Tryz.pinned (.plain (OpenSpec.upto fnExactWaitingOfSpec)) fnExactWaitingOfUptoCard

/-- THE SECOND FORM's CARD OF 'laws.FnExactTimeIn'. -/
def fnExactTimeInUptoCard : Claim7 := { stood := { row := fnExactTimeInUptoRow, standIns := [], harness := (true, "1e62e2e67db4de36a6c5b7563da9af994fe60dcc31a73585201dbafc86f2df93"), looks := true }, kinds := [], alts := [], laidByText := true, laidKinds := [.data, .data, .data, .sentinel, .sentinel], laidTests := true, laidLooks := .later }
def FnExactTimeInUptoCardSaid : Prop := Claim7.holds Tryz.pinned (.plain (OpenSpec.upto fnExactTimeInSpec)) fnExactTimeInUptoCard

/-- THE SECOND FORM's CARD OF 'laws.FnExactTimeWaiting'. -/
def fnExactTimeWaitingUptoCard : Claim7 := { stood := { row := fnExactTimeWaitingUptoRow, standIns := [], harness := (true, "1e62e2e67db4de36a6c5b7563da9af994fe60dcc31a73585201dbafc86f2df93"), looks := true }, kinds := [], alts := [], laidByText := true, laidKinds := [.data, .data, .data, .sentinel, .sentinel], laidTests := true, laidLooks := .later }
def FnExactTimeWaitingUptoCardSaid : Prop := Claim7.holds Tryz.pinned (.plain (OpenSpec.upto fnExactTimeWaitingSpec)) fnExactTimeWaitingUptoCard

/-- THE SECOND FORM's CARD OF 'laws.FnServers'. -/
def fnServersUptoCard : Claim7 := { stood := { row := fnServersUptoRow, standIns := [], harness := (true, "1e62e2e67db4de36a6c5b7563da9af994fe60dcc31a73585201dbafc86f2df93"), looks := true }, kinds := [], alts := [], laidByText := true, laidKinds := [.data, .data, .data, .sentinel, .sentinel], laidTests := true, laidLooks := .later }
def FnServersUptoCardSaid : Prop := Claim7.holds Tryz.pinned (.plain (OpenSpec.upto fnServersSpec)) fnServersUptoCard

/-- THE SECOND FORM's CARD OF 'laws.FnShares'. -/
def fnSharesUptoCard : Claim7 := { stood := { row := fnSharesUptoRow, standIns := [], harness := (true, "1e62e2e67db4de36a6c5b7563da9af994fe60dcc31a73585201dbafc86f2df93"), looks := true }, kinds := [], alts := [], laidByText := true, laidKinds := [.data, .data, .data, .sentinel, .sentinel], laidTests := true, laidLooks := .later }
def FnSharesUptoCardSaid : Prop := Claim7.holds Tryz.pinned (.plain (OpenSpec.upto fnSharesSpec)) fnSharesUptoCard
end Rows
end Go.Proofs.YtojocienmkpfmaaGreatDoor
