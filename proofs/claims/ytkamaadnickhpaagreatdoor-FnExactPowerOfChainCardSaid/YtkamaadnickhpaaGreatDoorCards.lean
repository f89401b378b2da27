/-
  DERIVED. GIVEN WITH THE SEED: THE CARDS: each row of YtkamaadnickhpaaGreatDoorRows.lean that lists a variable, with what it lists TIED to the program's text (the seventh form; the later family's looks); each row that meets fmt, with fmt's text TOLD by the authors' own Lean function (tested against real Go, not proved from fmt's source: count such statements apart). THE CARD IS WHAT COUNTS. Prove the row's statement (the work); the ties are given (YtkamaadnickhpaaGreatDoorTie.lean); close each card by the builder's one call (the guide's Derived/Test/ToyasCard.lean, 'card_holds'). Laid BY PROGRAM, IN A SANDBOX (cutbox-door.mjs). By AI agents, Wed Nov 11 2026. No macro, syntax, notation, axiom, sorry.
-/
import Derived.Test.YtkamaadnickhpaaGreatDoorRows
import GoSem.ClaimSeven
namespace Go.Proofs.YtkamaadnickhpaaGreatDoor
namespace Rows

/-- THE TIED CARD OF 'laws.FnExactStepsToRest'. -/
def fnExactStepsToRestCard : Claim7 := { stood := { row := fnExactStepsToRestRow, standIns := [], harness := (true, "245f919cce943b081a6ca52d79e6e894b93627e36a157504c675496bd107d455"), looks := true }, kinds := [], alts := [], laidByText := true, laidKinds := [.data, .data, .data, .sentinel, .sentinel], laidTests := true, laidLooks := .later }
def FnExactStepsToRestCardSaid : Prop := Claim7.holds Tryz.pinned (.plain (OpenSpec.ofChange fnExactStepsToRestSpec)) fnExactStepsToRestCard

/-- THE TIED CARD OF 'laws.FnExactValidDesk'. -/
def fnExactValidDeskCard : Claim7 := { stood := { row := fnExactValidDeskRow, standIns := [], harness := (true, "245f919cce943b081a6ca52d79e6e894b93627e36a157504c675496bd107d455"), looks := true }, kinds := [], alts := [], laidByText := true, laidKinds := [.data, .data, .data, .sentinel, .sentinel], laidTests := true, laidLooks := .later }
def FnExactValidDeskCardSaid : Prop := Claim7.holds Tryz.pinned (.plain (OpenSpec.ofChange fnExactValidDeskSpec)) fnExactValidDeskCard

/-- THE TIED CARD OF 'laws.FnExactChainText'. -/
def fnExactChainTextCard : Claim7 := { stood := { row := fnExactChainTextRow, standIns := [], harness := (true, "245f919cce943b081a6ca52d79e6e894b93627e36a157504c675496bd107d455"), looks := true }, kinds := [], alts := [], laidByText := true, laidKinds := [.data, .data, .data, .sentinel, .sentinel], laidTests := true, laidLooks := .later }
def FnExactChainTextCardSaid : Prop := Claim7.holds Tryz.pinned (.plain (OpenSpec.ofChange fnExactChainTextSpec)) fnExactChainTextCard

/-- THE TIED CARD OF 'laws.FnExactCommonShare'. -/
def fnExactCommonShareCard : Claim7 := { stood := { row := fnExactCommonShareRow, standIns := [], harness := (true, "245f919cce943b081a6ca52d79e6e894b93627e36a157504c675496bd107d455"), looks := true }, kinds := [], alts := [], laidByText := true, laidKinds := [.data, .data, .data, .sentinel, .sentinel], laidTests := true, laidLooks := .later }
def FnExactCommonShareCardSaid : Prop := Claim7.holds Tryz.pinned (.plain (OpenSpec.ofChange fnExactCommonShareSpec)) fnExactCommonShareCard

/-- THE TIED CARD OF 'laws.FnExactWidestRows'. -/
def fnExactWidestRowsCard : Claim7 := { stood := { row := fnExactWidestRowsRow, standIns := [], harness := (true, "245f919cce943b081a6ca52d79e6e894b93627e36a157504c675496bd107d455"), looks := true }, kinds := [], alts := [], laidByText := true, laidKinds := [.data, .data, .data, .sentinel, .sentinel], laidTests := true, laidLooks := .later }
def FnExactWidestRowsCardSaid : Prop := Claim7.holds Tryz.pinned (.plain (OpenSpec.ofChange fnExactWidestRowsSpec)) fnExactWidestRowsCard

/-- THE TIED CARD OF 'laws.FnExactRestBound'. -/
def fnExactRestBoundCard : Claim7 := { stood := { row := fnExactRestBoundRow, standIns := [], harness := (true, "245f919cce943b081a6ca52d79e6e894b93627e36a157504c675496bd107d455"), looks := true }, kinds := [], alts := [], laidByText := true, laidKinds := [.data, .data, .data, .sentinel, .sentinel], laidTests := true, laidLooks := .later }
def FnExactRestBoundCardSaid : Prop := Claim7.holds Tryz.pinned (.plain (OpenSpec.ofChange fnExactRestBoundSpec)) fnExactRestBoundCard

/-- THE TIED CARD OF 'laws.FnExactCommonAfter'. -/
def fnExactCommonAfterCard : Claim7 := { stood := { row := fnExactCommonAfterRow, standIns := [], harness := (true, "245f919cce943b081a6ca52d79e6e894b93627e36a157504c675496bd107d455"), looks := true }, kinds := [], alts := [], laidByText := true, laidKinds := [.data, .data, .data, .sentinel, .sentinel], laidTests := true, laidLooks := .later }
def FnExactCommonAfterCardSaid : Prop := Claim7.holds Tryz.pinned (.plain (OpenSpec.ofChange fnExactCommonAfterSpec)) fnExactCommonAfterCard

/-- THE TIED CARD OF 'laws.FnExactPowerOfChain'. -/
def fnExactPowerOfChainCard : Claim7 := { stood := { row := fnExactPowerOfChainRow, standIns := [], harness := (true, "245f919cce943b081a6ca52d79e6e894b93627e36a157504c675496bd107d455"), looks := true }, kinds := [], alts := [], laidByText := true, laidKinds := [.data, .data, .data, .sentinel, .sentinel], laidTests := true, laidLooks := .later }
def FnExactPowerOfChainCardSaid : Prop := Claim7.holds Tryz.pinned (.plain (OpenSpec.ofChange fnExactPowerOfChainSpec)) fnExactPowerOfChainCard

/-- THE SECOND FORM's CARD OF 'laws.FnExactStepsToRest'. -/
def fnExactStepsToRestUptoCard : Claim7 := { stood := { row := fnExactStepsToRestUptoRow, standIns := [], harness := (true, "245f919cce943b081a6ca52d79e6e894b93627e36a157504c675496bd107d455"), looks := true }, kinds := [], alts := [], laidByText := true, laidKinds := [.data, .data, .data, .sentinel, .sentinel], laidTests := true, laidLooks := .later }
def FnExactStepsToRestUptoCardSaid : Prop := Claim7.holds Tryz.pinned (.plain (OpenSpec.upto fnExactStepsToRestSpec)) fnExactStepsToRestUptoCard

/-- THE SECOND FORM's CARD OF 'laws.FnExactValidDesk'. -/
def fnExactValidDeskUptoCard : Claim7 := { stood := { row := fnExactValidDeskUptoRow, standIns := [], harness := (true, "245f919cce943b081a6ca52d79e6e894b93627e36a157504c675496bd107d455"), looks := true }, kinds := [], alts := [], laidByText := true, laidKinds := [.data, .data, .data, .sentinel, .sentinel], laidTests := true, laidLooks := .later }
def FnExactValidDeskUptoCardSaid : Prop := Claim7.holds Tryz.pinned (.plain (OpenSpec.upto fnExactValidDeskSpec)) fnExactValidDeskUptoCard

/-- THE SECOND FORM's CARD OF 'laws.FnExactChainText'. -/
def fnExactChainTextUptoCard : Claim7 := { stood := { row := fnExactChainTextUptoRow, standIns := [], harness := (true, "245f919cce943b081a6ca52d79e6e894b93627e36a157504c675496bd107d455"), looks := true }, kinds := [], alts := [], laidByText := true, laidKinds := [.data, .data, .data, .sentinel, .sentinel], laidTests := true, laidLooks := .later }
def FnExactChainTextUptoCardSaid : Prop := Claim7.holds Tryz.pinned (.plain (OpenSpec.upto fnExactChainTextSpec)) fnExactChainTextUptoCard

/-- THE SECOND FORM's CARD OF 'laws.FnExactCommonShare'. -/
def fnExactCommonShareUptoCard : Claim7 := { stood := { row := fnExactCommonShareUptoRow, standIns := [], harness := (true, "245f919cce943b081a6ca52d79e6e894b93627e36a157504c675496bd107d455"), looks := true }, kinds := [], alts := [], laidByText := true, laidKinds := [.data, .data, .data, .sentinel, .sentinel], laidTests := true, laidLooks := .later }
def FnExactCommonShareUptoCardSaid : Prop := Claim7.holds Tryz.pinned (.plain (OpenSpec.upto fnExactCommonShareSpec)) fnExactCommonShareUptoCard

/-- THE SECOND FORM's CARD OF 'laws.FnExactWidestRows'. -/
def fnExactWidestRowsUptoCard : Claim7 := { stood := { row := fnExactWidestRowsUptoRow, standIns := [], harness := (true, "245f919cce943b081a6ca52d79e6e894b93627e36a157504c675496bd107d455"), looks := true }, kinds := [], alts := [], laidByText := true, laidKinds := [.data, .data, .data, .sentinel, .sentinel], laidTests := true, laidLooks := .later }
def FnExactWidestRowsUptoCardSaid : Prop := Claim7.holds Tryz.pinned (.plain (OpenSpec.upto fnExactWidestRowsSpec)) fnExactWidestRowsUptoCard

/-- THE SECOND FORM's CARD OF 'laws.FnExactRestBound'. -/
def fnExactRestBoundUptoCard : Claim7 := { stood := { row := fnExactRestBoundUptoRow, standIns := [], harness := (true, "245f919cce943b081a6ca52d79e6e894b93627e36a157504c675496bd107d455"), looks := true }, kinds := [], alts := [], laidByText := true, laidKinds := [.data, .data, .data, .sentinel, .sentinel], laidTests := true, laidLooks := .later }
def FnExactRestBoundUptoCardSaid : Prop := Claim7.holds Tryz.pinned (.plain (OpenSpec.upto fnExactRestBoundSpec)) fnExactRestBoundUptoCard

/-- THE SECOND FORM's CARD OF 'laws.FnExactCommonAfter'. -/
def fnExactCommonAfterUptoCard : Claim7 := { stood := { row := fnExactCommonAfterUptoRow, standIns := [], harness := (true, "245f919cce943b081a6ca52d79e6e894b93627e36a157504c675496bd107d455"), looks := true }, kinds := [], alts := [], laidByText := true, laidKinds := [.data, .data, .data, .sentinel, .sentinel], laidTests := true, laidLooks := .later }
def FnExactCommonAfterUptoCardSaid : Prop := Claim7.holds Tryz.pinned (.plain (OpenSpec.upto fnExactCommonAfterSpec)) fnExactCommonAfterUptoCard

/-- THE SECOND FORM's CARD OF 'laws.FnExactPowerOfChain'. -/
def fnExactPowerOfChainUptoCard : Claim7 := { stood := { row := fnExactPowerOfChainUptoRow, standIns := [], harness := (true, "245f919cce943b081a6ca52d79e6e894b93627e36a157504c675496bd107d455"), looks := true }, kinds := [], alts := [], laidByText := true, laidKinds := [.data, .data, .data, .sentinel, .sentinel], laidTests := true, laidLooks := .later }
def FnExactPowerOfChainUptoCardSaid : Prop := Claim7.holds Tryz.pinned (.plain (OpenSpec.upto fnExactPowerOfChainSpec)) fnExactPowerOfChainUptoCard
end Rows
end Go.Proofs.YtkamaadnickhpaaGreatDoor
