/-
  DERIVED. GIVEN WITH THE SEED: THE CARDS: each row of YtnohbinebhhlpaaGreatDoorRows.lean that lists a variable, with what it lists TIED to the program's text (the seventh form; the later family's looks); each row that meets fmt, with fmt's text TOLD by the authors' own Lean function (tested against real Go, not proved from fmt's source: count such statements apart). THE CARD IS WHAT COUNTS. Prove the row's statement (the work); the ties are given (YtnohbinebhhlpaaGreatDoorTie.lean); close each card by the builder's one call (the guide's Derived/Test/ToyasCard.lean, 'card_holds'). Laid BY PROGRAM, IN A SANDBOX (cutbox-door.mjs). By AI agents, Wed Nov 11 2026. No macro, syntax, notation, axiom, sorry.
-/
import Derived.Test.YtnohbinebhhlpaaGreatDoorRows
import GoSem.ClaimSeven
namespace Go.Proofs.YtnohbinebhhlpaaGreatDoor
namespace Rows

/-- THE TIED CARD OF 'laws.FnExactValuesAfter'. -/
def fnExactValuesAfterCard : Claim7 := { stood := { row := fnExactValuesAfterRow, standIns := [], harness := (true, "75510f0fa774749ef19a7c9a15bc9f91dae2e0eed5bbe1ffb8681ed085e6590f"), looks := true }, kinds := [], alts := [], laidByText := true, laidKinds := [.data, .data, .data, .sentinel, .sentinel], laidTests := true, laidLooks := .later }
def FnExactValuesAfterCardSaid : Prop := Claim7.holds Tryz.pinned (.plain (OpenSpec.ofChange fnExactValuesAfterSpec)) fnExactValuesAfterCard

/-- THE TIED CARD OF 'laws.FnExactValueOfPlan'. -/
def fnExactValueOfPlanCard : Claim7 := { stood := { row := fnExactValueOfPlanRow, standIns := [], harness := (true, "75510f0fa774749ef19a7c9a15bc9f91dae2e0eed5bbe1ffb8681ed085e6590f"), looks := true }, kinds := [], alts := [], laidByText := true, laidKinds := [.data, .data, .data, .sentinel, .sentinel], laidTests := true, laidLooks := .later }
def FnExactValueOfPlanCardSaid : Prop := Claim7.holds Tryz.pinned (.plain (OpenSpec.ofChange fnExactValueOfPlanSpec)) fnExactValueOfPlanCard

/-- THE TIED CARD OF 'laws.FnExactPolicyChain'. -/
def fnExactPolicyChainCard : Claim7 := { stood := { row := fnExactPolicyChainRow, standIns := [], harness := (true, "75510f0fa774749ef19a7c9a15bc9f91dae2e0eed5bbe1ffb8681ed085e6590f"), looks := true }, kinds := [], alts := [], laidByText := true, laidKinds := [.data, .data, .data, .sentinel, .sentinel], laidTests := true, laidLooks := .later }
def FnExactPolicyChainCardSaid : Prop := Claim7.holds Tryz.pinned (.plain (OpenSpec.ofChange fnExactPolicyChainSpec)) fnExactPolicyChainCard

/-- THE TIED CARD OF 'laws.FnExactRelativeOf'. -/
def fnExactRelativeOfCard : Claim7 := { stood := { row := fnExactRelativeOfRow, standIns := [], harness := (true, "75510f0fa774749ef19a7c9a15bc9f91dae2e0eed5bbe1ffb8681ed085e6590f"), looks := true }, kinds := [], alts := [], laidByText := true, laidKinds := [.data, .data, .data, .sentinel, .sentinel], laidTests := true, laidLooks := .later }
def FnExactRelativeOfCardSaid : Prop := Claim7.holds Tryz.pinned (.plain (OpenSpec.ofChange fnExactRelativeOfSpec)) fnExactRelativeOfCard

/-- THE TIED CARD OF 'laws.FnExactGainOf'. -/
def fnExactGainOfCard : Claim7 := { stood := { row := fnExactGainOfRow, standIns := [], harness := (true, "75510f0fa774749ef19a7c9a15bc9f91dae2e0eed5bbe1ffb8681ed085e6590f"), looks := true }, kinds := [], alts := [], laidByText := true, laidKinds := [.data, .data, .data, .sentinel, .sentinel], laidTests := true, laidLooks := .later }
def FnExactGainOfCardSaid : Prop := Claim7.holds Tryz.pinned (.plain (OpenSpec.ofChange fnExactGainOfSpec)) fnExactGainOfCard

/-- THE TIED CARD OF 'laws.FnExactTurnedAway'. -/
def fnExactTurnedAwayCard : Claim7 := { stood := { row := fnExactTurnedAwayRow, standIns := [], harness := (true, "75510f0fa774749ef19a7c9a15bc9f91dae2e0eed5bbe1ffb8681ed085e6590f"), looks := true }, kinds := [], alts := [], laidByText := true, laidKinds := [.data, .data, .data, .sentinel, .sentinel], laidTests := true, laidLooks := .later }
def FnExactTurnedAwayCardSaid : Prop := Claim7.holds Tryz.pinned (.plain (OpenSpec.ofChange fnExactTurnedAwaySpec)) fnExactTurnedAwayCard

/-- THE TIED CARD OF 'laws.FnExactBestThreshold'. -/
def fnExactBestThresholdCard : Claim7 := { stood := { row := fnExactBestThresholdRow, standIns := [], harness := (true, "75510f0fa774749ef19a7c9a15bc9f91dae2e0eed5bbe1ffb8681ed085e6590f"), looks := true }, kinds := [], alts := [], laidByText := true, laidKinds := [.data, .data, .data, .sentinel, .sentinel], laidTests := true, laidLooks := .later }
def FnExactBestThresholdCardSaid : Prop := Claim7.holds Tryz.pinned (.plain (OpenSpec.ofChange fnExactBestThresholdSpec)) fnExactBestThresholdCard

/-- THE TIED CARD OF 'laws.FnExactMeanLine'. -/
def fnExactMeanLineCard : Claim7 := { stood := { row := fnExactMeanLineRow, standIns := [], harness := (true, "75510f0fa774749ef19a7c9a15bc9f91dae2e0eed5bbe1ffb8681ed085e6590f"), looks := true }, kinds := [], alts := [], laidByText := true, laidKinds := [.data, .data, .data, .sentinel, .sentinel], laidTests := true, laidLooks := .later }
def FnExactMeanLineCardSaid : Prop := Claim7.holds Tryz.pinned (.plain (OpenSpec.ofChange fnExactMeanLineSpec)) fnExactMeanLineCard

/-- THE TIED CARD OF 'laws.FnExactGainsOf'. -/
def fnExactGainsOfCard : Claim7 := { stood := { row := fnExactGainsOfRow, standIns := [], harness := (true, "75510f0fa774749ef19a7c9a15bc9f91dae2e0eed5bbe1ffb8681ed085e6590f"), looks := true }, kinds := [], alts := [], laidByText := true, laidKinds := [.data, .data, .data, .sentinel, .sentinel], laidTests := true, laidLooks := .later }
def FnExactGainsOfCardSaid : Prop := Claim7.holds Tryz.pinned (.plain (OpenSpec.ofChange fnExactGainsOfSpec)) fnExactGainsOfCard

/-- THE TIED CARD OF 'laws.FnExactWorstAfter'. -/
def fnExactWorstAfterCard : Claim7 := { stood := { row := fnExactWorstAfterRow, standIns := [], harness := (true, "75510f0fa774749ef19a7c9a15bc9f91dae2e0eed5bbe1ffb8681ed085e6590f"), looks := true }, kinds := [], alts := [], laidByText := true, laidKinds := [.data, .data, .data, .sentinel, .sentinel], laidTests := true, laidLooks := .later }
def FnExactWorstAfterCardSaid : Prop := Claim7.holds Tryz.pinned (.plain (OpenSpec.ofChange fnExactWorstAfterSpec)) fnExactWorstAfterCard

/-- THE TIED CARD OF 'laws.FnExactNarrowOf'. -/
def fnExactNarrowOfCard : Claim7 := { stood := { row := fnExactNarrowOfRow, standIns := [], harness := (true, "75510f0fa774749ef19a7c9a15bc9f91dae2e0eed5bbe1ffb8681ed085e6590f"), looks := true }, kinds := [], alts := [], laidByText := true, laidKinds := [.data, .data, .data, .sentinel, .sentinel], laidTests := true, laidLooks := .later }
def FnExactNarrowOfCardSaid : Prop := Claim7.holds Tryz.pinned (.plain (OpenSpec.ofChange fnExactNarrowOfSpec)) fnExactNarrowOfCard

/-- THE SECOND FORM's CARD OF 'laws.FnExactValuesAfter'. -/
def fnExactValuesAfterUptoCard : Claim7 := { stood := { row := fnExactValuesAfterUptoRow, standIns := [], harness := (true, "75510f0fa774749ef19a7c9a15bc9f91dae2e0eed5bbe1ffb8681ed085e6590f"), looks := true }, kinds := [], alts := [], laidByText := true, laidKinds := [.data, .data, .data, .sentinel, .sentinel], laidTests := true, laidLooks := .later }
def FnExactValuesAfterUptoCardSaid : Prop := Claim7.holds Tryz.pinned (.plain (OpenSpec.upto fnExactValuesAfterSpec)) fnExactValuesAfterUptoCard

/-- THE SECOND FORM's CARD OF 'laws.FnExactValueOfPlan'. -/
def fnExactValueOfPlanUptoCard : Claim7 := { stood := { row := fnExactValueOfPlanUptoRow, standIns := [], harness := (true, "75510f0fa774749ef19a7c9a15bc9f91dae2e0eed5bbe1ffb8681ed085e6590f"), looks := true }, kinds := [], alts := [], laidByText := true, laidKinds := [.data, .data, .data, .sentinel, .sentinel], laidTests := true, laidLooks := .later }
def FnExactValueOfPlanUptoCardSaid : Prop := Claim7.holds Tryz.pinned (.plain (OpenSpec.upto fnExactValueOfPlanSpec)) fnExactValueOfPlanUptoCard

/-- THE SECOND FORM's CARD OF 'laws.FnExactPolicyChain'. -/
def fnExactPolicyChainUptoCard : Claim7 := { stood := { row := fnExactPolicyChainUptoRow, standIns := [], harness := (true, "75510f0fa774749ef19a7c9a15bc9f91dae2e0eed5bbe1ffb8681ed085e6590f"), looks := true }, kinds := [], alts := [], laidByText := true, laidKinds := [.data, .data, .data, .sentinel, .sentinel], laidTests := true, laidLooks := .later }
def FnExactPolicyChainUptoCardSaid : Prop := Claim7.holds Tryz.pinned (.plain (OpenSpec.upto fnExactPolicyChainSpec)) fnExactPolicyChainUptoCard

/-- THE SECOND FORM's CARD OF 'laws.FnExactRelativeOf'. -/
def fnExactRelativeOfUptoCard : Claim7 := { stood := { row := fnExactRelativeOfUptoRow, standIns := [], harness := (true, "75510f0fa774749ef19a7c9a15bc9f91dae2e0eed5bbe1ffb8681ed085e6590f"), looks := true }, kinds := [], alts := [], laidByText := true, laidKinds := [.data, .data, .data, .sentinel, .sentinel], laidTests := true, laidLooks := .later }
def FnExactRelativeOfUptoCardSaid : Prop := Claim7.holds Tryz.pinned (.plain (OpenSpec.upto fnExactRelativeOfSpec)) fnExactRelativeOfUptoCard

/-- THE SECOND FORM's CARD OF 'laws.FnExactGainOf'. -/
def fnExactGainOfUptoCard : Claim7 := { stood := { row := fnExactGainOfUptoRow, standIns := [], harness := (true, "75510f0fa774749ef19a7c9a15bc9f91dae2e0eed5bbe1ffb8681ed085e6590f"), looks := true }, kinds := [], alts := [], laidByText := true, laidKinds := [.data, .data, .data, .sentinel, .sentinel], laidTests := true, laidLooks := .later }
def FnExactGainOfUptoCardSaid : Prop := Claim7.holds Tryz.pinned (.plain (OpenSpec.upto fnExactGainOfSpec)) fnExactGainOfUptoCard

/-- THE SECOND FORM's CARD OF 'laws.FnExactTurnedAway'. -/
def fnExactTurnedAwayUptoCard : Claim7 := { stood := { row := fnExactTurnedAwayUptoRow, standIns := [], harness := (true, "75510f0fa774749ef19a7c9a15bc9f91dae2e0eed5bbe1ffb8681ed085e6590f"), looks := true }, kinds := [], alts := [], laidByText := true, laidKinds := [.data, .data, .data, .sentinel, .sentinel], laidTests := true, laidLooks := .later }
def FnExactTurnedAwayUptoCardSaid : Prop := Claim7.holds Tryz.pinned (.plain (OpenSpec.upto fnExactTurnedAwaySpec)) fnExactTurnedAwayUptoCard

/-- THE SECOND FORM's CARD OF 'laws.FnExactBestThreshold'. -/
def fnExactBestThresholdUptoCard : Claim7 := { stood := { row := fnExactBestThresholdUptoRow, standIns := [], harness := (true, "75510f0fa774749ef19a7c9a15bc9f91dae2e0eed5bbe1ffb8681ed085e6590f"), looks := true }, kinds := [], alts := [], laidByText := true, laidKinds := [.data, .data, .data, .sentinel, .sentinel], laidTests := true, laidLooks := .later }
def FnExactBestThresholdUptoCardSaid : Prop := Claim7.holds Tryz.pinned (.plain (OpenSpec.upto fnExactBestThresholdSpec)) fnExactBestThresholdUptoCard

/-- THE SECOND FORM's CARD OF 'laws.FnExactMeanLine'. -/
def fnExactMeanLineUptoCard : Claim7 := { stood := { row := fnExactMeanLineUptoRow, standIns := [], harness := (true, "75510f0fa774749ef19a7c9a15bc9f91dae2e0eed5bbe1ffb8681ed085e6590f"), looks := true }, kinds := [], alts := [], laidByText := true, laidKinds := [.data, .data, .data, .sentinel, .sentinel], laidTests := true, laidLooks := .later }
def FnExactMeanLineUptoCardSaid : Prop := Claim7.holds Tryz.pinned (.plain (OpenSpec.upto fnExactMeanLineSpec)) fnExactMeanLineUptoCard

/-- THE SECOND FORM's CARD OF 'laws.FnExactGainsOf'. -/
def fnExactGainsOfUptoCard : Claim7 := { stood := { row := fnExactGainsOfUptoRow, standIns := [], harness := (true, "75510f0fa774749ef19a7c9a15bc9f91dae2e0eed5bbe1ffb8681ed085e6590f"), looks := true }, kinds := [], alts := [], laidByText := true, laidKinds := [.data, .data, .data, .sentinel, .sentinel], laidTests := true, laidLooks := .later }
def FnExactGainsOfUptoCardSaid : Prop := Claim7.holds Tryz.pinned (.plain (OpenSpec.upto fnExactGainsOfSpec)) fnExactGainsOfUptoCard

/-- THE SECOND FORM's CARD OF 'laws.FnExactWorstAfter'. -/
def fnExactWorstAfterUptoCard : Claim7 := { stood := { row := fnExactWorstAfterUptoRow, standIns := [], harness := (true, "75510f0fa774749ef19a7c9a15bc9f91dae2e0eed5bbe1ffb8681ed085e6590f"), looks := true }, kinds := [], alts := [], laidByText := true, laidKinds := [.data, .data, .data, .sentinel, .sentinel], laidTests := true, laidLooks := .later }
def FnExactWorstAfterUptoCardSaid : Prop := Claim7.holds Tryz.pinned (.plain (OpenSpec.upto fnExactWorstAfterSpec)) fnExactWorstAfterUptoCard

/-- THE SECOND FORM's CARD OF 'laws.FnExactNarrowOf'. -/
def fnExactNarrowOfUptoCard : Claim7 := { stood := { row := fnExactNarrowOfUptoRow, standIns := [], harness := (true, "75510f0fa774749ef19a7c9a15bc9f91dae2e0eed5bbe1ffb8681ed085e6590f"), looks := true }, kinds := [], alts := [], laidByText := true, laidKinds := [.data, .data, .data, .sentinel, .sentinel], laidTests := true, laidLooks := .later }
def FnExactNarrowOfUptoCardSaid : Prop := Claim7.holds Tryz.pinned (.plain (OpenSpec.upto fnExactNarrowOfSpec)) fnExactNarrowOfUptoCard
end Rows
end Go.Proofs.YtnohbinebhhlpaaGreatDoor
