/-
  DERIVED. GIVEN WITH THE SEED: THE CARDS: each row of YtdcchollplhioaaGreatDoorRows.lean that lists a variable, with what it lists TIED to the program's text (the seventh form; the later family's looks); each row that meets fmt, with fmt's text TOLD by the authors' own Lean function (tested against real Go, not proved from fmt's source: count such statements apart). THE CARD IS WHAT COUNTS. Prove the row's statement (the work); the ties are given (YtdcchollplhioaaGreatDoorTie.lean); close each card by the builder's one call (the guide's Derived/Test/ToyasCard.lean, 'card_holds'). Laid BY PROGRAM, IN A SANDBOX (cutbox-door.mjs). By AI agents, Wed Nov 11 2026. No macro, syntax, notation, axiom, sorry.
-/
import Derived.Test.YtdcchollplhioaaGreatDoorRows
import GoSem.ClaimSeven
namespace Go.Proofs.YtdcchollplhioaaGreatDoor
namespace Rows

/-- THE TIED CARD OF 'accountinglaw38.CostingRuns'. -/
def costingRunsCard : Claim7 := { stood := { row := costingRunsRow, standIns := [], harness := (true, "e30d4fb2c9949e9fc9658ae88c069cb4f236adc20831330984f2657d2ec26bc7"), looks := false }, kinds := [], alts := [], laidByText := true, laidKinds := [.data], laidTests := true, laidLooks := .later }
def CostingRunsCardSaid : Prop := Claim7.holds Tryz.pinned (.plain (OpenSpec.ofChange costingRunsSpec)) costingRunsCard

/-- THE TIED CARD OF 'accountinglaw38.CostingSteps'. -/
def costingStepsCard : Claim7 := { stood := { row := costingStepsRow, standIns := [], harness := (true, "e30d4fb2c9949e9fc9658ae88c069cb4f236adc20831330984f2657d2ec26bc7"), looks := false }, kinds := [], alts := [], laidByText := true, laidKinds := [.data], laidTests := true, laidLooks := .later }
def CostingStepsCardSaid : Prop := Claim7.holds Tryz.pinned (.plain (OpenSpec.ofChange costingStepsSpec)) costingStepsCard

/-- THE TIED CARD OF 'accountinglaw38.CostingConserves'. -/
def costingConservesCard : Claim7 := { stood := { row := costingConservesRow, standIns := [], harness := (true, "e30d4fb2c9949e9fc9658ae88c069cb4f236adc20831330984f2657d2ec26bc7"), looks := false }, kinds := [], alts := [], laidByText := true, laidKinds := [.data], laidTests := true, laidLooks := .later }
def CostingConservesCardSaid : Prop := Claim7.holds Tryz.pinned (.plain (OpenSpec.ofChange costingConservesSpec)) costingConservesCard

/-- THE TIED CARD OF 'accountinglaw38.CostingEach'. -/
def costingEachCard : Claim7 := { stood := { row := costingEachRow, standIns := [], harness := (true, "e30d4fb2c9949e9fc9658ae88c069cb4f236adc20831330984f2657d2ec26bc7"), looks := false }, kinds := [], alts := [], laidByText := true, laidKinds := [.data], laidTests := true, laidLooks := .later }
def CostingEachCardSaid : Prop := Claim7.holds Tryz.pinned (.plain (OpenSpec.ofChange costingEachSpec)) costingEachCard

/-- THE TIED CARD OF 'accountinglaw38.CostingReturns'. -/
def costingReturnsCard : Claim7 := { stood := { row := costingReturnsRow, standIns := [], harness := (true, "e30d4fb2c9949e9fc9658ae88c069cb4f236adc20831330984f2657d2ec26bc7"), looks := false }, kinds := [], alts := [], laidByText := true, laidKinds := [.data], laidTests := true, laidLooks := .later }
def CostingReturnsCardSaid : Prop := Claim7.holds Tryz.pinned (.plain (OpenSpec.ofChange costingReturnsSpec)) costingReturnsCard

/-- THE TIED CARD OF 'accountinglaw38.CostingPrefix'. -/
def costingPrefixCard : Claim7 := { stood := { row := costingPrefixRow, standIns := [], harness := (true, "e30d4fb2c9949e9fc9658ae88c069cb4f236adc20831330984f2657d2ec26bc7"), looks := false }, kinds := [], alts := [], laidByText := true, laidKinds := [.data], laidTests := true, laidLooks := .later }
def CostingPrefixCardSaid : Prop := Claim7.holds Tryz.pinned (.plain (OpenSpec.ofChange costingPrefixSpec)) costingPrefixCard

/-- THE TIED CARD OF 'accountinglaw38.CostingMethods'. -/
def costingMethodsCard : Claim7 := { stood := { row := costingMethodsRow, standIns := [], harness := (true, "e30d4fb2c9949e9fc9658ae88c069cb4f236adc20831330984f2657d2ec26bc7"), looks := false }, kinds := [], alts := [], laidByText := true, laidKinds := [.data], laidTests := true, laidLooks := .later }
def CostingMethodsCardSaid : Prop := Claim7.holds Tryz.pinned (.plain (OpenSpec.ofChange costingMethodsSpec)) costingMethodsCard

/-- THE TIED CARD OF 'accountinglaw38.CostingLevels'. -/
def costingLevelsCard : Claim7 := { stood := { row := costingLevelsRow, standIns := [], harness := (true, "e30d4fb2c9949e9fc9658ae88c069cb4f236adc20831330984f2657d2ec26bc7"), looks := false }, kinds := [], alts := [], laidByText := true, laidKinds := [.data], laidTests := true, laidLooks := .later }
def CostingLevelsCardSaid : Prop := Claim7.holds Tryz.pinned (.plain (OpenSpec.ofChange costingLevelsSpec)) costingLevelsCard

/-- THE SECOND FORM's CARD OF 'accountinglaw38.CostingRuns'. -/
def costingRunsUptoCard : Claim7 := { stood := { row := costingRunsUptoRow, standIns := [], harness := (true, "e30d4fb2c9949e9fc9658ae88c069cb4f236adc20831330984f2657d2ec26bc7"), looks := false }, kinds := [], alts := [], laidByText := true, laidKinds := [.data], laidTests := true, laidLooks := .later }
def CostingRunsUptoCardSaid : Prop := Claim7.holds Tryz.pinned (.plain (OpenSpec.upto costingRunsSpec)) costingRunsUptoCard

/-- THE SECOND FORM's CARD OF 'accountinglaw38.CostingSteps'. -/
def costingStepsUptoCard : Claim7 := { stood := { row := costingStepsUptoRow, standIns := [], harness := (true, "e30d4fb2c9949e9fc9658ae88c069cb4f236adc20831330984f2657d2ec26bc7"), looks := false }, kinds := [], alts := [], laidByText := true, laidKinds := [.data], laidTests := true, laidLooks := .later }
def CostingStepsUptoCardSaid : Prop := Claim7.holds Tryz.pinned (.plain (OpenSpec.upto costingStepsSpec)) costingStepsUptoCard

/-- THE SECOND FORM's CARD OF 'accountinglaw38.CostingConserves'. -/
def costingConservesUptoCard : Claim7 := { stood := { row := costingConservesUptoRow, standIns := [], harness := (true, "e30d4fb2c9949e9fc9658ae88c069cb4f236adc20831330984f2657d2ec26bc7"), looks := false }, kinds := [], alts := [], laidByText := true, laidKinds := [.data], laidTests := true, laidLooks := .later }
def CostingConservesUptoCardSaid : Prop := Claim7.holds Tryz.pinned (.plain (OpenSpec.upto costingConservesSpec)) costingConservesUptoCard

/-- THE SECOND FORM's CARD OF 'accountinglaw38.CostingEach'. -/
def costingEachUptoCard : Claim7 := { stood := { row := costingEachUptoRow, standIns := [], harness := (true, "e30d4fb2c9949e9fc9658ae88c069cb4f236adc20831330984f2657d2ec26bc7"), looks := false }, kinds := [], alts := [], laidByText := true, laidKinds := [.data], laidTests := true, laidLooks := .later }
def CostingEachUptoCardSaid : Prop := Claim7.holds Tryz.pinned (.plain (OpenSpec.upto costingEachSpec)) costingEachUptoCard

/-- THE SECOND FORM's CARD OF 'accountinglaw38.CostingReturns'. -/
def costingReturnsUptoCard : Claim7 := { stood := { row := costingReturnsUptoRow, standIns := [], harness := (true, "e30d4fb2c9949e9fc9658ae88c069cb4f236adc20831330984f2657d2ec26bc7"), looks := false }, kinds := [], alts := [], laidByText := true, laidKinds := [.data], laidTests := true, laidLooks := .later }
def CostingReturnsUptoCardSaid : Prop := Claim7.holds Tryz.pinned (.plain (OpenSpec.upto costingReturnsSpec)) costingReturnsUptoCard

/-- THE SECOND FORM's CARD OF 'accountinglaw38.CostingPrefix'. -/
def costingPrefixUptoCard : Claim7 := { stood := { row := costingPrefixUptoRow, standIns := [], harness := (true, "e30d4fb2c9949e9fc9658ae88c069cb4f236adc20831330984f2657d2ec26bc7"), looks := false }, kinds := [], alts := [], laidByText := true, laidKinds := [.data], laidTests := true, laidLooks := .later }
def CostingPrefixUptoCardSaid : Prop := Claim7.holds Tryz.pinned (.plain (OpenSpec.upto costingPrefixSpec)) costingPrefixUptoCard

/-- THE SECOND FORM's CARD OF 'accountinglaw38.CostingMethods'. -/
def costingMethodsUptoCard : Claim7 := { stood := { row := costingMethodsUptoRow, standIns := [], harness := (true, "e30d4fb2c9949e9fc9658ae88c069cb4f236adc20831330984f2657d2ec26bc7"), looks := false }, kinds := [], alts := [], laidByText := true, laidKinds := [.data], laidTests := true, laidLooks := .later }
def CostingMethodsUptoCardSaid : Prop := Claim7.holds Tryz.pinned (.plain (OpenSpec.upto costingMethodsSpec)) costingMethodsUptoCard

/-- THE SECOND FORM's CARD OF 'accountinglaw38.CostingLevels'. -/
def costingLevelsUptoCard : Claim7 := { stood := { row := costingLevelsUptoRow, standIns := [], harness := (true, "e30d4fb2c9949e9fc9658ae88c069cb4f236adc20831330984f2657d2ec26bc7"), looks := false }, kinds := [], alts := [], laidByText := true, laidKinds := [.data], laidTests := true, laidLooks := .later }
def CostingLevelsUptoCardSaid : Prop := Claim7.holds Tryz.pinned (.plain (OpenSpec.upto costingLevelsSpec)) costingLevelsUptoCard
end Rows
end Go.Proofs.YtdcchollplhioaaGreatDoor
