/-
  DERIVED. GIVEN WITH THE SEED: THE CARDS: each row of YtglaahpagjjmoaaGreatDoorRows.lean that lists a variable, with what it lists TIED to the program's text (the seventh form; the later family's looks); each row that meets fmt, with fmt's text TOLD by the authors' own Lean function (tested against real Go, not proved from fmt's source: count such statements apart). THE CARD IS WHAT COUNTS. Prove the row's statement (the work); the ties are given (YtglaahpagjjmoaaGreatDoorTie.lean); close each card by the builder's one call (the guide's Derived/Test/ToyasCard.lean, 'card_holds'). Laid BY PROGRAM, IN A SANDBOX (cutbox-door.mjs). By AI agents, Wed Nov 11 2026. No macro, syntax, notation, axiom, sorry.
-/
import Derived.Test.YtglaahpagjjmoaaGreatDoorRows
import GoSem.ClaimSeven
namespace Go.Proofs.YtglaahpagjjmoaaGreatDoor
namespace Rows

/-- THE TIED CARD OF 'accountinglaw23.ClosingResult'. -/
def closingResultCard : Claim7 := { stood := { row := closingResultRow, standIns := [], harness := (true, "7a8bd7a5b57c817e5a3ddc427ab65583a90f1f48bded5957143c2d49cdc0ce4f"), looks := false }, kinds := [], alts := [], laidByText := true, laidKinds := [.data], laidTests := true, laidLooks := .later }
def ClosingResultCardSaid : Prop := Claim7.holds Tryz.pinned (.plain (OpenSpec.ofChange closingResultSpec)) closingResultCard

/-- THE TIED CARD OF 'accountinglaw23.ClosingEntry'. -/
def closingEntryCard : Claim7 := { stood := { row := closingEntryRow, standIns := [], harness := (true, "7a8bd7a5b57c817e5a3ddc427ab65583a90f1f48bded5957143c2d49cdc0ce4f"), looks := false }, kinds := [], alts := [], laidByText := true, laidKinds := [.data], laidTests := true, laidLooks := .later }
def ClosingEntryCardSaid : Prop := Claim7.holds Tryz.pinned (.plain (OpenSpec.ofChange closingEntrySpec)) closingEntryCard

/-- THE TIED CARD OF 'accountinglaw23.ClosingSelects'. -/
def closingSelectsCard : Claim7 := { stood := { row := closingSelectsRow, standIns := [], harness := (true, "7a8bd7a5b57c817e5a3ddc427ab65583a90f1f48bded5957143c2d49cdc0ce4f"), looks := false }, kinds := [], alts := [], laidByText := true, laidKinds := [.data], laidTests := true, laidLooks := .later }
def ClosingSelectsCardSaid : Prop := Claim7.holds Tryz.pinned (.plain (OpenSpec.ofChange closingSelectsSpec)) closingSelectsCard

/-- THE TIED CARD OF 'accountinglaw23.ClosingApart'. -/
def closingApartCard : Claim7 := { stood := { row := closingApartRow, standIns := [], harness := (true, "7a8bd7a5b57c817e5a3ddc427ab65583a90f1f48bded5957143c2d49cdc0ce4f"), looks := false }, kinds := [], alts := [], laidByText := true, laidKinds := [.data], laidTests := true, laidLooks := .later }
def ClosingApartCardSaid : Prop := Claim7.holds Tryz.pinned (.plain (OpenSpec.ofChange closingApartSpec)) closingApartCard

/-- THE TIED CARD OF 'accountinglaw23.ClosingEmpties'. -/
def closingEmptiesCard : Claim7 := { stood := { row := closingEmptiesRow, standIns := [], harness := (true, "7a8bd7a5b57c817e5a3ddc427ab65583a90f1f48bded5957143c2d49cdc0ce4f"), looks := false }, kinds := [], alts := [], laidByText := true, laidKinds := [.data], laidTests := true, laidLooks := .later }
def ClosingEmptiesCardSaid : Prop := Claim7.holds Tryz.pinned (.plain (OpenSpec.ofChange closingEmptiesSpec)) closingEmptiesCard

/-- THE TIED CARD OF 'accountinglaw23.ClosingBalanced'. -/
def closingBalancedCard : Claim7 := { stood := { row := closingBalancedRow, standIns := [], harness := (true, "7a8bd7a5b57c817e5a3ddc427ab65583a90f1f48bded5957143c2d49cdc0ce4f"), looks := false }, kinds := [], alts := [], laidByText := true, laidKinds := [.data], laidTests := true, laidLooks := .later }
def ClosingBalancedCardSaid : Prop := Claim7.holds Tryz.pinned (.plain (OpenSpec.ofChange closingBalancedSpec)) closingBalancedCard

/-- THE TIED CARD OF 'accountinglaw23.ClosingYears'. -/
def closingYearsCard : Claim7 := { stood := { row := closingYearsRow, standIns := [], harness := (true, "7a8bd7a5b57c817e5a3ddc427ab65583a90f1f48bded5957143c2d49cdc0ce4f"), looks := false }, kinds := [], alts := [], laidByText := true, laidKinds := [.data], laidTests := true, laidLooks := .later }
def ClosingYearsCardSaid : Prop := Claim7.holds Tryz.pinned (.plain (OpenSpec.ofChange closingYearsSpec)) closingYearsCard

/-- THE TIED CARD OF 'accountinglaw23.ClosingNone'. -/
def closingNoneCard : Claim7 := { stood := { row := closingNoneRow, standIns := [], harness := (true, "7a8bd7a5b57c817e5a3ddc427ab65583a90f1f48bded5957143c2d49cdc0ce4f"), looks := false }, kinds := [], alts := [], laidByText := true, laidKinds := [.data], laidTests := true, laidLooks := .later }
def ClosingNoneCardSaid : Prop := Claim7.holds Tryz.pinned (.plain (OpenSpec.ofChange closingNoneSpec)) closingNoneCard

/-- THE SECOND FORM's CARD OF 'accountinglaw23.ClosingResult'. -/
def closingResultUptoCard : Claim7 := { stood := { row := closingResultUptoRow, standIns := [], harness := (true, "7a8bd7a5b57c817e5a3ddc427ab65583a90f1f48bded5957143c2d49cdc0ce4f"), looks := false }, kinds := [], alts := [], laidByText := true, laidKinds := [.data], laidTests := true, laidLooks := .later }
def ClosingResultUptoCardSaid : Prop := Claim7.holds Tryz.pinned (.plain (OpenSpec.upto closingResultSpec)) closingResultUptoCard

/-- THE SECOND FORM's CARD OF 'accountinglaw23.ClosingEntry'. -/
def closingEntryUptoCard : Claim7 := { stood := { row := closingEntryUptoRow, standIns := [], harness := (true, "7a8bd7a5b57c817e5a3ddc427ab65583a90f1f48bded5957143c2d49cdc0ce4f"), looks := false }, kinds := [], alts := [], laidByText := true, laidKinds := [.data], laidTests := true, laidLooks := .later }
def ClosingEntryUptoCardSaid : Prop := Claim7.holds Tryz.pinned (.plain (OpenSpec.upto closingEntrySpec)) closingEntryUptoCard

/-- THE SECOND FORM's CARD OF 'accountinglaw23.ClosingSelects'. -/
def closingSelectsUptoCard : Claim7 := { stood := { row := closingSelectsUptoRow, standIns := [], harness := (true, "7a8bd7a5b57c817e5a3ddc427ab65583a90f1f48bded5957143c2d49cdc0ce4f"), looks := false }, kinds := [], alts := [], laidByText := true, laidKinds := [.data], laidTests := true, laidLooks := .later }
def ClosingSelectsUptoCardSaid : Prop := Claim7.holds Tryz.pinned (.plain (OpenSpec.upto closingSelectsSpec)) closingSelectsUptoCard

/-- THE SECOND FORM's CARD OF 'accountinglaw23.ClosingApart'. -/
def closingApartUptoCard : Claim7 := { stood := { row := closingApartUptoRow, standIns := [], harness := (true, "7a8bd7a5b57c817e5a3ddc427ab65583a90f1f48bded5957143c2d49cdc0ce4f"), looks := false }, kinds := [], alts := [], laidByText := true, laidKinds := [.data], laidTests := true, laidLooks := .later }
def ClosingApartUptoCardSaid : Prop := Claim7.holds Tryz.pinned (.plain (OpenSpec.upto closingApartSpec)) closingApartUptoCard

/-- THE SECOND FORM's CARD OF 'accountinglaw23.ClosingEmpties'. -/
def closingEmptiesUptoCard : Claim7 := { stood := { row := closingEmptiesUptoRow, standIns := [], harness := (true, "7a8bd7a5b57c817e5a3ddc427ab65583a90f1f48bded5957143c2d49cdc0ce4f"), looks := false }, kinds := [], alts := [], laidByText := true, laidKinds := [.data], laidTests := true, laidLooks := .later }
def ClosingEmptiesUptoCardSaid : Prop := Claim7.holds Tryz.pinned (.plain (OpenSpec.upto closingEmptiesSpec)) closingEmptiesUptoCard

/-- THE SECOND FORM's CARD OF 'accountinglaw23.ClosingBalanced'. -/
def closingBalancedUptoCard : Claim7 := { stood := { row := closingBalancedUptoRow, standIns := [], harness := (true, "7a8bd7a5b57c817e5a3ddc427ab65583a90f1f48bded5957143c2d49cdc0ce4f"), looks := false }, kinds := [], alts := [], laidByText := true, laidKinds := [.data], laidTests := true, laidLooks := .later }
def ClosingBalancedUptoCardSaid : Prop := Claim7.holds Tryz.pinned (.plain (OpenSpec.upto closingBalancedSpec)) closingBalancedUptoCard

/-- THE SECOND FORM's CARD OF 'accountinglaw23.ClosingYears'. -/
def closingYearsUptoCard : Claim7 := { stood := { row := closingYearsUptoRow, standIns := [], harness := (true, "7a8bd7a5b57c817e5a3ddc427ab65583a90f1f48bded5957143c2d49cdc0ce4f"), looks := false }, kinds := [], alts := [], laidByText := true, laidKinds := [.data], laidTests := true, laidLooks := .later }
def ClosingYearsUptoCardSaid : Prop := Claim7.holds Tryz.pinned (.plain (OpenSpec.upto closingYearsSpec)) closingYearsUptoCard

/-- THE SECOND FORM's CARD OF 'accountinglaw23.ClosingNone'. -/
def closingNoneUptoCard : Claim7 := { stood := { row := closingNoneUptoRow, standIns := [], harness := (true, "7a8bd7a5b57c817e5a3ddc427ab65583a90f1f48bded5957143c2d49cdc0ce4f"), looks := false }, kinds := [], alts := [], laidByText := true, laidKinds := [.data], laidTests := true, laidLooks := .later }
def ClosingNoneUptoCardSaid : Prop := Claim7.holds Tryz.pinned (.plain (OpenSpec.upto closingNoneSpec)) closingNoneUptoCard
end Rows
end Go.Proofs.YtglaahpagjjmoaaGreatDoor
