/-
  DERIVED. GIVEN WITH THE SEED: THE CARDS: each row of YtncidoakeflboaaGreatDoorRows.lean that lists a variable, with what it lists TIED to the program's text (the seventh form; the later family's looks); each row that meets fmt, with fmt's text TOLD by the authors' own Lean function (tested against real Go, not proved from fmt's source: count such statements apart). THE CARD IS WHAT COUNTS. Prove the row's statement (the work); the ties are given (YtncidoakeflboaaGreatDoorTie.lean); close each card by the builder's one call (the guide's Derived/Test/ToyasCard.lean, 'card_holds'). Laid BY PROGRAM, IN A SANDBOX (cutbox-door.mjs). By AI agents, Wed Nov 11 2026. No macro, syntax, notation, axiom, sorry.
-/
import Derived.Test.YtncidoakeflboaaGreatDoorRows
import GoSem.ClaimSeven
namespace Go.Proofs.YtncidoakeflboaaGreatDoor
namespace Rows

/-- THE TIED CARD OF 'accountinglaw41.RevalEntry'. -/
def revalEntryCard : Claim7 := { stood := { row := revalEntryRow, standIns := [], harness := (true, "facaeb869fe0d6364850ad5aa7e15562894b9f6369de99ff6726ea8a53773971"), looks := false }, kinds := [], alts := [], laidByText := true, laidKinds := [.data], laidTests := true, laidLooks := .later }
def RevalEntryCardSaid : Prop := Claim7.holds Tryz.pinned (.plain (OpenSpec.ofChange revalEntrySpec)) revalEntryCard

/-- THE TIED CARD OF 'accountinglaw41.RevalBalances'. -/
def revalBalancesCard : Claim7 := { stood := { row := revalBalancesRow, standIns := [], harness := (true, "facaeb869fe0d6364850ad5aa7e15562894b9f6369de99ff6726ea8a53773971"), looks := false }, kinds := [], alts := [], laidByText := true, laidKinds := [.data], laidTests := true, laidLooks := .later }
def RevalBalancesCardSaid : Prop := Claim7.holds Tryz.pinned (.plain (OpenSpec.ofChange revalBalancesSpec)) revalBalancesCard

/-- THE TIED CARD OF 'accountinglaw41.RevalCloses'. -/
def revalClosesCard : Claim7 := { stood := { row := revalClosesRow, standIns := [], harness := (true, "facaeb869fe0d6364850ad5aa7e15562894b9f6369de99ff6726ea8a53773971"), looks := false }, kinds := [], alts := [], laidByText := true, laidKinds := [.data], laidTests := true, laidLooks := .later }
def RevalClosesCardSaid : Prop := Claim7.holds Tryz.pinned (.plain (OpenSpec.ofChange revalClosesSpec)) revalClosesCard

/-- THE TIED CARD OF 'accountinglaw41.RevalApart'. -/
def revalApartCard : Claim7 := { stood := { row := revalApartRow, standIns := [], harness := (true, "facaeb869fe0d6364850ad5aa7e15562894b9f6369de99ff6726ea8a53773971"), looks := false }, kinds := [], alts := [], laidByText := true, laidKinds := [.data], laidTests := true, laidLooks := .later }
def RevalApartCardSaid : Prop := Claim7.holds Tryz.pinned (.plain (OpenSpec.ofChange revalApartSpec)) revalApartCard

/-- THE TIED CARD OF 'accountinglaw41.RevalLines'. -/
def revalLinesCard : Claim7 := { stood := { row := revalLinesRow, standIns := [], harness := (true, "facaeb869fe0d6364850ad5aa7e15562894b9f6369de99ff6726ea8a53773971"), looks := false }, kinds := [], alts := [], laidByText := true, laidKinds := [.data], laidTests := true, laidLooks := .later }
def RevalLinesCardSaid : Prop := Claim7.holds Tryz.pinned (.plain (OpenSpec.ofChange revalLinesSpec)) revalLinesCard

/-- THE SECOND FORM's CARD OF 'accountinglaw41.RevalEntry'. -/
def revalEntryUptoCard : Claim7 := { stood := { row := revalEntryUptoRow, standIns := [], harness := (true, "facaeb869fe0d6364850ad5aa7e15562894b9f6369de99ff6726ea8a53773971"), looks := false }, kinds := [], alts := [], laidByText := true, laidKinds := [.data], laidTests := true, laidLooks := .later }
def RevalEntryUptoCardSaid : Prop := Claim7.holds Tryz.pinned (.plain (OpenSpec.upto revalEntrySpec)) revalEntryUptoCard

/-- THE SECOND FORM's CARD OF 'accountinglaw41.RevalBalances'. -/
def revalBalancesUptoCard : Claim7 := { stood := { row := revalBalancesUptoRow, standIns := [], harness := (true, "facaeb869fe0d6364850ad5aa7e15562894b9f6369de99ff6726ea8a53773971"), looks := false }, kinds := [], alts := [], laidByText := true, laidKinds := [.data], laidTests := true, laidLooks := .later }
def RevalBalancesUptoCardSaid : Prop := Claim7.holds Tryz.pinned (.plain (OpenSpec.upto revalBalancesSpec)) revalBalancesUptoCard

/-- THE SECOND FORM's CARD OF 'accountinglaw41.RevalCloses'. -/
def revalClosesUptoCard : Claim7 := { stood := { row := revalClosesUptoRow, standIns := [], harness := (true, "facaeb869fe0d6364850ad5aa7e15562894b9f6369de99ff6726ea8a53773971"), looks := false }, kinds := [], alts := [], laidByText := true, laidKinds := [.data], laidTests := true, laidLooks := .later }
def RevalClosesUptoCardSaid : Prop := Claim7.holds Tryz.pinned (.plain (OpenSpec.upto revalClosesSpec)) revalClosesUptoCard

/-- THE SECOND FORM's CARD OF 'accountinglaw41.RevalApart'. -/
def revalApartUptoCard : Claim7 := { stood := { row := revalApartUptoRow, standIns := [], harness := (true, "facaeb869fe0d6364850ad5aa7e15562894b9f6369de99ff6726ea8a53773971"), looks := false }, kinds := [], alts := [], laidByText := true, laidKinds := [.data], laidTests := true, laidLooks := .later }
def RevalApartUptoCardSaid : Prop := Claim7.holds Tryz.pinned (.plain (OpenSpec.upto revalApartSpec)) revalApartUptoCard

/-- THE SECOND FORM's CARD OF 'accountinglaw41.RevalLines'. -/
def revalLinesUptoCard : Claim7 := { stood := { row := revalLinesUptoRow, standIns := [], harness := (true, "facaeb869fe0d6364850ad5aa7e15562894b9f6369de99ff6726ea8a53773971"), looks := false }, kinds := [], alts := [], laidByText := true, laidKinds := [.data], laidTests := true, laidLooks := .later }
def RevalLinesUptoCardSaid : Prop := Claim7.holds Tryz.pinned (.plain (OpenSpec.upto revalLinesSpec)) revalLinesUptoCard
end Rows
end Go.Proofs.YtncidoakeflboaaGreatDoor
