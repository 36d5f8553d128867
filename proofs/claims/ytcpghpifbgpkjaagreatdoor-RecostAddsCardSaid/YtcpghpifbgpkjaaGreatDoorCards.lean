/-
  DERIVED. GIVEN WITH THE SEED: THE CARDS: each row of YtcpghpifbgpkjaaGreatDoorRows.lean that lists a variable, with what it lists TIED to the program's text (the seventh form; the later family's looks); each row that meets fmt, with fmt's text TOLD by the authors' own Lean function (tested against real Go, not proved from fmt's source: count such statements apart). THE CARD IS WHAT COUNTS. Prove the row's statement (the work); the ties are given (YtcpghpifbgpkjaaGreatDoorTie.lean); close each card by the builder's one call (the guide's Derived/Test/ToyasCard.lean, 'card_holds'). Laid BY PROGRAM, IN A SANDBOX (cutbox-door.mjs). By AI agents, Wed Nov 11 2026. No macro, syntax, notation, axiom, sorry.
-/
import Derived.Test.YtcpghpifbgpkjaaGreatDoorRows
import GoSem.ClaimSeven
namespace Go.Proofs.YtcpghpifbgpkjaaGreatDoor
namespace Rows

/-- THE TIED CARD OF 'accountinglaw39.RecostAdjust'. -/
def recostAdjustCard : Claim7 := { stood := { row := recostAdjustRow, standIns := [], harness := (true, "2acab110203f706e03a9fada1861860befc2770d5f1d9ab658340a2cb913e032"), looks := false }, kinds := [], alts := [], laidByText := true, laidKinds := [.data], laidTests := true, laidLooks := .later }
def RecostAdjustCardSaid : Prop := Claim7.holds Tryz.pinned (.plain (OpenSpec.ofChange recostAdjustSpec)) recostAdjustCard

/-- THE TIED CARD OF 'accountinglaw39.RecostAdds'. -/
def recostAddsCard : Claim7 := { stood := { row := recostAddsRow, standIns := [], harness := (true, "2acab110203f706e03a9fada1861860befc2770d5f1d9ab658340a2cb913e032"), looks := false }, kinds := [], alts := [], laidByText := true, laidKinds := [.data], laidTests := true, laidLooks := .later }
def RecostAddsCardSaid : Prop := Claim7.holds Tryz.pinned (.plain (OpenSpec.ofChange recostAddsSpec)) recostAddsCard

/-- THE TIED CARD OF 'accountinglaw39.RecostFails'. -/
def recostFailsCard : Claim7 := { stood := { row := recostFailsRow, standIns := [], harness := (true, "2acab110203f706e03a9fada1861860befc2770d5f1d9ab658340a2cb913e032"), looks := false }, kinds := [], alts := [], laidByText := true, laidKinds := [.data], laidTests := true, laidLooks := .later }
def RecostFailsCardSaid : Prop := Claim7.holds Tryz.pinned (.plain (OpenSpec.ofChange recostFailsSpec)) recostFailsCard

/-- THE TIED CARD OF 'accountinglaw39.RecostAt'. -/
def recostAtCard : Claim7 := { stood := { row := recostAtRow, standIns := [], harness := (true, "2acab110203f706e03a9fada1861860befc2770d5f1d9ab658340a2cb913e032"), looks := false }, kinds := [], alts := [], laidByText := true, laidKinds := [.data], laidTests := true, laidLooks := .later }
def RecostAtCardSaid : Prop := Claim7.holds Tryz.pinned (.plain (OpenSpec.ofChange recostAtSpec)) recostAtCard

/-- THE TIED CARD OF 'accountinglaw39.RecostNil'. -/
def recostNilCard : Claim7 := { stood := { row := recostNilRow, standIns := [], harness := (true, "2acab110203f706e03a9fada1861860befc2770d5f1d9ab658340a2cb913e032"), looks := false }, kinds := [], alts := [], laidByText := true, laidKinds := [.data], laidTests := true, laidLooks := .later }
def RecostNilCardSaid : Prop := Claim7.holds Tryz.pinned (.plain (OpenSpec.ofChange recostNilSpec)) recostNilCard

/-- THE TIED CARD OF 'accountinglaw39.RecostOrder'. -/
def recostOrderCard : Claim7 := { stood := { row := recostOrderRow, standIns := [], harness := (true, "2acab110203f706e03a9fada1861860befc2770d5f1d9ab658340a2cb913e032"), looks := false }, kinds := [], alts := [], laidByText := true, laidKinds := [.data], laidTests := true, laidLooks := .later }
def RecostOrderCardSaid : Prop := Claim7.holds Tryz.pinned (.plain (OpenSpec.ofChange recostOrderSpec)) recostOrderCard

/-- THE TIED CARD OF 'accountinglaw39.RecostReplay'. -/
def recostReplayCard : Claim7 := { stood := { row := recostReplayRow, standIns := [], harness := (true, "2acab110203f706e03a9fada1861860befc2770d5f1d9ab658340a2cb913e032"), looks := false }, kinds := [], alts := [], laidByText := true, laidKinds := [.data], laidTests := true, laidLooks := .later }
def RecostReplayCardSaid : Prop := Claim7.holds Tryz.pinned (.plain (OpenSpec.ofChange recostReplaySpec)) recostReplayCard

/-- THE SECOND FORM's CARD OF 'accountinglaw39.RecostAdjust'. -/
def recostAdjustUptoCard : Claim7 := { stood := { row := recostAdjustUptoRow, standIns := [], harness := (true, "2acab110203f706e03a9fada1861860befc2770d5f1d9ab658340a2cb913e032"), looks := false }, kinds := [], alts := [], laidByText := true, laidKinds := [.data], laidTests := true, laidLooks := .later }
def RecostAdjustUptoCardSaid : Prop := Claim7.holds Tryz.pinned (.plain (OpenSpec.upto recostAdjustSpec)) recostAdjustUptoCard

/-- THE SECOND FORM's CARD OF 'accountinglaw39.RecostAdds'. -/
def recostAddsUptoCard : Claim7 := { stood := { row := recostAddsUptoRow, standIns := [], harness := (true, "2acab110203f706e03a9fada1861860befc2770d5f1d9ab658340a2cb913e032"), looks := false }, kinds := [], alts := [], laidByText := true, laidKinds := [.data], laidTests := true, laidLooks := .later }
def RecostAddsUptoCardSaid : Prop := Claim7.holds Tryz.pinned (.plain (OpenSpec.upto recostAddsSpec)) recostAddsUptoCard

/-- THE SECOND FORM's CARD OF 'accountinglaw39.RecostFails'. -/
def recostFailsUptoCard : Claim7 := { stood := { row := recostFailsUptoRow, standIns := [], harness := (true, "2acab110203f706e03a9fada1861860befc2770d5f1d9ab658340a2cb913e032"), looks := false }, kinds := [], alts := [], laidByText := true, laidKinds := [.data], laidTests := true, laidLooks := .later }
def RecostFailsUptoCardSaid : Prop := Claim7.holds Tryz.pinned (.plain (OpenSpec.upto recostFailsSpec)) recostFailsUptoCard

/-- THE SECOND FORM's CARD OF 'accountinglaw39.RecostAt'. -/
def recostAtUptoCard : Claim7 := { stood := { row := recostAtUptoRow, standIns := [], harness := (true, "2acab110203f706e03a9fada1861860befc2770d5f1d9ab658340a2cb913e032"), looks := false }, kinds := [], alts := [], laidByText := true, laidKinds := [.data], laidTests := true, laidLooks := .later }
def RecostAtUptoCardSaid : Prop := Claim7.holds Tryz.pinned (.plain (OpenSpec.upto recostAtSpec)) recostAtUptoCard

/-- THE SECOND FORM's CARD OF 'accountinglaw39.RecostNil'. -/
def recostNilUptoCard : Claim7 := { stood := { row := recostNilUptoRow, standIns := [], harness := (true, "2acab110203f706e03a9fada1861860befc2770d5f1d9ab658340a2cb913e032"), looks := false }, kinds := [], alts := [], laidByText := true, laidKinds := [.data], laidTests := true, laidLooks := .later }
def RecostNilUptoCardSaid : Prop := Claim7.holds Tryz.pinned (.plain (OpenSpec.upto recostNilSpec)) recostNilUptoCard

/-- THE SECOND FORM's CARD OF 'accountinglaw39.RecostOrder'. -/
def recostOrderUptoCard : Claim7 := { stood := { row := recostOrderUptoRow, standIns := [], harness := (true, "2acab110203f706e03a9fada1861860befc2770d5f1d9ab658340a2cb913e032"), looks := false }, kinds := [], alts := [], laidByText := true, laidKinds := [.data], laidTests := true, laidLooks := .later }
def RecostOrderUptoCardSaid : Prop := Claim7.holds Tryz.pinned (.plain (OpenSpec.upto recostOrderSpec)) recostOrderUptoCard

/-- THE SECOND FORM's CARD OF 'accountinglaw39.RecostReplay'. -/
def recostReplayUptoCard : Claim7 := { stood := { row := recostReplayUptoRow, standIns := [], harness := (true, "2acab110203f706e03a9fada1861860befc2770d5f1d9ab658340a2cb913e032"), looks := false }, kinds := [], alts := [], laidByText := true, laidKinds := [.data], laidTests := true, laidLooks := .later }
def RecostReplayUptoCardSaid : Prop := Claim7.holds Tryz.pinned (.plain (OpenSpec.upto recostReplaySpec)) recostReplayUptoCard
end Rows
end Go.Proofs.YtcpghpifbgpkjaaGreatDoor
