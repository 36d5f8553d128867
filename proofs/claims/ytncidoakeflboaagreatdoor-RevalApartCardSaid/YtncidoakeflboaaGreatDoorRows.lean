/-
  NARROWER THAN 'FOR EVERY INPUT', by the rows' own cells (each row's printed sentence says how): RevalEntry: laid · RevalBalances: laid · RevalCloses: laid · RevalApart: laid · RevalLines: laid.
  DERIVED. THE GIVEN ROWS OF THIS SEAT. 5 by the template 'for every input the law returns true; each argument reads behind the call as it read before'; 0 by the template 'total and deterministic' (their statements: YtncidoakeflboaaGreatDoorTotals.lean).
  GIVEN WITH THE SEED: the statements are not yours to turn. If you find one false, say at which input.
  Laid BY PROGRAM, IN A SANDBOX (cutbox-rows.mjs): the forced cells as the released guide's own fill.sh prints them over the translation f858402ff42a8775… (all of the seat's roots in one cut). By AI agents, Wed Nov 11 2026. No macro, syntax, notation, axiom, sorry.
-/
import Derived.Test.YtncidoakeflboaaGreatDoorChecked
import GoSem.Claim
import GoSem.ClaimJoined
import GoSem.ClaimMapViews
import Derived.JoinedTies
import Derived.KernelRfl
namespace Go.Proofs.YtncidoakeflboaaGreatDoor
/- THE CELL 'sum', in the pinned program and in every row, IS THE sha256 OF THE DUMP (.gsa) THAT YtncidoakeflboaaGreatDoorProg.lean LOADS. Nothing in Lean hashes anything: it is a label: what it is worth is what the hold of that sum in a sandbox is worth. -/
noncomputable def Tryz.pinned : Pinned := { name := "ytncidoakeflboaagreatdoor", sum := "f858402ff42a8775cb2334cc0190559aedbb60f4640161f78a92a350205260bc", checked := Tryz.checked }
namespace Rows
def none {H : Type} : Left H := { results := [], args := [] }

/- WHAT THE LISTED PACKAGE-LEVEL VARIABLES READ AS WHEN THE CALL BEGINS. Each datum BY PROGRAM (the guide's laid-datum.mjs) off the statement by which the dump's own 'gosem.cut.vars' lays the variable. In a bare row this is a premise. The card (YtncidoakeflboaaGreatDoorCards.lean) ties it to the program's text. -/
def laid_accounting_days_lengths {H : Type} : DataW H := .agg [.lit (.int .i64 31), .lit (.int .i64 28), .lit (.int .i64 31), .lit (.int .i64 30), .lit (.int .i64 31), .lit (.int .i64 30), .lit (.int .i64 31), .lit (.int .i64 31), .lit (.int .i64 30), .lit (.int .i64 31), .lit (.int .i64 30), .lit (.int .i64 31)]

/-- 'accountinglaw41.RevalEntry': WHATEVER THE INPUT: true; the input reads as it did. -/
def revalEntrySpec : ChangeSpec := { name := "revalEntry", fn := fun _ => fun
  | [d] => { results := [.lit (.bool true)], args := [d] }
  | _ => none }
def revalEntryRow : OpenClaim := { program := "ytncidoakeflboaagreatdoor", sum := "f858402ff42a8775cb2334cc0190559aedbb60f4640161f78a92a350205260bc", func := "accounting/accountinglaw41.RevalEntry", spec := "revalEntry", inPlace := ["slices.overlaps[accounting/api.Rate]", "internal/bytealg.abigen_runtime_cmpstring", "internal/bytealg.IndexByteString", "internal/bytealg.IndexString", "math/bits.Add64"], unfollowed := true, recurses := true, named := ["accounting/days.lengths", "internal/bytealg.MaxLen"], plainKeys := false, apart := false, laid := [("accounting/days.lengths", laid_accounting_days_lengths)] }
def RevalEntrySaid : Prop := revalEntryRow.holds Tryz.pinned (OpenSpec.ofChange revalEntrySpec)

/-- ITS FALSE NEIGHBOUR: 'it returns false'. Refute it at one input. -/
def revalEntryWrong : ChangeSpec := { name := "revalEntry", fn := fun _ => fun
  | [d] => { results := [.lit (.bool false)], args := [d] }
  | _ => none }
def RevalEntryWrongFalsely : Prop := revalEntryRow.holds Tryz.pinned (OpenSpec.ofChange revalEntryWrong)

/-- 'accountinglaw41.RevalBalances': WHATEVER THE INPUT: true; the input reads as it did. -/
def revalBalancesSpec : ChangeSpec := { name := "revalBalances", fn := fun _ => fun
  | [d] => { results := [.lit (.bool true)], args := [d] }
  | _ => none }
def revalBalancesRow : OpenClaim := { program := "ytncidoakeflboaagreatdoor", sum := "f858402ff42a8775cb2334cc0190559aedbb60f4640161f78a92a350205260bc", func := "accounting/accountinglaw41.RevalBalances", spec := "revalBalances", inPlace := ["slices.overlaps[accounting/api.Rate]", "internal/bytealg.abigen_runtime_cmpstring", "internal/bytealg.IndexByteString", "internal/bytealg.IndexString", "math/bits.Add64"], unfollowed := true, recurses := true, named := ["accounting/days.lengths", "internal/bytealg.MaxLen"], plainKeys := false, apart := false, laid := [("accounting/days.lengths", laid_accounting_days_lengths)] }
def RevalBalancesSaid : Prop := revalBalancesRow.holds Tryz.pinned (OpenSpec.ofChange revalBalancesSpec)

/-- ITS FALSE NEIGHBOUR: 'it returns false'. Refute it at one input. -/
def revalBalancesWrong : ChangeSpec := { name := "revalBalances", fn := fun _ => fun
  | [d] => { results := [.lit (.bool false)], args := [d] }
  | _ => none }
def RevalBalancesWrongFalsely : Prop := revalBalancesRow.holds Tryz.pinned (OpenSpec.ofChange revalBalancesWrong)

/-- 'accountinglaw41.RevalCloses': WHATEVER THE INPUT: true; the input reads as it did. -/
def revalClosesSpec : ChangeSpec := { name := "revalCloses", fn := fun _ => fun
  | [d] => { results := [.lit (.bool true)], args := [d] }
  | _ => none }
def revalClosesRow : OpenClaim := { program := "ytncidoakeflboaagreatdoor", sum := "f858402ff42a8775cb2334cc0190559aedbb60f4640161f78a92a350205260bc", func := "accounting/accountinglaw41.RevalCloses", spec := "revalCloses", inPlace := ["slices.overlaps[accounting/api.Rate]", "internal/bytealg.abigen_runtime_cmpstring", "internal/bytealg.IndexByteString", "internal/bytealg.IndexString", "math/bits.Add64"], unfollowed := true, recurses := true, named := ["accounting/days.lengths", "internal/bytealg.MaxLen"], plainKeys := false, apart := false, laid := [("accounting/days.lengths", laid_accounting_days_lengths)] }
def RevalClosesSaid : Prop := revalClosesRow.holds Tryz.pinned (OpenSpec.ofChange revalClosesSpec)

/-- ITS FALSE NEIGHBOUR: 'it returns false'. Refute it at one input. -/
def revalClosesWrong : ChangeSpec := { name := "revalCloses", fn := fun _ => fun
  | [d] => { results := [.lit (.bool false)], args := [d] }
  | _ => none }
def RevalClosesWrongFalsely : Prop := revalClosesRow.holds Tryz.pinned (OpenSpec.ofChange revalClosesWrong)

/-- 'accountinglaw41.RevalApart': WHATEVER THE INPUT: true; the input reads as it did. -/
def revalApartSpec : ChangeSpec := { name := "revalApart", fn := fun _ => fun
  | [d] => { results := [.lit (.bool true)], args := [d] }
  | _ => none }
def revalApartRow : OpenClaim := { program := "ytncidoakeflboaagreatdoor", sum := "f858402ff42a8775cb2334cc0190559aedbb60f4640161f78a92a350205260bc", func := "accounting/accountinglaw41.RevalApart", spec := "revalApart", inPlace := ["slices.overlaps[accounting/api.Rate]", "internal/bytealg.abigen_runtime_cmpstring", "internal/bytealg.IndexByteString", "internal/bytealg.IndexString", "math/bits.Add64"], unfollowed := true, recurses := true, named := ["accounting/days.lengths", "internal/bytealg.MaxLen"], plainKeys := false, apart := false, laid := [("accounting/days.lengths", laid_accounting_days_lengths)] }
def RevalApartSaid : Prop := revalApartRow.holds Tryz.pinned (OpenSpec.ofChange revalApartSpec)

/-- ITS FALSE NEIGHBOUR: 'it returns false'. Refute it at one input. -/
def revalApartWrong : ChangeSpec := { name := "revalApart", fn := fun _ => fun
  | [d] => { results := [.lit (.bool false)], args := [d] }
  | _ => none }
def RevalApartWrongFalsely : Prop := revalApartRow.holds Tryz.pinned (OpenSpec.ofChange revalApartWrong)

/-- 'accountinglaw41.RevalLines': WHATEVER THE INPUT: true; the input reads as it did. -/
def revalLinesSpec : ChangeSpec := { name := "revalLines", fn := fun _ => fun
  | [d] => { results := [.lit (.bool true)], args := [d] }
  | _ => none }
def revalLinesRow : OpenClaim := { program := "ytncidoakeflboaagreatdoor", sum := "f858402ff42a8775cb2334cc0190559aedbb60f4640161f78a92a350205260bc", func := "accounting/accountinglaw41.RevalLines", spec := "revalLines", inPlace := ["slices.overlaps[accounting/api.Rate]", "internal/bytealg.abigen_runtime_cmpstring", "internal/bytealg.IndexByteString", "internal/bytealg.IndexString", "math/bits.Add64"], unfollowed := true, recurses := true, named := ["accounting/days.lengths", "internal/bytealg.MaxLen"], plainKeys := false, apart := false, laid := [("accounting/days.lengths", laid_accounting_days_lengths)] }
def RevalLinesSaid : Prop := revalLinesRow.holds Tryz.pinned (OpenSpec.ofChange revalLinesSpec)

/-- ITS FALSE NEIGHBOUR: 'it returns false'. Refute it at one input. -/
def revalLinesWrong : ChangeSpec := { name := "revalLines", fn := fun _ => fun
  | [d] => { results := [.lit (.bool false)], args := [d] }
  | _ => none }
def RevalLinesWrongFalsely : Prop := revalLinesRow.holds Tryz.pinned (OpenSpec.ofChange revalLinesWrong)

/- THE SECOND FORM. 'bulk': how many values and letters a reading holds, each counted each time it is reached (what is shared counts as often as it is met; a slice's spare places count too). A statement '..UptoSaid' is the law's where the arguments, and the package variables that the reading takes, are together of bulk at most 1048576: NARROWER than '..Said'. Prove '..Said' where nothing that the law and all that it calls make is longer than what came in: it says more and counts as full. Else prove '..UptoSaid'. A law counts once. -/
mutual
def uptoBulk {H : Type} : DataW H → Nat
  | .lit (.string bytes) => bytes.length + 1
  | .lit _ => 1
  | .nil => 1
  | .ptr d => uptoBulk d + 1
  | .slice elems spare => uptoBulkAll elems + uptoBulkAll spare + 1
  | .agg parts => uptoBulkAll parts + 1
  | .iface _ d => uptoBulk d + 1
  | .map entries => uptoBulkEntries entries + 1
  | .held _ => 1
def uptoBulkAll {H : Type} : List (DataW H) → Nat
  | [] => 0
  | d :: r => uptoBulk d + uptoBulkAll r
def uptoBulkEntries {H : Type} : List (Lit × DataW H) → Nat
  | [] => 0
  | x :: r => uptoBulkEntry x + uptoBulkEntries r
def uptoBulkEntry {H : Type} : Lit × DataW H → Nat
  | (.string bytes, d) => bytes.length + uptoBulk d + 1
  | (_, d) => uptoBulk d + 1
 end
def uptoSmall : (H : Type) → List (DataW H) → Bool := fun _ ds => decide (uptoBulkAll ds ≤ 1048576)
def OpenSpec.upto (s : _root_.Go.ChangeSpec) : _root_.Go.OpenSpec := { _root_.Go.OpenSpec.ofChange s with cond := some uptoSmall }

/-- 'accountinglaw41.RevalEntry', WHERE WHAT IT READS IS OF BULK AT MOST 1048576: true; the input reads as it did. -/
def revalEntryUptoRow : OpenClaim := { program := "ytncidoakeflboaagreatdoor", sum := "f858402ff42a8775cb2334cc0190559aedbb60f4640161f78a92a350205260bc", func := "accounting/accountinglaw41.RevalEntry", spec := "revalEntry", inPlace := ["slices.overlaps[accounting/api.Rate]", "internal/bytealg.abigen_runtime_cmpstring", "internal/bytealg.IndexByteString", "internal/bytealg.IndexString", "math/bits.Add64"], unfollowed := true, recurses := true, named := ["accounting/days.lengths", "internal/bytealg.MaxLen"], plainKeys := false, apart := false, laid := [("accounting/days.lengths", laid_accounting_days_lengths)], narrowed := true }
def RevalEntryUptoSaid : Prop := revalEntryUptoRow.holds Tryz.pinned (OpenSpec.upto revalEntrySpec)

/-- 'accountinglaw41.RevalBalances', WHERE WHAT IT READS IS OF BULK AT MOST 1048576: true; the input reads as it did. -/
def revalBalancesUptoRow : OpenClaim := { program := "ytncidoakeflboaagreatdoor", sum := "f858402ff42a8775cb2334cc0190559aedbb60f4640161f78a92a350205260bc", func := "accounting/accountinglaw41.RevalBalances", spec := "revalBalances", inPlace := ["slices.overlaps[accounting/api.Rate]", "internal/bytealg.abigen_runtime_cmpstring", "internal/bytealg.IndexByteString", "internal/bytealg.IndexString", "math/bits.Add64"], unfollowed := true, recurses := true, named := ["accounting/days.lengths", "internal/bytealg.MaxLen"], plainKeys := false, apart := false, laid := [("accounting/days.lengths", laid_accounting_days_lengths)], narrowed := true }
def RevalBalancesUptoSaid : Prop := revalBalancesUptoRow.holds Tryz.pinned (OpenSpec.upto revalBalancesSpec)

/-- 'accountinglaw41.RevalCloses', WHERE WHAT IT READS IS OF BULK AT MOST 1048576: true; the input reads as it did. -/
def revalClosesUptoRow : OpenClaim := { program := "ytncidoakeflboaagreatdoor", sum := "f858402ff42a8775cb2334cc0190559aedbb60f4640161f78a92a350205260bc", func := "accounting/accountinglaw41.RevalCloses", spec := "revalCloses", inPlace := ["slices.overlaps[accounting/api.Rate]", "internal/bytealg.abigen_runtime_cmpstring", "internal/bytealg.IndexByteString", "internal/bytealg.IndexString", "math/bits.Add64"], unfollowed := true, recurses := true, named := ["accounting/days.lengths", "internal/bytealg.MaxLen"], plainKeys := false, apart := false, laid := [("accounting/days.lengths", laid_accounting_days_lengths)], narrowed := true }
def RevalClosesUptoSaid : Prop := revalClosesUptoRow.holds Tryz.pinned (OpenSpec.upto revalClosesSpec)

/-- 'accountinglaw41.RevalApart', WHERE WHAT IT READS IS OF BULK AT MOST 1048576: true; the input reads as it did. -/
def revalApartUptoRow : OpenClaim := { program := "ytncidoakeflboaagreatdoor", sum := "f858402ff42a8775cb2334cc0190559aedbb60f4640161f78a92a350205260bc", func := "accounting/accountinglaw41.RevalApart", spec := "revalApart", inPlace := ["slices.overlaps[accounting/api.Rate]", "internal/bytealg.abigen_runtime_cmpstring", "internal/bytealg.IndexByteString", "internal/bytealg.IndexString", "math/bits.Add64"], unfollowed := true, recurses := true, named := ["accounting/days.lengths", "internal/bytealg.MaxLen"], plainKeys := false, apart := false, laid := [("accounting/days.lengths", laid_accounting_days_lengths)], narrowed := true }
def RevalApartUptoSaid : Prop := revalApartUptoRow.holds Tryz.pinned (OpenSpec.upto revalApartSpec)

/-- 'accountinglaw41.RevalLines', WHERE WHAT IT READS IS OF BULK AT MOST 1048576: true; the input reads as it did. -/
def revalLinesUptoRow : OpenClaim := { program := "ytncidoakeflboaagreatdoor", sum := "f858402ff42a8775cb2334cc0190559aedbb60f4640161f78a92a350205260bc", func := "accounting/accountinglaw41.RevalLines", spec := "revalLines", inPlace := ["slices.overlaps[accounting/api.Rate]", "internal/bytealg.abigen_runtime_cmpstring", "internal/bytealg.IndexByteString", "internal/bytealg.IndexString", "math/bits.Add64"], unfollowed := true, recurses := true, named := ["accounting/days.lengths", "internal/bytealg.MaxLen"], plainKeys := false, apart := false, laid := [("accounting/days.lengths", laid_accounting_days_lengths)], narrowed := true }
def RevalLinesUptoSaid : Prop := revalLinesUptoRow.holds Tryz.pinned (OpenSpec.upto revalLinesSpec)

end Rows
end Go.Proofs.YtncidoakeflboaaGreatDoor
