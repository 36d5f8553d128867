/-
  NARROWER THAN 'FOR EVERY INPUT', by the rows' own cells (each row's printed sentence says how): ClosingResult: laid · ClosingEntry: laid · ClosingSelects: laid · ClosingApart: laid · ClosingEmpties: laid · ClosingBalanced: laid · ClosingYears: laid · ClosingNone: laid.
  DERIVED. THE GIVEN ROWS OF THIS SEAT. 8 by the template 'for every input the law returns true; each argument reads behind the call as it read before'; 0 by the template 'total and deterministic' (their statements: YtglaahpagjjmoaaGreatDoorTotals.lean).
  GIVEN WITH THE SEED: the statements are not yours to turn. If you find one false, say at which input.
  Laid BY PROGRAM, IN A SANDBOX (cutbox-rows.mjs): the forced cells as the released guide's own fill.sh prints them over the translation 730bcc966c2a4476… (all of the seat's roots in one cut). By AI agents, Wed Nov 11 2026. No macro, syntax, notation, axiom, sorry.
-/
import Derived.Test.YtglaahpagjjmoaaGreatDoorChecked
import GoSem.Claim
import GoSem.ClaimJoined
import GoSem.ClaimMapViews
import Derived.JoinedTies
import Derived.KernelRfl
namespace Go.Proofs.YtglaahpagjjmoaaGreatDoor
/- THE CELL 'sum', in the pinned program and in every row, IS THE sha256 OF THE DUMP (.gsa) THAT YtglaahpagjjmoaaGreatDoorProg.lean LOADS. Nothing in Lean hashes anything: it is a label: what it is worth is what the hold of that sum in a sandbox is worth. -/
noncomputable def Tryz.pinned : Pinned := { name := "ytglaahpagjjmoaagreatdoor", sum := "730bcc966c2a4476323ef6db4fcabe98cd2fa047185652006a80ff6a8ebd72b6", checked := Tryz.checked }
namespace Rows
def none {H : Type} : Left H := { results := [], args := [] }

/- WHAT THE LISTED PACKAGE-LEVEL VARIABLES READ AS WHEN THE CALL BEGINS. Each datum BY PROGRAM (the guide's laid-datum.mjs) off the statement by which the dump's own 'gosem.cut.vars' lays the variable. In a bare row this is a premise. The card (YtglaahpagjjmoaaGreatDoorCards.lean) ties it to the program's text. -/
def laid_accounting_days_lengths {H : Type} : DataW H := .agg [.lit (.int .i64 31), .lit (.int .i64 28), .lit (.int .i64 31), .lit (.int .i64 30), .lit (.int .i64 31), .lit (.int .i64 30), .lit (.int .i64 31), .lit (.int .i64 31), .lit (.int .i64 30), .lit (.int .i64 31), .lit (.int .i64 30), .lit (.int .i64 31)]

/-- 'accountinglaw23.ClosingResult': WHATEVER THE INPUT: true; the input reads as it did. -/
def closingResultSpec : ChangeSpec := { name := "closingResult", fn := fun _ => fun
  | [d] => { results := [.lit (.bool true)], args := [d] }
  | _ => none }
def closingResultRow : OpenClaim := { program := "ytglaahpagjjmoaagreatdoor", sum := "730bcc966c2a4476323ef6db4fcabe98cd2fa047185652006a80ff6a8ebd72b6", func := "accounting/accountinglaw23.ClosingResult", spec := "closingResult", inPlace := ["math/bits.Add64", "internal/bytealg.abigen_runtime_cmpstring", "internal/bytealg.IndexByteString", "internal/bytealg.IndexString"], unfollowed := true, recurses := true, named := ["accounting/days.lengths", "internal/bytealg.MaxLen"], apart := false, laid := [("accounting/days.lengths", laid_accounting_days_lengths)] }
def ClosingResultSaid : Prop := closingResultRow.holds Tryz.pinned (OpenSpec.ofChange closingResultSpec)

/-- ITS FALSE NEIGHBOUR: 'it returns false'. Refute it at one input. -/
def closingResultWrong : ChangeSpec := { name := "closingResult", fn := fun _ => fun
  | [d] => { results := [.lit (.bool false)], args := [d] }
  | _ => none }
def ClosingResultWrongFalsely : Prop := closingResultRow.holds Tryz.pinned (OpenSpec.ofChange closingResultWrong)

/-- 'accountinglaw23.ClosingEntry': WHATEVER THE INPUT: true; the input reads as it did. -/
def closingEntrySpec : ChangeSpec := { name := "closingEntry", fn := fun _ => fun
  | [d] => { results := [.lit (.bool true)], args := [d] }
  | _ => none }
def closingEntryRow : OpenClaim := { program := "ytglaahpagjjmoaagreatdoor", sum := "730bcc966c2a4476323ef6db4fcabe98cd2fa047185652006a80ff6a8ebd72b6", func := "accounting/accountinglaw23.ClosingEntry", spec := "closingEntry", inPlace := ["math/bits.Add64", "internal/bytealg.abigen_runtime_cmpstring", "internal/bytealg.IndexByteString", "internal/bytealg.IndexString"], unfollowed := true, recurses := true, named := ["accounting/days.lengths", "internal/bytealg.MaxLen"], apart := false, laid := [("accounting/days.lengths", laid_accounting_days_lengths)] }
def ClosingEntrySaid : Prop := closingEntryRow.holds Tryz.pinned (OpenSpec.ofChange closingEntrySpec)

/-- ITS FALSE NEIGHBOUR: 'it returns false'. Refute it at one input. -/
def closingEntryWrong : ChangeSpec := { name := "closingEntry", fn := fun _ => fun
  | [d] => { results := [.lit (.bool false)], args := [d] }
  | _ => none }
def ClosingEntryWrongFalsely : Prop := closingEntryRow.holds Tryz.pinned (OpenSpec.ofChange closingEntryWrong)

/-- 'accountinglaw23.ClosingSelects': WHATEVER THE INPUT: true; the input reads as it did. -/
def closingSelectsSpec : ChangeSpec := { name := "closingSelects", fn := fun _ => fun
  | [d] => { results := [.lit (.bool true)], args := [d] }
  | _ => none }
def closingSelectsRow : OpenClaim := { program := "ytglaahpagjjmoaagreatdoor", sum := "730bcc966c2a4476323ef6db4fcabe98cd2fa047185652006a80ff6a8ebd72b6", func := "accounting/accountinglaw23.ClosingSelects", spec := "closingSelects", inPlace := ["math/bits.Add64", "internal/bytealg.abigen_runtime_cmpstring", "internal/bytealg.IndexByteString", "internal/bytealg.IndexString"], unfollowed := true, recurses := true, named := ["accounting/days.lengths", "internal/bytealg.MaxLen"], apart := false, laid := [("accounting/days.lengths", laid_accounting_days_lengths)] }
def ClosingSelectsSaid : Prop := closingSelectsRow.holds Tryz.pinned (OpenSpec.ofChange closingSelectsSpec)

/-- ITS FALSE NEIGHBOUR: 'it returns false'. Refute it at one input. -/
def closingSelectsWrong : ChangeSpec := { name := "closingSelects", fn := fun _ => fun
  | [d] => { results := [.lit (.bool false)], args := [d] }
  | _ => none }
def ClosingSelectsWrongFalsely : Prop := closingSelectsRow.holds Tryz.pinned (OpenSpec.ofChange closingSelectsWrong)

/-- 'accountinglaw23.ClosingApart': WHATEVER THE INPUT: true; the input reads as it did. -/
def closingApartSpec : ChangeSpec := { name := "closingApart", fn := fun _ => fun
  | [d] => { results := [.lit (.bool true)], args := [d] }
  | _ => none }
def closingApartRow : OpenClaim := { program := "ytglaahpagjjmoaagreatdoor", sum := "730bcc966c2a4476323ef6db4fcabe98cd2fa047185652006a80ff6a8ebd72b6", func := "accounting/accountinglaw23.ClosingApart", spec := "closingApart", inPlace := ["math/bits.Add64", "internal/bytealg.abigen_runtime_cmpstring", "internal/bytealg.IndexByteString", "internal/bytealg.IndexString"], unfollowed := true, recurses := true, named := ["accounting/days.lengths", "internal/bytealg.MaxLen"], apart := false, laid := [("accounting/days.lengths", laid_accounting_days_lengths)] }
def ClosingApartSaid : Prop := closingApartRow.holds Tryz.pinned (OpenSpec.ofChange closingApartSpec)

/-- ITS FALSE NEIGHBOUR: 'it returns false'. Refute it at one input. -/
def closingApartWrong : ChangeSpec := { name := "closingApart", fn := fun _ => fun
  | [d] => { results := [.lit (.bool false)], args := [d] }
  | _ => none }
def ClosingApartWrongFalsely : Prop := closingApartRow.holds Tryz.pinned (OpenSpec.ofChange closingApartWrong)

/-- 'accountinglaw23.ClosingEmpties': WHATEVER THE INPUT: true; the input reads as it did. -/
def closingEmptiesSpec : ChangeSpec := { name := "closingEmpties", fn := fun _ => fun
  | [d] => { results := [.lit (.bool true)], args := [d] }
  | _ => none }
def closingEmptiesRow : OpenClaim := { program := "ytglaahpagjjmoaagreatdoor", sum := "730bcc966c2a4476323ef6db4fcabe98cd2fa047185652006a80ff6a8ebd72b6", func := "accounting/accountinglaw23.ClosingEmpties", spec := "closingEmpties", inPlace := ["math/bits.Add64", "internal/bytealg.abigen_runtime_cmpstring", "internal/bytealg.IndexByteString", "internal/bytealg.IndexString"], unfollowed := true, recurses := true, named := ["accounting/days.lengths", "internal/bytealg.MaxLen"], apart := false, laid := [("accounting/days.lengths", laid_accounting_days_lengths)] }
def ClosingEmptiesSaid : Prop := closingEmptiesRow.holds Tryz.pinned (OpenSpec.ofChange closingEmptiesSpec)

/-- ITS FALSE NEIGHBOUR: 'it returns false'. Refute it at one input. -/
def closingEmptiesWrong : ChangeSpec := { name := "closingEmpties", fn := fun _ => fun
  | [d] => { results := [.lit (.bool false)], args := [d] }
  | _ => none }
def ClosingEmptiesWrongFalsely : Prop := closingEmptiesRow.holds Tryz.pinned (OpenSpec.ofChange closingEmptiesWrong)

/-- 'accountinglaw23.ClosingBalanced': WHATEVER THE INPUT: true; the input reads as it did. -/
def closingBalancedSpec : ChangeSpec := { name := "closingBalanced", fn := fun _ => fun
  | [d] => { results := [.lit (.bool true)], args := [d] }
  | _ => none }
def closingBalancedRow : OpenClaim := { program := "ytglaahpagjjmoaagreatdoor", sum := "730bcc966c2a4476323ef6db4fcabe98cd2fa047185652006a80ff6a8ebd72b6", func := "accounting/accountinglaw23.ClosingBalanced", spec := "closingBalanced", inPlace := ["math/bits.Add64", "internal/bytealg.abigen_runtime_cmpstring", "internal/bytealg.IndexByteString", "internal/bytealg.IndexString"], unfollowed := true, recurses := true, named := ["accounting/days.lengths", "internal/bytealg.MaxLen"], apart := false, laid := [("accounting/days.lengths", laid_accounting_days_lengths)] }
def ClosingBalancedSaid : Prop := closingBalancedRow.holds Tryz.pinned (OpenSpec.ofChange closingBalancedSpec)

/-- ITS FALSE NEIGHBOUR: 'it returns false'. Refute it at one input. -/
def closingBalancedWrong : ChangeSpec := { name := "closingBalanced", fn := fun _ => fun
  | [d] => { results := [.lit (.bool false)], args := [d] }
  | _ => none }
def ClosingBalancedWrongFalsely : Prop := closingBalancedRow.holds Tryz.pinned (OpenSpec.ofChange closingBalancedWrong)

/-- 'accountinglaw23.ClosingYears': WHATEVER THE INPUT: true; the input reads as it did. -/
def closingYearsSpec : ChangeSpec := { name := "closingYears", fn := fun _ => fun
  | [d] => { results := [.lit (.bool true)], args := [d] }
  | _ => none }
def closingYearsRow : OpenClaim := { program := "ytglaahpagjjmoaagreatdoor", sum := "730bcc966c2a4476323ef6db4fcabe98cd2fa047185652006a80ff6a8ebd72b6", func := "accounting/accountinglaw23.ClosingYears", spec := "closingYears", inPlace := ["math/bits.Add64", "internal/bytealg.abigen_runtime_cmpstring", "internal/bytealg.IndexByteString", "internal/bytealg.IndexString"], unfollowed := true, recurses := true, named := ["accounting/days.lengths", "internal/bytealg.MaxLen"], apart := false, laid := [("accounting/days.lengths", laid_accounting_days_lengths)] }
def ClosingYearsSaid : Prop := closingYearsRow.holds Tryz.pinned (OpenSpec.ofChange closingYearsSpec)

/-- ITS FALSE NEIGHBOUR: 'it returns false'. Refute it at one input. -/
def closingYearsWrong : ChangeSpec := { name := "closingYears", fn := fun _ => fun
  | [d] => { results := [.lit (.bool false)], args := [d] }
  | _ => none }
def ClosingYearsWrongFalsely : Prop := closingYearsRow.holds Tryz.pinned (OpenSpec.ofChange closingYearsWrong)

/-- 'accountinglaw23.ClosingNone': WHATEVER THE INPUT: true; the input reads as it did. -/
def closingNoneSpec : ChangeSpec := { name := "closingNone", fn := fun _ => fun
  | [d] => { results := [.lit (.bool true)], args := [d] }
  | _ => none }
def closingNoneRow : OpenClaim := { program := "ytglaahpagjjmoaagreatdoor", sum := "730bcc966c2a4476323ef6db4fcabe98cd2fa047185652006a80ff6a8ebd72b6", func := "accounting/accountinglaw23.ClosingNone", spec := "closingNone", inPlace := ["math/bits.Add64", "internal/bytealg.abigen_runtime_cmpstring", "internal/bytealg.IndexByteString", "internal/bytealg.IndexString"], unfollowed := true, recurses := true, named := ["accounting/days.lengths", "internal/bytealg.MaxLen"], apart := false, laid := [("accounting/days.lengths", laid_accounting_days_lengths)] }
def ClosingNoneSaid : Prop := closingNoneRow.holds Tryz.pinned (OpenSpec.ofChange closingNoneSpec)

/-- ITS FALSE NEIGHBOUR: 'it returns false'. Refute it at one input. -/
def closingNoneWrong : ChangeSpec := { name := "closingNone", fn := fun _ => fun
  | [d] => { results := [.lit (.bool false)], args := [d] }
  | _ => none }
def ClosingNoneWrongFalsely : Prop := closingNoneRow.holds Tryz.pinned (OpenSpec.ofChange closingNoneWrong)

/- THE SECOND FORM. 'bulk': how many values and letters a reading holds, each counted each time it is reached (what is shared counts as often as it is met; a slice's spare places count too). A statement '..UptoSaid' is the law's where the arguments, and the package variables that the reading takes, are together of bulk at most 1048576: NARROWER than '..Said'. Prove '..Said' where nothing that the law and all that it calls make is longer than what came in: it says more and counts as full. Else prove '..UptoSaid'. A law counts once. -/
mutual
def uptoBulk {H : Type} : DataW H → Nat
  | .lit (.string bytes) => bytes.length + 1
  | .lit _ => 1
  | .nil => 1
  | .ptr d => uptoBulk d + 1
  | .slice elems spare => uptoBulkAll elems + uptoBulkAll spare + 1
  | .agg parts => uptoBulkAll parts + 1
  | .iface _ d => uptoBulk d + 1
  | .map entries => uptoBulkEntries entries + 1
  | .held _ => 1
def uptoBulkAll {H : Type} : List (DataW H) → Nat
  | [] => 0
  | d :: r => uptoBulk d + uptoBulkAll r
def uptoBulkEntries {H : Type} : List (Lit × DataW H) → Nat
  | [] => 0
  | x :: r => uptoBulkEntry x + uptoBulkEntries r
def uptoBulkEntry {H : Type} : Lit × DataW H → Nat
  | (.string bytes, d) => bytes.length + uptoBulk d + 1
  | (_, d) => uptoBulk d + 1
 end
def uptoSmall : (H : Type) → List (DataW H) → Bool := fun _ ds => decide (uptoBulkAll ds ≤ 1048576)
def OpenSpec.upto (s : _root_.Go.ChangeSpec) : _root_.Go.OpenSpec := { _root_.Go.OpenSpec.ofChange s with cond := some uptoSmall }

/-- 'accountinglaw23.ClosingResult', WHERE WHAT IT READS IS OF BULK AT MOST 1048576: true; the input reads as it did. -/
def closingResultUptoRow : OpenClaim := { program := "ytglaahpagjjmoaagreatdoor", sum := "730bcc966c2a4476323ef6db4fcabe98cd2fa047185652006a80ff6a8ebd72b6", func := "accounting/accountinglaw23.ClosingResult", spec := "closingResult", inPlace := ["math/bits.Add64", "internal/bytealg.abigen_runtime_cmpstring", "internal/bytealg.IndexByteString", "internal/bytealg.IndexString"], unfollowed := true, recurses := true, named := ["accounting/days.lengths", "internal/bytealg.MaxLen"], apart := false, laid := [("accounting/days.lengths", laid_accounting_days_lengths)], narrowed := true }
def ClosingResultUptoSaid : Prop := closingResultUptoRow.holds Tryz.pinned (OpenSpec.upto closingResultSpec)

/-- 'accountinglaw23.ClosingEntry', WHERE WHAT IT READS IS OF BULK AT MOST 1048576: true; the input reads as it did. -/
def closingEntryUptoRow : OpenClaim := { program := "ytglaahpagjjmoaagreatdoor", sum := "730bcc966c2a4476323ef6db4fcabe98cd2fa047185652006a80ff6a8ebd72b6", func := "accounting/accountinglaw23.ClosingEntry", spec := "closingEntry", inPlace := ["math/bits.Add64", "internal/bytealg.abigen_runtime_cmpstring", "internal/bytealg.IndexByteString", "internal/bytealg.IndexString"], unfollowed := true, recurses := true, named := ["accounting/days.lengths", "internal/bytealg.MaxLen"], apart := false, laid := [("accounting/days.lengths", laid_accounting_days_lengths)], narrowed := true }
def ClosingEntryUptoSaid : Prop := closingEntryUptoRow.holds Tryz.pinned (OpenSpec.upto closingEntrySpec)

/-- 'accountinglaw23.ClosingSelects', WHERE WHAT IT READS IS OF BULK AT MOST 1048576: true; the input reads as it did. -/
def closingSelectsUptoRow : OpenClaim := { program := "ytglaahpagjjmoaagreatdoor", sum := "730bcc966c2a4476323ef6db4fcabe98cd2fa047185652006a80ff6a8ebd72b6", func := "accounting/accountinglaw23.ClosingSelects", spec := "closingSelects", inPlace := ["math/bits.Add64", "internal/bytealg.abigen_runtime_cmpstring", "internal/bytealg.IndexByteString", "internal/bytealg.IndexString"], unfollowed := true, recurses := true, named := ["accounting/days.lengths", "internal/bytealg.MaxLen"], apart := false, laid := [("accounting/days.lengths", laid_accounting_days_lengths)], narrowed := true }
def ClosingSelectsUptoSaid : Prop := closingSelectsUptoRow.holds Tryz.pinned (OpenSpec.upto closingSelectsSpec)

/-- 'accountinglaw23.ClosingApart', WHERE WHAT IT READS IS OF BULK AT MOST 1048576: true; the input reads as it did. -/
def closingApartUptoRow : OpenClaim := { program := "ytglaahpagjjmoaagreatdoor", sum := "730bcc966c2a4476323ef6db4fcabe98cd2fa047185652006a80ff6a8ebd72b6", func := "accounting/accountinglaw23.ClosingApart", spec := "closingApart", inPlace := ["math/bits.Add64", "internal/bytealg.abigen_runtime_cmpstring", "internal/bytealg.IndexByteString", "internal/bytealg.IndexString"], unfollowed := true, recurses := true, named := ["accounting/days.lengths", "internal/bytealg.MaxLen"], apart := false, laid := [("accounting/days.lengths", laid_accounting_days_lengths)], narrowed := true }
def ClosingApartUptoSaid : Prop := closingApartUptoRow.holds Tryz.pinned (OpenSpec.upto closingApartSpec)

/-- 'accountinglaw23.ClosingEmpties', WHERE WHAT IT READS IS OF BULK AT MOST 1048576: true; the input reads as it did. -/
def closingEmptiesUptoRow : OpenClaim := { program := "ytglaahpagjjmoaagreatdoor", sum := "730bcc966c2a4476323ef6db4fcabe98cd2fa047185652006a80ff6a8ebd72b6", func := "accounting/accountinglaw23.ClosingEmpties", spec := "closingEmpties", inPlace := ["math/bits.Add64", "internal/bytealg.abigen_runtime_cmpstring", "internal/bytealg.IndexByteString", "internal/bytealg.IndexString"], unfollowed := true, recurses := true, named := ["accounting/days.lengths", "internal/bytealg.MaxLen"], apart := false, laid := [("accounting/days.lengths", laid_accounting_days_lengths)], narrowed := true }
def ClosingEmptiesUptoSaid : Prop := closingEmptiesUptoRow.holds Tryz.pinned (OpenSpec.upto closingEmptiesSpec)

/-- 'accountinglaw23.ClosingBalanced', WHERE WHAT IT READS IS OF BULK AT MOST 1048576: true; the input reads as it did. -/
def closingBalancedUptoRow : OpenClaim := { program := "ytglaahpagjjmoaagreatdoor", sum := "730bcc966c2a4476323ef6db4fcabe98cd2fa047185652006a80ff6a8ebd72b6", func := "accounting/accountinglaw23.ClosingBalanced", spec := "closingBalanced", inPlace := ["math/bits.Add64", "internal/bytealg.abigen_runtime_cmpstring", "internal/bytealg.IndexByteString", "internal/bytealg.IndexString"], unfollowed := true, recurses := true, named := ["accounting/days.lengths", "internal/bytealg.MaxLen"], apart := false, laid := [("accounting/days.lengths", laid_accounting_days_lengths)], narrowed := true }
def ClosingBalancedUptoSaid : Prop := closingBalancedUptoRow.holds Tryz.pinned (OpenSpec.upto closingBalancedSpec)

/-- 'accountinglaw23.ClosingYears', WHERE WHAT IT READS IS OF BULK AT MOST 1048576: true; the input reads as it did. -/
def closingYearsUptoRow : OpenClaim := { program := "ytglaahpagjjmoaagreatdoor", sum := "730bcc966c2a4476323ef6db4fcabe98cd2fa047185652006a80ff6a8ebd72b6", func := "accounting/accountinglaw23.ClosingYears", spec := "closingYears", inPlace := ["math/bits.Add64", "internal/bytealg.abigen_runtime_cmpstring", "internal/bytealg.IndexByteString", "internal/bytealg.IndexString"], unfollowed := true, recurses := true, named := ["accounting/days.lengths", "internal/bytealg.MaxLen"], apart := false, laid := [("accounting/days.lengths", laid_accounting_days_lengths)], narrowed := true }
def ClosingYearsUptoSaid : Prop := closingYearsUptoRow.holds Tryz.pinned (OpenSpec.upto closingYearsSpec)

/-- 'accountinglaw23.ClosingNone', WHERE WHAT IT READS IS OF BULK AT MOST 1048576: true; the input reads as it did. -/
def closingNoneUptoRow : OpenClaim := { program := "ytglaahpagjjmoaagreatdoor", sum := "730bcc966c2a4476323ef6db4fcabe98cd2fa047185652006a80ff6a8ebd72b6", func := "accounting/accountinglaw23.ClosingNone", spec := "closingNone", inPlace := ["math/bits.Add64", "internal/bytealg.abigen_runtime_cmpstring", "internal/bytealg.IndexByteString", "internal/bytealg.IndexString"], unfollowed := true, recurses := true, named := ["accounting/days.lengths", "internal/bytealg.MaxLen"], apart := false, laid := [("accounting/days.lengths", laid_accounting_days_lengths)], narrowed := true }
def ClosingNoneUptoSaid : Prop := closingNoneUptoRow.holds Tryz.pinned (OpenSpec.upto closingNoneSpec)

end Rows
end Go.Proofs.YtglaahpagjjmoaaGreatDoor
