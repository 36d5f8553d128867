/-
  NARROWER THAN 'FOR EVERY INPUT', by the rows' own cells (each row's printed sentence says how): RecostAdjust: laid · RecostAdds: laid · RecostFails: laid · RecostAt: laid · RecostNil: laid · RecostOrder: laid · RecostReplay: laid.
  DERIVED. THE GIVEN ROWS OF THIS SEAT. 7 by the template 'for every input the law returns true; each argument reads behind the call as it read before'; 0 by the template 'total and deterministic' (their statements: YtcpghpifbgpkjaaGreatDoorTotals.lean).
  GIVEN WITH THE SEED: the statements are not yours to turn. If you find one false, say at which input.
  Laid BY PROGRAM, IN A SANDBOX (cutbox-rows.mjs): the forced cells as the released guide's own fill.sh prints them over the translation 6c9b0f49a7b8e77e… (all of the seat's roots in one cut). By AI agents, Wed Nov 11 2026. No macro, syntax, notation, axiom, sorry.
-/
import Derived.Test.YtcpghpifbgpkjaaGreatDoorChecked
import GoSem.Claim
import GoSem.ClaimJoined
import GoSem.ClaimMapViews
import Derived.JoinedTies
import Derived.KernelRfl
namespace Go.Proofs.YtcpghpifbgpkjaaGreatDoor
/- THE CELL 'sum', in the pinned program and in every row, IS THE sha256 OF THE DUMP (.gsa) THAT YtcpghpifbgpkjaaGreatDoorProg.lean LOADS. Nothing in Lean hashes anything: it is a label: what it is worth is what the hold of that sum in a sandbox is worth. -/
noncomputable def Tryz.pinned : Pinned := { name := "ytcpghpifbgpkjaagreatdoor", sum := "6c9b0f49a7b8e77eb6b2d352d2adc42d782af370ae946c28a87d3d5404e53654", checked := Tryz.checked }
namespace Rows
def none {H : Type} : Left H := { results := [], args := [] }

/- WHAT THE LISTED PACKAGE-LEVEL VARIABLES READ AS WHEN THE CALL BEGINS. Each datum BY PROGRAM (the guide's laid-datum.mjs) off the statement by which the dump's own 'gosem.cut.vars' lays the variable. In a bare row this is a premise. The card (YtcpghpifbgpkjaaGreatDoorCards.lean) ties it to the program's text. -/
def laid_accounting_days_lengths {H : Type} : DataW H := .agg [.lit (.int .i64 31), .lit (.int .i64 28), .lit (.int .i64 31), .lit (.int .i64 30), .lit (.int .i64 31), .lit (.int .i64 30), .lit (.int .i64 31), .lit (.int .i64 31), .lit (.int .i64 30), .lit (.int .i64 31), .lit (.int .i64 30), .lit (.int .i64 31)]

/-- 'accountinglaw39.RecostAdjust': WHATEVER THE INPUT: true; the input reads as it did. -/
def recostAdjustSpec : ChangeSpec := { name := "recostAdjust", fn := fun _ => fun
  | [d1, d2] => { results := [.lit (.bool true)], args := [d1, d2] }
  | _ => none }
def recostAdjustRow : OpenClaim := { program := "ytcpghpifbgpkjaagreatdoor", sum := "6c9b0f49a7b8e77eb6b2d352d2adc42d782af370ae946c28a87d3d5404e53654", func := "accounting/accountinglaw39.RecostAdjust", spec := "recostAdjust", inPlace := ["slices.overlaps[int]"], unfollowed := true, recurses := true, named := ["accounting/days.lengths"], plainKeys := false, apart := false, laid := [("accounting/days.lengths", laid_accounting_days_lengths)] }
def RecostAdjustSaid : Prop := recostAdjustRow.holds Tryz.pinned (OpenSpec.ofChange recostAdjustSpec)

/-- ITS FALSE NEIGHBOUR: 'it returns false'. Refute it at one input. -/
def recostAdjustWrong : ChangeSpec := { name := "recostAdjust", fn := fun _ => fun
  | [d1, d2] => { results := [.lit (.bool false)], args := [d1, d2] }
  | _ => none }
def RecostAdjustWrongFalsely : Prop := recostAdjustRow.holds Tryz.pinned (OpenSpec.ofChange recostAdjustWrong)

/-- 'accountinglaw39.RecostAdds': WHATEVER THE INPUT: true; the input reads as it did. -/
def recostAddsSpec : ChangeSpec := { name := "recostAdds", fn := fun _ => fun
  | [d1, d2, d3] => { results := [.lit (.bool true)], args := [d1, d2, d3] }
  | _ => none }
def recostAddsRow : OpenClaim := { program := "ytcpghpifbgpkjaagreatdoor", sum := "6c9b0f49a7b8e77eb6b2d352d2adc42d782af370ae946c28a87d3d5404e53654", func := "accounting/accountinglaw39.RecostAdds", spec := "recostAdds", inPlace := ["slices.overlaps[int]"], unfollowed := true, recurses := true, named := ["accounting/days.lengths"], plainKeys := false, apart := false, laid := [("accounting/days.lengths", laid_accounting_days_lengths)] }
def RecostAddsSaid : Prop := recostAddsRow.holds Tryz.pinned (OpenSpec.ofChange recostAddsSpec)

/-- ITS FALSE NEIGHBOUR: 'it returns false'. Refute it at one input. -/
def recostAddsWrong : ChangeSpec := { name := "recostAdds", fn := fun _ => fun
  | [d1, d2, d3] => { results := [.lit (.bool false)], args := [d1, d2, d3] }
  | _ => none }
def RecostAddsWrongFalsely : Prop := recostAddsRow.holds Tryz.pinned (OpenSpec.ofChange recostAddsWrong)

/-- 'accountinglaw39.RecostFails': WHATEVER THE INPUT: true; the input reads as it did. -/
def recostFailsSpec : ChangeSpec := { name := "recostFails", fn := fun _ => fun
  | [d1, d2, d3] => { results := [.lit (.bool true)], args := [d1, d2, d3] }
  | _ => none }
def recostFailsRow : OpenClaim := { program := "ytcpghpifbgpkjaagreatdoor", sum := "6c9b0f49a7b8e77eb6b2d352d2adc42d782af370ae946c28a87d3d5404e53654", func := "accounting/accountinglaw39.RecostFails", spec := "recostFails", inPlace := ["slices.overlaps[int]"], unfollowed := true, recurses := true, named := ["accounting/days.lengths"], plainKeys := false, apart := false, laid := [("accounting/days.lengths", laid_accounting_days_lengths)] }
def RecostFailsSaid : Prop := recostFailsRow.holds Tryz.pinned (OpenSpec.ofChange recostFailsSpec)

/-- ITS FALSE NEIGHBOUR: 'it returns false'. Refute it at one input. -/
def recostFailsWrong : ChangeSpec := { name := "recostFails", fn := fun _ => fun
  | [d1, d2, d3] => { results := [.lit (.bool false)], args := [d1, d2, d3] }
  | _ => none }
def RecostFailsWrongFalsely : Prop := recostFailsRow.holds Tryz.pinned (OpenSpec.ofChange recostFailsWrong)

/-- 'accountinglaw39.RecostAt': WHATEVER THE INPUT: true; the input reads as it did. -/
def recostAtSpec : ChangeSpec := { name := "recostAt", fn := fun _ => fun
  | [d1, d2, d3, d4] => { results := [.lit (.bool true)], args := [d1, d2, d3, d4] }
  | _ => none }
def recostAtRow : OpenClaim := { program := "ytcpghpifbgpkjaagreatdoor", sum := "6c9b0f49a7b8e77eb6b2d352d2adc42d782af370ae946c28a87d3d5404e53654", func := "accounting/accountinglaw39.RecostAt", spec := "recostAt", inPlace := ["slices.overlaps[int]"], unfollowed := true, recurses := true, named := ["accounting/days.lengths"], plainKeys := false, apart := false, laid := [("accounting/days.lengths", laid_accounting_days_lengths)] }
def RecostAtSaid : Prop := recostAtRow.holds Tryz.pinned (OpenSpec.ofChange recostAtSpec)

/-- ITS FALSE NEIGHBOUR: 'it returns false'. Refute it at one input. -/
def recostAtWrong : ChangeSpec := { name := "recostAt", fn := fun _ => fun
  | [d1, d2, d3, d4] => { results := [.lit (.bool false)], args := [d1, d2, d3, d4] }
  | _ => none }
def RecostAtWrongFalsely : Prop := recostAtRow.holds Tryz.pinned (OpenSpec.ofChange recostAtWrong)

/-- 'accountinglaw39.RecostNil': WHATEVER THE INPUT: true; the input reads as it did. -/
def recostNilSpec : ChangeSpec := { name := "recostNil", fn := fun _ => fun
  | [d1, d2] => { results := [.lit (.bool true)], args := [d1, d2] }
  | _ => none }
def recostNilRow : OpenClaim := { program := "ytcpghpifbgpkjaagreatdoor", sum := "6c9b0f49a7b8e77eb6b2d352d2adc42d782af370ae946c28a87d3d5404e53654", func := "accounting/accountinglaw39.RecostNil", spec := "recostNil", inPlace := ["slices.overlaps[int]"], unfollowed := true, recurses := true, named := ["accounting/days.lengths"], plainKeys := false, apart := false, laid := [("accounting/days.lengths", laid_accounting_days_lengths)] }
def RecostNilSaid : Prop := recostNilRow.holds Tryz.pinned (OpenSpec.ofChange recostNilSpec)

/-- ITS FALSE NEIGHBOUR: 'it returns false'. Refute it at one input. -/
def recostNilWrong : ChangeSpec := { name := "recostNil", fn := fun _ => fun
  | [d1, d2] => { results := [.lit (.bool false)], args := [d1, d2] }
  | _ => none }
def RecostNilWrongFalsely : Prop := recostNilRow.holds Tryz.pinned (OpenSpec.ofChange recostNilWrong)

/-- 'accountinglaw39.RecostOrder': WHATEVER THE INPUT: true; the input reads as it did. -/
def recostOrderSpec : ChangeSpec := { name := "recostOrder", fn := fun _ => fun
  | [d1, d2] => { results := [.lit (.bool true)], args := [d1, d2] }
  | _ => none }
def recostOrderRow : OpenClaim := { program := "ytcpghpifbgpkjaagreatdoor", sum := "6c9b0f49a7b8e77eb6b2d352d2adc42d782af370ae946c28a87d3d5404e53654", func := "accounting/accountinglaw39.RecostOrder", spec := "recostOrder", inPlace := ["slices.overlaps[int]"], unfollowed := true, recurses := true, named := ["accounting/days.lengths"], plainKeys := false, apart := false, laid := [("accounting/days.lengths", laid_accounting_days_lengths)] }
def RecostOrderSaid : Prop := recostOrderRow.holds Tryz.pinned (OpenSpec.ofChange recostOrderSpec)

/-- ITS FALSE NEIGHBOUR: 'it returns false'. Refute it at one input. -/
def recostOrderWrong : ChangeSpec := { name := "recostOrder", fn := fun _ => fun
  | [d1, d2] => { results := [.lit (.bool false)], args := [d1, d2] }
  | _ => none }
def RecostOrderWrongFalsely : Prop := recostOrderRow.holds Tryz.pinned (OpenSpec.ofChange recostOrderWrong)

/-- 'accountinglaw39.RecostReplay': WHATEVER THE INPUT: true; the input reads as it did. -/
def recostReplaySpec : ChangeSpec := { name := "recostReplay", fn := fun _ => fun
  | [d1, d2] => { results := [.lit (.bool true)], args := [d1, d2] }
  | _ => none }
def recostReplayRow : OpenClaim := { program := "ytcpghpifbgpkjaagreatdoor", sum := "6c9b0f49a7b8e77eb6b2d352d2adc42d782af370ae946c28a87d3d5404e53654", func := "accounting/accountinglaw39.RecostReplay", spec := "recostReplay", inPlace := ["slices.overlaps[int]"], unfollowed := true, recurses := true, named := ["accounting/days.lengths"], plainKeys := false, apart := false, laid := [("accounting/days.lengths", laid_accounting_days_lengths)] }
def RecostReplaySaid : Prop := recostReplayRow.holds Tryz.pinned (OpenSpec.ofChange recostReplaySpec)

/-- ITS FALSE NEIGHBOUR: 'it returns false'. Refute it at one input. -/
def recostReplayWrong : ChangeSpec := { name := "recostReplay", fn := fun _ => fun
  | [d1, d2] => { results := [.lit (.bool false)], args := [d1, d2] }
  | _ => none }
def RecostReplayWrongFalsely : Prop := recostReplayRow.holds Tryz.pinned (OpenSpec.ofChange recostReplayWrong)

/- THE SECOND FORM. 'bulk': how many values and letters a reading holds, each counted each time it is reached (what is shared counts as often as it is met; a slice's spare places count too). A statement '..UptoSaid' is the law's where the arguments, and the package variables that the reading takes, are together of bulk at most 1048576: NARROWER than '..Said'. Prove '..Said' where nothing that the law and all that it calls make is longer than what came in: it says more and counts as full. Else prove '..UptoSaid'. A law counts once. -/
mutual
def uptoBulk {H : Type} : DataW H → Nat
  | .lit (.string bytes) => bytes.length + 1
  | .lit _ => 1
  | .nil => 1
  | .ptr d => uptoBulk d + 1
  | .slice elems spare => uptoBulkAll elems + uptoBulkAll spare + 1
  | .agg parts => uptoBulkAll parts + 1
  | .iface _ d => uptoBulk d + 1
  | .map entries => uptoBulkEntries entries + 1
  | .held _ => 1
def uptoBulkAll {H : Type} : List (DataW H) → Nat
  | [] => 0
  | d :: r => uptoBulk d + uptoBulkAll r
def uptoBulkEntries {H : Type} : List (Lit × DataW H) → Nat
  | [] => 0
  | x :: r => uptoBulkEntry x + uptoBulkEntries r
def uptoBulkEntry {H : Type} : Lit × DataW H → Nat
  | (.string bytes, d) => bytes.length + uptoBulk d + 1
  | (_, d) => uptoBulk d + 1
 end
def uptoSmall : (H : Type) → List (DataW H) → Bool := fun _ ds => decide (uptoBulkAll ds ≤ 1048576)
def OpenSpec.upto (s : _root_.Go.ChangeSpec) : _root_.Go.OpenSpec := { _root_.Go.OpenSpec.ofChange s with cond := some uptoSmall }

/-- 'accountinglaw39.RecostAdjust', WHERE WHAT IT READS IS OF BULK AT MOST 1048576: true; the input reads as it did. -/
def recostAdjustUptoRow : OpenClaim := { program := "ytcpghpifbgpkjaagreatdoor", sum := "6c9b0f49a7b8e77eb6b2d352d2adc42d782af370ae946c28a87d3d5404e53654", func := "accounting/accountinglaw39.RecostAdjust", spec := "recostAdjust", inPlace := ["slices.overlaps[int]"], unfollowed := true, recurses := true, named := ["accounting/days.lengths"], plainKeys := false, apart := false, laid := [("accounting/days.lengths", laid_accounting_days_lengths)], narrowed := true }
def RecostAdjustUptoSaid : Prop := recostAdjustUptoRow.holds Tryz.pinned (OpenSpec.upto recostAdjustSpec)

/-- 'accountinglaw39.RecostAdds', WHERE WHAT IT READS IS OF BULK AT MOST 1048576: true; the input reads as it did. -/
def recostAddsUptoRow : OpenClaim := { program := "ytcpghpifbgpkjaagreatdoor", sum := "6c9b0f49a7b8e77eb6b2d352d2adc42d782af370ae946c28a87d3d5404e53654", func := "accounting/accountinglaw39.RecostAdds", spec := "recostAdds", inPlace := ["slices.overlaps[int]"], unfollowed := true, recurses := true, named := ["accounting/days.lengths"], plainKeys := false, apart := false, laid := [("accounting/days.lengths", laid_accounting_days_lengths)], narrowed := true }
def RecostAddsUptoSaid : Prop := recostAddsUptoRow.holds Tryz.pinned (OpenSpec.upto recostAddsSpec)

/-- 'accountinglaw39.RecostFails', WHERE WHAT IT READS IS OF BULK AT MOST 1048576: true; the input reads as it did. -/
def recostFailsUptoRow : OpenClaim := { program := "ytcpghpifbgpkjaagreatdoor", sum := "6c9b0f49a7b8e77eb6b2d352d2adc42d782af370ae946c28a87d3d5404e53654", func := "accounting/accountinglaw39.RecostFails", spec := "recostFails", inPlace := ["slices.overlaps[int]"], unfollowed := true, recurses := true, named := ["accounting/days.lengths"], plainKeys := false, apart := false, laid := [("accounting/days.lengths", laid_accounting_days_lengths)], narrowed := true }
def RecostFailsUptoSaid : Prop := recostFailsUptoRow.holds Tryz.pinned (OpenSpec.upto recostFailsSpec)

/-- 'accountinglaw39.RecostAt', WHERE WHAT IT READS IS OF BULK AT MOST 1048576: true; the input reads as it did. -/
def recostAtUptoRow : OpenClaim := { program := "ytcpghpifbgpkjaagreatdoor", sum := "6c9b0f49a7b8e77eb6b2d352d2adc42d782af370ae946c28a87d3d5404e53654", func := "accounting/accountinglaw39.RecostAt", spec := "recostAt", inPlace := ["slices.overlaps[int]"], unfollowed := true, recurses := true, named := ["accounting/days.lengths"], plainKeys := false, apart := false, laid := [("accounting/days.lengths", laid_accounting_days_lengths)], narrowed := true }
def RecostAtUptoSaid : Prop := recostAtUptoRow.holds Tryz.pinned (OpenSpec.upto recostAtSpec)

/-- 'accountinglaw39.RecostNil', WHERE WHAT IT READS IS OF BULK AT MOST 1048576: true; the input reads as it did. -/
def recostNilUptoRow : OpenClaim := { program := "ytcpghpifbgpkjaagreatdoor", sum := "6c9b0f49a7b8e77eb6b2d352d2adc42d782af370ae946c28a87d3d5404e53654", func := "accounting/accountinglaw39.RecostNil", spec := "recostNil", inPlace := ["slices.overlaps[int]"], unfollowed := true, recurses := true, named := ["accounting/days.lengths"], plainKeys := false, apart := false, laid := [("accounting/days.lengths", laid_accounting_days_lengths)], narrowed := true }
def RecostNilUptoSaid : Prop := recostNilUptoRow.holds Tryz.pinned (OpenSpec.upto recostNilSpec)

/-- 'accountinglaw39.RecostOrder', WHERE WHAT IT READS IS OF BULK AT MOST 1048576: true; the input reads as it did. -/
def recostOrderUptoRow : OpenClaim := { program := "ytcpghpifbgpkjaagreatdoor", sum := "6c9b0f49a7b8e77eb6b2d352d2adc42d782af370ae946c28a87d3d5404e53654", func := "accounting/accountinglaw39.RecostOrder", spec := "recostOrder", inPlace := ["slices.overlaps[int]"], unfollowed := true, recurses := true, named := ["accounting/days.lengths"], plainKeys := false, apart := false, laid := [("accounting/days.lengths", laid_accounting_days_lengths)], narrowed := true }
def RecostOrderUptoSaid : Prop := recostOrderUptoRow.holds Tryz.pinned (OpenSpec.upto recostOrderSpec)

/-- 'accountinglaw39.RecostReplay', WHERE WHAT IT READS IS OF BULK AT MOST 1048576: true; the input reads as it did. -/
def recostReplayUptoRow : OpenClaim := { program := "ytcpghpifbgpkjaagreatdoor", sum := "6c9b0f49a7b8e77eb6b2d352d2adc42d782af370ae946c28a87d3d5404e53654", func := "accounting/accountinglaw39.RecostReplay", spec := "recostReplay", inPlace := ["slices.overlaps[int]"], unfollowed := true, recurses := true, named := ["accounting/days.lengths"], plainKeys := false, apart := false, laid := [("accounting/days.lengths", laid_accounting_days_lengths)], narrowed := true }
def RecostReplayUptoSaid : Prop := recostReplayUptoRow.holds Tryz.pinned (OpenSpec.upto recostReplaySpec)

end Rows
end Go.Proofs.YtcpghpifbgpkjaaGreatDoor
