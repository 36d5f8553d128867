/- CostingSteps: for every method, price and list of movements the law returns true (Run has the costs and the state that Start and one Step after the other have, up to the first error) and the arguments read as before.
Conditions: the package-level variable accounting/days.lengths starts as the program's text lays it (tied by the card); nothing else. -/
import Derived.Test.YtdcchollplhioaaGreatDoorQ4
set_option linter.unusedVariables false
set_option linter.unusedSimpArgs false
set_option maxRecDepth 100000
set_option maxHeartbeats 4000000
namespace Go.Proofs.YtdcchollplhioaaGreatDoor
open Go Go.SL Go.Proofs
theorem C11 : CI Tryz.prog 11 := .of (by kernel_rfl)
theorem C12 : CI Tryz.prog 12 := .of (by kernel_rfl)
-- accountinglaw38.CostingConserves
theorem ac5 (k p : Int) (R : HP) (oa : Option Addr) (cap : Nat) (ms : List Mv) (hR : RdS R oa (ms.flatMap Mv.c)) (hlen : (ms.length : Int) ≤ 9223372036854775807) (hms : ∀ m ∈ ms, m.ok) (R0 : HP) (hR0 : Rd R0 ⟨0, 0, none⟩ lensC) : AC Tryz.prog 5 ⟨[I k, I p, .slice oa ms.length cap]⟩ (stars [R, R0]) (Ret (Bo true) [R, R0]) := by
  refine AC.go Tryz.func5 rfl (Nat.le_of_ble_eq_true rfl) fun β => ?_
  refine sr ?_
  refine asg rfl rfl ?_
  refine kp [0, 1, 2] rfl ?_
  refine Run.seq ?_
  refine sr ?_
  refine mvo rfl rfl ?_
  refine RunL.call C11 rfl rfl rfl (ac11 R oa cap ms hR hlen) tks ?_
  refine kp [0, 1, 2, 15] rfl ?_
  first | refine Run.if rfl (fun h1 => ?_) (fun h1 => ?_) | refine Run.cond rfl (fun h1 => ?_) (fun h1 => ?_)
  · skip
    refine sr ?_
    refine RunL.call C12 rfl rfl rfl (ac12 R0 hR0) tks ?_
    refine asg rfl rfl ?_
    refine kp [6] rfl ?_
    refine Run.ret ?_
    exact ret_one (.tmp rfl .nil) (rfl) gv
  · skip
    refine Run.skip ?_
    refine sr ?_
    have h40 := largeMs_len (show largeMs ms = false by simpa using h1)
    refine mvo rfl rfl ?_
    refine mvo rfl rfl ?_
    refine mvo rfl rfl ?_
    refine RunL.callX C15 rfl rfl rfl (ac15 k p R oa cap ms hR (by omega) hms R0 hR0) tks fun ⟨l1, lc1, p1, pc1, ca, cc⟩ _ => ?_
    rcases hres : runM k p ms with ⟨i, e⟩ | ⟨t, cs⟩
    · skip
      refine mvo rfl rfl ?_
      refine RunL.op rfl rfl (OpJ.extract rfl rfl ?_)
      refine RunL.op rfl rfl (OpJ.extract rfl rfl ?_)
      refine RunL.op rfl rfl (OpJ.extract rfl rfl ?_)
      refine RunL.op rfl rfl (OpJ.extract rfl rfl ?_)
      refine RunL.op rfl rfl (OpJ.alloc Z28 fun b7 => ?_)
      refine RunL.op rfl rfl (OpJ.storeW T28 rfl rfl rfl rfl (by simp [Value.oneCell', Pa.c, Ly.c, Mv.c, Co.c]) up ?_)
      refine asg rfl rfl ?_
      refine asg rfl rfl ?_
      refine asg rfl rfl ?_
      refine kp [7, 8, 10] rfl ?_
      refine Run.seq ?_
      refine sr ?_
      refine mvo rfl rfl ?_
      refine RunL.op rfl rfl (OpJ.neq rfl rfl ?_)
      first | refine RunL.set (congrArg Value.bool (decide_eq_true (show e ≠ 0 from runM_err hres))) ?_ | skip
      refine kp [7, 8, 27] rfl ?_
      refine Run.true rfl ?_
      refine sr ?_
      refine mvo rfl rfl ?_
      refine RunL.op rfl rfl (OpJ.len S34 rfl ?_)
      refine RunL.op rfl rfl (OpJ.eql rfl rfl ?_)
      refine mvo rfl rfl ?_
      refine RunL.callG C12 rfl rfl rfl rfl rfl (ac12 R0 hR0) tks ?_
      refine RunL.op rfl rfl (OpJ.pickT rfl rfl ?_)
      refine asg rfl rfl ?_
      refine kp [6] rfl ?_
      refine Run.ret ?_
      exact ret_one (.tmp rfl .nil) (rfl) gv
    · skip
      have hsum := runM_sum hres
      have hcl := runM_len hres
      refine mvo rfl rfl ?_
      refine RunL.op rfl rfl (OpJ.extract rfl rfl ?_)
      refine RunL.op rfl rfl (OpJ.extract rfl rfl ?_)
      refine RunL.op rfl rfl (OpJ.extract rfl rfl ?_)
      refine RunL.op rfl rfl (OpJ.extract rfl rfl ?_)
      refine RunL.op rfl rfl (OpJ.alloc Z28 fun b7 => ?_)
      refine RunL.op rfl rfl (OpJ.storeW T28 rfl rfl rfl rfl (by simp [Value.oneCell', Pa.c, Ly.c, Mv.c, Co.c]) up ?_)
      refine asg rfl rfl ?_
      refine asg rfl rfl ?_
      refine asg rfl rfl ?_
      refine kp [7, 8, 10] rfl ?_
      refine Run.seq ?_
      refine sr ?_
      refine mvo rfl rfl ?_
      refine RunL.op rfl rfl (OpJ.neq rfl rfl ?_)
      first | refine RunL.set (congrArg Value.bool (decide_eq_true (show e ≠ 0 from runM_err hres))) ?_ | skip
      refine kp [7, 8, 27] rfl ?_
      refine Run.false rfl ?_
      refine Run.skip ?_
      refine sr ?_
      refine asg rfl rfl ?_
      refine asg rfl rfl ?_
      refine kp [7, 8, 11, 12] rfl ?_
      refine Run.seq ?_
      refine sr ?_
      refine asg rfl rfl ?_
      refine kp [7, 8, 11, 12, 13] rfl ?_
      refine Run.block ?_
      refine Run.weak (L' := [pt b7 (blk (t.c l1 lc1 p1 pc1) 28), own 43 4 ca (cs).length cc ((cs).flatMap Co.c), R, R0]) (fun _ _ h => h) gv ?_
      refine Run.loop (fun mm E L => ∃ i : Nat, mm = cs.length - i ∧ i ≤ cs.length ∧ E = [(7, .pointer (some ⟨b7, 0, none⟩)), (8, .slice ca cs.length cc), (11, I (wsum Co.qty (cs.take i))), (12, I (wsum Co.value (cs.take i))), (13, I i)] ∧ L = [pt b7 (blk (t.c l1 lc1 p1 pc1) 28), own 43 4 ca (cs).length cc ((cs).flatMap Co.c), R, R0]) ⟨_, 0, rfl, Nat.zero_le _, rfl, rfl⟩ ?_
      rintro _ _ _ ⟨i, rfl, hi, rfl, rfl⟩
      refine Run.seq ?_
      refine sr ?_
      refine mvo rfl rfl ?_
      refine mvo rfl rfl ?_
      refine RunL.op rfl rfl (OpJ.len S34 rfl ?_)
      refine RunL.op rfl rfl (OpJ.lss rfl rfl ?_)
      refine kp [7, 8, 11, 12, 13, 37] rfl ?_
      first | refine Run.if rfl (fun h2 => ?_) (fun h2 => ?_) | refine Run.cond rfl (fun h2 => ?_) (fun h2 => ?_)
      · skip
        refine Run.skip ?_
        refine Run.seq ?_
        refine Run.block ?_
        refine regionD HM ?_
        obtain ⟨c, hx⟩ := get_ex (xs := cs) (by omega)
        refine RunD.ownAddr pk (flat_ne (k := 4) (fun _ => rfl) (by decide) hx) fun b e hcap => ?_
        subst e
        refine tk 0 rfl rfl rfl (DetJ.move rfl) ?_
        refine tk 1 rfl rfl rfl (DetJ.move rfl) ?_
        refine tk 2 rfl rfl rfl (DetJ.move rfl) ?_
        refine tk 3 rfl rfl rfl (DetJ.indexAddr S34 rfl rfl (by omega)) ?_
        refine tk 4 rfl rfl rfl (DetJ.fieldAddr F43_1 rfl) ?_
        first | refine RunD.takeF 5 rfl rfl kr T3 rfl pk (by rfl) ?_ | refine RunD.takeO 5 rfl rfl kr T3 rfl pk (by assumption) (by rfl) (by exact fun _ => rfl) ?_
        refine tk 6 rfl rfl rfl (DetJ.add rfl rfl) ?_
        refine tk 7 rfl rfl rfl (DetJ.move rfl) ?_
        refine tk 8 rfl rfl rfl (DetJ.move rfl) ?_
        refine tk 9 rfl rfl rfl (DetJ.move rfl) ?_
        refine tk 10 rfl rfl rfl (DetJ.indexAddr S34 rfl rfl (by omega)) ?_
        refine tk 11 rfl rfl rfl (DetJ.fieldAddr F43_2 rfl) ?_
        first | refine RunD.takeF 12 rfl rfl kr T3 rfl pk (by rfl) ?_ | refine RunD.takeO 12 rfl rfl kr T3 rfl pk (by assumption) (by rfl) (by exact fun _ => rfl) ?_
        refine tk 13 rfl rfl rfl (DetJ.add rfl rfl) ?_
        refine tk 14 rfl rfl rfl (DetJ.assign rfl) ?_
        refine tk 15 rfl rfl rfl (DetJ.assign rfl) ?_
        refine kd [7, 8, 11, 12, 13] rfl ?_
        refine Run.region ?_
        refine mvo rfl rfl ?_
        refine RunL.op rfl rfl (OpJ.addI rfl rfl (by omega) ?_)
        refine asg rfl rfl ?_
        rw [← wsum_succ (f := Co.qty) hx, ← wsum_succ (f := Co.value) hx]
        exact RunL.next (Keep.sub (kt (ks := [7, 8, 11, 12, 13]) rfl)) _ ⟨_, by omega, i + 1, rfl, by omega, rfl, rfl⟩ gv
      · skip
        refine Run.exit ?_
        refine sr ?_
        obtain rfl : i = cs.length := by omega
        have hq : t.qty = wsum Co.qty (cs.take cs.length) := by rw [List.take_length]; exact hsum.1
        have hv : t.value = wsum Co.value (cs.take cs.length) := by rw [List.take_length]; exact hsum.2
        refine RunL.op rfl rfl (OpJ.fieldAddr F28_0 rfl ?_)
        first | refine RunL.op rfl rfl (OpJ.loadF T3 rfl pk (by rfl) ?_) | refine RunL.op rfl rfl (OpJ.loadO T3 rfl pk (by assumption) (by rfl) (by exact fun _ => rfl) ?_)
        refine mvo rfl rfl ?_
        refine RunL.op rfl rfl (OpJ.eql rfl rfl ?_)
        refine RunL.set (v := Bo true) (congrArg Value.bool (decide_eq_true hq)) ?_
        refine mvo rfl rfl ?_
        refine RunL.yes rfl rfl rfl rfl (OpJ.fieldAddr F28_1 rfl ?_)
        first | refine RunL.yes rfl rfl rfl rfl (OpJ.loadF T3 rfl pk (by rfl) ?_) | refine RunL.yes rfl rfl rfl rfl (OpJ.loadO T3 rfl pk (by assumption) (by rfl) (by exact fun _ => rfl) ?_)
        refine RunL.yes rfl rfl rfl rfl (OpJ.move rfl ?_)
        refine RunL.yes rfl rfl rfl rfl (OpJ.eql rfl rfl ?_)
        refine RunL.set (v := Bo true) (congrArg Value.bool (decide_eq_true hv)) ?_
        refine RunL.op rfl rfl (OpJ.pickT rfl rfl ?_)
        refine mvo rfl rfl ?_
        refine RunL.callG C12 rfl rfl rfl rfl rfl (ac12 R0 hR0) tks ?_
        refine RunL.op rfl rfl (OpJ.pickT rfl rfl ?_)
        refine asg rfl rfl ?_
        refine kp [6] rfl ?_
        refine Run.ret ?_
        exact ret_one (.tmp rfl .nil) (rfl) gv
end Go.Proofs.YtdcchollplhioaaGreatDoor

namespace Go.Proofs.YtdcchollplhioaaGreatDoor
open Go Go.SL Go.Proofs
theorem C24 : CI Tryz.prog 24 := .of (by kernel_rfl)
-- accountinglaw38.CostingEach
theorem ac6 (k p : Int) (R : HP) (oa : Option Addr) (cap : Nat) (ms : List Mv) (hR : RdS R oa (ms.flatMap Mv.c)) (hlen : (ms.length : Int) ≤ 9223372036854775807) (hms : ∀ m ∈ ms, m.ok) (R0 : HP) (hR0 : Rd R0 ⟨0, 0, none⟩ lensC) : AC Tryz.prog 6 ⟨[I k, I p, .slice oa ms.length cap]⟩ (stars [R, R0]) (Ret (Bo true) [R, R0]) := by
  refine AC.go Tryz.func6 rfl (Nat.le_of_ble_eq_true rfl) fun β => ?_
  refine sr ?_
  refine asg rfl rfl ?_
  refine kp [0, 1, 2] rfl ?_
  refine Run.seq ?_
  refine sr ?_
  refine mvo rfl rfl ?_
  refine RunL.call C11 rfl rfl rfl (ac11 R oa cap ms hR hlen) tks ?_
  refine kp [0, 1, 2, 14] rfl ?_
  first | refine Run.if rfl (fun h1 => ?_) (fun h1 => ?_) | refine Run.cond rfl (fun h1 => ?_) (fun h1 => ?_)
  · skip
    refine sr ?_
    refine RunL.call C12 rfl rfl rfl (ac12 R0 hR0) tks ?_
    refine asg rfl rfl ?_
    refine kp [6] rfl ?_
    refine Run.ret ?_
    exact ret_one (.tmp rfl .nil) (rfl) gv
  · skip
    refine Run.skip ?_
    refine sr ?_
    have h40 := largeMs_len (show largeMs ms = false by simpa using h1)
    refine mvo rfl rfl ?_
    refine mvo rfl rfl ?_
    refine mvo rfl rfl ?_
    refine RunL.callX C15 rfl rfl rfl (ac15 k p R oa cap ms hR (by omega) hms R0 hR0) tks fun ⟨l1, lc1, p1, pc1, ca, cc⟩ _ => ?_
    rcases hres : runM k p ms with ⟨i, e⟩ | ⟨t, cs⟩
    · skip
      refine mvo rfl rfl ?_
      refine RunL.op rfl rfl (OpJ.extract rfl rfl ?_)
      refine RunL.op rfl rfl (OpJ.extract rfl rfl ?_)
      refine RunL.op rfl rfl (OpJ.extract rfl rfl ?_)
      refine RunL.op rfl rfl (OpJ.extract rfl rfl ?_)
      refine RunL.op rfl rfl (OpJ.alloc Z28 fun b7 => ?_)
      refine RunL.op rfl rfl (OpJ.storeW T28 rfl rfl rfl rfl (by simp [Value.oneCell', Pa.c, Ly.c, Mv.c, Co.c]) up ?_)
      refine asg rfl rfl ?_
      refine asg rfl rfl ?_
      refine asg rfl rfl ?_
      refine kp [2, 8, 10] rfl ?_
      refine Run.seq ?_
      refine sr ?_
      refine mvo rfl rfl ?_
      refine RunL.op rfl rfl (OpJ.neq rfl rfl ?_)
      first | refine RunL.set (congrArg Value.bool (decide_eq_true (show e ≠ 0 from runM_err hres))) ?_ | skip
      refine kp [2, 8, 26] rfl ?_
      refine Run.true rfl ?_
      refine sr ?_
      refine RunL.call C12 rfl rfl rfl (ac12 R0 hR0) tks ?_
      refine asg rfl rfl ?_
      refine kp [6] rfl ?_
      refine Run.ret ?_
      exact ret_one (.tmp rfl .nil) (rfl) gv
    · skip
      have hcl := runM_len hres
      refine mvo rfl rfl ?_
      refine RunL.op rfl rfl (OpJ.extract rfl rfl ?_)
      refine RunL.op rfl rfl (OpJ.extract rfl rfl ?_)
      refine RunL.op rfl rfl (OpJ.extract rfl rfl ?_)
      refine RunL.op rfl rfl (OpJ.extract rfl rfl ?_)
      refine RunL.op rfl rfl (OpJ.alloc Z28 fun b7 => ?_)
      refine RunL.op rfl rfl (OpJ.storeW T28 rfl rfl rfl rfl (by simp [Value.oneCell', Pa.c, Ly.c, Mv.c, Co.c]) up ?_)
      refine asg rfl rfl ?_
      refine asg rfl rfl ?_
      refine asg rfl rfl ?_
      refine kp [2, 8, 10] rfl ?_
      refine Run.seq ?_
      refine sr ?_
      refine mvo rfl rfl ?_
      refine RunL.op rfl rfl (OpJ.neq rfl rfl ?_)
      first | refine RunL.set (congrArg Value.bool (decide_eq_true (show e ≠ 0 from runM_err hres))) ?_ | skip
      refine kp [2, 8, 26] rfl ?_
      refine Run.false rfl ?_
      refine Run.skip ?_
      refine Run.seq ?_
      refine sr ?_
      refine mvo rfl rfl ?_
      refine RunL.op rfl rfl (OpJ.len S34 rfl ?_)
      refine mvo rfl rfl ?_
      refine RunL.op rfl rfl (OpJ.len S22 rfl ?_)
      refine RunL.op rfl rfl (OpJ.neq rfl rfl ?_)
      refine RunL.set (v := Bo false) (congrArg Value.bool (decide_eq_false (fun h => h (by rw [hcl])))) ?_
      refine kp [2, 8, 32] rfl ?_
      refine Run.false rfl ?_
      refine Run.skip ?_
      refine Run.seq ?_
      refine sr ?_
      refine asg rfl rfl ?_
      refine kp [2, 8, 11] rfl ?_
      refine Run.block ?_
      refine Run.weak (L' := [own 43 4 ca (cs).length cc ((cs).flatMap Co.c), R, R0]) (fun _ _ h => h) gv ?_
      refine Run.loop (fun mm E L => ∃ i : Nat, mm = ms.length - i ∧ i ≤ ms.length ∧ E = [(2, .slice oa ms.length cap), (8, .slice ca cs.length cc), (11, I i)] ∧ L = [own 43 4 ca (cs).length cc ((cs).flatMap Co.c), R, R0]) ⟨_, 0, rfl, Nat.zero_le _, rfl, rfl⟩ ?_
      rintro _ _ _ ⟨i, rfl, hi, rfl, rfl⟩
      refine Run.seq ?_
      refine sr ?_
      refine mvo rfl rfl ?_
      refine mvo rfl rfl ?_
      refine RunL.op rfl rfl (OpJ.len S22 rfl ?_)
      refine RunL.op rfl rfl (OpJ.lss rfl rfl ?_)
      refine kp [2, 8, 11, 36] rfl ?_
      first | refine Run.if rfl (fun h2 => ?_) (fun h2 => ?_) | refine Run.cond rfl (fun h2 => ?_) (fun h2 => ?_)
      · skip
        refine Run.skip ?_
        refine Run.seq ?_
        refine Run.block ?_
        refine Run.seq ?_
        refine regionD HM ?_
        obtain ⟨c, hx⟩ := get_ex (xs := cs) (i := i) (by omega)
        refine RunD.ownAddr pk (flat_ne (k := 4) (fun _ => rfl) (by decide) hx) fun b e hcap => ?_
        subst e
        refine tk 0 rfl rfl rfl (DetJ.move rfl) ?_
        refine tk 1 rfl rfl rfl (DetJ.move rfl) ?_
        refine tk 2 rfl rfl rfl (DetJ.indexAddr S34 rfl rfl (by omega)) ?_
        refine tk 3 rfl rfl rfl (DetJ.fieldAddr F43_2 rfl) ?_
        first | refine RunD.takeF 4 rfl rfl kr T3 rfl pk (by rfl) ?_ | refine RunD.takeO 4 rfl rfl kr T3 rfl pk (by assumption) (by rfl) (by exact fun _ => rfl) ?_
        refine tk 5 rfl rfl rfl (DetJ.move rfl) ?_
        refine tk 6 rfl rfl rfl (DetJ.move rfl) ?_
        refine tk 7 rfl rfl rfl (DetJ.indexAddr S34 rfl rfl (by omega)) ?_
        refine tk 8 rfl rfl rfl (DetJ.fieldAddr F43_3 rfl) ?_
        first | refine RunD.takeF 9 rfl rfl kr T3 rfl pk (by rfl) ?_ | refine RunD.takeO 9 rfl rfl kr T3 rfl pk (by assumption) (by rfl) (by exact fun _ => rfl) ?_
        refine tk 10 rfl rfl rfl (DetJ.add rfl rfl) ?_
        refine tk 11 rfl rfl rfl (DetJ.assign rfl) ?_
        refine kd [2, 8, 11, 12] rfl ?_
        refine sr ?_
        obtain ⟨m, hxm⟩ := get_ex (xs := ms) (i := i) (by omega)
        refine RunL.rdOpen (R := R) pk hR (flat_ne (k := 8) (fun _ => rfl) (by decide) hxm) fun b0 o0 e hrd => ?_
        subst e
        have he := runM_each hres hxm hx
        refine mvo rfl rfl ?_
        refine mvo rfl rfl ?_
        refine RunL.op rfl rfl (OpJ.indexAddr S22 rfl rfl (by omega) ?_)
        refine RunL.op rfl rfl (OpJ.fieldAddr F47_3 rfl ?_)
        refine RunL.op rfl rfl (OpJ.load1 T3 rfl pk (hrd.mv hxm 3 (I m.kind) rfl) ?_)
        refine kp [2, 8, 11, 12, 54] rfl ?_
        refine Run.block ?_
        refine Run.seq ?_
        refine sr ?_
        refine RunL.op rfl rfl (OpJ.eql rfl rfl ?_)
        refine asg rfl rfl ?_
        refine kp [2, 8, 11, 12, 54, 55] rfl ?_
        first | refine Run.if rfl (fun h3 => ?_) (fun h3 => ?_) | refine Run.cond rfl (fun h3 => ?_) (fun h3 => ?_)
        · skip
          refine Run.skip ?_
          first | refine Run.if rfl (fun h4 => ?_) (fun h4 => ?_) | refine Run.cond rfl (fun h4 => ?_) (fun h4 => ?_)
          · skip
            refine sr ?_
            refine mvo rfl rfl ?_
            refine mvo rfl rfl ?_
            refine mvo rfl rfl ?_
            refine RunL.op rfl rfl (OpJ.indexAddr S22 rfl rfl (by omega) ?_)
            refine RunL.op rfl rfl (OpJ.fieldAddr F47_5 rfl ?_)
            refine RunL.op rfl rfl (OpJ.load1 T3 rfl pk (hrd.mv hxm 5 (I m.cost) rfl) ?_)
            refine RunL.op rfl rfl (OpJ.neq rfl rfl ?_)
            refine RunL.set (v := Bo false) (congrArg Value.bool (decide_eq_false (fun h => h (he.k15 (by omega))))) ?_
            refine kp [2, 8, 11, 64] rfl ?_
            refine Run.false rfl ?_
            refine Run.skip ?_
            refine Run.region ?_
            refine mvo rfl rfl ?_
            refine RunL.op rfl rfl (OpJ.addI rfl rfl (by omega) ?_)
            refine asg rfl rfl ?_
            exact RunL.next (Keep.sub (kt (ks := [2, 8, 11]) rfl)) _ ⟨_, by omega, i + 1, rfl, by omega, rfl, rfl⟩ gv
          · skip
            refine sr ?_
            refine RunL.op rfl rfl (OpJ.eql rfl rfl ?_)
            refine asg rfl rfl ?_
            refine kp [2, 8, 11, 12, 54, 65] rfl ?_
            first | refine Run.if rfl (fun h5 => ?_) (fun h5 => ?_) | refine Run.cond rfl (fun h5 => ?_) (fun h5 => ?_)
            · skip
              refine sr ?_
              refine mvo rfl rfl ?_
              refine mvo rfl rfl ?_
              refine mvo rfl rfl ?_
              refine RunL.op rfl rfl (OpJ.indexAddr S22 rfl rfl (by omega) ?_)
              refine RunL.op rfl rfl (OpJ.fieldAddr F47_5 rfl ?_)
              refine RunL.op rfl rfl (OpJ.load1 T3 rfl pk (hrd.mv hxm 5 (I m.cost) rfl) ?_)
              refine RunL.op rfl rfl (OpJ.neg rfl ?_)
              refine RunL.op rfl rfl (OpJ.neq rfl rfl ?_)
              refine RunL.set (v := Bo false) (congrArg Value.bool (decide_eq_false (fun h => h (he.k4 (by omega))))) ?_
              refine kp [2, 8, 11, 74] rfl ?_
              refine Run.false rfl ?_
              refine Run.skip ?_
              refine Run.region ?_
              refine mvo rfl rfl ?_
              refine RunL.op rfl rfl (OpJ.addI rfl rfl (by omega) ?_)
              refine asg rfl rfl ?_
              exact RunL.next (Keep.sub (kt (ks := [2, 8, 11]) rfl)) _ ⟨_, by omega, i + 1, rfl, by omega, rfl, rfl⟩ gv
            · skip
              refine sr ?_
              refine RunL.op rfl rfl (OpJ.eql rfl rfl ?_)
              refine asg rfl rfl ?_
              refine kp [2, 8, 11, 12, 54, 75] rfl ?_
              first | refine Run.if rfl (fun h6 => ?_) (fun h6 => ?_) | refine Run.cond rfl (fun h6 => ?_) (fun h6 => ?_)
              · skip
                refine sr ?_
                refine mvo rfl rfl ?_
                refine RunL.op rfl rfl (OpJ.neq rfl rfl ?_)
                refine RunL.set (v := Bo false) (congrArg Value.bool (decide_eq_false (fun h => h (he.k6 (by omega))))) ?_
                refine kp [2, 8, 11, 78] rfl ?_
                refine Run.false rfl ?_
                refine Run.skip ?_
                refine Run.region ?_
                refine mvo rfl rfl ?_
                refine RunL.op rfl rfl (OpJ.addI rfl rfl (by omega) ?_)
                refine asg rfl rfl ?_
                exact RunL.next (Keep.sub (kt (ks := [2, 8, 11]) rfl)) _ ⟨_, by omega, i + 1, rfl, by omega, rfl, rfl⟩ gv
              · skip
                refine sr ?_
                refine RunL.op rfl rfl (OpJ.eql rfl rfl ?_)
                refine asg rfl rfl ?_
                refine kp [2, 8, 11, 79] rfl ?_
                first | refine Run.if rfl (fun h7 => ?_) (fun h7 => ?_) | refine Run.cond rfl (fun h7 => ?_) (fun h7 => ?_)
                · skip
                  refine sr ?_
                  refine mvo rfl rfl ?_
                  refine mvo rfl rfl ?_
                  refine RunL.op rfl rfl (OpJ.indexAddr S34 rfl rfl (by omega) ?_)
                  refine RunL.op rfl rfl (OpJ.fieldAddr F43_3 rfl ?_)
                  first | refine RunL.op rfl rfl (OpJ.loadF T3 rfl pk (by rfl) ?_) | refine RunL.op rfl rfl (OpJ.loadO T3 rfl pk (by assumption) (by rfl) (by exact fun _ => rfl) ?_)
                  refine RunL.op rfl rfl (OpJ.neq rfl rfl ?_)
                  refine RunL.set (v := Bo false) (congrArg Value.bool (decide_eq_false (fun h => h (he.k2 (by omega)).1))) ?_
                  refine mvo rfl rfl ?_
                  refine RunL.yes rfl rfl rfl rfl (OpJ.move rfl ?_)
                  refine RunL.yes rfl rfl rfl rfl (OpJ.move rfl ?_)
                  refine RunL.yes rfl rfl rfl rfl (OpJ.indexAddr S34 rfl rfl (by omega) ?_)
                  refine RunL.yes rfl rfl rfl rfl (OpJ.fieldAddr F43_2 rfl ?_)
                  first | refine RunL.yes rfl rfl rfl rfl (OpJ.loadF T3 rfl pk (by rfl) ?_) | refine RunL.yes rfl rfl rfl rfl (OpJ.loadO T3 rfl pk (by assumption) (by rfl) (by exact fun _ => rfl) ?_)
                  refine RunL.yes rfl rfl rfl rfl (OpJ.gtr rfl rfl ?_)
                  refine RunL.set (v := Bo false) (congrArg Value.bool (decide_eq_false (show ¬ 0 < c.value by have := (he.k2 (by omega)).2; omega))) ?_
                  refine RunL.op rfl rfl (OpJ.pickF rfl rfl ?_)
                  refine kp [2, 8, 11, 94] rfl ?_
                  refine Run.false rfl ?_
                  refine Run.skip ?_
                  refine Run.region ?_
                  refine mvo rfl rfl ?_
                  refine RunL.op rfl rfl (OpJ.addI rfl rfl (by omega) ?_)
                  refine asg rfl rfl ?_
                  exact RunL.next (Keep.sub (kt (ks := [2, 8, 11]) rfl)) _ ⟨_, by omega, i + 1, rfl, by omega, rfl, rfl⟩ gv
                · skip
                  refine Run.skip ?_
                  refine Run.region ?_
                  refine mvo rfl rfl ?_
                  refine RunL.op rfl rfl (OpJ.addI rfl rfl (by omega) ?_)
                  refine asg rfl rfl ?_
                  exact RunL.next (Keep.sub (kt (ks := [2, 8, 11]) rfl)) _ ⟨_, by omega, i + 1, rfl, by omega, rfl, rfl⟩ gv
        · skip
          refine Run.region ?_
          refine RunL.op rfl rfl (OpJ.eql rfl rfl ?_)
          refine asg rfl rfl ?_
          refine kp [2, 8, 11, 12, 54, 55] rfl ?_
          first | refine Run.if rfl (fun h8 => ?_) (fun h8 => ?_) | refine Run.cond rfl (fun h8 => ?_) (fun h8 => ?_)
          · skip
            refine sr ?_
            refine mvo rfl rfl ?_
            refine mvo rfl rfl ?_
            refine mvo rfl rfl ?_
            refine RunL.op rfl rfl (OpJ.indexAddr S22 rfl rfl (by omega) ?_)
            refine RunL.op rfl rfl (OpJ.fieldAddr F47_5 rfl ?_)
            refine RunL.op rfl rfl (OpJ.load1 T3 rfl pk (hrd.mv hxm 5 (I m.cost) rfl) ?_)
            refine RunL.op rfl rfl (OpJ.neq rfl rfl ?_)
            refine RunL.set (v := Bo false) (congrArg Value.bool (decide_eq_false (fun h => h (he.k15 (by omega))))) ?_
            refine kp [2, 8, 11, 64] rfl ?_
            refine Run.false rfl ?_
            refine Run.skip ?_
            refine Run.region ?_
            refine mvo rfl rfl ?_
            refine RunL.op rfl rfl (OpJ.addI rfl rfl (by omega) ?_)
            refine asg rfl rfl ?_
            exact RunL.next (Keep.sub (kt (ks := [2, 8, 11]) rfl)) _ ⟨_, by omega, i + 1, rfl, by omega, rfl, rfl⟩ gv
          · skip
            refine sr ?_
            refine RunL.op rfl rfl (OpJ.eql rfl rfl ?_)
            refine asg rfl rfl ?_
            refine kp [2, 8, 11, 12, 54, 65] rfl ?_
            first | refine Run.if rfl (fun h9 => ?_) (fun h9 => ?_) | refine Run.cond rfl (fun h9 => ?_) (fun h9 => ?_)
            · skip
              refine sr ?_
              refine mvo rfl rfl ?_
              refine mvo rfl rfl ?_
              refine mvo rfl rfl ?_
              refine RunL.op rfl rfl (OpJ.indexAddr S22 rfl rfl (by omega) ?_)
              refine RunL.op rfl rfl (OpJ.fieldAddr F47_5 rfl ?_)
              refine RunL.op rfl rfl (OpJ.load1 T3 rfl pk (hrd.mv hxm 5 (I m.cost) rfl) ?_)
              refine RunL.op rfl rfl (OpJ.neg rfl ?_)
              refine RunL.op rfl rfl (OpJ.neq rfl rfl ?_)
              refine RunL.set (v := Bo false) (congrArg Value.bool (decide_eq_false (fun h => h (he.k4 (by omega))))) ?_
              refine kp [2, 8, 11, 74] rfl ?_
              refine Run.false rfl ?_
              refine Run.skip ?_
              refine Run.region ?_
              refine mvo rfl rfl ?_
              refine RunL.op rfl rfl (OpJ.addI rfl rfl (by omega) ?_)
              refine asg rfl rfl ?_
              exact RunL.next (Keep.sub (kt (ks := [2, 8, 11]) rfl)) _ ⟨_, by omega, i + 1, rfl, by omega, rfl, rfl⟩ gv
            · skip
              refine sr ?_
              refine RunL.op rfl rfl (OpJ.eql rfl rfl ?_)
              refine asg rfl rfl ?_
              refine kp [2, 8, 11, 12, 54, 75] rfl ?_
              first | refine Run.if rfl (fun h10 => ?_) (fun h10 => ?_) | refine Run.cond rfl (fun h10 => ?_) (fun h10 => ?_)
              · skip
                refine sr ?_
                refine mvo rfl rfl ?_
                refine RunL.op rfl rfl (OpJ.neq rfl rfl ?_)
                refine RunL.set (v := Bo false) (congrArg Value.bool (decide_eq_false (fun h => h (he.k6 (by omega))))) ?_
                refine kp [2, 8, 11, 78] rfl ?_
                refine Run.false rfl ?_
                refine Run.skip ?_
                refine Run.region ?_
                refine mvo rfl rfl ?_
                refine RunL.op rfl rfl (OpJ.addI rfl rfl (by omega) ?_)
                refine asg rfl rfl ?_
                exact RunL.next (Keep.sub (kt (ks := [2, 8, 11]) rfl)) _ ⟨_, by omega, i + 1, rfl, by omega, rfl, rfl⟩ gv
              · skip
                refine sr ?_
                refine RunL.op rfl rfl (OpJ.eql rfl rfl ?_)
                refine asg rfl rfl ?_
                refine kp [2, 8, 11, 79] rfl ?_
                first | refine Run.if rfl (fun h11 => ?_) (fun h11 => ?_) | refine Run.cond rfl (fun h11 => ?_) (fun h11 => ?_)
                · skip
                  refine sr ?_
                  refine mvo rfl rfl ?_
                  refine mvo rfl rfl ?_
                  refine RunL.op rfl rfl (OpJ.indexAddr S34 rfl rfl (by omega) ?_)
                  refine RunL.op rfl rfl (OpJ.fieldAddr F43_3 rfl ?_)
                  first | refine RunL.op rfl rfl (OpJ.loadF T3 rfl pk (by rfl) ?_) | refine RunL.op rfl rfl (OpJ.loadO T3 rfl pk (by assumption) (by rfl) (by exact fun _ => rfl) ?_)
                  refine RunL.op rfl rfl (OpJ.neq rfl rfl ?_)
                  refine RunL.set (v := Bo false) (congrArg Value.bool (decide_eq_false (fun h => h (he.k2 (by omega)).1))) ?_
                  refine mvo rfl rfl ?_
                  refine RunL.yes rfl rfl rfl rfl (OpJ.move rfl ?_)
                  refine RunL.yes rfl rfl rfl rfl (OpJ.move rfl ?_)
                  refine RunL.yes rfl rfl rfl rfl (OpJ.indexAddr S34 rfl rfl (by omega) ?_)
                  refine RunL.yes rfl rfl rfl rfl (OpJ.fieldAddr F43_2 rfl ?_)
                  first | refine RunL.yes rfl rfl rfl rfl (OpJ.loadF T3 rfl pk (by rfl) ?_) | refine RunL.yes rfl rfl rfl rfl (OpJ.loadO T3 rfl pk (by assumption) (by rfl) (by exact fun _ => rfl) ?_)
                  refine RunL.yes rfl rfl rfl rfl (OpJ.gtr rfl rfl ?_)
                  refine RunL.set (v := Bo false) (congrArg Value.bool (decide_eq_false (show ¬ 0 < c.value by have := (he.k2 (by omega)).2; omega))) ?_
                  refine RunL.op rfl rfl (OpJ.pickF rfl rfl ?_)
                  refine kp [2, 8, 11, 94] rfl ?_
                  refine Run.false rfl ?_
                  refine Run.skip ?_
                  refine Run.region ?_
                  refine mvo rfl rfl ?_
                  refine RunL.op rfl rfl (OpJ.addI rfl rfl (by omega) ?_)
                  refine asg rfl rfl ?_
                  exact RunL.next (Keep.sub (kt (ks := [2, 8, 11]) rfl)) _ ⟨_, by omega, i + 1, rfl, by omega, rfl, rfl⟩ gv
                · skip
                  refine Run.skip ?_
                  refine Run.region ?_
                  refine mvo rfl rfl ?_
                  refine RunL.op rfl rfl (OpJ.addI rfl rfl (by omega) ?_)
                  refine asg rfl rfl ?_
                  exact RunL.next (Keep.sub (kt (ks := [2, 8, 11]) rfl)) _ ⟨_, by omega, i + 1, rfl, by omega, rfl, rfl⟩ gv
      · skip
        refine Run.exit ?_
        refine sr ?_
        refine RunL.call C12 rfl rfl rfl (ac12 R0 hR0) tks ?_
        refine asg rfl rfl ?_
        refine kp [6] rfl ?_
        refine Run.ret ?_
        exact ret_one (.tmp rfl .nil) (rfl) gv
-- accountinglaw38.CostingLevels
theorem ac10 (k p : Int) (R : HP) (oa : Option Addr) (cap : Nat) (ms : List Mv) (hR : RdS R oa (ms.flatMap Mv.c)) (hlen : (ms.length : Int) ≤ 9223372036854775807) (hms : ∀ m ∈ ms, m.ok) (R0 : HP) (hR0 : Rd R0 ⟨0, 0, none⟩ lensC) : AC Tryz.prog 10 ⟨[I k, I p, .slice oa ms.length cap]⟩ (stars [R, R0]) (Ret (Bo true) [R, R0]) := by
  refine AC.go Tryz.func10 rfl (Nat.le_of_ble_eq_true rfl) fun β => ?_
  refine sr ?_
  refine asg rfl rfl ?_
  refine kp [0, 1, 2] rfl ?_
  refine Run.seq ?_
  refine sr ?_
  refine mvo rfl rfl ?_
  refine RunL.call C11 rfl rfl rfl (ac11 R oa cap ms hR hlen) tks ?_
  refine kp [0, 1, 2, 17] rfl ?_
  first | refine Run.if rfl (fun h1 => ?_) (fun h1 => ?_) | refine Run.cond rfl (fun h1 => ?_) (fun h1 => ?_)
  · skip
    refine sr ?_
    refine RunL.call C12 rfl rfl rfl (ac12 R0 hR0) tks ?_
    refine asg rfl rfl ?_
    refine kp [6] rfl ?_
    refine Run.ret ?_
    exact ret_one (.tmp rfl .nil) (rfl) gv
  · skip
    refine Run.skip ?_
    refine sr ?_
    have h40 := largeMs_len (show largeMs ms = false by simpa using h1)
    refine mvo rfl rfl ?_
    refine mvo rfl rfl ?_
    refine mvo rfl rfl ?_
    refine RunL.callX C15 rfl rfl rfl (ac15 k p R oa cap ms hR (by omega) hms R0 hR0) tks fun ⟨l1, lc1, p1, pc1, ca, cc⟩ _ => ?_
    rcases hres : runM k p ms with ⟨i, e⟩ | ⟨t, cs⟩
    · skip
      refine mvo rfl rfl ?_
      refine RunL.op rfl rfl (OpJ.extract rfl rfl ?_)
      refine RunL.op rfl rfl (OpJ.extract rfl rfl ?_)
      refine RunL.op rfl rfl (OpJ.extract rfl rfl ?_)
      refine RunL.op rfl rfl (OpJ.extract rfl rfl ?_)
      refine RunL.op rfl rfl (OpJ.alloc Z28 fun b7 => ?_)
      refine RunL.op rfl rfl (OpJ.storeW T28 rfl rfl rfl rfl (by simp [Value.oneCell', Pa.c, Ly.c, Mv.c, Co.c]) up ?_)
      refine asg rfl rfl ?_
      refine asg rfl rfl ?_
      refine asg rfl rfl ?_
      refine kp [2, 8, 10] rfl ?_
      refine Run.seq ?_
      refine sr ?_
      refine mvo rfl rfl ?_
      refine RunL.op rfl rfl (OpJ.neq rfl rfl ?_)
      first | refine RunL.set (congrArg Value.bool (decide_eq_true (show e ≠ 0 from runM_err hres))) ?_ | skip
      refine kp [2, 8, 29] rfl ?_
      refine Run.true rfl ?_
      refine sr ?_
      refine RunL.call C12 rfl rfl rfl (ac12 R0 hR0) tks ?_
      refine asg rfl rfl ?_
      refine kp [6] rfl ?_
      refine Run.ret ?_
      exact ret_one (.tmp rfl .nil) (rfl) gv
    · skip
      have hcl := runM_len hres
      obtain ⟨qs, hql, hqn, hqg⟩ := runM_lev hres
      refine mvo rfl rfl ?_
      refine RunL.op rfl rfl (OpJ.extract rfl rfl ?_)
      refine RunL.op rfl rfl (OpJ.extract rfl rfl ?_)
      refine RunL.op rfl rfl (OpJ.extract rfl rfl ?_)
      refine RunL.op rfl rfl (OpJ.extract rfl rfl ?_)
      refine RunL.op rfl rfl (OpJ.alloc Z28 fun b7 => ?_)
      refine RunL.op rfl rfl (OpJ.storeW T28 rfl rfl rfl rfl (by simp [Value.oneCell', Pa.c, Ly.c, Mv.c, Co.c]) up ?_)
      refine asg rfl rfl ?_
      refine asg rfl rfl ?_
      refine asg rfl rfl ?_
      refine kp [2, 8, 10] rfl ?_
      refine Run.seq ?_
      refine sr ?_
      refine mvo rfl rfl ?_
      refine RunL.op rfl rfl (OpJ.neq rfl rfl ?_)
      first | refine RunL.set (congrArg Value.bool (decide_eq_true (show e ≠ 0 from runM_err hres))) ?_ | skip
      refine kp [2, 8, 29] rfl ?_
      refine Run.false rfl ?_
      refine Run.skip ?_
      refine sr ?_
      refine mvo rfl rfl ?_
      skip
      · skip
        refine RunL.callX C24 rfl rfl rfl (ac24 R oa cap ms hR (by omega)) tks fun ⟨qa, qc⟩ _ => ?_
        rw [hql]
        refine mvo rfl rfl ?_
        refine RunL.op rfl rfl (OpJ.extract rfl rfl ?_)
        refine RunL.op rfl rfl (OpJ.extract rfl rfl ?_)
        refine RunL.op rfl rfl (OpJ.extract rfl rfl ?_)
        refine asg rfl rfl ?_
        refine asg rfl rfl ?_
        refine asg rfl rfl ?_
        refine kp [2, 8, 11, 12, 13] rfl ?_
        refine Run.seq ?_
        refine sr ?_
        refine mvo rfl rfl ?_
        refine RunL.op rfl rfl (OpJ.neq rfl rfl ?_)
        refine mvo rfl rfl ?_
        refine RunL.yes rfl rfl rfl rfl (OpJ.move rfl ?_)
        refine RunL.yes rfl rfl rfl rfl (OpJ.neq rfl rfl ?_)
        refine RunL.op rfl rfl (OpJ.pickF rfl rfl ?_)
        refine mvo rfl rfl ?_
        refine RunL.yes rfl rfl rfl rfl (OpJ.move rfl ?_)
        refine RunL.yes rfl rfl rfl rfl (OpJ.len S50 rfl ?_)
        refine RunL.yes rfl rfl rfl rfl (OpJ.move rfl ?_)
        refine RunL.yes rfl rfl rfl rfl (OpJ.len S34 rfl ?_)
        refine RunL.yes rfl rfl rfl rfl (OpJ.neq rfl rfl ?_)
        refine RunL.set (v := Bo false) (congrArg Value.bool (decide_eq_false (fun h => h (by rw [hqn])))) ?_
        refine RunL.op rfl rfl (OpJ.pickF rfl rfl ?_)
        refine kp [2, 8, 11, 49] rfl ?_
        refine Run.false rfl ?_
        refine Run.skip ?_
        refine sr ?_
        refine asg rfl rfl ?_
        refine kp [2, 8, 11, 14] rfl ?_
        refine Run.seq ?_
        refine sr ?_
        refine asg rfl rfl ?_
        refine kp [2, 8, 11, 14, 15] rfl ?_
        refine Run.block ?_
        refine Run.weak (L' := [own 3 1 qa (qs).length qc ((qs).flatMap Iv), own 43 4 ca (cs).length cc ((cs).flatMap Co.c), R, R0]) (fun _ _ h => h) gv ?_
        refine Run.loop (fun mm E L => ∃ i : Nat, mm = cs.length - i ∧ i ≤ cs.length ∧ E = [(2, .slice oa ms.length cap), (8, .slice ca cs.length cc), (11, .slice qa qs.length qc), (14, I (wsum Co.qty (cs.take i))), (15, I i)] ∧ L = [own 3 1 qa (qs).length qc ((qs).flatMap Iv), own 43 4 ca (cs).length cc ((cs).flatMap Co.c), R, R0]) ⟨_, 0, rfl, Nat.zero_le _, rfl, rfl⟩ ?_
        rintro _ _ _ ⟨i, rfl, hi, rfl, rfl⟩
        refine Run.seq ?_
        refine sr ?_
        refine mvo rfl rfl ?_
        refine mvo rfl rfl ?_
        refine RunL.op rfl rfl (OpJ.len S34 rfl ?_)
        refine RunL.op rfl rfl (OpJ.lss rfl rfl ?_)
        refine kp [2, 8, 11, 14, 15, 53] rfl ?_
        first | refine Run.if rfl (fun h2 => ?_) (fun h2 => ?_) | refine Run.cond rfl (fun h2 => ?_) (fun h2 => ?_)
        · skip
          refine Run.skip ?_
          refine Run.seq ?_
          refine Run.block ?_
          refine sr ?_
          obtain ⟨c, hx⟩ := get_ex (xs := cs) (i := i) (by omega)
          refine RunL.ownAddr pk (flat_ne (k := 4) (fun _ => rfl) (by decide) hx) fun b e hcap => ?_
          subst e
          obtain ⟨m, hxm⟩ := get_ex (xs := ms) (i := i) (by omega)
          refine RunL.rdOpen (R := R) pk hR (flat_ne (k := 8) (fun _ => rfl) (by decide) hxm) fun b0 o0 e hrd => ?_
          subst e
          refine mvo rfl rfl ?_
          refine mvo rfl rfl ?_
          refine mvo rfl rfl ?_
          refine RunL.op rfl rfl (OpJ.indexAddr S34 rfl rfl (by omega) ?_)
          refine RunL.op rfl rfl (OpJ.fieldAddr F43_1 rfl ?_)
          first | refine RunL.op rfl rfl (OpJ.loadF T3 rfl pk (by rfl) ?_) | refine RunL.op rfl rfl (OpJ.loadO T3 rfl pk (by assumption) (by rfl) (by exact fun _ => rfl) ?_)
          refine RunL.op rfl rfl (OpJ.add rfl rfl ?_)
          refine asg rfl rfl ?_
          refine kp [2, 8, 11, 14, 15] rfl ?_
          refine Run.seq ?_
          refine regionD HM ?_
          have hxq := hqg i (by omega)
          rw [← wsum_succ (f := Co.qty) hx]
          refine RunD.ownAddr pk (flat_ne (k := 1) (fun _ => rfl) (by decide) hxq) fun b9 e hcap9 => ?_
          subst e
          refine tk 0 rfl rfl rfl (DetJ.move rfl) ?_
          refine tk 1 rfl rfl rfl (DetJ.move rfl) ?_
          refine tk 2 rfl rfl rfl (DetJ.move rfl) ?_
          refine tk 3 rfl rfl rfl (DetJ.indexAddr S50 rfl rfl (by omega)) ?_
          refine RunD.takeR1 4 rfl rfl kr T3 rfl pk (own.el (enc := Iv) hxq (by decide) (fun _ => rfl)) ?_
          refine tk 5 rfl rfl rfl (DetJ.neq rfl rfl) ?_
          refine RunD.set (v := Bo false) (congrArg Value.bool (decide_eq_false (fun h => h rfl))) ?_
          refine tk 6 rfl rfl rfl (DetJ.move rfl) ?_
          refine RunD.takeG 7 rfl rfl rfl rfl rfl kr (DetJ.move rfl) .nil ?_
          refine RunD.takeG 8 rfl rfl rfl rfl rfl kr (DetJ.move rfl) .nil ?_
          refine RunD.takeG 9 rfl rfl rfl rfl rfl kr (DetJ.indexAddr S34 rfl rfl (by omega)) .nil ?_
          refine RunD.takeG 10 rfl rfl rfl rfl rfl kr (DetJ.fieldAddr F43_0 rfl) .nil ?_
          first | refine RunD.takeGF 11 rfl rfl rfl rfl kr T3 rfl pk (by rfl) ?_ | refine RunD.takeGO 11 rfl rfl rfl rfl kr T3 rfl pk (by assumption) (by rfl) (by exact fun _ => rfl) ?_
          refine RunD.takeG 12 rfl rfl rfl rfl rfl kr (DetJ.move rfl) .nil ?_
          refine RunD.takeG 13 rfl rfl rfl rfl rfl kr (DetJ.move rfl) .nil ?_
          refine RunD.takeG 14 rfl rfl rfl rfl rfl kr (DetJ.indexAddr S22 rfl rfl (by omega)) .nil ?_
          refine RunD.takeG 15 rfl rfl rfl rfl rfl kr (DetJ.fieldAddr F47_0 rfl) .nil ?_
          refine RunD.takeG (Ls := [R]) 16 rfl rfl rfl rfl rfl kr (DetJ.load1 T3 rfl .here (hrd.mv hxm 0 (I m.seq) rfl)) (.cons pk .nil) ?_
          refine RunD.takeG 17 rfl rfl rfl rfl rfl kr (DetJ.neq rfl rfl) .nil ?_
          refine RunD.set (v := Bo false) (congrArg Value.bool (decide_eq_false (fun h => h (runM_seq hres hxm hx)))) ?_
          refine tk 18 rfl rfl rfl (DetJ.pickF rfl rfl) ?_
          refine kd [2, 8, 11, 14, 15, 81] rfl ?_
          refine Run.false rfl ?_
          refine Run.skip ?_
          refine Run.region ?_
          refine mvo rfl rfl ?_
          refine RunL.op rfl rfl (OpJ.addI rfl rfl (by omega) ?_)
          refine asg rfl rfl ?_
          exact RunL.next (Keep.sub (kt (ks := [2, 8, 11, 14, 15]) rfl)) _ ⟨_, by omega, i + 1, rfl, by omega, rfl, rfl⟩ gv
        · skip
          refine Run.exit ?_
          refine sr ?_
          refine RunL.call C12 rfl rfl rfl (ac12 R0 hR0) tks ?_
          refine asg rfl rfl ?_
          refine kp [6] rfl ?_
          refine Run.ret ?_
          exact ret_one (.tmp rfl .nil) (rfl) gv
end Go.Proofs.YtdcchollplhioaaGreatDoor

namespace Go.Proofs.YtdcchollplhioaaGreatDoor
open Go Go.SL Go.Proofs
theorem C18 : CI Tryz.prog 18 := .of (by kernel_rfl)
theorem ac15t (k p : Int) (R : HP) (oa : Option Addr) (cap : Nat) (ms : List Mv) (hR : RdS R oa (ms.flatMap Mv.c)) (n : Nat) (hn : n ≤ ms.length) (hlen : ms.length ≤ 1000) (hms : ∀ m ∈ ms, m.ok) (R0 : HP) (hR0 : Rd R0 ⟨0, 0, none⟩ lensC) : AC Tryz.prog 15 ⟨[I k, I p, .slice oa n cap]⟩ (stars [R, R0]) (Outs (fun _ : Option Addr × Nat × Option Addr × Nat × Option Addr × Nat => True) (fun x => RunV (runM k p (ms.take n)) x) (fun x => RunB 64 66 43 (runM k p (ms.take n)) x ++ [R, R0])) := by
  have e : (ms.take n).length = n := by rw [List.length_take]; omega
  have h := ac15 k p R oa cap (ms.take n) (hR.take n) (by omega) (fun m hm => hms m (List.mem_of_mem_take hm)) R0 hR0
  rw [e] at h; exact h
theorem ac18t (cs : List Co) (n : Nat) (hn : n ≤ cs.length) (ca : Option Addr) (cc : Nat) (ca2 : Option Addr) (cc2 : Nat) (R1 R2 : HP) (hR1 : RdS R1 ca (cs.flatMap Co.c)) (hR2 : RdS R2 ca2 ((cs.take n).flatMap Co.c)) (hl : cs.length ≤ 1000000) : AC Tryz.prog 18 ⟨[.slice ca n cc, .slice ca2 (cs.take n).length cc2]⟩ (stars [R1, R2]) (Ret (Bo true) [R1, R2]) := by
  have e : (cs.take n).length = n := by rw [List.length_take]; omega
  have h := ac18 (cs.take n) ca cc ca2 cc2 R1 R2 (hR1.take n) hR2 (by omega)
  rw [e] at h ⊢; exact h
-- accountinglaw38.CostingPrefix
theorem ac8 (k p : Int) (R : HP) (oa : Option Addr) (cap : Nat) (ms : List Mv) (hR : RdS R oa (ms.flatMap Mv.c)) (hlen : (ms.length : Int) ≤ 9223372036854775807) (hms : ∀ m ∈ ms, m.ok) (R0 : HP) (hR0 : Rd R0 ⟨0, 0, none⟩ lensC) (hcap : ms.length ≤ cap) : AC Tryz.prog 8 ⟨[I k, I p, .slice oa ms.length cap]⟩ (stars [R, R0]) (Ret (Bo true) [R, R0]) := by
  refine AC.go Tryz.func8 rfl (Nat.le_of_ble_eq_true rfl) fun β => ?_
  refine sr ?_
  refine asg rfl rfl ?_
  refine kp [0, 1, 2] rfl ?_
  refine Run.seq ?_
  refine sr ?_
  refine mvo rfl rfl ?_
  refine RunL.call C11 rfl rfl rfl (ac11 R oa cap ms hR hlen) tks ?_
  refine kp [0, 1, 2, 17] rfl ?_
  first | refine Run.if rfl (fun h1 => ?_) (fun h1 => ?_) | refine Run.cond rfl (fun h1 => ?_) (fun h1 => ?_)
  · skip
    refine sr ?_
    refine RunL.call C12 rfl rfl rfl (ac12 R0 hR0) tks ?_
    refine asg rfl rfl ?_
    refine kp [6] rfl ?_
    refine Run.ret ?_
    exact ret_one (.tmp rfl .nil) (rfl) gv
  · skip
    refine Run.skip ?_
    refine sr ?_
    have h40 := largeMs_len (show largeMs ms = false by simpa using h1)
    refine mvo rfl rfl ?_
    refine mvo rfl rfl ?_
    refine mvo rfl rfl ?_
    refine RunL.callX C15 rfl rfl rfl (ac15 k p R oa cap ms hR (by omega) hms R0 hR0) tks fun ⟨l1, lc1, p1, pc1, ca, cc⟩ _ => ?_
    rcases runM_cases k p ms with ⟨h0, hres⟩ | ⟨h0, i, e, hres, hL⟩ | ⟨h0, t, cs, hres, hL⟩
    · skip
      rw [hres]
      refine mvo rfl rfl ?_
      refine RunL.op rfl rfl (OpJ.extract rfl rfl ?_)
      refine RunL.op rfl rfl (OpJ.extract rfl rfl ?_)
      refine RunL.op rfl rfl (OpJ.extract rfl rfl ?_)
      refine RunL.op rfl rfl (OpJ.extract rfl rfl ?_)
      refine RunL.op rfl rfl (OpJ.alloc Z28 fun b7 => ?_)
      refine RunL.op rfl rfl (OpJ.storeW T28 rfl rfl rfl rfl (by simp [Value.oneCell', Pa.c, Ly.c, Mv.c, Co.c]) up ?_)
      refine asg rfl rfl ?_
      refine asg rfl rfl ?_
      refine asg rfl rfl ?_
      refine kp [0, 1, 2, 8, 9, 10] rfl ?_
      refine Run.seq ?_
      refine sr ?_
      refine mvo rfl rfl ?_
      refine RunL.op rfl rfl (OpJ.len S22 rfl ?_)
      refine RunL.op rfl rfl (OpJ.eql rfl rfl ?_)
      by_cases hz : (ms.length : Int) = 0
      · skip
        refine RunL.set (v := Bo true) (congrArg Value.bool (decide_eq_true hz)) ?_
        refine mvo rfl rfl ?_
        refine RunL.no rfl rfl rfl rfl ?_
        refine RunL.no rfl rfl rfl rfl ?_
        refine RunL.no rfl rfl rfl rfl ?_
        refine RunL.undef rfl rfl rfl rfl ?_
        refine RunL.undef rfl rfl rfl rfl ?_
        refine RunL.no rfl rfl rfl rfl ?_
        refine RunL.op rfl rfl (OpJ.pickT rfl rfl ?_)
        refine kp [0, 1, 2, 8, 9, 10, 38] rfl ?_
        refine Run.true rfl ?_
        refine sr ?_
        refine RunL.call C12 rfl rfl rfl (ac12 R0 hR0) tks ?_
        refine asg rfl rfl ?_
        refine kp [6] rfl ?_
        refine Run.ret ?_
        exact ret_one (.tmp rfl .nil) (rfl) gv
      · skip
        refine RunL.set (v := Bo false) (congrArg Value.bool (decide_eq_false hz)) ?_
        refine mvo rfl rfl ?_
        refine RunL.yes rfl rfl rfl rfl (OpJ.move rfl ?_)
        refine RunL.yes rfl rfl rfl rfl (OpJ.eql rfl rfl ?_)
        refine RunL.set (v := Bo true) (congrArg Value.bool (decide_eq_true rfl)) ?_
        refine RunL.yes rfl rfl rfl rfl (OpJ.move rfl ?_)
        refine RunL.yes rfl rfl rfl rfl (OpJ.move rfl ?_)
        refine RunL.yes rfl rfl rfl rfl (OpJ.neq rfl rfl ?_)
        refine RunL.set (v := Bo true) (congrArg Value.bool (decide_eq_true h0)) ?_
        refine RunL.yes rfl rfl rfl rfl (OpJ.pickT rfl rfl ?_)
        refine RunL.op rfl rfl (OpJ.pickF rfl rfl ?_)
        refine kp [0, 1, 2, 8, 9, 10, 38] rfl ?_
        refine Run.true rfl ?_
        refine sr ?_
        refine RunL.call C12 rfl rfl rfl (ac12 R0 hR0) tks ?_
        refine asg rfl rfl ?_
        refine kp [6] rfl ?_
        refine Run.ret ?_
        exact ret_one (.tmp rfl .nil) (rfl) gv
    · skip
      rw [hres]
      refine mvo rfl rfl ?_
      refine RunL.op rfl rfl (OpJ.extract rfl rfl ?_)
      refine RunL.op rfl rfl (OpJ.extract rfl rfl ?_)
      refine RunL.op rfl rfl (OpJ.extract rfl rfl ?_)
      refine RunL.op rfl rfl (OpJ.extract rfl rfl ?_)
      refine RunL.op rfl rfl (OpJ.alloc Z28 fun b7 => ?_)
      refine RunL.op rfl rfl (OpJ.storeW T28 rfl rfl rfl rfl (by simp [Value.oneCell', Pa.c, Ly.c, Mv.c, Co.c]) up ?_)
      refine asg rfl rfl ?_
      refine asg rfl rfl ?_
      refine asg rfl rfl ?_
      refine kp [0, 1, 2, 8, 9, 10] rfl ?_
      refine Run.seq ?_
      refine sr ?_
      refine mvo rfl rfl ?_
      refine RunL.op rfl rfl (OpJ.len S22 rfl ?_)
      refine RunL.op rfl rfl (OpJ.eql rfl rfl ?_)
      by_cases hz : (ms.length : Int) = 0
      · skip
        refine RunL.set (v := Bo true) (congrArg Value.bool (decide_eq_true hz)) ?_
        refine mvo rfl rfl ?_
        refine RunL.no rfl rfl rfl rfl ?_
        refine RunL.no rfl rfl rfl rfl ?_
        refine RunL.no rfl rfl rfl rfl ?_
        refine RunL.undef rfl rfl rfl rfl ?_
        refine RunL.undef rfl rfl rfl rfl ?_
        refine RunL.no rfl rfl rfl rfl ?_
        refine RunL.op rfl rfl (OpJ.pickT rfl rfl ?_)
        refine kp [0, 1, 2, 8, 9, 10, 38] rfl ?_
        refine Run.true rfl ?_
        refine sr ?_
        refine RunL.call C12 rfl rfl rfl (ac12 R0 hR0) tks ?_
        refine asg rfl rfl ?_
        refine kp [6] rfl ?_
        refine Run.ret ?_
        exact ret_one (.tmp rfl .nil) (rfl) gv
      · skip
        refine RunL.set (v := Bo false) (congrArg Value.bool (decide_eq_false hz)) ?_
        refine mvo rfl rfl ?_
        refine RunL.yes rfl rfl rfl rfl (OpJ.move rfl ?_)
        refine RunL.yes rfl rfl rfl rfl (OpJ.eql rfl rfl ?_)
        refine RunL.set (v := Bo false) (congrArg Value.bool (decide_eq_false (show ¬ ((i : Int) = -1) by omega))) ?_
        refine RunL.yes rfl rfl rfl rfl (OpJ.move rfl ?_)
        refine RunL.no rfl rfl rfl rfl ?_
        refine RunL.no rfl rfl rfl rfl ?_
        refine RunL.yes rfl rfl rfl rfl (OpJ.pickF rfl rfl ?_)
        refine RunL.op rfl rfl (OpJ.pickF rfl rfl ?_)
        refine kp [0, 1, 2, 8, 9, 10, 38] rfl ?_
        refine Run.false rfl ?_
        refine Run.skip ?_
        refine sr ?_
        refine mvo rfl rfl ?_
        refine RunL.op rfl rfl (OpJ.len S22 rfl ?_)
        first | refine RunL.op rfl rfl (OpJ.subI rfl rfl (by omega) ?_) | refine RunL.op rfl rfl (OpJ.sub rfl rfl ?_)
        obtain ⟨n, hn⟩ : ∃ n, ms.length = n + 1 := ⟨ms.length - 1, by omega⟩
        refine RunL.set (v := I (n : Int)) (congrArg I (by omega)) ?_
        refine asg rfl rfl ?_
        refine kp [0, 1, 2, 8, 9, 10, 11] rfl ?_
        refine sr ?_
        refine mvo rfl rfl ?_
        refine mvo rfl rfl ?_
        refine mvo rfl rfl ?_
        refine mvo rfl rfl ?_
        refine RunL.op rfl rfl (OpJ.sliceHi S22 rfl rfl (by omega) ?_)
        refine RunL.callX C15 rfl rfl rfl (ac15t k p R oa cap ms hR n (by omega) (by omega) hms R0 hR0) tks fun ⟨l2, lc2, p2, pc2, ca2, cc2⟩ _ => ?_
        by_cases hlt : i < n
        · skip
          rw [runM_er h0 ((runL_take_err hL (by omega)).1 hlt)]
          refine mvo rfl rfl ?_
          refine RunL.op rfl rfl (OpJ.extract rfl rfl ?_)
          refine RunL.op rfl rfl (OpJ.extract rfl rfl ?_)
          refine RunL.op rfl rfl (OpJ.extract rfl rfl ?_)
          refine RunL.op rfl rfl (OpJ.extract rfl rfl ?_)
          refine RunL.op rfl rfl (OpJ.alloc Z28 fun b12 => ?_)
          refine RunL.op rfl rfl (OpJ.storeW T28 rfl rfl rfl rfl (by simp [Value.oneCell', Pa.c, Ly.c, Mv.c, Co.c]) up ?_)
          refine asg rfl rfl ?_
          refine asg rfl rfl ?_
          refine asg rfl rfl ?_
          refine kp [8, 9, 10, 11, 13, 14, 15] rfl ?_
          refine Run.seq ?_
          refine sr ?_
          refine mvo rfl rfl ?_
          refine RunL.op rfl rfl (OpJ.neq rfl rfl ?_)
          refine RunL.set (v := Bo true) (congrArg Value.bool (decide_eq_true (runL_err hL).1)) ?_
          refine mvo rfl rfl ?_
          refine RunL.yes rfl rfl rfl rfl (OpJ.move rfl ?_)
          refine RunL.yes rfl rfl rfl rfl (OpJ.move rfl ?_)
          refine RunL.yes rfl rfl rfl rfl (OpJ.lss rfl rfl ?_)
          refine RunL.set (v := Bo true) (congrArg Value.bool (decide_eq_true (by omega))) ?_
          refine RunL.op rfl rfl (OpJ.pickT rfl rfl ?_)
          refine kp [8, 9, 10, 11, 13, 14, 15, 60] rfl ?_
          refine Run.true rfl ?_
          refine sr ?_
          refine mvo rfl rfl ?_
          refine mvo rfl rfl ?_
          refine RunL.op rfl rfl (OpJ.eql rfl rfl ?_)
          refine RunL.set (v := Bo true) (congrArg Value.bool (decide_eq_true rfl)) ?_
          refine mvo rfl rfl ?_
          refine RunL.yes rfl rfl rfl rfl (OpJ.move rfl ?_)
          refine RunL.yes rfl rfl rfl rfl (OpJ.move rfl ?_)
          refine RunL.yes rfl rfl rfl rfl (OpJ.eql rfl rfl ?_)
          refine RunL.set (v := Bo true) (congrArg Value.bool (decide_eq_true rfl)) ?_
          refine RunL.op rfl rfl (OpJ.pickT rfl rfl ?_)
          refine mvo rfl rfl ?_
          refine RunL.callG C12 rfl rfl rfl rfl rfl (ac12 R0 hR0) tks ?_
          refine RunL.op rfl rfl (OpJ.pickT rfl rfl ?_)
          refine asg rfl rfl ?_
          refine kp [6] rfl ?_
          refine Run.ret ?_
          exact ret_one (.tmp rfl .nil) (rfl) gv
        · skip
          obtain ⟨u, ds, hds⟩ := (runL_take_err hL (by omega)).2 hlt
          rw [runM_ok h0 hds]
          have hdl : ds.length = n := (runL_len hds).trans (by rw [List.length_take]; omega)
          refine mvo rfl rfl ?_
          refine RunL.op rfl rfl (OpJ.extract rfl rfl ?_)
          refine RunL.op rfl rfl (OpJ.extract rfl rfl ?_)
          refine RunL.op rfl rfl (OpJ.extract rfl rfl ?_)
          refine RunL.op rfl rfl (OpJ.extract rfl rfl ?_)
          refine RunL.op rfl rfl (OpJ.alloc Z28 fun b12 => ?_)
          refine RunL.op rfl rfl (OpJ.storeW T28 rfl rfl rfl rfl (by simp [Value.oneCell', Pa.c, Ly.c, Mv.c, Co.c]) up ?_)
          refine asg rfl rfl ?_
          refine asg rfl rfl ?_
          refine asg rfl rfl ?_
          refine kp [8, 9, 10, 11, 13, 14, 15] rfl ?_
          refine Run.seq ?_
          refine sr ?_
          refine mvo rfl rfl ?_
          refine RunL.op rfl rfl (OpJ.neq rfl rfl ?_)
          refine RunL.set (v := Bo true) (congrArg Value.bool (decide_eq_true (runL_err hL).1)) ?_
          refine mvo rfl rfl ?_
          refine RunL.yes rfl rfl rfl rfl (OpJ.move rfl ?_)
          refine RunL.yes rfl rfl rfl rfl (OpJ.move rfl ?_)
          refine RunL.yes rfl rfl rfl rfl (OpJ.lss rfl rfl ?_)
          refine RunL.set (v := Bo false) (congrArg Value.bool (decide_eq_false (by omega))) ?_
          refine RunL.op rfl rfl (OpJ.pickT rfl rfl ?_)
          refine kp [8, 9, 10, 11, 13, 14, 15, 60] rfl ?_
          refine Run.false rfl ?_
          refine Run.skip ?_
          refine sr ?_
          refine mvo rfl rfl ?_
          refine RunL.op rfl rfl (OpJ.eql rfl rfl ?_)
          refine RunL.set (v := Bo true) (congrArg Value.bool (decide_eq_true rfl)) ?_
          refine mvo rfl rfl ?_
          refine RunL.yes rfl rfl rfl rfl (OpJ.move rfl ?_)
          refine RunL.yes rfl rfl rfl rfl (OpJ.len S34 rfl ?_)
          refine RunL.yes rfl rfl rfl rfl (OpJ.move rfl ?_)
          refine RunL.yes rfl rfl rfl rfl (OpJ.eql rfl rfl ?_)
          refine RunL.set (v := Bo true) (congrArg Value.bool (decide_eq_true (by omega))) ?_
          refine RunL.op rfl rfl (OpJ.pickT rfl rfl ?_)
          refine mvo rfl rfl ?_
          refine RunL.yes rfl rfl rfl rfl (OpJ.move rfl ?_)
          refine RunL.yes rfl rfl rfl rfl (OpJ.neq rfl rfl ?_)
          refine RunL.set (v := Bo true) (congrArg Value.bool (decide_eq_true (runL_err hL).1)) ?_
          refine RunL.yes rfl rfl rfl rfl (OpJ.move rfl ?_)
          refine RunL.no rfl rfl rfl rfl ?_
          refine RunL.no rfl rfl rfl rfl ?_
          refine RunL.no rfl rfl rfl rfl ?_
          refine RunL.no rfl rfl rfl rfl ?_
          refine RunL.no rfl rfl rfl rfl ?_
          refine RunL.no rfl rfl rfl rfl ?_
          refine RunL.undef rfl rfl rfl rfl ?_
          refine RunL.undef rfl rfl rfl rfl ?_
          refine RunL.undef rfl rfl rfl rfl ?_
          refine RunL.undef rfl rfl rfl rfl ?_
          refine RunL.undef rfl rfl rfl rfl ?_
          refine RunL.no rfl rfl rfl rfl ?_
          refine RunL.yes rfl rfl rfl rfl (OpJ.pickT rfl rfl ?_)
          refine RunL.op rfl rfl (OpJ.pickT rfl rfl ?_)
          refine mvo rfl rfl ?_
          refine RunL.callG C12 rfl rfl rfl rfl rfl (ac12 R0 hR0) tks ?_
          refine RunL.op rfl rfl (OpJ.pickT rfl rfl ?_)
          refine asg rfl rfl ?_
          refine kp [6] rfl ?_
          refine Run.ret ?_
          exact ret_one (.tmp rfl .nil) (rfl) gv
    · skip
      rw [hres]
      refine mvo rfl rfl ?_
      refine RunL.op rfl rfl (OpJ.extract rfl rfl ?_)
      refine RunL.op rfl rfl (OpJ.extract rfl rfl ?_)
      refine RunL.op rfl rfl (OpJ.extract rfl rfl ?_)
      refine RunL.op rfl rfl (OpJ.extract rfl rfl ?_)
      refine RunL.op rfl rfl (OpJ.alloc Z28 fun b7 => ?_)
      refine RunL.op rfl rfl (OpJ.storeW T28 rfl rfl rfl rfl (by simp [Value.oneCell', Pa.c, Ly.c, Mv.c, Co.c]) up ?_)
      refine asg rfl rfl ?_
      refine asg rfl rfl ?_
      refine asg rfl rfl ?_
      refine kp [0, 1, 2, 8, 9, 10] rfl ?_
      refine Run.seq ?_
      refine sr ?_
      refine mvo rfl rfl ?_
      refine RunL.op rfl rfl (OpJ.len S22 rfl ?_)
      refine RunL.op rfl rfl (OpJ.eql rfl rfl ?_)
      by_cases hz : (ms.length : Int) = 0
      · skip
        refine RunL.set (v := Bo true) (congrArg Value.bool (decide_eq_true hz)) ?_
        refine mvo rfl rfl ?_
        refine RunL.no rfl rfl rfl rfl ?_
        refine RunL.no rfl rfl rfl rfl ?_
        refine RunL.no rfl rfl rfl rfl ?_
        refine RunL.undef rfl rfl rfl rfl ?_
        refine RunL.undef rfl rfl rfl rfl ?_
        refine RunL.no rfl rfl rfl rfl ?_
        refine RunL.op rfl rfl (OpJ.pickT rfl rfl ?_)
        refine kp [0, 1, 2, 8, 9, 10, 38] rfl ?_
        refine Run.true rfl ?_
        refine sr ?_
        refine RunL.call C12 rfl rfl rfl (ac12 R0 hR0) tks ?_
        refine asg rfl rfl ?_
        refine kp [6] rfl ?_
        refine Run.ret ?_
        exact ret_one (.tmp rfl .nil) (rfl) gv
      · skip
        refine RunL.set (v := Bo false) (congrArg Value.bool (decide_eq_false hz)) ?_
        refine mvo rfl rfl ?_
        refine RunL.yes rfl rfl rfl rfl (OpJ.move rfl ?_)
        refine RunL.yes rfl rfl rfl rfl (OpJ.eql rfl rfl ?_)
        refine RunL.set (v := Bo true) (congrArg Value.bool (decide_eq_true rfl)) ?_
        refine RunL.yes rfl rfl rfl rfl (OpJ.move rfl ?_)
        refine RunL.yes rfl rfl rfl rfl (OpJ.move rfl ?_)
        refine RunL.yes rfl rfl rfl rfl (OpJ.neq rfl rfl ?_)
        refine RunL.set (v := Bo false) (congrArg Value.bool (decide_eq_false (fun h => h rfl))) ?_
        refine RunL.yes rfl rfl rfl rfl (OpJ.pickT rfl rfl ?_)
        refine RunL.op rfl rfl (OpJ.pickF rfl rfl ?_)
        refine kp [0, 1, 2, 8, 9, 10, 38] rfl ?_
        refine Run.false rfl ?_
        refine Run.skip ?_
        refine sr ?_
        refine mvo rfl rfl ?_
        refine RunL.op rfl rfl (OpJ.len S22 rfl ?_)
        first | refine RunL.op rfl rfl (OpJ.subI rfl rfl (by omega) ?_) | refine RunL.op rfl rfl (OpJ.sub rfl rfl ?_)
        obtain ⟨n, hn⟩ : ∃ n, ms.length = n + 1 := ⟨ms.length - 1, by omega⟩
        refine RunL.set (v := I (n : Int)) (congrArg I (by omega)) ?_
        refine asg rfl rfl ?_
        refine kp [0, 1, 2, 8, 9, 10, 11] rfl ?_
        refine sr ?_
        refine mvo rfl rfl ?_
        refine mvo rfl rfl ?_
        refine mvo rfl rfl ?_
        refine mvo rfl rfl ?_
        refine RunL.op rfl rfl (OpJ.sliceHi S22 rfl rfl (by omega) ?_)
        refine RunL.callX C15 rfl rfl rfl (ac15t k p R oa cap ms hR n (by omega) (by omega) hms R0 hR0) tks fun ⟨l2, lc2, p2, pc2, ca2, cc2⟩ _ => ?_
        obtain ⟨u, hds⟩ := runL_take_ok hL (show n ≤ ms.length by omega)
        · skip
          rw [runM_ok h0 hds]
          have hcl := runL_len hL
          have hdl : (cs.take n).length = n := by rw [List.length_take]; omega
          refine mvo rfl rfl ?_
          refine RunL.op rfl rfl (OpJ.extract rfl rfl ?_)
          refine RunL.op rfl rfl (OpJ.extract rfl rfl ?_)
          refine RunL.op rfl rfl (OpJ.extract rfl rfl ?_)
          refine RunL.op rfl rfl (OpJ.extract rfl rfl ?_)
          refine RunL.op rfl rfl (OpJ.alloc Z28 fun b12 => ?_)
          refine RunL.op rfl rfl (OpJ.storeW T28 rfl rfl rfl rfl (by simp [Value.oneCell', Pa.c, Ly.c, Mv.c, Co.c]) up ?_)
          refine asg rfl rfl ?_
          refine asg rfl rfl ?_
          refine asg rfl rfl ?_
          refine kp [8, 9, 10, 11, 13, 14, 15] rfl ?_
          refine Run.seq ?_
          refine sr ?_
          refine mvo rfl rfl ?_
          refine RunL.op rfl rfl (OpJ.neq rfl rfl ?_)
          refine RunL.set (v := Bo false) (congrArg Value.bool (decide_eq_false (fun h => h rfl))) ?_
          refine mvo rfl rfl ?_
          refine RunL.no rfl rfl rfl rfl ?_
          refine RunL.no rfl rfl rfl rfl ?_
          refine RunL.no rfl rfl rfl rfl ?_
          refine RunL.op rfl rfl (OpJ.pickF rfl rfl ?_)
          refine kp [8, 9, 10, 11, 13, 14, 15, 60] rfl ?_
          refine Run.false rfl ?_
          refine Run.skip ?_
          refine sr ?_
          refine mvo rfl rfl ?_
          refine RunL.op rfl rfl (OpJ.eql rfl rfl ?_)
          refine RunL.set (v := Bo true) (congrArg Value.bool (decide_eq_true rfl)) ?_
          refine mvo rfl rfl ?_
          refine RunL.yes rfl rfl rfl rfl (OpJ.move rfl ?_)
          refine RunL.yes rfl rfl rfl rfl (OpJ.len S34 rfl ?_)
          refine RunL.yes rfl rfl rfl rfl (OpJ.move rfl ?_)
          refine RunL.yes rfl rfl rfl rfl (OpJ.eql rfl rfl ?_)
          refine RunL.set (v := Bo true) (congrArg Value.bool (decide_eq_true (by omega))) ?_
          refine RunL.op rfl rfl (OpJ.pickT rfl rfl ?_)
          refine mvo rfl rfl ?_
          refine RunL.yes rfl rfl rfl rfl (OpJ.move rfl ?_)
          refine RunL.yes rfl rfl rfl rfl (OpJ.neq rfl rfl ?_)
          refine RunL.set (v := Bo false) (congrArg Value.bool (decide_eq_false (fun h => h rfl))) ?_
          refine RunL.yes rfl rfl rfl rfl (OpJ.move rfl ?_)
          refine RunL.yes rfl rfl rfl rfl (OpJ.move rfl ?_)
          refine RunL.yes rfl rfl rfl rfl (OpJ.len S34 rfl ?_)
          refine RunL.yes rfl rfl rfl rfl (OpJ.move rfl ?_)
          first | refine RunL.yes rfl rfl rfl rfl (OpJ.addI rfl rfl (by omega) ?_) | refine RunL.yes rfl rfl rfl rfl (OpJ.add rfl rfl ?_)
          refine RunL.yes rfl rfl rfl rfl (OpJ.eql rfl rfl ?_)
          refine RunL.set (v := Bo true) (congrArg Value.bool (decide_eq_true (by omega))) ?_
          refine RunL.yes rfl rfl rfl rfl (OpJ.move rfl ?_)
          obtain ⟨c, hx⟩ := get_ex (xs := cs) (i := 0) (by omega)
          refine RunL.ownAddr pk (flat_ne (k := 4) (fun _ => rfl) (by decide) hx) fun b e hcap => ?_
          subst e
          refine RunL.yes rfl rfl rfl rfl (OpJ.move rfl ?_)
          refine RunL.yes rfl rfl rfl rfl (OpJ.move rfl ?_)
          refine RunL.yes rfl rfl rfl rfl (OpJ.sliceHi S34 rfl rfl (by omega) ?_)
          refine RunL.yes rfl rfl rfl rfl (OpJ.move rfl ?_)
          refine RunL.callG C18 rfl rfl rfl rfl rfl (ac18t cs n (by omega) _ cc ca2 cc2 (own 43 4 _ cs.length cc (cs.flatMap Co.c)) (own 43 4 ca2 (cs.take n).length cc2 ((cs.take n).flatMap Co.c)) own.rds own.rds (by omega)) tks ?_
          refine RunL.yes rfl rfl rfl rfl (OpJ.pickT rfl rfl ?_)
          refine RunL.yes rfl rfl rfl rfl (OpJ.pickF rfl rfl ?_)
          refine RunL.op rfl rfl (OpJ.pickT rfl rfl ?_)
          refine mvo rfl rfl ?_
          refine RunL.callG C12 rfl rfl rfl rfl rfl (ac12 R0 hR0) tks ?_
          refine RunL.op rfl rfl (OpJ.pickT rfl rfl ?_)
          refine asg rfl rfl ?_
          refine kp [6] rfl ?_
          refine Run.ret ?_
          exact ret_one (.tmp rfl .nil) (rfl) gv
end Go.Proofs.YtdcchollplhioaaGreatDoor

namespace Go.Proofs.YtdcchollplhioaaGreatDoor
open Go Go.SL Go.Proofs

-- accountinglaw38.CostingReturns
theorem ac7 (k p : Int) (R : HP) (oa : Option Addr) (cap : Nat) (ms : List Mv) (hR : RdS R oa (ms.flatMap Mv.c)) (hlen : (ms.length : Int) ≤ 9223372036854775807) (hms : ∀ m ∈ ms, m.ok) (R0 : HP) (hR0 : Rd R0 ⟨0, 0, none⟩ lensC) : AC Tryz.prog 7 ⟨[I k, I p, .slice oa ms.length cap]⟩ (stars [R, R0]) (Ret (Bo true) [R, R0]) := by
  refine AC.go Tryz.func7 rfl (Nat.le_of_ble_eq_true rfl) fun β => ?_
  refine sr ?_
  refine asg rfl rfl ?_
  refine kp [0, 1, 2] rfl ?_
  refine Run.seq ?_
  refine sr ?_
  refine mvo rfl rfl ?_
  refine RunL.call C11 rfl rfl rfl (ac11 R oa cap ms hR hlen) tks ?_
  refine kp [0, 1, 2, 16] rfl ?_
  first | refine Run.if rfl (fun h1 => ?_) (fun h1 => ?_) | refine Run.cond rfl (fun h1 => ?_) (fun h1 => ?_)
  · skip
    refine sr ?_
    refine RunL.call C12 rfl rfl rfl (ac12 R0 hR0) tks ?_
    refine asg rfl rfl ?_
    refine kp [6] rfl ?_
    refine Run.ret ?_
    exact ret_one (.tmp rfl .nil) (rfl) gv
  · skip
    refine Run.skip ?_
    refine sr ?_
    have h40 := largeMs_len (show largeMs ms = false by simpa using h1)
    refine mvo rfl rfl ?_
    refine mvo rfl rfl ?_
    refine mvo rfl rfl ?_
    refine RunL.callX C15 rfl rfl rfl (ac15 k p R oa cap ms hR (by omega) hms R0 hR0) tks fun ⟨l1, lc1, p1, pc1, ca, cc⟩ _ => ?_
    rcases hres : runM k p ms with ⟨i, e⟩ | ⟨t, cs⟩
    · skip
      refine mvo rfl rfl ?_
      refine RunL.op rfl rfl (OpJ.extract rfl rfl ?_)
      refine RunL.op rfl rfl (OpJ.extract rfl rfl ?_)
      refine RunL.op rfl rfl (OpJ.extract rfl rfl ?_)
      refine RunL.op rfl rfl (OpJ.extract rfl rfl ?_)
      refine RunL.op rfl rfl (OpJ.alloc Z28 fun b7 => ?_)
      refine RunL.op rfl rfl (OpJ.storeW T28 rfl rfl rfl rfl (by simp [Value.oneCell', Pa.c, Ly.c, Mv.c, Co.c]) up ?_)
      refine asg rfl rfl ?_
      refine asg rfl rfl ?_
      refine asg rfl rfl ?_
      refine kp [2, 8, 10] rfl ?_
      refine Run.seq ?_
      refine sr ?_
      refine mvo rfl rfl ?_
      refine RunL.op rfl rfl (OpJ.neq rfl rfl ?_)
      first | refine RunL.set (congrArg Value.bool (decide_eq_true (show e ≠ 0 from runM_err hres))) ?_ | skip
      refine kp [2, 8, 28] rfl ?_
      refine Run.true rfl ?_
      refine sr ?_
      refine RunL.call C12 rfl rfl rfl (ac12 R0 hR0) tks ?_
      refine asg rfl rfl ?_
      refine kp [6] rfl ?_
      refine Run.ret ?_
      exact ret_one (.tmp rfl .nil) (rfl) gv
    · skip
      have hcl := runM_len hres
      refine mvo rfl rfl ?_
      refine RunL.op rfl rfl (OpJ.extract rfl rfl ?_)
      refine RunL.op rfl rfl (OpJ.extract rfl rfl ?_)
      refine RunL.op rfl rfl (OpJ.extract rfl rfl ?_)
      refine RunL.op rfl rfl (OpJ.extract rfl rfl ?_)
      refine RunL.op rfl rfl (OpJ.alloc Z28 fun b7 => ?_)
      refine RunL.op rfl rfl (OpJ.storeW T28 rfl rfl rfl rfl (by simp [Value.oneCell', Pa.c, Ly.c, Mv.c, Co.c]) up ?_)
      refine asg rfl rfl ?_
      refine asg rfl rfl ?_
      refine asg rfl rfl ?_
      refine kp [2, 8, 10] rfl ?_
      refine Run.seq ?_
      refine sr ?_
      refine mvo rfl rfl ?_
      refine RunL.op rfl rfl (OpJ.neq rfl rfl ?_)
      first | refine RunL.set (congrArg Value.bool (decide_eq_true (show e ≠ 0 from runM_err hres))) ?_ | skip
      refine kp [2, 8, 28] rfl ?_
      refine Run.false rfl ?_
      refine Run.skip ?_
      refine Run.seq ?_
      refine sr ?_
      refine mvo rfl rfl ?_
      refine RunL.op rfl rfl (OpJ.len S34 rfl ?_)
      refine mvo rfl rfl ?_
      refine RunL.op rfl rfl (OpJ.len S22 rfl ?_)
      refine RunL.op rfl rfl (OpJ.neq rfl rfl ?_)
      refine RunL.set (v := Bo false) (congrArg Value.bool (decide_eq_false (fun h => h (by rw [hcl])))) ?_
      refine kp [2, 8, 34] rfl ?_
      refine Run.false rfl ?_
      refine Run.skip ?_
      refine Run.seq ?_
      refine sr ?_
      refine asg rfl rfl ?_
      refine kp [2, 8, 11] rfl ?_
      refine Run.block ?_
      refine Run.weak (L' := [own 43 4 ca (cs).length cc ((cs).flatMap Co.c), R, R0]) (fun _ _ h => h) gv ?_
      refine Run.loop (fun mm E L => ∃ i : Nat, mm = ms.length - i ∧ i ≤ ms.length ∧ E = [(2, .slice oa ms.length cap), (8, .slice ca cs.length cc), (11, I i)] ∧ L = [own 43 4 ca (cs).length cc ((cs).flatMap Co.c), R, R0]) ⟨_, 0, rfl, Nat.zero_le _, rfl, rfl⟩ ?_
      rintro _ _ _ ⟨i, rfl, hi, rfl, rfl⟩
      refine Run.seq ?_
      refine sr ?_
      refine mvo rfl rfl ?_
      refine mvo rfl rfl ?_
      refine RunL.op rfl rfl (OpJ.len S22 rfl ?_)
      refine RunL.op rfl rfl (OpJ.lss rfl rfl ?_)
      refine kp [2, 8, 11, 38] rfl ?_
      first | refine Run.if rfl (fun h2 => ?_) (fun h2 => ?_) | refine Run.cond rfl (fun h2 => ?_) (fun h2 => ?_)
      · skip
        refine Run.skip ?_
        refine Run.seq ?_
        refine Run.block ?_
        refine Run.seq ?_
        refine sr ?_
        obtain ⟨m, hxm⟩ := get_ex (xs := ms) (i := i) (by omega)
        refine RunL.rdOpen (R := R) pk hR (flat_ne (k := 8) (fun _ => rfl) (by decide) hxm) fun b0 o0 e hrd => ?_
        subst e
        refine mvo rfl rfl ?_
        refine mvo rfl rfl ?_
        refine RunL.op rfl rfl (OpJ.indexAddr S22 rfl rfl (by omega) ?_)
        refine RunL.op rfl rfl (OpJ.fieldAddr F47_3 rfl ?_)
        refine RunL.op rfl rfl (OpJ.load1 T3 rfl pk (hrd.mv hxm 3 (I m.kind) rfl) ?_)
        refine RunL.op rfl rfl (OpJ.neq rfl rfl ?_)
        refine kp [2, 8, 11, 46] rfl ?_
        first | refine Run.if rfl (fun h3 => ?_) (fun h3 => ?_) | refine Run.cond rfl (fun h3 => ?_) (fun h3 => ?_)
        · skip
          refine Run.exit ?_
          refine Run.region ?_
          refine mvo rfl rfl ?_
          refine RunL.op rfl rfl (OpJ.addI rfl rfl (by omega) ?_)
          refine asg rfl rfl ?_
          exact RunL.next (Keep.sub (kt (ks := [2, 8, 11]) rfl)) _ ⟨_, by omega, i + 1, rfl, by omega, rfl, rfl⟩ gv
        · skip
          refine Run.skip ?_
          refine sr ?_
          obtain ⟨c, hx⟩ := get_ex (xs := cs) (i := i) (by omega)
          refine RunL.ownAddr pk (flat_ne (k := 4) (fun _ => rfl) (by decide) hx) fun b e hcap => ?_
          subst e
          refine asg rfl rfl ?_
          refine asg rfl rfl ?_
          refine kp [2, 8, 11, 12, 13] rfl ?_
          refine Run.seq ?_
          refine sr ?_
          refine mvo rfl rfl ?_
          refine RunL.op rfl rfl (OpJ.addI rfl rfl (by omega) ?_)
          refine asg rfl rfl ?_
          refine kp [2, 8, 11, 12, 13, 14] rfl ?_
          refine Run.block ?_
          refine Run.weak (L' := [own 43 4 (some ⟨b, 0, none⟩) (cs).length cc ((cs).flatMap Co.c), R, R0]) (fun _ _ h => h) gv ?_
          refine Run.loop (fun mm E L => ∃ (k2 : Nat) (q v : Int), mm = ms.length - k2 ∧ i + 1 ≤ k2 ∧ k2 ≤ ms.length ∧ retL m.seq (((ms.zip cs).take k2).drop (i + 1)) = (q, v) ∧ E = [(2, .slice (some ⟨b0, o0, none⟩) ms.length cap), (8, .slice (some ⟨b, 0, none⟩) cs.length cc), (11, I i), (12, I q), (13, I v), (14, I k2)] ∧ L = [own 43 4 (some ⟨b, 0, none⟩) (cs).length cc ((cs).flatMap Co.c), R, R0]) ⟨_, i + 1, 0, 0, rfl, Nat.le_refl _, by omega, ret_nil, rfl, rfl⟩ ?_
          rintro _ _ _ ⟨k2, q, v, rfl, hik, hk2l, hqv, rfl, rfl⟩
          refine Run.seq ?_
          refine sr ?_
          refine mvo rfl rfl ?_
          refine mvo rfl rfl ?_
          refine RunL.op rfl rfl (OpJ.len S22 rfl ?_)
          refine RunL.op rfl rfl (OpJ.lss rfl rfl ?_)
          refine kp [2, 8, 11, 12, 13, 14, 52] rfl ?_
          first | refine Run.if rfl (fun h4 => ?_) (fun h4 => ?_) | refine Run.cond rfl (fun h4 => ?_) (fun h4 => ?_)
          · skip
            refine Run.skip ?_
            refine Run.seq ?_
            refine Run.block ?_
            refine Run.seq ?_
            refine regionD HM ?_
            obtain ⟨m2, hxm2⟩ := get_ex (xs := ms) (i := k2) (by omega)
            obtain ⟨c2, hx2⟩ := get_ex (xs := cs) (i := k2) (by omega)
            refine tk 0 rfl rfl rfl (DetJ.move rfl) ?_
            refine tk 1 rfl rfl rfl (DetJ.move rfl) ?_
            refine tk 2 rfl rfl rfl (DetJ.indexAddr S22 rfl rfl (by omega)) ?_
            refine tk 3 rfl rfl rfl (DetJ.fieldAddr F47_3 rfl) ?_
            refine RunD.takeR1 4 rfl rfl kr T3 rfl pk (hrd.mv hxm2 3 (I m2.kind) rfl) ?_
            refine tk 5 rfl rfl rfl (DetJ.eql rfl rfl) ?_
            by_cases hk3 : m2.kind = 3
            · skip
              refine RunD.set (v := Bo true) (congrArg Value.bool (decide_eq_true hk3)) ?_
              refine tk 6 rfl rfl rfl (DetJ.move rfl) ?_
              refine RunD.takeG 7 rfl rfl rfl rfl rfl kr (DetJ.move rfl) .nil ?_
              refine RunD.takeG 8 rfl rfl rfl rfl rfl kr (DetJ.move rfl) .nil ?_
              refine RunD.takeG 9 rfl rfl rfl rfl rfl kr (DetJ.indexAddr S22 rfl rfl (by omega)) .nil ?_
              refine RunD.takeG 10 rfl rfl rfl rfl rfl kr (DetJ.fieldAddr F47_7 rfl) .nil ?_
              refine RunD.takeG (Ls := [R]) 11 rfl rfl rfl rfl rfl kr (DetJ.load1 T3 rfl .here (hrd.mv hxm2 7 (I m2.ref) rfl)) (.cons pk .nil) ?_
              refine RunD.takeG 12 rfl rfl rfl rfl rfl kr (DetJ.move rfl) .nil ?_
              refine RunD.takeG 13 rfl rfl rfl rfl rfl kr (DetJ.move rfl) .nil ?_
              refine RunD.takeG 14 rfl rfl rfl rfl rfl kr (DetJ.indexAddr S22 rfl rfl (by omega)) .nil ?_
              refine RunD.takeG 15 rfl rfl rfl rfl rfl kr (DetJ.fieldAddr F47_0 rfl) .nil ?_
              refine RunD.takeG (Ls := [R]) 16 rfl rfl rfl rfl rfl kr (DetJ.load1 T3 rfl .here (hrd.mv hxm 0 (I m.seq) rfl)) (.cons pk .nil) ?_
              refine RunD.takeG 17 rfl rfl rfl rfl rfl kr (DetJ.eql rfl rfl) .nil ?_
              refine tk 18 rfl rfl rfl (DetJ.pickT rfl rfl) ?_
              refine kd [2, 8, 11, 12, 13, 14, 73] rfl ?_
              first | refine Run.if rfl (fun h5 => ?_) (fun h5 => ?_) | refine Run.cond rfl (fun h5 => ?_) (fun h5 => ?_)
              · skip
                refine regionD HM ?_
                refine tk 0 rfl rfl rfl (DetJ.move rfl) ?_
                refine tk 1 rfl rfl rfl (DetJ.move rfl) ?_
                refine tk 2 rfl rfl rfl (DetJ.move rfl) ?_
                refine tk 3 rfl rfl rfl (DetJ.indexAddr S22 rfl rfl (by omega)) ?_
                refine tk 4 rfl rfl rfl (DetJ.fieldAddr F47_4 rfl) ?_
                refine RunD.takeR1 5 rfl rfl kr T3 rfl pk (hrd.mv hxm2 4 (I m2.qty) rfl) ?_
                refine tk 6 rfl rfl rfl (DetJ.add rfl rfl) ?_
                refine tk 7 rfl rfl rfl (DetJ.move rfl) ?_
                refine tk 8 rfl rfl rfl (DetJ.move rfl) ?_
                refine tk 9 rfl rfl rfl (DetJ.move rfl) ?_
                refine tk 10 rfl rfl rfl (DetJ.indexAddr S34 rfl rfl (by omega)) ?_
                refine tk 11 rfl rfl rfl (DetJ.fieldAddr F43_2 rfl) ?_
                refine RunD.takeO 12 rfl rfl kr T3 rfl pk hx2 (by rfl) (by exact fun _ => rfl) ?_
                refine tk 13 rfl rfl rfl (DetJ.add rfl rfl) ?_
                refine tk 14 rfl rfl rfl (DetJ.move rfl) ?_
                refine tk 15 rfl rfl rfl (DetJ.move rfl) ?_
                refine tk 16 rfl rfl rfl (DetJ.indexAddr S34 rfl rfl (by omega)) ?_
                refine tk 17 rfl rfl rfl (DetJ.fieldAddr F43_3 rfl) ?_
                refine RunD.takeO 18 rfl rfl kr T3 rfl pk hx2 (by rfl) (by exact fun _ => rfl) ?_
                refine tk 19 rfl rfl rfl (DetJ.add rfl rfl) ?_
                refine tk 20 rfl rfl rfl (DetJ.assign rfl) ?_
                refine tk 21 rfl rfl rfl (DetJ.assign rfl) ?_
                refine kd [2, 8, 11, 12, 13, 14] rfl ?_
                refine Run.region ?_
                refine mvo rfl rfl ?_
                refine RunL.op rfl rfl (OpJ.addI rfl rfl (by omega) ?_)
                refine asg rfl rfl ?_
                exact RunL.next (Keep.sub (kt (ks := [2, 8, 11, 12, 13, 14]) rfl)) _ ⟨_, by omega, k2 + 1, _, _, rfl, by omega, by omega, (by rw [ret_succ (zip_get hxm2 hx2) (by omega), hqv]; simp [retG, *]), rfl, rfl⟩ gv
              · skip
                refine Run.skip ?_
                refine Run.region ?_
                refine mvo rfl rfl ?_
                refine RunL.op rfl rfl (OpJ.addI rfl rfl (by omega) ?_)
                refine asg rfl rfl ?_
                exact RunL.next (Keep.sub (kt (ks := [2, 8, 11, 12, 13, 14]) rfl)) _ ⟨_, by omega, k2 + 1, _, _, rfl, by omega, by omega, (by rw [ret_succ (zip_get hxm2 hx2) (by omega), hqv]; simp [retG, *]), rfl, rfl⟩ gv
            · skip
              refine RunD.set (v := Bo false) (congrArg Value.bool (decide_eq_false hk3)) ?_
              refine tk 6 rfl rfl rfl (DetJ.move rfl) ?_
              refine RunD.takeN 7 rfl rfl rfl rfl rfl kr ?_
              refine RunD.takeN 8 rfl rfl rfl rfl rfl kr ?_
              refine RunD.takeN 9 rfl rfl rfl rfl rfl kr ?_
              refine RunD.takeN 10 rfl rfl rfl rfl rfl kr ?_
              refine RunD.takeN 11 rfl rfl rfl rfl rfl kr ?_
              refine RunD.takeN 12 rfl rfl rfl rfl rfl kr ?_
              refine RunD.takeN 13 rfl rfl rfl rfl rfl kr ?_
              refine RunD.takeN 14 rfl rfl rfl rfl rfl kr ?_
              refine RunD.takeN 15 rfl rfl rfl rfl rfl kr ?_
              refine RunD.takeN 16 rfl rfl rfl rfl rfl kr ?_
              refine RunD.takeN 17 rfl rfl rfl rfl rfl kr ?_
              refine tk 18 rfl rfl rfl (DetJ.pickF rfl rfl) ?_
              refine kd [2, 8, 11, 12, 13, 14, 73] rfl ?_
              refine Run.false rfl ?_
              refine Run.skip ?_
              refine Run.region ?_
              refine mvo rfl rfl ?_
              refine RunL.op rfl rfl (OpJ.addI rfl rfl (by omega) ?_)
              refine asg rfl rfl ?_
              exact RunL.next (Keep.sub (kt (ks := [2, 8, 11, 12, 13, 14]) rfl)) _ ⟨_, by omega, k2 + 1, _, _, rfl, by omega, by omega, (by rw [ret_succ (zip_get hxm2 hx2) (by omega), hqv]; simp [retG, *]), rfl, rfl⟩ gv
          · skip
            refine Run.exit ?_
            refine sr ?_
            have hk2 : k2 = ms.length := by omega
            subst hk2
            have hfin := runM_ret hres hxm hx (Decidable.not_not.1 (by assumption)) hqv
            refine mvo rfl rfl ?_
            refine mvo rfl rfl ?_
            refine mvo rfl rfl ?_
            refine RunL.op rfl rfl (OpJ.indexAddr S34 rfl rfl (by omega) ?_)
            refine RunL.op rfl rfl (OpJ.fieldAddr F43_2 rfl ?_)
            refine RunL.op rfl rfl (OpJ.loadO T3 rfl pk hx (by rfl) (by exact fun _ => rfl) ?_)
            refine RunL.op rfl rfl (OpJ.neg rfl ?_)
            refine RunL.set (v := I (-c.value)) (congrArg I hfin.w) ?_
            refine RunL.op rfl rfl (OpJ.gtr rfl rfl ?_)
            refine RunL.set (v := Bo false) (congrArg Value.bool (decide_eq_false (show ¬ -c.value < v by have := hfin.fv; omega))) ?_
            refine mvo rfl rfl ?_
            refine RunL.yes rfl rfl rfl rfl (OpJ.move rfl ?_)
            refine RunL.yes rfl rfl rfl rfl (OpJ.move rfl ?_)
            refine RunL.yes rfl rfl rfl rfl (OpJ.move rfl ?_)
            refine RunL.yes rfl rfl rfl rfl (OpJ.indexAddr S22 rfl rfl (by omega) ?_)
            refine RunL.yes rfl rfl rfl rfl (OpJ.fieldAddr F47_4 rfl ?_)
            refine RunL.yes rfl rfl rfl rfl (OpJ.load1 T3 rfl pk (hrd.mv hxm 4 (I m.qty) rfl) ?_)
            refine RunL.yes rfl rfl rfl rfl (OpJ.gtr rfl rfl ?_)
            refine RunL.set (v := Bo false) (congrArg Value.bool (decide_eq_false (show ¬ m.qty < q by have := hfin.fq; omega))) ?_
            refine RunL.op rfl rfl (OpJ.pickF rfl rfl ?_)
            refine mvo rfl rfl ?_
            refine RunL.yes rfl rfl rfl rfl (OpJ.move rfl ?_)
            refine RunL.yes rfl rfl rfl rfl (OpJ.move rfl ?_)
            refine RunL.yes rfl rfl rfl rfl (OpJ.move rfl ?_)
            refine RunL.yes rfl rfl rfl rfl (OpJ.indexAddr S22 rfl rfl (by omega) ?_)
            refine RunL.yes rfl rfl rfl rfl (OpJ.fieldAddr F47_4 rfl ?_)
            refine RunL.yes rfl rfl rfl rfl (OpJ.load1 T3 rfl pk (hrd.mv hxm 4 (I m.qty) rfl) ?_)
            refine RunL.yes rfl rfl rfl rfl (OpJ.eql rfl rfl ?_)
            by_cases hq : q = m.qty
            · skip
              refine RunL.set (v := Bo true) (congrArg Value.bool (decide_eq_true hq)) ?_
              refine RunL.yes rfl rfl rfl rfl (OpJ.move rfl ?_)
              refine RunL.yes rfl rfl rfl rfl (OpJ.move rfl ?_)
              refine RunL.yes rfl rfl rfl rfl (OpJ.move rfl ?_)
              refine RunL.yes rfl rfl rfl rfl (OpJ.move rfl ?_)
              refine RunL.yes rfl rfl rfl rfl (OpJ.indexAddr S34 rfl rfl (by omega) ?_)
              refine RunL.yes rfl rfl rfl rfl (OpJ.fieldAddr F43_2 rfl ?_)
              refine RunL.yes rfl rfl rfl rfl (OpJ.loadO T3 rfl pk hx (by rfl) (by exact fun _ => rfl) ?_)
              refine RunL.yes rfl rfl rfl rfl (OpJ.neg rfl ?_)
              refine RunL.set (v := I (-c.value)) (congrArg I hfin.w) ?_
              refine RunL.yes rfl rfl rfl rfl (OpJ.neq rfl rfl ?_)
              refine RunL.set (v := Bo false) (congrArg Value.bool (decide_eq_false (fun h => h (hfin.full hq)))) ?_
              refine RunL.yes rfl rfl rfl rfl (OpJ.pickT rfl rfl ?_)
              refine RunL.op rfl rfl (OpJ.pickF rfl rfl ?_)
              refine kp [2, 8, 11, 129] rfl ?_
              refine Run.false rfl ?_
              refine Run.skip ?_
              refine Run.region ?_
              refine mvo rfl rfl ?_
              refine RunL.op rfl rfl (OpJ.addI rfl rfl (by omega) ?_)
              refine asg rfl rfl ?_
              exact RunL.next (Keep.sub (kt (ks := [2, 8, 11]) rfl)) _ ⟨_, by omega, i + 1, rfl, by omega, rfl, rfl⟩ gv
            · skip
              refine RunL.set (v := Bo false) (congrArg Value.bool (decide_eq_false hq)) ?_
              refine RunL.yes rfl rfl rfl rfl (OpJ.move rfl ?_)
              refine RunL.no rfl rfl rfl rfl ?_
              refine RunL.no rfl rfl rfl rfl ?_
              refine RunL.no rfl rfl rfl rfl ?_
              refine RunL.no rfl rfl rfl rfl ?_
              refine RunL.no rfl rfl rfl rfl ?_
              refine RunL.no rfl rfl rfl rfl ?_
              refine RunL.no rfl rfl rfl rfl ?_
              refine RunL.no rfl rfl rfl rfl ?_
              refine RunL.yes rfl rfl rfl rfl (OpJ.pickF rfl rfl ?_)
              refine RunL.op rfl rfl (OpJ.pickF rfl rfl ?_)
              refine kp [2, 8, 11, 129] rfl ?_
              refine Run.false rfl ?_
              refine Run.skip ?_
              refine Run.region ?_
              refine mvo rfl rfl ?_
              refine RunL.op rfl rfl (OpJ.addI rfl rfl (by omega) ?_)
              refine asg rfl rfl ?_
              exact RunL.next (Keep.sub (kt (ks := [2, 8, 11]) rfl)) _ ⟨_, by omega, i + 1, rfl, by omega, rfl, rfl⟩ gv
      · skip
        refine Run.exit ?_
        refine sr ?_
        refine RunL.call C12 rfl rfl rfl (ac12 R0 hR0) tks ?_
        refine asg rfl rfl ?_
        refine kp [6] rfl ?_
        refine Run.ret ?_
        exact ret_one (.tmp rfl .nil) (rfl) gv
end Go.Proofs.YtdcchollplhioaaGreatDoor

namespace Go.Proofs.YtdcchollplhioaaGreatDoor
open Go Go.SL Go.Proofs
theorem C17 : CI Tryz.prog 17 := .of (by kernel_rfl)
-- accountinglaw38.CostingSteps
theorem ac4 (k p : Int) (R : HP) (oa : Option Addr) (cap : Nat) (ms : List Mv) (hR : RdS R oa (ms.flatMap Mv.c)) (hlen : (ms.length : Int) ≤ 9223372036854775807) (hms : ∀ m ∈ ms, m.ok) (R0 : HP) (hR0 : Rd R0 ⟨0, 0, none⟩ lensC) : AC Tryz.prog 4 ⟨[I k, I p, .slice oa ms.length cap]⟩ (stars [R, R0]) (Ret (Bo true) [R, R0]) := by
  refine AC.go Tryz.func4 rfl (Nat.le_of_ble_eq_true rfl) fun β => ?_
  refine sr ?_
  refine asg rfl rfl ?_
  refine kp [0, 1, 2] rfl ?_
  refine Run.seq ?_
  refine sr ?_
  refine mvo rfl rfl ?_
  refine RunL.call C11 rfl rfl rfl (ac11 R oa cap ms hR hlen) tks ?_
  refine kp [0, 1, 2, 18] rfl ?_
  first | refine Run.if rfl (fun h1 => ?_) (fun h1 => ?_) | refine Run.cond rfl (fun h1 => ?_) (fun h1 => ?_)
  · skip
    refine sr ?_
    refine RunL.call C12 rfl rfl rfl (ac12 R0 hR0) tks ?_
    refine asg rfl rfl ?_
    refine kp [6] rfl ?_
    refine Run.ret ?_
    exact ret_one (.tmp rfl .nil) (rfl) gv
  · skip
    refine Run.skip ?_
    refine sr ?_
    have h40 := largeMs_len (show largeMs ms = false by simpa using h1)
    refine mvo rfl rfl ?_
    refine mvo rfl rfl ?_
    refine RunL.call C13 rfl rfl rfl (ac13 k p) .nil ?_
    refine mvo rfl rfl ?_
    refine RunL.op rfl rfl (OpJ.extract rfl rfl ?_)
    refine RunL.op rfl rfl (OpJ.extract rfl rfl ?_)
    refine RunL.op rfl rfl (OpJ.alloc Z28 fun b7 => ?_)
    refine RunL.op rfl rfl (OpJ.storeW T28 rfl rfl rfl rfl (by simp [Value.oneCell', Pa.c, Ly.c, Mv.c, Co.c]) up ?_)
    refine asg rfl rfl ?_
    refine kp [0, 1, 2, 7, 8] rfl ?_
    refine sr ?_
    refine mvo rfl rfl ?_
    refine mvo rfl rfl ?_
    refine mvo rfl rfl ?_
    refine RunL.callX C15 rfl rfl rfl (ac15 k p R oa cap ms hR (by omega) hms R0 hR0) tks fun ⟨l1, lc1, p1, pc1, ca, cc⟩ _ => ?_
    rcases runM_cases k p ms with ⟨h0, hres⟩ | ⟨h0, i0, e, hres, hL⟩ | ⟨h0, t, cs, hres, hL⟩
    · skip
      rw [hres]
      refine mvo rfl rfl ?_
      refine RunL.op rfl rfl (OpJ.extract rfl rfl ?_)
      refine RunL.op rfl rfl (OpJ.extract rfl rfl ?_)
      refine RunL.op rfl rfl (OpJ.extract rfl rfl ?_)
      refine RunL.op rfl rfl (OpJ.extract rfl rfl ?_)
      refine RunL.op rfl rfl (OpJ.alloc Z28 fun b9 => ?_)
      refine RunL.op rfl rfl (OpJ.storeW T28 rfl rfl rfl rfl (by simp [Value.oneCell', Pa.c, Ly.c, Mv.c, Co.c]) up ?_)
      refine asg rfl rfl ?_
      refine asg rfl rfl ?_
      refine asg rfl rfl ?_
      refine kp [0, 2, 7, 8, 9, 10, 11, 12] rfl ?_
      refine Run.seq ?_
      refine sr ?_
      refine mvo rfl rfl ?_
      refine RunL.op rfl rfl (OpJ.neq rfl rfl ?_)
      refine RunL.set (v := Bo true) (congrArg Value.bool (decide_eq_true h0)) ?_
      refine kp [0, 2, 7, 8, 9, 10, 11, 12, 36] rfl ?_
      refine Run.true rfl ?_
      refine sr ?_
      refine mvo rfl rfl ?_
      refine mvo rfl rfl ?_
      refine RunL.op rfl rfl (OpJ.eql rfl rfl ?_)
      refine RunL.set (v := Bo true) (congrArg Value.bool (decide_eq_true rfl)) ?_
      refine mvo rfl rfl ?_
      refine RunL.yes rfl rfl rfl rfl (OpJ.move rfl ?_)
      refine RunL.yes rfl rfl rfl rfl (OpJ.eql rfl rfl ?_)
      refine RunL.op rfl rfl (OpJ.pickT rfl rfl ?_)
      refine RunL.set (v := Bo true) (congrArg Value.bool (decide_eq_true rfl)) ?_
      refine mvo rfl rfl ?_
      refine RunL.yes rfl rfl rfl rfl (OpJ.move rfl ?_)
      refine RunL.yes rfl rfl rfl rfl (OpJ.len S34 rfl ?_)
      refine RunL.yes rfl rfl rfl rfl (OpJ.eql rfl rfl ?_)
      refine RunL.set (v := Bo true) (congrArg Value.bool (decide_eq_true rfl)) ?_
      refine RunL.op rfl rfl (OpJ.pickT rfl rfl ?_)
      refine mvo rfl rfl ?_
      refine RunL.callG C12 rfl rfl rfl rfl rfl (ac12 R0 hR0) tks ?_
      refine RunL.op rfl rfl (OpJ.pickT rfl rfl ?_)
      refine asg rfl rfl ?_
      refine kp [6] rfl ?_
      refine Run.ret ?_
      exact ret_one (.tmp rfl .nil) (rfl) gv
    · skip
      rw [hres]
      refine mvo rfl rfl ?_
      refine RunL.op rfl rfl (OpJ.extract rfl rfl ?_)
      refine RunL.op rfl rfl (OpJ.extract rfl rfl ?_)
      refine RunL.op rfl rfl (OpJ.extract rfl rfl ?_)
      refine RunL.op rfl rfl (OpJ.extract rfl rfl ?_)
      refine RunL.op rfl rfl (OpJ.alloc Z28 fun b9 => ?_)
      refine RunL.op rfl rfl (OpJ.storeW T28 rfl rfl rfl rfl (by simp [Value.oneCell', Pa.c, Ly.c, Mv.c, Co.c]) up ?_)
      refine asg rfl rfl ?_
      refine asg rfl rfl ?_
      refine asg rfl rfl ?_
      refine kp [0, 2, 7, 8, 9, 10, 11, 12] rfl ?_
      refine Run.seq ?_
      refine sr ?_
      refine mvo rfl rfl ?_
      refine RunL.op rfl rfl (OpJ.neq rfl rfl ?_)
      refine RunL.set (v := Bo false) (congrArg Value.bool (decide_eq_false (fun h => h h0))) ?_
      refine kp [0, 2, 7, 8, 9, 10, 11, 12, 36] rfl ?_
      refine Run.false rfl ?_
      refine Run.skip ?_
      refine Run.seq ?_
      refine sr ?_
      refine RunL.ownNilX (enc := Ly.c) 64 4 (start0_l k p) ?_
      refine RunL.ownNilX (enc := Pa.c) 66 7 (start0_p k p) ?_
      refine asg rfl rfl ?_
      refine kp [0, 2, 7, 9, 10, 11, 12, 13] rfl ?_
      refine Run.block ?_
      refine Run.weak (L' := [pt b7 (blk ((start0 k p).c none 0 none 0) 28), own 64 4 none (start0 k p).layers.length 0 ((start0 k p).layers.flatMap Ly.c), own 66 7 none (start0 k p).past.length 0 ((start0 k p).past.flatMap Pa.c), pt b9 (blk [I 0, I 0, I 0, .slice none 0 0, .slice none 0 0] 28), R, R0]) (fun _ _ h => h) gv ?_
      refine Run.loop (fun mm E L => ∃ (i : Nat) (s : Sk) (ds : List Co) (la : Option Addr) (lc : Nat) (pa : Option Addr) (pc : Nat), mm = ms.length - i ∧ i ≤ ms.length ∧ runL (stepM k) (start0 k p) (ms.take i) = .ok (s, ds) ∧ E = [(0, I k), (2, .slice oa ms.length cap), (7, .pointer (some ⟨b7, 0, none⟩)), (9, .pointer (some ⟨b9, 0, none⟩)), (10, .slice none 0 0), (11, I (i0 : Int)), (12, I e), (13, I i)] ∧ L = [pt b7 (blk (s.c la lc pa pc) 28), own 64 4 la s.layers.length lc (s.layers.flatMap Ly.c), own 66 7 pa s.past.length pc (s.past.flatMap Pa.c), pt b9 (blk [I 0, I 0, I 0, .slice none 0 0, .slice none 0 0] 28), R, R0]) ⟨_, 0, start0 k p, [], none, 0, none, 0, rfl, Nat.zero_le _, rfl, rfl, rfl⟩ ?_
      rintro _ _ _ ⟨i, s, ds, la, lc, pa, pc, rfl, hi, hrun, rfl, rfl⟩
      have hs := (runL_ok (fun x hx => hms x (List.mem_of_mem_take hx)) (start0_ok 0) hrun).mono (show 0 + (ms.take i).length ≤ 999999 by rw [List.length_take]; omega)
      refine Run.seq ?_
      refine sr ?_
      refine mvo rfl rfl ?_
      refine mvo rfl rfl ?_
      refine RunL.op rfl rfl (OpJ.len S22 rfl ?_)
      refine RunL.op rfl rfl (OpJ.lss rfl rfl ?_)
      refine kp [0, 2, 7, 9, 10, 11, 12, 13, 55] rfl ?_
      first | refine Run.if rfl (fun h2 => ?_) (fun h2 => ?_) | refine Run.cond rfl (fun h2 => ?_) (fun h2 => ?_)
      · skip
        refine Run.skip ?_
        refine Run.seq ?_
        refine Run.block ?_
        refine Run.seq ?_
        obtain ⟨m, hx⟩ := get_ex (xs := ms) (by omega)
        refine Run.rdOpen pk hR (flat_ne (k := 8) (fun _ => rfl) (by decide) hx) fun b o e hrd => ?_
        subst e
        refine regionD HM ?_
        refine RunD.mono (K' := fun E' L' => ∃ x : Option Addr × Nat × Option Addr × Nat, ∃ b14 : Nat, ∃ b15 : Nat, E' = [(0, I k), (2, .slice (some ⟨b, o, none⟩) ms.length cap), (7, .pointer (some ⟨b7, 0, none⟩)), (9, .pointer (some ⟨b9, 0, none⟩)), (10, .slice none 0 0), (11, I (i0 : Int)), (12, I e), (13, I i), (14, .pointer (some ⟨b14, 0, none⟩)), (15, .pointer (some ⟨b15, 0, none⟩)), (16, I (errOf (stepM k s m)))] ∧ L' = [pt b14 (blk (StS (stepM k s m) x) 28), pt b15 (blk (avC (stepM k s m)).c 43), stars (StB 64 66 (stepM k s m) x), pt b7 (blk (s.c la lc pa pc) 28), pt b9 (blk [I 0, I 0, I 0, .slice none 0 0, .slice none 0 0] 28), R, R0]) ?_ ?_
        · skip
          refine tk 0 rfl rfl rfl (DetJ.move rfl) ?_
          first | refine RunD.takeW 1 rfl rfl kr T28 rfl pk (by rfl) ?_ | refine RunD.takeP 1 rfl rfl kr T28 rfl pk (by simp) ?_ | refine RunD.takeE 1 rfl rfl kr T28 rfl pk (by assumption) (by exact fun _ => rfl) rfl (by decide) ?_
          refine tk 2 rfl rfl rfl (DetJ.move rfl) ?_
          refine tk 3 rfl rfl rfl (DetJ.move rfl) ?_
          refine tk 4 rfl rfl rfl (DetJ.indexAddr S22 rfl rfl (by omega)) ?_
          refine RunD.takeR 5 rfl rfl kr T47 rfl pk (hrd.elem (fun _ => rfl) hx) rfl ?_
          refine RunD.three 6 11 12 [false, false, false, false, false, false] [true, true, true, true, true, true] [true, true, true, true, true, true] rfl rfl rfl rfl rfl rfl rfl rfl rfl kr kr kr kr (OpJ.callOuts C19 rfl rfl (ac19f k s m la lc pa pc (own 64 4 la s.layers.length lc (s.layers.flatMap Ly.c)) (own 66 7 pa s.past.length pc (s.past.flatMap Pa.c)) hs (hms m (List.mem_of_getElem? hx)) own.rds own.rds R0 hR0) tks fun x _ => ⟨po, ?_⟩) (OpJ.alloc Z28 fun b14 => ⟨po, ?_⟩) (OpJ.alloc Z43 fun b15 => ⟨po, ?_⟩)
          · skip
            refine tk 7 rfl rfl rfl (DetJ.move rfl) ?_
            refine tk 8 rfl rfl rfl (DetJ.extract rfl rfl) ?_
            refine tk 9 rfl rfl rfl (DetJ.extract rfl rfl) ?_
            refine tk 10 rfl rfl rfl (DetJ.extract rfl rfl) ?_
            refine RunD.two 11 12 [true, true, true, true] [true, true, true, true] rfl rfl rfl rfl rfl rfl kr kr kr (OpJ.alloc Z28 fun b14 => ⟨po, ?_⟩) (OpJ.alloc Z43 fun b15 => ⟨po, ?_⟩)
            · skip
              refine RunD.op 12 [true, true, true, true] rfl rfl rfl kr kr (OpJ.alloc Z43 fun b15 => ⟨po, ?_⟩)
              refine RunD.op 13 [true, true, false, false] rfl rfl rfl kr kr (OpJ.storeW T28 rfl rfl StS_len rfl StS_one up ⟨po, ?_⟩)
              refine RunD.op 14 [true, false] rfl rfl rfl kr kr (OpJ.storeW T43 rfl rfl rfl rfl (by simp [Value.oneCell', Pa.c, Ly.c, Mv.c, Co.c]) up ⟨po, ?_⟩)
              refine tk 15 rfl rfl rfl (DetJ.assign rfl) ?_
              exact RunD.weak (E' := [(0, I k), (2, .slice (some ⟨b, o, none⟩) ms.length cap), (7, .pointer (some ⟨b7, 0, none⟩)), (9, .pointer (some ⟨b9, 0, none⟩)), (10, .slice none 0 0), (11, I (i0 : Int)), (12, I e), (13, I i), (14, .pointer (some ⟨b14, 0, none⟩)), (15, .pointer (some ⟨b15, 0, none⟩)), (16, I (errOf (stepM k s m)))]) (L' := [pt b14 (blk (StS (stepM k s m) x) 28), pt b15 (blk (avC (stepM k s m)).c 43), stars (StB 64 66 (stepM k s m) x), pt b7 (blk (s.c la lc pa pc) 28), pt b9 (blk [I 0, I 0, I 0, .slice none 0 0, .slice none 0 0] 28), R, R0]) (Keep.sub (kt (ks := [0, 2, 7, 9, 10, 11, 12, 13, 14, 15, 16]) rfl)) gv (RunD.done kr ⟨_, _, _, rfl, rfl⟩)
            · skip
              refine RunD.op 11 [true, true, true, true] rfl rfl rfl kr kr (OpJ.alloc Z28 fun b14 => ⟨po, ?_⟩)
              refine RunD.op 13 [true, true, false, false] rfl rfl rfl kr kr (OpJ.storeW T28 rfl rfl StS_len rfl StS_one up ⟨po, ?_⟩)
              refine RunD.op 14 [true, false] rfl rfl rfl kr kr (OpJ.storeW T43 rfl rfl rfl rfl (by simp [Value.oneCell', Pa.c, Ly.c, Mv.c, Co.c]) up ⟨po, ?_⟩)
              refine tk 15 rfl rfl rfl (DetJ.assign rfl) ?_
              exact RunD.weak (E' := [(0, I k), (2, .slice (some ⟨b, o, none⟩) ms.length cap), (7, .pointer (some ⟨b7, 0, none⟩)), (9, .pointer (some ⟨b9, 0, none⟩)), (10, .slice none 0 0), (11, I (i0 : Int)), (12, I e), (13, I i), (14, .pointer (some ⟨b14, 0, none⟩)), (15, .pointer (some ⟨b15, 0, none⟩)), (16, I (errOf (stepM k s m)))]) (L' := [pt b14 (blk (StS (stepM k s m) x) 28), pt b15 (blk (avC (stepM k s m)).c 43), stars (StB 64 66 (stepM k s m) x), pt b7 (blk (s.c la lc pa pc) 28), pt b9 (blk [I 0, I 0, I 0, .slice none 0 0, .slice none 0 0] 28), R, R0]) (Keep.sub (kt (ks := [0, 2, 7, 9, 10, 11, 12, 13, 14, 15, 16]) rfl)) gv (RunD.done kr ⟨_, _, _, rfl, rfl⟩)
          · skip
            refine RunD.two 6 12 [false, false, false, false, false, false] [true, true, true, true, true, true] rfl rfl rfl rfl rfl rfl kr kr kr (OpJ.callOuts C19 rfl rfl (ac19f k s m la lc pa pc (own 64 4 la s.layers.length lc (s.layers.flatMap Ly.c)) (own 66 7 pa s.past.length pc (s.past.flatMap Pa.c)) hs (hms m (List.mem_of_getElem? hx)) own.rds own.rds R0 hR0) tks fun x _ => ⟨po, ?_⟩) (OpJ.alloc Z43 fun b15 => ⟨po, ?_⟩)
            · skip
              refine tk 7 rfl rfl rfl (DetJ.move rfl) ?_
              refine tk 8 rfl rfl rfl (DetJ.extract rfl rfl) ?_
              refine tk 9 rfl rfl rfl (DetJ.extract rfl rfl) ?_
              refine tk 10 rfl rfl rfl (DetJ.extract rfl rfl) ?_
              refine RunD.op 12 [true, true, true, true] rfl rfl rfl kr kr (OpJ.alloc Z43 fun b15 => ⟨po, ?_⟩)
              refine RunD.op 13 [true, true, false, false] rfl rfl rfl kr kr (OpJ.storeW T28 rfl rfl StS_len rfl StS_one up ⟨po, ?_⟩)
              refine RunD.op 14 [true, false] rfl rfl rfl kr kr (OpJ.storeW T43 rfl rfl rfl rfl (by simp [Value.oneCell', Pa.c, Ly.c, Mv.c, Co.c]) up ⟨po, ?_⟩)
              refine tk 15 rfl rfl rfl (DetJ.assign rfl) ?_
              exact RunD.weak (E' := [(0, I k), (2, .slice (some ⟨b, o, none⟩) ms.length cap), (7, .pointer (some ⟨b7, 0, none⟩)), (9, .pointer (some ⟨b9, 0, none⟩)), (10, .slice none 0 0), (11, I (i0 : Int)), (12, I e), (13, I i), (14, .pointer (some ⟨b14, 0, none⟩)), (15, .pointer (some ⟨b15, 0, none⟩)), (16, I (errOf (stepM k s m)))]) (L' := [pt b14 (blk (StS (stepM k s m) x) 28), pt b15 (blk (avC (stepM k s m)).c 43), stars (StB 64 66 (stepM k s m) x), pt b7 (blk (s.c la lc pa pc) 28), pt b9 (blk [I 0, I 0, I 0, .slice none 0 0, .slice none 0 0] 28), R, R0]) (Keep.sub (kt (ks := [0, 2, 7, 9, 10, 11, 12, 13, 14, 15, 16]) rfl)) gv (RunD.done kr ⟨_, _, _, rfl, rfl⟩)
            · skip
              refine RunD.op 6 [false, false, false, false, false, false] rfl rfl rfl kr kr (OpJ.callOuts C19 rfl rfl (ac19f k s m la lc pa pc (own 64 4 la s.layers.length lc (s.layers.flatMap Ly.c)) (own 66 7 pa s.past.length pc (s.past.flatMap Pa.c)) hs (hms m (List.mem_of_getElem? hx)) own.rds own.rds R0 hR0) tks fun x _ => ⟨po, ?_⟩)
              refine tk 7 rfl rfl rfl (DetJ.move rfl) ?_
              refine tk 8 rfl rfl rfl (DetJ.extract rfl rfl) ?_
              refine tk 9 rfl rfl rfl (DetJ.extract rfl rfl) ?_
              refine tk 10 rfl rfl rfl (DetJ.extract rfl rfl) ?_
              refine RunD.op 13 [true, true, false, false] rfl rfl rfl kr kr (OpJ.storeW T28 rfl rfl StS_len rfl StS_one up ⟨po, ?_⟩)
              refine RunD.op 14 [true, false] rfl rfl rfl kr kr (OpJ.storeW T43 rfl rfl rfl rfl (by simp [Value.oneCell', Pa.c, Ly.c, Mv.c, Co.c]) up ⟨po, ?_⟩)
              refine tk 15 rfl rfl rfl (DetJ.assign rfl) ?_
              exact RunD.weak (E' := [(0, I k), (2, .slice (some ⟨b, o, none⟩) ms.length cap), (7, .pointer (some ⟨b7, 0, none⟩)), (9, .pointer (some ⟨b9, 0, none⟩)), (10, .slice none 0 0), (11, I (i0 : Int)), (12, I e), (13, I i), (14, .pointer (some ⟨b14, 0, none⟩)), (15, .pointer (some ⟨b15, 0, none⟩)), (16, I (errOf (stepM k s m)))]) (L' := [pt b14 (blk (StS (stepM k s m) x) 28), pt b15 (blk (avC (stepM k s m)).c 43), stars (StB 64 66 (stepM k s m) x), pt b7 (blk (s.c la lc pa pc) 28), pt b9 (blk [I 0, I 0, I 0, .slice none 0 0, .slice none 0 0] 28), R, R0]) (Keep.sub (kt (ks := [0, 2, 7, 9, 10, 11, 12, 13, 14, 15, 16]) rfl)) gv (RunD.done kr ⟨_, _, _, rfl, rfl⟩)
          · skip
            refine RunD.two 6 11 [false, false, false, false, false, false] [true, true, true, true, true, true] rfl rfl rfl rfl rfl rfl kr kr kr (OpJ.callOuts C19 rfl rfl (ac19f k s m la lc pa pc (own 64 4 la s.layers.length lc (s.layers.flatMap Ly.c)) (own 66 7 pa s.past.length pc (s.past.flatMap Pa.c)) hs (hms m (List.mem_of_getElem? hx)) own.rds own.rds R0 hR0) tks fun x _ => ⟨po, ?_⟩) (OpJ.alloc Z28 fun b14 => ⟨po, ?_⟩)
            · skip
              refine tk 7 rfl rfl rfl (DetJ.move rfl) ?_
              refine tk 8 rfl rfl rfl (DetJ.extract rfl rfl) ?_
              refine tk 9 rfl rfl rfl (DetJ.extract rfl rfl) ?_
              refine tk 10 rfl rfl rfl (DetJ.extract rfl rfl) ?_
              refine RunD.op 11 [true, true, true, true] rfl rfl rfl kr kr (OpJ.alloc Z28 fun b14 => ⟨po, ?_⟩)
              refine RunD.op 13 [true, true, false, false] rfl rfl rfl kr kr (OpJ.storeW T28 rfl rfl StS_len rfl StS_one up ⟨po, ?_⟩)
              refine RunD.op 14 [true, false] rfl rfl rfl kr kr (OpJ.storeW T43 rfl rfl rfl rfl (by simp [Value.oneCell', Pa.c, Ly.c, Mv.c, Co.c]) up ⟨po, ?_⟩)
              refine tk 15 rfl rfl rfl (DetJ.assign rfl) ?_
              exact RunD.weak (E' := [(0, I k), (2, .slice (some ⟨b, o, none⟩) ms.length cap), (7, .pointer (some ⟨b7, 0, none⟩)), (9, .pointer (some ⟨b9, 0, none⟩)), (10, .slice none 0 0), (11, I (i0 : Int)), (12, I e), (13, I i), (14, .pointer (some ⟨b14, 0, none⟩)), (15, .pointer (some ⟨b15, 0, none⟩)), (16, I (errOf (stepM k s m)))]) (L' := [pt b14 (blk (StS (stepM k s m) x) 28), pt b15 (blk (avC (stepM k s m)).c 43), stars (StB 64 66 (stepM k s m) x), pt b7 (blk (s.c la lc pa pc) 28), pt b9 (blk [I 0, I 0, I 0, .slice none 0 0, .slice none 0 0] 28), R, R0]) (Keep.sub (kt (ks := [0, 2, 7, 9, 10, 11, 12, 13, 14, 15, 16]) rfl)) gv (RunD.done kr ⟨_, _, _, rfl, rfl⟩)
            · skip
              refine RunD.op 6 [false, false, false, false, false, false] rfl rfl rfl kr kr (OpJ.callOuts C19 rfl rfl (ac19f k s m la lc pa pc (own 64 4 la s.layers.length lc (s.layers.flatMap Ly.c)) (own 66 7 pa s.past.length pc (s.past.flatMap Pa.c)) hs (hms m (List.mem_of_getElem? hx)) own.rds own.rds R0 hR0) tks fun x _ => ⟨po, ?_⟩)
              refine tk 7 rfl rfl rfl (DetJ.move rfl) ?_
              refine tk 8 rfl rfl rfl (DetJ.extract rfl rfl) ?_
              refine tk 9 rfl rfl rfl (DetJ.extract rfl rfl) ?_
              refine tk 10 rfl rfl rfl (DetJ.extract rfl rfl) ?_
              refine RunD.op 13 [true, true, false, false] rfl rfl rfl kr kr (OpJ.storeW T28 rfl rfl StS_len rfl StS_one up ⟨po, ?_⟩)
              refine RunD.op 14 [true, false] rfl rfl rfl kr kr (OpJ.storeW T43 rfl rfl rfl rfl (by simp [Value.oneCell', Pa.c, Ly.c, Mv.c, Co.c]) up ⟨po, ?_⟩)
              refine tk 15 rfl rfl rfl (DetJ.assign rfl) ?_
              exact RunD.weak (E' := [(0, I k), (2, .slice (some ⟨b, o, none⟩) ms.length cap), (7, .pointer (some ⟨b7, 0, none⟩)), (9, .pointer (some ⟨b9, 0, none⟩)), (10, .slice none 0 0), (11, I (i0 : Int)), (12, I e), (13, I i), (14, .pointer (some ⟨b14, 0, none⟩)), (15, .pointer (some ⟨b15, 0, none⟩)), (16, I (errOf (stepM k s m)))]) (L' := [pt b14 (blk (StS (stepM k s m) x) 28), pt b15 (blk (avC (stepM k s m)).c 43), stars (StB 64 66 (stepM k s m) x), pt b7 (blk (s.c la lc pa pc) 28), pt b9 (blk [I 0, I 0, I 0, .slice none 0 0, .slice none 0 0] 28), R, R0]) (Keep.sub (kt (ks := [0, 2, 7, 9, 10, 11, 12, 13, 14, 15, 16]) rfl)) gv (RunD.done kr ⟨_, _, _, rfl, rfl⟩)
        rintro _ _ ⟨x, b14, b15, rfl, rfl⟩
        refine Run.seq ?_
        refine sr ?_
        refine mvo rfl rfl ?_
        rcases hst : stepM k s m with e2 | ⟨t2, c2⟩
        · skip
          have hq := runL_fail hrun hx hst
          rw [hL] at hq
          cases hq
          refine RunL.op rfl rfl (OpJ.neq rfl rfl ?_)
          first | refine RunL.set (congrArg Value.bool (decide_eq_true (show errOf (Except.error _) ≠ 0 from stepM_err hst))) ?_ | skip
          refine kp [0, 2, 7, 9, 10, 11, 12, 13, 14, 15, 16, 70] rfl ?_
          refine Run.true rfl ?_
          refine sr ?_
          refine mvo rfl rfl ?_
          refine mvo rfl rfl ?_
          refine RunL.op rfl rfl (OpJ.eql rfl rfl ?_)
          refine RunL.set (v := Bo true) (congrArg Value.bool (decide_eq_true rfl)) ?_
          refine mvo rfl rfl ?_
          refine RunL.yes rfl rfl rfl rfl (OpJ.move rfl ?_)
          refine RunL.yes rfl rfl rfl rfl (OpJ.move rfl ?_)
          refine RunL.yes rfl rfl rfl rfl (OpJ.eql rfl rfl ?_)
          refine RunL.set (v := Bo true) (congrArg Value.bool (decide_eq_true rfl)) ?_
          refine RunL.op rfl rfl (OpJ.pickT rfl rfl ?_)
          refine mvo rfl rfl ?_
          refine RunL.yes rfl rfl rfl rfl (OpJ.move rfl ?_)
          refine RunL.yes rfl rfl rfl rfl (OpJ.len S34 rfl ?_)
          refine RunL.yes rfl rfl rfl rfl (OpJ.eql rfl rfl ?_)
          refine RunL.set (v := Bo true) (congrArg Value.bool (decide_eq_true rfl)) ?_
          refine RunL.op rfl rfl (OpJ.pickT rfl rfl ?_)
          refine mvo rfl rfl ?_
          refine RunL.yes rfl rfl rfl rfl (OpJ.fieldAddr F28_0 rfl ?_)
          first | refine RunL.yes rfl rfl rfl rfl (OpJ.loadF T3 rfl pk (by rfl) ?_) | refine RunL.yes rfl rfl rfl rfl (OpJ.loadO T3 rfl pk (by assumption) (by rfl) (by exact fun _ => rfl) ?_)
          refine RunL.yes rfl rfl rfl rfl (OpJ.eql rfl rfl ?_)
          refine RunL.set (v := Bo true) (congrArg Value.bool (decide_eq_true rfl)) ?_
          refine RunL.op rfl rfl (OpJ.pickT rfl rfl ?_)
          refine mvo rfl rfl ?_
          refine RunL.yes rfl rfl rfl rfl (OpJ.fieldAddr F28_1 rfl ?_)
          first | refine RunL.yes rfl rfl rfl rfl (OpJ.loadF T3 rfl pk (by rfl) ?_) | refine RunL.yes rfl rfl rfl rfl (OpJ.loadO T3 rfl pk (by assumption) (by rfl) (by exact fun _ => rfl) ?_)
          refine RunL.yes rfl rfl rfl rfl (OpJ.eql rfl rfl ?_)
          refine RunL.set (v := Bo true) (congrArg Value.bool (decide_eq_true rfl)) ?_
          refine RunL.op rfl rfl (OpJ.pickT rfl rfl ?_)
          refine mvo rfl rfl ?_
          refine RunL.callG C12 rfl rfl rfl rfl rfl (ac12 R0 hR0) tks ?_
          refine RunL.op rfl rfl (OpJ.pickT rfl rfl ?_)
          refine asg rfl rfl ?_
          refine kp [6] rfl ?_
          refine Run.ret ?_
          exact ret_one (.tmp rfl .nil) (rfl) gv
        · skip
          refine RunL.unstar (As := StB 64 66 (Except.ok (t2, c2)) x) pk ?_
          rw [show StS (Except.ok (t2, c2)) x = t2.c x.1 x.2.1 x.2.2.1 x.2.2.2 from rfl, show avC (Except.ok (t2, c2)) = c2 from rfl]
          refine RunL.op rfl rfl (OpJ.neq rfl rfl ?_)
          first | refine RunL.set (congrArg Value.bool (decide_eq_true (show errOf (Except.error _) ≠ 0 from stepM_err hst))) ?_ | skip
          refine kp [0, 2, 7, 9, 10, 11, 12, 13, 14, 15, 16, 70] rfl ?_
          refine Run.false rfl ?_
          refine Run.skip ?_
          refine Run.seq ?_
          refine Run.seq ?_
          refine regionD HM ?_
          refine tk 0 rfl rfl rfl (DetJ.move rfl) ?_
          refine tk 1 rfl rfl rfl (DetJ.eql rfl rfl) ?_
          refine RunD.set (v := Bo false) (congrArg Value.bool (decide_eq_false (runL_err hL).1)) ?_
          refine tk 2 rfl rfl rfl (DetJ.move rfl) ?_
          refine RunD.takeN 3 rfl rfl rfl rfl rfl kr ?_
          refine RunD.takeN 4 rfl rfl rfl rfl rfl kr ?_
          refine RunD.takeN 5 rfl rfl rfl rfl rfl kr ?_
          refine RunD.takeN 6 rfl rfl rfl rfl rfl kr ?_
          refine RunD.takeN 7 rfl rfl rfl rfl rfl kr ?_
          refine RunD.takeU 8 rfl rfl rfl rfl rfl ?_
          refine RunD.takeU 9 rfl rfl rfl rfl rfl ?_
          refine RunD.takeU 10 rfl rfl rfl rfl rfl ?_
          refine RunD.takeU 11 rfl rfl rfl rfl rfl ?_
          refine RunD.takeU 12 rfl rfl rfl rfl rfl ?_
          refine RunD.takeU 13 rfl rfl rfl rfl rfl ?_
          refine RunD.takeN 14 rfl rfl rfl rfl rfl kr ?_
          refine tk 15 rfl rfl rfl (DetJ.pickF rfl rfl) ?_
          refine kd [0, 2, 7, 9, 10, 11, 12, 13, 14, 112] rfl ?_
          refine Run.false rfl ?_
          refine Run.skip ?_
          refine Run.region ?_
          first | refine RunL.op rfl rfl (OpJ.loadW T28 rfl pk (by rfl) ?_) | refine RunL.op rfl rfl (OpJ.loadP T28 rfl pk (by simp) ?_) | refine RunL.op rfl rfl (OpJ.loadE T28 rfl pk (by assumption) (by exact fun _ => rfl) rfl (by decide) ?_)
          refine RunL.op rfl rfl (OpJ.storeW T28 rfl rfl rfl rfl (by simp [Value.oneCell', Pa.c, Ly.c, Mv.c, Co.c]) up ?_)
          refine kp [0, 2, 7, 9, 10, 11, 12, 13] rfl ?_
          refine Run.region ?_
          refine mvo rfl rfl ?_
          first | refine RunL.op rfl rfl (OpJ.addI rfl rfl (by omega) ?_) | refine RunL.op rfl rfl (OpJ.add rfl rfl ?_)
          refine asg rfl rfl ?_
          exact RunL.next (Keep.sub (kt (ks := [0, 2, 7, 9, 10, 11, 12, 13]) rfl)) _ ⟨_, by omega, i + 1, t2, ds ++ [c2], x.1, x.2.1, x.2.2.1, x.2.2.2, rfl, by omega, runL_snoc hrun hx hst, rfl, rfl⟩ gv
      · skip
        refine Run.exit ?_
        refine sr ?_
        refine mvo rfl rfl ?_
        have hq := (runL_all (by omega)).trans hrun; rw [hL] at hq; cases hq
    · skip
      rw [hres]
      have hcl := runL_len hL
      refine mvo rfl rfl ?_
      refine RunL.op rfl rfl (OpJ.extract rfl rfl ?_)
      refine RunL.op rfl rfl (OpJ.extract rfl rfl ?_)
      refine RunL.op rfl rfl (OpJ.extract rfl rfl ?_)
      refine RunL.op rfl rfl (OpJ.extract rfl rfl ?_)
      refine RunL.op rfl rfl (OpJ.alloc Z28 fun b9 => ?_)
      refine RunL.op rfl rfl (OpJ.storeW T28 rfl rfl rfl rfl (by simp [Value.oneCell', Pa.c, Ly.c, Mv.c, Co.c]) up ?_)
      refine asg rfl rfl ?_
      refine asg rfl rfl ?_
      refine asg rfl rfl ?_
      refine kp [0, 2, 7, 8, 9, 10, 11, 12] rfl ?_
      refine Run.seq ?_
      refine sr ?_
      refine mvo rfl rfl ?_
      refine RunL.op rfl rfl (OpJ.neq rfl rfl ?_)
      refine RunL.set (v := Bo false) (congrArg Value.bool (decide_eq_false (fun h => h h0))) ?_
      refine kp [0, 2, 7, 8, 9, 10, 11, 12, 36] rfl ?_
      refine Run.false rfl ?_
      refine Run.skip ?_
      refine Run.seq ?_
      refine sr ?_
      refine RunL.ownNilX (enc := Ly.c) 64 4 (start0_l k p) ?_
      refine RunL.ownNilX (enc := Pa.c) 66 7 (start0_p k p) ?_
      refine asg rfl rfl ?_
      refine kp [0, 2, 7, 9, 10, 11, 12, 13] rfl ?_
      refine Run.block ?_
      refine Run.weak (L' := [pt b7 (blk ((start0 k p).c none 0 none 0) 28), own 64 4 none (start0 k p).layers.length 0 ((start0 k p).layers.flatMap Ly.c), own 66 7 none (start0 k p).past.length 0 ((start0 k p).past.flatMap Pa.c), pt b9 (blk (t.c l1 lc1 p1 pc1) 28), own 64 4 l1 t.layers.length lc1 (t.layers.flatMap Ly.c), own 66 7 p1 t.past.length pc1 (t.past.flatMap Pa.c), own 43 4 ca (cs).length cc ((cs).flatMap Co.c), R, R0]) (fun _ _ h => h) gv ?_
      refine Run.loop (fun mm E L => ∃ (i : Nat) (s : Sk) (ds : List Co) (la : Option Addr) (lc : Nat) (pa : Option Addr) (pc : Nat), mm = ms.length - i ∧ i ≤ ms.length ∧ runL (stepM k) (start0 k p) (ms.take i) = .ok (s, ds) ∧ E = [(0, I k), (2, .slice oa ms.length cap), (7, .pointer (some ⟨b7, 0, none⟩)), (9, .pointer (some ⟨b9, 0, none⟩)), (10, .slice ca cs.length cc), (11, I (-1)), (12, I 0), (13, I i)] ∧ L = [pt b7 (blk (s.c la lc pa pc) 28), own 64 4 la s.layers.length lc (s.layers.flatMap Ly.c), own 66 7 pa s.past.length pc (s.past.flatMap Pa.c), pt b9 (blk (t.c l1 lc1 p1 pc1) 28), own 64 4 l1 t.layers.length lc1 (t.layers.flatMap Ly.c), own 66 7 p1 t.past.length pc1 (t.past.flatMap Pa.c), own 43 4 ca (cs).length cc ((cs).flatMap Co.c), R, R0]) ⟨_, 0, start0 k p, [], none, 0, none, 0, rfl, Nat.zero_le _, rfl, rfl, rfl⟩ ?_
      rintro _ _ _ ⟨i, s, ds, la, lc, pa, pc, rfl, hi, hrun, rfl, rfl⟩
      have hs := (runL_ok (fun x hx => hms x (List.mem_of_mem_take hx)) (start0_ok 0) hrun).mono (show 0 + (ms.take i).length ≤ 999999 by rw [List.length_take]; omega)
      refine Run.seq ?_
      refine sr ?_
      refine mvo rfl rfl ?_
      refine mvo rfl rfl ?_
      refine RunL.op rfl rfl (OpJ.len S22 rfl ?_)
      refine RunL.op rfl rfl (OpJ.lss rfl rfl ?_)
      refine kp [0, 2, 7, 9, 10, 11, 12, 13, 55] rfl ?_
      first | refine Run.if rfl (fun h3 => ?_) (fun h3 => ?_) | refine Run.cond rfl (fun h3 => ?_) (fun h3 => ?_)
      · skip
        refine Run.skip ?_
        refine Run.seq ?_
        refine Run.block ?_
        refine Run.seq ?_
        obtain ⟨m, hx⟩ := get_ex (xs := ms) (by omega)
        refine Run.rdOpen pk hR (flat_ne (k := 8) (fun _ => rfl) (by decide) hx) fun b o e hrd => ?_
        subst e
        refine regionD HM ?_
        refine RunD.mono (K' := fun E' L' => ∃ x : Option Addr × Nat × Option Addr × Nat, ∃ b14 : Nat, ∃ b15 : Nat, E' = [(0, I k), (2, .slice (some ⟨b, o, none⟩) ms.length cap), (7, .pointer (some ⟨b7, 0, none⟩)), (9, .pointer (some ⟨b9, 0, none⟩)), (10, .slice ca cs.length cc), (11, I (-1)), (12, I 0), (13, I i), (14, .pointer (some ⟨b14, 0, none⟩)), (15, .pointer (some ⟨b15, 0, none⟩)), (16, I (errOf (stepM k s m)))] ∧ L' = [pt b14 (blk (StS (stepM k s m) x) 28), pt b15 (blk (avC (stepM k s m)).c 43), stars (StB 64 66 (stepM k s m) x), pt b7 (blk (s.c la lc pa pc) 28), pt b9 (blk (t.c l1 lc1 p1 pc1) 28), own 64 4 l1 t.layers.length lc1 (t.layers.flatMap Ly.c), own 66 7 p1 t.past.length pc1 (t.past.flatMap Pa.c), own 43 4 ca (cs).length cc ((cs).flatMap Co.c), R, R0]) ?_ ?_
        · skip
          refine tk 0 rfl rfl rfl (DetJ.move rfl) ?_
          first | refine RunD.takeW 1 rfl rfl kr T28 rfl pk (by rfl) ?_ | refine RunD.takeP 1 rfl rfl kr T28 rfl pk (by simp) ?_ | refine RunD.takeE 1 rfl rfl kr T28 rfl pk (by assumption) (by exact fun _ => rfl) rfl (by decide) ?_
          refine tk 2 rfl rfl rfl (DetJ.move rfl) ?_
          refine tk 3 rfl rfl rfl (DetJ.move rfl) ?_
          refine tk 4 rfl rfl rfl (DetJ.indexAddr S22 rfl rfl (by omega)) ?_
          refine RunD.takeR 5 rfl rfl kr T47 rfl pk (hrd.elem (fun _ => rfl) hx) rfl ?_
          refine RunD.three 6 11 12 [false, false, false, false, false, false] [true, true, true, true, true, true] [true, true, true, true, true, true] rfl rfl rfl rfl rfl rfl rfl rfl rfl kr kr kr kr (OpJ.callOuts C19 rfl rfl (ac19f k s m la lc pa pc (own 64 4 la s.layers.length lc (s.layers.flatMap Ly.c)) (own 66 7 pa s.past.length pc (s.past.flatMap Pa.c)) hs (hms m (List.mem_of_getElem? hx)) own.rds own.rds R0 hR0) tks fun x _ => ⟨po, ?_⟩) (OpJ.alloc Z28 fun b14 => ⟨po, ?_⟩) (OpJ.alloc Z43 fun b15 => ⟨po, ?_⟩)
          · skip
            refine tk 7 rfl rfl rfl (DetJ.move rfl) ?_
            refine tk 8 rfl rfl rfl (DetJ.extract rfl rfl) ?_
            refine tk 9 rfl rfl rfl (DetJ.extract rfl rfl) ?_
            refine tk 10 rfl rfl rfl (DetJ.extract rfl rfl) ?_
            refine RunD.two 11 12 [true, true, true, true] [true, true, true, true] rfl rfl rfl rfl rfl rfl kr kr kr (OpJ.alloc Z28 fun b14 => ⟨po, ?_⟩) (OpJ.alloc Z43 fun b15 => ⟨po, ?_⟩)
            · skip
              refine RunD.op 12 [true, true, true, true] rfl rfl rfl kr kr (OpJ.alloc Z43 fun b15 => ⟨po, ?_⟩)
              refine RunD.op 13 [true, true, false, false] rfl rfl rfl kr kr (OpJ.storeW T28 rfl rfl StS_len rfl StS_one up ⟨po, ?_⟩)
              refine RunD.op 14 [true, false] rfl rfl rfl kr kr (OpJ.storeW T43 rfl rfl rfl rfl (by simp [Value.oneCell', Pa.c, Ly.c, Mv.c, Co.c]) up ⟨po, ?_⟩)
              refine tk 15 rfl rfl rfl (DetJ.assign rfl) ?_
              exact RunD.weak (E' := [(0, I k), (2, .slice (some ⟨b, o, none⟩) ms.length cap), (7, .pointer (some ⟨b7, 0, none⟩)), (9, .pointer (some ⟨b9, 0, none⟩)), (10, .slice ca cs.length cc), (11, I (-1)), (12, I 0), (13, I i), (14, .pointer (some ⟨b14, 0, none⟩)), (15, .pointer (some ⟨b15, 0, none⟩)), (16, I (errOf (stepM k s m)))]) (L' := [pt b14 (blk (StS (stepM k s m) x) 28), pt b15 (blk (avC (stepM k s m)).c 43), stars (StB 64 66 (stepM k s m) x), pt b7 (blk (s.c la lc pa pc) 28), pt b9 (blk (t.c l1 lc1 p1 pc1) 28), own 64 4 l1 t.layers.length lc1 (t.layers.flatMap Ly.c), own 66 7 p1 t.past.length pc1 (t.past.flatMap Pa.c), own 43 4 ca (cs).length cc ((cs).flatMap Co.c), R, R0]) (Keep.sub (kt (ks := [0, 2, 7, 9, 10, 11, 12, 13, 14, 15, 16]) rfl)) gv (RunD.done kr ⟨_, _, _, rfl, rfl⟩)
            · skip
              refine RunD.op 11 [true, true, true, true] rfl rfl rfl kr kr (OpJ.alloc Z28 fun b14 => ⟨po, ?_⟩)
              refine RunD.op 13 [true, true, false, false] rfl rfl rfl kr kr (OpJ.storeW T28 rfl rfl StS_len rfl StS_one up ⟨po, ?_⟩)
              refine RunD.op 14 [true, false] rfl rfl rfl kr kr (OpJ.storeW T43 rfl rfl rfl rfl (by simp [Value.oneCell', Pa.c, Ly.c, Mv.c, Co.c]) up ⟨po, ?_⟩)
              refine tk 15 rfl rfl rfl (DetJ.assign rfl) ?_
              exact RunD.weak (E' := [(0, I k), (2, .slice (some ⟨b, o, none⟩) ms.length cap), (7, .pointer (some ⟨b7, 0, none⟩)), (9, .pointer (some ⟨b9, 0, none⟩)), (10, .slice ca cs.length cc), (11, I (-1)), (12, I 0), (13, I i), (14, .pointer (some ⟨b14, 0, none⟩)), (15, .pointer (some ⟨b15, 0, none⟩)), (16, I (errOf (stepM k s m)))]) (L' := [pt b14 (blk (StS (stepM k s m) x) 28), pt b15 (blk (avC (stepM k s m)).c 43), stars (StB 64 66 (stepM k s m) x), pt b7 (blk (s.c la lc pa pc) 28), pt b9 (blk (t.c l1 lc1 p1 pc1) 28), own 64 4 l1 t.layers.length lc1 (t.layers.flatMap Ly.c), own 66 7 p1 t.past.length pc1 (t.past.flatMap Pa.c), own 43 4 ca (cs).length cc ((cs).flatMap Co.c), R, R0]) (Keep.sub (kt (ks := [0, 2, 7, 9, 10, 11, 12, 13, 14, 15, 16]) rfl)) gv (RunD.done kr ⟨_, _, _, rfl, rfl⟩)
          · skip
            refine RunD.two 6 12 [false, false, false, false, false, false] [true, true, true, true, true, true] rfl rfl rfl rfl rfl rfl kr kr kr (OpJ.callOuts C19 rfl rfl (ac19f k s m la lc pa pc (own 64 4 la s.layers.length lc (s.layers.flatMap Ly.c)) (own 66 7 pa s.past.length pc (s.past.flatMap Pa.c)) hs (hms m (List.mem_of_getElem? hx)) own.rds own.rds R0 hR0) tks fun x _ => ⟨po, ?_⟩) (OpJ.alloc Z43 fun b15 => ⟨po, ?_⟩)
            · skip
              refine tk 7 rfl rfl rfl (DetJ.move rfl) ?_
              refine tk 8 rfl rfl rfl (DetJ.extract rfl rfl) ?_
              refine tk 9 rfl rfl rfl (DetJ.extract rfl rfl) ?_
              refine tk 10 rfl rfl rfl (DetJ.extract rfl rfl) ?_
              refine RunD.op 12 [true, true, true, true] rfl rfl rfl kr kr (OpJ.alloc Z43 fun b15 => ⟨po, ?_⟩)
              refine RunD.op 13 [true, true, false, false] rfl rfl rfl kr kr (OpJ.storeW T28 rfl rfl StS_len rfl StS_one up ⟨po, ?_⟩)
              refine RunD.op 14 [true, false] rfl rfl rfl kr kr (OpJ.storeW T43 rfl rfl rfl rfl (by simp [Value.oneCell', Pa.c, Ly.c, Mv.c, Co.c]) up ⟨po, ?_⟩)
              refine tk 15 rfl rfl rfl (DetJ.assign rfl) ?_
              exact RunD.weak (E' := [(0, I k), (2, .slice (some ⟨b, o, none⟩) ms.length cap), (7, .pointer (some ⟨b7, 0, none⟩)), (9, .pointer (some ⟨b9, 0, none⟩)), (10, .slice ca cs.length cc), (11, I (-1)), (12, I 0), (13, I i), (14, .pointer (some ⟨b14, 0, none⟩)), (15, .pointer (some ⟨b15, 0, none⟩)), (16, I (errOf (stepM k s m)))]) (L' := [pt b14 (blk (StS (stepM k s m) x) 28), pt b15 (blk (avC (stepM k s m)).c 43), stars (StB 64 66 (stepM k s m) x), pt b7 (blk (s.c la lc pa pc) 28), pt b9 (blk (t.c l1 lc1 p1 pc1) 28), own 64 4 l1 t.layers.length lc1 (t.layers.flatMap Ly.c), own 66 7 p1 t.past.length pc1 (t.past.flatMap Pa.c), own 43 4 ca (cs).length cc ((cs).flatMap Co.c), R, R0]) (Keep.sub (kt (ks := [0, 2, 7, 9, 10, 11, 12, 13, 14, 15, 16]) rfl)) gv (RunD.done kr ⟨_, _, _, rfl, rfl⟩)
            · skip
              refine RunD.op 6 [false, false, false, false, false, false] rfl rfl rfl kr kr (OpJ.callOuts C19 rfl rfl (ac19f k s m la lc pa pc (own 64 4 la s.layers.length lc (s.layers.flatMap Ly.c)) (own 66 7 pa s.past.length pc (s.past.flatMap Pa.c)) hs (hms m (List.mem_of_getElem? hx)) own.rds own.rds R0 hR0) tks fun x _ => ⟨po, ?_⟩)
              refine tk 7 rfl rfl rfl (DetJ.move rfl) ?_
              refine tk 8 rfl rfl rfl (DetJ.extract rfl rfl) ?_
              refine tk 9 rfl rfl rfl (DetJ.extract rfl rfl) ?_
              refine tk 10 rfl rfl rfl (DetJ.extract rfl rfl) ?_
              refine RunD.op 13 [true, true, false, false] rfl rfl rfl kr kr (OpJ.storeW T28 rfl rfl StS_len rfl StS_one up ⟨po, ?_⟩)
              refine RunD.op 14 [true, false] rfl rfl rfl kr kr (OpJ.storeW T43 rfl rfl rfl rfl (by simp [Value.oneCell', Pa.c, Ly.c, Mv.c, Co.c]) up ⟨po, ?_⟩)
              refine tk 15 rfl rfl rfl (DetJ.assign rfl) ?_
              exact RunD.weak (E' := [(0, I k), (2, .slice (some ⟨b, o, none⟩) ms.length cap), (7, .pointer (some ⟨b7, 0, none⟩)), (9, .pointer (some ⟨b9, 0, none⟩)), (10, .slice ca cs.length cc), (11, I (-1)), (12, I 0), (13, I i), (14, .pointer (some ⟨b14, 0, none⟩)), (15, .pointer (some ⟨b15, 0, none⟩)), (16, I (errOf (stepM k s m)))]) (L' := [pt b14 (blk (StS (stepM k s m) x) 28), pt b15 (blk (avC (stepM k s m)).c 43), stars (StB 64 66 (stepM k s m) x), pt b7 (blk (s.c la lc pa pc) 28), pt b9 (blk (t.c l1 lc1 p1 pc1) 28), own 64 4 l1 t.layers.length lc1 (t.layers.flatMap Ly.c), own 66 7 p1 t.past.length pc1 (t.past.flatMap Pa.c), own 43 4 ca (cs).length cc ((cs).flatMap Co.c), R, R0]) (Keep.sub (kt (ks := [0, 2, 7, 9, 10, 11, 12, 13, 14, 15, 16]) rfl)) gv (RunD.done kr ⟨_, _, _, rfl, rfl⟩)
          · skip
            refine RunD.two 6 11 [false, false, false, false, false, false] [true, true, true, true, true, true] rfl rfl rfl rfl rfl rfl kr kr kr (OpJ.callOuts C19 rfl rfl (ac19f k s m la lc pa pc (own 64 4 la s.layers.length lc (s.layers.flatMap Ly.c)) (own 66 7 pa s.past.length pc (s.past.flatMap Pa.c)) hs (hms m (List.mem_of_getElem? hx)) own.rds own.rds R0 hR0) tks fun x _ => ⟨po, ?_⟩) (OpJ.alloc Z28 fun b14 => ⟨po, ?_⟩)
            · skip
              refine tk 7 rfl rfl rfl (DetJ.move rfl) ?_
              refine tk 8 rfl rfl rfl (DetJ.extract rfl rfl) ?_
              refine tk 9 rfl rfl rfl (DetJ.extract rfl rfl) ?_
              refine tk 10 rfl rfl rfl (DetJ.extract rfl rfl) ?_
              refine RunD.op 11 [true, true, true, true] rfl rfl rfl kr kr (OpJ.alloc Z28 fun b14 => ⟨po, ?_⟩)
              refine RunD.op 13 [true, true, false, false] rfl rfl rfl kr kr (OpJ.storeW T28 rfl rfl StS_len rfl StS_one up ⟨po, ?_⟩)
              refine RunD.op 14 [true, false] rfl rfl rfl kr kr (OpJ.storeW T43 rfl rfl rfl rfl (by simp [Value.oneCell', Pa.c, Ly.c, Mv.c, Co.c]) up ⟨po, ?_⟩)
              refine tk 15 rfl rfl rfl (DetJ.assign rfl) ?_
              exact RunD.weak (E' := [(0, I k), (2, .slice (some ⟨b, o, none⟩) ms.length cap), (7, .pointer (some ⟨b7, 0, none⟩)), (9, .pointer (some ⟨b9, 0, none⟩)), (10, .slice ca cs.length cc), (11, I (-1)), (12, I 0), (13, I i), (14, .pointer (some ⟨b14, 0, none⟩)), (15, .pointer (some ⟨b15, 0, none⟩)), (16, I (errOf (stepM k s m)))]) (L' := [pt b14 (blk (StS (stepM k s m) x) 28), pt b15 (blk (avC (stepM k s m)).c 43), stars (StB 64 66 (stepM k s m) x), pt b7 (blk (s.c la lc pa pc) 28), pt b9 (blk (t.c l1 lc1 p1 pc1) 28), own 64 4 l1 t.layers.length lc1 (t.layers.flatMap Ly.c), own 66 7 p1 t.past.length pc1 (t.past.flatMap Pa.c), own 43 4 ca (cs).length cc ((cs).flatMap Co.c), R, R0]) (Keep.sub (kt (ks := [0, 2, 7, 9, 10, 11, 12, 13, 14, 15, 16]) rfl)) gv (RunD.done kr ⟨_, _, _, rfl, rfl⟩)
            · skip
              refine RunD.op 6 [false, false, false, false, false, false] rfl rfl rfl kr kr (OpJ.callOuts C19 rfl rfl (ac19f k s m la lc pa pc (own 64 4 la s.layers.length lc (s.layers.flatMap Ly.c)) (own 66 7 pa s.past.length pc (s.past.flatMap Pa.c)) hs (hms m (List.mem_of_getElem? hx)) own.rds own.rds R0 hR0) tks fun x _ => ⟨po, ?_⟩)
              refine tk 7 rfl rfl rfl (DetJ.move rfl) ?_
              refine tk 8 rfl rfl rfl (DetJ.extract rfl rfl) ?_
              refine tk 9 rfl rfl rfl (DetJ.extract rfl rfl) ?_
              refine tk 10 rfl rfl rfl (DetJ.extract rfl rfl) ?_
              refine RunD.op 13 [true, true, false, false] rfl rfl rfl kr kr (OpJ.storeW T28 rfl rfl StS_len rfl StS_one up ⟨po, ?_⟩)
              refine RunD.op 14 [true, false] rfl rfl rfl kr kr (OpJ.storeW T43 rfl rfl rfl rfl (by simp [Value.oneCell', Pa.c, Ly.c, Mv.c, Co.c]) up ⟨po, ?_⟩)
              refine tk 15 rfl rfl rfl (DetJ.assign rfl) ?_
              exact RunD.weak (E' := [(0, I k), (2, .slice (some ⟨b, o, none⟩) ms.length cap), (7, .pointer (some ⟨b7, 0, none⟩)), (9, .pointer (some ⟨b9, 0, none⟩)), (10, .slice ca cs.length cc), (11, I (-1)), (12, I 0), (13, I i), (14, .pointer (some ⟨b14, 0, none⟩)), (15, .pointer (some ⟨b15, 0, none⟩)), (16, I (errOf (stepM k s m)))]) (L' := [pt b14 (blk (StS (stepM k s m) x) 28), pt b15 (blk (avC (stepM k s m)).c 43), stars (StB 64 66 (stepM k s m) x), pt b7 (blk (s.c la lc pa pc) 28), pt b9 (blk (t.c l1 lc1 p1 pc1) 28), own 64 4 l1 t.layers.length lc1 (t.layers.flatMap Ly.c), own 66 7 p1 t.past.length pc1 (t.past.flatMap Pa.c), own 43 4 ca (cs).length cc ((cs).flatMap Co.c), R, R0]) (Keep.sub (kt (ks := [0, 2, 7, 9, 10, 11, 12, 13, 14, 15, 16]) rfl)) gv (RunD.done kr ⟨_, _, _, rfl, rfl⟩)
        rintro _ _ ⟨x, b14, b15, rfl, rfl⟩
        refine Run.seq ?_
        refine sr ?_
        refine mvo rfl rfl ?_
        rcases hst : stepM k s m with e2 | ⟨t2, c2⟩
        · skip
          have hq := runL_fail hrun hx hst
          rw [hL] at hq
          cases hq
        · skip
          refine RunL.unstar (As := StB 64 66 (Except.ok (t2, c2)) x) pk ?_
          rw [show StS (Except.ok (t2, c2)) x = t2.c x.1 x.2.1 x.2.2.1 x.2.2.2 from rfl, show avC (Except.ok (t2, c2)) = c2 from rfl]
          have hxc := step_cost hL hrun hx hst
          refine RunL.op rfl rfl (OpJ.neq rfl rfl ?_)
          first | refine RunL.set (congrArg Value.bool (decide_eq_true (show errOf (Except.error _) ≠ 0 from stepM_err hst))) ?_ | skip
          refine kp [0, 2, 7, 9, 10, 11, 12, 13, 14, 15, 16, 70] rfl ?_
          refine Run.false rfl ?_
          refine Run.skip ?_
          refine Run.seq ?_
          refine Run.seq ?_
          refine regionD HM ?_
          refine RunD.ownAddr pk (flat_ne (k := 4) (fun _ => rfl) (by decide) hxc) fun bc e hcap => ?_
          subst e
          refine tk 0 rfl rfl rfl (DetJ.move rfl) ?_
          refine tk 1 rfl rfl rfl (DetJ.eql rfl rfl) ?_
          refine RunD.set (v := Bo true) (congrArg Value.bool (decide_eq_true rfl)) ?_
          refine tk 2 rfl rfl rfl (DetJ.move rfl) ?_
          refine RunD.takeG 3 rfl rfl rfl rfl rfl kr (DetJ.move rfl) .nil ?_
          refine RunD.takeG 4 rfl rfl rfl rfl rfl kr (DetJ.move rfl) .nil ?_
          refine RunD.takeG 5 rfl rfl rfl rfl rfl kr (DetJ.len S34 rfl) .nil ?_
          refine RunD.takeG 6 rfl rfl rfl rfl rfl kr (DetJ.geq rfl rfl) .nil ?_
          refine RunD.set (v := Bo false) (congrArg Value.bool (decide_eq_false (by omega))) ?_
          refine RunD.takeG 7 rfl rfl rfl rfl rfl kr (DetJ.move rfl) .nil ?_
          refine RunD.takeG 8 rfl rfl rfl rfl rfl kr (DetJ.move rfl) .nil ?_
          refine RunD.takeG 9 rfl rfl rfl rfl rfl kr (DetJ.move rfl) .nil ?_
          refine RunD.takeG 10 rfl rfl rfl rfl rfl kr (DetJ.indexAddr S34 rfl rfl (by omega)) .nil ?_
          refine RunD.takeG (Ls := [own 43 4 (some ⟨bc, 0, none⟩) cs.length cc (cs.flatMap Co.c)]) 11 rfl rfl rfl rfl rfl kr (DetJ.loadA T43 rfl .here (own.el hxc (by decide) (fun _ => rfl)) rfl) (.cons pk .nil) ?_
          refine RunD.takeG (Ls := [pt b15 (blk c2.c 43)]) 12 rfl rfl rfl rfl rfl kr (DetJ.loadW T43 rfl .here rfl) (.cons pk .nil) ?_
          refine RunD.takeG 13 rfl rfl rfl rfl rfl kr (DetJ.neqA EI43 rfl rfl (by rfl)) .nil ?_
          refine RunD.set (v := Bo false) (congrArg Value.bool (by simp)) ?_
          refine RunD.takeG 14 rfl rfl rfl rfl rfl kr (DetJ.pickF rfl rfl) .nil ?_
          refine tk 15 rfl rfl rfl (DetJ.pickT rfl rfl) ?_
          refine kd [0, 2, 7, 9, 10, 11, 12, 13, 14, 112] rfl ?_
          refine Run.false rfl ?_
          refine Run.skip ?_
          refine Run.region ?_
          first | refine RunL.op rfl rfl (OpJ.loadW T28 rfl pk (by rfl) ?_) | refine RunL.op rfl rfl (OpJ.loadP T28 rfl pk (by simp) ?_) | refine RunL.op rfl rfl (OpJ.loadE T28 rfl pk (by assumption) (by exact fun _ => rfl) rfl (by decide) ?_)
          refine RunL.op rfl rfl (OpJ.storeW T28 rfl rfl rfl rfl (by simp [Value.oneCell', Pa.c, Ly.c, Mv.c, Co.c]) up ?_)
          refine kp [0, 2, 7, 9, 10, 11, 12, 13] rfl ?_
          refine Run.region ?_
          refine mvo rfl rfl ?_
          first | refine RunL.op rfl rfl (OpJ.addI rfl rfl (by omega) ?_) | refine RunL.op rfl rfl (OpJ.add rfl rfl ?_)
          refine asg rfl rfl ?_
          exact RunL.next (Keep.sub (kt (ks := [0, 2, 7, 9, 10, 11, 12, 13]) rfl)) _ ⟨_, by omega, i + 1, t2, ds ++ [c2], x.1, x.2.1, x.2.2.1, x.2.2.2, rfl, by omega, runL_snoc hrun hx hst, rfl, rfl⟩ gv
      · skip
        refine Run.exit ?_
        refine sr ?_
        have hq := (runL_all (by omega)).trans hrun
        rw [hL] at hq
        obtain ⟨rfl, rfl⟩ : t = s ∧ cs = ds := by simpa using hq
        refine mvo rfl rfl ?_
        refine RunL.op rfl rfl (OpJ.eql rfl rfl ?_)
        refine RunL.set (v := Bo true) (congrArg Value.bool (decide_eq_true rfl)) ?_
        refine mvo rfl rfl ?_
        refine RunL.yes rfl rfl rfl rfl (OpJ.move rfl ?_)
        refine RunL.yes rfl rfl rfl rfl (OpJ.eql rfl rfl ?_)
        refine RunL.set (v := Bo true) (congrArg Value.bool (decide_eq_true rfl)) ?_
        refine RunL.op rfl rfl (OpJ.pickT rfl rfl ?_)
        refine mvo rfl rfl ?_
        refine RunL.yes rfl rfl rfl rfl (OpJ.move rfl ?_)
        refine RunL.yes rfl rfl rfl rfl (OpJ.len S34 rfl ?_)
        refine RunL.yes rfl rfl rfl rfl (OpJ.move rfl ?_)
        refine RunL.yes rfl rfl rfl rfl (OpJ.len S22 rfl ?_)
        refine RunL.yes rfl rfl rfl rfl (OpJ.eql rfl rfl ?_)
        refine RunL.set (v := Bo true) (congrArg Value.bool (decide_eq_true (by omega))) ?_
        refine RunL.op rfl rfl (OpJ.pickT rfl rfl ?_)
        refine mvo rfl rfl ?_
        first | refine RunL.yes rfl rfl rfl rfl (OpJ.loadW T28 rfl pk (by rfl) ?_) | refine RunL.yes rfl rfl rfl rfl (OpJ.loadP T28 rfl pk (by simp) ?_) | refine RunL.yes rfl rfl rfl rfl (OpJ.loadE T28 rfl pk (by assumption) (by exact fun _ => rfl) rfl (by decide) ?_)
        first | refine RunL.yes rfl rfl rfl rfl (OpJ.loadW T28 rfl pk (by rfl) ?_) | refine RunL.yes rfl rfl rfl rfl (OpJ.loadP T28 rfl pk (by simp) ?_) | refine RunL.yes rfl rfl rfl rfl (OpJ.loadE T28 rfl pk (by assumption) (by exact fun _ => rfl) rfl (by decide) ?_)
        refine RunL.callG C17 rfl rfl rfl rfl rfl (ac17 t la lc pa pc l1 lc1 p1 pc1 (own 64 4 la t.layers.length lc (t.layers.flatMap Ly.c)) (own 66 7 pa t.past.length pc (t.past.flatMap Pa.c)) (own 64 4 l1 t.layers.length lc1 (t.layers.flatMap Ly.c)) (own 66 7 p1 t.past.length pc1 (t.past.flatMap Pa.c)) own.rds own.rds own.rds own.rds (by have := hs.nl; have := hs.np; omega)) tks ?_
        refine RunL.op rfl rfl (OpJ.pickT rfl rfl ?_)
        refine mvo rfl rfl ?_
        refine RunL.callG C12 rfl rfl rfl rfl rfl (ac12 R0 hR0) tks ?_
        refine RunL.op rfl rfl (OpJ.pickT rfl rfl ?_)
        refine asg rfl rfl ?_
        refine kp [6] rfl ?_
        refine Run.ret ?_
        exact ret_one (.tmp rfl .nil) (rfl) gv
end Go.Proofs.YtdcchollplhioaaGreatDoor
namespace Go.Proofs.YtdcchollplhioaaGreatDoor
open Go Go.SL Go.ChangeShapes Go.WideShapes Go.ChangeAt Go.RowKit
theorem lifted4 (os : Os) (started : os.Started) (H : Type) (enc : TypeId × Value → H) :
    ReturnsInHanded {} Tryz.checked os 4 .any (fun w args => (Rows.costingStepsSpec.pre enc Tryz.prog Tryz.f4 [] false w args ∧ laidMetH Tryz.prog laid1 w) ∧ sizedMet enc Tryz.prog Tryz.f4 (OpenSpec.ofChange Rows.costingStepsSpec) false w args)
      (Rows.costingStepsSpec.post enc Tryz.prog Tryz.f4 false true false false) := by
  refine returnsInHanded_of_change_and (C := Tryz.checked) (X := fun w _ => laidMetH Tryz.prog laid1 w) (fun _ _ _ hh h => h.of_heap hh) knob0 started (by kernel_rfl) Tryz.func4
    (ChangeSpec.witness_shaped (enc := enc) (C := Tryz.checked) (os := os) (X := fun w _ => laidMetH Tryz.prog laid1 w) false (World.doorLaid Tryz.prog 400 os) #[.int .i64 0, .int .i64 0, .slice none 0 0] 8 rfl (World.shaped_of_RefB (by kernel_rfl) (by kernel_rfl)) (by kernel_rfl) (by kernel_rfl) (by kernel_rfl) (door_met os _)) ?_
  intro W base args ds gs before hval0 hW _ _ hL _
  have hval : ∀ (j : Nat) t v, Tryz.f4.params[j]? = some t → args[j]? = some v → Value.okWide Tryz.prog W .any base t v := hval0
  have hW' := hW
  obtain ⟨p, q, hA0, hV, rfl, hfz, hnd⟩ := hW
  have hA : DataW.TrodAll enc Tryz.prog W 0 (fun _ => true) true Tryz.f4.params.toList args.toList ds p := hA0
  rw [Tryz.params4] at hA hval
  obtain ⟨v0, vs0, d0, ds0, p0, q0, hargs, rfl, rfl, h0, r0⟩ := trodAll_cons hA
  obtain ⟨v1, vs1, d1, ds1, p1, q1, rfl, rfl, rfl, h1, r1⟩ := trodAll_cons r0
  obtain ⟨v2, vs2, d2, ds2, p2, q2, rfl, rfl, rfl, h2, r2⟩ := trodAll_cons r1
  obtain ⟨rfl, rfl, rfl⟩ := trodAll_nil r2
  obtain rfl : args = #[v0, v1, v2] := by cases args; simp_all
  obtain ⟨rfl, rfl⟩ := trodVars_none hV
  obtain ⟨a0, rfl, rfl, rfl, w0⟩ := open_int Tryz.underlying3 (hval 0 3 v0 rfl rfl) h0
  obtain ⟨a1, rfl, rfl, rfl, w1⟩ := open_int Tryz.underlying3 (hval 1 3 v1 rfl rfl) h1
  obtain ⟨a2, len2, cap2, rfl⟩ := okWide_slice Tryz.underlying22 (hval 2 22 v2 rfl rfl)
  have k2 := h2
  have lt2 : ∀ x ∈ p2, x.block < W.heap.size := by obtain ⟨m, hm⟩ := k2; exact DataW.trod_lt m _ _ _ hm
  obtain ⟨fuel, hf⟩ := h2
  clear hA0 hval0
  refine (law_calls (fun k p R oa cap ms hR hlen hms hcap R0 hR0 => ac4 k p R oa cap ms hR hlen hms R0 hR0) a0 a1 hf hL).mono fun e W' ⟨he, bel⟩ => ?_
  subst he
  exact ⟨_, rfl, _, _, _, [], _, [], hW', trodAll_mk1 (shut_bool Tryz.underlying4 _), trodAll_cons_mk (shut_int Tryz.underlying3 w0) (trodAll_cons_mk (shut_int Tryz.underlying3 w1) (trodAll_cons_mk (Below.trod laidOut (by kernel_rfl) (of_decide_eq_true (by kernel_rfl)) k2 bel lt2) trodAll_mk0)), rfl, bel.frame _, fun h => by cases h⟩
theorem costingSteps_holds : Rows.CostingStepsSaid :=
  OpenClaim.holds_of_wide 4 Tryz.f4 rfl rfl rfl rfl rfl rfl rfl ⟨rfl, rfl, rfl, rfl, rfl⟩ rfl rfl rfl rfl rfl (by kernel_rfl) Tryz.func4 (by kernel_rfl)
    (of_decide_eq_true (by kernel_rfl)) (by unfold Func.isWrapper; first | (rw [if_pos (by decide +kernel)]; kernel_rfl) | (rw [if_neg (by decide +kernel)]; exact ⟨rfl, rfl⟩))
    (fun os started H enc _ => lifted4 os started H enc)
theorem costingSteps_card_holds : Rows.CostingStepsCardSaid :=
  Claim7.holds_tied_plain_at .later [] [.data] true (true, "e30d4fb2c9949e9fc9658ae88c069cb4f236adc20831330984f2657d2ec26bc7") false
    costingSteps_holds (fun _ h => by cases h) (by kernel_rfl) (fun _ h => by cases h) costingSteps_row_tie rfl ⟨rfl, rfl⟩ (by kernel_rfl) rfl
    (fun f fn hf hfn => by
      obtain rfl : f = 4 := Option.some.inj ((show Tryz.prog.funcNamed "accounting/accountinglaw38.CostingSteps" = some 4 by kernel_rfl).symm.trans hf) |>.symm
      obtain rfl : fn = Tryz.f4 := (Option.some.inj (Tryz.func4.symm.trans hfn)).symm
      exact ⟨by kernel_rfl, fun j t ht => by
        rw [Tryz.params4] at ht
        have hm : t ∈ [3, 3, 22] := by simpa using Array.mem_of_getElem? ht
        have hall : ([3, 3, 22].all fun u => !Tryz.prog.wantsStandIn u) = true := by kernel_rfl
        exact (show Tryz.prog.wantsStandIn t = false by simpa using List.all_eq_true.1 hall t hm)⟩)
    (by kernel_rfl)
#print axioms costingSteps_card_holds
end Go.Proofs.YtdcchollplhioaaGreatDoor
