/- Laws of the walks and of the models, part 1. Merged by program out of: WA WB WC WD WE Div WF Md WG Cal WH Wo WI Fif WJ WK WL. -/
import Derived.Test.YtdcchollplhioaaGreatDoorQ0
import Derived.Test.YtdcchollplhioaaGreatDoorProg
set_option linter.unusedVariables false
set_option linter.unusedSimpArgs false
set_option maxRecDepth 20000
namespace Go.Proofs.YtdcchollplhioaaGreatDoor
open Go Go.SL Go.Proofs
theorem C108 : CI Tryz.prog 108 := .of (by kernel_rfl)
theorem C109 : CI Tryz.prog 109 := .of (by kernel_rfl)
theorem C112 : CI Tryz.prog 112 := .of (by kernel_rfl)
theorem C60 : CI Tryz.prog 60 := .of (by kernel_rfl)
theorem F47_3 : FI Tryz.prog 47 3 3 3 := .of (by kernel_rfl)
theorem F47_4 : FI Tryz.prog 47 4 3 4 := .of (by kernel_rfl)
theorem F47_5 : FI Tryz.prog 47 5 3 5 := .of (by kernel_rfl)
theorem T3 : TI Tryz.prog 3 false 1 := .of (by kernel_rfl)
-- moves.in
theorem ac60 (n lo hi : Int) : AC Tryz.prog 60 ⟨[I n, I lo, I hi]⟩ (stars []) (Ret (.bool (inB n lo hi)) []) := by
  refine AC.go Tryz.func60 rfl (Nat.le_of_ble_eq_true rfl) fun β => ?_
  refine sr ?_
  refine asg rfl rfl ?_
  refine kp [0, 1, 2] rfl ?_
  refine sr ?_
  refine mvo rfl rfl ?_
  refine mvo rfl rfl ?_
  refine RunL.op rfl rfl (OpJ.geq rfl rfl ?_)
  refine mvo rfl rfl ?_
  first | refine RunL.splitP (t := 10) rfl (fun g1 => ?_) (fun g1 => ?_) | refine RunL.split (t := 10) rfl (fun g1 => ?_) (fun g1 => ?_)
  · skip
    refine RunL.yes rfl rfl rfl rfl (OpJ.move rfl ?_)
    refine RunL.yes rfl rfl rfl rfl (OpJ.move rfl ?_)
    refine RunL.yes rfl rfl rfl rfl (OpJ.leq rfl rfl ?_)
    refine RunL.op rfl rfl (OpJ.pickT rfl rfl ?_)
    refine asg rfl rfl ?_
    refine kp [6] rfl ?_
    refine Run.ret ?_
    exact ret_one (.tmp rfl .nil) (by first | (simp [tup, inB, *]; done) | (exfalso; omega)) .nil
  · skip
    refine RunL.no rfl rfl rfl rfl ?_
    refine RunL.no rfl rfl rfl rfl ?_
    refine RunL.no rfl rfl rfl rfl ?_
    refine RunL.op rfl rfl (OpJ.pickF rfl rfl ?_)
    refine asg rfl rfl ?_
    refine kp [6] rfl ?_
    refine Run.ret ?_
    exact ret_one (.tmp rfl .nil) (by first | (simp [tup, inB, *]; done) | (exfalso; omega)) .nil
-- moves.quantity
theorem ac61 (m : Mv) : AC Tryz.prog 61 ⟨[.agg ⟨m.c⟩]⟩ (stars []) (Ret (.bool m.quantityOk) []) := by
  refine AC.go Tryz.func61 rfl (Nat.le_of_ble_eq_true rfl) fun β => ?_
  refine sr ?_
  refine RunL.op rfl rfl (OpJ.boxA rfl fun b1 => ?_)
  refine asg rfl rfl ?_
  refine kp [1] rfl ?_
  refine Run.seq ?_
  refine sr ?_
  refine RunL.op rfl rfl (OpJ.fieldAddr F47_3 rfl ?_)
  first | refine RunL.op rfl rfl (OpJ.loadF T3 rfl pk (by rfl) ?_) | refine RunL.op rfl rfl (OpJ.loadO T3 rfl pk (by assumption) (by rfl) (by exact fun _ => rfl) ?_)
  refine RunL.op rfl rfl (OpJ.eql rfl rfl ?_)
  refine mvo rfl rfl ?_
  first | refine RunL.splitP (t := 6) rfl (fun g1 => ?_) (fun g1 => ?_) | refine RunL.split (t := 6) rfl (fun g1 => ?_) (fun g1 => ?_)
  · skip
    refine RunL.no rfl rfl rfl rfl ?_
    refine RunL.no rfl rfl rfl rfl ?_
    refine RunL.no rfl rfl rfl rfl ?_
    refine RunL.op rfl rfl (OpJ.pickT rfl rfl ?_)
    refine kp [1, 10] rfl ?_
    refine Run.true rfl ?_
    refine sr ?_
    refine RunL.op rfl rfl (OpJ.fieldAddr F47_4 rfl ?_)
    first | refine RunL.op rfl rfl (OpJ.loadF T3 rfl pk (by rfl) ?_) | refine RunL.op rfl rfl (OpJ.loadO T3 rfl pk (by assumption) (by rfl) (by exact fun _ => rfl) ?_)
    refine RunL.op rfl rfl (OpJ.eql rfl rfl ?_)
    refine asg rfl rfl ?_
    refine kp [2] rfl ?_
    refine Run.ret ?_
    exact ret_one (.tmp rfl .nil) (by first | (simp [tup, Mv.quantityOk, *]; done) | (exfalso; omega)) .nil
  · skip
    refine RunL.yes rfl rfl rfl rfl (OpJ.fieldAddr F47_3 rfl ?_)
    first | refine RunL.yes rfl rfl rfl rfl (OpJ.loadF T3 rfl pk (by rfl) ?_) | refine RunL.yes rfl rfl rfl rfl (OpJ.loadO T3 rfl pk (by assumption) (by rfl) (by exact fun _ => rfl) ?_)
    refine RunL.yes rfl rfl rfl rfl (OpJ.eql rfl rfl ?_)
    refine RunL.op rfl rfl (OpJ.pickF rfl rfl ?_)
    refine kp [1, 10] rfl ?_
    first | refine Run.if rfl (fun h2 => ?_) (fun h2 => ?_) | refine Run.cond rfl (fun h2 => ?_) (fun h2 => ?_)
    · skip
      refine sr ?_
      refine RunL.op rfl rfl (OpJ.fieldAddr F47_4 rfl ?_)
      first | refine RunL.op rfl rfl (OpJ.loadF T3 rfl pk (by rfl) ?_) | refine RunL.op rfl rfl (OpJ.loadO T3 rfl pk (by assumption) (by rfl) (by exact fun _ => rfl) ?_)
      refine RunL.op rfl rfl (OpJ.eql rfl rfl ?_)
      refine asg rfl rfl ?_
      refine kp [2] rfl ?_
      refine Run.ret ?_
      exact ret_one (.tmp rfl .nil) (by first | (simp [tup, Mv.quantityOk, *]; done) | (exfalso; omega)) .nil
    · skip
      refine Run.skip ?_
      refine sr ?_
      refine RunL.op rfl rfl (OpJ.fieldAddr F47_4 rfl ?_)
      first | refine RunL.op rfl rfl (OpJ.loadF T3 rfl pk (by rfl) ?_) | refine RunL.op rfl rfl (OpJ.loadO T3 rfl pk (by assumption) (by rfl) (by exact fun _ => rfl) ?_)
      refine RunL.call C60 rfl rfl rfl (ac60 _ _ _) .nil ?_
      refine asg rfl rfl ?_
      refine kp [2] rfl ?_
      refine Run.ret ?_
      exact ret_one (.tmp rfl .nil) (by first | (simp [tup, Mv.quantityOk, *]; done) | (exfalso; omega)) .nil
-- moves.cost
theorem ac62 (m : Mv) : AC Tryz.prog 62 ⟨[.agg ⟨m.c⟩]⟩ (stars []) (Ret (.bool m.costOk) []) := by
  refine AC.go Tryz.func62 rfl (Nat.le_of_ble_eq_true rfl) fun β => ?_
  refine sr ?_
  refine RunL.op rfl rfl (OpJ.boxA rfl fun b1 => ?_)
  refine asg rfl rfl ?_
  refine kp [1] rfl ?_
  refine Run.seq ?_
  refine sr ?_
  refine RunL.op rfl rfl (OpJ.fieldAddr F47_3 rfl ?_)
  first | refine RunL.op rfl rfl (OpJ.loadF T3 rfl pk (by rfl) ?_) | refine RunL.op rfl rfl (OpJ.loadO T3 rfl pk (by assumption) (by rfl) (by exact fun _ => rfl) ?_)
  refine kp [1, 4] rfl ?_
  refine Run.block ?_
  refine Run.seq ?_
  refine sr ?_
  refine RunL.op rfl rfl (OpJ.eql rfl rfl ?_)
  refine asg rfl rfl ?_
  refine kp [1, 4, 5] rfl ?_
  first | refine Run.if rfl (fun h1 => ?_) (fun h1 => ?_) | refine Run.cond rfl (fun h1 => ?_) (fun h1 => ?_)
  · skip
    refine Run.skip ?_
    first | refine Run.if rfl (fun h2 => ?_) (fun h2 => ?_) | refine Run.cond rfl (fun h2 => ?_) (fun h2 => ?_)
    · skip
      refine sr ?_
      refine RunL.op rfl rfl (OpJ.fieldAddr F47_5 rfl ?_)
      first | refine RunL.op rfl rfl (OpJ.loadF T3 rfl pk (by rfl) ?_) | refine RunL.op rfl rfl (OpJ.loadO T3 rfl pk (by assumption) (by rfl) (by exact fun _ => rfl) ?_)
      refine RunL.op rfl rfl (OpJ.eql rfl rfl ?_)
      refine asg rfl rfl ?_
      refine kp [2] rfl ?_
      refine Run.ret ?_
      exact ret_one (.tmp rfl .nil) (by first | (simp [tup, Mv.costOk, *]; done) | (exfalso; omega)) .nil
    · skip
      refine sr ?_
      refine RunL.op rfl rfl (OpJ.eql rfl rfl ?_)
      refine asg rfl rfl ?_
      refine kp [1, 11] rfl ?_
      first | refine Run.if rfl (fun h3 => ?_) (fun h3 => ?_) | refine Run.cond rfl (fun h3 => ?_) (fun h3 => ?_)
      · skip
        refine sr ?_
        refine RunL.op rfl rfl (OpJ.fieldAddr F47_5 rfl ?_)
        first | refine RunL.op rfl rfl (OpJ.loadF T3 rfl pk (by rfl) ?_) | refine RunL.op rfl rfl (OpJ.loadO T3 rfl pk (by assumption) (by rfl) (by exact fun _ => rfl) ?_)
        refine RunL.call C60 rfl rfl rfl (ac60 _ _ _) .nil ?_
        refine asg rfl rfl ?_
        refine kp [2] rfl ?_
        refine Run.ret ?_
        exact ret_one (.tmp rfl .nil) (by first | (simp [tup, Mv.costOk, *]; done) | (exfalso; omega)) .nil
      · skip
        refine Run.skip ?_
        refine sr ?_
        refine RunL.op rfl rfl (OpJ.fieldAddr F47_5 rfl ?_)
        first | refine RunL.op rfl rfl (OpJ.loadF T3 rfl pk (by rfl) ?_) | refine RunL.op rfl rfl (OpJ.loadO T3 rfl pk (by assumption) (by rfl) (by exact fun _ => rfl) ?_)
        refine RunL.call C60 rfl rfl rfl (ac60 _ _ _) .nil ?_
        refine asg rfl rfl ?_
        refine kp [2] rfl ?_
        refine Run.ret ?_
        exact ret_one (.tmp rfl .nil) (by first | (simp [tup, Mv.costOk, *]; done) | (exfalso; omega)) .nil
  · skip
    refine Run.region ?_
    refine RunL.op rfl rfl (OpJ.eql rfl rfl ?_)
    refine asg rfl rfl ?_
    refine kp [1, 4, 5] rfl ?_
    first | refine Run.if rfl (fun h4 => ?_) (fun h4 => ?_) | refine Run.cond rfl (fun h4 => ?_) (fun h4 => ?_)
    · skip
      refine sr ?_
      refine RunL.op rfl rfl (OpJ.fieldAddr F47_5 rfl ?_)
      first | refine RunL.op rfl rfl (OpJ.loadF T3 rfl pk (by rfl) ?_) | refine RunL.op rfl rfl (OpJ.loadO T3 rfl pk (by assumption) (by rfl) (by exact fun _ => rfl) ?_)
      refine RunL.op rfl rfl (OpJ.eql rfl rfl ?_)
      refine asg rfl rfl ?_
      refine kp [2] rfl ?_
      refine Run.ret ?_
      exact ret_one (.tmp rfl .nil) (by first | (simp [tup, Mv.costOk, *]; done) | (exfalso; omega)) .nil
    · skip
      refine sr ?_
      refine RunL.op rfl rfl (OpJ.eql rfl rfl ?_)
      refine asg rfl rfl ?_
      refine kp [1, 11] rfl ?_
      first | refine Run.if rfl (fun h5 => ?_) (fun h5 => ?_) | refine Run.cond rfl (fun h5 => ?_) (fun h5 => ?_)
      · skip
        refine sr ?_
        refine RunL.op rfl rfl (OpJ.fieldAddr F47_5 rfl ?_)
        first | refine RunL.op rfl rfl (OpJ.loadF T3 rfl pk (by rfl) ?_) | refine RunL.op rfl rfl (OpJ.loadO T3 rfl pk (by assumption) (by rfl) (by exact fun _ => rfl) ?_)
        refine RunL.call C60 rfl rfl rfl (ac60 _ _ _) .nil ?_
        refine asg rfl rfl ?_
        refine kp [2] rfl ?_
        refine Run.ret ?_
        exact ret_one (.tmp rfl .nil) (by first | (simp [tup, Mv.costOk, *]; done) | (exfalso; omega)) .nil
      · skip
        refine Run.skip ?_
        refine sr ?_
        refine RunL.op rfl rfl (OpJ.fieldAddr F47_5 rfl ?_)
        first | refine RunL.op rfl rfl (OpJ.loadF T3 rfl pk (by rfl) ?_) | refine RunL.op rfl rfl (OpJ.loadO T3 rfl pk (by assumption) (by rfl) (by exact fun _ => rfl) ?_)
        refine RunL.call C60 rfl rfl rfl (ac60 _ _ _) .nil ?_
        refine asg rfl rfl ?_
        refine kp [2] rfl ?_
        refine Run.ret ?_
        exact ret_one (.tmp rfl .nil) (by first | (simp [tup, Mv.costOk, *]; done) | (exfalso; omega)) .nil
-- moves.refers
theorem ac64 (k : Int) : AC Tryz.prog 64 ⟨[I k]⟩ (stars []) (Ret (.bool (refersB k)) []) := by
  refine AC.go Tryz.func64 rfl (Nat.le_of_ble_eq_true rfl) fun β => ?_
  refine sr ?_
  refine asg rfl rfl ?_
  refine kp [0] rfl ?_
  refine sr ?_
  refine mvo rfl rfl ?_
  refine RunL.op rfl rfl (OpJ.eql rfl rfl ?_)
  refine mvo rfl rfl ?_
  first | refine RunL.splitP (t := 5) rfl (fun g1 => ?_) (fun g1 => ?_) | refine RunL.split (t := 5) rfl (fun g1 => ?_) (fun g1 => ?_)
  · skip
    refine RunL.no rfl rfl rfl rfl ?_
    refine RunL.no rfl rfl rfl rfl ?_
    refine RunL.op rfl rfl (OpJ.pickT rfl rfl ?_)
    refine mvo rfl rfl ?_
    refine RunL.no rfl rfl rfl rfl ?_
    refine RunL.no rfl rfl rfl rfl ?_
    refine RunL.op rfl rfl (OpJ.pickT rfl rfl ?_)
    refine asg rfl rfl ?_
    refine kp [2] rfl ?_
    refine Run.ret ?_
    exact ret_one (.tmp rfl .nil) (by first | (simp [tup, refersB, *]; done) | (exfalso; omega)) .nil
  · skip
    refine RunL.yes rfl rfl rfl rfl (OpJ.move rfl ?_)
    refine RunL.yes rfl rfl rfl rfl (OpJ.eql rfl rfl ?_)
    refine RunL.op rfl rfl (OpJ.pickF rfl rfl ?_)
    refine mvo rfl rfl ?_
    first | refine RunL.splitP (t := 9) rfl (fun g2 => ?_) (fun g2 => ?_) | refine RunL.split (t := 9) rfl (fun g2 => ?_) (fun g2 => ?_)
    · skip
      refine RunL.no rfl rfl rfl rfl ?_
      refine RunL.no rfl rfl rfl rfl ?_
      refine RunL.op rfl rfl (OpJ.pickT rfl rfl ?_)
      refine asg rfl rfl ?_
      refine kp [2] rfl ?_
      refine Run.ret ?_
      exact ret_one (.tmp rfl .nil) (by first | (simp [tup, refersB, *]; done) | (exfalso; omega)) .nil
    · skip
      refine RunL.yes rfl rfl rfl rfl (OpJ.move rfl ?_)
      refine RunL.yes rfl rfl rfl rfl (OpJ.eql rfl rfl ?_)
      refine RunL.op rfl rfl (OpJ.pickF rfl rfl ?_)
      refine asg rfl rfl ?_
      refine kp [2] rfl ?_
      refine Run.ret ?_
      exact ret_one (.tmp rfl .nil) (by first | (simp [tup, refersB, *]; done) | (exfalso; omega)) .nil
-- num.Near
theorem ac112 (n lo hi : Int) : AC Tryz.prog 112 ⟨[I n, I lo, I hi]⟩ (stars []) (Ret (I (near n lo hi)) []) := by
  refine AC.go Tryz.func112 rfl (Nat.le_of_ble_eq_true rfl) fun β => ?_
  refine sr ?_
  refine asg rfl rfl ?_
  refine kp [0, 1, 2] rfl ?_
  refine Run.seq ?_
  refine Run.block ?_
  refine sr ?_
  refine mvo rfl rfl ?_
  refine mvo rfl rfl ?_
  refine RunL.op rfl rfl (OpJ.lss rfl rfl ?_)
  refine asg rfl rfl ?_
  refine kp [0, 1, 2, 7] rfl ?_
  first | refine Run.if rfl (fun h1 => ?_) (fun h1 => ?_) | refine Run.cond rfl (fun h1 => ?_) (fun h1 => ?_)
  · skip
    refine sr ?_
    refine mvo rfl rfl ?_
    refine asg rfl rfl ?_
    refine kp [6] rfl ?_
    refine Run.ret ?_
    exact ret_one (.tmp rfl .nil) (by first | (simp [tup, near, *]; done) | (exfalso; omega)) .nil
  · skip
    refine sr ?_
    refine mvo rfl rfl ?_
    refine mvo rfl rfl ?_
    refine RunL.op rfl rfl (OpJ.gtr rfl rfl ?_)
    refine asg rfl rfl ?_
    refine kp [0, 2, 12] rfl ?_
    first | refine Run.if rfl (fun h2 => ?_) (fun h2 => ?_) | refine Run.cond rfl (fun h2 => ?_) (fun h2 => ?_)
    · skip
      refine sr ?_
      refine mvo rfl rfl ?_
      refine asg rfl rfl ?_
      refine kp [6] rfl ?_
      refine Run.ret ?_
      exact ret_one (.tmp rfl .nil) (by first | (simp [tup, near, *]; done) | (exfalso; omega)) .nil
    · skip
      refine Run.skip ?_
      refine sr ?_
      refine mvo rfl rfl ?_
      refine asg rfl rfl ?_
      refine kp [6] rfl ?_
      refine Run.ret ?_
      exact ret_one (.tmp rfl .nil) (by first | (simp [tup, near, *]; done) | (exfalso; omega)) .nil
-- fifo.far
theorem ac70 (n : Int) : AC Tryz.prog 70 ⟨[I n]⟩ (stars []) (Ret (.bool (farB n)) []) := by
  refine AC.go Tryz.func70 rfl (Nat.le_of_ble_eq_true rfl) fun β => ?_
  refine sr ?_
  refine asg rfl rfl ?_
  refine kp [0] rfl ?_
  refine sr ?_
  refine mvo rfl rfl ?_
  refine RunL.call C112 rfl rfl rfl (ac112 _ _ _) .nil ?_
  refine mvo rfl rfl ?_
  refine RunL.op rfl rfl (OpJ.neq rfl rfl ?_)
  refine asg rfl rfl ?_
  refine kp [2] rfl ?_
  refine Run.ret ?_
  exact ret_one (.tmp rfl .nil) (by first | (simp [tup, farB, *]; done) | (exfalso; omega)) .nil
-- lots.far
theorem ac90 (n : Int) : AC Tryz.prog 90 ⟨[I n]⟩ (stars []) (Ret (.bool (farB n)) []) := by
  refine AC.go Tryz.func90 rfl (Nat.le_of_ble_eq_true rfl) fun β => ?_
  refine sr ?_
  refine asg rfl rfl ?_
  refine kp [0] rfl ?_
  refine sr ?_
  refine mvo rfl rfl ?_
  refine RunL.call C112 rfl rfl rfl (ac112 _ _ _) .nil ?_
  refine mvo rfl rfl ?_
  refine RunL.op rfl rfl (OpJ.neq rfl rfl ?_)
  refine asg rfl rfl ?_
  refine kp [2] rfl ?_
  refine Run.ret ?_
  exact ret_one (.tmp rfl .nil) (by first | (simp [tup, farB, *]; done) | (exfalso; omega)) .nil
-- average.large
theorem ac43 (n : Int) : AC Tryz.prog 43 ⟨[I n]⟩ (stars []) (Ret (.bool (largeB n)) []) := by
  refine AC.go Tryz.func43 rfl (Nat.le_of_ble_eq_true rfl) fun β => ?_
  refine sr ?_
  refine asg rfl rfl ?_
  refine kp [0] rfl ?_
  refine sr ?_
  refine mvo rfl rfl ?_
  refine RunL.op rfl rfl (OpJ.gtr rfl rfl ?_)
  refine mvo rfl rfl ?_
  first | refine RunL.splitP (t := 5) rfl (fun g1 => ?_) (fun g1 => ?_) | refine RunL.split (t := 5) rfl (fun g1 => ?_) (fun g1 => ?_)
  · skip
    refine RunL.no rfl rfl rfl rfl ?_
    refine RunL.no rfl rfl rfl rfl ?_
    refine RunL.op rfl rfl (OpJ.pickT rfl rfl ?_)
    refine asg rfl rfl ?_
    refine kp [2] rfl ?_
    refine Run.ret ?_
    exact ret_one (.tmp rfl .nil) (by first | (simp [tup, largeB, *]; done) | (exfalso; omega)) .nil
  · skip
    refine RunL.yes rfl rfl rfl rfl (OpJ.move rfl ?_)
    refine RunL.yes rfl rfl rfl rfl (OpJ.lss rfl rfl ?_)
    refine RunL.op rfl rfl (OpJ.pickF rfl rfl ?_)
    refine asg rfl rfl ?_
    refine kp [2] rfl ?_
    refine Run.ret ?_
    exact ret_one (.tmp rfl .nil) (by first | (simp [tup, largeB, *]; done) | (exfalso; omega)) .nil
-- standard.within
theorem ac48 (n : Int) : AC Tryz.prog 48 ⟨[I n]⟩ (stars []) (Ret (.bool (withinB n)) []) := by
  refine AC.go Tryz.func48 rfl (Nat.le_of_ble_eq_true rfl) fun β => ?_
  refine sr ?_
  refine asg rfl rfl ?_
  refine kp [0] rfl ?_
  refine sr ?_
  refine mvo rfl rfl ?_
  refine RunL.op rfl rfl (OpJ.geq rfl rfl ?_)
  refine mvo rfl rfl ?_
  first | refine RunL.splitP (t := 5) rfl (fun g1 => ?_) (fun g1 => ?_) | refine RunL.split (t := 5) rfl (fun g1 => ?_) (fun g1 => ?_)
  · skip
    refine RunL.yes rfl rfl rfl rfl (OpJ.move rfl ?_)
    refine RunL.yes rfl rfl rfl rfl (OpJ.leq rfl rfl ?_)
    refine RunL.op rfl rfl (OpJ.pickT rfl rfl ?_)
    refine asg rfl rfl ?_
    refine kp [2] rfl ?_
    refine Run.ret ?_
    exact ret_one (.tmp rfl .nil) (by first | (simp [tup, withinB, *]; done) | (exfalso; omega)) .nil
  · skip
    refine RunL.no rfl rfl rfl rfl ?_
    refine RunL.no rfl rfl rfl rfl ?_
    refine RunL.op rfl rfl (OpJ.pickF rfl rfl ?_)
    refine asg rfl rfl ?_
    refine kp [2] rfl ?_
    refine Run.ret ?_
    exact ret_one (.tmp rfl .nil) (by first | (simp [tup, withinB, *]; done) | (exfalso; omega)) .nil
-- words.letter
theorem ac108 (c : Int) : AC Tryz.prog 108 ⟨[.int .u8 c]⟩ (stars []) (Ret (.bool (letterB c)) []) := by
  refine AC.go Tryz.func108 rfl (Nat.le_of_ble_eq_true rfl) fun β => ?_
  refine sr ?_
  refine asg rfl rfl ?_
  refine kp [0] rfl ?_
  refine sr ?_
  refine mvo rfl rfl ?_
  refine RunL.op rfl rfl (OpJ.geq rfl rfl ?_)
  refine mvo rfl rfl ?_
  first | refine RunL.splitP (t := 5) rfl (fun g1 => ?_) (fun g1 => ?_) | refine RunL.split (t := 5) rfl (fun g1 => ?_) (fun g1 => ?_)
  · skip
    refine RunL.yes rfl rfl rfl rfl (OpJ.move rfl ?_)
    refine RunL.yes rfl rfl rfl rfl (OpJ.leq rfl rfl ?_)
    refine RunL.op rfl rfl (OpJ.pickT rfl rfl ?_)
    refine mvo rfl rfl ?_
    first | refine RunL.splitP (t := 9) rfl (fun g2 => ?_) (fun g2 => ?_) | refine RunL.split (t := 9) rfl (fun g2 => ?_) (fun g2 => ?_)
    · skip
      refine RunL.no rfl rfl rfl rfl ?_
      refine RunL.no rfl rfl rfl rfl ?_
      refine RunL.no rfl rfl rfl rfl ?_
      refine RunL.undef rfl rfl rfl rfl ?_
      refine RunL.undef rfl rfl rfl rfl ?_
      refine RunL.no rfl rfl rfl rfl ?_
      refine RunL.op rfl rfl (OpJ.pickT rfl rfl ?_)
      refine mvo rfl rfl ?_
      refine RunL.no rfl rfl rfl rfl ?_
      refine RunL.no rfl rfl rfl rfl ?_
      refine RunL.op rfl rfl (OpJ.pickT rfl rfl ?_)
      refine asg rfl rfl ?_
      refine kp [2] rfl ?_
      refine Run.ret ?_
      exact ret_one (.tmp rfl .nil) (by first | (simp [tup, letterB, *]; done) | (exfalso; omega)) .nil
    · skip
      refine RunL.yes rfl rfl rfl rfl (OpJ.move rfl ?_)
      refine RunL.yes rfl rfl rfl rfl (OpJ.geq rfl rfl ?_)
      refine RunL.yes rfl rfl rfl rfl (OpJ.move rfl ?_)
      first | refine RunL.splitP (t := 12) rfl (fun g3 => ?_) (fun g3 => ?_) | refine RunL.split (t := 12) rfl (fun g3 => ?_) (fun g3 => ?_)
      · skip
        refine RunL.yes rfl rfl rfl rfl (OpJ.move rfl ?_)
        refine RunL.yes rfl rfl rfl rfl (OpJ.leq rfl rfl ?_)
        refine RunL.yes rfl rfl rfl rfl (OpJ.pickT rfl rfl ?_)
        refine RunL.op rfl rfl (OpJ.pickF rfl rfl ?_)
        refine mvo rfl rfl ?_
        first | refine RunL.splitP (t := 17) rfl (fun g4 => ?_) (fun g4 => ?_) | refine RunL.split (t := 17) rfl (fun g4 => ?_) (fun g4 => ?_)
        · skip
          refine RunL.no rfl rfl rfl rfl ?_
          refine RunL.no rfl rfl rfl rfl ?_
          refine RunL.op rfl rfl (OpJ.pickT rfl rfl ?_)
          refine asg rfl rfl ?_
          refine kp [2] rfl ?_
          refine Run.ret ?_
          exact ret_one (.tmp rfl .nil) (by first | (simp [tup, letterB, *]; done) | (exfalso; omega)) .nil
        · skip
          refine RunL.yes rfl rfl rfl rfl (OpJ.move rfl ?_)
          refine RunL.yes rfl rfl rfl rfl (OpJ.eql rfl rfl ?_)
          refine RunL.op rfl rfl (OpJ.pickF rfl rfl ?_)
          refine asg rfl rfl ?_
          refine kp [2] rfl ?_
          refine Run.ret ?_
          exact ret_one (.tmp rfl .nil) (by first | (simp [tup, letterB, *]; done) | (exfalso; omega)) .nil
      · skip
        refine RunL.no rfl rfl rfl rfl ?_
        refine RunL.no rfl rfl rfl rfl ?_
        refine RunL.yes rfl rfl rfl rfl (OpJ.pickF rfl rfl ?_)
        refine RunL.op rfl rfl (OpJ.pickF rfl rfl ?_)
        refine mvo rfl rfl ?_
        refine RunL.yes rfl rfl rfl rfl (OpJ.move rfl ?_)
        refine RunL.yes rfl rfl rfl rfl (OpJ.eql rfl rfl ?_)
        refine RunL.op rfl rfl (OpJ.pickF rfl rfl ?_)
        refine asg rfl rfl ?_
        refine kp [2] rfl ?_
        refine Run.ret ?_
        exact ret_one (.tmp rfl .nil) (by first | (simp [tup, letterB, *]; done) | (exfalso; omega)) .nil
  · skip
    refine RunL.no rfl rfl rfl rfl ?_
    refine RunL.no rfl rfl rfl rfl ?_
    refine RunL.op rfl rfl (OpJ.pickF rfl rfl ?_)
    refine mvo rfl rfl ?_
    refine RunL.yes rfl rfl rfl rfl (OpJ.move rfl ?_)
    refine RunL.yes rfl rfl rfl rfl (OpJ.geq rfl rfl ?_)
    refine RunL.yes rfl rfl rfl rfl (OpJ.move rfl ?_)
    first | refine RunL.splitP (t := 12) rfl (fun g5 => ?_) (fun g5 => ?_) | refine RunL.split (t := 12) rfl (fun g5 => ?_) (fun g5 => ?_)
    · skip
      refine RunL.yes rfl rfl rfl rfl (OpJ.move rfl ?_)
      refine RunL.yes rfl rfl rfl rfl (OpJ.leq rfl rfl ?_)
      refine RunL.yes rfl rfl rfl rfl (OpJ.pickT rfl rfl ?_)
      refine RunL.op rfl rfl (OpJ.pickF rfl rfl ?_)
      refine mvo rfl rfl ?_
      first | refine RunL.splitP (t := 17) rfl (fun g6 => ?_) (fun g6 => ?_) | refine RunL.split (t := 17) rfl (fun g6 => ?_) (fun g6 => ?_)
      · skip
        refine RunL.no rfl rfl rfl rfl ?_
        refine RunL.no rfl rfl rfl rfl ?_
        refine RunL.op rfl rfl (OpJ.pickT rfl rfl ?_)
        refine asg rfl rfl ?_
        refine kp [2] rfl ?_
        refine Run.ret ?_
        exact ret_one (.tmp rfl .nil) (by first | (simp [tup, letterB, *]; done) | (exfalso; omega)) .nil
      · skip
        refine RunL.yes rfl rfl rfl rfl (OpJ.move rfl ?_)
        refine RunL.yes rfl rfl rfl rfl (OpJ.eql rfl rfl ?_)
        refine RunL.op rfl rfl (OpJ.pickF rfl rfl ?_)
        refine asg rfl rfl ?_
        refine kp [2] rfl ?_
        refine Run.ret ?_
        exact ret_one (.tmp rfl .nil) (by first | (simp [tup, letterB, *]; done) | (exfalso; omega)) .nil
    · skip
      refine RunL.no rfl rfl rfl rfl ?_
      refine RunL.no rfl rfl rfl rfl ?_
      refine RunL.yes rfl rfl rfl rfl (OpJ.pickF rfl rfl ?_)
      refine RunL.op rfl rfl (OpJ.pickF rfl rfl ?_)
      refine mvo rfl rfl ?_
      refine RunL.yes rfl rfl rfl rfl (OpJ.move rfl ?_)
      refine RunL.yes rfl rfl rfl rfl (OpJ.eql rfl rfl ?_)
      refine RunL.op rfl rfl (OpJ.pickF rfl rfl ?_)
      refine asg rfl rfl ?_
      refine kp [2] rfl ?_
      refine Run.ret ?_
      exact ret_one (.tmp rfl .nil) (by first | (simp [tup, letterB, *]; done) | (exfalso; omega)) .nil
-- words.digit
theorem ac109 (c : Int) : AC Tryz.prog 109 ⟨[.int .u8 c]⟩ (stars []) (Ret (.bool (digitB c)) []) := by
  refine AC.go Tryz.func109 rfl (Nat.le_of_ble_eq_true rfl) fun β => ?_
  refine sr ?_
  refine asg rfl rfl ?_
  refine kp [0] rfl ?_
  refine sr ?_
  refine mvo rfl rfl ?_
  refine RunL.op rfl rfl (OpJ.geq rfl rfl ?_)
  refine mvo rfl rfl ?_
  first | refine RunL.splitP (t := 5) rfl (fun g1 => ?_) (fun g1 => ?_) | refine RunL.split (t := 5) rfl (fun g1 => ?_) (fun g1 => ?_)
  · skip
    refine RunL.yes rfl rfl rfl rfl (OpJ.move rfl ?_)
    refine RunL.yes rfl rfl rfl rfl (OpJ.leq rfl rfl ?_)
    refine RunL.op rfl rfl (OpJ.pickT rfl rfl ?_)
    refine asg rfl rfl ?_
    refine kp [2] rfl ?_
    refine Run.ret ?_
    exact ret_one (.tmp rfl .nil) (by first | (simp [tup, digitB, *]; done) | (exfalso; omega)) .nil
  · skip
    refine RunL.no rfl rfl rfl rfl ?_
    refine RunL.no rfl rfl rfl rfl ?_
    refine RunL.op rfl rfl (OpJ.pickF rfl rfl ?_)
    refine asg rfl rfl ?_
    refine kp [2] rfl ?_
    refine Run.ret ?_
    exact ret_one (.tmp rfl .nil) (by first | (simp [tup, digitB, *]; done) | (exfalso; omega)) .nil
-- words.Code$1
theorem ac107 (c : Int) : AC Tryz.prog 107 ⟨[.int .u8 c]⟩ (stars []) (Ret (.bool (letterB c || digitB c)) []) := by
  refine AC.go Tryz.func107 rfl (Nat.le_of_ble_eq_true rfl) fun β => ?_
  refine sr ?_
  refine asg rfl rfl ?_
  refine kp [0] rfl ?_
  refine sr ?_
  refine mvo rfl rfl ?_
  refine RunL.call C108 rfl rfl rfl (ac108 _) .nil ?_
  refine mvo rfl rfl ?_
  first | refine RunL.splitP (t := 5) rfl (fun g1 => ?_) (fun g1 => ?_) | refine RunL.split (t := 5) rfl (fun g1 => ?_) (fun g1 => ?_)
  · skip
    refine RunL.no rfl rfl rfl rfl ?_
    refine RunL.no rfl rfl rfl rfl ?_
    refine RunL.op rfl rfl (OpJ.pickT rfl rfl ?_)
    refine asg rfl rfl ?_
    refine kp [2] rfl ?_
    refine Run.ret ?_
    exact ret_one (.tmp rfl .nil) (by first | (simp [tup, *]; done) | (exfalso; omega)) .nil
  · skip
    refine RunL.yes rfl rfl rfl rfl (OpJ.move rfl ?_)
    refine RunL.callG C109 rfl rfl rfl rfl rfl (ac109 _) .nil ?_
    refine RunL.op rfl rfl (OpJ.pickF rfl rfl ?_)
    refine asg rfl rfl ?_
    refine kp [2] rfl ?_
    refine Run.ret ?_
    exact ret_one (.tmp rfl .nil) (by first | (simp [tup, *]; done) | (exfalso; omega)) .nil
end Go.Proofs.YtdcchollplhioaaGreatDoor

namespace Go.Proofs.YtdcchollplhioaaGreatDoor
open Go Go.SL Go.Proofs
theorem B82 : BI Tryz.prog 82 [.int .i64 0, .int .i64 0] [(0, 1), (1, 1)] := .of (by kernel_rfl) (by kernel_rfl)
theorem EI82 : EI Tryz.prog 82 [.int, .int] := .of (by kernel_rfl)
theorem F66_0 : FI Tryz.prog 66 0 3 0 := .of (by kernel_rfl)
theorem F66_1 : FI Tryz.prog 66 1 3 1 := .of (by kernel_rfl)
theorem S26 : SI Tryz.prog 26 66 7 := .of (by kernel_rfl) (by kernel_rfl)
theorem T66 : TI Tryz.prog 66 true 7 := .of (by kernel_rfl)
theorem T82 : TI Tryz.prog 82 true 2 := .of (by kernel_rfl)
theorem Z66 : ZI Tryz.prog 66 [.int .i64 0, .int .i64 0, .string ⟨#[]⟩, .int .i64 0, .int .i64 0, .int .i64 0, .int .i64 0] := .of (by kernel_rfl)
-- standard.find
theorem ac44 (R : HP) (oa : Option Addr) (cap : Nat) (ps : List Pa) (kind seq : Int) (hR : RdS R oa (ps.flatMap Pa.c)) (hlen : (ps.length : Int) ≤ 9223372036854775807) : AC Tryz.prog 44 ⟨[.slice oa ps.length cap, .agg ⟨[I kind, I seq]⟩]⟩ (stars [R]) (Ret (I (findIdx (fun p => decide (p.kind = kind ∧ p.seq = seq)) ps)) [R]) := by
  refine AC.go Tryz.func44 rfl (Nat.le_of_ble_eq_true rfl) fun β => ?_
  refine sr ?_
  refine RunL.op rfl rfl (OpJ.boxA rfl fun b3 => ?_)
  refine asg rfl rfl ?_
  refine kp [0, 3] rfl ?_
  refine Run.seq ?_
  refine sr ?_
  refine mvo rfl rfl ?_
  refine RunL.op rfl rfl (OpJ.len S26 rfl ?_)
  refine mvo rfl rfl ?_
  refine kp [3, 7, 8, 9] rfl ?_
  refine Run.block ?_
  refine Run.loop (fun mm E L => ∃ i : Nat, mm = ps.length - i ∧ i ≤ ps.length ∧ (∀ j y, j < i → ps[j]? = some y → decide (y.kind = kind ∧ y.seq = seq) = false) ∧ E = [(3, .pointer (some ⟨b3, 0, none⟩)), (7, .slice oa ps.length cap), (8, I ps.length), (9, I i)] ∧ L = [pt b3 (blk [I kind, I seq] 82), R]) ⟨_, 0, rfl, Nat.zero_le _, fun _ _ h => by omega, rfl, rfl⟩ ?_
  rintro _ _ _ ⟨i, rfl, hi, hI0, rfl, rfl⟩
  refine sr ?_
  refine RunL.op rfl rfl (OpJ.lss rfl rfl ?_)
  refine kp [3, 7, 8, 9, 10] rfl ?_
  refine Run.seq ?_
  first | refine Run.if rfl (fun h1 => ?_) (fun h1 => ?_) | refine Run.cond rfl (fun h1 => ?_) (fun h1 => ?_)
  · skip
    refine Run.skip ?_
    refine Run.seq ?_
    refine Run.block ?_
    refine sr ?_
    obtain ⟨x, hx⟩ := get_ex (xs := ps) (by omega)
    refine RunL.rdOpen pk hR (flat_ne (k := 7) (fun _ => rfl) (by decide) hx) fun b o e hrd => ?_
    subst e
    refine mvo rfl rfl ?_
    refine RunL.op rfl rfl (OpJ.indexAddr S26 rfl rfl (by omega) ?_)
    refine RunL.op rfl rfl (OpJ.loadA T66 rfl pk (hrd.elem (fun _ => rfl) hx) rfl ?_)
    refine RunL.op rfl rfl (OpJ.alloc Z66 fun b6 => ?_)
    refine asg rfl rfl ?_
    refine RunL.op rfl rfl (OpJ.storeW T66 rfl rfl rfl rfl (by simp [Value.oneCell', Pa.c, Ly.c, Mv.c, Co.c]) up ?_)
    refine kp [3, 5, 6, 7, 8, 9] rfl ?_
    refine sr ?_
    refine RunL.op rfl rfl (OpJ.fieldAddr F66_1 rfl ?_)
    first | refine RunL.op rfl rfl (OpJ.loadF T3 rfl pk (by rfl) ?_) | refine RunL.op rfl rfl (OpJ.loadO T3 rfl pk (by assumption) (by rfl) (by exact fun _ => rfl) ?_)
    refine RunL.op rfl rfl (OpJ.fieldAddr F66_0 rfl ?_)
    first | refine RunL.op rfl rfl (OpJ.loadF T3 rfl pk (by rfl) ?_) | refine RunL.op rfl rfl (OpJ.loadO T3 rfl pk (by assumption) (by rfl) (by exact fun _ => rfl) ?_)
    refine RunL.op rfl rfl (OpJ.build B82 rfl rfl fun cs hcs => ?_)
    simp only [Sk.c, Mv.c, Co.c, bldL, bldA, Value.cells, bs, Nat.reduceAdd, Nat.reduceLeDiff, Nat.reduceLT] at hcs; subst hcs
    first | refine RunL.op rfl rfl (OpJ.loadW T82 rfl pk (by rfl) ?_) | refine RunL.op rfl rfl (OpJ.loadP T82 rfl pk (by simp) ?_) | refine RunL.op rfl rfl (OpJ.loadE T82 rfl pk (by assumption) (by exact fun _ => rfl) rfl (by decide) ?_)
    refine RunL.op rfl rfl (OpJ.eqlA EI82 rfl rfl (by rfl) ?_)
    refine kp [3, 5, 7, 8, 9, 20] rfl ?_
    first | refine Run.if rfl (fun h2 => ?_) (fun h2 => ?_) | refine Run.cond rfl (fun h2 => ?_) (fun h2 => ?_)
    · skip
      refine sr ?_
      refine mvo rfl rfl ?_
      refine asg rfl rfl ?_
      refine kp [4] rfl ?_
      refine Run.ret ?_
      exact ret_one (.tmp rfl .nil) (congrArg I (findIdx_at hx (by simp_all) hI0).symm) gv
    · skip
      refine Run.skip ?_
      refine Run.region ?_
      first | refine RunL.op rfl rfl (OpJ.addI rfl rfl (by omega) ?_) | refine RunL.op rfl rfl (OpJ.add rfl rfl ?_)
      refine mvo rfl rfl ?_
      exact RunL.next (Keep.sub (kt (ks := [3, 7, 8, 9]) rfl)) _ ⟨_, by omega, i + 1, rfl, by omega, notYet hx (by simp_all) hI0, rfl, rfl⟩ gv
  · skip
    refine Run.exit ?_
    refine sr ?_
    refine asg rfl rfl ?_
    refine kp [4] rfl ?_
    refine Run.ret ?_
    exact ret_one (.tmp rfl .nil) (congrArg I (findIdx_none (fun j y hj => hI0 j y (by omega))).symm) gv
end Go.Proofs.YtdcchollplhioaaGreatDoor

namespace Go.Proofs.YtdcchollplhioaaGreatDoor
open Go Go.SL Go.Proofs
theorem U133 : Tryz.prog.underlying 133 = some (.int .u64) := by kernel_rfl
theorem U3 : Tryz.prog.underlying 3 = some (.int .i64) := by kernel_rfl
theorem U4 : Tryz.prog.underlying 4 = some .bool := by kernel_rfl
theorem U133s : (Tryz.prog.underlying 133).isSome = true := by kernel_rfl
theorem U3s : (Tryz.prog.underlying 3).isSome = true := by kernel_rfl
-- num.Add
theorem ac47 (a b : Int) (ha : i64 a) (hb : i64 b) : AC Tryz.prog 47 ⟨[I a, I b]⟩ (stars []) (Ret (.tuple ⟨[I (addN a b), Bo (addOk a b)]⟩) []) := by
  refine AC.go Tryz.func47 rfl (Nat.le_of_ble_eq_true rfl) fun β => ?_
  refine sr ?_
  refine asg rfl rfl ?_
  refine asg rfl rfl ?_
  refine kp [0, 1] rfl ?_
  refine sr ?_
  refine mvo rfl rfl ?_
  refine mvo rfl rfl ?_
  refine RunL.op rfl rfl (OpJ.add rfl rfl ?_)
  refine asg rfl rfl ?_
  refine kp [0, 1, 4] rfl ?_
  refine Run.seq ?_
  refine sr ?_
  refine mvo rfl rfl ?_
  refine mvo rfl rfl ?_
  refine RunL.op rfl rfl (OpJ.gtr rfl rfl ?_)
  refine mvo rfl rfl ?_
  refine RunL.op rfl rfl (OpJ.gtr rfl rfl ?_)
  refine RunL.op rfl rfl (OpJ.neqB U4 rfl rfl ?_)
  refine mvo rfl rfl ?_
  first | refine RunL.splitP (t := 15) rfl (fun g1 => ?_) (fun g1 => ?_) | refine RunL.split (t := 15) rfl (fun g1 => ?_) (fun g1 => ?_)
  · skip
    refine RunL.yes rfl rfl rfl rfl (OpJ.move rfl ?_)
    refine RunL.yes rfl rfl rfl rfl (OpJ.neq rfl rfl ?_)
    refine RunL.op rfl rfl (OpJ.pickT rfl rfl ?_)
    refine kp [4, 18] rfl ?_
    first | refine Run.if rfl (fun h2 => ?_) (fun h2 => ?_) | refine Run.cond rfl (fun h2 => ?_) (fun h2 => ?_)
    · skip
      refine sr ?_
      refine asg rfl rfl ?_
      refine asg rfl rfl ?_
      refine kp [4, 5] rfl ?_
      refine Run.ret ?_
      exact ret_one (.tmp rfl (.tmp rfl .nil)) (add_r1 ha hb g1 h2) gv
    · skip
      refine Run.skip ?_
      refine sr ?_
      refine mvo rfl rfl ?_
      refine asg rfl rfl ?_
      refine asg rfl rfl ?_
      refine kp [4, 5] rfl ?_
      refine Run.ret ?_
      exact ret_one (.tmp rfl (.tmp rfl .nil)) (add_r2 ha hb (.inr h2)) gv
  · skip
    refine RunL.no rfl rfl rfl rfl ?_
    refine RunL.no rfl rfl rfl rfl ?_
    refine RunL.op rfl rfl (OpJ.pickF rfl rfl ?_)
    refine kp [4, 18] rfl ?_
    refine Run.false rfl ?_
    refine Run.skip ?_
    refine sr ?_
    refine mvo rfl rfl ?_
    refine asg rfl rfl ?_
    refine asg rfl rfl ?_
    refine kp [4, 5] rfl ?_
    refine Run.ret ?_
    exact ret_one (.tmp rfl (.tmp rfl .nil)) (add_r2 ha hb (.inl g1)) gv
-- num.Sub
theorem ac119 (a b : Int) (ha : i64 a) (hb : i64 b) : AC Tryz.prog 119 ⟨[I a, I b]⟩ (stars []) (Ret (.tuple ⟨[I (subN a b), Bo (subOk a b)]⟩) []) := by
  refine AC.go Tryz.func119 rfl (Nat.le_of_ble_eq_true rfl) fun β => ?_
  refine sr ?_
  refine asg rfl rfl ?_
  refine asg rfl rfl ?_
  refine kp [0, 1] rfl ?_
  refine sr ?_
  refine mvo rfl rfl ?_
  refine mvo rfl rfl ?_
  refine RunL.op rfl rfl (OpJ.sub rfl rfl ?_)
  refine asg rfl rfl ?_
  refine kp [0, 1, 4] rfl ?_
  refine Run.seq ?_
  refine sr ?_
  refine mvo rfl rfl ?_
  refine mvo rfl rfl ?_
  refine RunL.op rfl rfl (OpJ.lss rfl rfl ?_)
  refine mvo rfl rfl ?_
  refine RunL.op rfl rfl (OpJ.gtr rfl rfl ?_)
  refine RunL.op rfl rfl (OpJ.neqB U4 rfl rfl ?_)
  refine mvo rfl rfl ?_
  first | refine RunL.splitP (t := 15) rfl (fun g1 => ?_) (fun g1 => ?_) | refine RunL.split (t := 15) rfl (fun g1 => ?_) (fun g1 => ?_)
  · skip
    refine RunL.yes rfl rfl rfl rfl (OpJ.move rfl ?_)
    refine RunL.yes rfl rfl rfl rfl (OpJ.neq rfl rfl ?_)
    refine RunL.op rfl rfl (OpJ.pickT rfl rfl ?_)
    refine kp [4, 18] rfl ?_
    first | refine Run.if rfl (fun h2 => ?_) (fun h2 => ?_) | refine Run.cond rfl (fun h2 => ?_) (fun h2 => ?_)
    · skip
      refine sr ?_
      refine asg rfl rfl ?_
      refine asg rfl rfl ?_
      refine kp [4, 5] rfl ?_
      refine Run.ret ?_
      exact ret_one (.tmp rfl (.tmp rfl .nil)) (sub_r1 ha hb g1 h2) gv
    · skip
      refine Run.skip ?_
      refine sr ?_
      refine mvo rfl rfl ?_
      refine asg rfl rfl ?_
      refine asg rfl rfl ?_
      refine kp [4, 5] rfl ?_
      refine Run.ret ?_
      exact ret_one (.tmp rfl (.tmp rfl .nil)) (sub_r2 ha hb (.inr h2)) gv
  · skip
    refine RunL.no rfl rfl rfl rfl ?_
    refine RunL.no rfl rfl rfl rfl ?_
    refine RunL.op rfl rfl (OpJ.pickF rfl rfl ?_)
    refine kp [4, 18] rfl ?_
    refine Run.false rfl ?_
    refine Run.skip ?_
    refine sr ?_
    refine mvo rfl rfl ?_
    refine asg rfl rfl ?_
    refine asg rfl rfl ?_
    refine kp [4, 5] rfl ?_
    refine Run.ret ?_
    exact ret_one (.tmp rfl (.tmp rfl .nil)) (sub_r2 ha hb (.inl g1)) gv
-- num.size
theorem ac157 (n : Int) (hn : i64 n) : AC Tryz.prog 157 ⟨[I n]⟩ (stars []) (Ret (U (mag n)) []) := by
  refine AC.go Tryz.func157 rfl (Nat.le_of_ble_eq_true rfl) fun β => ?_
  refine sr ?_
  refine asg rfl rfl ?_
  refine kp [0] rfl ?_
  refine Run.seq ?_
  refine sr ?_
  refine mvo rfl rfl ?_
  refine RunL.op rfl rfl (OpJ.lss rfl rfl ?_)
  refine kp [0, 4] rfl ?_
  first | refine Run.if rfl (fun h1 => ?_) (fun h1 => ?_) | refine Run.cond rfl (fun h1 => ?_) (fun h1 => ?_)
  · skip
    refine sr ?_
    refine mvo rfl rfl ?_
    refine RunL.op rfl rfl (OpJ.conv U3s U133 rfl ?_)
    refine RunL.op rfl rfl (OpJ.neg rfl ?_)
    refine asg rfl rfl ?_
    refine kp [2] rfl ?_
    refine Run.ret ?_
    exact ret_one (.tmp rfl .nil) (congrArg U (mag_conv_neg hn h1)) gv
  · skip
    refine Run.skip ?_
    refine sr ?_
    refine mvo rfl rfl ?_
    refine RunL.op rfl rfl (OpJ.conv U3s U133 rfl ?_)
    refine asg rfl rfl ?_
    refine kp [2] rfl ?_
    refine Run.ret ?_
    exact ret_one (.tmp rfl .nil) (congrArg U (mag_conv_pos hn h1)) gv
-- muldiv.magnitude
theorem ac151 (n : Int) (hn : i64 n) : AC Tryz.prog 151 ⟨[I n]⟩ (stars []) (Ret (U (mag n)) []) := by
  refine AC.go Tryz.func151 rfl (Nat.le_of_ble_eq_true rfl) fun β => ?_
  refine sr ?_
  refine asg rfl rfl ?_
  refine kp [0] rfl ?_
  refine Run.seq ?_
  refine sr ?_
  refine mvo rfl rfl ?_
  refine RunL.op rfl rfl (OpJ.lss rfl rfl ?_)
  refine kp [0, 4] rfl ?_
  first | refine Run.if rfl (fun h1 => ?_) (fun h1 => ?_) | refine Run.cond rfl (fun h1 => ?_) (fun h1 => ?_)
  · skip
    refine sr ?_
    refine mvo rfl rfl ?_
    refine RunL.op rfl rfl (OpJ.conv U3s U133 rfl ?_)
    refine RunL.op rfl rfl (OpJ.neg rfl ?_)
    refine asg rfl rfl ?_
    refine kp [2] rfl ?_
    refine Run.ret ?_
    exact ret_one (.tmp rfl .nil) (congrArg U (mag_conv_neg hn h1)) gv
  · skip
    refine Run.skip ?_
    refine sr ?_
    refine mvo rfl rfl ?_
    refine RunL.op rfl rfl (OpJ.conv U3s U133 rfl ?_)
    refine asg rfl rfl ?_
    refine kp [2] rfl ?_
    refine Run.ret ?_
    exact ret_one (.tmp rfl .nil) (congrArg U (mag_conv_pos hn h1)) gv
-- muldiv.away
theorem ac153 (mode r c : Int) (neg odd : Bool) (hr : u64 r) (hc : u64 c) (hrc : r < c) : AC Tryz.prog 153 ⟨[I mode, Bo neg, Bo odd, U r, U c]⟩ (stars []) (Ret (Bo (awayB mode neg odd r c)) []) := by
  refine AC.go Tryz.func153 rfl (Nat.le_of_ble_eq_true rfl) fun β => ?_
  refine sr ?_
  refine asg rfl rfl ?_
  refine kp [0, 1, 2, 3, 4] rfl ?_
  refine Run.seq ?_
  refine sr ?_
  refine mvo rfl rfl ?_
  refine RunL.op rfl rfl (OpJ.eql rfl rfl ?_)
  refine kp [0, 1, 2, 3, 4, 13] rfl ?_
  first | refine Run.if rfl (fun h1 => ?_) (fun h1 => ?_) | refine Run.cond rfl (fun h1 => ?_) (fun h1 => ?_)
  · skip
    refine sr ?_
    refine asg rfl rfl ?_
    refine kp [10] rfl ?_
    refine Run.ret ?_
    exact ret_one (.tmp rfl .nil) (by clear hr hc; (try (rename r = c - r => e; have e2 := decide_eq_true e; clear e)); first | (simp [tup, awayB, *]; done) | (exfalso; omega)) .nil
  · skip
    refine Run.skip ?_
    refine sr ?_
    refine mvo rfl rfl ?_
    refine mvo rfl rfl ?_
    refine RunL.op rfl rfl (OpJ.subU rfl rfl (by omega) ?_)
    refine asg rfl rfl ?_
    refine kp [0, 1, 2, 3, 11] rfl ?_
    refine Run.seq ?_
    refine sr ?_
    refine mvo rfl rfl ?_
    refine kp [1, 2, 3, 11, 17] rfl ?_
    refine Run.block ?_
    refine sr ?_
    refine RunL.op rfl rfl (OpJ.eql rfl rfl ?_)
    refine asg rfl rfl ?_
    refine kp [1, 2, 3, 11, 17, 18] rfl ?_
    first | refine Run.if rfl (fun h2 => ?_) (fun h2 => ?_) | refine Run.cond rfl (fun h2 => ?_) (fun h2 => ?_)
    · skip
      refine sr ?_
      refine asg rfl rfl ?_
      refine kp [10] rfl ?_
      refine Run.ret ?_
      exact ret_one (.tmp rfl .nil) (by clear hr hc; (try (rename r = c - r => e; have e2 := decide_eq_true e; clear e)); first | (simp [tup, awayB, *]; done) | (exfalso; omega)) .nil
    · skip
      refine sr ?_
      refine RunL.op rfl rfl (OpJ.eql rfl rfl ?_)
      refine asg rfl rfl ?_
      refine kp [1, 2, 3, 11, 17, 20] rfl ?_
      first | refine Run.if rfl (fun h3 => ?_) (fun h3 => ?_) | refine Run.cond rfl (fun h3 => ?_) (fun h3 => ?_)
      · skip
        refine sr ?_
        refine mvo rfl rfl ?_
        refine mvo rfl rfl ?_
        refine RunL.op rfl rfl (OpJ.geq rfl rfl ?_)
        refine asg rfl rfl ?_
        refine kp [10] rfl ?_
        refine Run.ret ?_
        exact ret_one (.tmp rfl .nil) (by clear hr hc; (try (rename r = c - r => e; have e2 := decide_eq_true e; clear e)); first | (simp [tup, awayB, *]; done) | (exfalso; omega)) .nil
      · skip
        refine sr ?_
        refine RunL.op rfl rfl (OpJ.eql rfl rfl ?_)
        refine asg rfl rfl ?_
        refine kp [1, 2, 3, 11, 17, 25] rfl ?_
        first | refine Run.if rfl (fun h4 => ?_) (fun h4 => ?_) | refine Run.cond rfl (fun h4 => ?_) (fun h4 => ?_)
        · skip
          refine sr ?_
          refine mvo rfl rfl ?_
          refine mvo rfl rfl ?_
          refine RunL.op rfl rfl (OpJ.gtr rfl rfl ?_)
          refine mvo rfl rfl ?_
          first | refine RunL.splitP (t := 30) rfl (fun g5 => ?_) (fun g5 => ?_) | refine RunL.split (t := 30) rfl (fun g5 => ?_) (fun g5 => ?_)
          · skip
            refine RunL.no rfl rfl rfl rfl ?_
            refine RunL.no rfl rfl rfl rfl ?_
            refine RunL.no rfl rfl rfl rfl ?_
            refine RunL.no rfl rfl rfl rfl ?_
            refine RunL.undef rfl rfl rfl rfl ?_
            refine RunL.no rfl rfl rfl rfl ?_
            refine RunL.op rfl rfl (OpJ.pickT rfl rfl ?_)
            refine asg rfl rfl ?_
            refine kp [10] rfl ?_
            refine Run.ret ?_
            exact ret_one (.tmp rfl .nil) (by clear hr hc; (try (rename r = c - r => e; have e2 := decide_eq_true e; clear e)); first | (simp [tup, awayB, *]; done) | (exfalso; omega)) .nil
          · skip
            refine RunL.yes rfl rfl rfl rfl (OpJ.move rfl ?_)
            refine RunL.yes rfl rfl rfl rfl (OpJ.move rfl ?_)
            refine RunL.yes rfl rfl rfl rfl (OpJ.eql rfl rfl ?_)
            refine RunL.yes rfl rfl rfl rfl (OpJ.move rfl ?_)
            first | refine RunL.splitP (t := 34) rfl (fun g6 => ?_) (fun g6 => ?_) | refine RunL.split (t := 34) rfl (fun g6 => ?_) (fun g6 => ?_)
            · skip
              refine RunL.yes rfl rfl rfl rfl (OpJ.move rfl ?_)
              refine RunL.yes rfl rfl rfl rfl (OpJ.pickT rfl rfl ?_)
              refine RunL.op rfl rfl (OpJ.pickF rfl rfl ?_)
              refine asg rfl rfl ?_
              refine kp [10] rfl ?_
              refine Run.ret ?_
              exact ret_one (.tmp rfl .nil) (by clear hr hc; (try (rename r = c - r => e; have e2 := decide_eq_true e; clear e)); first | (simp [tup, awayB, *]; done) | (exfalso; omega)) .nil
            · skip
              refine RunL.no rfl rfl rfl rfl ?_
              refine RunL.yes rfl rfl rfl rfl (OpJ.pickF rfl rfl ?_)
              refine RunL.op rfl rfl (OpJ.pickF rfl rfl ?_)
              refine asg rfl rfl ?_
              refine kp [10] rfl ?_
              refine Run.ret ?_
              exact ret_one (.tmp rfl .nil) (by clear hr hc; (try (rename r = c - r => e; have e2 := decide_eq_true e; clear e)); first | (simp [tup, awayB, *]; done) | (exfalso; omega)) .nil
        · skip
          refine sr ?_
          refine RunL.op rfl rfl (OpJ.eql rfl rfl ?_)
          refine asg rfl rfl ?_
          refine kp [1, 38] rfl ?_
          first | refine Run.if rfl (fun h7 => ?_) (fun h7 => ?_) | refine Run.cond rfl (fun h7 => ?_) (fun h7 => ?_)
          · skip
            refine sr ?_
            refine mvo rfl rfl ?_
            refine asg rfl rfl ?_
            refine kp [10] rfl ?_
            refine Run.ret ?_
            exact ret_one (.tmp rfl .nil) (by clear hr hc; (try (rename r = c - r => e; have e2 := decide_eq_true e; clear e)); first | (simp [tup, awayB, *]; done) | (exfalso; omega)) .nil
          · skip
            refine Run.skip ?_
            refine sr ?_
            refine asg rfl rfl ?_
            refine kp [10] rfl ?_
            refine Run.ret ?_
            exact ret_one (.tmp rfl .nil) (by clear hr hc; (try (rename r = c - r => e; have e2 := decide_eq_true e; clear e)); first | (simp [tup, awayB, *]; done) | (exfalso; omega)) .nil
-- muldiv.signed
theorem ac154 (neg : Bool) (size : Int) (hs : u64 size) : AC Tryz.prog 154 ⟨[Bo neg, U size]⟩ (stars []) (Ret (.tuple ⟨[I (signedN neg size), I (signedE neg size)]⟩) []) := by
  refine AC.go Tryz.func154 rfl (Nat.le_of_ble_eq_true rfl) fun β => ?_
  refine sr ?_
  refine asg rfl rfl ?_
  refine asg rfl rfl ?_
  refine kp [0, 1] rfl ?_
  refine Run.seq ?_
  refine sr ?_
  refine mvo rfl rfl ?_
  refine kp [1, 6] rfl ?_
  first | refine Run.if rfl (fun h1 => ?_) (fun h1 => ?_) | refine Run.cond rfl (fun h1 => ?_) (fun h1 => ?_)
  · skip
    refine Run.seq ?_
    refine sr ?_
    refine mvo rfl rfl ?_
    refine RunL.op rfl rfl (OpJ.gtr rfl rfl ?_)
    refine kp [1, 8] rfl ?_
    first | refine Run.if rfl (fun h2 => ?_) (fun h2 => ?_) | refine Run.cond rfl (fun h2 => ?_) (fun h2 => ?_)
    · skip
      refine sr ?_
      refine asg rfl rfl ?_
      refine asg rfl rfl ?_
      refine kp [4, 5] rfl ?_
      refine Run.ret ?_
      exact ret_one (.tmp rfl (.tmp rfl .nil)) (by rw [signedN, signedE, if_pos h1, if_pos h1, if_pos h2, if_pos h2]; rfl) gv
    · skip
      refine Run.skip ?_
      refine sr ?_
      refine mvo rfl rfl ?_
      refine RunL.op rfl rfl (OpJ.sub rfl rfl ?_)
      refine RunL.op rfl rfl (OpJ.conv U133s U3 rfl ?_)
      refine RunL.op rfl rfl (OpJ.neg rfl ?_)
      refine RunL.op rfl rfl (OpJ.sub rfl rfl ?_)
      refine asg rfl rfl ?_
      refine asg rfl rfl ?_
      refine kp [4, 5] rfl ?_
      refine Run.ret ?_
      exact ret_one (.tmp rfl (.tmp rfl .nil)) (by rw [signed_neg hs h2, signedN, signedE, if_pos h1, if_pos h1, if_neg h2, if_neg h2]; rfl) gv
  · skip
    refine Run.skip ?_
    refine Run.seq ?_
    refine sr ?_
    refine mvo rfl rfl ?_
    refine RunL.op rfl rfl (OpJ.geq rfl rfl ?_)
    refine kp [1, 15] rfl ?_
    first | refine Run.if rfl (fun h3 => ?_) (fun h3 => ?_) | refine Run.cond rfl (fun h3 => ?_) (fun h3 => ?_)
    · skip
      refine sr ?_
      refine asg rfl rfl ?_
      refine asg rfl rfl ?_
      refine kp [4, 5] rfl ?_
      refine Run.ret ?_
      exact ret_one (.tmp rfl (.tmp rfl .nil)) (by rw [signedN, signedE, if_neg (show ¬ neg = true by simp [h1]), if_neg (show ¬ neg = true by simp [h1]), if_pos h3, if_pos h3]; rfl) gv
    · skip
      refine Run.skip ?_
      refine sr ?_
      refine mvo rfl rfl ?_
      refine RunL.op rfl rfl (OpJ.conv U133s U3 rfl ?_)
      refine asg rfl rfl ?_
      refine asg rfl rfl ?_
      refine kp [4, 5] rfl ?_
      refine Run.ret ?_
      exact ret_one (.tmp rfl (.tmp rfl .nil)) (by rw [signed_pos hs h3, signedN, signedE, if_neg (show ¬ neg = true by simp [h1]), if_neg (show ¬ neg = true by simp [h1]), if_neg h3, if_neg h3]; rfl) gv
end Go.Proofs.YtdcchollplhioaaGreatDoor

namespace Go.Proofs.YtdcchollplhioaaGreatDoor
open Go Go.SL Go.Proofs
theorem B135 : BAI Tryz.prog 135 [.int .u64 0, .int .u64 0] := .of (by kernel_rfl) (by kernel_rfl)
theorem T135 : TI Tryz.prog 135 true 2 := .of (by kernel_rfl)
theorem Z135 : ZI Tryz.prog 135 [.int .u64 0, .int .u64 0] := .of (by kernel_rfl)
-- muldiv.multiply
theorem ac150 (a b : Int) (ha : u64 a) (hb : u64 b) : AC Tryz.prog 150 ⟨[U a, U b]⟩ (stars []) (Ret (.agg ⟨[U (a * b / 18446744073709551616), U (a * b % 18446744073709551616)]⟩) []) := by
  have ea1 := hi32 ha; have ea0 := lo32 a; have eb1 := hi32 hb; have eb0 := lo32 b
  have p11 := mul32 ea1 eb1; have p10 := mul32 ea1 eb0; have p01 := mul32 ea0 eb1; have p00 := mul32 ea0 eb0
  have hw := mul_words a b ha hb
  simp only at hw
  refine AC.go Tryz.func150 rfl (Nat.le_of_ble_eq_true rfl) fun β => ?_
  refine sr ?_
  refine RunL.op rfl rfl (OpJ.alloc Z135 fun b4 => ?_)
  refine kp [0, 1, 4] rfl ?_
  refine sr ?_
  refine mvo rfl rfl ?_
  refine RunL.op rfl rfl (OpJ.shrU (k := 32) rfl rfl (by omega) ?_)
  refine mvo rfl rfl ?_
  refine RunL.op rfl rfl (OpJ.maskU rfl rfl (by omega) ?_)
  refine asg rfl rfl ?_
  refine asg rfl rfl ?_
  refine kp [1, 4, 5, 6] rfl ?_
  refine sr ?_
  refine mvo rfl rfl ?_
  refine RunL.op rfl rfl (OpJ.shrU (k := 32) rfl rfl (by omega) ?_)
  refine mvo rfl rfl ?_
  refine RunL.op rfl rfl (OpJ.maskU rfl rfl (by omega) ?_)
  refine asg rfl rfl ?_
  refine asg rfl rfl ?_
  refine kp [4, 5, 6, 7, 8] rfl ?_
  refine sr ?_
  refine mvo rfl rfl ?_
  refine mvo rfl rfl ?_
  refine RunL.op rfl rfl (OpJ.mulU rfl rfl (mul32u (by omega) (by omega)) ?_)
  refine asg rfl rfl ?_
  refine kp [4, 5, 6, 7, 8, 9] rfl ?_
  refine sr ?_
  refine mvo rfl rfl ?_
  refine mvo rfl rfl ?_
  refine RunL.op rfl rfl (OpJ.mulU rfl rfl (mul32u (by omega) (by omega)) ?_)
  refine mvo rfl rfl ?_
  refine RunL.op rfl rfl (OpJ.shrU (k := 32) rfl rfl (by omega) ?_)
  refine RunL.op rfl rfl (OpJ.addU rfl rfl (by omega) ?_)
  refine asg rfl rfl ?_
  refine kp [4, 5, 6, 7, 9, 10] rfl ?_
  refine sr ?_
  refine mvo rfl rfl ?_
  refine mvo rfl rfl ?_
  refine RunL.op rfl rfl (OpJ.mulU rfl rfl (mul32u (by omega) (by omega)) ?_)
  refine mvo rfl rfl ?_
  refine RunL.op rfl rfl (OpJ.maskU rfl rfl (by omega) ?_)
  refine RunL.op rfl rfl (OpJ.addU rfl rfl (by omega) ?_)
  refine asg rfl rfl ?_
  refine kp [4, 5, 7, 9, 10, 11] rfl ?_
  refine sr ?_
  refine mvo rfl rfl ?_
  refine mvo rfl rfl ?_
  refine RunL.op rfl rfl (OpJ.mulU rfl rfl (mul32u (by omega) (by omega)) ?_)
  refine mvo rfl rfl ?_
  refine RunL.op rfl rfl (OpJ.shrU (k := 32) rfl rfl (by omega) ?_)
  refine RunL.op rfl rfl (OpJ.addU rfl rfl (by omega) ?_)
  refine mvo rfl rfl ?_
  refine RunL.op rfl rfl (OpJ.shrU (k := 32) rfl rfl (by omega) ?_)
  refine RunL.op rfl rfl (OpJ.addU rfl rfl (by omega) ?_)
  refine mvo rfl rfl ?_
  refine RunL.op rfl rfl (OpJ.shl32 rfl rfl ?_)
  refine mvo rfl rfl ?_
  refine RunL.op rfl rfl (OpJ.maskU rfl rfl (by omega) ?_)
  refine RunL.op rfl rfl (OpJ.orShl rfl rfl (by omega) (by omega) ?_)
  refine RunL.op rfl rfl (OpJ.buildArr B135 rfl rfl fun cs hcs => ?_)
  simp only [Sk.c, Mv.c, Co.c, bldL, bldA, Value.cells, bs, Nat.reduceAdd, Nat.reduceLeDiff, Nat.reduceLT] at hcs; subst hcs
  refine RunL.op rfl rfl (OpJ.storeW T135 rfl rfl rfl rfl (by simp [Value.oneCell', Pa.c, Ly.c, Mv.c, Co.c]) up ?_)
  refine kp [4] rfl ?_
  refine Run.ret ?_
  exact ret_one (.cellA T135 rfl pk (by rfl) .nil) (words_ret hw (by omega)) .nil
-- math/bits.Mul64
theorem ac156 (a b : Int) (ha : u64 a) (hb : u64 b) : AC Tryz.prog 156 ⟨[U a, U b]⟩ (stars []) (Ret (.tuple ⟨[U (a * b / 18446744073709551616), U (a * b % 18446744073709551616)]⟩) []) := by
  have ea1 := hi32 ha; have ea0 := lo32 a; have eb1 := hi32 hb; have eb0 := lo32 b
  have p11 := mul32 ea1 eb1; have p10 := mul32 ea1 eb0; have p01 := mul32 ea0 eb1; have p00 := mul32 ea0 eb0
  have hw := mul_words a b ha hb
  simp only at hw
  have hw2 := hw; rw [Int.add_comm (a % 4294967296 * (b / 2 ^ 32))] at hw2
  refine AC.go Tryz.func156 rfl (Nat.le_of_ble_eq_true rfl) fun β => ?_
  refine sr ?_
  refine asg rfl rfl ?_
  refine asg rfl rfl ?_
  refine kp [0, 1] rfl ?_
  refine sr ?_
  refine mvo rfl rfl ?_
  refine RunL.op rfl rfl (OpJ.maskU rfl rfl (by omega) ?_)
  refine asg rfl rfl ?_
  refine kp [0, 1, 6] rfl ?_
  refine sr ?_
  refine mvo rfl rfl ?_
  refine RunL.op rfl rfl (OpJ.shrU (k := 32) rfl rfl (by omega) ?_)
  refine asg rfl rfl ?_
  refine kp [0, 1, 6, 7] rfl ?_
  refine sr ?_
  refine mvo rfl rfl ?_
  refine RunL.op rfl rfl (OpJ.maskU rfl rfl (by omega) ?_)
  refine asg rfl rfl ?_
  refine kp [0, 1, 6, 7, 8] rfl ?_
  refine sr ?_
  refine mvo rfl rfl ?_
  refine RunL.op rfl rfl (OpJ.shrU (k := 32) rfl rfl (by omega) ?_)
  refine asg rfl rfl ?_
  refine kp [0, 1, 6, 7, 8, 9] rfl ?_
  refine sr ?_
  refine mvo rfl rfl ?_
  refine mvo rfl rfl ?_
  refine RunL.op rfl rfl (OpJ.mulU rfl rfl (mul32u (by omega) (by omega)) ?_)
  refine asg rfl rfl ?_
  refine kp [0, 1, 6, 7, 8, 9, 10] rfl ?_
  refine sr ?_
  refine mvo rfl rfl ?_
  refine mvo rfl rfl ?_
  refine RunL.op rfl rfl (OpJ.mulU rfl rfl (mul32u (by omega) (by omega)) ?_)
  refine mvo rfl rfl ?_
  refine RunL.op rfl rfl (OpJ.shrU (k := 32) rfl rfl (by omega) ?_)
  refine RunL.op rfl rfl (OpJ.addU rfl rfl (by omega) ?_)
  refine asg rfl rfl ?_
  refine kp [0, 1, 6, 7, 9, 11] rfl ?_
  refine sr ?_
  refine mvo rfl rfl ?_
  refine RunL.op rfl rfl (OpJ.maskU rfl rfl (by omega) ?_)
  refine asg rfl rfl ?_
  refine kp [0, 1, 6, 7, 9, 11, 12] rfl ?_
  refine sr ?_
  refine mvo rfl rfl ?_
  refine RunL.op rfl rfl (OpJ.shrU (k := 32) rfl rfl (by omega) ?_)
  refine asg rfl rfl ?_
  refine kp [0, 1, 6, 7, 9, 12, 13] rfl ?_
  refine sr ?_
  refine mvo rfl rfl ?_
  refine mvo rfl rfl ?_
  refine mvo rfl rfl ?_
  refine RunL.op rfl rfl (OpJ.mulU rfl rfl (mul32u (by omega) (by omega)) ?_)
  refine RunL.op rfl rfl (OpJ.addU rfl rfl (by omega) ?_)
  refine asg rfl rfl ?_
  refine kp [0, 1, 7, 9, 12, 13] rfl ?_
  refine sr ?_
  refine mvo rfl rfl ?_
  refine mvo rfl rfl ?_
  refine RunL.op rfl rfl (OpJ.mulU rfl rfl (mul32u (by omega) (by omega)) ?_)
  refine mvo rfl rfl ?_
  refine RunL.op rfl rfl (OpJ.addU rfl rfl (by omega) ?_)
  refine mvo rfl rfl ?_
  refine RunL.op rfl rfl (OpJ.shrU (k := 32) rfl rfl (by omega) ?_)
  refine RunL.op rfl rfl (OpJ.addU rfl rfl (by omega) ?_)
  refine asg rfl rfl ?_
  refine kp [0, 1, 4] rfl ?_
  refine sr ?_
  refine mvo rfl rfl ?_
  refine mvo rfl rfl ?_
  refine RunL.op rfl rfl (OpJ.mul rfl rfl ?_)
  refine asg rfl rfl ?_
  refine kp [4, 5] rfl ?_
  refine Run.ret ?_
  exact ret_one (.tmp rfl (.tmp rfl .nil)) (words_ret2 hw2 (by omega)) .nil
end Go.Proofs.YtdcchollplhioaaGreatDoor

namespace Go.Proofs.YtdcchollplhioaaGreatDoor
open Go Go.SL Go.Proofs
theorem C156 : CI Tryz.prog 156 := .of (by kernel_rfl)
theorem C157 : CI Tryz.prog 157 := .of (by kernel_rfl)
-- num.Mul
theorem ac120 (a b : Int) (ha : i64 a) (hb : i64 b) : AC Tryz.prog 120 ⟨[I a, I b]⟩ (stars []) (Ret (.tuple ⟨[I (mulN a b), Bo (mulOk a b)]⟩) []) := by
  have ua := mag_u64 ha; have ub := mag_u64 hb
  refine AC.go Tryz.func120 rfl (Nat.le_of_ble_eq_true rfl) fun β => ?_
  refine sr ?_
  refine asg rfl rfl ?_
  refine asg rfl rfl ?_
  refine kp [0, 1] rfl ?_
  refine sr ?_
  refine mvo rfl rfl ?_
  refine RunL.call C157 rfl rfl rfl (ac157 _ (by omega)) .nil ?_
  refine mvo rfl rfl ?_
  refine RunL.call C157 rfl rfl rfl (ac157 _ (by omega)) .nil ?_
  refine RunL.call C156 rfl rfl rfl (ac156 _ _ (by omega) (by omega)) .nil ?_
  refine mvo rfl rfl ?_
  refine RunL.op rfl rfl (OpJ.extract rfl rfl ?_)
  refine RunL.op rfl rfl (OpJ.extract rfl rfl ?_)
  refine asg rfl rfl ?_
  refine asg rfl rfl ?_
  refine kp [0, 1, 6, 7] rfl ?_
  refine sr ?_
  refine asg rfl rfl ?_
  refine kp [0, 1, 6, 7, 8] rfl ?_
  refine Run.seq ?_
  refine sr ?_
  refine mvo rfl rfl ?_
  refine RunL.op rfl rfl (OpJ.lss rfl rfl ?_)
  refine mvo rfl rfl ?_
  refine RunL.op rfl rfl (OpJ.lss rfl rfl ?_)
  refine RunL.op rfl rfl (OpJ.neqB U4 rfl rfl ?_)
  refine kp [0, 1, 6, 7, 8, 21] rfl ?_
  first | refine Run.if rfl (fun h1 => ?_) (fun h1 => ?_) | refine Run.cond rfl (fun h1 => ?_) (fun h1 => ?_)
  · skip
    refine Run.region ?_
    refine mvo rfl rfl ?_
    refine RunL.op rfl rfl (OpJ.add rfl rfl ?_)
    refine asg rfl rfl ?_
    refine kp [0, 1, 6, 7, 8] rfl ?_
    refine Run.seq ?_
    refine sr ?_
    refine mvo rfl rfl ?_
    refine RunL.op rfl rfl (OpJ.gtr rfl rfl ?_)
    refine mvo rfl rfl ?_
    first | refine RunL.splitP (t := 26) rfl (fun g2 => ?_) (fun g2 => ?_) | refine RunL.split (t := 26) rfl (fun g2 => ?_) (fun g2 => ?_)
    · skip
      refine RunL.no rfl rfl rfl rfl ?_
      refine RunL.no rfl rfl rfl rfl ?_
      refine RunL.no rfl rfl rfl rfl ?_
      refine RunL.op rfl rfl (OpJ.pickT rfl rfl ?_)
      refine kp [0, 1, 30] rfl ?_
      refine Run.true rfl ?_
      refine sr ?_
      refine asg rfl rfl ?_
      refine asg rfl rfl ?_
      refine kp [4, 5] rfl ?_
      refine Run.ret ?_
      exact ret_one (.tmp rfl (.tmp rfl .nil)) (mul_no (by have e := sgn_diff h1; rw [e.2] at g2; omega)) gv
    · skip
      refine RunL.yes rfl rfl rfl rfl (OpJ.move rfl ?_)
      refine RunL.yes rfl rfl rfl rfl (OpJ.move rfl ?_)
      refine RunL.yes rfl rfl rfl rfl (OpJ.gtr rfl rfl ?_)
      refine RunL.op rfl rfl (OpJ.pickF rfl rfl ?_)
      refine kp [0, 1, 30] rfl ?_
      first | refine Run.if rfl (fun h3 => ?_) (fun h3 => ?_) | refine Run.cond rfl (fun h3 => ?_) (fun h3 => ?_)
      · skip
        refine sr ?_
        refine asg rfl rfl ?_
        refine asg rfl rfl ?_
        refine kp [4, 5] rfl ?_
        refine Run.ret ?_
        exact ret_one (.tmp rfl (.tmp rfl .nil)) (mul_no (by have e := sgn_diff h1; rw [e.2, wrap_u64] at h3; omega)) gv
      · skip
        refine Run.skip ?_
        refine sr ?_
        refine mvo rfl rfl ?_
        refine mvo rfl rfl ?_
        refine RunL.op rfl rfl (OpJ.mul rfl rfl ?_)
        refine asg rfl rfl ?_
        refine asg rfl rfl ?_
        refine kp [4, 5] rfl ?_
        refine Run.ret ?_
        exact ret_one (.tmp rfl (.tmp rfl .nil)) (mul_yes (by have e := sgn_diff h1; rw [e.2] at g2; rw [e.2, wrap_u64] at h3; omega)) gv
  · skip
    refine Run.skip ?_
    refine Run.seq ?_
    refine sr ?_
    refine mvo rfl rfl ?_
    refine RunL.op rfl rfl (OpJ.gtr rfl rfl ?_)
    refine mvo rfl rfl ?_
    first | refine RunL.splitP (t := 26) rfl (fun g4 => ?_) (fun g4 => ?_) | refine RunL.split (t := 26) rfl (fun g4 => ?_) (fun g4 => ?_)
    · skip
      refine RunL.no rfl rfl rfl rfl ?_
      refine RunL.no rfl rfl rfl rfl ?_
      refine RunL.no rfl rfl rfl rfl ?_
      refine RunL.op rfl rfl (OpJ.pickT rfl rfl ?_)
      refine kp [0, 1, 30] rfl ?_
      refine Run.true rfl ?_
      refine sr ?_
      refine asg rfl rfl ?_
      refine asg rfl rfl ?_
      refine kp [4, 5] rfl ?_
      refine Run.ret ?_
      exact ret_one (.tmp rfl (.tmp rfl .nil)) (mul_no (by have e := sgn_same h1; rw [e.2] at g4; omega)) gv
    · skip
      refine RunL.yes rfl rfl rfl rfl (OpJ.move rfl ?_)
      refine RunL.yes rfl rfl rfl rfl (OpJ.move rfl ?_)
      refine RunL.yes rfl rfl rfl rfl (OpJ.gtr rfl rfl ?_)
      refine RunL.op rfl rfl (OpJ.pickF rfl rfl ?_)
      refine kp [0, 1, 30] rfl ?_
      first | refine Run.if rfl (fun h5 => ?_) (fun h5 => ?_) | refine Run.cond rfl (fun h5 => ?_) (fun h5 => ?_)
      · skip
        refine sr ?_
        refine asg rfl rfl ?_
        refine asg rfl rfl ?_
        refine kp [4, 5] rfl ?_
        refine Run.ret ?_
        exact ret_one (.tmp rfl (.tmp rfl .nil)) (mul_no (by have e := sgn_same h1; rw [e.2] at h5; omega)) gv
      · skip
        refine Run.skip ?_
        refine sr ?_
        refine mvo rfl rfl ?_
        refine mvo rfl rfl ?_
        refine RunL.op rfl rfl (OpJ.mul rfl rfl ?_)
        refine asg rfl rfl ?_
        refine asg rfl rfl ?_
        refine kp [4, 5] rfl ?_
        refine Run.ret ?_
        exact ret_one (.tmp rfl (.tmp rfl .nil)) (mul_yes (by have e := sgn_same h1; rw [e.2] at g4; rw [e.2] at h5; omega)) gv
end Go.Proofs.YtdcchollplhioaaGreatDoor

namespace Go.SL
open Go
/-- Of 'rin' and a word, all but the last 'k' bits are divided. -/
structure DInv (rin word c : Int) (k : Nat) (q r : Int) : Prop where
  k64 : k ≤ 64
  r0 : 0 ≤ r
  rc : r < c
  q0 : 0 ≤ q
  qb : q < 2 ^ (64 - k)
  eq : rin * 2 ^ (64 - k) + word / 2 ^ k = q * c + r
theorem le_mul_one {a b : Int} (ha : 0 ≤ a) (hb : 1 ≤ b) : a ≤ a * b := by
  have := Int.mul_le_mul_of_nonneg_left hb ha
  rwa [Int.mul_one] at this
theorem pow_pos (k : Nat) : (0 : Int) < 2 ^ k := Int.pow_pos (by decide)
theorem DInv.start {rin word c : Int} (hr : 0 ≤ rin) (hc : rin < c) (hw : u64 word) : DInv rin word c 64 0 rin := by
  refine ⟨Nat.le_refl _, hr, hc, by omega, by simp, ?_⟩
  have : word / 2 ^ 64 = 0 := Int.ediv_eq_zero_of_lt hw.1 (by rw [show (2 : Int) ^ 64 = 18446744073709551616 from by decide]; exact hw.2)
  rw [this]; simp
theorem half_word (word : Int) (k : Nat) : word / 2 ^ k = 2 * (word / 2 ^ (k + 1)) + (word / 2 ^ k) % 2 := by
  have : word / 2 ^ (k + 1) = word / 2 ^ k / 2 := by
    rw [Int.pow_succ, Int.ediv_ediv_of_nonneg (Int.le_of_lt (pow_pos k))]
  rw [this]; omega
theorem pow_half {k : Nat} (h : k + 1 ≤ 64) : (2 : Int) ^ (64 - k) = 2 * 2 ^ (64 - (k + 1)) := by
  rw [show 64 - k = (64 - (k + 1)) + 1 by omega, Int.pow_succ]; omega
theorem DInv.step {rin word c q r : Int} {k : Nat} (h : DInv rin word c (k + 1) q r) (hk : k + 1 ≤ 64) :
    (c ≤ 2 * r + (word / 2 ^ k) % 2 → DInv rin word c k (2 * q + 1) (2 * r + (word / 2 ^ k) % 2 - c)) ∧
    (2 * r + (word / 2 ^ k) % 2 < c → DInv rin word c k (2 * q) (2 * r + (word / 2 ^ k) % 2)) := by
  have hp := pow_half hk
  have he := h.eq
  have hw := half_word word k
  have hq := h.qb
  have h0 := h.q0
  have hr0 := h.r0
  have hrc := h.rc
  have hb : 0 ≤ (word / 2 ^ k) % 2 ∧ (word / 2 ^ k) % 2 ≤ 1 := by omega
  generalize (word / 2 ^ k) % 2 = b at *
  generalize hpp : (2 : Int) ^ (64 - (k + 1)) = p at *
  have key : rin * 2 ^ (64 - k) + word / 2 ^ k = 2 * (q * c) + (2 * r + b) := by
    rw [hp, hw]
    have : rin * (2 * p) = 2 * (rin * p) := by rw [Int.mul_left_comm]
    rw [this]; omega
  constructor
  · intro hge
    refine ⟨by omega, by omega, by omega, by omega, by rw [hp]; omega, ?_⟩
    rw [key, Int.add_mul, Int.mul_assoc]; omega
  · intro hlt
    refine ⟨by omega, ?_, by omega, by omega, by rw [hp]; omega, ?_⟩
    · omega
    · rw [key, Int.mul_assoc]
theorem DInv.last {rin word c q : Int} {k : Nat} (h : DInv rin word c k q 0) (hz : word % 2 ^ k = 0) : DInv rin word c 0 (q * 2 ^ k) 0 := by
  have hk := h.k64
  have hpos := pow_pos k
  have he := h.eq
  have hw : word = word / 2 ^ k * 2 ^ k := by
    have := Int.mul_ediv_add_emod word (2 ^ k)
    rw [hz, Int.add_zero, Int.mul_comm] at this
    exact this.symm
  have hpw : (2 : Int) ^ 64 = 2 ^ (64 - k) * 2 ^ k := by rw [← Int.pow_add]; congr 1; omega
  refine ⟨by omega, by omega, h.rc, Int.mul_nonneg h.q0 (Int.le_of_lt hpos), ?_, ?_⟩
  · rw [Nat.sub_zero, hpw]; exact Int.mul_lt_mul_of_pos_right h.qb hpos
  · rw [Nat.sub_zero, hpw, Int.pow_zero, Int.ediv_one]
    have e1 : rin * (2 ^ (64 - k) * 2 ^ k) = rin * 2 ^ (64 - k) * 2 ^ k := by rw [Int.mul_assoc]
    rw [e1]
    have e2 : rin * 2 ^ (64 - k) * 2 ^ k + word = (rin * 2 ^ (64 - k) + word / 2 ^ k) * 2 ^ k := by rw [Int.add_mul, ← hw]
    rw [e2, he, Int.add_zero, Int.add_zero, Int.mul_right_comm]
theorem DInv.done {rin word c q r : Int} (h : DInv rin word c 0 q r) : q = (rin * 18446744073709551616 + word) / c ∧ r = (rin * 18446744073709551616 + word) % c := by
  have he := h.eq
  rw [Nat.sub_zero, Int.pow_zero, Int.ediv_one, show (2 : Int) ^ 64 = 18446744073709551616 from by decide] at he
  have hc : 0 < c := by have := h.r0; have := h.rc; omega
  have := (Int.ediv_emod_unique (a := rin * 18446744073709551616 + word) (b := c) (q := q) (r := r) hc).2 ⟨by rw [he, Int.mul_comm c q]; omega, h.r0, h.rc⟩
  exact ⟨this.1.symm, this.2.symm⟩
theorem DInv.q64 {rin word c q r : Int} {k : Nat} (h : DInv rin word c k q r) : u64 q := by
  refine ⟨h.q0, ?_⟩
  have h1 := h.qb
  have h2 : (2 : Int) ^ (64 - k) ≤ 2 ^ 64 := by
    have e : (2 : Int) ^ 64 = 2 ^ (64 - k) * 2 ^ (64 - (64 - k)) := by rw [← Int.pow_add]; congr 1; have := h.k64; omega
    rw [e]
    have := pow_pos (64 - (64 - k))
    have := pow_pos (64 - k)
    exact le_mul_one (by omega) (by omega)
  have h3 : (2 : Int) ^ 64 = 18446744073709551616 := by decide
  omega
theorem DInv.half {rin word c q r : Int} {k : Nat} (h : DInv rin word c (k + 1) q r) : 2 * q + 1 < 18446744073709551616 := by
  have h1 := h.qb
  have hk := h.k64
  have h2 : 2 * (2 : Int) ^ (64 - (k + 1)) ≤ 2 ^ 64 := by
    rw [← pow_half hk]
    have e : (2 : Int) ^ 64 = 2 ^ (64 - k) * 2 ^ (64 - (64 - k)) := by rw [← Int.pow_add]; congr 1; omega
    rw [e]
    have := pow_pos (64 - (64 - k))
    have := pow_pos (64 - k)
    exact le_mul_one (by omega) (by omega)
  have h3 : (2 : Int) ^ 64 = 18446744073709551616 := by decide
  omega

theorem shl_zero {word : Int} {k : Nat} (hw : u64 word) (hk : k ≤ 64) : word * 2 ^ (64 - k) % 18446744073709551616 = 0 ↔ word % 2 ^ k = 0 := by
  have e : (18446744073709551616 : Int) = 2 ^ k * 2 ^ (64 - k) := by
    rw [← Int.pow_add, show k + (64 - k) = 64 by omega]; decide
  rw [e, Int.mul_comm word, Int.mul_comm (2 ^ k), Int.mul_emod_mul_of_pos _ _ (pow_pos _)]
  constructor
  · intro h
    rcases Int.mul_eq_zero.1 h with h | h
    · have := pow_pos (64 - k); omega
    · exact h
  · intro h; rw [h]; simp
theorem or_bit {x b : Int} (hx : 0 ≤ x) (hb : 0 ≤ b ∧ b ≤ 1) : (((x * 2).toNat ||| b.toNat : Nat) : Int) = x * 2 + b := by
  have := or_add (x := x) (y := b) (k := 1) hx hb.1 (by omega)
  simpa using this

section
variable {P : Program} {β : Base} {E : Env} {L : List HP} {K : Value → List HP → Prop} {d : Option Tmp} {ty : TypeId} {pos : String} {af : Array Edge} {g : Option (Nat × Bool)} {x y : Operand} {t t' : TypeId} {m n : Int} {k' : IntKind}
theorem OpJ.shrV {k : Nat} (hx : E.ev x = some (U m)) (hy : E.ev y = some (.int k' n)) (hn : n = (k : Int)) (hk : k ≤ 64) (h : K (U (m / 2 ^ k)) L) : OpJ P β E L ⟨d, .binOp .shr t x y t', ty, pos, af, g⟩ K := by
  subst hn; exact OpJ.shrU hx hy hk h
theorem OpJ.shlV {k : Nat} (hx : E.ev x = some (U m)) (hy : E.ev y = some (.int k' n)) (hn : n = (k : Int)) (hk : k ≤ 64) (h : K (U (m * 2 ^ k % 18446744073709551616)) L) : OpJ P β E L ⟨d, .binOp .shl t x y t', ty, pos, af, g⟩ K := by
  subst hn; exact OpJ.shl hx hy (by omega) (by rw [shl_u64 m k hk]; exact h)
theorem OpJ.shl1 (hx : E.ev x = some (U m)) (hy : E.ev y = some (.int k' 1)) (h : K (U (m * 2 % 18446744073709551616)) L) : OpJ P β E L ⟨d, .binOp .shl t x y t', ty, pos, af, g⟩ K :=
  OpJ.shlV (k := 1) hx hy rfl (by omega) (by simpa using h)
/-- A doubled word and a bit. -/
theorem OpJ.orBit {a : Int} (hx : E.ev x = some (U m)) (hy : E.ev y = some (U n)) (hm : m = a * 2) (ha : 0 ≤ a ∧ a < 9223372036854775808) (hn : 0 ≤ n ∧ n ≤ 1) (h : K (U (a * 2 + n)) L) : OpJ P β E L ⟨d, .binOp .or t x y t', ty, pos, af, g⟩ K :=
  OpJ.bor hx hy (by
    subst hm
    rw [or_u64 _ _ (by constructor <;> omega) (by constructor <;> omega), or_bit ha.1 hn]; exact h)
end

theorem getset {l : List Value} {i : Nat} {v : Value} (h : i < l.length) : (l.set i v)[0 + ((i : Nat) : Int).toNat]? = some v := by simp [h]
theorem div_u64 {w : Int} (h : u64 w) (k : Nat) : u64 (w / 2 ^ k) := by
  refine ⟨Int.ediv_nonneg h.1 (Int.le_of_lt (pow_pos k)), ?_⟩
  have := Int.ediv_le_self (b := 2 ^ k) h.1
  omega
/-- Between the words. -/
def OI (hi lo c : Int) (i : Nat) (q0 q1 r : Int) : Prop :=
  (i = 0 → q0 = 0 ∧ q1 = 0 ∧ r = 0) ∧ (i = 1 → q0 = hi / c ∧ q1 = 0 ∧ r = hi % c) ∧ (i = 2 → q0 = hi / c ∧ q1 = (hi % c * 18446744073709551616 + lo) / c ∧ r = (hi % c * 18446744073709551616 + lo) % c)
theorem OI.zero {hi lo c : Int} : OI hi lo c 0 0 0 0 := ⟨fun _ => ⟨rfl, rfl, rfl⟩, fun h => by omega, fun h => by omega⟩
theorem OI.next {hi lo c : Int} {i : Nat} {q0 q1 r : Int} (hhi : u64 hi) (hlo : u64 lo) (hc : 0 < c) (h : OI hi lo c i q0 q1 r) (hi2 : i < 2) :
    ∃ w, u64 w ∧ [U hi, U lo][i]? = some (U w) ∧ [U q0, U q1] = [U q0, U q1].set i (U 0) ∧ 0 ≤ r ∧ r < c ∧
      (∀ q r', DInv r w c 0 q r' → ∃ q0' q1', [U q0, U q1].set i (U q) = [U q0', U q1'] ∧ OI hi lo c (i + 1) q0' q1' r') := by
  match i, hi2 with
  | 0, _ =>
    obtain ⟨rfl, rfl, rfl⟩ := h.1 rfl
    refine ⟨hi, hhi, rfl, rfl, by omega, hc, fun q r' hd => ⟨q, 0, rfl, fun h => by omega, fun _ => ?_, fun h => by omega⟩⟩
    have := hd.done
    rw [Int.zero_mul, Int.zero_add] at this
    exact ⟨this.1, rfl, this.2⟩
  | 1, _ =>
    obtain ⟨rfl, rfl, rfl⟩ := h.2.1 rfl
    exact ⟨lo, hlo, rfl, rfl, Int.emod_nonneg _ (by omega), Int.emod_lt_of_pos _ hc, fun q r' hd => ⟨hi / c, q, rfl, fun h => by omega, fun h => by omega, fun _ => ⟨rfl, hd.done.1, hd.done.2⟩⟩⟩
theorem OI.ret {hi lo c q0 q1 r : Int} (hlo : u64 lo) (hc : 0 < c) (h : OI hi lo c 2 q0 q1 r) : tup [.agg ⟨[U q0, U q1]⟩, U r] = .tuple ⟨[.agg ⟨[U ((hi * 18446744073709551616 + lo) / c / 18446744073709551616), U ((hi * 18446744073709551616 + lo) / c % 18446744073709551616)]⟩, U ((hi * 18446744073709551616 + lo) % c)]⟩ := by
  obtain ⟨rfl, h1, h2⟩ := h.2.2 rfl
  have hm := Int.emod_nonneg hi (show c ≠ 0 by omega)
  have hl := Int.emod_lt_of_pos hi hc
  have he := Int.mul_ediv_add_emod hi c
  generalize hx : hi / c = x at *
  generalize hy : hi % c = y at *
  have hs0 : 0 ≤ y * 18446744073709551616 + lo := by omega
  have hq0 : 0 ≤ q1 := by rw [h1]; exact Int.ediv_nonneg hs0 (by omega)
  have hq1 : q1 < 18446744073709551616 := by
    rw [h1]; refine Int.ediv_lt_of_lt_mul hc ?_
    have : (y + 1) * 18446744073709551616 ≤ c * 18446744073709551616 := Int.mul_le_mul_of_nonneg_right (by omega) (by decide)
    omega
  have hr0 : 0 ≤ r := by rw [h2]; exact Int.emod_nonneg _ (by omega)
  have hr1 : r < c := by rw [h2]; exact Int.emod_lt_of_pos _ hc
  have hd := Int.mul_ediv_add_emod (y * 18446744073709551616 + lo) c
  rw [← h1, ← h2] at hd
  have hu := (Int.ediv_emod_unique (a := hi * 18446744073709551616 + lo) (b := c) (q := x * 18446744073709551616 + q1) (r := r) hc).2 ⟨by
    rw [← he, Int.mul_add, Int.add_mul]
    rw [← Int.mul_assoc]
    omega, hr0, hr1⟩
  rw [hu.1, hu.2]
  rw [show (x * 18446744073709551616 + q1) / 18446744073709551616 = x by omega, show (x * 18446744073709551616 + q1) % 18446744073709551616 = q1 by omega]
  rfl
end Go.SL

namespace Go.Proofs.YtdcchollplhioaaGreatDoor
open Go Go.SL Go.Proofs
theorem A135 : AI Tryz.prog 135 133 2 := .of (by kernel_rfl) (by kernel_rfl)
theorem T133 : TI Tryz.prog 133 false 1 := .of (by kernel_rfl)
-- muldiv.divide
theorem ac152 (hi lo c : Int) (hhi : u64 hi) (hlo : u64 lo) (hc : 0 < c) (hcu : u64 c) : AC Tryz.prog 152 ⟨[.agg ⟨[U hi, U lo]⟩, U c]⟩ (stars []) (Ret (.tuple ⟨[.agg ⟨[U ((hi * 18446744073709551616 + lo) / c / 18446744073709551616), U ((hi * 18446744073709551616 + lo) / c % 18446744073709551616)]⟩, U ((hi * 18446744073709551616 + lo) % c)]⟩) []) := by
  refine AC.go Tryz.func152 rfl (Nat.le_of_ble_eq_true rfl) fun β => ?_
  refine sr ?_
  refine RunL.op rfl rfl (OpJ.boxA rfl fun b2 => ?_)
  refine RunL.op rfl rfl (OpJ.alloc Z135 fun b4 => ?_)
  refine asg rfl rfl ?_
  refine kp [1, 2, 4, 5] rfl ?_
  refine Run.scope ?_
  refine Run.seq ?_
  refine Run.label ?_
  refine Run.seq ?_
  refine sr ?_
  first | refine RunL.op rfl rfl (OpJ.loadW T135 rfl pk (by rfl) ?_) | refine RunL.op rfl rfl (OpJ.loadP T135 rfl pk (by simp) ?_) | refine RunL.op rfl rfl (OpJ.loadE T135 rfl pk (by assumption) (by exact fun _ => rfl) rfl (by decide) ?_)
  refine mvo rfl rfl ?_
  refine kp [1, 4, 5, 10, 11] rfl ?_
  refine Run.block ?_
  refine Run.weak (L' := [pt b4 (blk [U 0, U 0] 135)]) (fun _ _ h => h) gv ?_
  refine Run.loop (fun m E L => ∃ i : Nat, ∃ q0 q1 r : Int, m = 2 - i ∧ i ≤ 2 ∧ OI hi lo c i q0 q1 r ∧ E = [(1, U c), (4, .pointer (some ⟨b4, 0, none⟩)), (5, U r), (10, .agg ⟨[U hi, U lo]⟩), (11, I i)] ∧ L = [pt b4 (blk [U q0, U q1] 135)]) ⟨_, 0, 0, 0, 0, rfl, by omega, OI.zero, rfl, rfl⟩ ?_
  rintro _ _ _ ⟨i, q0, q1, r, rfl, hi2, hO, rfl, rfl⟩
  refine sr ?_
  refine RunL.op rfl rfl (OpJ.lss rfl rfl ?_)
  refine kp [1, 4, 5, 10, 11, 12] rfl ?_
  refine Run.seq ?_
  first | refine Run.if rfl (fun h1 => ?_) (fun h1 => ?_) | refine Run.cond rfl (fun h1 => ?_) (fun h1 => ?_)
  · skip
    refine Run.skip ?_
    refine Run.seq ?_
    refine Run.block ?_
    refine sr ?_
    obtain ⟨w, hw64, hwv, hqi, hr0, hrc, hnext⟩ := OI.next hhi hlo hc hO (by omega)
    refine mvo rfl rfl ?_
    refine RunL.op rfl rfl (OpJ.indexArr A135 rfl rfl (by omega) hwv ?_)
    refine asg rfl rfl ?_
    refine asg rfl rfl ?_
    refine kp [1, 4, 5, 6, 7, 10, 11] rfl ?_
    refine sr ?_
    refine asg rfl rfl ?_
    refine kp [1, 4, 5, 6, 7, 8, 10, 11] rfl ?_
    refine Run.block ?_
    rw [hqi]
    refine Run.loop (fun m E L => ∃ k : Nat, ∃ q s : Int, k = m ∧ DInv r w c k q s ∧ E = [(1, U c), (4, .pointer (some ⟨b4, 0, none⟩)), (5, U s), (6, I i), (7, U w), (8, I ((k : Int) - 1)), (10, .agg ⟨[U hi, U lo]⟩), (11, I i)] ∧ L = [pt b4 (blk ([U q0, U q1].set i (U q)) 135)]) ⟨_, 64, 0, r, rfl, DInv.start hr0 hrc hw64, rfl, rfl⟩ ?_
    rintro _ _ _ ⟨k, q, s, rfl, hD, rfl, rfl⟩
    refine Run.seq ?_
    refine sr ?_
    refine mvo rfl rfl ?_
    refine RunL.op rfl rfl (OpJ.geq rfl rfl ?_)
    refine kp [1, 4, 5, 6, 7, 8, 10, 11, 16] rfl ?_
    first | refine Run.if rfl (fun h2 => ?_) (fun h2 => ?_) | refine Run.cond rfl (fun h2 => ?_) (fun h2 => ?_)
    · skip
      refine Run.skip ?_
      refine Run.seq ?_
      refine Run.block ?_
      refine Run.seq ?_
      refine sr ?_
      obtain ⟨j, rfl⟩ : ∃ j, k = j + 1 := ⟨k - 1, by omega⟩
      have hj := hD.k64; have hq64 := hD.q64; have hs0 := hD.r0; have hsc := hD.rc; have hqh := hD.half
      refine mvo rfl rfl ?_
      refine RunL.op rfl rfl (OpJ.eql rfl rfl ?_)
      refine mvo rfl rfl ?_
      first | refine RunL.splitP (t := 21) rfl (fun g3 => ?_) (fun g3 => ?_) | refine RunL.split (t := 21) rfl (fun g3 => ?_) (fun g3 => ?_)
      · skip
        refine RunL.yes rfl rfl rfl rfl (OpJ.move rfl ?_)
        refine RunL.yes rfl rfl rfl rfl (OpJ.move rfl ?_)
        first | refine RunL.yes rfl rfl rfl rfl (OpJ.subI rfl rfl (by omega) ?_) | refine RunL.yes rfl rfl rfl rfl (OpJ.sub rfl rfl ?_)
        refine RunL.yes rfl rfl rfl rfl (OpJ.shlV (k := 64 - (j + 1)) rfl rfl (by omega) (by omega) ?_)
        refine RunL.yes rfl rfl rfl rfl (OpJ.eql rfl rfl ?_)
        refine RunL.op rfl rfl (OpJ.pickT rfl rfl ?_)
        refine kp [1, 4, 5, 6, 7, 8, 10, 11, 27] rfl ?_
        first | refine Run.if rfl (fun h4 => ?_) (fun h4 => ?_) | refine Run.cond rfl (fun h4 => ?_) (fun h4 => ?_)
        · skip
          refine sr ?_
          refine mvo rfl rfl ?_
          refine RunL.op rfl rfl (OpJ.indexAddrArr A135 rfl rfl (by omega) ?_)
          refine RunL.op rfl rfl (OpJ.loadF T133 rfl pk (getset (l := [U q0, U q1]) (show i < 2 by omega)) ?_)
          refine mvo rfl rfl ?_
          first | refine RunL.op rfl rfl (OpJ.addI rfl rfl (by omega) ?_) | refine RunL.op rfl rfl (OpJ.add rfl rfl ?_)
          refine RunL.op rfl rfl (OpJ.shlV (k := j + 1) rfl rfl (by omega) (by omega) ?_)
          have hfin : DInv r w c 0 (q * 2 ^ (j + 1)) s := by have h := DInv.last (g3 ▸ hD) ((shl_zero hw64 hj).1 h4); rw [g3]; exact h
          refine RunL.set (congrArg U (Int.emod_eq_of_lt hfin.q64.1 hfin.q64.2)) ?_
          refine RunL.op rfl rfl (OpJ.indexAddrArr A135 rfl rfl (by omega) ?_)
          refine RunL.op rfl rfl (OpJ.store1 T133 rfl rfl rfl up (by simp; omega) ?_)
          simp only [Int.toNat_natCast, Nat.zero_add, List.set_set]
          refine kp [1, 4, 5, 10, 11] rfl ?_
          refine Run.exit ?_
          refine Run.region ?_
          first | (have hfin0 := hfin) | (obtain rfl : k = 0 := (by omega); have hfin := hD)
          obtain ⟨q0', q1', hL, hO'⟩ := hnext _ _ hfin
          rw [hL]
          first | refine RunL.op rfl rfl (OpJ.addI rfl rfl (by omega) ?_) | refine RunL.op rfl rfl (OpJ.add rfl rfl ?_)
          refine mvo rfl rfl ?_
          refine RunL.weak (L' := [pt b4 (blk [U q0', U q1'] 135)]) (Keep.sub (kt (ks := [1, 4, 5, 10, 11]) rfl)) gv (RunL.nil ?_)
          exact ⟨_, by omega, i + 1, q0', q1', _, rfl, by omega, hO', rfl, rfl⟩
        · skip
          refine Run.skip ?_
          refine sr ?_
          refine mvo rfl rfl ?_
          refine RunL.op rfl rfl (OpJ.shrU (k := 63) rfl rfl (by omega) ?_)
          refine asg rfl rfl ?_
          refine kp [1, 4, 5, 6, 7, 8, 9, 10, 11] rfl ?_
          refine sr ?_
          refine mvo rfl rfl ?_
          refine RunL.op rfl rfl (OpJ.shl1 rfl rfl ?_)
          refine mvo rfl rfl ?_
          refine mvo rfl rfl ?_
          refine RunL.op rfl rfl (OpJ.shrV (k := j) rfl rfl (by omega) (by omega) ?_)
          refine RunL.op rfl rfl (OpJ.oneU rfl rfl (div_u64 hw64 j) ?_)
          refine RunL.op rfl rfl (OpJ.orBit (a := s % 9223372036854775808) rfl rfl (by omega) (by omega) (by constructor <;> omega) ?_)
          refine asg rfl rfl ?_
          refine kp [1, 4, 5, 6, 7, 8, 9, 10, 11] rfl ?_
          refine sr ?_
          refine mvo rfl rfl ?_
          refine RunL.op rfl rfl (OpJ.indexAddrArr A135 rfl rfl (by omega) ?_)
          refine RunL.op rfl rfl (OpJ.loadF T133 rfl pk (getset (l := [U q0, U q1]) (show i < 2 by omega)) ?_)
          refine RunL.op rfl rfl (OpJ.shl1 rfl rfl ?_)
          refine RunL.op rfl rfl (OpJ.indexAddrArr A135 rfl rfl (by omega) ?_)
          refine RunL.op rfl rfl (OpJ.store1 T133 rfl rfl rfl up (by simp; omega) ?_)
          simp only [Int.toNat_natCast, Nat.zero_add, List.set_set]
          refine kp [1, 4, 5, 6, 7, 8, 9, 10, 11] rfl ?_
          refine sr ?_
          refine mvo rfl rfl ?_
          refine RunL.op rfl rfl (OpJ.eql rfl rfl ?_)
          refine mvo rfl rfl ?_
          first | refine RunL.splitP (t := 51) rfl (fun g5 => ?_) (fun g5 => ?_) | refine RunL.split (t := 51) rfl (fun g5 => ?_) (fun g5 => ?_)
          · skip
            refine RunL.no rfl rfl rfl rfl ?_
            refine RunL.no rfl rfl rfl rfl ?_
            refine RunL.no rfl rfl rfl rfl ?_
            refine RunL.op rfl rfl (OpJ.pickT rfl rfl ?_)
            refine kp [1, 4, 5, 6, 7, 8, 10, 11, 55] rfl ?_
            refine Run.true rfl ?_
            refine sr ?_
            refine mvo rfl rfl ?_
            refine mvo rfl rfl ?_
            refine RunL.op rfl rfl (OpJ.sub rfl rfl ?_)
            refine asg rfl rfl ?_
            refine kp [1, 4, 5, 6, 7, 8, 10, 11] rfl ?_
            refine Run.region ?_
            refine mvo rfl rfl ?_
            refine RunL.op rfl rfl (OpJ.indexAddrArr A135 rfl rfl (by omega) ?_)
            refine RunL.op rfl rfl (OpJ.loadF T133 rfl pk (getset (l := [U q0, U q1]) (show i < 2 by omega)) ?_)
            refine RunL.op rfl rfl (OpJ.orBit (a := q) rfl rfl (by omega) (by omega) (by omega) ?_)
            refine RunL.op rfl rfl (OpJ.indexAddrArr A135 rfl rfl (by omega) ?_)
            refine RunL.op rfl rfl (OpJ.store1 T133 rfl rfl rfl up (by simp; omega) ?_)
            simp only [Int.toNat_natCast, Nat.zero_add, List.set_set]
            refine kp [1, 4, 5, 6, 7, 8, 10, 11] rfl ?_
            refine Run.region ?_
            have hb := lo32 0; have hbit : 0 ≤ w / 2 ^ j % 2 ∧ w / 2 ^ j % 2 ≤ 1 := by constructor <;> omega
            first | have hnew : DInv r w c j (q * 2 + 1) (IntKind.u64.wrap (s % 9223372036854775808 * 2 + w / 2 ^ j % 2 - c)) := (by have e := wrap_u64 (s % 9223372036854775808 * 2 + w / 2 ^ j % 2 - c); rw [e, show (s % 9223372036854775808 * 2 + w / 2 ^ j % 2 - c) % 18446744073709551616 = 2 * s + w / 2 ^ j % 2 - c by omega, Int.mul_comm q 2]; exact (hD.step hj).1 (by omega)) | have hnew : DInv r w c j (q * 2 % 18446744073709551616) (s % 9223372036854775808 * 2 + w / 2 ^ j % 2) := (by rw [show q * 2 % 18446744073709551616 = 2 * q by omega, show s % 9223372036854775808 * 2 + w / 2 ^ j % 2 = 2 * s + w / 2 ^ j % 2 by omega]; exact (hD.step hj).2 (by omega))
            refine mvo rfl rfl ?_
            first | refine RunL.op rfl rfl (OpJ.subI rfl rfl (by omega) ?_) | refine RunL.op rfl rfl (OpJ.sub rfl rfl ?_)
            refine asg rfl rfl ?_
            refine RunL.set (congrArg I (show ((j + 1 : Nat) : Int) - 1 - 1 = (j : Int) - 1 by omega)) ?_
            refine RunL.weak (L' := [pt b4 (blk ([U q0, U q1].set i (U (q * 2 + 1))) 135)]) (Keep.sub (kt (ks := [1, 4, 5, 6, 7, 8, 10, 11]) rfl)) gv (RunL.nil ?_)
            exact ⟨_, by omega, j, _, _, rfl, hnew, rfl, rfl⟩
          · skip
            refine RunL.yes rfl rfl rfl rfl (OpJ.move rfl ?_)
            refine RunL.yes rfl rfl rfl rfl (OpJ.move rfl ?_)
            refine RunL.yes rfl rfl rfl rfl (OpJ.geq rfl rfl ?_)
            refine RunL.op rfl rfl (OpJ.pickF rfl rfl ?_)
            refine kp [1, 4, 5, 6, 7, 8, 10, 11, 55] rfl ?_
            first | refine Run.if rfl (fun h6 => ?_) (fun h6 => ?_) | refine Run.cond rfl (fun h6 => ?_) (fun h6 => ?_)
            · skip
              refine sr ?_
              refine mvo rfl rfl ?_
              refine mvo rfl rfl ?_
              refine RunL.op rfl rfl (OpJ.sub rfl rfl ?_)
              refine asg rfl rfl ?_
              refine kp [1, 4, 5, 6, 7, 8, 10, 11] rfl ?_
              refine Run.region ?_
              refine mvo rfl rfl ?_
              refine RunL.op rfl rfl (OpJ.indexAddrArr A135 rfl rfl (by omega) ?_)
              refine RunL.op rfl rfl (OpJ.loadF T133 rfl pk (getset (l := [U q0, U q1]) (show i < 2 by omega)) ?_)
              refine RunL.op rfl rfl (OpJ.orBit (a := q) rfl rfl (by omega) (by omega) (by omega) ?_)
              refine RunL.op rfl rfl (OpJ.indexAddrArr A135 rfl rfl (by omega) ?_)
              refine RunL.op rfl rfl (OpJ.store1 T133 rfl rfl rfl up (by simp; omega) ?_)
              simp only [Int.toNat_natCast, Nat.zero_add, List.set_set]
              refine kp [1, 4, 5, 6, 7, 8, 10, 11] rfl ?_
              refine Run.region ?_
              have hb := lo32 0; have hbit : 0 ≤ w / 2 ^ j % 2 ∧ w / 2 ^ j % 2 ≤ 1 := by constructor <;> omega
              first | have hnew : DInv r w c j (q * 2 + 1) (IntKind.u64.wrap (s % 9223372036854775808 * 2 + w / 2 ^ j % 2 - c)) := (by have e := wrap_u64 (s % 9223372036854775808 * 2 + w / 2 ^ j % 2 - c); rw [e, show (s % 9223372036854775808 * 2 + w / 2 ^ j % 2 - c) % 18446744073709551616 = 2 * s + w / 2 ^ j % 2 - c by omega, Int.mul_comm q 2]; exact (hD.step hj).1 (by omega)) | have hnew : DInv r w c j (q * 2 % 18446744073709551616) (s % 9223372036854775808 * 2 + w / 2 ^ j % 2) := (by rw [show q * 2 % 18446744073709551616 = 2 * q by omega, show s % 9223372036854775808 * 2 + w / 2 ^ j % 2 = 2 * s + w / 2 ^ j % 2 by omega]; exact (hD.step hj).2 (by omega))
              refine mvo rfl rfl ?_
              first | refine RunL.op rfl rfl (OpJ.subI rfl rfl (by omega) ?_) | refine RunL.op rfl rfl (OpJ.sub rfl rfl ?_)
              refine asg rfl rfl ?_
              refine RunL.set (congrArg I (show ((j + 1 : Nat) : Int) - 1 - 1 = (j : Int) - 1 by omega)) ?_
              refine RunL.weak (L' := [pt b4 (blk ([U q0, U q1].set i (U (q * 2 + 1))) 135)]) (Keep.sub (kt (ks := [1, 4, 5, 6, 7, 8, 10, 11]) rfl)) gv (RunL.nil ?_)
              exact ⟨_, by omega, j, _, _, rfl, hnew, rfl, rfl⟩
            · skip
              refine Run.skip ?_
              refine Run.region ?_
              have hb := lo32 0; have hbit : 0 ≤ w / 2 ^ j % 2 ∧ w / 2 ^ j % 2 ≤ 1 := by constructor <;> omega
              first | have hnew : DInv r w c j (q * 2 + 1) (IntKind.u64.wrap (s % 9223372036854775808 * 2 + w / 2 ^ j % 2 - c)) := (by have e := wrap_u64 (s % 9223372036854775808 * 2 + w / 2 ^ j % 2 - c); rw [e, show (s % 9223372036854775808 * 2 + w / 2 ^ j % 2 - c) % 18446744073709551616 = 2 * s + w / 2 ^ j % 2 - c by omega, Int.mul_comm q 2]; exact (hD.step hj).1 (by omega)) | have hnew : DInv r w c j (q * 2 % 18446744073709551616) (s % 9223372036854775808 * 2 + w / 2 ^ j % 2) := (by rw [show q * 2 % 18446744073709551616 = 2 * q by omega, show s % 9223372036854775808 * 2 + w / 2 ^ j % 2 = 2 * s + w / 2 ^ j % 2 by omega]; exact (hD.step hj).2 (by omega))
              refine mvo rfl rfl ?_
              first | refine RunL.op rfl rfl (OpJ.subI rfl rfl (by omega) ?_) | refine RunL.op rfl rfl (OpJ.sub rfl rfl ?_)
              refine asg rfl rfl ?_
              refine RunL.set (congrArg I (show ((j + 1 : Nat) : Int) - 1 - 1 = (j : Int) - 1 by omega)) ?_
              refine RunL.weak (L' := [pt b4 (blk ([U q0, U q1].set i (U (q * 2 % 18446744073709551616))) 135)]) (Keep.sub (kt (ks := [1, 4, 5, 6, 7, 8, 10, 11]) rfl)) gv (RunL.nil ?_)
              exact ⟨_, by omega, j, _, _, rfl, hnew, rfl, rfl⟩
      · skip
        refine RunL.no rfl rfl rfl rfl ?_
        refine RunL.no rfl rfl rfl rfl ?_
        refine RunL.no rfl rfl rfl rfl ?_
        refine RunL.no rfl rfl rfl rfl ?_
        refine RunL.no rfl rfl rfl rfl ?_
        refine RunL.op rfl rfl (OpJ.pickF rfl rfl ?_)
        refine kp [1, 4, 5, 6, 7, 8, 10, 11, 27] rfl ?_
        refine Run.false rfl ?_
        refine Run.skip ?_
        refine sr ?_
        refine mvo rfl rfl ?_
        refine RunL.op rfl rfl (OpJ.shrU (k := 63) rfl rfl (by omega) ?_)
        refine asg rfl rfl ?_
        refine kp [1, 4, 5, 6, 7, 8, 9, 10, 11] rfl ?_
        refine sr ?_
        refine mvo rfl rfl ?_
        refine RunL.op rfl rfl (OpJ.shl1 rfl rfl ?_)
        refine mvo rfl rfl ?_
        refine mvo rfl rfl ?_
        refine RunL.op rfl rfl (OpJ.shrV (k := j) rfl rfl (by omega) (by omega) ?_)
        refine RunL.op rfl rfl (OpJ.oneU rfl rfl (div_u64 hw64 j) ?_)
        refine RunL.op rfl rfl (OpJ.orBit (a := s % 9223372036854775808) rfl rfl (by omega) (by omega) (by constructor <;> omega) ?_)
        refine asg rfl rfl ?_
        refine kp [1, 4, 5, 6, 7, 8, 9, 10, 11] rfl ?_
        refine sr ?_
        refine mvo rfl rfl ?_
        refine RunL.op rfl rfl (OpJ.indexAddrArr A135 rfl rfl (by omega) ?_)
        refine RunL.op rfl rfl (OpJ.loadF T133 rfl pk (getset (l := [U q0, U q1]) (show i < 2 by omega)) ?_)
        refine RunL.op rfl rfl (OpJ.shl1 rfl rfl ?_)
        refine RunL.op rfl rfl (OpJ.indexAddrArr A135 rfl rfl (by omega) ?_)
        refine RunL.op rfl rfl (OpJ.store1 T133 rfl rfl rfl up (by simp; omega) ?_)
        simp only [Int.toNat_natCast, Nat.zero_add, List.set_set]
        refine kp [1, 4, 5, 6, 7, 8, 9, 10, 11] rfl ?_
        refine sr ?_
        refine mvo rfl rfl ?_
        refine RunL.op rfl rfl (OpJ.eql rfl rfl ?_)
        refine mvo rfl rfl ?_
        first | refine RunL.splitP (t := 51) rfl (fun g7 => ?_) (fun g7 => ?_) | refine RunL.split (t := 51) rfl (fun g7 => ?_) (fun g7 => ?_)
        · skip
          refine RunL.no rfl rfl rfl rfl ?_
          refine RunL.no rfl rfl rfl rfl ?_
          refine RunL.no rfl rfl rfl rfl ?_
          refine RunL.op rfl rfl (OpJ.pickT rfl rfl ?_)
          refine kp [1, 4, 5, 6, 7, 8, 10, 11, 55] rfl ?_
          refine Run.true rfl ?_
          refine sr ?_
          refine mvo rfl rfl ?_
          refine mvo rfl rfl ?_
          refine RunL.op rfl rfl (OpJ.sub rfl rfl ?_)
          refine asg rfl rfl ?_
          refine kp [1, 4, 5, 6, 7, 8, 10, 11] rfl ?_
          refine Run.region ?_
          refine mvo rfl rfl ?_
          refine RunL.op rfl rfl (OpJ.indexAddrArr A135 rfl rfl (by omega) ?_)
          refine RunL.op rfl rfl (OpJ.loadF T133 rfl pk (getset (l := [U q0, U q1]) (show i < 2 by omega)) ?_)
          refine RunL.op rfl rfl (OpJ.orBit (a := q) rfl rfl (by omega) (by omega) (by omega) ?_)
          refine RunL.op rfl rfl (OpJ.indexAddrArr A135 rfl rfl (by omega) ?_)
          refine RunL.op rfl rfl (OpJ.store1 T133 rfl rfl rfl up (by simp; omega) ?_)
          simp only [Int.toNat_natCast, Nat.zero_add, List.set_set]
          refine kp [1, 4, 5, 6, 7, 8, 10, 11] rfl ?_
          refine Run.region ?_
          have hb := lo32 0; have hbit : 0 ≤ w / 2 ^ j % 2 ∧ w / 2 ^ j % 2 ≤ 1 := by constructor <;> omega
          first | have hnew : DInv r w c j (q * 2 + 1) (IntKind.u64.wrap (s % 9223372036854775808 * 2 + w / 2 ^ j % 2 - c)) := (by have e := wrap_u64 (s % 9223372036854775808 * 2 + w / 2 ^ j % 2 - c); rw [e, show (s % 9223372036854775808 * 2 + w / 2 ^ j % 2 - c) % 18446744073709551616 = 2 * s + w / 2 ^ j % 2 - c by omega, Int.mul_comm q 2]; exact (hD.step hj).1 (by omega)) | have hnew : DInv r w c j (q * 2 % 18446744073709551616) (s % 9223372036854775808 * 2 + w / 2 ^ j % 2) := (by rw [show q * 2 % 18446744073709551616 = 2 * q by omega, show s % 9223372036854775808 * 2 + w / 2 ^ j % 2 = 2 * s + w / 2 ^ j % 2 by omega]; exact (hD.step hj).2 (by omega))
          refine mvo rfl rfl ?_
          first | refine RunL.op rfl rfl (OpJ.subI rfl rfl (by omega) ?_) | refine RunL.op rfl rfl (OpJ.sub rfl rfl ?_)
          refine asg rfl rfl ?_
          refine RunL.set (congrArg I (show ((j + 1 : Nat) : Int) - 1 - 1 = (j : Int) - 1 by omega)) ?_
          refine RunL.weak (L' := [pt b4 (blk ([U q0, U q1].set i (U (q * 2 + 1))) 135)]) (Keep.sub (kt (ks := [1, 4, 5, 6, 7, 8, 10, 11]) rfl)) gv (RunL.nil ?_)
          exact ⟨_, by omega, j, _, _, rfl, hnew, rfl, rfl⟩
        · skip
          refine RunL.yes rfl rfl rfl rfl (OpJ.move rfl ?_)
          refine RunL.yes rfl rfl rfl rfl (OpJ.move rfl ?_)
          refine RunL.yes rfl rfl rfl rfl (OpJ.geq rfl rfl ?_)
          refine RunL.op rfl rfl (OpJ.pickF rfl rfl ?_)
          refine kp [1, 4, 5, 6, 7, 8, 10, 11, 55] rfl ?_
          first | refine Run.if rfl (fun h8 => ?_) (fun h8 => ?_) | refine Run.cond rfl (fun h8 => ?_) (fun h8 => ?_)
          · skip
            refine sr ?_
            refine mvo rfl rfl ?_
            refine mvo rfl rfl ?_
            refine RunL.op rfl rfl (OpJ.sub rfl rfl ?_)
            refine asg rfl rfl ?_
            refine kp [1, 4, 5, 6, 7, 8, 10, 11] rfl ?_
            refine Run.region ?_
            refine mvo rfl rfl ?_
            refine RunL.op rfl rfl (OpJ.indexAddrArr A135 rfl rfl (by omega) ?_)
            refine RunL.op rfl rfl (OpJ.loadF T133 rfl pk (getset (l := [U q0, U q1]) (show i < 2 by omega)) ?_)
            refine RunL.op rfl rfl (OpJ.orBit (a := q) rfl rfl (by omega) (by omega) (by omega) ?_)
            refine RunL.op rfl rfl (OpJ.indexAddrArr A135 rfl rfl (by omega) ?_)
            refine RunL.op rfl rfl (OpJ.store1 T133 rfl rfl rfl up (by simp; omega) ?_)
            simp only [Int.toNat_natCast, Nat.zero_add, List.set_set]
            refine kp [1, 4, 5, 6, 7, 8, 10, 11] rfl ?_
            refine Run.region ?_
            have hb := lo32 0; have hbit : 0 ≤ w / 2 ^ j % 2 ∧ w / 2 ^ j % 2 ≤ 1 := by constructor <;> omega
            first | have hnew : DInv r w c j (q * 2 + 1) (IntKind.u64.wrap (s % 9223372036854775808 * 2 + w / 2 ^ j % 2 - c)) := (by have e := wrap_u64 (s % 9223372036854775808 * 2 + w / 2 ^ j % 2 - c); rw [e, show (s % 9223372036854775808 * 2 + w / 2 ^ j % 2 - c) % 18446744073709551616 = 2 * s + w / 2 ^ j % 2 - c by omega, Int.mul_comm q 2]; exact (hD.step hj).1 (by omega)) | have hnew : DInv r w c j (q * 2 % 18446744073709551616) (s % 9223372036854775808 * 2 + w / 2 ^ j % 2) := (by rw [show q * 2 % 18446744073709551616 = 2 * q by omega, show s % 9223372036854775808 * 2 + w / 2 ^ j % 2 = 2 * s + w / 2 ^ j % 2 by omega]; exact (hD.step hj).2 (by omega))
            refine mvo rfl rfl ?_
            first | refine RunL.op rfl rfl (OpJ.subI rfl rfl (by omega) ?_) | refine RunL.op rfl rfl (OpJ.sub rfl rfl ?_)
            refine asg rfl rfl ?_
            refine RunL.set (congrArg I (show ((j + 1 : Nat) : Int) - 1 - 1 = (j : Int) - 1 by omega)) ?_
            refine RunL.weak (L' := [pt b4 (blk ([U q0, U q1].set i (U (q * 2 + 1))) 135)]) (Keep.sub (kt (ks := [1, 4, 5, 6, 7, 8, 10, 11]) rfl)) gv (RunL.nil ?_)
            exact ⟨_, by omega, j, _, _, rfl, hnew, rfl, rfl⟩
          · skip
            refine Run.skip ?_
            refine Run.region ?_
            have hb := lo32 0; have hbit : 0 ≤ w / 2 ^ j % 2 ∧ w / 2 ^ j % 2 ≤ 1 := by constructor <;> omega
            first | have hnew : DInv r w c j (q * 2 + 1) (IntKind.u64.wrap (s % 9223372036854775808 * 2 + w / 2 ^ j % 2 - c)) := (by have e := wrap_u64 (s % 9223372036854775808 * 2 + w / 2 ^ j % 2 - c); rw [e, show (s % 9223372036854775808 * 2 + w / 2 ^ j % 2 - c) % 18446744073709551616 = 2 * s + w / 2 ^ j % 2 - c by omega, Int.mul_comm q 2]; exact (hD.step hj).1 (by omega)) | have hnew : DInv r w c j (q * 2 % 18446744073709551616) (s % 9223372036854775808 * 2 + w / 2 ^ j % 2) := (by rw [show q * 2 % 18446744073709551616 = 2 * q by omega, show s % 9223372036854775808 * 2 + w / 2 ^ j % 2 = 2 * s + w / 2 ^ j % 2 by omega]; exact (hD.step hj).2 (by omega))
            refine mvo rfl rfl ?_
            first | refine RunL.op rfl rfl (OpJ.subI rfl rfl (by omega) ?_) | refine RunL.op rfl rfl (OpJ.sub rfl rfl ?_)
            refine asg rfl rfl ?_
            refine RunL.set (congrArg I (show ((j + 1 : Nat) : Int) - 1 - 1 = (j : Int) - 1 by omega)) ?_
            refine RunL.weak (L' := [pt b4 (blk ([U q0, U q1].set i (U (q * 2 % 18446744073709551616))) 135)]) (Keep.sub (kt (ks := [1, 4, 5, 6, 7, 8, 10, 11]) rfl)) gv (RunL.nil ?_)
            exact ⟨_, by omega, j, _, _, rfl, hnew, rfl, rfl⟩
    · skip
      refine Run.exit ?_
      refine Run.region ?_
      first | (have hfin0 := hfin) | (obtain rfl : k = 0 := (by omega); have hfin := hD)
      obtain ⟨q0', q1', hL, hO'⟩ := hnext _ _ hfin
      rw [hL]
      first | refine RunL.op rfl rfl (OpJ.addI rfl rfl (by omega) ?_) | refine RunL.op rfl rfl (OpJ.add rfl rfl ?_)
      refine mvo rfl rfl ?_
      refine RunL.weak (L' := [pt b4 (blk [U q0', U q1'] 135)]) (Keep.sub (kt (ks := [1, 4, 5, 10, 11]) rfl)) gv (RunL.nil ?_)
      exact ⟨_, by omega, i + 1, q0', q1', _, rfl, by omega, hO', rfl, rfl⟩
  · skip
    refine Run.exit ?_
    refine sr ?_
    first | refine RunL.op rfl rfl (OpJ.loadW T135 rfl pk (by rfl) ?_) | refine RunL.op rfl rfl (OpJ.loadP T135 rfl pk (by simp) ?_) | refine RunL.op rfl rfl (OpJ.loadE T135 rfl pk (by assumption) (by exact fun _ => rfl) rfl (by decide) ?_)
    refine mvo rfl rfl ?_
    refine RunL.op rfl rfl (OpJ.storeW T135 rfl rfl rfl rfl (by simp [Value.oneCell', Pa.c, Ly.c, Mv.c, Co.c]) up ?_)
    refine asg rfl rfl ?_
    refine kp [4, 5] rfl ?_
    refine Run.ret ?_
    obtain rfl : i = 2 := by omega
    exact ret_one (.cellA T135 rfl pk (by rfl) (.tmp rfl .nil)) (OI.ret hlo hc hO) gv
end Go.Proofs.YtdcchollplhioaaGreatDoor

namespace Go.SL
open Go
def negB (a b c : Int) : Bool := decide (a * b ≠ 0) && ((decide (a < 0) != decide (b < 0)) != decide (c < 0))
def mdSize (a b c mode : Int) : Int := mag a * mag b / mag c + (if awayB mode (negB a b c) (decide (mag a * mag b / mag c % 2 = 1)) (mag a * mag b % mag c) (mag c) = true then 1 else 0)
def mdN (a b c mode : Int) : Int := if mode < 1 ∨ 5 < mode ∨ c = 0 then 0 else signedN (negB a b c) (mdSize a b c mode)
def mdE (a b c mode : Int) : Int := if mode < 1 ∨ 5 < mode then 10 else if c = 0 then 2 else signedE (negB a b c) (mdSize a b c mode)
theorem mag_le {n : Int} (h : i64 n) : 0 ≤ mag n ∧ mag n ≤ 9223372036854775808 := by unfold mag; split <;> constructor <;> omega
theorem mag_pos {n : Int} (h : n ≠ 0) : 0 < mag n := by unfold mag; split <;> omega
theorem mag_zero {n : Int} : mag n = 0 ↔ n = 0 := by unfold mag; split <;> omega
theorem prod_le {a b : Int} (ha : i64 a) (hb : i64 b) : 0 ≤ mag a * mag b ∧ mag a * mag b ≤ 85070591730234615865843651857942052864 := by
  have h1 := mag_le ha; have h2 := mag_le hb
  refine ⟨Int.mul_nonneg h1.1 h2.1, ?_⟩
  have : mag a * mag b ≤ 9223372036854775808 * 9223372036854775808 := Int.mul_le_mul h1.2 h2.2 h2.1 (by decide)
  omega
theorem prod_zero {a b : Int} : mag a * mag b = 0 ↔ a * b = 0 := by
  rw [Int.mul_eq_zero, Int.mul_eq_zero, mag_zero, mag_zero]
theorem quo_le {m c : Int} (hm : 0 ≤ m) (hc : 0 < c) : 0 ≤ m / c ∧ m / c ≤ m := ⟨Int.ediv_nonneg hm (by omega), Int.ediv_le_self _ hm⟩
theorem rem_lt {m c : Int} (hc : 0 < c) : 0 ≤ m % c ∧ m % c < c := ⟨Int.emod_nonneg _ (by omega), Int.emod_lt_of_pos _ hc⟩
theorem signed_big {neg : Bool} {s : Int} (h : 18446744073709551616 ≤ s) : signedN neg s = 0 ∧ signedE neg s = 4 := by
  cases neg
  · simp [signedN, signedE]; omega
  · simp [signedN, signedE]; omega
theorem md_kind {a b c mode : Int} (h : mode < 1 ∨ 5 < mode) : tup [I 0, I 10] = .tuple ⟨[I (mdN a b c mode), I (mdE a b c mode)]⟩ := by
  rw [mdN, mdE, if_pos (by omega), if_pos h]; rfl
theorem md_zero {a b c mode : Int} (h : ¬ (mode < 1 ∨ 5 < mode)) (hc : c = 0) : tup [I 0, I 2] = .tuple ⟨[I (mdN a b c mode), I (mdE a b c mode)]⟩ := by
  rw [mdN, mdE, if_pos (by omega), if_neg h, if_pos hc]; rfl
theorem md_main {a b c mode : Int} (h : ¬ (mode < 1 ∨ 5 < mode)) (hc : c ≠ 0) {n e s : Int} (hn : n = signedN (negB a b c) s) (he : e = signedE (negB a b c) s) (hs : s = mdSize a b c mode) : tup [I n, I e] = .tuple ⟨[I (mdN a b c mode), I (mdE a b c mode)]⟩ := by
  subst hs hn he
  rw [mdN, mdE, if_neg (by omega), if_neg h, if_neg hc]; rfl
theorem md_over {a b c mode : Int} (h : ¬ (mode < 1 ∨ 5 < mode)) (hc : c ≠ 0) (hs : 18446744073709551616 ≤ mdSize a b c mode) : tup [I 0, I 4] = .tuple ⟨[I (mdN a b c mode), I (mdE a b c mode)]⟩ := by
  have := signed_big (neg := negB a b c) hs
  exact md_main h hc this.1.symm this.2.symm rfl
theorem md_size_ge {a b c mode : Int} : mag a * mag b / mag c ≤ mdSize a b c mode := by unfold mdSize; split <;> omega
theorem negB_no {a b c : Int} (pl : 0 ≤ mag a * mag b) (g : (!(decide (mag a * mag b / 18446744073709551616 = 0) && (decide (mag a * mag b % 18446744073709551616 = 0) && true))) = false) : false = negB a b c := by
  have g4 : mag a * mag b / 18446744073709551616 = 0 ∧ mag a * mag b % 18446744073709551616 = 0 := by simpa using g
  have hz : a * b = 0 := prod_zero.1 (by omega)
  simp [negB, hz]
theorem negB_yes {a b c : Int} (pl : 0 ≤ mag a * mag b)  (g : (!(decide (mag a * mag b / 18446744073709551616 = 0) && (decide (mag a * mag b % 18446744073709551616 = 0) && true))) = true) : (!decide ((!decide (decide (a < 0) = decide (b < 0))) = decide (c < 0))) = negB a b c := by
  have g4 : ¬ (mag a * mag b / 18446744073709551616 = 0 ∧ mag a * mag b % 18446744073709551616 = 0) := by intro h; simp [h] at g
  have hz : ¬ a * b = 0 := fun e => (by have := prod_zero.2 e; omega)
  by_cases a < 0 <;> by_cases b < 0 <;> by_cases c < 0 <;> simp [negB, *]
attribute [irreducible] mdN mdE negB
end Go.SL

namespace Go.Proofs.YtdcchollplhioaaGreatDoor
open Go Go.SL Go.Proofs
theorem C150 : CI Tryz.prog 150 := .of (by kernel_rfl)
theorem C151 : CI Tryz.prog 151 := .of (by kernel_rfl)
theorem C152 : CI Tryz.prog 152 := .of (by kernel_rfl)
theorem C153 : CI Tryz.prog 153 := .of (by kernel_rfl)
theorem C154 : CI Tryz.prog 154 := .of (by kernel_rfl)
theorem EI135 : EI Tryz.prog 135 [.int, .int] := .of (by kernel_rfl)
theorem HM : Tryz.prog.follows .mixedOrders = true := by kernel_rfl
theorem ac152m (m c : Int) (h0 : 0 ≤ m) (h1 : m < 340282366920938463463374607431768211456) (hc : 0 < c) (hcu : u64 c) : AC Tryz.prog 152 ⟨[.agg ⟨[U (m / 18446744073709551616), U (m % 18446744073709551616)]⟩, U c]⟩ (stars []) (Ret (.tuple ⟨[.agg ⟨[U (m / c / 18446744073709551616), U (m / c % 18446744073709551616)]⟩, U (m % c)]⟩) []) := by
  have h := ac152 (m / 18446744073709551616) (m % 18446744073709551616) c (by omega) (by omega) hc hcu
  rw [show m / 18446744073709551616 * 18446744073709551616 + m % 18446744073709551616 = m by omega] at h
  exact h
-- muldiv.MulDiv
theorem ac111 (a b c mode : Int) (ha : i64 a) (hb : i64 b) (hc : i64 c) : AC Tryz.prog 111 ⟨[I a, I b, I c, I mode]⟩ (stars []) (Ret (.tuple ⟨[I (mdN a b c mode), I (mdE a b c mode)]⟩) []) := by
  have ua := mag_u64 ha; have ub := mag_u64 hb; have uc := mag_u64 hc; have pl := prod_le ha hb; have pz := @prod_zero a b
  refine AC.go Tryz.func111 rfl (Nat.le_of_ble_eq_true rfl) fun β => ?_
  refine sr ?_
  refine asg rfl rfl ?_
  refine asg rfl rfl ?_
  refine kp [0, 1, 2, 3] rfl ?_
  refine Run.seq ?_
  refine sr ?_
  refine mvo rfl rfl ?_
  refine RunL.op rfl rfl (OpJ.lss rfl rfl ?_)
  refine mvo rfl rfl ?_
  first | refine RunL.splitP (t := 17) rfl (fun g1 => ?_) (fun g1 => ?_) | refine RunL.split (t := 17) rfl (fun g1 => ?_) (fun g1 => ?_)
  · skip
    refine RunL.no rfl rfl rfl rfl ?_
    refine RunL.no rfl rfl rfl rfl ?_
    refine RunL.op rfl rfl (OpJ.pickT rfl rfl ?_)
    refine kp [0, 1, 2, 3, 20] rfl ?_
    refine Run.true rfl ?_
    refine sr ?_
    refine asg rfl rfl ?_
    refine asg rfl rfl ?_
    refine kp [8, 9] rfl ?_
    refine Run.ret ?_
    exact ret_one (.tmp rfl (.tmp rfl .nil)) (md_kind (by omega)) gv
  · skip
    refine RunL.yes rfl rfl rfl rfl (OpJ.move rfl ?_)
    refine RunL.yes rfl rfl rfl rfl (OpJ.gtr rfl rfl ?_)
    refine RunL.op rfl rfl (OpJ.pickF rfl rfl ?_)
    refine kp [0, 1, 2, 3, 20] rfl ?_
    first | refine Run.if rfl (fun h2 => ?_) (fun h2 => ?_) | refine Run.cond rfl (fun h2 => ?_) (fun h2 => ?_)
    · skip
      refine sr ?_
      refine asg rfl rfl ?_
      refine asg rfl rfl ?_
      refine kp [8, 9] rfl ?_
      refine Run.ret ?_
      exact ret_one (.tmp rfl (.tmp rfl .nil)) (md_kind (by omega)) gv
    · skip
      refine Run.skip ?_
      refine Run.seq ?_
      refine sr ?_
      refine mvo rfl rfl ?_
      refine RunL.op rfl rfl (OpJ.eql rfl rfl ?_)
      refine kp [0, 1, 2, 3, 22] rfl ?_
      first | refine Run.if rfl (fun h3 => ?_) (fun h3 => ?_) | refine Run.cond rfl (fun h3 => ?_) (fun h3 => ?_)
      · skip
        refine sr ?_
        refine asg rfl rfl ?_
        refine asg rfl rfl ?_
        refine kp [8, 9] rfl ?_
        refine Run.ret ?_
        exact ret_one (.tmp rfl (.tmp rfl .nil)) (md_zero (by omega) (by omega)) gv
      · skip
        refine Run.skip ?_
        refine sr ?_
        have cpos := mag_pos h3; have q0 := quo_le pl.1 cpos; have r0 := rem_lt (m := mag a * mag b) cpos
        refine mvo rfl rfl ?_
        refine RunL.call C151 rfl rfl rfl (ac151 _ (by omega)) .nil ?_
        refine mvo rfl rfl ?_
        refine RunL.call C151 rfl rfl rfl (ac151 _ (by omega)) .nil ?_
        refine RunL.call C150 rfl rfl rfl (ac150 _ _ (by omega) (by omega)) .nil ?_
        refine RunL.op rfl rfl (OpJ.alloc Z135 fun b10 => ?_)
        refine RunL.op rfl rfl (OpJ.storeW T135 rfl rfl rfl rfl (by simp [Value.oneCell', Pa.c, Ly.c, Mv.c, Co.c]) up ?_)
        refine kp [0, 1, 2, 3, 10] rfl ?_
        refine sr ?_
        refine RunL.cut (t := 11) (v := Bo (negB a b c)) (kt (ks := [2, 3, 10]) rfl) ?_ ?_
        · skip
          first | refine RunL.op rfl rfl (OpJ.loadW T135 rfl pk (by rfl) ?_) | refine RunL.op rfl rfl (OpJ.loadP T135 rfl pk (by simp) ?_) | refine RunL.op rfl rfl (OpJ.loadE T135 rfl pk (by assumption) (by exact fun _ => rfl) rfl (by decide) ?_)
          refine RunL.op rfl rfl (OpJ.buildArr B135 rfl rfl fun cs hcs => ?_)
          simp only [Sk.c, Mv.c, Co.c, bldL, bldA, Value.cells, bs, Nat.reduceAdd, Nat.reduceLeDiff, Nat.reduceLT] at hcs; subst hcs
          refine RunL.op rfl rfl (OpJ.neqA EI135 rfl rfl (by rfl) ?_)
          refine mvo rfl rfl ?_
          first | refine RunL.splitP (t := 31) rfl (fun g4 => ?_) (fun g4 => ?_) | refine RunL.split (t := 31) rfl (fun g4 => ?_) (fun g4 => ?_)
          · skip
            refine RunL.yes rfl rfl rfl rfl (OpJ.move rfl ?_)
            refine RunL.yes rfl rfl rfl rfl (OpJ.lss rfl rfl ?_)
            refine RunL.yes rfl rfl rfl rfl (OpJ.move rfl ?_)
            refine RunL.yes rfl rfl rfl rfl (OpJ.lss rfl rfl ?_)
            refine RunL.yes rfl rfl rfl rfl (OpJ.neqB U4 rfl rfl ?_)
            refine RunL.yes rfl rfl rfl rfl (OpJ.move rfl ?_)
            refine RunL.yes rfl rfl rfl rfl (OpJ.lss rfl rfl ?_)
            refine RunL.yes rfl rfl rfl rfl (OpJ.neqB U4 rfl rfl ?_)
            refine RunL.op rfl rfl (OpJ.pickT rfl rfl ?_)
            refine asg rfl rfl ?_
            exact RunL.nil ⟨.cons (by first | rfl | (show some (Value.bool _) = some (Value.bool _); exact congrArg some (congrArg Value.bool (negB_no (a := a) (b := b) (c := c) pl.1 g4))) | (show some (Value.bool _) = some (Value.bool _); exact congrArg some (congrArg Value.bool (negB_yes (a := a) (b := b) (c := c) pl.1 g4))) | (show some (Value.bool _) = some (Value.bool _); simp_all)) (kt (ks := [2, 3, 10]) rfl), rfl⟩
          · skip
            refine RunL.no rfl rfl rfl rfl ?_
            refine RunL.no rfl rfl rfl rfl ?_
            refine RunL.no rfl rfl rfl rfl ?_
            refine RunL.no rfl rfl rfl rfl ?_
            refine RunL.no rfl rfl rfl rfl ?_
            refine RunL.no rfl rfl rfl rfl ?_
            refine RunL.no rfl rfl rfl rfl ?_
            refine RunL.no rfl rfl rfl rfl ?_
            refine RunL.op rfl rfl (OpJ.pickF rfl rfl ?_)
            refine asg rfl rfl ?_
            exact RunL.nil ⟨.cons (by first | rfl | (show some (Value.bool _) = some (Value.bool _); exact congrArg some (congrArg Value.bool (negB_no (a := a) (b := b) (c := c) pl.1 g4))) | (show some (Value.bool _) = some (Value.bool _); exact congrArg some (congrArg Value.bool (negB_yes (a := a) (b := b) (c := c) pl.1 g4))) | (show some (Value.bool _) = some (Value.bool _); simp_all)) (kt (ks := [2, 3, 10]) rfl), rfl⟩
        refine Run.seq ?_
        refine regionD HM ?_
        refine RunD.mono (K' := fun E' L' => ∃ b12 : Nat, E' = [(2, I c), (3, I mode), (11, Bo (negB a b c)), (12, .pointer (some ⟨b12, 0, none⟩)), (13, U (mag a * mag b % mag c))] ∧ L' = [pt b12 (blk [U (mag a * mag b / mag c / 18446744073709551616), U (mag a * mag b / mag c % 18446744073709551616)] 135)]) ?_ ?_
        · skip
          first | refine RunD.takeW 0 rfl rfl kr T135 rfl pk (by rfl) ?_ | refine RunD.takeP 0 rfl rfl kr T135 rfl pk (by simp) ?_ | refine RunD.takeE 0 rfl rfl kr T135 rfl pk (by assumption) (by exact fun _ => rfl) rfl (by decide) ?_
          refine tk 1 rfl rfl rfl (DetJ.move rfl) ?_
          refine RunD.two 2 7 [false, true] [true, true] rfl rfl rfl rfl rfl rfl kr kr kr (OpJ.callRet C151 rfl rfl (ac151 _ (by omega)) .nil ⟨po, ?_⟩) (OpJ.alloc Z135 fun b12 => ⟨po, ?_⟩)
          · skip
            refine RunD.two 3 7 [false] [true] rfl rfl rfl rfl rfl rfl kr kr kr (OpJ.callRet C152 rfl rfl (ac152m _ _ (by omega) (by omega) (by omega) (by omega)) .nil ⟨po, ?_⟩) (OpJ.alloc Z135 fun b12 => ⟨po, ?_⟩)
            · skip
              refine tk 4 rfl rfl rfl (DetJ.move rfl) ?_
              refine tk 5 rfl rfl rfl (DetJ.extract rfl rfl) ?_
              refine tk 6 rfl rfl rfl (DetJ.extract rfl rfl) ?_
              refine RunD.op 7 [true, true, true] rfl rfl rfl kr kr (OpJ.alloc Z135 fun b12 => ⟨po, ?_⟩)
              refine RunD.op 8 [true, false, false] rfl rfl rfl kr kr (OpJ.storeW T135 rfl rfl rfl rfl (by simp [Value.oneCell', Pa.c, Ly.c, Mv.c, Co.c]) up ⟨po, ?_⟩)
              refine tk 9 rfl rfl rfl (DetJ.assign rfl) ?_
              exact RunD.weak (E' := [(2, I c), (3, I mode), (11, Bo (negB a b c)), (12, .pointer (some ⟨b12, 0, none⟩)), (13, U (mag a * mag b % mag c))]) (L' := [pt b12 (blk [U (mag a * mag b / mag c / 18446744073709551616), U (mag a * mag b / mag c % 18446744073709551616)] 135)]) (Keep.sub (kt (ks := [2, 3, 11, 12, 13]) rfl)) gv (RunD.done kr ⟨_, rfl, rfl⟩)
            · skip
              refine RunD.op 3 [false] rfl rfl rfl kr kr (OpJ.callRet C152 rfl rfl (ac152m _ _ (by omega) (by omega) (by omega) (by omega)) .nil ⟨po, ?_⟩)
              refine tk 4 rfl rfl rfl (DetJ.move rfl) ?_
              refine tk 5 rfl rfl rfl (DetJ.extract rfl rfl) ?_
              refine tk 6 rfl rfl rfl (DetJ.extract rfl rfl) ?_
              refine RunD.op 8 [true, false, false] rfl rfl rfl kr kr (OpJ.storeW T135 rfl rfl rfl rfl (by simp [Value.oneCell', Pa.c, Ly.c, Mv.c, Co.c]) up ⟨po, ?_⟩)
              refine tk 9 rfl rfl rfl (DetJ.assign rfl) ?_
              exact RunD.weak (E' := [(2, I c), (3, I mode), (11, Bo (negB a b c)), (12, .pointer (some ⟨b12, 0, none⟩)), (13, U (mag a * mag b % mag c))]) (L' := [pt b12 (blk [U (mag a * mag b / mag c / 18446744073709551616), U (mag a * mag b / mag c % 18446744073709551616)] 135)]) (Keep.sub (kt (ks := [2, 3, 11, 12, 13]) rfl)) gv (RunD.done kr ⟨_, rfl, rfl⟩)
          · skip
            refine RunD.op 2 [false, true] rfl rfl rfl kr kr (OpJ.callRet C151 rfl rfl (ac151 _ (by omega)) .nil ⟨po, ?_⟩)
            refine RunD.op 3 [false] rfl rfl rfl kr kr (OpJ.callRet C152 rfl rfl (ac152m _ _ (by omega) (by omega) (by omega) (by omega)) .nil ⟨po, ?_⟩)
            refine tk 4 rfl rfl rfl (DetJ.move rfl) ?_
            refine tk 5 rfl rfl rfl (DetJ.extract rfl rfl) ?_
            refine tk 6 rfl rfl rfl (DetJ.extract rfl rfl) ?_
            refine RunD.op 8 [true, false, false] rfl rfl rfl kr kr (OpJ.storeW T135 rfl rfl rfl rfl (by simp [Value.oneCell', Pa.c, Ly.c, Mv.c, Co.c]) up ⟨po, ?_⟩)
            refine tk 9 rfl rfl rfl (DetJ.assign rfl) ?_
            exact RunD.weak (E' := [(2, I c), (3, I mode), (11, Bo (negB a b c)), (12, .pointer (some ⟨b12, 0, none⟩)), (13, U (mag a * mag b % mag c))]) (L' := [pt b12 (blk [U (mag a * mag b / mag c / 18446744073709551616), U (mag a * mag b / mag c % 18446744073709551616)] 135)]) (Keep.sub (kt (ks := [2, 3, 11, 12, 13]) rfl)) gv (RunD.done kr ⟨_, rfl, rfl⟩)
        rintro _ _ ⟨b12, rfl, rfl⟩
        refine Run.seq ?_
        refine sr ?_
        refine RunL.op rfl rfl (OpJ.indexAddrArr A135 rfl rfl (by omega) ?_)
        first | refine RunL.op rfl rfl (OpJ.loadF T133 rfl pk (by rfl) ?_) | refine RunL.op rfl rfl (OpJ.loadO T133 rfl pk (by assumption) (by rfl) (by exact fun _ => rfl) ?_)
        refine RunL.op rfl rfl (OpJ.neq rfl rfl ?_)
        refine kp [2, 3, 11, 12, 13, 50] rfl ?_
        first | refine Run.if rfl (fun h5 => ?_) (fun h5 => ?_) | refine Run.cond rfl (fun h5 => ?_) (fun h5 => ?_)
        · skip
          refine sr ?_
          refine asg rfl rfl ?_
          refine asg rfl rfl ?_
          refine kp [8, 9] rfl ?_
          refine Run.ret ?_
          exact ret_one (.tmp rfl (.tmp rfl .nil)) (md_over (by omega) (by omega) (by have := @md_size_ge a b c mode; omega)) gv
        · skip
          refine Run.skip ?_
          refine sr ?_
          refine RunL.op rfl rfl (OpJ.indexAddrArr A135 rfl rfl (by omega) ?_)
          first | refine RunL.op rfl rfl (OpJ.loadF T133 rfl pk (by rfl) ?_) | refine RunL.op rfl rfl (OpJ.loadO T133 rfl pk (by assumption) (by rfl) (by exact fun _ => rfl) ?_)
          refine RunL.set (congrArg U (show _ = mag a * mag b / mag c by omega)) ?_
          refine asg rfl rfl ?_
          refine kp [2, 3, 11, 13, 14] rfl ?_
          refine Run.seq ?_
          refine sr ?_
          refine mvo rfl rfl ?_
          refine mvo rfl rfl ?_
          refine mvo rfl rfl ?_
          refine RunL.op rfl rfl (OpJ.rem rfl rfl (by omega) ?_)
          refine RunL.set (congrArg U (show _ = mag a * mag b / mag c % 2 by rw [Int.tmod_eq_emod_of_nonneg (by omega)])) ?_
          refine RunL.op rfl rfl (OpJ.eql rfl rfl ?_)
          refine mvo rfl rfl ?_
          refine mvo rfl rfl ?_
          refine RunL.call C151 rfl rfl rfl (ac151 _ (by omega)) .nil ?_
          refine RunL.call C153 rfl rfl rfl (ac153 _ _ _ _ _ (by omega) (by omega) (by omega)) .nil ?_
          refine kp [11, 14, 61] rfl ?_
          first | refine Run.if rfl (fun h6 => ?_) (fun h6 => ?_) | refine Run.cond rfl (fun h6 => ?_) (fun h6 => ?_)
          · skip
            refine sr ?_
            refine mvo rfl rfl ?_
            refine RunL.op rfl rfl (OpJ.add rfl rfl ?_)
            refine RunL.set (congrArg U (wrap_u64 _)) ?_
            refine asg rfl rfl ?_
            refine kp [11, 14] rfl ?_
            refine sr ?_
            refine mvo rfl rfl ?_
            refine RunL.op rfl rfl (OpJ.eql rfl rfl ?_)
            refine kp [11, 14, 65] rfl ?_
            first | refine Run.if rfl (fun h7 => ?_) (fun h7 => ?_) | refine Run.cond rfl (fun h7 => ?_) (fun h7 => ?_)
            · skip
              refine sr ?_
              refine asg rfl rfl ?_
              refine asg rfl rfl ?_
              refine kp [8, 9] rfl ?_
              refine Run.ret ?_
              exact ret_one (.tmp rfl (.tmp rfl .nil)) (md_over (by omega) (by omega) (by rw [mdSize, if_pos h6]; omega)) gv
            · skip
              refine Run.skip ?_
              refine sr ?_
              refine mvo rfl rfl ?_
              refine mvo rfl rfl ?_
              refine RunL.call C154 rfl rfl rfl (ac154 _ _ (by omega)) .nil ?_
              refine RunL.op rfl rfl (OpJ.extract rfl rfl ?_)
              refine RunL.op rfl rfl (OpJ.extract rfl rfl ?_)
              refine asg rfl rfl ?_
              refine asg rfl rfl ?_
              refine kp [8, 9] rfl ?_
              refine Run.ret ?_
              exact ret_one (.tmp rfl (.tmp rfl .nil)) (md_main (by omega) (by omega) rfl rfl (by rw [mdSize, if_pos h6]; omega)) gv
          · skip
            refine Run.skip ?_
            refine sr ?_
            refine mvo rfl rfl ?_
            refine mvo rfl rfl ?_
            refine RunL.call C154 rfl rfl rfl (ac154 _ _ (by omega)) .nil ?_
            refine RunL.op rfl rfl (OpJ.extract rfl rfl ?_)
            refine RunL.op rfl rfl (OpJ.extract rfl rfl ?_)
            refine asg rfl rfl ?_
            refine asg rfl rfl ?_
            refine kp [8, 9] rfl ?_
            refine Run.ret ?_
            exact ret_one (.tmp rfl (.tmp rfl .nil)) (md_main (by omega) (by omega) rfl rfl (by rw [mdSize, if_neg (by simp [h6])]; omega)) gv
end Go.Proofs.YtdcchollplhioaaGreatDoor

namespace Go.SL
open Go
def leapB (y : Int) : Bool := decide (y.tmod 4 = 0 ∧ ¬ y.tmod 100 = 0 ∨ y.tmod 400 = 0)
def lensL : List Int := [31, 28, 31, 30, 31, 30, 31, 31, 30, 31, 30, 31]
def lensC : List Value := lensL.map I
def lenM (leap : Bool) (m : Int) : Int := if m < 1 ∨ 12 < m then 0 else if m = 2 ∧ leap = true then 29 else lensL.getD (m - 1).toNat 0
def beforeF (y : Int) : Int := 365 * (y - 1900) + ((y - 1) / 4 - (y - 1) / 100 + (y - 1) / 400 - 460)
def restM (leap : Bool) (m : Int) : Int := [365, 334, 306, 275, 245, 214, 184, 153, 122, 92, 61, 31].getD (m - 1).toNat 0 + (if m ≤ 2 ∧ leap = true then 1 else 0)
theorem lens_get {m : Int} (h1 : 1 ≤ m) (h2 : m ≤ 12) : lensC[(m - 1).toNat]? = some (I (lensL.getD (m - 1).toNat 0)) := by
  obtain ⟨k, rfl⟩ : ∃ k : Nat, m = (k : Int) + 1 := ⟨(m - 1).toNat, by omega⟩
  have hk : k < 12 := by omega
  rw [show ((k : Int) + 1 - 1).toNat = k by omega]
  match k, hk with
  | 0, _ | 1, _ | 2, _ | 3, _ | 4, _ | 5, _ | 6, _ | 7, _ | 8, _ | 9, _ | 10, _ | 11, _ => rfl
theorem rest_step {leap : Bool} {m : Int} (h1 : 1 ≤ m) (h2 : m < 12) : restM leap m = lenM leap m + restM leap (m + 1) := by
  obtain ⟨k, rfl⟩ : ∃ k : Nat, m = (k : Int) + 1 := ⟨(m - 1).toNat, by omega⟩
  have hk : k < 11 := by omega
  cases leap <;> match k, hk with
  | 0, _ | 1, _ | 2, _ | 3, _ | 4, _ | 5, _ | 6, _ | 7, _ | 8, _ | 9, _ | 10, _ => rfl
theorem rest_last {leap : Bool} : restM leap 12 = lenM leap 12 := by cases leap <;> rfl
theorem rest_first {leap : Bool} : restM leap 1 = 365 + (if leap = true then 1 else 0) := by cases leap <;> rfl
theorem lenM_range {leap : Bool} {m : Int} : 0 ≤ lenM leap m ∧ lenM leap m ≤ 31 := by
  unfold lenM
  split
  · omega
  · split
    · omega
    · obtain ⟨k, rfl⟩ : ∃ k : Nat, m = (k : Int) + 1 := ⟨(m - 1).toNat, by omega⟩
      have hk : k < 12 := by omega
      rw [show ((k : Int) + 1 - 1).toNat = k by omega]
      match k, hk with
      | 0, _ | 1, _ | 2, _ | 3, _ | 4, _ | 5, _ | 6, _ | 7, _ | 8, _ | 9, _ | 10, _ | 11, _ => decide
theorem before_step {y : Int} (h1 : 1900 ≤ y) (h2 : y ≤ 2199) : beforeF (y + 1) = beforeF y + 365 + (if leapB y = true then 1 else 0) := by
  unfold beforeF leapB
  simp only [decide_eq_true_eq]
  rw [Int.tmod_eq_emod_of_nonneg (by omega), Int.tmod_eq_emod_of_nonneg (by omega), Int.tmod_eq_emod_of_nonneg (by omega)]
  split <;> omega
theorem before_last : beforeF 2200 = 109573 := by decide
theorem before_first {n : Int} (h0 : 0 ≤ n) (h1 : n ≤ 109572) : 1900 ≤ 1900 + n / 366 ∧ 1900 + n / 366 ≤ 2199 ∧ beforeF (1900 + n / 366) ≤ n := by
  refine ⟨by omega, by omega, ?_⟩
  unfold beforeF; omega
theorem before_wrap {y : Int} (h1 : 1900 ≤ y) (h2 : y ≤ 2200) : -1000000 ≤ beforeF y ∧ beforeF y ≤ 1000000 := by unfold beforeF; omega
/-- When the year is found, less than a year is left. -/
theorem year_found {n y : Int} (h1 : 1900 ≤ y) (h2 : y ≤ 2199) (h3 : beforeF y ≤ n) (hn : n ≤ 109572) (h : ¬ (y < 2199 ∧ beforeF (y + 1) ≤ n)) : 0 ≤ n - beforeF y ∧ n - beforeF y < restM (leapB y) 1 := by
  have hs := before_step h1 h2
  rw [rest_first]
  refine ⟨by omega, ?_⟩
  by_cases e : y = 2199
  · subst e
    have := before_last
    rw [show (2199 : Int) + 1 = 2200 from rfl] at hs
    omega
  · have : n < beforeF (y + 1) := by omega
    omega
theorem before_code {y : Int} (h1 : 1900 ≤ y) (h2 : y ≤ 2200) :
    IntKind.i64.wrap (IntKind.i64.wrap (365 * IntKind.i64.wrap (y - 1900)) + IntKind.i64.wrap (IntKind.i64.wrap (IntKind.i64.wrap (IntKind.i64.wrap (IntKind.i64.wrap ((IntKind.i64.wrap ((IntKind.i64.wrap (y - 1)).tdiv 4)) - (IntKind.i64.wrap ((IntKind.i64.wrap (y - 1)).tdiv 100))) + (IntKind.i64.wrap ((IntKind.i64.wrap (y - 1)).tdiv 400))) - 474) + 18) - 4)) = beforeF y := by
  have e1 : IntKind.i64.wrap (y - 1) = y - 1 := wrap_i64_in ⟨by omega, by omega⟩
  rw [e1, Int.tdiv_eq_ediv_of_nonneg (by omega), Int.tdiv_eq_ediv_of_nonneg (by omega), Int.tdiv_eq_ediv_of_nonneg (by omega)]
  simp only [IntKind.wrap_i64]
  unfold beforeF
  omega
theorem inB_iff {n lo hi : Int} : inB n lo hi = true ↔ lo ≤ n ∧ n ≤ hi := by unfold inB; simp
theorem rest_next {leap : Bool} {m n : Int} (h1 : 1 ≤ m) (h2 : m ≤ 12) (hn : n < restM leap m) (hl : lenM leap m ≤ n) : m < 12 ∧ 0 ≤ n - lenM leap m ∧ n - lenM leap m < restM leap (m + 1) := by
  by_cases e : m = 12
  · subst e; have := rest_last (leap := leap); omega
  · have := rest_step (leap := leap) h1 (by omega); omega
theorem rest_le {leap : Bool} {m : Int} : restM leap m ≤ 366 := by
  unfold restM
  have : ∀ k : Nat, ([365, 334, 306, 275, 245, 214, 184, 153, 122, 92, 61, 31] : List Int).getD k 0 ≤ 365 := by
    intro k
    match k with
    | 0 | 1 | 2 | 3 | 4 | 5 | 6 | 7 | 8 | 9 | 10 | 11 => decide
    | k + 12 => simp
  have := this (m - 1).toNat
  split <;> omega
attribute [irreducible] lenM beforeF restM leapB
end Go.SL

namespace Go.Proofs.YtdcchollplhioaaGreatDoor
open Go Go.SL Go.Proofs
theorem A149 : AI Tryz.prog 149 3 12 := .of (by kernel_rfl) (by kernel_rfl)
theorem B115 : BI Tryz.prog 115 [.int .i64 0, .int .i64 0, .int .i64 0] [(0, 1), (1, 1), (2, 1)] := .of (by kernel_rfl) (by kernel_rfl)
theorem C105 : CI Tryz.prog 105 := .of (by kernel_rfl)
theorem C147 : CI Tryz.prog 147 := .of (by kernel_rfl)
theorem C148 : CI Tryz.prog 148 := .of (by kernel_rfl)
theorem C149 : CI Tryz.prog 149 := .of (by kernel_rfl)
theorem C175 : CI Tryz.prog 175 := .of (by kernel_rfl)
theorem F115_0 : FI Tryz.prog 115 0 3 0 := .of (by kernel_rfl)
theorem F115_1 : FI Tryz.prog 115 1 3 1 := .of (by kernel_rfl)
theorem F115_2 : FI Tryz.prog 115 2 3 2 := .of (by kernel_rfl)
theorem T115 : TI Tryz.prog 115 true 3 := .of (by kernel_rfl)
theorem Z115 : ZI Tryz.prog 115 [.int .i64 0, .int .i64 0, .int .i64 0] := .of (by kernel_rfl)
-- days.Leap
theorem ac175 (y : Int) : AC Tryz.prog 175 ⟨[I y]⟩ (stars []) (Ret (Bo (leapB y)) []) := by
  refine AC.go Tryz.func175 rfl (Nat.le_of_ble_eq_true rfl) fun β => ?_
  refine sr ?_
  refine asg rfl rfl ?_
  refine kp [0] rfl ?_
  refine sr ?_
  refine mvo rfl rfl ?_
  refine RunL.op rfl rfl (OpJ.rem rfl rfl (by omega) ?_)
  refine RunL.op rfl rfl (OpJ.eql rfl rfl ?_)
  refine mvo rfl rfl ?_
  first | refine RunL.splitP (t := 6) rfl (fun g1 => ?_) (fun g1 => ?_) | refine RunL.split (t := 6) rfl (fun g1 => ?_) (fun g1 => ?_)
  · skip
    refine RunL.yes rfl rfl rfl rfl (OpJ.move rfl ?_)
    refine RunL.yes rfl rfl rfl rfl (OpJ.rem rfl rfl (by omega) ?_)
    refine RunL.yes rfl rfl rfl rfl (OpJ.neq rfl rfl ?_)
    refine RunL.op rfl rfl (OpJ.pickT rfl rfl ?_)
    refine mvo rfl rfl ?_
    first | refine RunL.splitP (t := 11) rfl (fun g2 => ?_) (fun g2 => ?_) | refine RunL.split (t := 11) rfl (fun g2 => ?_) (fun g2 => ?_)
    · skip
      refine RunL.no rfl rfl rfl rfl ?_
      refine RunL.no rfl rfl rfl rfl ?_
      refine RunL.no rfl rfl rfl rfl ?_
      refine RunL.op rfl rfl (OpJ.pickT rfl rfl ?_)
      refine asg rfl rfl ?_
      refine kp [2] rfl ?_
      refine Run.ret ?_
      exact ret_one (.tmp rfl .nil) (by first | (simp [tup, leapB, *]; done) | (exfalso; omega)) .nil
    · skip
      refine RunL.yes rfl rfl rfl rfl (OpJ.move rfl ?_)
      refine RunL.yes rfl rfl rfl rfl (OpJ.rem rfl rfl (by omega) ?_)
      refine RunL.yes rfl rfl rfl rfl (OpJ.eql rfl rfl ?_)
      refine RunL.op rfl rfl (OpJ.pickF rfl rfl ?_)
      refine asg rfl rfl ?_
      refine kp [2] rfl ?_
      refine Run.ret ?_
      exact ret_one (.tmp rfl .nil) (by first | (simp [tup, leapB, *]; done) | (exfalso; omega)) .nil
  · skip
    refine RunL.no rfl rfl rfl rfl ?_
    refine RunL.no rfl rfl rfl rfl ?_
    refine RunL.no rfl rfl rfl rfl ?_
    refine RunL.op rfl rfl (OpJ.pickF rfl rfl ?_)
    refine mvo rfl rfl ?_
    refine RunL.yes rfl rfl rfl rfl (OpJ.move rfl ?_)
    refine RunL.yes rfl rfl rfl rfl (OpJ.rem rfl rfl (by omega) ?_)
    refine RunL.yes rfl rfl rfl rfl (OpJ.eql rfl rfl ?_)
    refine RunL.op rfl rfl (OpJ.pickF rfl rfl ?_)
    refine asg rfl rfl ?_
    refine kp [2] rfl ?_
    refine Run.ret ?_
    exact ret_one (.tmp rfl .nil) (by first | (simp [tup, leapB, *]; done) | (exfalso; omega)) .nil
-- days.Length
theorem ac149 (y m : Int) (R0 : HP) (hR0 : Rd R0 ⟨0, 0, none⟩ lensC) : AC Tryz.prog 149 ⟨[I y, I m]⟩ (stars [R0]) (Ret (I (lenM (leapB y) m)) [R0]) := by
  refine AC.go Tryz.func149 rfl (Nat.le_of_ble_eq_true rfl) fun β => ?_
  refine sr ?_
  refine asg rfl rfl ?_
  refine kp [0, 1] rfl ?_
  refine Run.seq ?_
  refine Run.block ?_
  refine sr ?_
  refine mvo rfl rfl ?_
  refine RunL.op rfl rfl (OpJ.lss rfl rfl ?_)
  refine mvo rfl rfl ?_
  first | refine RunL.splitP (t := 8) rfl (fun g1 => ?_) (fun g1 => ?_) | refine RunL.split (t := 8) rfl (fun g1 => ?_) (fun g1 => ?_)
  · skip
    refine RunL.no rfl rfl rfl rfl ?_
    refine RunL.no rfl rfl rfl rfl ?_
    refine RunL.op rfl rfl (OpJ.pickT rfl rfl ?_)
    refine asg rfl rfl ?_
    refine kp [0, 1, 5] rfl ?_
    refine Run.true rfl ?_
    refine sr ?_
    refine asg rfl rfl ?_
    refine kp [4] rfl ?_
    refine Run.ret ?_
    exact ret_one (.tmp rfl .nil) (congrArg I (show _ = _ by rw [lenM]; simp [*]; try omega)) gv
  · skip
    refine RunL.yes rfl rfl rfl rfl (OpJ.move rfl ?_)
    refine RunL.yes rfl rfl rfl rfl (OpJ.gtr rfl rfl ?_)
    refine RunL.op rfl rfl (OpJ.pickF rfl rfl ?_)
    refine asg rfl rfl ?_
    refine kp [0, 1, 5] rfl ?_
    first | refine Run.if rfl (fun h2 => ?_) (fun h2 => ?_) | refine Run.cond rfl (fun h2 => ?_) (fun h2 => ?_)
    · skip
      refine sr ?_
      refine asg rfl rfl ?_
      refine kp [4] rfl ?_
      refine Run.ret ?_
      exact ret_one (.tmp rfl .nil) (congrArg I (show _ = _ by rw [lenM]; simp [*]; try omega)) gv
    · skip
      refine sr ?_
      refine mvo rfl rfl ?_
      refine RunL.op rfl rfl (OpJ.eql rfl rfl ?_)
      refine mvo rfl rfl ?_
      first | refine RunL.splitP (t := 15) rfl (fun g3 => ?_) (fun g3 => ?_) | refine RunL.split (t := 15) rfl (fun g3 => ?_) (fun g3 => ?_)
      · skip
        refine RunL.yes rfl rfl rfl rfl (OpJ.move rfl ?_)
        refine RunL.callG C175 rfl rfl rfl rfl rfl (ac175 _) .nil ?_
        refine RunL.op rfl rfl (OpJ.pickT rfl rfl ?_)
        refine asg rfl rfl ?_
        refine kp [1, 12] rfl ?_
        first | refine Run.if rfl (fun h4 => ?_) (fun h4 => ?_) | refine Run.cond rfl (fun h4 => ?_) (fun h4 => ?_)
        · skip
          refine sr ?_
          refine asg rfl rfl ?_
          refine kp [4] rfl ?_
          refine Run.ret ?_
          exact ret_one (.tmp rfl .nil) (congrArg I (show _ = _ by rw [lenM]; simp [*]; try omega)) gv
        · skip
          refine Run.skip ?_
          refine sr ?_
          refine mvo rfl rfl ?_
          first | refine RunL.op rfl rfl (OpJ.subI rfl rfl (by omega) ?_) | refine RunL.op rfl rfl (OpJ.sub rfl rfl ?_)
          refine RunL.op rfl rfl (OpJ.indexAddrArr A149 rfl rfl (by omega) ?_)
          refine RunL.op rfl rfl (OpJ.load1 T3 rfl pk (hR0.fld (lens_get (m := m) (by omega) (by omega))) ?_)
          refine asg rfl rfl ?_
          refine kp [4] rfl ?_
          refine Run.ret ?_
          exact ret_one (.tmp rfl .nil) (congrArg I (show _ = _ by rw [lenM]; simp [*]; try omega)) gv
      · skip
        refine RunL.no rfl rfl rfl rfl ?_
        refine RunL.no rfl rfl rfl rfl ?_
        refine RunL.op rfl rfl (OpJ.pickF rfl rfl ?_)
        refine asg rfl rfl ?_
        refine kp [1, 12] rfl ?_
        refine Run.false rfl ?_
        refine Run.skip ?_
        refine sr ?_
        refine mvo rfl rfl ?_
        first | refine RunL.op rfl rfl (OpJ.subI rfl rfl (by omega) ?_) | refine RunL.op rfl rfl (OpJ.sub rfl rfl ?_)
        refine RunL.op rfl rfl (OpJ.indexAddrArr A149 rfl rfl (by omega) ?_)
        refine RunL.op rfl rfl (OpJ.load1 T3 rfl pk (hR0.fld (lens_get (m := m) (by omega) (by omega))) ?_)
        refine asg rfl rfl ?_
        refine kp [4] rfl ?_
        refine Run.ret ?_
        exact ret_one (.tmp rfl .nil) (congrArg I (show _ = _ by rw [lenM]; simp [*]; try omega)) gv
-- days.before
theorem ac148 (y : Int) (h1 : 1900 ≤ y) (h2 : y ≤ 2200) : AC Tryz.prog 148 ⟨[I y]⟩ (stars []) (Ret (I (beforeF y)) []) := by
  refine AC.go Tryz.func148 rfl (Nat.le_of_ble_eq_true rfl) fun β => ?_
  refine sr ?_
  refine asg rfl rfl ?_
  refine kp [0] rfl ?_
  refine sr ?_
  refine mvo rfl rfl ?_
  refine RunL.op rfl rfl (OpJ.sub rfl rfl ?_)
  refine asg rfl rfl ?_
  refine kp [0, 3] rfl ?_
  refine sr ?_
  refine mvo rfl rfl ?_
  refine RunL.op rfl rfl (OpJ.quo rfl rfl (by omega) ?_)
  refine mvo rfl rfl ?_
  refine RunL.op rfl rfl (OpJ.quo rfl rfl (by omega) ?_)
  refine RunL.op rfl rfl (OpJ.sub rfl rfl ?_)
  refine mvo rfl rfl ?_
  refine RunL.op rfl rfl (OpJ.quo rfl rfl (by omega) ?_)
  refine RunL.op rfl rfl (OpJ.add rfl rfl ?_)
  refine RunL.op rfl rfl (OpJ.sub rfl rfl ?_)
  refine RunL.op rfl rfl (OpJ.add rfl rfl ?_)
  refine RunL.op rfl rfl (OpJ.sub rfl rfl ?_)
  refine asg rfl rfl ?_
  refine kp [0, 4] rfl ?_
  refine sr ?_
  refine mvo rfl rfl ?_
  refine RunL.op rfl rfl (OpJ.sub rfl rfl ?_)
  refine RunL.op rfl rfl (OpJ.mul rfl rfl ?_)
  refine mvo rfl rfl ?_
  refine RunL.op rfl rfl (OpJ.add rfl rfl ?_)
  refine asg rfl rfl ?_
  refine kp [2] rfl ?_
  refine Run.ret ?_
  exact ret_one (.tmp rfl .nil) (congrArg I (before_code h1 h2)) gv
-- days.is
theorem ac147 (n : Int) : AC Tryz.prog 147 ⟨[I n]⟩ (stars []) (Ret (Bo (inB n 0 109572)) []) := by
  refine AC.go Tryz.func147 rfl (Nat.le_of_ble_eq_true rfl) fun β => ?_
  refine sr ?_
  refine asg rfl rfl ?_
  refine kp [0] rfl ?_
  refine sr ?_
  refine mvo rfl rfl ?_
  refine RunL.op rfl rfl (OpJ.geq rfl rfl ?_)
  refine mvo rfl rfl ?_
  first | refine RunL.splitP (t := 5) rfl (fun g1 => ?_) (fun g1 => ?_) | refine RunL.split (t := 5) rfl (fun g1 => ?_) (fun g1 => ?_)
  · skip
    refine RunL.yes rfl rfl rfl rfl (OpJ.move rfl ?_)
    refine RunL.yes rfl rfl rfl rfl (OpJ.leq rfl rfl ?_)
    refine RunL.op rfl rfl (OpJ.pickT rfl rfl ?_)
    refine asg rfl rfl ?_
    refine kp [2] rfl ?_
    refine Run.ret ?_
    exact ret_one (.tmp rfl .nil) (by first | (simp [tup, inB, *]; done) | (exfalso; omega)) .nil
  · skip
    refine RunL.no rfl rfl rfl rfl ?_
    refine RunL.no rfl rfl rfl rfl ?_
    refine RunL.op rfl rfl (OpJ.pickF rfl rfl ?_)
    refine asg rfl rfl ?_
    refine kp [2] rfl ?_
    refine Run.ret ?_
    exact ret_one (.tmp rfl .nil) (by first | (simp [tup, inB, *]; done) | (exfalso; omega)) .nil
-- days.Date
theorem ac105 (n : Int) (R0 : HP) (hR0 : Rd R0 ⟨0, 0, none⟩ lensC) : AC Tryz.prog 105 ⟨[I n]⟩ (stars [R0]) (Outs (fun _ : Int × Int × Int => True) (fun x => .tuple ⟨[.agg ⟨[I x.1, I x.2.1, I x.2.2]⟩, I (if inB n 0 109572 = true then 0 else 11)]⟩) (fun _ => [R0])) := by
  refine AC.go Tryz.func105 rfl (Nat.le_of_ble_eq_true rfl) fun β => ?_
  refine sr ?_
  refine RunL.op rfl rfl (OpJ.alloc Z115 fun b2 => ?_)
  refine asg rfl rfl ?_
  refine kp [0, 2] rfl ?_
  refine Run.seq ?_
  refine sr ?_
  refine mvo rfl rfl ?_
  refine RunL.call C147 rfl rfl rfl (ac147 _) .nil ?_
  refine RunL.op rfl rfl (OpJ.not rfl ?_)
  refine kp [0, 2, 6] rfl ?_
  first | refine Run.if rfl (fun h1 => ?_) (fun h1 => ?_) | refine Run.cond rfl (fun h1 => ?_) (fun h1 => ?_)
  · skip
    refine sr ?_
    refine RunL.op rfl rfl (OpJ.build B115 rfl rfl fun cs hcs => ?_)
    simp only [Sk.c, Mv.c, Co.c, bldL, bldA, Value.cells, bs, Nat.reduceAdd, Nat.reduceLeDiff, Nat.reduceLT] at hcs; subst hcs
    refine RunL.op rfl rfl (OpJ.storeW T115 rfl rfl rfl rfl (by simp [Value.oneCell', Pa.c, Ly.c, Mv.c, Co.c]) up ?_)
    refine asg rfl rfl ?_
    refine kp [2, 3] rfl ?_
    refine Run.ret ?_
    exact ret_out (0, 0, 0) (.cellA T115 rfl pk (by rfl) (.tmp rfl .nil)) trivial (by rw [if_neg (by simpa using h1)]; rfl) gv
  · skip
    refine Run.skip ?_
    refine sr ?_
    have hn := inB_iff.1 (show inB n 0 109572 = true by simpa using h1)
    have hfst := before_first hn.1 hn.2
    refine mvo rfl rfl ?_
    refine RunL.op rfl rfl (OpJ.quo rfl rfl (by omega) ?_)
    refine RunL.set (congrArg I (show _ = n / 366 by rw [Int.tdiv_eq_ediv_of_nonneg (by omega)]; exact wrap_i64_in ⟨by omega, by omega⟩)) ?_
    first | refine RunL.op rfl rfl (OpJ.addI rfl rfl (by omega) ?_) | refine RunL.op rfl rfl (OpJ.add rfl rfl ?_)
    refine RunL.op rfl rfl (OpJ.fieldAddr F115_0 rfl ?_)
    refine RunL.op rfl rfl (OpJ.store1 T3 rfl rfl rfl up (by simp) ?_)
    refine kp [0, 2] rfl ?_
    refine Run.seq ?_
    refine Run.block ?_
    refine Run.loop (fun m E L => ∃ y : Int, m = (2199 - y).toNat ∧ 1900 ≤ y ∧ y ≤ 2199 ∧ beforeF y ≤ n ∧ E = [(0, I n), (2, .pointer (some ⟨b2, 0, none⟩))] ∧ L = [pt b2 (blk [I y, I 0, I 0] 115), R0]) ⟨_, 1900 + n / 366, rfl, hfst.1, hfst.2.1, hfst.2.2, rfl, rfl⟩ ?_
    rintro _ _ _ ⟨y, rfl, hy1, hy2, hyn, rfl, rfl⟩
    refine Run.seq ?_
    refine sr ?_
    refine RunL.cut (t := 22) (v := Bo (decide (y < 2199 ∧ beforeF (y + 1) ≤ n))) (kt (ks := [0, 2]) rfl) ?_ ?_
    · skip
      refine RunL.op rfl rfl (OpJ.fieldAddr F115_0 rfl ?_)
      first | refine RunL.op rfl rfl (OpJ.loadF T3 rfl pk (by rfl) ?_) | refine RunL.op rfl rfl (OpJ.loadO T3 rfl pk (by assumption) (by rfl) (by exact fun _ => rfl) ?_)
      refine RunL.op rfl rfl (OpJ.lss rfl rfl ?_)
      refine mvo rfl rfl ?_
      first | refine RunL.splitP (t := 15) rfl (fun g2 => ?_) (fun g2 => ?_) | refine RunL.split (t := 15) rfl (fun g2 => ?_) (fun g2 => ?_)
      · skip
        refine RunL.yes rfl rfl rfl rfl (OpJ.fieldAddr F115_0 rfl ?_)
        first | refine RunL.yes rfl rfl rfl rfl (OpJ.loadF T3 rfl pk (by rfl) ?_) | refine RunL.yes rfl rfl rfl rfl (OpJ.loadO T3 rfl pk (by assumption) (by rfl) (by exact fun _ => rfl) ?_)
        first | refine RunL.yes rfl rfl rfl rfl (OpJ.addI rfl rfl (by omega) ?_) | refine RunL.yes rfl rfl rfl rfl (OpJ.add rfl rfl ?_)
        refine RunL.callG C148 rfl rfl rfl rfl rfl (ac148 _ (by omega) (by omega)) .nil ?_
        refine RunL.yes rfl rfl rfl rfl (OpJ.move rfl ?_)
        refine RunL.yes rfl rfl rfl rfl (OpJ.leq rfl rfl ?_)
        refine RunL.op rfl rfl (OpJ.pickT rfl rfl ?_)
        exact RunL.nil ⟨.cons (by first | rfl | (show some (Value.bool _) = some (Value.bool _); rw [decide_eq_false (show ¬ (y < 2199 ∧ beforeF (y + 1) ≤ n) by omega)]) | (show some (Value.bool _) = some (Value.bool _); simp_all)) (kt (ks := [0, 2]) rfl), rfl⟩
      · skip
        refine RunL.no rfl rfl rfl rfl ?_
        refine RunL.no rfl rfl rfl rfl ?_
        refine RunL.no rfl rfl rfl rfl ?_
        refine RunL.no rfl rfl rfl rfl ?_
        refine RunL.no rfl rfl rfl rfl ?_
        refine RunL.no rfl rfl rfl rfl ?_
        refine RunL.op rfl rfl (OpJ.pickF rfl rfl ?_)
        exact RunL.nil ⟨.cons (by first | rfl | (show some (Value.bool _) = some (Value.bool _); rw [decide_eq_false (show ¬ (y < 2199 ∧ beforeF (y + 1) ≤ n) by omega)]) | (show some (Value.bool _) = some (Value.bool _); simp_all)) (kt (ks := [0, 2]) rfl), rfl⟩
    first | refine Run.if rfl (fun h3 => ?_) (fun h3 => ?_) | refine Run.cond rfl (fun h3 => ?_) (fun h3 => ?_)
    · skip
      refine Run.skip ?_
      refine Run.block ?_
      refine Run.region ?_
      refine RunL.op rfl rfl (OpJ.fieldAddr F115_0 rfl ?_)
      first | refine RunL.op rfl rfl (OpJ.loadF T3 rfl pk (by rfl) ?_) | refine RunL.op rfl rfl (OpJ.loadO T3 rfl pk (by assumption) (by rfl) (by exact fun _ => rfl) ?_)
      first | refine RunL.op rfl rfl (OpJ.addI rfl rfl (by omega) ?_) | refine RunL.op rfl rfl (OpJ.add rfl rfl ?_)
      refine RunL.op rfl rfl (OpJ.fieldAddr F115_0 rfl ?_)
      refine RunL.op rfl rfl (OpJ.store1 T3 rfl rfl rfl up (by simp) ?_)
      refine RunL.weak (L' := [pt b2 (blk [I (y + 1), I 0, I 0] 115), R0]) (Keep.sub (kt (ks := [0, 2]) rfl)) gv (RunL.nil ?_)
      exact ⟨_, by omega, y + 1, rfl, by omega, by omega, by omega, rfl, rfl⟩
    · skip
      refine Run.exit ?_
      refine sr ?_
      have hfound := year_found hy1 hy2 hyn hn.2 (by omega)
      have hbw := before_wrap (y := y) (by omega) (by omega)
      refine mvo rfl rfl ?_
      refine RunL.op rfl rfl (OpJ.fieldAddr F115_0 rfl ?_)
      first | refine RunL.op rfl rfl (OpJ.loadF T3 rfl pk (by rfl) ?_) | refine RunL.op rfl rfl (OpJ.loadO T3 rfl pk (by assumption) (by rfl) (by exact fun _ => rfl) ?_)
      refine RunL.call C148 rfl rfl rfl (ac148 _ (by omega) (by omega)) .nil ?_
      first | refine RunL.op rfl rfl (OpJ.subI rfl rfl (by omega) ?_) | refine RunL.op rfl rfl (OpJ.sub rfl rfl ?_)
      refine asg rfl rfl ?_
      refine kp [0, 2] rfl ?_
      refine sr ?_
      refine RunL.op rfl rfl (OpJ.fieldAddr F115_1 rfl ?_)
      refine RunL.op rfl rfl (OpJ.store1 T3 rfl rfl rfl up (by simp) ?_)
      refine kp [0, 2] rfl ?_
      refine Run.seq ?_
      refine Run.block ?_
      refine Run.loop (fun mm E L => ∃ m n : Int, mm = (12 - m).toNat ∧ 1 ≤ m ∧ m ≤ 12 ∧ 0 ≤ n ∧ n < restM (leapB y) m ∧ E = [(0, I n), (2, .pointer (some ⟨b2, 0, none⟩))] ∧ L = [pt b2 (blk [I y, I m, I 0] 115), R0]) ⟨_, 1, _, rfl, by omega, by omega, hfound.1, hfound.2, rfl, rfl⟩ ?_
      rintro _ _ _ ⟨m, k, rfl, hm1, hm2, hk0, hkr, rfl, rfl⟩
      refine Run.seq ?_
      refine sr ?_
      refine mvo rfl rfl ?_
      refine RunL.op rfl rfl (OpJ.fieldAddr F115_0 rfl ?_)
      first | refine RunL.op rfl rfl (OpJ.loadF T3 rfl pk (by rfl) ?_) | refine RunL.op rfl rfl (OpJ.loadO T3 rfl pk (by assumption) (by rfl) (by exact fun _ => rfl) ?_)
      refine RunL.op rfl rfl (OpJ.fieldAddr F115_1 rfl ?_)
      first | refine RunL.op rfl rfl (OpJ.loadF T3 rfl pk (by rfl) ?_) | refine RunL.op rfl rfl (OpJ.loadO T3 rfl pk (by assumption) (by rfl) (by exact fun _ => rfl) ?_)
      refine RunL.call C149 rfl rfl rfl (ac149 _ _ _ hR0) tks ?_
      refine RunL.op rfl rfl (OpJ.geq rfl rfl ?_)
      refine kp [0, 2, 39] rfl ?_
      first | refine Run.if rfl (fun h4 => ?_) (fun h4 => ?_) | refine Run.cond rfl (fun h4 => ?_) (fun h4 => ?_)
      · skip
        refine Run.skip ?_
        refine Run.block ?_
        refine sr ?_
        have hnx := rest_next hm1 hm2 hkr (by omega)
        have hlr := @lenM_range (leapB y) m
        have hrl := @rest_le (leapB y) m
        refine mvo rfl rfl ?_
        refine RunL.op rfl rfl (OpJ.fieldAddr F115_0 rfl ?_)
        first | refine RunL.op rfl rfl (OpJ.loadF T3 rfl pk (by rfl) ?_) | refine RunL.op rfl rfl (OpJ.loadO T3 rfl pk (by assumption) (by rfl) (by exact fun _ => rfl) ?_)
        refine RunL.op rfl rfl (OpJ.fieldAddr F115_1 rfl ?_)
        first | refine RunL.op rfl rfl (OpJ.loadF T3 rfl pk (by rfl) ?_) | refine RunL.op rfl rfl (OpJ.loadO T3 rfl pk (by assumption) (by rfl) (by exact fun _ => rfl) ?_)
        refine RunL.call C149 rfl rfl rfl (ac149 _ _ _ hR0) tks ?_
        first | refine RunL.op rfl rfl (OpJ.subI rfl rfl (by omega) ?_) | refine RunL.op rfl rfl (OpJ.sub rfl rfl ?_)
        refine asg rfl rfl ?_
        refine kp [0, 2] rfl ?_
        refine Run.region ?_
        refine RunL.op rfl rfl (OpJ.fieldAddr F115_1 rfl ?_)
        first | refine RunL.op rfl rfl (OpJ.loadF T3 rfl pk (by rfl) ?_) | refine RunL.op rfl rfl (OpJ.loadO T3 rfl pk (by assumption) (by rfl) (by exact fun _ => rfl) ?_)
        first | refine RunL.op rfl rfl (OpJ.addI rfl rfl (by omega) ?_) | refine RunL.op rfl rfl (OpJ.add rfl rfl ?_)
        refine RunL.op rfl rfl (OpJ.fieldAddr F115_1 rfl ?_)
        refine RunL.op rfl rfl (OpJ.store1 T3 rfl rfl rfl up (by simp) ?_)
        refine RunL.weak (L' := [pt b2 (blk [I y, I (m + 1), I 0] 115), R0]) (Keep.sub (kt (ks := [0, 2]) rfl)) gv (RunL.nil ?_)
        exact ⟨_, by omega, m + 1, _, rfl, by omega, by omega, hnx.2.1, hnx.2.2, rfl, rfl⟩
      · skip
        refine Run.exit ?_
        refine sr ?_
        have hrl := @rest_le (leapB y) m
        refine mvo rfl rfl ?_
        first | refine RunL.op rfl rfl (OpJ.addI rfl rfl (by omega) ?_) | refine RunL.op rfl rfl (OpJ.add rfl rfl ?_)
        refine RunL.op rfl rfl (OpJ.fieldAddr F115_2 rfl ?_)
        refine RunL.op rfl rfl (OpJ.store1 T3 rfl rfl rfl up (by simp) ?_)
        refine kp [2] rfl ?_
        refine sr ?_
        first | refine RunL.op rfl rfl (OpJ.loadW T115 rfl pk (by rfl) ?_) | refine RunL.op rfl rfl (OpJ.loadP T115 rfl pk (by simp) ?_) | refine RunL.op rfl rfl (OpJ.loadE T115 rfl pk (by assumption) (by exact fun _ => rfl) rfl (by decide) ?_)
        refine RunL.op rfl rfl (OpJ.storeW T115 rfl rfl rfl rfl (by simp [Value.oneCell', Pa.c, Ly.c, Mv.c, Co.c]) up ?_)
        refine asg rfl rfl ?_
        refine kp [2, 3] rfl ?_
        refine Run.ret ?_
        exact ret_out (y, m, k + 1) (.cellA T115 rfl pk (by rfl) (.tmp rfl .nil)) trivial (by rw [if_pos (by simpa using h1)]; rfl) gv
-- moves.isDay
theorem ac58 (n : Int) (R0 : HP) (hR0 : Rd R0 ⟨0, 0, none⟩ lensC) : AC Tryz.prog 58 ⟨[I n]⟩ (stars [R0]) (Ret (Bo (inB n 0 109572)) [R0]) := by
  refine AC.go Tryz.func58 rfl (Nat.le_of_ble_eq_true rfl) fun β => ?_
  refine sr ?_
  refine asg rfl rfl ?_
  refine kp [0] rfl ?_
  refine sr ?_
  refine mvo rfl rfl ?_
  refine RunL.callX C105 rfl rfl rfl (ac105 _ _ hR0) tks fun x _ => ?_
  refine mvo rfl rfl ?_
  refine RunL.op rfl rfl (OpJ.extract rfl rfl ?_)
  refine RunL.op rfl rfl (OpJ.extract rfl rfl ?_)
  refine RunL.op rfl rfl (OpJ.alloc Z115 fun b3 => ?_)
  refine RunL.op rfl rfl (OpJ.storeW T115 rfl rfl rfl rfl (by simp [Value.oneCell', Pa.c, Ly.c, Mv.c, Co.c]) up ?_)
  refine asg rfl rfl ?_
  refine kp [4] rfl ?_
  refine sr ?_
  refine mvo rfl rfl ?_
  refine RunL.op rfl rfl (OpJ.eql rfl rfl ?_)
  refine asg rfl rfl ?_
  refine kp [2] rfl ?_
  refine Run.ret ?_
  exact ret_one (.tmp rfl .nil) (congrArg Bo (by cases inB n 0 109572 <;> rfl)) gv
end Go.Proofs.YtdcchollplhioaaGreatDoor

namespace Go.SL
open Go
def byteOk (c : UInt8) : Bool := letterB (c.toNat : Int) || digitB (c.toNat : Int)
def everyB (s : ByteArray) : Bool := s.data.toList.all byteOk
def codeB (s : ByteArray) : Bool := decide (s ≠ ⟨#[]⟩) && decide ((s.size : Int) ≤ 12) && everyB s
def Mv.lotOk (m : Mv) : Bool := decide (m.lot = ⟨#[]⟩) || (codeB m.lot && decide (m.kind = 1 ∨ m.kind = 2))
def Mv.refBad (m : Mv) : Bool := (refersB m.kind && decide (m.ref < 1)) || (!refersB m.kind && decide (m.ref ≠ 0))
/-- The first error of a movement by itself. -/
def Mv.one (m : Mv) : Int :=
  if (!inB m.value 0 109572) = true then 11 else if (!codeB m.item) = true then 7 else if (!inB m.kind 1 6) = true then 10
  else if (!m.quantityOk || !m.costOk) = true then 3 else if (!m.lotOk) = true then 22 else if m.refBad = true then 28 else 0
theorem byte_get {s : ByteArray} {i : Nat} : s[i]? = s.data.toList[i]? := by
  rw [Array.getElem?_toList]
  by_cases h : i < s.size
  · rw [getElem?_pos s i h, getElem?_pos s.data i h]; rfl
  · rw [getElem?_neg s i h, getElem?_neg s.data i h]
theorem byte_ex {s : ByteArray} {i : Nat} (h : (i : Int) < (s.size : Int)) : ∃ u, s[i]? = some u := ⟨_, getElem?_pos s i (by omega)⟩
theorem everyB_false {s : ByteArray} {i : Nat} {u : UInt8} (h : s[i]? = some u) (hb : byteOk u = false) : everyB s = false := by
  rw [byte_get] at h
  unfold everyB
  rw [List.all_eq_false]
  exact ⟨u, List.mem_of_getElem? h, by simp [hb]⟩
theorem everyB_true {s : ByteArray} (h : ∀ (i : Nat) u, i < s.size → s[i]? = some u → byteOk u = true) : everyB s = true := by
  unfold everyB
  rw [List.all_eq_true]
  intro u hu
  obtain ⟨i, hi, rfl⟩ := List.getElem_of_mem hu
  refine h i _ (by simpa using hi) ?_
  rw [byte_get]; exact List.getElem?_eq_getElem hi
attribute [irreducible] everyB codeB Mv.lotOk Mv.refBad Mv.one
end Go.SL

namespace Go.Proofs.YtdcchollplhioaaGreatDoor
open Go Go.SL Go.Proofs
theorem C106 : CI Tryz.prog 106 := .of (by kernel_rfl)
theorem C107 : CI Tryz.prog 107 := .of (by kernel_rfl)
theorem C58 : CI Tryz.prog 58 := .of (by kernel_rfl)
theorem C59 : CI Tryz.prog 59 := .of (by kernel_rfl)
theorem C61 : CI Tryz.prog 61 := .of (by kernel_rfl)
theorem C62 : CI Tryz.prog 62 := .of (by kernel_rfl)
theorem C63 : CI Tryz.prog 63 := .of (by kernel_rfl)
theorem C64 : CI Tryz.prog 64 := .of (by kernel_rfl)
theorem F47_1 : FI Tryz.prog 47 1 3 1 := .of (by kernel_rfl)
theorem F47_2 : FI Tryz.prog 47 2 9 2 := .of (by kernel_rfl)
theorem F47_6 : FI Tryz.prog 47 6 9 6 := .of (by kernel_rfl)
theorem F47_7 : FI Tryz.prog 47 7 3 7 := .of (by kernel_rfl)
theorem T47 : TI Tryz.prog 47 true 8 := .of (by kernel_rfl)
theorem T9 : TI Tryz.prog 9 false 1 := .of (by kernel_rfl)
theorem U9 : Tryz.prog.underlying 9 = some .string := by kernel_rfl
-- words.every
theorem ac106 (s : ByteArray) (hs : (s.size : Int) ≤ 12) : AC Tryz.prog 106 ⟨[St s, .func (.func 107) #[] #[]]⟩ (stars []) (Ret (Bo (everyB s)) []) := by
  refine AC.go Tryz.func106 rfl (Nat.le_of_ble_eq_true rfl) fun β => ?_
  refine sr ?_
  refine asg rfl rfl ?_
  refine kp [0, 1] rfl ?_
  refine Run.seq ?_
  refine sr ?_
  refine mvo rfl rfl ?_
  refine RunL.op rfl rfl (OpJ.lenS U9 rfl ?_)
  refine mvo rfl rfl ?_
  refine kp [0, 1, 7, 8] rfl ?_
  refine Run.block ?_
  refine Run.loop (fun mm E L => ∃ i : Nat, mm = s.size - i ∧ i ≤ s.size ∧ (∀ (j : Nat) u, j < i → s[j]? = some u → byteOk u = true) ∧ E = [(0, St s), (1, .func (.func 107) #[] #[]), (7, I s.size), (8, I i)] ∧ L = []) ⟨_, 0, rfl, Nat.zero_le _, fun _ _ h => by omega, rfl, rfl⟩ ?_
  rintro _ _ _ ⟨i, rfl, hi, hI0, rfl, rfl⟩
  refine sr ?_
  refine RunL.op rfl rfl (OpJ.lss rfl rfl ?_)
  refine kp [0, 1, 7, 8, 9] rfl ?_
  refine Run.seq ?_
  first | refine Run.if rfl (fun h1 => ?_) (fun h1 => ?_) | refine Run.cond rfl (fun h1 => ?_) (fun h1 => ?_)
  · skip
    refine Run.skip ?_
    refine Run.seq ?_
    refine Run.block ?_
    refine sr ?_
    refine mvo rfl rfl ?_
    refine asg rfl rfl ?_
    refine kp [0, 1, 5, 7, 8] rfl ?_
    refine sr ?_
    obtain ⟨u, hu⟩ := byte_ex (s := s) (i := i) (by omega)
    refine mvo rfl rfl ?_
    refine mvo rfl rfl ?_
    refine mvo rfl rfl ?_
    refine RunL.op rfl rfl (OpJ.indexS U9 rfl rfl (by omega) hu ?_)
    refine RunL.call C107 rfl rfl rfl (ac107 _) .nil ?_
    refine RunL.op rfl rfl (OpJ.not rfl ?_)
    refine kp [0, 1, 7, 8, 16] rfl ?_
    first | refine Run.if rfl (fun h2 => ?_) (fun h2 => ?_) | refine Run.cond rfl (fun h2 => ?_) (fun h2 => ?_)
    · skip
      refine sr ?_
      refine asg rfl rfl ?_
      refine kp [4] rfl ?_
      refine Run.ret ?_
      exact ret_one (.tmp rfl .nil) (congrArg Bo (everyB_false hu (show (letterB _ || digitB _) = false by simpa only [Bool.not_eq_true'] using h2)).symm) gv
    · skip
      refine Run.skip ?_
      refine Run.region ?_
      first | refine RunL.op rfl rfl (OpJ.addI rfl rfl (by omega) ?_) | refine RunL.op rfl rfl (OpJ.add rfl rfl ?_)
      refine mvo rfl rfl ?_
      exact RunL.next (Keep.sub (kt (ks := [0, 1, 7, 8]) rfl)) _ ⟨_, by omega, i + 1, rfl, by omega, fun j v hj hv => (by rcases Nat.lt_succ_iff_lt_or_eq.1 hj with h | rfl; exact hI0 j v h hv; rw [hu] at hv; cases hv; exact (show (letterB _ || digitB _) = true by simpa only [Bool.not_eq_false'] using h2)), rfl, rfl⟩ gv
  · skip
    refine Run.exit ?_
    refine sr ?_
    refine asg rfl rfl ?_
    refine kp [4] rfl ?_
    refine Run.ret ?_
    exact ret_one (.tmp rfl .nil) (congrArg Bo (everyB_true fun j u hj hu => hI0 j u (by omega) hu).symm) gv
-- words.Code
theorem ac59 (s : ByteArray) : AC Tryz.prog 59 ⟨[St s]⟩ (stars []) (Ret (Bo (codeB s)) []) := by
  refine AC.go Tryz.func59 rfl (Nat.le_of_ble_eq_true rfl) fun β => ?_
  refine sr ?_
  refine asg rfl rfl ?_
  refine kp [0] rfl ?_
  refine sr ?_
  refine mvo rfl rfl ?_
  refine RunL.op rfl rfl (OpJ.neqS rfl rfl ?_)
  refine mvo rfl rfl ?_
  first | refine RunL.splitP (t := 5) rfl (fun g1 => ?_) (fun g1 => ?_) | refine RunL.split (t := 5) rfl (fun g1 => ?_) (fun g1 => ?_)
  · skip
    refine RunL.yes rfl rfl rfl rfl (OpJ.move rfl ?_)
    refine RunL.yes rfl rfl rfl rfl (OpJ.lenS U9 rfl ?_)
    refine RunL.yes rfl rfl rfl rfl (OpJ.leq rfl rfl ?_)
    refine RunL.op rfl rfl (OpJ.pickT rfl rfl ?_)
    refine mvo rfl rfl ?_
    first | refine RunL.splitP (t := 10) rfl (fun g2 => ?_) (fun g2 => ?_) | refine RunL.split (t := 10) rfl (fun g2 => ?_) (fun g2 => ?_)
    · skip
      refine RunL.yes rfl rfl rfl rfl (OpJ.move rfl ?_)
      refine RunL.callG C106 rfl rfl rfl rfl rfl (ac106 _ (by omega)) .nil ?_
      refine RunL.op rfl rfl (OpJ.pickT rfl rfl ?_)
      refine asg rfl rfl ?_
      refine kp [2] rfl ?_
      refine Run.ret ?_
      exact ret_one (.tmp rfl .nil) (by first | (simp [tup, codeB, *]; done) | (exfalso; omega)) .nil
    · skip
      refine RunL.no rfl rfl rfl rfl ?_
      refine RunL.no rfl rfl rfl rfl ?_
      refine RunL.op rfl rfl (OpJ.pickF rfl rfl ?_)
      refine asg rfl rfl ?_
      refine kp [2] rfl ?_
      refine Run.ret ?_
      exact ret_one (.tmp rfl .nil) (by first | (simp [tup, codeB, *]; done) | (exfalso; omega)) .nil
  · skip
    refine RunL.no rfl rfl rfl rfl ?_
    refine RunL.no rfl rfl rfl rfl ?_
    refine RunL.no rfl rfl rfl rfl ?_
    refine RunL.op rfl rfl (OpJ.pickF rfl rfl ?_)
    refine mvo rfl rfl ?_
    refine RunL.no rfl rfl rfl rfl ?_
    refine RunL.no rfl rfl rfl rfl ?_
    refine RunL.op rfl rfl (OpJ.pickF rfl rfl ?_)
    refine asg rfl rfl ?_
    refine kp [2] rfl ?_
    refine Run.ret ?_
    exact ret_one (.tmp rfl .nil) (by first | (simp [tup, codeB, *]; done) | (exfalso; omega)) .nil
-- moves.lot
theorem ac63 (m : Mv) : AC Tryz.prog 63 ⟨[.agg ⟨m.c⟩]⟩ (stars []) (Ret (Bo m.lotOk) []) := by
  refine AC.go Tryz.func63 rfl (Nat.le_of_ble_eq_true rfl) fun β => ?_
  refine sr ?_
  refine RunL.op rfl rfl (OpJ.boxA rfl fun b1 => ?_)
  refine asg rfl rfl ?_
  refine kp [1] rfl ?_
  refine sr ?_
  refine RunL.op rfl rfl (OpJ.fieldAddr F47_6 rfl ?_)
  first | refine RunL.op rfl rfl (OpJ.loadF T9 rfl pk (by rfl) ?_) | refine RunL.op rfl rfl (OpJ.loadO T9 rfl pk (by assumption) (by rfl) (by exact fun _ => rfl) ?_)
  refine RunL.op rfl rfl (OpJ.eqlS rfl rfl ?_)
  refine mvo rfl rfl ?_
  first | refine RunL.splitP (t := 6) rfl (fun g1 => ?_) (fun g1 => ?_) | refine RunL.split (t := 6) rfl (fun g1 => ?_) (fun g1 => ?_)
  · skip
    refine RunL.no rfl rfl rfl rfl ?_
    refine RunL.no rfl rfl rfl rfl ?_
    refine RunL.no rfl rfl rfl rfl ?_
    refine RunL.no rfl rfl rfl rfl ?_
    refine RunL.undef rfl rfl rfl rfl ?_
    refine RunL.undef rfl rfl rfl rfl ?_
    refine RunL.undef rfl rfl rfl rfl ?_
    refine RunL.undef rfl rfl rfl rfl ?_
    refine RunL.undef rfl rfl rfl rfl ?_
    refine RunL.undef rfl rfl rfl rfl ?_
    refine RunL.undef rfl rfl rfl rfl ?_
    refine RunL.undef rfl rfl rfl rfl ?_
    refine RunL.no rfl rfl rfl rfl ?_
    refine RunL.op rfl rfl (OpJ.pickT rfl rfl ?_)
    refine asg rfl rfl ?_
    refine kp [2] rfl ?_
    refine Run.ret ?_
    exact ret_one (.tmp rfl .nil) (by first | (simp [tup, Mv.lotOk, *]; done) | (exfalso; omega)) .nil
  · skip
    refine RunL.yes rfl rfl rfl rfl (OpJ.fieldAddr F47_6 rfl ?_)
    first | refine RunL.yes rfl rfl rfl rfl (OpJ.loadF T9 rfl pk (by rfl) ?_) | refine RunL.yes rfl rfl rfl rfl (OpJ.loadO T9 rfl pk (by assumption) (by rfl) (by exact fun _ => rfl) ?_)
    refine RunL.callG C59 rfl rfl rfl rfl rfl (ac59 _) .nil ?_
    refine RunL.yes rfl rfl rfl rfl (OpJ.move rfl ?_)
    first | refine RunL.splitP (t := 10) rfl (fun g2 => ?_) (fun g2 => ?_) | refine RunL.split (t := 10) rfl (fun g2 => ?_) (fun g2 => ?_)
    · skip
      refine RunL.yes rfl rfl rfl rfl (OpJ.fieldAddr F47_3 rfl ?_)
      first | refine RunL.yes rfl rfl rfl rfl (OpJ.loadF T3 rfl pk (by rfl) ?_) | refine RunL.yes rfl rfl rfl rfl (OpJ.loadO T3 rfl pk (by assumption) (by rfl) (by exact fun _ => rfl) ?_)
      refine RunL.yes rfl rfl rfl rfl (OpJ.eql rfl rfl ?_)
      refine RunL.yes rfl rfl rfl rfl (OpJ.move rfl ?_)
      first | refine RunL.splitP (t := 14) rfl (fun g3 => ?_) (fun g3 => ?_) | refine RunL.split (t := 14) rfl (fun g3 => ?_) (fun g3 => ?_)
      · skip
        refine RunL.no rfl rfl rfl rfl ?_
        refine RunL.no rfl rfl rfl rfl ?_
        refine RunL.no rfl rfl rfl rfl ?_
        refine RunL.yes rfl rfl rfl rfl (OpJ.pickT rfl rfl ?_)
        refine RunL.yes rfl rfl rfl rfl (OpJ.pickT rfl rfl ?_)
        refine RunL.op rfl rfl (OpJ.pickF rfl rfl ?_)
        refine asg rfl rfl ?_
        refine kp [2] rfl ?_
        refine Run.ret ?_
        exact ret_one (.tmp rfl .nil) (by first | (simp [tup, Mv.lotOk, *]; done) | (exfalso; omega)) .nil
      · skip
        refine RunL.yes rfl rfl rfl rfl (OpJ.fieldAddr F47_3 rfl ?_)
        first | refine RunL.yes rfl rfl rfl rfl (OpJ.loadF T3 rfl pk (by rfl) ?_) | refine RunL.yes rfl rfl rfl rfl (OpJ.loadO T3 rfl pk (by assumption) (by rfl) (by exact fun _ => rfl) ?_)
        refine RunL.yes rfl rfl rfl rfl (OpJ.eql rfl rfl ?_)
        refine RunL.yes rfl rfl rfl rfl (OpJ.pickF rfl rfl ?_)
        refine RunL.yes rfl rfl rfl rfl (OpJ.pickT rfl rfl ?_)
        refine RunL.op rfl rfl (OpJ.pickF rfl rfl ?_)
        refine asg rfl rfl ?_
        refine kp [2] rfl ?_
        refine Run.ret ?_
        exact ret_one (.tmp rfl .nil) (by first | (simp [tup, Mv.lotOk, *]; done) | (exfalso; omega)) .nil
    · skip
      refine RunL.no rfl rfl rfl rfl ?_
      refine RunL.no rfl rfl rfl rfl ?_
      refine RunL.no rfl rfl rfl rfl ?_
      refine RunL.no rfl rfl rfl rfl ?_
      refine RunL.undef rfl rfl rfl rfl ?_
      refine RunL.undef rfl rfl rfl rfl ?_
      refine RunL.undef rfl rfl rfl rfl ?_
      refine RunL.no rfl rfl rfl rfl ?_
      refine RunL.yes rfl rfl rfl rfl (OpJ.pickF rfl rfl ?_)
      refine RunL.op rfl rfl (OpJ.pickF rfl rfl ?_)
      refine asg rfl rfl ?_
      refine kp [2] rfl ?_
      refine Run.ret ?_
      exact ret_one (.tmp rfl .nil) (by first | (simp [tup, Mv.lotOk, *]; done) | (exfalso; omega)) .nil
-- moves.One
theorem ac30 (m : Mv) (R0 : HP) (hR0 : Rd R0 ⟨0, 0, none⟩ lensC) : AC Tryz.prog 30 ⟨[.agg ⟨m.c⟩]⟩ (stars [R0]) (Ret (I m.one) [R0]) := by
  refine AC.go Tryz.func30 rfl (Nat.le_of_ble_eq_true rfl) fun β => ?_
  refine sr ?_
  refine RunL.op rfl rfl (OpJ.boxA rfl fun b1 => ?_)
  refine asg rfl rfl ?_
  refine kp [1] rfl ?_
  refine Run.seq ?_
  refine Run.block ?_
  refine sr ?_
  refine RunL.op rfl rfl (OpJ.fieldAddr F47_1 rfl ?_)
  first | refine RunL.op rfl rfl (OpJ.loadF T3 rfl pk (by rfl) ?_) | refine RunL.op rfl rfl (OpJ.loadO T3 rfl pk (by assumption) (by rfl) (by exact fun _ => rfl) ?_)
  refine RunL.call C58 rfl rfl rfl (ac58 _ _ hR0) tks ?_
  refine RunL.op rfl rfl (OpJ.not rfl ?_)
  refine asg rfl rfl ?_
  refine kp [1, 3] rfl ?_
  first | refine Run.if rfl (fun h1 => ?_) (fun h1 => ?_) | refine Run.cond rfl (fun h1 => ?_) (fun h1 => ?_)
  · skip
    refine sr ?_
    refine asg rfl rfl ?_
    refine kp [2] rfl ?_
    refine Run.ret ?_
    exact ret_one (.tmp rfl .nil) (by first | (simp [tup, Mv.one, Mv.refBad, *]; done) | (exfalso; simp_all; done)) gv
  · skip
    refine sr ?_
    refine RunL.op rfl rfl (OpJ.fieldAddr F47_2 rfl ?_)
    first | refine RunL.op rfl rfl (OpJ.loadF T9 rfl pk (by rfl) ?_) | refine RunL.op rfl rfl (OpJ.loadO T9 rfl pk (by assumption) (by rfl) (by exact fun _ => rfl) ?_)
    refine RunL.call C59 rfl rfl rfl (ac59 _) .nil ?_
    refine RunL.op rfl rfl (OpJ.not rfl ?_)
    refine asg rfl rfl ?_
    refine kp [1, 8] rfl ?_
    first | refine Run.if rfl (fun h2 => ?_) (fun h2 => ?_) | refine Run.cond rfl (fun h2 => ?_) (fun h2 => ?_)
    · skip
      refine sr ?_
      refine asg rfl rfl ?_
      refine kp [2] rfl ?_
      refine Run.ret ?_
      exact ret_one (.tmp rfl .nil) (by first | (simp [tup, Mv.one, Mv.refBad, *]; done) | (exfalso; simp_all; done)) gv
    · skip
      refine sr ?_
      refine RunL.op rfl rfl (OpJ.fieldAddr F47_3 rfl ?_)
      first | refine RunL.op rfl rfl (OpJ.loadF T3 rfl pk (by rfl) ?_) | refine RunL.op rfl rfl (OpJ.loadO T3 rfl pk (by assumption) (by rfl) (by exact fun _ => rfl) ?_)
      refine RunL.call C60 rfl rfl rfl (ac60 _ _ _) .nil ?_
      refine RunL.op rfl rfl (OpJ.not rfl ?_)
      refine asg rfl rfl ?_
      refine kp [1, 13] rfl ?_
      first | refine Run.if rfl (fun h3 => ?_) (fun h3 => ?_) | refine Run.cond rfl (fun h3 => ?_) (fun h3 => ?_)
      · skip
        refine sr ?_
        refine asg rfl rfl ?_
        refine kp [2] rfl ?_
        refine Run.ret ?_
        exact ret_one (.tmp rfl .nil) (by first | (simp [tup, Mv.one, Mv.refBad, *]; done) | (exfalso; simp_all; done)) gv
      · skip
        refine sr ?_
        first | refine RunL.op rfl rfl (OpJ.loadW T47 rfl pk (by rfl) ?_) | refine RunL.op rfl rfl (OpJ.loadP T47 rfl pk (by simp) ?_) | refine RunL.op rfl rfl (OpJ.loadE T47 rfl pk (by assumption) (by exact fun _ => rfl) rfl (by decide) ?_)
        refine RunL.call C61 rfl rfl rfl (ac61 _) .nil ?_
        refine RunL.op rfl rfl (OpJ.not rfl ?_)
        refine mvo rfl rfl ?_
        first | refine RunL.splitP (t := 22) rfl (fun g4 => ?_) (fun g4 => ?_) | refine RunL.split (t := 22) rfl (fun g4 => ?_) (fun g4 => ?_)
        · skip
          refine RunL.no rfl rfl rfl rfl ?_
          refine RunL.no rfl rfl rfl rfl ?_
          refine RunL.no rfl rfl rfl rfl ?_
          refine RunL.op rfl rfl (OpJ.pickT rfl rfl ?_)
          refine asg rfl rfl ?_
          refine kp [1, 18] rfl ?_
          refine Run.true rfl ?_
          refine sr ?_
          refine asg rfl rfl ?_
          refine kp [2] rfl ?_
          refine Run.ret ?_
          exact ret_one (.tmp rfl .nil) (by first | (simp [tup, Mv.one, Mv.refBad, *]; done) | (exfalso; simp_all; done)) gv
        · skip
          first | refine RunL.yes rfl rfl rfl rfl (OpJ.loadW T47 rfl pk (by rfl) ?_) | refine RunL.yes rfl rfl rfl rfl (OpJ.loadP T47 rfl pk (by simp) ?_) | refine RunL.yes rfl rfl rfl rfl (OpJ.loadE T47 rfl pk (by assumption) (by exact fun _ => rfl) rfl (by decide) ?_)
          refine RunL.callG C62 rfl rfl rfl rfl rfl (ac62 _) .nil ?_
          refine RunL.yes rfl rfl rfl rfl (OpJ.not rfl ?_)
          refine RunL.op rfl rfl (OpJ.pickF rfl rfl ?_)
          refine asg rfl rfl ?_
          refine kp [1, 18] rfl ?_
          first | refine Run.if rfl (fun h5 => ?_) (fun h5 => ?_) | refine Run.cond rfl (fun h5 => ?_) (fun h5 => ?_)
          · skip
            refine sr ?_
            refine asg rfl rfl ?_
            refine kp [2] rfl ?_
            refine Run.ret ?_
            exact ret_one (.tmp rfl .nil) (by first | (simp [tup, Mv.one, Mv.refBad, *]; done) | (exfalso; simp_all; done)) gv
          · skip
            refine sr ?_
            first | refine RunL.op rfl rfl (OpJ.loadW T47 rfl pk (by rfl) ?_) | refine RunL.op rfl rfl (OpJ.loadP T47 rfl pk (by simp) ?_) | refine RunL.op rfl rfl (OpJ.loadE T47 rfl pk (by assumption) (by exact fun _ => rfl) rfl (by decide) ?_)
            refine RunL.call C63 rfl rfl rfl (ac63 _) .nil ?_
            refine RunL.op rfl rfl (OpJ.not rfl ?_)
            refine asg rfl rfl ?_
            refine kp [1, 27] rfl ?_
            first | refine Run.if rfl (fun h6 => ?_) (fun h6 => ?_) | refine Run.cond rfl (fun h6 => ?_) (fun h6 => ?_)
            · skip
              refine sr ?_
              refine asg rfl rfl ?_
              refine kp [2] rfl ?_
              refine Run.ret ?_
              exact ret_one (.tmp rfl .nil) (by first | (simp [tup, Mv.one, Mv.refBad, *]; done) | (exfalso; simp_all; done)) gv
            · skip
              refine sr ?_
              refine RunL.op rfl rfl (OpJ.fieldAddr F47_3 rfl ?_)
              first | refine RunL.op rfl rfl (OpJ.loadF T3 rfl pk (by rfl) ?_) | refine RunL.op rfl rfl (OpJ.loadO T3 rfl pk (by assumption) (by rfl) (by exact fun _ => rfl) ?_)
              refine RunL.call C64 rfl rfl rfl (ac64 _) .nil ?_
              refine mvo rfl rfl ?_
              first | refine RunL.splitP (t := 35) rfl (fun g7 => ?_) (fun g7 => ?_) | refine RunL.split (t := 35) rfl (fun g7 => ?_) (fun g7 => ?_)
              · skip
                refine RunL.yes rfl rfl rfl rfl (OpJ.fieldAddr F47_7 rfl ?_)
                first | refine RunL.yes rfl rfl rfl rfl (OpJ.loadF T3 rfl pk (by rfl) ?_) | refine RunL.yes rfl rfl rfl rfl (OpJ.loadO T3 rfl pk (by assumption) (by rfl) (by exact fun _ => rfl) ?_)
                refine RunL.yes rfl rfl rfl rfl (OpJ.lss rfl rfl ?_)
                refine RunL.op rfl rfl (OpJ.pickT rfl rfl ?_)
                refine mvo rfl rfl ?_
                first | refine RunL.splitP (t := 40) rfl (fun g8 => ?_) (fun g8 => ?_) | refine RunL.split (t := 40) rfl (fun g8 => ?_) (fun g8 => ?_)
                · skip
                  refine RunL.no rfl rfl rfl rfl ?_
                  refine RunL.no rfl rfl rfl rfl ?_
                  refine RunL.no rfl rfl rfl rfl ?_
                  refine RunL.no rfl rfl rfl rfl ?_
                  refine RunL.no rfl rfl rfl rfl ?_
                  refine RunL.undef rfl rfl rfl rfl ?_
                  refine RunL.undef rfl rfl rfl rfl ?_
                  refine RunL.undef rfl rfl rfl rfl ?_
                  refine RunL.no rfl rfl rfl rfl ?_
                  refine RunL.op rfl rfl (OpJ.pickT rfl rfl ?_)
                  refine asg rfl rfl ?_
                  refine kp [31] rfl ?_
                  refine Run.true rfl ?_
                  refine sr ?_
                  refine asg rfl rfl ?_
                  refine kp [2] rfl ?_
                  refine Run.ret ?_
                  exact ret_one (.tmp rfl .nil) (by first | (simp [tup, Mv.one, Mv.refBad, *]; done) | (exfalso; simp_all; done)) gv
                · skip
                  refine RunL.yes rfl rfl rfl rfl (OpJ.fieldAddr F47_3 rfl ?_)
                  first | refine RunL.yes rfl rfl rfl rfl (OpJ.loadF T3 rfl pk (by rfl) ?_) | refine RunL.yes rfl rfl rfl rfl (OpJ.loadO T3 rfl pk (by assumption) (by rfl) (by exact fun _ => rfl) ?_)
                  refine RunL.callG C64 rfl rfl rfl rfl rfl (ac64 _) .nil ?_
                  refine RunL.yes rfl rfl rfl rfl (OpJ.not rfl ?_)
                  refine RunL.yes rfl rfl rfl rfl (OpJ.move rfl ?_)
                  first | refine RunL.splitP (t := 45) rfl (fun g9 => ?_) (fun g9 => ?_) | refine RunL.split (t := 45) rfl (fun g9 => ?_) (fun g9 => ?_)
                  · skip
                    refine RunL.yes rfl rfl rfl rfl (OpJ.fieldAddr F47_7 rfl ?_)
                    first | refine RunL.yes rfl rfl rfl rfl (OpJ.loadF T3 rfl pk (by rfl) ?_) | refine RunL.yes rfl rfl rfl rfl (OpJ.loadO T3 rfl pk (by assumption) (by rfl) (by exact fun _ => rfl) ?_)
                    refine RunL.yes rfl rfl rfl rfl (OpJ.neq rfl rfl ?_)
                    refine RunL.yes rfl rfl rfl rfl (OpJ.pickT rfl rfl ?_)
                    refine RunL.op rfl rfl (OpJ.pickF rfl rfl ?_)
                    refine asg rfl rfl ?_
                    refine kp [31] rfl ?_
                    first | refine Run.if rfl (fun h10 => ?_) (fun h10 => ?_) | refine Run.cond rfl (fun h10 => ?_) (fun h10 => ?_)
                    · skip
                      refine sr ?_
                      refine asg rfl rfl ?_
                      refine kp [2] rfl ?_
                      refine Run.ret ?_
                      exact ret_one (.tmp rfl .nil) (by first | (simp [tup, Mv.one, Mv.refBad, *]; done) | (exfalso; simp_all; done)) gv
                    · skip
                      refine Run.skip ?_
                      refine sr ?_
                      refine asg rfl rfl ?_
                      refine kp [2] rfl ?_
                      refine Run.ret ?_
                      exact ret_one (.tmp rfl .nil) (by first | (simp [tup, Mv.one, Mv.refBad, *]; done) | (exfalso; simp_all; done)) gv
                  · skip
                    refine RunL.no rfl rfl rfl rfl ?_
                    refine RunL.no rfl rfl rfl rfl ?_
                    refine RunL.no rfl rfl rfl rfl ?_
                    refine RunL.yes rfl rfl rfl rfl (OpJ.pickF rfl rfl ?_)
                    refine RunL.op rfl rfl (OpJ.pickF rfl rfl ?_)
                    refine asg rfl rfl ?_
                    refine kp [31] rfl ?_
                    refine Run.false rfl ?_
                    refine Run.skip ?_
                    refine sr ?_
                    refine asg rfl rfl ?_
                    refine kp [2] rfl ?_
                    refine Run.ret ?_
                    exact ret_one (.tmp rfl .nil) (by first | (simp [tup, Mv.one, Mv.refBad, *]; done) | (exfalso; simp_all; done)) gv
              · skip
                refine RunL.no rfl rfl rfl rfl ?_
                refine RunL.no rfl rfl rfl rfl ?_
                refine RunL.no rfl rfl rfl rfl ?_
                refine RunL.op rfl rfl (OpJ.pickF rfl rfl ?_)
                refine mvo rfl rfl ?_
                refine RunL.yes rfl rfl rfl rfl (OpJ.fieldAddr F47_3 rfl ?_)
                first | refine RunL.yes rfl rfl rfl rfl (OpJ.loadF T3 rfl pk (by rfl) ?_) | refine RunL.yes rfl rfl rfl rfl (OpJ.loadO T3 rfl pk (by assumption) (by rfl) (by exact fun _ => rfl) ?_)
                refine RunL.callG C64 rfl rfl rfl rfl rfl (ac64 _) .nil ?_
                refine RunL.yes rfl rfl rfl rfl (OpJ.not rfl ?_)
                refine RunL.yes rfl rfl rfl rfl (OpJ.move rfl ?_)
                first | refine RunL.splitP (t := 45) rfl (fun g11 => ?_) (fun g11 => ?_) | refine RunL.split (t := 45) rfl (fun g11 => ?_) (fun g11 => ?_)
                · skip
                  refine RunL.yes rfl rfl rfl rfl (OpJ.fieldAddr F47_7 rfl ?_)
                  first | refine RunL.yes rfl rfl rfl rfl (OpJ.loadF T3 rfl pk (by rfl) ?_) | refine RunL.yes rfl rfl rfl rfl (OpJ.loadO T3 rfl pk (by assumption) (by rfl) (by exact fun _ => rfl) ?_)
                  refine RunL.yes rfl rfl rfl rfl (OpJ.neq rfl rfl ?_)
                  refine RunL.yes rfl rfl rfl rfl (OpJ.pickT rfl rfl ?_)
                  refine RunL.op rfl rfl (OpJ.pickF rfl rfl ?_)
                  refine asg rfl rfl ?_
                  refine kp [31] rfl ?_
                  first | refine Run.if rfl (fun h12 => ?_) (fun h12 => ?_) | refine Run.cond rfl (fun h12 => ?_) (fun h12 => ?_)
                  · skip
                    refine sr ?_
                    refine asg rfl rfl ?_
                    refine kp [2] rfl ?_
                    refine Run.ret ?_
                    exact ret_one (.tmp rfl .nil) (by first | (simp [tup, Mv.one, Mv.refBad, *]; done) | (exfalso; simp_all; done)) gv
                  · skip
                    refine Run.skip ?_
                    refine sr ?_
                    refine asg rfl rfl ?_
                    refine kp [2] rfl ?_
                    refine Run.ret ?_
                    exact ret_one (.tmp rfl .nil) (by first | (simp [tup, Mv.one, Mv.refBad, *]; done) | (exfalso; simp_all; done)) gv
                · skip
                  refine RunL.no rfl rfl rfl rfl ?_
                  refine RunL.no rfl rfl rfl rfl ?_
                  refine RunL.no rfl rfl rfl rfl ?_
                  refine RunL.yes rfl rfl rfl rfl (OpJ.pickF rfl rfl ?_)
                  refine RunL.op rfl rfl (OpJ.pickF rfl rfl ?_)
                  refine asg rfl rfl ?_
                  refine kp [31] rfl ?_
                  refine Run.false rfl ?_
                  refine Run.skip ?_
                  refine sr ?_
                  refine asg rfl rfl ?_
                  refine kp [2] rfl ?_
                  refine Run.ret ?_
                  exact ret_one (.tmp rfl .nil) (by first | (simp [tup, Mv.one, Mv.refBad, *]; done) | (exfalso; simp_all; done)) gv
end Go.Proofs.YtdcchollplhioaaGreatDoor

namespace Go.SL
open Go
abbrev W (n : Int) : Int := IntKind.i64.wrap n
theorem W_i64 (n : Int) : i64 (IntKind.i64.wrap n) := by rw [IntKind.wrap_i64]; constructor <;> omega
/-- A stock, a movement and costs, one behind the other. -/
abbrev XC (t : Sk) (m : Mv) (c : Co) (la : Option Addr) (nl lc : Nat) (pa : Option Addr) (np pc : Nat) : List Value :=
  [I t.qty, I t.value, I t.price, .slice la nl lc, .slice pa np pc,
   I m.seq, I m.value, St m.item, I m.kind, I m.qty, I m.cost, St m.lot, I m.ref, I c.seq, I c.qty, I c.value, I c.var]
def Ly.ok (l : Ly) : Prop := i64 l.qty ∧ i64 l.value
def Pa.ok (p : Pa) : Prop := i64 p.qty ∧ i64 p.value ∧ i64 p.used ∧ i64 p.usedValue
def Mv.ok (m : Mv) : Prop := i64 m.qty ∧ i64 m.cost
structure Sk.ok (N : Nat) (t : Sk) : Prop where
  nl : t.layers.length ≤ N
  np : t.past.length ≤ N
  ly : ∀ (i : Nat) (l : Ly), t.layers[i]? = some l → l.ok
  pa : ∀ (i : Nat) (p : Pa), t.past[i]? = some p → p.ok
  q : i64 t.qty
  v : i64 t.value
  pr : i64 t.price

theorem Ly.one (x : Ly) : ∀ v ∈ x.c, Value.oneCell' v = true := by simp [Ly.c, Value.oneCell']
theorem Pa.one (x : Pa) : ∀ v ∈ x.c, Value.oneCell' v = true := by simp [Pa.c, Value.oneCell']
def findI {α : Type} (f : α → Bool) (xs : List α) : Option (Nat × α) := match xs.findIdx? f with | some i => (xs[i]?).map fun x => (i, x) | none => none
theorem findI_at {α : Type} {p : α → Bool} {xs : List α} {i : Nat} {x : α} (hx : xs[i]? = some x) (hp : p x = true) (hn : ∀ j y, j < i → xs[j]? = some y → p y = false) : findI p xs = some (i, x) := by
  have : xs.findIdx? p = some i := by
    rw [List.findIdx?_eq_some_iff_getElem]
    obtain ⟨hi, rfl⟩ := List.getElem?_eq_some_iff.1 hx
    exact ⟨hi, hp, fun j hj => by simp [hn j xs[j] hj (List.getElem?_eq_getElem (by omega))]⟩
  rw [findI, this]; simp [hx]
theorem findI_none {α : Type} {p : α → Bool} {xs : List α} (hn : ∀ j y, j < xs.length → xs[j]? = some y → p y = false) : findI p xs = none := by
  have : xs.findIdx? p = none := by
    rw [List.findIdx?_eq_none_iff]
    intro x hx
    obtain ⟨i, hi, rfl⟩ := List.getElem_of_mem hx
    exact hn i _ hi (List.getElem?_eq_getElem hi)
  rw [findI, this]
theorem findI_some {α : Type} {p : α → Bool} {xs : List α} {i : Nat} {x : α} (h : findI p xs = some (i, x)) : xs[i]? = some x ∧ p x = true := by
  unfold findI at h
  split at h
  · rename_i j hj
    rw [List.findIdx?_eq_some_iff_getElem] at hj
    obtain ⟨hlt, hp, _⟩ := hj
    rw [List.getElem?_eq_getElem hlt] at h
    simp only [Option.map_some, Option.some.injEq, Prod.mk.injEq] at h
    obtain ⟨rfl, rfl⟩ := h
    exact ⟨List.getElem?_eq_getElem hlt, hp⟩
  · cases h
/-- The index that is found, or -1. -/
def idxOf {α : Type} (r : Option (Nat × α)) : Int := match r with | some (i, _) => (i : Int) | none => -1
/-- The place of the element that is found, or nil. -/
def ptrOf {α : Type} (oa : Option Addr) (k : Nat) (r : Option (Nat × α)) : Option Addr := match r, oa with | some (i, _), some a => some ⟨a.block, a.off + i * k, none⟩ | _, _ => none

def partN (v q n : Int) : Int := if q = n then v else mdN v q n 4
theorem mdN_i64 (a b c mode : Int) (ha : i64 a) (hb : i64 b) : i64 (mdN a b c mode) := by
  unfold mdN
  split
  · decide
  · have h0 : 0 ≤ mdSize a b c mode := by
      have := prod_le ha hb
      have hq : 0 ≤ mag a * mag b / mag c := Int.ediv_nonneg this.1 (by unfold mag; split <;> omega)
      unfold mdSize; split <;> omega
    unfold signedN
    split <;> split <;> constructor <;> omega
theorem partN_i64 {v q n : Int} (hv : i64 v) (hq : i64 q) : i64 (partN v q n) := by
  unfold partN; split
  · exact hv
  · exact mdN_i64 _ _ _ _ hv hq

/-! first in, first out -/
def isPast (kind seq : Int) (p : Pa) : Bool := decide (p.seq = seq) && (decide (kind = 0) || decide (p.kind = kind))
def isLy (seq : Int) (l : Ly) : Bool := decide (l.seq = seq)
/-- What a movement refers to, or the error. -/
def refd (kind : Int) (m : Mv) (ps : List Pa) : Except Int (Nat × Pa) :=
  match findI (isPast kind m.ref) ps with
  | none => .error 28
  | some (i, p) => if W (p.qty - p.used) < m.qty then .error 21 else .ok (i, p)
def errOf {α : Type} (r : Except Int α) : Int := match r with | .error e => e | .ok _ => 0
def okPtr (oa : Option Addr) (k : Nat) (r : Except Int (Nat × Pa)) : Option Addr := match r with | .error _ => none | .ok x => ptrOf oa k (some x)
theorem refd_ok {kind : Int} {m : Mv} {ps : List Pa} (h : errOf (refd kind m ps) = 0) : ∃ i p, refd kind m ps = .ok (i, p) ∧ ps[i]? = some p := by
  unfold refd at h ⊢
  split
  · rename_i hf; rw [hf] at h; cases h
  · rename_i i p hf
    rw [hf] at h
    simp only at h ⊢
    split at h
    · cases h
    · rename_i hlt; rw [if_neg hlt]; exact ⟨i, p, rfl, (findI_some hf).1⟩
def takeV (l : Ly) (q : Int) : Int := partN l.value q l.qty
def takeX (l : Ly) (q : Int) : Ly := { l with qty := W (l.qty - q), value := W (l.value - takeV l q) }
def takeL (ls : List Ly) (i : Nat) (l : Ly) (q : Int) : List Ly := if W (l.qty - q) = 0 then ls.eraseIdx i else ls.set i (takeX l q)
def fRecv (t : Sk) (m : Mv) (c : Co) : Except Int (Sk × Co) :=
  .ok ({ t with layers := t.layers ++ [⟨m.seq, m.lot, m.qty, m.cost⟩], past := t.past ++ [⟨m.seq, m.kind, m.lot, m.qty, m.cost, 0, 0⟩] }, { c with qty := m.qty, value := m.cost })
def issueL : List Ly → Int → Int → List Ly × Int
  | [], _, v => ([], v)
  | l :: ls, left, v => if left ≤ 0 then (l :: ls, v) else
    let q := if l.qty < left then l.qty else left
    if W (l.qty - q) = 0 then issueL ls (W (left - q)) (W (v + takeV l q)) else (takeX l q :: ls, W (v + takeV l q))
def fIssue (t : Sk) (m : Mv) (c : Co) : Except Int (Sk × Co) :=
  if t.qty < m.qty then .error 21 else
    let r := issueL t.layers m.qty 0
    .ok ({ t with layers := r.1, past := t.past ++ [⟨m.seq, m.kind, m.lot, m.qty, r.2, 0, 0⟩] }, { c with qty := W (0 - m.qty), value := W (0 - r.2) })
def backV (p : Pa) (m : Mv) : Int := partN (W (p.value - p.usedValue)) m.qty (W (p.qty - p.used))
def backP (p : Pa) (m : Mv) : Pa := { p with used := W (p.used + m.qty), usedValue := W (p.usedValue + backV p m) }
def fBack (t : Sk) (m : Mv) (c : Co) : Except Int (Sk × Co) :=
  match refd 2 m t.past with
  | .error e => .error e
  | .ok (i, p) => .ok ({ t with layers := t.layers ++ [⟨m.seq, p.lot, m.qty, backV p m⟩], past := t.past.set i (backP p m) }, { c with qty := m.qty, value := backV p m })
def sendP (p : Pa) (m : Mv) : Pa := { p with used := W (p.used + m.qty) }
def fSend (t : Sk) (m : Mv) (c : Co) : Except Int (Sk × Co) :=
  match refd 1 m t.past with
  | .error e => .error e
  | .ok (i, p) => match findI (isLy m.ref) t.layers with
    | none => .error 21
    | some (j, l) => if l.qty < m.qty then .error 21 else
      .ok ({ t with layers := takeL t.layers j l m.qty, past := t.past.set i (sendP p m) }, { c with qty := W (0 - m.qty), value := W (0 - takeV l m.qty), var := W (takeV l m.qty - m.cost) })
def fLand (t : Sk) (m : Mv) (c : Co) : Except Int (Sk × Co) :=
  match refd 1 m t.past with
  | .error e => .error e
  | .ok (_, p) => match findI (isLy m.ref) t.layers with
    | none => .ok (t, { c with var := W (m.cost - c.value) })
    | some (j, l) => .ok ({ t with layers := t.layers.set j { l with value := W (l.value + partN m.cost l.qty p.qty) } }, { c with value := partN m.cost l.qty p.qty, var := W (m.cost - partN m.cost l.qty p.qty) })
def fDo (t : Sk) (m : Mv) (c : Co) : Except Int (Sk × Co) :=
  if m.kind = 1 then fRecv t m c else if m.kind = 2 then fIssue t m c else if m.kind = 3 then fBack t m c else if m.kind = 4 then fSend t m c else if m.kind = 5 then fLand t m c else .error 10
def overB (t : Sk) (c : Co) : Bool := t.layers.any (fun l => farB l.value) || (decide (1000000000 < t.qty) || farB t.value || farB c.var)
def summed (t : Sk) (c : Co) : Sk := { t with qty := W (t.qty + c.qty), value := W (t.value + c.value) }
def fStep (s : Sk) (m : Mv) : Except Int (Sk × Co) :=
  if m.one ≠ 0 then .error m.one else if (findI (isPast 0 m.seq) s.past).isSome = true then .error 8 else
  match fDo s m ⟨m.seq, 0, 0, 0⟩ with
  | .error e => .error e
  | .ok (t, c) => if overB (summed t c) c = true then .error 4 else .ok (summed t c, c)
/-- What the call owns when it has come to 'r'. -/
def Aft (TX TL TP bx : Nat) (m : Mv) (r : Except Int (Sk × Co)) (x : Option Addr × Nat × Option Addr × Nat) : List HP :=
  match r with
  | .error _ => []
  | .ok (t, c) => [pt bx (blk (XC t m c x.1 t.layers.length x.2.1 x.2.2.1 t.past.length x.2.2.2) TX), own TL 4 x.1 t.layers.length x.2.1 (t.layers.flatMap Ly.c), own TP 7 x.2.2.1 t.past.length x.2.2.2 (t.past.flatMap Pa.c)]
theorem errOf_ne {α : Type} {r : Except Int α} (h : errOf r ≠ 0) : ∃ e, r = .error e := by
  cases r with
  | error e => exact ⟨e, rfl⟩
  | ok x => exact absurd rfl h
def issM (ls : List Ly) (left : Int) : Nat := ls.length + (if 0 < left then 1 else 0)
theorem issue_step {l : Ly} {ls : List Ly} {left v : Int} (h0 : 0 < left) (hl : i64 left) (hq : i64 l.qty) :
    issueL (takeL (l :: ls) 0 l (if l.qty < left then l.qty else left)) (W (left - (if l.qty < left then l.qty else left))) (W (v + takeV l (if l.qty < left then l.qty else left))) = issueL (l :: ls) left v ∧
    issM (takeL (l :: ls) 0 l (if l.qty < left then l.qty else left)) (W (left - (if l.qty < left then l.qty else left))) < issM (l :: ls) left := by
  have hnl : ¬ left ≤ 0 := by omega
  have hdef : issueL (l :: ls) left v = (if W (l.qty - (if l.qty < left then l.qty else left)) = 0 then issueL ls (W (left - (if l.qty < left then l.qty else left))) (W (v + takeV l (if l.qty < left then l.qty else left))) else (takeX l (if l.qty < left then l.qty else left) :: ls, W (v + takeV l (if l.qty < left then l.qty else left)))) := by
    rw [issueL, if_neg hnl]
  generalize hqq : (if l.qty < left then l.qty else left) = q at hdef ⊢
  by_cases hz : W (l.qty - q) = 0
  · rw [hdef, if_pos hz, takeL, if_pos hz]
    refine ⟨rfl, ?_⟩
    simp only [issM, List.eraseIdx_cons_zero, List.length_cons, if_pos h0]
    split <;> omega
  · have hql : q = left := by
      split at hqq
      · subst hqq; rw [Int.sub_self] at hz; exact absurd (by decide) hz
      · exact hqq.symm
    have hw0 : W (left - q) = 0 := by rw [hql, Int.sub_self]; decide
    rw [hdef, if_neg hz, takeL, if_neg hz, hw0]
    refine ⟨?_, ?_⟩
    · rw [List.set_cons_zero, issueL, if_pos (Int.le_refl 0)]
    · simp only [issM, List.set_cons_zero, List.length_cons, if_pos h0]; simp
theorem issue_done {ls : List Ly} {left v : Int} (h : ¬ (0 < left ∧ 0 < (ls.length : Int))) : issueL ls left v = (ls, v) := by
  cases ls with
  | nil => rfl
  | cons l ls => rw [issueL, if_pos (by simp only [List.length_cons] at h; omega)]
theorem takeX_ok (l : Ly) (q : Int) : (takeX l q).ok := ⟨W_i64 _, W_i64 _⟩
theorem takeL_ok {ls : List Ly} {i : Nat} {l : Ly} {q : Int} (h : ∀ (j : Nat) (x : Ly), ls[j]? = some x → x.ok) : ∀ (j : Nat) (x : Ly), (takeL ls i l q)[j]? = some x → x.ok := by
  intro j x hx
  unfold takeL at hx
  split at hx
  · have := List.mem_of_getElem? hx
    have := List.mem_of_mem_eraseIdx this
    obtain ⟨j', hj', he⟩ := List.getElem_of_mem this
    exact h j' x (by rw [List.getElem?_eq_getElem hj', he])
  · rw [List.getElem?_set] at hx
    split at hx
    · split at hx
      · cases hx; exact takeX_ok _ _
      · cases hx
    · exact h j x hx
theorem takeL_len {ls : List Ly} {i : Nat} {l : Ly} {q : Int} : (takeL ls i l q).length ≤ ls.length := by
  unfold takeL; split
  · rw [List.length_eraseIdx]; split <;> omega
  · simp
theorem overB_far {t : Sk} {c : Co} {i : Nat} {l : Ly} (hx : t.layers[i]? = some l) (h : farB l.value = true) : overB t c = true := by
  have : t.layers.any (fun l => farB l.value) = true := List.any_eq_true.2 ⟨l, List.mem_of_getElem? hx, h⟩
  unfold overB; rw [this, Bool.true_or]
theorem overB_rest {t : Sk} {c : Co} (h : ∀ (j : Nat) (y : Ly), j < t.layers.length → t.layers[j]? = some y → farB y.value = false) : overB t c = (decide (1000000000 < t.qty) || farB t.value || farB c.var) := by
  have : t.layers.any (fun l => farB l.value) = false := by
    rw [List.any_eq_false]
    intro l hl
    obtain ⟨j, hj, rfl⟩ := List.getElem_of_mem hl
    rw [h j _ hj (List.getElem?_eq_getElem hj)]; decide
  unfold overB; rw [this, Bool.false_or]
attribute [irreducible] findI partN isPast isLy
end Go.SL

namespace Go.Proofs.YtdcchollplhioaaGreatDoor
open Go Go.SL Go.Proofs
theorem C111 : CI Tryz.prog 111 := .of (by kernel_rfl)
theorem F28_3 : FI Tryz.prog 28 3 25 3 := .of (by kernel_rfl)
theorem F28_4 : FI Tryz.prog 28 4 26 4 := .of (by kernel_rfl)
theorem F70_0 : FI Tryz.prog 70 0 28 0 := .of (by kernel_rfl)
theorem M64 : MI Tryz.prog 64 4 40 [.int .i64 0, .string ⟨#[]⟩, .int .i64 0, .int .i64 0] := .of (by kernel_rfl) rfl
theorem M66 : MI Tryz.prog 66 7 64 [.int .i64 0, .int .i64 0, .string ⟨#[]⟩, .int .i64 0, .int .i64 0, .int .i64 0, .int .i64 0] := .of (by kernel_rfl) rfl
theorem S25 : SI Tryz.prog 25 64 4 := .of (by kernel_rfl) (by kernel_rfl)
theorem T25 : TI Tryz.prog 25 false 1 := .of (by kernel_rfl)
theorem T26 : TI Tryz.prog 26 false 1 := .of (by kernel_rfl)
theorem T28 : TI Tryz.prog 28 true 5 := .of (by kernel_rfl)
theorem Z28 : ZI Tryz.prog 28 [.int .i64 0, .int .i64 0, .int .i64 0, .slice none 0 0, .slice none 0 0] := .of (by kernel_rfl)
-- fifo.part
theorem ac68 (v q n : Int) (hv : i64 v) (hq : i64 q) (hn : i64 n) : AC Tryz.prog 68 ⟨[I v, I q, I n]⟩ (stars []) (Ret (I (partN v q n)) []) := by
  refine AC.go Tryz.func68 rfl (Nat.le_of_ble_eq_true rfl) fun β => ?_
  refine sr ?_
  refine asg rfl rfl ?_
  refine kp [0, 1, 2] rfl ?_
  refine Run.seq ?_
  refine sr ?_
  refine mvo rfl rfl ?_
  refine mvo rfl rfl ?_
  refine RunL.op rfl rfl (OpJ.eql rfl rfl ?_)
  refine kp [0, 1, 2, 11] rfl ?_
  first | refine Run.if rfl (fun h1 => ?_) (fun h1 => ?_) | refine Run.cond rfl (fun h1 => ?_) (fun h1 => ?_)
  · skip
    refine sr ?_
    refine mvo rfl rfl ?_
    refine asg rfl rfl ?_
    refine kp [6] rfl ?_
    refine Run.ret ?_
    exact ret_one (.tmp rfl .nil) (by first | (simp [tup, partN, *]; done) | (exfalso; omega)) .nil
  · skip
    refine Run.skip ?_
    refine sr ?_
    refine mvo rfl rfl ?_
    refine mvo rfl rfl ?_
    refine mvo rfl rfl ?_
    refine RunL.call C111 rfl rfl rfl (ac111 _ _ _ _ (by omega) (by omega) (by omega)) .nil ?_
    refine mvo rfl rfl ?_
    refine RunL.op rfl rfl (OpJ.extract rfl rfl ?_)
    refine RunL.op rfl rfl (OpJ.extract rfl rfl ?_)
    refine asg rfl rfl ?_
    refine asg rfl rfl ?_
    refine kp [7] rfl ?_
    refine sr ?_
    refine mvo rfl rfl ?_
    refine asg rfl rfl ?_
    refine kp [6] rfl ?_
    refine Run.ret ?_
    exact ret_one (.tmp rfl .nil) (by first | (simp [tup, partN, *]; done) | (exfalso; omega)) .nil
-- fifo.cloned
theorem ac29 (s : Sk) (la : Option Addr) (lc : Nat) (pa : Option Addr) (pc : Nat) (RL RP : HP) (hs : s.ok 1000000) (hRL : RdS RL la (s.layers.flatMap Ly.c)) (hRP : RdS RP pa (s.past.flatMap Pa.c)) : AC Tryz.prog 29 ⟨[.agg ⟨s.c la lc pa pc⟩]⟩ (stars [RL, RP]) (Outs (fun _ : Nat × Nat => True) (fun x => .agg ⟨s.c (some ⟨x.1, 0, none⟩) s.layers.length (some ⟨x.2, 0, none⟩) s.past.length⟩) (fun x => [own 64 4 (some ⟨x.1, 0, none⟩) s.layers.length s.layers.length ((s.layers).flatMap Ly.c), own 66 7 (some ⟨x.2, 0, none⟩) s.past.length s.past.length ((s.past).flatMap Pa.c), RL, RP])) := by
  have hnl := hs.nl; have hnp := hs.np
  refine AC.go Tryz.func29 rfl (Nat.le_of_ble_eq_true rfl) fun β => ?_
  refine sr ?_
  refine RunL.op rfl rfl (OpJ.boxA rfl fun b1 => ?_)
  refine RunL.op rfl rfl (OpJ.alloc Z28 fun b2 => ?_)
  refine kp [1, 2] rfl ?_
  refine Run.seq ?_
  refine regionD HM ?_
  refine RunD.mono (K' := fun E' L' => ∃ b8 : Nat, ∃ b12 : Nat, E' = [(1, .pointer (some ⟨b1, 0, none⟩)), (2, .pointer (some ⟨b2, 0, none⟩)), (3, .slice (some ⟨b8, 0, none⟩) s.layers.length s.layers.length), (4, .slice (some ⟨b12, 0, none⟩) s.past.length s.past.length)] ∧ L' = [pt b8 (blk (List.replicate s.layers.length [I 0, St ⟨#[]⟩, I 0, I 0]).flatten 64), pt b12 (blk (List.replicate s.past.length [I 0, I 0, St ⟨#[]⟩, I 0, I 0, I 0, I 0]).flatten 66), pt b1 (blk (s.c la lc pa pc) 28), pt b2 (blk [I 0, I 0, I 0, .slice none 0 0, .slice none 0 0] 28), RL, RP]) ?_ ?_
  · skip
    refine tk 0 rfl rfl rfl (DetJ.fieldAddr F28_3 rfl) ?_
    first | refine RunD.takeF 1 rfl rfl kr T25 rfl pk (by rfl) ?_ | refine RunD.takeO 1 rfl rfl kr T25 rfl pk (by assumption) (by rfl) (by exact fun _ => rfl) ?_
    refine tk 2 rfl rfl rfl (DetJ.len S25 rfl) ?_
    refine tk 4 rfl rfl rfl (DetJ.fieldAddr F28_4 rfl) ?_
    first | refine RunD.takeF 5 rfl rfl kr T26 rfl pk (by rfl) ?_ | refine RunD.takeO 5 rfl rfl kr T26 rfl pk (by assumption) (by rfl) (by exact fun _ => rfl) ?_
    refine tk 6 rfl rfl rfl (DetJ.len S26 rfl) ?_
    refine RunD.two 3 7 [true, true, true, false, false, false] [false, false, false, true, true, true] rfl rfl rfl rfl rfl rfl kr kr kr (OpJ.make S25 M64 rfl rfl (by omega) (by omega) fun b8 => ⟨po, ?_⟩) (OpJ.make S26 M66 rfl rfl (by omega) (by omega) fun b12 => ⟨po, ?_⟩)
    · skip
      refine tk 8 rfl rfl rfl (DetJ.assign rfl) ?_
      refine RunD.op 7 [true, false, false, false] rfl rfl rfl kr kr (OpJ.make S26 M66 rfl rfl (by omega) (by omega) fun b12 => ⟨po, ?_⟩)
      refine tk 9 rfl rfl rfl (DetJ.assign rfl) ?_
      exact RunD.weak (E' := [(1, .pointer (some ⟨b1, 0, none⟩)), (2, .pointer (some ⟨b2, 0, none⟩)), (3, .slice (some ⟨b8, 0, none⟩) s.layers.length s.layers.length), (4, .slice (some ⟨b12, 0, none⟩) s.past.length s.past.length)]) (L' := [pt b8 (blk (List.replicate s.layers.length [I 0, St ⟨#[]⟩, I 0, I 0]).flatten 64), pt b12 (blk (List.replicate s.past.length [I 0, I 0, St ⟨#[]⟩, I 0, I 0, I 0, I 0]).flatten 66), pt b1 (blk (s.c la lc pa pc) 28), pt b2 (blk [I 0, I 0, I 0, .slice none 0 0, .slice none 0 0] 28), RL, RP]) (Keep.sub (kt (ks := [1, 2, 3, 4]) rfl)) gv (RunD.done kr ⟨_, _, rfl, rfl⟩)
    · skip
      refine RunD.op 3 [false, false, false] rfl rfl rfl kr kr (OpJ.make S25 M64 rfl rfl (by omega) (by omega) fun b8 => ⟨po, ?_⟩)
      refine tk 8 rfl rfl rfl (DetJ.assign rfl) ?_
      refine tk 9 rfl rfl rfl (DetJ.assign rfl) ?_
      exact RunD.weak (E' := [(1, .pointer (some ⟨b1, 0, none⟩)), (2, .pointer (some ⟨b2, 0, none⟩)), (3, .slice (some ⟨b8, 0, none⟩) s.layers.length s.layers.length), (4, .slice (some ⟨b12, 0, none⟩) s.past.length s.past.length)]) (L' := [pt b8 (blk (List.replicate s.layers.length [I 0, St ⟨#[]⟩, I 0, I 0]).flatten 64), pt b12 (blk (List.replicate s.past.length [I 0, I 0, St ⟨#[]⟩, I 0, I 0, I 0, I 0]).flatten 66), pt b1 (blk (s.c la lc pa pc) 28), pt b2 (blk [I 0, I 0, I 0, .slice none 0 0, .slice none 0 0] 28), RL, RP]) (Keep.sub (kt (ks := [1, 2, 3, 4]) rfl)) gv (RunD.done kr ⟨_, _, rfl, rfl⟩)
  rintro _ _ ⟨b8, b12, rfl, rfl⟩
  refine sr ?_
  refine mvo rfl rfl ?_
  refine RunL.op rfl rfl (OpJ.fieldAddr F28_3 rfl ?_)
  first | refine RunL.op rfl rfl (OpJ.loadF T25 rfl pk (by rfl) ?_) | refine RunL.op rfl rfl (OpJ.loadO T25 rfl pk (by assumption) (by rfl) (by exact fun _ => rfl) ?_)
  refine RunL.op rfl rfl (OpJ.copyAll S25 rfl rfl up pk hRL (flat_len (enc := Ly.c) (k := 4) (fun _ => rfl) _) (by simp) (flat_one Ly.one _) ?_)
  refine kp [1, 2, 3, 4] rfl ?_
  refine sr ?_
  refine mvo rfl rfl ?_
  refine RunL.op rfl rfl (OpJ.fieldAddr F28_4 rfl ?_)
  first | refine RunL.op rfl rfl (OpJ.loadF T26 rfl pk (by rfl) ?_) | refine RunL.op rfl rfl (OpJ.loadO T26 rfl pk (by assumption) (by rfl) (by exact fun _ => rfl) ?_)
  refine RunL.op rfl rfl (OpJ.copyAll S26 rfl rfl up pk hRP (flat_len (enc := Pa.c) (k := 7) (fun _ => rfl) _) (by simp) (flat_one Pa.one _) ?_)
  refine kp [1, 2, 3, 4] rfl ?_
  refine sr ?_
  refine mvo rfl rfl ?_
  refine mvo rfl rfl ?_
  refine RunL.op rfl rfl (OpJ.fieldAddr F28_3 rfl ?_)
  refine RunL.op rfl rfl (OpJ.store1 T25 rfl rfl rfl up (by simp) ?_)
  refine RunL.op rfl rfl (OpJ.fieldAddr F28_4 rfl ?_)
  refine RunL.op rfl rfl (OpJ.store1 T26 rfl rfl rfl up (by simp) ?_)
  refine kp [1, 2] rfl ?_
  refine sr ?_
  first | refine RunL.op rfl rfl (OpJ.loadW T28 rfl pk (by rfl) ?_) | refine RunL.op rfl rfl (OpJ.loadP T28 rfl pk (by simp) ?_) | refine RunL.op rfl rfl (OpJ.loadE T28 rfl pk (by assumption) (by exact fun _ => rfl) rfl (by decide) ?_)
  refine RunL.op rfl rfl (OpJ.storeW T28 rfl rfl rfl rfl (by simp [Value.oneCell', Pa.c, Ly.c, Mv.c, Co.c]) up ?_)
  refine kp [2] rfl ?_
  refine Run.ret ?_
  exact ret_out (b8, b12) (.cellA T28 rfl pk (by rfl) .nil) trivial rfl gv
-- (*fifo.step).past
theorem ac31 (bx : Nat) (t : Sk) (m : Mv) (c : Co) (la : Option Addr) (nl lc : Nat) (pa : Option Addr) (np pc : Nat) (kind seq : Int) (enl : nl = t.layers.length) (enp : np = t.past.length) (hn : t.layers.length ≤ 1000000 ∧ t.past.length ≤ 1000000) : AC Tryz.prog 31 ⟨[.pointer (some ⟨bx, 0, none⟩), I kind, I seq]⟩ (stars [pt bx (blk (XC t m c la nl lc pa np pc) 70), own 66 7 pa np pc ((t.past).flatMap Pa.c)]) (Ret (.pointer (ptrOf pa 7 (findI (isPast kind seq) t.past))) [pt bx (blk (XC t m c la nl lc pa np pc) 70), own 66 7 pa np pc ((t.past).flatMap Pa.c)]) := by
  subst enl enp
  have hnl := hn.1; have hnp := hn.2
  refine AC.go Tryz.func31 rfl (Nat.le_of_ble_eq_true rfl) fun β => ?_
  refine sr ?_
  refine asg rfl rfl ?_
  refine kp [0, 1, 2] rfl ?_
  refine Run.seq ?_
  refine sr ?_
  refine mvo rfl rfl ?_
  refine RunL.op rfl rfl (OpJ.nilCheck rfl ?_)
  refine RunL.op rfl rfl (OpJ.fieldAddr F70_0 rfl ?_)
  refine RunL.op rfl rfl (OpJ.fieldAddr F28_4 rfl ?_)
  first | refine RunL.op rfl rfl (OpJ.loadF T26 rfl pk (by rfl) ?_) | refine RunL.op rfl rfl (OpJ.loadO T26 rfl pk (by assumption) (by rfl) (by exact fun _ => rfl) ?_)
  refine RunL.op rfl rfl (OpJ.len S26 rfl ?_)
  refine mvo rfl rfl ?_
  refine kp [0, 1, 2, 14, 15] rfl ?_
  refine Run.block ?_
  refine Run.loop (fun mm E L => ∃ i : Nat, mm = t.past.length - i ∧ i ≤ t.past.length ∧ (∀ j y, j < i → t.past[j]? = some y → isPast kind seq y = false) ∧ E = [(0, .pointer (some ⟨bx, 0, none⟩)), (1, I kind), (2, I seq), (14, I t.past.length), (15, I i)] ∧ L = [pt bx (blk (XC t m c la t.layers.length lc pa t.past.length pc) 70), own 66 7 pa t.past.length pc ((t.past).flatMap Pa.c)]) ⟨_, 0, rfl, Nat.zero_le _, fun _ _ h => by omega, rfl, rfl⟩ ?_
  rintro _ _ _ ⟨i, rfl, hi, hI0, rfl, rfl⟩
  refine sr ?_
  refine RunL.op rfl rfl (OpJ.lss rfl rfl ?_)
  refine kp [0, 1, 2, 14, 15, 16] rfl ?_
  refine Run.seq ?_
  first | refine Run.if rfl (fun h1 => ?_) (fun h1 => ?_) | refine Run.cond rfl (fun h1 => ?_) (fun h1 => ?_)
  · skip
    refine Run.skip ?_
    refine Run.seq ?_
    refine Run.block ?_
    refine sr ?_
    refine mvo rfl rfl ?_
    refine asg rfl rfl ?_
    refine kp [0, 1, 2, 7, 14, 15] rfl ?_
    refine sr ?_
    obtain ⟨x, hx⟩ := get_ex (xs := t.past) (by omega)
    refine RunL.ownAddr pk (flat_ne (k := 7) (fun _ => rfl) (by decide) hx) fun b e hcap => ?_
    subst e
    refine mvo rfl rfl ?_
    refine RunL.op rfl rfl (OpJ.nilCheck rfl ?_)
    refine RunL.op rfl rfl (OpJ.fieldAddr F70_0 rfl ?_)
    refine RunL.op rfl rfl (OpJ.fieldAddr F28_4 rfl ?_)
    first | refine RunL.op rfl rfl (OpJ.loadF T26 rfl pk (by rfl) ?_) | refine RunL.op rfl rfl (OpJ.loadO T26 rfl pk (by assumption) (by rfl) (by exact fun _ => rfl) ?_)
    refine mvo rfl rfl ?_
    refine RunL.op rfl rfl (OpJ.indexAddr S26 rfl rfl (by omega) ?_)
    refine asg rfl rfl ?_
    refine kp [0, 1, 2, 8, 14, 15] rfl ?_
    refine sr ?_
    refine mvo rfl rfl ?_
    refine RunL.op rfl rfl (OpJ.nilCheck rfl ?_)
    refine RunL.op rfl rfl (OpJ.fieldAddr F66_0 rfl ?_)
    first | refine RunL.op rfl rfl (OpJ.loadF T3 rfl pk (by rfl) ?_) | refine RunL.op rfl rfl (OpJ.loadO T3 rfl pk (by assumption) (by rfl) (by exact fun _ => rfl) ?_)
    refine mvo rfl rfl ?_
    refine RunL.op rfl rfl (OpJ.eql rfl rfl ?_)
    refine mvo rfl rfl ?_
    first | refine RunL.splitP (t := 31) rfl (fun g2 => ?_) (fun g2 => ?_) | refine RunL.split (t := 31) rfl (fun g2 => ?_) (fun g2 => ?_)
    · skip
      refine RunL.yes rfl rfl rfl rfl (OpJ.move rfl ?_)
      refine RunL.yes rfl rfl rfl rfl (OpJ.eql rfl rfl ?_)
      refine RunL.yes rfl rfl rfl rfl (OpJ.move rfl ?_)
      first | refine RunL.splitP (t := 34) rfl (fun g3 => ?_) (fun g3 => ?_) | refine RunL.split (t := 34) rfl (fun g3 => ?_) (fun g3 => ?_)
      · skip
        refine RunL.no rfl rfl rfl rfl ?_
        refine RunL.no rfl rfl rfl rfl ?_
        refine RunL.no rfl rfl rfl rfl ?_
        refine RunL.no rfl rfl rfl rfl ?_
        refine RunL.no rfl rfl rfl rfl ?_
        refine RunL.no rfl rfl rfl rfl ?_
        refine RunL.yes rfl rfl rfl rfl (OpJ.pickT rfl rfl ?_)
        refine RunL.op rfl rfl (OpJ.pickT rfl rfl ?_)
        refine kp [0, 1, 2, 8, 14, 15, 42] rfl ?_
        refine Run.true rfl ?_
        refine sr ?_
        refine mvo rfl rfl ?_
        refine asg rfl rfl ?_
        refine kp [6] rfl ?_
        refine Run.ret ?_
        exact ret_one (.tmp rfl .nil) (congrArg Value.pointer (by rw [findI_at hx (by simp [isPast, *]) hI0]; rfl)) gv
      · skip
        refine RunL.yes rfl rfl rfl rfl (OpJ.move rfl ?_)
        refine RunL.yes rfl rfl rfl rfl (OpJ.nilCheck rfl ?_)
        refine RunL.yes rfl rfl rfl rfl (OpJ.fieldAddr F66_1 rfl ?_)
        first | refine RunL.yes rfl rfl rfl rfl (OpJ.loadF T3 rfl pk (by rfl) ?_) | refine RunL.yes rfl rfl rfl rfl (OpJ.loadO T3 rfl pk (by assumption) (by rfl) (by exact fun _ => rfl) ?_)
        refine RunL.yes rfl rfl rfl rfl (OpJ.move rfl ?_)
        refine RunL.yes rfl rfl rfl rfl (OpJ.eql rfl rfl ?_)
        refine RunL.yes rfl rfl rfl rfl (OpJ.pickF rfl rfl ?_)
        refine RunL.op rfl rfl (OpJ.pickT rfl rfl ?_)
        refine kp [0, 1, 2, 8, 14, 15, 42] rfl ?_
        first | refine Run.if rfl (fun h4 => ?_) (fun h4 => ?_) | refine Run.cond rfl (fun h4 => ?_) (fun h4 => ?_)
        · skip
          refine sr ?_
          refine mvo rfl rfl ?_
          refine asg rfl rfl ?_
          refine kp [6] rfl ?_
          refine Run.ret ?_
          exact ret_one (.tmp rfl .nil) (congrArg Value.pointer (by rw [findI_at hx (by simp [isPast, *]) hI0]; rfl)) gv
        · skip
          refine Run.skip ?_
          refine Run.region ?_
          first | refine RunL.op rfl rfl (OpJ.addI rfl rfl (by omega) ?_) | refine RunL.op rfl rfl (OpJ.add rfl rfl ?_)
          refine mvo rfl rfl ?_
          exact RunL.next (Keep.sub (kt (ks := [0, 1, 2, 14, 15]) rfl)) _ ⟨_, by omega, i + 1, rfl, by omega, notYet hx (by simp [isPast, *]) hI0, rfl, rfl⟩ gv
    · skip
      refine RunL.no rfl rfl rfl rfl ?_
      refine RunL.no rfl rfl rfl rfl ?_
      refine RunL.no rfl rfl rfl rfl ?_
      refine RunL.undef rfl rfl rfl rfl ?_
      refine RunL.undef rfl rfl rfl rfl ?_
      refine RunL.undef rfl rfl rfl rfl ?_
      refine RunL.undef rfl rfl rfl rfl ?_
      refine RunL.undef rfl rfl rfl rfl ?_
      refine RunL.undef rfl rfl rfl rfl ?_
      refine RunL.no rfl rfl rfl rfl ?_
      refine RunL.op rfl rfl (OpJ.pickF rfl rfl ?_)
      refine kp [0, 1, 2, 8, 14, 15, 42] rfl ?_
      refine Run.false rfl ?_
      refine Run.skip ?_
      refine Run.region ?_
      first | refine RunL.op rfl rfl (OpJ.addI rfl rfl (by omega) ?_) | refine RunL.op rfl rfl (OpJ.add rfl rfl ?_)
      refine mvo rfl rfl ?_
      exact RunL.next (Keep.sub (kt (ks := [0, 1, 2, 14, 15]) rfl)) _ ⟨_, by omega, i + 1, rfl, by omega, notYet hx (by simp [isPast, *]) hI0, rfl, rfl⟩ gv
  · skip
    refine Run.exit ?_
    refine sr ?_
    refine asg rfl rfl ?_
    refine kp [6] rfl ?_
    refine Run.ret ?_
    exact ret_one (.tmp rfl .nil) (congrArg Value.pointer (by rw [findI_none (fun j y hj => hI0 j y (by omega))]; rfl)) gv
end Go.Proofs.YtdcchollplhioaaGreatDoor

namespace Go.Proofs.YtdcchollplhioaaGreatDoor
open Go Go.SL Go.Proofs
theorem C110 : CI Tryz.prog 110 := .of (by kernel_rfl)
theorem C68 : CI Tryz.prog 68 := .of (by kernel_rfl)
theorem F64_0 : FI Tryz.prog 64 0 3 0 := .of (by kernel_rfl)
theorem F64_2 : FI Tryz.prog 64 2 3 2 := .of (by kernel_rfl)
theorem F64_3 : FI Tryz.prog 64 3 3 3 := .of (by kernel_rfl)
theorem T64 : TI Tryz.prog 64 true 4 := .of (by kernel_rfl)
theorem Z64 : ZI Tryz.prog 64 [.int .i64 0, .string ⟨#[]⟩, .int .i64 0, .int .i64 0] := .of (by kernel_rfl)
-- (*fifo.step).put
theorem ac65 (bx : Nat) (t : Sk) (m : Mv) (c : Co) (la : Option Addr) (nl lc : Nat) (pa : Option Addr) (np pc : Nat) (l : Ly) (enl : nl = t.layers.length) (enp : np = t.past.length) (hn : t.layers.length ≤ 1000000 ∧ t.past.length ≤ 1000000) : AC Tryz.prog 65 ⟨[.pointer (some ⟨bx, 0, none⟩), .agg ⟨l.c⟩]⟩ (stars [pt bx (blk (XC t m c la nl lc pa np pc) 70), own 64 4 la nl lc ((t.layers).flatMap Ly.c)]) (Outs (fun _ : Option Addr × Nat => True) (fun _ => .tuple ⟨[]⟩) (fun x => [pt bx (blk (XC { t with layers := t.layers ++ [l] } m c x.1 (t.layers ++ [l]).length x.2 pa np pc) 70), own 64 4 x.1 (t.layers ++ [l]).length x.2 ((t.layers ++ [l]).flatMap Ly.c)])) := by
  subst enl enp
  have hnl := hn.1; have hnp := hn.2
  refine AC.go Tryz.func65 rfl (Nat.le_of_ble_eq_true rfl) fun β => ?_
  refine sr ?_
  refine RunL.op rfl rfl (OpJ.boxA rfl fun b3 => ?_)
  refine kp [0, 3] rfl ?_
  refine regionD HM ?_
  refine tk 0 rfl rfl rfl (DetJ.move rfl) ?_
  refine tk 1 rfl rfl rfl (DetJ.move rfl) ?_
  refine tk 2 rfl rfl rfl (DetJ.nilCheck rfl) ?_
  refine tk 3 rfl rfl rfl (DetJ.fieldAddr F70_0 rfl) ?_
  refine tk 4 rfl rfl rfl (DetJ.fieldAddr F28_3 rfl) ?_
  first | refine RunD.takeF 5 rfl rfl kr T25 rfl pk (by rfl) ?_ | refine RunD.takeO 5 rfl rfl kr T25 rfl pk (by assumption) (by rfl) (by exact fun _ => rfl) ?_
  first | refine RunD.takeW 6 rfl rfl kr T64 rfl pk (by rfl) ?_ | refine RunD.takeP 6 rfl rfl kr T64 rfl pk (by simp) ?_ | refine RunD.takeE 6 rfl rfl kr T64 rfl pk (by assumption) (by exact fun _ => rfl) rfl (by decide) ?_
  refine RunD.op 7 [false, true, true, true, true, true, true] rfl rfl rfl kr kr (OpJ.buildSlice1 S25 rfl rfl rfl (by decide) (by decide) Z64 rfl fun b11 => ⟨po, ?_⟩)
  refine RunD.op 8 [false, false, false, true, true, true] rfl rfl rfl kr kr (OpJ.append1 l S25 M64 rfl rfl pk pk rfl rfl (by simp [Value.oneCell', Pa.c, Ly.c, Mv.c, Co.c]) rfl (by omega) (by omega) fun a12 c12 => ⟨po, ?_⟩)
  refine tk 9 rfl rfl rfl (DetJ.nilCheck rfl) ?_
  refine tk 10 rfl rfl rfl (DetJ.fieldAddr F70_0 rfl) ?_
  refine tk 11 rfl rfl rfl (DetJ.fieldAddr F28_3 rfl) ?_
  refine RunD.op 12 [false, false, false, false, false, false] rfl rfl rfl kr kr (OpJ.store1 T25 rfl rfl rfl up (by simp) ⟨po, ?_⟩)
  refine kd [] rfl ?_
  exact ret_out (a12, c12) .nil trivial rfl gv
-- (*fifo.step).remove
theorem ac110 (bx : Nat) (t : Sk) (m : Mv) (c : Co) (la : Option Addr) (nl lc : Nat) (pa : Option Addr) (np pc : Nat) (i : Nat) (hi : i < t.layers.length) (enl : nl = t.layers.length) (enp : np = t.past.length) (hn : t.layers.length ≤ 1000000 ∧ t.past.length ≤ 1000000) : AC Tryz.prog 110 ⟨[.pointer (some ⟨bx, 0, none⟩), I (i : Int)]⟩ (stars [pt bx (blk (XC t m c la nl lc pa np pc) 70), own 64 4 la nl lc ((t.layers).flatMap Ly.c)]) (Outs (fun _ : Option Addr × Nat => True) (fun _ => .tuple ⟨[]⟩) (fun x => [pt bx (blk (XC { t with layers := t.layers.eraseIdx i } m c x.1 (t.layers.eraseIdx i).length x.2 pa np pc) 70), own 64 4 x.1 (t.layers.eraseIdx i).length x.2 ((t.layers.eraseIdx i).flatMap Ly.c)])) := by
  subst enl enp
  have hnl := hn.1; have hnp := hn.2
  obtain ⟨x, hx⟩ := get_ex (xs := t.layers) (i := i) (by omega)
  refine AC.go Tryz.func110 rfl (Nat.le_of_ble_eq_true rfl) fun β => ?_
  refine regionD HM ?_
  refine RunD.ownAddr pk (flat_ne (k := 4) (fun _ => rfl) (by decide) hx) fun b e hcap => ?_
  subst e
  refine tk 0 rfl rfl rfl (DetJ.move rfl) ?_
  refine tk 1 rfl rfl rfl (DetJ.move rfl) ?_
  refine tk 2 rfl rfl rfl (DetJ.nilCheck rfl) ?_
  refine tk 3 rfl rfl rfl (DetJ.fieldAddr F70_0 rfl) ?_
  refine tk 4 rfl rfl rfl (DetJ.fieldAddr F28_3 rfl) ?_
  first | refine RunD.takeF 5 rfl rfl kr T25 rfl pk (by rfl) ?_ | refine RunD.takeO 5 rfl rfl kr T25 rfl pk (by assumption) (by rfl) (by exact fun _ => rfl) ?_
  refine tk 6 rfl rfl rfl (DetJ.move rfl) ?_
  refine tk 7 rfl rfl rfl (DetJ.move rfl) ?_
  refine tk 8 rfl rfl rfl (DetJ.sliceHiMax S25 rfl rfl rfl (by omega)) ?_
  refine tk 9 rfl rfl rfl (DetJ.move rfl) ?_
  refine tk 10 rfl rfl rfl (DetJ.nilCheck rfl) ?_
  refine tk 11 rfl rfl rfl (DetJ.fieldAddr F70_0 rfl) ?_
  refine tk 12 rfl rfl rfl (DetJ.fieldAddr F28_3 rfl) ?_
  first | refine RunD.takeF 13 rfl rfl kr T25 rfl pk (by rfl) ?_ | refine RunD.takeO 13 rfl rfl kr T25 rfl pk (by assumption) (by rfl) (by exact fun _ => rfl) ?_
  refine tk 14 rfl rfl rfl (DetJ.move rfl) ?_
  first | refine tk 15 rfl rfl rfl (DetJ.addI rfl rfl (by omega)) ?_ | refine tk 15 rfl rfl rfl (DetJ.add rfl rfl) ?_
  refine tk 16 rfl rfl rfl (DetJ.sliceLo (i := i + 1) S25 rfl rfl (by omega)) ?_
  refine RunD.op 17 [false, false, false, false, false, true, true, true, false, false, false, false, false, true, true, true, true] rfl rfl rfl kr kr (OpJ.removeGrow S25 M64 rfl rfl pk rfl hi (fun _ => rfl) (by decide) (by omega) (by omega) fun a21 c21 => ⟨po, ?_⟩)
  refine tk 18 rfl rfl rfl (DetJ.nilCheck rfl) ?_
  refine tk 19 rfl rfl rfl (DetJ.fieldAddr F70_0 rfl) ?_
  refine tk 20 rfl rfl rfl (DetJ.fieldAddr F28_3 rfl) ?_
  refine RunD.op 21 [false, false, false, false, false, false, false, false, false, false] rfl rfl rfl kr kr (OpJ.store1 T25 rfl rfl rfl up (by simp) ⟨po, ?_⟩)
  refine kd [] rfl ?_
  exact ret_out (a21, c21) .nil trivial rfl gv
theorem ac110x (bx : Nat) (t : Sk) (m : Mv) (c : Co) (la : Option Addr) (lc : Nat) (pa : Option Addr) (np pc : Nat) (i : Nat) (l : Ly) (hi : i < t.layers.length) (enp : np = t.past.length) (hn : t.layers.length ≤ 1000000 ∧ t.past.length ≤ 1000000) : AC Tryz.prog 110 ⟨[.pointer (some ⟨bx, 0, none⟩), I (i : Int)]⟩ (stars [pt bx (blk (XC t m c la t.layers.length lc pa np pc) 70), own 64 4 la t.layers.length lc ((t.layers.set i l).flatMap Ly.c)]) (Outs (fun _ : Option Addr × Nat => True) (fun _ => .tuple ⟨[]⟩) (fun x => [pt bx (blk (XC { t with layers := t.layers.eraseIdx i } m c x.1 (t.layers.eraseIdx i).length x.2 pa np pc) 70), own 64 4 x.1 (t.layers.eraseIdx i).length x.2 ((t.layers.eraseIdx i).flatMap Ly.c)])) := by
  have h := ac110 bx { t with layers := t.layers.set i l } m c la t.layers.length lc pa np pc i (by simpa using hi) (by simp) enp (by simpa using hn)
  simp only [List.eraseIdx_set_eq] at h
  exact h
-- (*fifo.step).layer
theorem ac69 (bx : Nat) (t : Sk) (m : Mv) (c : Co) (la : Option Addr) (nl lc : Nat) (pa : Option Addr) (np pc : Nat) (seq : Int) (enl : nl = t.layers.length) (enp : np = t.past.length) (hn : t.layers.length ≤ 1000000 ∧ t.past.length ≤ 1000000) : AC Tryz.prog 69 ⟨[.pointer (some ⟨bx, 0, none⟩), I seq]⟩ (stars [pt bx (blk (XC t m c la nl lc pa np pc) 70), own 64 4 la nl lc ((t.layers).flatMap Ly.c)]) (Ret (I (idxOf (findI (isLy seq) t.layers))) [pt bx (blk (XC t m c la nl lc pa np pc) 70), own 64 4 la nl lc ((t.layers).flatMap Ly.c)]) := by
  subst enl enp
  have hnl := hn.1; have hnp := hn.2
  refine AC.go Tryz.func69 rfl (Nat.le_of_ble_eq_true rfl) fun β => ?_
  refine sr ?_
  refine asg rfl rfl ?_
  refine kp [0, 1] rfl ?_
  refine Run.seq ?_
  refine sr ?_
  refine mvo rfl rfl ?_
  refine RunL.op rfl rfl (OpJ.nilCheck rfl ?_)
  refine RunL.op rfl rfl (OpJ.fieldAddr F70_0 rfl ?_)
  refine RunL.op rfl rfl (OpJ.fieldAddr F28_3 rfl ?_)
  first | refine RunL.op rfl rfl (OpJ.loadF T25 rfl pk (by rfl) ?_) | refine RunL.op rfl rfl (OpJ.loadO T25 rfl pk (by assumption) (by rfl) (by exact fun _ => rfl) ?_)
  refine RunL.op rfl rfl (OpJ.len S25 rfl ?_)
  refine mvo rfl rfl ?_
  refine kp [1, 11, 12, 13] rfl ?_
  refine Run.block ?_
  refine Run.loop (fun mm E L => ∃ i : Nat, mm = t.layers.length - i ∧ i ≤ t.layers.length ∧ (∀ j y, j < i → t.layers[j]? = some y → isLy seq y = false) ∧ E = [(1, I seq), (11, .slice la t.layers.length lc), (12, I t.layers.length), (13, I i)] ∧ L = [pt bx (blk (XC t m c la t.layers.length lc pa t.past.length pc) 70), own 64 4 la t.layers.length lc ((t.layers).flatMap Ly.c)]) ⟨_, 0, rfl, Nat.zero_le _, fun _ _ h => by omega, rfl, rfl⟩ ?_
  rintro _ _ _ ⟨i, rfl, hi, hI0, rfl, rfl⟩
  refine sr ?_
  refine RunL.op rfl rfl (OpJ.lss rfl rfl ?_)
  refine kp [1, 11, 12, 13, 14] rfl ?_
  refine Run.seq ?_
  first | refine Run.if rfl (fun h1 => ?_) (fun h1 => ?_) | refine Run.cond rfl (fun h1 => ?_) (fun h1 => ?_)
  · skip
    refine Run.skip ?_
    refine Run.seq ?_
    refine Run.block ?_
    refine sr ?_
    obtain ⟨x, hx⟩ := get_ex (xs := t.layers) (i := i) (by omega)
    refine RunL.ownAddr pk (flat_ne (k := 4) (fun _ => rfl) (by decide) hx) fun b e hcap => ?_
    subst e
    refine mvo rfl rfl ?_
    refine RunL.op rfl rfl (OpJ.indexAddr S25 rfl rfl (by omega) ?_)
    first | refine RunL.op rfl rfl (OpJ.loadW T64 rfl pk (by rfl) ?_) | refine RunL.op rfl rfl (OpJ.loadP T64 rfl pk (by simp) ?_) | refine RunL.op rfl rfl (OpJ.loadE T64 rfl pk (by assumption) (by exact fun _ => rfl) rfl (by decide) ?_)
    refine RunL.op rfl rfl (OpJ.alloc Z64 fun b6 => ?_)
    refine asg rfl rfl ?_
    refine RunL.op rfl rfl (OpJ.storeW T64 rfl rfl rfl rfl (by simp [Value.oneCell', Pa.c, Ly.c, Mv.c, Co.c]) up ?_)
    refine kp [1, 5, 6, 11, 12, 13] rfl ?_
    refine sr ?_
    refine RunL.op rfl rfl (OpJ.fieldAddr F64_0 rfl ?_)
    first | refine RunL.op rfl rfl (OpJ.loadF T3 rfl pk (by rfl) ?_) | refine RunL.op rfl rfl (OpJ.loadO T3 rfl pk (by assumption) (by rfl) (by exact fun _ => rfl) ?_)
    refine mvo rfl rfl ?_
    refine RunL.op rfl rfl (OpJ.eql rfl rfl ?_)
    refine kp [1, 5, 11, 12, 13, 21] rfl ?_
    first | refine Run.if rfl (fun h2 => ?_) (fun h2 => ?_) | refine Run.cond rfl (fun h2 => ?_) (fun h2 => ?_)
    · skip
      refine sr ?_
      refine mvo rfl rfl ?_
      refine asg rfl rfl ?_
      refine kp [4] rfl ?_
      refine Run.ret ?_
      exact ret_one (.tmp rfl .nil) (congrArg I (by rw [findI_at hx (by simp [isLy, *]) hI0]; rfl)) gv
    · skip
      refine Run.skip ?_
      refine Run.region ?_
      first | refine RunL.op rfl rfl (OpJ.addI rfl rfl (by omega) ?_) | refine RunL.op rfl rfl (OpJ.add rfl rfl ?_)
      refine mvo rfl rfl ?_
      exact RunL.next (Keep.sub (kt (ks := [1, 11, 12, 13]) rfl)) _ ⟨_, by omega, i + 1, rfl, by omega, notYet hx (by simp [isLy, *]) hI0, rfl, rfl⟩ gv
  · skip
    refine Run.exit ?_
    refine sr ?_
    refine asg rfl rfl ?_
    refine kp [4] rfl ?_
    refine Run.ret ?_
    exact ret_one (.tmp rfl .nil) (congrArg I (by rw [findI_none (fun j y hj => hI0 j y (by omega))]; rfl)) gv
-- (*fifo.step).take
theorem ac66 (bx : Nat) (t : Sk) (m : Mv) (c : Co) (la : Option Addr) (nl lc : Nat) (pa : Option Addr) (np pc : Nat) (i : Nat) (l : Ly) (q : Int) (hx : t.layers[i]? = some l) (hl : l.ok) (hq : i64 q) (enl : nl = t.layers.length) (enp : np = t.past.length) (hn : t.layers.length ≤ 1000000 ∧ t.past.length ≤ 1000000) : AC Tryz.prog 66 ⟨[.pointer (some ⟨bx, 0, none⟩), I (i : Int), I q]⟩ (stars [pt bx (blk (XC t m c la nl lc pa np pc) 70), own 64 4 la nl lc ((t.layers).flatMap Ly.c)]) (Outs (fun _ : Option Addr × Nat => True) (fun _ => I (takeV l q)) (fun x => [pt bx (blk (XC { t with layers := takeL t.layers i l q } m c x.1 (takeL t.layers i l q).length x.2 pa np pc) 70), own 64 4 x.1 (takeL t.layers i l q).length x.2 ((takeL t.layers i l q).flatMap Ly.c)])) := by
  subst enl enp
  have hnl := hn.1; have hnp := hn.2
  have hi : i < t.layers.length := (List.getElem?_eq_some_iff.1 hx).1
  obtain ⟨hl1, hl2⟩ := hl
  have hx1 := set_get hx { l with qty := W (l.qty - q) }
  refine AC.go Tryz.func66 rfl (Nat.le_of_ble_eq_true rfl) fun β => ?_
  refine sr ?_
  refine asg rfl rfl ?_
  refine kp [0, 1, 2] rfl ?_
  refine sr ?_
  refine RunL.ownAddr pk (flat_ne (k := 4) (fun _ => rfl) (by decide) hx) fun b e hcap => ?_
  subst e
  refine mvo rfl rfl ?_
  refine RunL.op rfl rfl (OpJ.nilCheck rfl ?_)
  refine RunL.op rfl rfl (OpJ.fieldAddr F70_0 rfl ?_)
  refine RunL.op rfl rfl (OpJ.fieldAddr F28_3 rfl ?_)
  first | refine RunL.op rfl rfl (OpJ.loadF T25 rfl pk (by rfl) ?_) | refine RunL.op rfl rfl (OpJ.loadO T25 rfl pk (by assumption) (by rfl) (by exact fun _ => rfl) ?_)
  refine mvo rfl rfl ?_
  refine RunL.op rfl rfl (OpJ.indexAddr S25 rfl rfl (by omega) ?_)
  refine asg rfl rfl ?_
  refine kp [0, 1, 2, 7] rfl ?_
  refine Run.seq ?_
  refine regionD HM ?_
  refine tk 0 rfl rfl rfl (DetJ.move rfl) ?_
  refine tk 1 rfl rfl rfl (DetJ.nilCheck rfl) ?_
  refine tk 2 rfl rfl rfl (DetJ.fieldAddr F64_3 rfl) ?_
  first | refine RunD.takeF 3 rfl rfl kr T3 rfl pk (by rfl) ?_ | refine RunD.takeO 3 rfl rfl kr T3 rfl pk (by assumption) (by rfl) (by exact fun _ => rfl) ?_
  refine tk 4 rfl rfl rfl (DetJ.move rfl) ?_
  refine tk 5 rfl rfl rfl (DetJ.move rfl) ?_
  refine tk 6 rfl rfl rfl (DetJ.nilCheck rfl) ?_
  refine tk 7 rfl rfl rfl (DetJ.fieldAddr F64_2 rfl) ?_
  first | refine RunD.takeF 8 rfl rfl kr T3 rfl pk (by rfl) ?_ | refine RunD.takeO 8 rfl rfl kr T3 rfl pk (by assumption) (by rfl) (by exact fun _ => rfl) ?_
  refine RunD.op 9 [false, false, false, true, false, false, false, false, true] rfl rfl rfl kr kr (OpJ.callRet C68 rfl rfl (ac68 _ _ _ hl2 hq hl1) .nil ⟨po, ?_⟩)
  refine tk 10 rfl rfl rfl (DetJ.assign rfl) ?_
  refine kd [0, 1, 2, 7, 8] rfl ?_
  refine sr ?_
  refine mvo rfl rfl ?_
  refine RunL.op rfl rfl (OpJ.nilCheck rfl ?_)
  refine RunL.op rfl rfl (OpJ.fieldAddr F64_2 rfl ?_)
  first | refine RunL.op rfl rfl (OpJ.loadF T3 rfl pk (by rfl) ?_) | refine RunL.op rfl rfl (OpJ.loadO T3 rfl pk (by assumption) (by rfl) (by exact fun _ => rfl) ?_)
  refine mvo rfl rfl ?_
  refine RunL.op rfl rfl (OpJ.sub rfl rfl ?_)
  refine RunL.op rfl rfl (OpJ.nilCheck rfl ?_)
  refine RunL.op rfl rfl (OpJ.fieldAddr F64_2 rfl ?_)
  refine RunL.op rfl rfl (OpJ.storeO (i := i) (u' := { l with qty := W (l.qty - q) }) T3 rfl rfl rfl hx (fun _ => rfl) (by decide) rfl up ?_)
  refine kp [0, 1, 7, 8] rfl ?_
  refine sr ?_
  refine mvo rfl rfl ?_
  refine RunL.op rfl rfl (OpJ.nilCheck rfl ?_)
  refine RunL.op rfl rfl (OpJ.fieldAddr F64_3 rfl ?_)
  refine RunL.op rfl rfl (OpJ.loadO T3 rfl pk hx1 (by rfl) (by exact fun _ => rfl) ?_)
  refine mvo rfl rfl ?_
  refine RunL.op rfl rfl (OpJ.sub rfl rfl ?_)
  refine RunL.op rfl rfl (OpJ.nilCheck rfl ?_)
  refine RunL.op rfl rfl (OpJ.fieldAddr F64_3 rfl ?_)
  refine RunL.op rfl rfl (OpJ.storeO (i := i) (u' := takeX l q) T3 rfl rfl rfl hx1 (fun _ => rfl) (by decide) rfl up ?_)
  rw [List.set_set]
  refine kp [0, 1, 7, 8] rfl ?_
  refine Run.seq ?_
  refine sr ?_
  refine mvo rfl rfl ?_
  refine RunL.op rfl rfl (OpJ.nilCheck rfl ?_)
  refine RunL.op rfl rfl (OpJ.fieldAddr F64_2 rfl ?_)
  refine RunL.op rfl rfl (OpJ.loadO T3 rfl pk (set_get hx (takeX l q)) (by rfl) (by exact fun _ => rfl) ?_)
  refine RunL.op rfl rfl (OpJ.eql rfl rfl ?_)
  refine kp [0, 1, 8, 46] rfl ?_
  first | refine Run.if rfl (fun h1 => ?_) (fun h1 => ?_) | refine Run.cond rfl (fun h1 => ?_) (fun h1 => ?_)
  · skip
    refine Run.region ?_
    refine mvo rfl rfl ?_
    refine mvo rfl rfl ?_
    refine RunL.callX C110 rfl rfl rfl (ac110x bx t m c _ lc pa _ pc i (takeX l q) hi rfl hn) tks fun ⟨a49, c49⟩ _ => ?_
    refine kp [8] rfl ?_
    refine sr ?_
    refine mvo rfl rfl ?_
    refine asg rfl rfl ?_
    refine kp [6] rfl ?_
    refine Run.ret ?_
    refine ret_out (a49, c49) (.tmp rfl .nil) trivial rfl ?_; simp only [takeL, if_pos (show W (l.qty - q) = 0 from h1)]; exact gv
  · skip
    refine Run.skip ?_
    refine sr ?_
    refine mvo rfl rfl ?_
    refine asg rfl rfl ?_
    refine kp [6] rfl ?_
    refine Run.ret ?_
    refine ret_out (some ⟨b, 0, none⟩, lc) (.tmp rfl .nil) trivial rfl ?_; simp only [takeL, if_neg (show ¬ W (l.qty - q) = 0 from h1), XC, List.length_set]; exact gv
end Go.Proofs.YtdcchollplhioaaGreatDoor

namespace Go.Proofs.YtdcchollplhioaaGreatDoor
open Go Go.SL Go.Proofs
theorem B64 : BI Tryz.prog 64 [.int .i64 0, .string ⟨#[]⟩, .int .i64 0, .int .i64 0] [(0, 1), (1, 1), (2, 1), (3, 1)] := .of (by kernel_rfl) (by kernel_rfl)
theorem B66 : BI Tryz.prog 66 [.int .i64 0, .int .i64 0, .string ⟨#[]⟩, .int .i64 0, .int .i64 0, .int .i64 0, .int .i64 0] [(0, 1), (1, 1), (2, 1), (3, 1), (4, 1), (5, 1), (6, 1)] := .of (by kernel_rfl) (by kernel_rfl)
theorem C31 : CI Tryz.prog 31 := .of (by kernel_rfl)
theorem C65 : CI Tryz.prog 65 := .of (by kernel_rfl)
theorem C66 : CI Tryz.prog 66 := .of (by kernel_rfl)
theorem F28_0 : FI Tryz.prog 28 0 3 0 := .of (by kernel_rfl)
theorem F43_1 : FI Tryz.prog 43 1 3 1 := .of (by kernel_rfl)
theorem F43_2 : FI Tryz.prog 43 2 3 2 := .of (by kernel_rfl)
theorem F47_0 : FI Tryz.prog 47 0 3 0 := .of (by kernel_rfl)
theorem F66_3 : FI Tryz.prog 66 3 3 3 := .of (by kernel_rfl)
theorem F66_5 : FI Tryz.prog 66 5 3 5 := .of (by kernel_rfl)
theorem F70_1 : FI Tryz.prog 70 1 47 5 := .of (by kernel_rfl)
theorem F70_2 : FI Tryz.prog 70 2 43 13 := .of (by kernel_rfl)
theorem U71 : Tryz.prog.underlying 71 = some (.pointer (Tryz.prog.pointee 71)) := by kernel_rfl
theorem Z47 : ZI Tryz.prog 47 [.int .i64 0, .int .i64 0, .string ⟨#[]⟩, .int .i64 0, .int .i64 0, .int .i64 0, .string ⟨#[]⟩, .int .i64 0] := .of (by kernel_rfl)
-- (*fifo.step).referred
theorem ac67 (bx : Nat) (t : Sk) (m : Mv) (c : Co) (la : Option Addr) (nl lc : Nat) (pa : Option Addr) (np pc : Nat) (kind : Int) (enl : nl = t.layers.length) (enp : np = t.past.length) (hn : t.layers.length ≤ 1000000 ∧ t.past.length ≤ 1000000) : AC Tryz.prog 67 ⟨[.pointer (some ⟨bx, 0, none⟩), I kind]⟩ (stars [pt bx (blk (XC t m c la nl lc pa np pc) 70), own 66 7 pa np pc ((t.past).flatMap Pa.c)]) (Ret (.tuple ⟨[.pointer (okPtr pa 7 (refd kind m t.past)), I (errOf (refd kind m t.past))]⟩) [pt bx (blk (XC t m c la nl lc pa np pc) 70), own 66 7 pa np pc ((t.past).flatMap Pa.c)]) := by
  subst enl enp
  have hnl := hn.1; have hnp := hn.2
  refine AC.go Tryz.func67 rfl (Nat.le_of_ble_eq_true rfl) fun β => ?_
  refine sr ?_
  refine asg rfl rfl ?_
  refine asg rfl rfl ?_
  refine kp [0, 1] rfl ?_
  refine sr ?_
  refine mvo rfl rfl ?_
  refine mvo rfl rfl ?_
  refine mvo rfl rfl ?_
  refine RunL.op rfl rfl (OpJ.nilCheck rfl ?_)
  refine RunL.op rfl rfl (OpJ.fieldAddr F70_1 rfl ?_)
  refine RunL.op rfl rfl (OpJ.fieldAddr F47_7 rfl ?_)
  first | refine RunL.op rfl rfl (OpJ.loadF T3 rfl pk (by rfl) ?_) | refine RunL.op rfl rfl (OpJ.loadO T3 rfl pk (by assumption) (by rfl) (by exact fun _ => rfl) ?_)
  refine RunL.call C31 rfl rfl rfl (ac31 bx t m c la _ lc pa _ pc _ _ rfl rfl hn) tks ?_
  refine asg rfl rfl ?_
  refine kp [0, 6] rfl ?_
  refine Run.seq ?_
  refine Run.block ?_
  refine sr ?_
  refine mvo rfl rfl ?_
  refine RunL.op rfl rfl (OpJ.eqlNil U71 rfl ?_)
  refine asg rfl rfl ?_
  rcases hf : findI (isPast kind m.ref) t.past with _ | ⟨i, p⟩
  · skip
    refine kp [0, 6, 15] rfl ?_
    refine Run.true rfl ?_
    refine sr ?_
    refine asg rfl rfl ?_
    refine asg rfl rfl ?_
    refine kp [4, 5] rfl ?_
    refine Run.ret ?_
    exact ret_one (.tmp rfl (.tmp rfl .nil)) (by simp [tup, refd, hf, okPtr, errOf, ptrOf, *]) gv
  · skip
    obtain ⟨hx, _⟩ := findI_some hf
    refine RunL.ownAddr pk (flat_ne (k := 7) (fun _ => rfl) (by decide) hx) fun b e hcap => ?_
    subst e
    refine kp [0, 6, 15] rfl ?_
    refine Run.false rfl ?_
    refine Run.seq ?_
    refine regionD HM ?_
    refine tk 0 rfl rfl rfl (DetJ.move rfl) ?_
    refine tk 1 rfl rfl rfl (DetJ.nilCheck rfl) ?_
    refine tk 2 rfl rfl rfl (DetJ.fieldAddr F70_1 rfl) ?_
    refine tk 3 rfl rfl rfl (DetJ.fieldAddr F47_4 rfl) ?_
    first | refine RunD.takeF 4 rfl rfl kr T3 rfl pk (by rfl) ?_ | refine RunD.takeO 4 rfl rfl kr T3 rfl pk (by assumption) (by rfl) (by exact fun _ => rfl) ?_
    refine tk 5 rfl rfl rfl (DetJ.move rfl) ?_
    refine tk 6 rfl rfl rfl (DetJ.nilCheck rfl) ?_
    refine tk 7 rfl rfl rfl (DetJ.fieldAddr F66_3 rfl) ?_
    first | refine RunD.takeF 8 rfl rfl kr T3 rfl pk (by rfl) ?_ | refine RunD.takeO 8 rfl rfl kr T3 rfl pk (by assumption) (by rfl) (by exact fun _ => rfl) ?_
    refine tk 9 rfl rfl rfl (DetJ.move rfl) ?_
    refine tk 10 rfl rfl rfl (DetJ.nilCheck rfl) ?_
    refine tk 11 rfl rfl rfl (DetJ.fieldAddr F66_5 rfl) ?_
    first | refine RunD.takeF 12 rfl rfl kr T3 rfl pk (by rfl) ?_ | refine RunD.takeO 12 rfl rfl kr T3 rfl pk (by assumption) (by rfl) (by exact fun _ => rfl) ?_
    refine tk 13 rfl rfl rfl (DetJ.sub rfl rfl) ?_
    refine tk 14 rfl rfl rfl (DetJ.gtr rfl rfl) ?_
    refine tk 15 rfl rfl rfl (DetJ.assign rfl) ?_
    refine kd [6, 18] rfl ?_
    first | refine Run.if rfl (fun h1 => ?_) (fun h1 => ?_) | refine Run.cond rfl (fun h1 => ?_) (fun h1 => ?_)
    · skip
      refine sr ?_
      refine asg rfl rfl ?_
      refine asg rfl rfl ?_
      refine kp [4, 5] rfl ?_
      refine Run.ret ?_
      exact ret_one (.tmp rfl (.tmp rfl .nil)) (by simp [tup, refd, hf, okPtr, errOf, ptrOf, *]) gv
    · skip
      refine Run.skip ?_
      refine sr ?_
      refine mvo rfl rfl ?_
      refine asg rfl rfl ?_
      refine asg rfl rfl ?_
      refine kp [4, 5] rfl ?_
      refine Run.ret ?_
      exact ret_one (.tmp rfl (.tmp rfl .nil)) (by simp [tup, refd, hf, okPtr, errOf, ptrOf, *]) gv
-- (*fifo.step).receive
theorem ac33 (bx : Nat) (t : Sk) (m : Mv) (c : Co) (la : Option Addr) (nl lc : Nat) (pa : Option Addr) (np pc : Nat) (enl : nl = t.layers.length) (enp : np = t.past.length) (ht : t.ok 999999) (hm : m.ok) : AC Tryz.prog 33 ⟨[.pointer (some ⟨bx, 0, none⟩)]⟩ (stars [pt bx (blk (XC t m c la nl lc pa np pc) 70), own 64 4 la nl lc ((t.layers).flatMap Ly.c), own 66 7 pa np pc ((t.past).flatMap Pa.c)]) (Outs (fun _ : Option Addr × Nat × Option Addr × Nat => True) (fun _ => I (errOf (fRecv t m c))) (fun x => Aft 70 64 66 bx m (fRecv t m c) x)) := by
  subst enl enp
  have hn : t.layers.length ≤ 1000000 ∧ t.past.length ≤ 1000000 := ⟨Nat.le_trans ht.nl (by decide), Nat.le_trans ht.np (by decide)⟩
  have hnl := ht.nl; have hnp := ht.np
  obtain ⟨hm1, hm2⟩ := hm
  have hres : fRecv t m c = .ok _ := rfl
  refine AC.go Tryz.func33 rfl (Nat.le_of_ble_eq_true rfl) fun β => ?_
  refine sr ?_
  refine asg rfl rfl ?_
  refine kp [0] rfl ?_
  refine sr ?_
  refine mvo rfl rfl ?_
  refine RunL.op rfl rfl (OpJ.nilCheck rfl ?_)
  refine RunL.op rfl rfl (OpJ.fieldAddr F70_1 rfl ?_)
  first | refine RunL.op rfl rfl (OpJ.loadW T47 rfl pk (by rfl) ?_) | refine RunL.op rfl rfl (OpJ.loadP T47 rfl pk (by simp) ?_) | refine RunL.op rfl rfl (OpJ.loadE T47 rfl pk (by assumption) (by exact fun _ => rfl) rfl (by decide) ?_)
  refine RunL.op rfl rfl (OpJ.alloc Z47 fun b3 => ?_)
  refine RunL.op rfl rfl (OpJ.storeW T47 rfl rfl rfl rfl (by simp [Value.oneCell', Pa.c, Ly.c, Mv.c, Co.c]) up ?_)
  refine kp [0, 3] rfl ?_
  refine sr ?_
  refine mvo rfl rfl ?_
  refine RunL.op rfl rfl (OpJ.fieldAddr F47_0 rfl ?_)
  first | refine RunL.op rfl rfl (OpJ.loadF T3 rfl pk (by rfl) ?_) | refine RunL.op rfl rfl (OpJ.loadO T3 rfl pk (by assumption) (by rfl) (by exact fun _ => rfl) ?_)
  refine RunL.op rfl rfl (OpJ.fieldAddr F47_6 rfl ?_)
  first | refine RunL.op rfl rfl (OpJ.loadF T9 rfl pk (by rfl) ?_) | refine RunL.op rfl rfl (OpJ.loadO T9 rfl pk (by assumption) (by rfl) (by exact fun _ => rfl) ?_)
  refine RunL.op rfl rfl (OpJ.fieldAddr F47_4 rfl ?_)
  first | refine RunL.op rfl rfl (OpJ.loadF T3 rfl pk (by rfl) ?_) | refine RunL.op rfl rfl (OpJ.loadO T3 rfl pk (by assumption) (by rfl) (by exact fun _ => rfl) ?_)
  refine RunL.op rfl rfl (OpJ.fieldAddr F47_5 rfl ?_)
  first | refine RunL.op rfl rfl (OpJ.loadF T3 rfl pk (by rfl) ?_) | refine RunL.op rfl rfl (OpJ.loadO T3 rfl pk (by assumption) (by rfl) (by exact fun _ => rfl) ?_)
  refine RunL.op rfl rfl (OpJ.build B64 rfl rfl fun cs hcs => ?_)
  simp only [Sk.c, Mv.c, Co.c, bldL, bldA, Value.cells, bs, Nat.reduceAdd, Nat.reduceLeDiff, Nat.reduceLT] at hcs; subst hcs
  refine RunL.callX C65 rfl rfl rfl (ac65 bx t m c la _ lc pa _ pc ⟨m.seq, m.lot, m.qty, m.cost⟩ rfl rfl hn) tks fun ⟨la2, lc2⟩ _ => ?_
  refine kp [0, 3] rfl ?_
  refine Run.seq ?_
  refine regionD HM ?_
  refine tk 0 rfl rfl rfl (DetJ.move rfl) ?_
  refine tk 1 rfl rfl rfl (DetJ.move rfl) ?_
  refine tk 2 rfl rfl rfl (DetJ.nilCheck rfl) ?_
  refine tk 3 rfl rfl rfl (DetJ.fieldAddr F70_0 rfl) ?_
  refine tk 4 rfl rfl rfl (DetJ.fieldAddr F28_4 rfl) ?_
  first | refine RunD.takeF 5 rfl rfl kr T26 rfl pk (by rfl) ?_ | refine RunD.takeO 5 rfl rfl kr T26 rfl pk (by assumption) (by rfl) (by exact fun _ => rfl) ?_
  refine tk 6 rfl rfl rfl (DetJ.fieldAddr F47_0 rfl) ?_
  first | refine RunD.takeF 7 rfl rfl kr T3 rfl pk (by rfl) ?_ | refine RunD.takeO 7 rfl rfl kr T3 rfl pk (by assumption) (by rfl) (by exact fun _ => rfl) ?_
  refine tk 8 rfl rfl rfl (DetJ.fieldAddr F47_3 rfl) ?_
  first | refine RunD.takeF 9 rfl rfl kr T3 rfl pk (by rfl) ?_ | refine RunD.takeO 9 rfl rfl kr T3 rfl pk (by assumption) (by rfl) (by exact fun _ => rfl) ?_
  refine tk 10 rfl rfl rfl (DetJ.fieldAddr F47_6 rfl) ?_
  first | refine RunD.takeF 11 rfl rfl kr T9 rfl pk (by rfl) ?_ | refine RunD.takeO 11 rfl rfl kr T9 rfl pk (by assumption) (by rfl) (by exact fun _ => rfl) ?_
  refine tk 12 rfl rfl rfl (DetJ.fieldAddr F47_4 rfl) ?_
  first | refine RunD.takeF 13 rfl rfl kr T3 rfl pk (by rfl) ?_ | refine RunD.takeO 13 rfl rfl kr T3 rfl pk (by assumption) (by rfl) (by exact fun _ => rfl) ?_
  refine tk 14 rfl rfl rfl (DetJ.fieldAddr F47_5 rfl) ?_
  first | refine RunD.takeF 15 rfl rfl kr T3 rfl pk (by rfl) ?_ | refine RunD.takeO 15 rfl rfl kr T3 rfl pk (by assumption) (by rfl) (by exact fun _ => rfl) ?_
  refine RunD.takeB 16 rfl rfl kr B66 rfl rfl fun cs hcs => ?_
  simp only [Sk.c, Mv.c, Co.c, bldL, bldA, Value.cells, bs, Nat.reduceAdd, Nat.reduceLeDiff, Nat.reduceLT] at hcs; subst hcs
  refine RunD.op 17 [false, false, false, false, false, false, false, false, false, false, false, true, true, true, true, true, true] rfl rfl rfl kr kr (OpJ.buildSlice1 S26 rfl rfl rfl (by decide) (by decide) Z66 rfl fun b36 => ⟨po, ?_⟩)
  refine RunD.op 18 [false, false, false, true, true, true] rfl rfl rfl kr kr (OpJ.append1 (⟨m.seq, m.kind, m.lot, m.qty, m.cost, 0, 0⟩ : Pa) S26 M66 rfl rfl pk pk rfl rfl (by simp [Value.oneCell', Pa.c, Ly.c, Mv.c, Co.c]) rfl (by omega) (by omega) fun a37 c37 => ⟨po, ?_⟩)
  refine tk 19 rfl rfl rfl (DetJ.nilCheck rfl) ?_
  refine tk 20 rfl rfl rfl (DetJ.fieldAddr F70_0 rfl) ?_
  refine tk 21 rfl rfl rfl (DetJ.fieldAddr F28_4 rfl) ?_
  refine RunD.op 22 [false, false, false, false, false, false] rfl rfl rfl kr kr (OpJ.store1 T26 rfl rfl rfl up (by simp) ⟨po, ?_⟩)
  refine kd [0, 3] rfl ?_
  refine Run.seq ?_
  refine regionD HM ?_
  refine tk 0 rfl rfl rfl (DetJ.move rfl) ?_
  refine tk 1 rfl rfl rfl (DetJ.move rfl) ?_
  refine tk 2 rfl rfl rfl (DetJ.fieldAddr F47_4 rfl) ?_
  first | refine RunD.takeF 3 rfl rfl kr T3 rfl pk (by rfl) ?_ | refine RunD.takeO 3 rfl rfl kr T3 rfl pk (by assumption) (by rfl) (by exact fun _ => rfl) ?_
  refine tk 4 rfl rfl rfl (DetJ.fieldAddr F47_5 rfl) ?_
  first | refine RunD.takeF 5 rfl rfl kr T3 rfl pk (by rfl) ?_ | refine RunD.takeO 5 rfl rfl kr T3 rfl pk (by assumption) (by rfl) (by exact fun _ => rfl) ?_
  refine tk 6 rfl rfl rfl (DetJ.nilCheck rfl) ?_
  refine tk 7 rfl rfl rfl (DetJ.fieldAddr F70_2 rfl) ?_
  refine tk 8 rfl rfl rfl (DetJ.fieldAddr F43_1 rfl) ?_
  refine RunD.op 9 [false, false, false, true, true, false, false, true, false] rfl rfl rfl kr kr (OpJ.store1 T3 rfl rfl rfl up (by simp) ⟨po, ?_⟩)
  refine tk 10 rfl rfl rfl (DetJ.nilCheck rfl) ?_
  refine tk 11 rfl rfl rfl (DetJ.fieldAddr F70_2 rfl) ?_
  refine tk 12 rfl rfl rfl (DetJ.fieldAddr F43_2 rfl) ?_
  refine RunD.op 13 [false, false, false, false, false, false] rfl rfl rfl kr kr (OpJ.store1 T3 rfl rfl rfl up (by simp) ⟨po, ?_⟩)
  refine kd [] rfl ?_
  refine sr ?_
  refine asg rfl rfl ?_
  refine kp [2] rfl ?_
  refine Run.ret ?_
  refine ret_out (la2, lc2, a37, c37) (.tmp rfl .nil) trivial (by rw [hres]; rfl) ?_; rw [hres]; simp only [Aft, List.length_set, List.length_append]; exact gv
-- (*fifo.step).issue
theorem ac34 (bx : Nat) (t : Sk) (m : Mv) (c : Co) (la : Option Addr) (nl lc : Nat) (pa : Option Addr) (np pc : Nat) (enl : nl = t.layers.length) (enp : np = t.past.length) (ht : t.ok 999999) (hm : m.ok) : AC Tryz.prog 34 ⟨[.pointer (some ⟨bx, 0, none⟩)]⟩ (stars [pt bx (blk (XC t m c la nl lc pa np pc) 70), own 64 4 la nl lc ((t.layers).flatMap Ly.c), own 66 7 pa np pc ((t.past).flatMap Pa.c)]) (Outs (fun _ : Option Addr × Nat × Option Addr × Nat => True) (fun _ => I (errOf (fIssue t m c))) (fun x => Aft 70 64 66 bx m (fIssue t m c) x)) := by
  subst enl enp
  have hn : t.layers.length ≤ 1000000 ∧ t.past.length ≤ 1000000 := ⟨Nat.le_trans ht.nl (by decide), Nat.le_trans ht.np (by decide)⟩
  have hnl := ht.nl; have hnp := ht.np
  obtain ⟨hm1, hm2⟩ := hm
  refine AC.go Tryz.func34 rfl (Nat.le_of_ble_eq_true rfl) fun β => ?_
  refine sr ?_
  refine asg rfl rfl ?_
  refine kp [0] rfl ?_
  refine sr ?_
  refine mvo rfl rfl ?_
  refine RunL.op rfl rfl (OpJ.nilCheck rfl ?_)
  refine RunL.op rfl rfl (OpJ.fieldAddr F70_1 rfl ?_)
  first | refine RunL.op rfl rfl (OpJ.loadW T47 rfl pk (by rfl) ?_) | refine RunL.op rfl rfl (OpJ.loadP T47 rfl pk (by simp) ?_) | refine RunL.op rfl rfl (OpJ.loadE T47 rfl pk (by assumption) (by exact fun _ => rfl) rfl (by decide) ?_)
  refine RunL.op rfl rfl (OpJ.alloc Z47 fun b3 => ?_)
  refine RunL.op rfl rfl (OpJ.storeW T47 rfl rfl rfl rfl (by simp [Value.oneCell', Pa.c, Ly.c, Mv.c, Co.c]) up ?_)
  refine kp [0, 3] rfl ?_
  refine Run.seq ?_
  refine Run.seq ?_
  refine regionD HM ?_
  refine tk 0 rfl rfl rfl (DetJ.move rfl) ?_
  refine tk 1 rfl rfl rfl (DetJ.nilCheck rfl) ?_
  refine tk 2 rfl rfl rfl (DetJ.fieldAddr F70_0 rfl) ?_
  refine tk 3 rfl rfl rfl (DetJ.fieldAddr F28_0 rfl) ?_
  first | refine RunD.takeF 4 rfl rfl kr T3 rfl pk (by rfl) ?_ | refine RunD.takeO 4 rfl rfl kr T3 rfl pk (by assumption) (by rfl) (by exact fun _ => rfl) ?_
  refine tk 5 rfl rfl rfl (DetJ.fieldAddr F47_4 rfl) ?_
  first | refine RunD.takeF 6 rfl rfl kr T3 rfl pk (by rfl) ?_ | refine RunD.takeO 6 rfl rfl kr T3 rfl pk (by assumption) (by rfl) (by exact fun _ => rfl) ?_
  refine tk 7 rfl rfl rfl (DetJ.lss rfl rfl) ?_
  refine kd [0, 3, 18] rfl ?_
  first | refine Run.if rfl (fun h1 => ?_) (fun h1 => ?_) | refine Run.cond rfl (fun h1 => ?_) (fun h1 => ?_)
  · skip
    refine sr ?_
    refine asg rfl rfl ?_
    refine kp [2] rfl ?_
    refine Run.ret ?_
    have hres : fIssue t m c = .error 21 := if_pos h1; refine ret_out (none, 0, none, 0) (.tmp rfl .nil) trivial (by rw [hres]; rfl) ?_; rw [hres]; exact gv
  · skip
    refine Run.skip ?_
    refine sr ?_
    refine RunL.op rfl rfl (OpJ.fieldAddr F47_4 rfl ?_)
    first | refine RunL.op rfl rfl (OpJ.loadF T3 rfl pk (by rfl) ?_) | refine RunL.op rfl rfl (OpJ.loadO T3 rfl pk (by assumption) (by rfl) (by exact fun _ => rfl) ?_)
    refine asg rfl rfl ?_
    refine asg rfl rfl ?_
    refine kp [0, 3, 4, 5] rfl ?_
    refine Run.seq ?_
    refine Run.block ?_
    refine Run.loop (fun mm E L => ∃ (ls : List Ly) (left v : Int) (la : Option Addr) (lc : Nat), mm = issM ls left ∧ issueL ls left v = issueL t.layers m.qty 0 ∧ ls.length ≤ t.layers.length ∧ (∀ (i : Nat) (l : Ly), ls[i]? = some l → l.ok) ∧ i64 left ∧ i64 v ∧ E = [(0, .pointer (some ⟨bx, 0, none⟩)), (3, .pointer (some ⟨b3, 0, none⟩)), (4, I left), (5, I v)] ∧ L = [pt b3 (blk m.c 47), pt bx (blk (XC { t with layers := ls } m c la ls.length lc pa t.past.length pc) 70), own 64 4 la ls.length lc ((ls).flatMap Ly.c), own 66 7 pa t.past.length pc ((t.past).flatMap Pa.c)]) ⟨_, t.layers, m.qty, 0, la, lc, rfl, rfl, Nat.le_refl _, ht.ly, hm1, by decide, rfl, rfl⟩ ?_
    rintro _ _ _ ⟨ls, left, v, la, lc, rfl, hI, hle, hlo, hl64, hv64, rfl, rfl⟩
    refine Run.seq ?_
    refine sr ?_
    refine RunL.cut (t := 31) (v := Bo (decide (0 < left ∧ 0 < (ls.length : Int)))) (kt (ks := [0, 3, 4, 5]) rfl) ?_ ?_
    · skip
      refine mvo rfl rfl ?_
      refine RunL.op rfl rfl (OpJ.gtr rfl rfl ?_)
      refine mvo rfl rfl ?_
      first | refine RunL.splitP (t := 23) rfl (fun g2 => ?_) (fun g2 => ?_) | refine RunL.split (t := 23) rfl (fun g2 => ?_) (fun g2 => ?_)
      · skip
        refine RunL.yes rfl rfl rfl rfl (OpJ.move rfl ?_)
        refine RunL.yes rfl rfl rfl rfl (OpJ.nilCheck rfl ?_)
        refine RunL.yes rfl rfl rfl rfl (OpJ.fieldAddr F70_0 rfl ?_)
        refine RunL.yes rfl rfl rfl rfl (OpJ.fieldAddr F28_3 rfl ?_)
        first | refine RunL.yes rfl rfl rfl rfl (OpJ.loadF T25 rfl pk (by rfl) ?_) | refine RunL.yes rfl rfl rfl rfl (OpJ.loadO T25 rfl pk (by assumption) (by rfl) (by exact fun _ => rfl) ?_)
        refine RunL.yes rfl rfl rfl rfl (OpJ.len S25 rfl ?_)
        refine RunL.yes rfl rfl rfl rfl (OpJ.gtr rfl rfl ?_)
        refine RunL.op rfl rfl (OpJ.pickT rfl rfl ?_)
        exact RunL.nil ⟨.cons (by first | rfl | (show some (Value.bool _) = some (Value.bool _); rw [decide_eq_false (show ¬ (0 < left ∧ 0 < (ls.length : Int)) by omega)]) | (show some (Value.bool _) = some (Value.bool _); simp_all)) (kt (ks := [0, 3, 4, 5]) rfl), rfl⟩
      · skip
        refine RunL.no rfl rfl rfl rfl ?_
        refine RunL.no rfl rfl rfl rfl ?_
        refine RunL.no rfl rfl rfl rfl ?_
        refine RunL.no rfl rfl rfl rfl ?_
        refine RunL.no rfl rfl rfl rfl ?_
        refine RunL.no rfl rfl rfl rfl ?_
        refine RunL.no rfl rfl rfl rfl ?_
        refine RunL.op rfl rfl (OpJ.pickF rfl rfl ?_)
        exact RunL.nil ⟨.cons (by first | rfl | (show some (Value.bool _) = some (Value.bool _); rw [decide_eq_false (show ¬ (0 < left ∧ 0 < (ls.length : Int)) by omega)]) | (show some (Value.bool _) = some (Value.bool _); simp_all)) (kt (ks := [0, 3, 4, 5]) rfl), rfl⟩
    first | refine Run.if rfl (fun h3 => ?_) (fun h3 => ?_) | refine Run.cond rfl (fun h3 => ?_) (fun h3 => ?_)
    · skip
      refine Run.skip ?_
      refine Run.block ?_
      refine sr ?_
      obtain ⟨l, ls, rfl⟩ : ∃ l ls', ls = l :: ls' := (by cases ls with | nil => simp at h3 | cons l ls => exact ⟨l, ls, rfl⟩)
      have hx0 : (l :: ls)[0]? = some l := rfl
      have hlk := hlo 0 l rfl
      have hst := issue_step (l := l) (ls := ls) (v := v) h3.1 hl64 hlk.1
      have hq1 := hlk.1
      refine RunL.ownAddr pk (flat_ne (k := 4) (fun _ => rfl) (by decide) hx0) fun b e hcap => ?_
      subst e
      refine mvo rfl rfl ?_
      refine mvo rfl rfl ?_
      refine RunL.op rfl rfl (OpJ.nilCheck rfl ?_)
      refine RunL.op rfl rfl (OpJ.fieldAddr F70_0 rfl ?_)
      refine RunL.op rfl rfl (OpJ.fieldAddr F28_3 rfl ?_)
      first | refine RunL.op rfl rfl (OpJ.loadF T25 rfl pk (by rfl) ?_) | refine RunL.op rfl rfl (OpJ.loadO T25 rfl pk (by assumption) (by rfl) (by exact fun _ => rfl) ?_)
      refine RunL.op rfl rfl (OpJ.indexAddr S25 rfl rfl (by omega) ?_)
      refine RunL.op rfl rfl (OpJ.fieldAddr F64_2 rfl ?_)
      first | refine RunL.op rfl rfl (OpJ.loadF T3 rfl pk (by rfl) ?_) | refine RunL.op rfl rfl (OpJ.loadO T3 rfl pk (by assumption) (by rfl) (by exact fun _ => rfl) ?_)
      refine RunL.op rfl rfl (OpJ.min rfl rfl ?_)
      refine asg rfl rfl ?_
      refine kp [0, 3, 4, 5, 6] rfl ?_
      refine sr ?_
      refine mvo rfl rfl ?_
      refine mvo rfl rfl ?_
      refine mvo rfl rfl ?_
      refine RunL.callX C66 rfl rfl rfl (ac66 bx { t with layers := l :: ls } m c _ _ lc pa _ pc 0 l _ hx0 hlk (by split <;> omega) rfl rfl ⟨Nat.le_trans hle hn.1, hn.2⟩) tks fun ⟨la2, lc2⟩ _ => ?_
      refine RunL.op rfl rfl (OpJ.add rfl rfl ?_)
      refine asg rfl rfl ?_
      refine kp [0, 3, 4, 5, 6] rfl ?_
      refine Run.region ?_
      refine mvo rfl rfl ?_
      refine mvo rfl rfl ?_
      refine RunL.op rfl rfl (OpJ.sub rfl rfl ?_)
      refine asg rfl rfl ?_
      exact RunL.next (Keep.sub (kt (ks := [0, 3, 4, 5]) rfl)) _ ⟨_, hst.2, _, _, _, _, _, rfl, hst.1.trans hI, Nat.le_trans takeL_len hle, takeL_ok hlo, W_i64 _, W_i64 _, rfl, rfl⟩ gv
    · skip
      refine Run.exit ?_
      refine Run.seq ?_
      refine regionD HM ?_
      refine tk 0 rfl rfl rfl (DetJ.move rfl) ?_
      refine tk 1 rfl rfl rfl (DetJ.move rfl) ?_
      refine tk 2 rfl rfl rfl (DetJ.nilCheck rfl) ?_
      refine tk 3 rfl rfl rfl (DetJ.fieldAddr F70_0 rfl) ?_
      refine tk 4 rfl rfl rfl (DetJ.fieldAddr F28_4 rfl) ?_
      first | refine RunD.takeF 5 rfl rfl kr T26 rfl pk (by rfl) ?_ | refine RunD.takeO 5 rfl rfl kr T26 rfl pk (by assumption) (by rfl) (by exact fun _ => rfl) ?_
      refine tk 6 rfl rfl rfl (DetJ.fieldAddr F47_0 rfl) ?_
      first | refine RunD.takeF 7 rfl rfl kr T3 rfl pk (by rfl) ?_ | refine RunD.takeO 7 rfl rfl kr T3 rfl pk (by assumption) (by rfl) (by exact fun _ => rfl) ?_
      refine tk 8 rfl rfl rfl (DetJ.fieldAddr F47_3 rfl) ?_
      first | refine RunD.takeF 9 rfl rfl kr T3 rfl pk (by rfl) ?_ | refine RunD.takeO 9 rfl rfl kr T3 rfl pk (by assumption) (by rfl) (by exact fun _ => rfl) ?_
      refine tk 10 rfl rfl rfl (DetJ.fieldAddr F47_6 rfl) ?_
      first | refine RunD.takeF 11 rfl rfl kr T9 rfl pk (by rfl) ?_ | refine RunD.takeO 11 rfl rfl kr T9 rfl pk (by assumption) (by rfl) (by exact fun _ => rfl) ?_
      refine tk 12 rfl rfl rfl (DetJ.fieldAddr F47_4 rfl) ?_
      first | refine RunD.takeF 13 rfl rfl kr T3 rfl pk (by rfl) ?_ | refine RunD.takeO 13 rfl rfl kr T3 rfl pk (by assumption) (by rfl) (by exact fun _ => rfl) ?_
      refine tk 14 rfl rfl rfl (DetJ.move rfl) ?_
      refine RunD.takeB 15 rfl rfl kr B66 rfl rfl fun cs hcs => ?_
      simp only [Sk.c, Mv.c, Co.c, bldL, bldA, Value.cells, bs, Nat.reduceAdd, Nat.reduceLeDiff, Nat.reduceLT] at hcs; subst hcs
      refine RunD.op 16 [false, false, false, false, false, false, false, false, false, false, true, true, true, true, true, true] rfl rfl rfl kr kr (OpJ.buildSlice1 S26 rfl rfl rfl (by decide) (by decide) Z66 rfl fun b66 => ⟨po, ?_⟩)
      refine RunD.op 17 [false, false, false, true, true, true] rfl rfl rfl kr kr (OpJ.append1 (⟨m.seq, m.kind, m.lot, m.qty, v, 0, 0⟩ : Pa) S26 M66 rfl rfl pk pk rfl rfl (by simp [Value.oneCell', Pa.c, Ly.c, Mv.c, Co.c]) rfl (by omega) (by omega) fun a67 c67 => ⟨po, ?_⟩)
      refine tk 18 rfl rfl rfl (DetJ.nilCheck rfl) ?_
      refine tk 19 rfl rfl rfl (DetJ.fieldAddr F70_0 rfl) ?_
      refine tk 20 rfl rfl rfl (DetJ.fieldAddr F28_4 rfl) ?_
      refine RunD.op 21 [false, false, false, false, false, false] rfl rfl rfl kr kr (OpJ.store1 T26 rfl rfl rfl up (by simp) ⟨po, ?_⟩)
      refine kd [0, 3, 5] rfl ?_
      refine sr ?_
      refine mvo rfl rfl ?_
      refine mvo rfl rfl ?_
      refine RunL.op rfl rfl (OpJ.fieldAddr F47_4 rfl ?_)
      first | refine RunL.op rfl rfl (OpJ.loadF T3 rfl pk (by rfl) ?_) | refine RunL.op rfl rfl (OpJ.loadO T3 rfl pk (by assumption) (by rfl) (by exact fun _ => rfl) ?_)
      refine RunL.op rfl rfl (OpJ.neg rfl ?_)
      refine mvo rfl rfl ?_
      refine RunL.op rfl rfl (OpJ.neg rfl ?_)
      refine RunL.op rfl rfl (OpJ.nilCheck rfl ?_)
      refine RunL.op rfl rfl (OpJ.fieldAddr F70_2 rfl ?_)
      refine RunL.op rfl rfl (OpJ.fieldAddr F43_1 rfl ?_)
      refine RunL.op rfl rfl (OpJ.store1 T3 rfl rfl rfl up (by simp) ?_)
      refine RunL.op rfl rfl (OpJ.nilCheck rfl ?_)
      refine RunL.op rfl rfl (OpJ.fieldAddr F70_2 rfl ?_)
      refine RunL.op rfl rfl (OpJ.fieldAddr F43_2 rfl ?_)
      refine RunL.op rfl rfl (OpJ.store1 T3 rfl rfl rfl up (by simp) ?_)
      refine kp [] rfl ?_
      refine sr ?_
      refine asg rfl rfl ?_
      refine kp [2] rfl ?_
      refine Run.ret ?_
      have hres : fIssue t m c = .ok ({ t with layers := ls, past := t.past ++ [⟨m.seq, m.kind, m.lot, m.qty, v, 0, 0⟩] }, { c with qty := W (0 - m.qty), value := W (0 - v) }) := (by unfold fIssue; rw [if_neg h1, ← hI, issue_done h3]); refine ret_out (la, lc, a67, c67) (.tmp rfl .nil) trivial (by rw [hres]; rfl) ?_; rw [hres]; simp only [Aft, List.length_set, List.length_append]; exact gv
end Go.Proofs.YtdcchollplhioaaGreatDoor
