/- Laws of the walks and of the models, part 2. Merged by program out of: WM WN FifOk WO Std WP WQ WR WS StdOk WT Avg WU WV. -/
import Derived.Test.YtdcchollplhioaaGreatDoorQ1
set_option linter.unusedVariables false
set_option linter.unusedSimpArgs false
set_option maxRecDepth 20000
namespace Go.Proofs.YtdcchollplhioaaGreatDoor
open Go Go.SL Go.Proofs
theorem C67 : CI Tryz.prog 67 := .of (by kernel_rfl)
theorem C69 : CI Tryz.prog 69 := .of (by kernel_rfl)
theorem F43_3 : FI Tryz.prog 43 3 3 3 := .of (by kernel_rfl)
theorem F66_2 : FI Tryz.prog 66 2 9 2 := .of (by kernel_rfl)
theorem F66_4 : FI Tryz.prog 66 4 3 4 := .of (by kernel_rfl)
theorem F66_6 : FI Tryz.prog 66 6 3 6 := .of (by kernel_rfl)
-- (*fifo.step).back
theorem ac35 (bx : Nat) (t : Sk) (m : Mv) (c : Co) (la : Option Addr) (nl lc : Nat) (pa : Option Addr) (np pc : Nat) (enl : nl = t.layers.length) (enp : np = t.past.length) (ht : t.ok 999999) (hm : m.ok) : AC Tryz.prog 35 ⟨[.pointer (some ⟨bx, 0, none⟩)]⟩ (stars [pt bx (blk (XC t m c la nl lc pa np pc) 70), own 64 4 la nl lc ((t.layers).flatMap Ly.c), own 66 7 pa np pc ((t.past).flatMap Pa.c)]) (Outs (fun _ : Option Addr × Nat × Option Addr × Nat => True) (fun _ => I (errOf (fBack t m c))) (fun x => Aft 70 64 66 bx m (fBack t m c) x)) := by
  subst enl enp
  have hn : t.layers.length ≤ 1000000 ∧ t.past.length ≤ 1000000 := ⟨Nat.le_trans ht.nl (by decide), Nat.le_trans ht.np (by decide)⟩
  have hnl := ht.nl; have hnp := ht.np
  obtain ⟨hm1, hm2⟩ := hm
  refine AC.go Tryz.func35 rfl (Nat.le_of_ble_eq_true rfl) fun β => ?_
  refine sr ?_
  refine asg rfl rfl ?_
  refine kp [0] rfl ?_
  refine sr ?_
  refine mvo rfl rfl ?_
  refine RunL.call C67 rfl rfl rfl (ac67 bx t m c la _ lc pa _ pc _ rfl rfl hn) tks ?_
  refine mvo rfl rfl ?_
  refine RunL.op rfl rfl (OpJ.extract rfl rfl ?_)
  refine RunL.op rfl rfl (OpJ.extract rfl rfl ?_)
  refine asg rfl rfl ?_
  refine asg rfl rfl ?_
  refine kp [0, 3, 4] rfl ?_
  refine Run.seq ?_
  refine sr ?_
  refine mvo rfl rfl ?_
  refine RunL.op rfl rfl (OpJ.neq rfl rfl ?_)
  refine kp [0, 3, 4, 12] rfl ?_
  first | refine Run.if rfl (fun h1 => ?_) (fun h1 => ?_) | refine Run.cond rfl (fun h1 => ?_) (fun h1 => ?_)
  · skip
    refine sr ?_
    obtain ⟨e, he⟩ := errOf_ne h1
    refine mvo rfl rfl ?_
    refine asg rfl rfl ?_
    refine kp [2] rfl ?_
    refine Run.ret ?_
    have hres : fBack t m c = .error e := (by unfold fBack; rw [he]); rw [he]; refine ret_out (none, 0, none, 0) (.tmp rfl .nil) trivial (by rw [hres]; rfl) ?_; rw [hres]; exact gv
  · skip
    refine Run.skip ?_
    refine Run.seq ?_
    refine regionD HM ?_
    obtain ⟨i, p, hr, hx⟩ := refd_ok (Decidable.not_not.1 h1)
    rw [hr]
    have hi := (List.getElem?_eq_some_iff.1 hx).1
    obtain ⟨hp1, hp2, hp3, hp4⟩ := ht.pa i p hx
    refine RunD.ownAddr pk (flat_ne (k := 7) (fun _ => rfl) (by decide) hx) fun b e hcap => ?_
    subst e
    simp only [okPtr, ptrOf]
    refine tk 0 rfl rfl rfl (DetJ.move rfl) ?_
    refine tk 1 rfl rfl rfl (DetJ.nilCheck rfl) ?_
    refine tk 2 rfl rfl rfl (DetJ.fieldAddr F66_4 rfl) ?_
    first | refine RunD.takeF 3 rfl rfl kr T3 rfl pk (by rfl) ?_ | refine RunD.takeO 3 rfl rfl kr T3 rfl pk (by assumption) (by rfl) (by exact fun _ => rfl) ?_
    refine tk 4 rfl rfl rfl (DetJ.move rfl) ?_
    refine tk 5 rfl rfl rfl (DetJ.nilCheck rfl) ?_
    refine tk 6 rfl rfl rfl (DetJ.fieldAddr F66_6 rfl) ?_
    first | refine RunD.takeF 7 rfl rfl kr T3 rfl pk (by rfl) ?_ | refine RunD.takeO 7 rfl rfl kr T3 rfl pk (by assumption) (by rfl) (by exact fun _ => rfl) ?_
    refine tk 8 rfl rfl rfl (DetJ.sub rfl rfl) ?_
    refine tk 9 rfl rfl rfl (DetJ.move rfl) ?_
    refine tk 10 rfl rfl rfl (DetJ.nilCheck rfl) ?_
    refine tk 11 rfl rfl rfl (DetJ.fieldAddr F70_1 rfl) ?_
    refine tk 12 rfl rfl rfl (DetJ.fieldAddr F47_4 rfl) ?_
    first | refine RunD.takeF 13 rfl rfl kr T3 rfl pk (by rfl) ?_ | refine RunD.takeO 13 rfl rfl kr T3 rfl pk (by assumption) (by rfl) (by exact fun _ => rfl) ?_
    refine tk 14 rfl rfl rfl (DetJ.move rfl) ?_
    refine tk 15 rfl rfl rfl (DetJ.nilCheck rfl) ?_
    refine tk 16 rfl rfl rfl (DetJ.fieldAddr F66_3 rfl) ?_
    first | refine RunD.takeF 17 rfl rfl kr T3 rfl pk (by rfl) ?_ | refine RunD.takeO 17 rfl rfl kr T3 rfl pk (by assumption) (by rfl) (by exact fun _ => rfl) ?_
    refine tk 18 rfl rfl rfl (DetJ.move rfl) ?_
    refine tk 19 rfl rfl rfl (DetJ.nilCheck rfl) ?_
    refine tk 20 rfl rfl rfl (DetJ.fieldAddr F66_5 rfl) ?_
    first | refine RunD.takeF 21 rfl rfl kr T3 rfl pk (by rfl) ?_ | refine RunD.takeO 21 rfl rfl kr T3 rfl pk (by assumption) (by rfl) (by exact fun _ => rfl) ?_
    refine tk 22 rfl rfl rfl (DetJ.sub rfl rfl) ?_
    refine RunD.op 23 [false, false, false, true, true, false, false, true, true, false, false, false, true, true, false, false, false, true, true, false, false, true, true] rfl rfl rfl kr kr (OpJ.callRet C68 rfl rfl (ac68 _ _ _ (W_i64 _) hm1 (W_i64 _)) .nil ⟨po, ?_⟩)
    refine tk 24 rfl rfl rfl (DetJ.assign rfl) ?_
    refine kd [0, 3, 5] rfl ?_
    refine Run.seq ?_
    refine regionD HM ?_
    refine tk 0 rfl rfl rfl (DetJ.move rfl) ?_
    refine tk 1 rfl rfl rfl (DetJ.nilCheck rfl) ?_
    refine tk 2 rfl rfl rfl (DetJ.fieldAddr F66_5 rfl) ?_
    first | refine RunD.takeF 3 rfl rfl kr T3 rfl pk (by rfl) ?_ | refine RunD.takeO 3 rfl rfl kr T3 rfl pk (by assumption) (by rfl) (by exact fun _ => rfl) ?_
    refine tk 4 rfl rfl rfl (DetJ.move rfl) ?_
    refine tk 5 rfl rfl rfl (DetJ.nilCheck rfl) ?_
    refine tk 6 rfl rfl rfl (DetJ.fieldAddr F70_1 rfl) ?_
    refine tk 7 rfl rfl rfl (DetJ.fieldAddr F47_4 rfl) ?_
    first | refine RunD.takeF 8 rfl rfl kr T3 rfl pk (by rfl) ?_ | refine RunD.takeO 8 rfl rfl kr T3 rfl pk (by assumption) (by rfl) (by exact fun _ => rfl) ?_
    refine tk 9 rfl rfl rfl (DetJ.add rfl rfl) ?_
    refine tk 10 rfl rfl rfl (DetJ.nilCheck rfl) ?_
    refine tk 11 rfl rfl rfl (DetJ.fieldAddr F66_5 rfl) ?_
    refine RunD.op 12 [false, false, false, false, false, false, false, false, false, false, false, false] rfl rfl rfl kr kr (OpJ.storeO (i := i) (u' := sendP p m) T3 rfl rfl rfl hx (fun _ => rfl) (by decide) rfl up ⟨po, ?_⟩)
    refine kd [0, 3, 5] rfl ?_
    refine sr ?_
    have hx1 := set_get hx (sendP p m)
    refine mvo rfl rfl ?_
    refine RunL.op rfl rfl (OpJ.nilCheck rfl ?_)
    refine RunL.op rfl rfl (OpJ.fieldAddr F66_6 rfl ?_)
    first | refine RunL.op rfl rfl (OpJ.loadF T3 rfl pk (by rfl) ?_) | refine RunL.op rfl rfl (OpJ.loadO T3 rfl pk (by assumption) (by rfl) (by exact fun _ => rfl) ?_)
    refine mvo rfl rfl ?_
    refine RunL.op rfl rfl (OpJ.add rfl rfl ?_)
    refine RunL.op rfl rfl (OpJ.nilCheck rfl ?_)
    refine RunL.op rfl rfl (OpJ.fieldAddr F66_6 rfl ?_)
    refine RunL.op rfl rfl (OpJ.storeO (i := i) (u' := backP p m) T3 rfl rfl rfl hx1 (fun _ => rfl) (by decide) rfl up ?_)
    rw [List.set_set]
    refine kp [0, 3, 5] rfl ?_
    refine Run.seq ?_
    refine regionD HM ?_
    have hx2 := set_get hx (backP p m)
    refine tk 0 rfl rfl rfl (DetJ.move rfl) ?_
    refine tk 1 rfl rfl rfl (DetJ.move rfl) ?_
    refine tk 2 rfl rfl rfl (DetJ.nilCheck rfl) ?_
    refine tk 3 rfl rfl rfl (DetJ.fieldAddr F70_1 rfl) ?_
    refine tk 4 rfl rfl rfl (DetJ.fieldAddr F47_0 rfl) ?_
    first | refine RunD.takeF 5 rfl rfl kr T3 rfl pk (by rfl) ?_ | refine RunD.takeO 5 rfl rfl kr T3 rfl pk (by assumption) (by rfl) (by exact fun _ => rfl) ?_
    refine tk 6 rfl rfl rfl (DetJ.move rfl) ?_
    refine tk 7 rfl rfl rfl (DetJ.nilCheck rfl) ?_
    refine tk 8 rfl rfl rfl (DetJ.fieldAddr F66_2 rfl) ?_
    first | refine RunD.takeF 9 rfl rfl kr T9 rfl pk (by rfl) ?_ | refine RunD.takeO 9 rfl rfl kr T9 rfl pk (by assumption) (by rfl) (by exact fun _ => rfl) ?_
    refine tk 10 rfl rfl rfl (DetJ.move rfl) ?_
    refine tk 11 rfl rfl rfl (DetJ.nilCheck rfl) ?_
    refine tk 12 rfl rfl rfl (DetJ.fieldAddr F70_1 rfl) ?_
    refine tk 13 rfl rfl rfl (DetJ.fieldAddr F47_4 rfl) ?_
    first | refine RunD.takeF 14 rfl rfl kr T3 rfl pk (by rfl) ?_ | refine RunD.takeO 14 rfl rfl kr T3 rfl pk (by assumption) (by rfl) (by exact fun _ => rfl) ?_
    refine tk 15 rfl rfl rfl (DetJ.move rfl) ?_
    refine RunD.takeB 16 rfl rfl kr B64 rfl rfl fun cs hcs => ?_
    simp only [Sk.c, Mv.c, Co.c, bldL, bldA, Value.cells, bs, Nat.reduceAdd, Nat.reduceLeDiff, Nat.reduceLT] at hcs; subst hcs
    refine RunD.op 17 [false, false, false, false, true, true, true, false, false, true, true, false, false, true, true, true, false] rfl rfl rfl kr kr (OpJ.callOuts C65 rfl rfl (ac65 bx { t with past := t.past.set i (backP p m) } m c la t.layers.length lc (some ⟨b, 0, none⟩) t.past.length pc ⟨m.seq, p.lot, m.qty, backV p m⟩ rfl (by simp) (by simpa using hn)) tks fun ⟨la2, lc2⟩ _ => ⟨po, ?_⟩)
    refine kd [0, 5] rfl ?_
    refine sr ?_
    refine mvo rfl rfl ?_
    refine mvo rfl rfl ?_
    refine mvo rfl rfl ?_
    refine RunL.op rfl rfl (OpJ.nilCheck rfl ?_)
    refine RunL.op rfl rfl (OpJ.fieldAddr F70_1 rfl ?_)
    refine RunL.op rfl rfl (OpJ.fieldAddr F47_4 rfl ?_)
    first | refine RunL.op rfl rfl (OpJ.loadF T3 rfl pk (by rfl) ?_) | refine RunL.op rfl rfl (OpJ.loadO T3 rfl pk (by assumption) (by rfl) (by exact fun _ => rfl) ?_)
    refine mvo rfl rfl ?_
    refine RunL.op rfl rfl (OpJ.nilCheck rfl ?_)
    refine RunL.op rfl rfl (OpJ.fieldAddr F70_2 rfl ?_)
    refine RunL.op rfl rfl (OpJ.fieldAddr F43_1 rfl ?_)
    refine RunL.op rfl rfl (OpJ.store1 T3 rfl rfl rfl up (by simp) ?_)
    refine RunL.op rfl rfl (OpJ.nilCheck rfl ?_)
    refine RunL.op rfl rfl (OpJ.fieldAddr F70_2 rfl ?_)
    refine RunL.op rfl rfl (OpJ.fieldAddr F43_2 rfl ?_)
    refine RunL.op rfl rfl (OpJ.store1 T3 rfl rfl rfl up (by simp) ?_)
    refine kp [] rfl ?_
    refine sr ?_
    refine asg rfl rfl ?_
    refine kp [2] rfl ?_
    refine Run.ret ?_
    have hres : fBack t m c = .ok _ := (by unfold fBack; rw [hr]); refine ret_out (la2, lc2, (some ⟨b, 0, none⟩), pc) (.tmp rfl .nil) trivial (by rw [hres]; rfl) ?_; rw [hres]; simp only [Aft, List.length_set, List.length_append]; exact gv
-- (*fifo.step).send
theorem ac36 (bx : Nat) (t : Sk) (m : Mv) (c : Co) (la : Option Addr) (nl lc : Nat) (pa : Option Addr) (np pc : Nat) (enl : nl = t.layers.length) (enp : np = t.past.length) (ht : t.ok 999999) (hm : m.ok) : AC Tryz.prog 36 ⟨[.pointer (some ⟨bx, 0, none⟩)]⟩ (stars [pt bx (blk (XC t m c la nl lc pa np pc) 70), own 64 4 la nl lc ((t.layers).flatMap Ly.c), own 66 7 pa np pc ((t.past).flatMap Pa.c)]) (Outs (fun _ : Option Addr × Nat × Option Addr × Nat => True) (fun _ => I (errOf (fSend t m c))) (fun x => Aft 70 64 66 bx m (fSend t m c) x)) := by
  subst enl enp
  have hn : t.layers.length ≤ 1000000 ∧ t.past.length ≤ 1000000 := ⟨Nat.le_trans ht.nl (by decide), Nat.le_trans ht.np (by decide)⟩
  have hnl := ht.nl; have hnp := ht.np
  obtain ⟨hm1, hm2⟩ := hm
  refine AC.go Tryz.func36 rfl (Nat.le_of_ble_eq_true rfl) fun β => ?_
  refine sr ?_
  refine asg rfl rfl ?_
  refine kp [0] rfl ?_
  refine sr ?_
  refine mvo rfl rfl ?_
  refine RunL.call C67 rfl rfl rfl (ac67 bx t m c la _ lc pa _ pc _ rfl rfl hn) tks ?_
  refine mvo rfl rfl ?_
  refine RunL.op rfl rfl (OpJ.extract rfl rfl ?_)
  refine RunL.op rfl rfl (OpJ.extract rfl rfl ?_)
  refine asg rfl rfl ?_
  refine asg rfl rfl ?_
  refine kp [0, 3, 4] rfl ?_
  refine Run.seq ?_
  refine sr ?_
  refine mvo rfl rfl ?_
  refine RunL.op rfl rfl (OpJ.neq rfl rfl ?_)
  refine kp [0, 3, 4, 13] rfl ?_
  first | refine Run.if rfl (fun h1 => ?_) (fun h1 => ?_) | refine Run.cond rfl (fun h1 => ?_) (fun h1 => ?_)
  · skip
    refine sr ?_
    obtain ⟨e, he⟩ := errOf_ne h1
    refine mvo rfl rfl ?_
    refine asg rfl rfl ?_
    refine kp [2] rfl ?_
    refine Run.ret ?_
    have hres : fSend t m c = .error e := (by unfold fSend; rw [he]); rw [he]; refine ret_out (none, 0, none, 0) (.tmp rfl .nil) trivial (by rw [hres]; rfl) ?_; rw [hres]; exact gv
  · skip
    refine Run.skip ?_
    refine sr ?_
    obtain ⟨i, p, hr, hx⟩ := refd_ok (Decidable.not_not.1 h1)
    rw [hr]
    have hi := (List.getElem?_eq_some_iff.1 hx).1
    obtain ⟨hp1, hp2, hp3, hp4⟩ := ht.pa i p hx
    refine RunL.ownAddr pk (flat_ne (k := 7) (fun _ => rfl) (by decide) hx) fun b e hcap => ?_
    subst e
    simp only [okPtr, ptrOf]
    refine mvo rfl rfl ?_
    refine mvo rfl rfl ?_
    refine RunL.op rfl rfl (OpJ.nilCheck rfl ?_)
    refine RunL.op rfl rfl (OpJ.fieldAddr F70_1 rfl ?_)
    refine RunL.op rfl rfl (OpJ.fieldAddr F47_7 rfl ?_)
    first | refine RunL.op rfl rfl (OpJ.loadF T3 rfl pk (by rfl) ?_) | refine RunL.op rfl rfl (OpJ.loadO T3 rfl pk (by assumption) (by rfl) (by exact fun _ => rfl) ?_)
    refine RunL.call C69 rfl rfl rfl (ac69 bx t m c la _ lc _ _ pc m.ref rfl rfl hn) tks ?_
    refine asg rfl rfl ?_
    rcases hf : findI (isLy m.ref) t.layers with _ | ⟨j, l⟩
    · skip
      refine kp [0, 3, 5] rfl ?_
      refine Run.seq ?_
      refine Run.seq ?_
      refine regionD HM ?_
      refine tk 0 rfl rfl rfl (DetJ.move rfl) ?_
      refine tk 1 rfl rfl rfl (DetJ.lss rfl rfl) ?_
      first | refine RunD.set (congrArg Value.bool (decide_eq_false (show ¬ ((j : Int) < 0) by omega))) ?_ | skip
      refine tk 2 rfl rfl rfl (DetJ.move rfl) ?_
      refine RunD.takeN 3 rfl rfl rfl rfl rfl kr ?_
      refine RunD.takeN 4 rfl rfl rfl rfl rfl kr ?_
      refine RunD.takeN 5 rfl rfl rfl rfl rfl kr ?_
      refine RunD.takeN 6 rfl rfl rfl rfl rfl kr ?_
      refine RunD.takeN 7 rfl rfl rfl rfl rfl kr ?_
      refine RunD.takeN 8 rfl rfl rfl rfl rfl kr ?_
      refine RunD.takeN 9 rfl rfl rfl rfl rfl kr ?_
      refine RunD.takeN 10 rfl rfl rfl rfl rfl kr ?_
      refine RunD.takeN 11 rfl rfl rfl rfl rfl kr ?_
      refine RunD.takeN 12 rfl rfl rfl rfl rfl kr ?_
      refine RunD.takeN 13 rfl rfl rfl rfl rfl kr ?_
      refine RunD.takeN 14 rfl rfl rfl rfl rfl kr ?_
      refine RunD.takeN 15 rfl rfl rfl rfl rfl kr ?_
      refine RunD.takeN 16 rfl rfl rfl rfl rfl kr ?_
      refine RunD.takeN 17 rfl rfl rfl rfl rfl kr ?_
      refine tk 18 rfl rfl rfl (DetJ.pickT rfl rfl) ?_
      refine kd [0, 3, 5, 40] rfl ?_
      refine Run.true rfl ?_
      refine sr ?_
      refine asg rfl rfl ?_
      refine kp [2] rfl ?_
      refine Run.ret ?_
      have hres : fSend t m c = .error 21 := (by unfold fSend; rw [hr]; simp only [hf]); refine ret_out (none, 0, none, 0) (.tmp rfl .nil) trivial (by rw [hres]; rfl) ?_; rw [hres]; exact gv
    · skip
      obtain ⟨hy, _⟩ := findI_some hf
      have hj := (List.getElem?_eq_some_iff.1 hy).1
      have hly := ht.ly j l hy
      have hl1 := hly.1
      refine RunL.ownAddr pk (flat_ne (k := 4) (fun _ => rfl) (by decide) hy) fun b2 e hcap => ?_
      subst e
      simp only [idxOf]
      refine kp [0, 3, 5] rfl ?_
      refine Run.seq ?_
      refine Run.seq ?_
      refine regionD HM ?_
      refine tk 0 rfl rfl rfl (DetJ.move rfl) ?_
      refine tk 1 rfl rfl rfl (DetJ.lss rfl rfl) ?_
      first | refine RunD.set (congrArg Value.bool (decide_eq_false (show ¬ ((j : Int) < 0) by omega))) ?_ | skip
      refine tk 2 rfl rfl rfl (DetJ.move rfl) ?_
      refine RunD.takeG 3 rfl rfl rfl rfl rfl kr (DetJ.move rfl) .nil ?_
      refine RunD.takeG 4 rfl rfl rfl rfl rfl kr (DetJ.nilCheck rfl) .nil ?_
      refine RunD.takeG 5 rfl rfl rfl rfl rfl kr (DetJ.fieldAddr F70_0 rfl) .nil ?_
      refine RunD.takeG 6 rfl rfl rfl rfl rfl kr (DetJ.fieldAddr F28_3 rfl) .nil ?_
      first | refine RunD.takeGF 7 rfl rfl rfl rfl kr T25 rfl pk (by rfl) ?_ | refine RunD.takeGO 7 rfl rfl rfl rfl kr T25 rfl pk (by assumption) (by rfl) (by exact fun _ => rfl) ?_
      refine RunD.takeG 8 rfl rfl rfl rfl rfl kr (DetJ.move rfl) .nil ?_
      refine RunD.takeG 9 rfl rfl rfl rfl rfl kr (DetJ.indexAddr S25 rfl rfl (by omega)) .nil ?_
      refine RunD.takeG 10 rfl rfl rfl rfl rfl kr (DetJ.fieldAddr F64_2 rfl) .nil ?_
      first | refine RunD.takeGF 11 rfl rfl rfl rfl kr T3 rfl pk (by rfl) ?_ | refine RunD.takeGO 11 rfl rfl rfl rfl kr T3 rfl pk (by assumption) (by rfl) (by exact fun _ => rfl) ?_
      refine RunD.takeG 12 rfl rfl rfl rfl rfl kr (DetJ.move rfl) .nil ?_
      refine RunD.takeG 13 rfl rfl rfl rfl rfl kr (DetJ.nilCheck rfl) .nil ?_
      refine RunD.takeG 14 rfl rfl rfl rfl rfl kr (DetJ.fieldAddr F70_1 rfl) .nil ?_
      refine RunD.takeG 15 rfl rfl rfl rfl rfl kr (DetJ.fieldAddr F47_4 rfl) .nil ?_
      first | refine RunD.takeGF 16 rfl rfl rfl rfl kr T3 rfl pk (by rfl) ?_ | refine RunD.takeGO 16 rfl rfl rfl rfl kr T3 rfl pk (by assumption) (by rfl) (by exact fun _ => rfl) ?_
      refine RunD.takeG 17 rfl rfl rfl rfl rfl kr (DetJ.lss rfl rfl) .nil ?_
      refine tk 18 rfl rfl rfl (DetJ.pickF rfl rfl) ?_
      refine kd [0, 3, 5, 40] rfl ?_
      first | refine Run.if rfl (fun h2 => ?_) (fun h2 => ?_) | refine Run.cond rfl (fun h2 => ?_) (fun h2 => ?_)
      · skip
        refine sr ?_
        refine asg rfl rfl ?_
        refine kp [2] rfl ?_
        refine Run.ret ?_
        have hres : fSend t m c = .error 21 := (by unfold fSend; rw [hr]; simp only [hf]; rw [if_pos (by assumption)]); refine ret_out (none, 0, none, 0) (.tmp rfl .nil) trivial (by rw [hres]; rfl) ?_; rw [hres]; exact gv
      · skip
        refine Run.skip ?_
        refine Run.seq ?_
        refine regionD HM ?_
        refine tk 0 rfl rfl rfl (DetJ.move rfl) ?_
        refine tk 1 rfl rfl rfl (DetJ.nilCheck rfl) ?_
        refine tk 2 rfl rfl rfl (DetJ.fieldAddr F66_5 rfl) ?_
        first | refine RunD.takeF 3 rfl rfl kr T3 rfl pk (by rfl) ?_ | refine RunD.takeO 3 rfl rfl kr T3 rfl pk (by assumption) (by rfl) (by exact fun _ => rfl) ?_
        refine tk 4 rfl rfl rfl (DetJ.move rfl) ?_
        refine tk 5 rfl rfl rfl (DetJ.nilCheck rfl) ?_
        refine tk 6 rfl rfl rfl (DetJ.fieldAddr F70_1 rfl) ?_
        refine tk 7 rfl rfl rfl (DetJ.fieldAddr F47_4 rfl) ?_
        first | refine RunD.takeF 8 rfl rfl kr T3 rfl pk (by rfl) ?_ | refine RunD.takeO 8 rfl rfl kr T3 rfl pk (by assumption) (by rfl) (by exact fun _ => rfl) ?_
        refine tk 9 rfl rfl rfl (DetJ.add rfl rfl) ?_
        refine tk 10 rfl rfl rfl (DetJ.nilCheck rfl) ?_
        refine tk 11 rfl rfl rfl (DetJ.fieldAddr F66_5 rfl) ?_
        refine RunD.op 12 [false, false, false, false, false, false, false, false, false, false, false, false] rfl rfl rfl kr kr (OpJ.storeO (i := i) (u' := sendP p m) T3 rfl rfl rfl hx (fun _ => rfl) (by decide) rfl up ⟨po, ?_⟩)
        refine kd [0, 5] rfl ?_
        refine sr ?_
        refine mvo rfl rfl ?_
        refine mvo rfl rfl ?_
        refine mvo rfl rfl ?_
        refine RunL.op rfl rfl (OpJ.nilCheck rfl ?_)
        refine RunL.op rfl rfl (OpJ.fieldAddr F70_1 rfl ?_)
        refine RunL.op rfl rfl (OpJ.fieldAddr F47_4 rfl ?_)
        first | refine RunL.op rfl rfl (OpJ.loadF T3 rfl pk (by rfl) ?_) | refine RunL.op rfl rfl (OpJ.loadO T3 rfl pk (by assumption) (by rfl) (by exact fun _ => rfl) ?_)
        refine RunL.callX C66 rfl rfl rfl (ac66 bx { t with past := t.past.set i (sendP p m) } m c _ t.layers.length lc _ t.past.length pc j l m.qty hy hly hm1 rfl (by simp) (by simpa using hn)) tks fun ⟨la2, lc2⟩ _ => ?_
        refine asg rfl rfl ?_
        refine kp [0, 6] rfl ?_
        refine Run.seq ?_
        refine regionD HM ?_
        refine tk 0 rfl rfl rfl (DetJ.move rfl) ?_
        refine tk 1 rfl rfl rfl (DetJ.move rfl) ?_
        refine tk 2 rfl rfl rfl (DetJ.move rfl) ?_
        refine tk 3 rfl rfl rfl (DetJ.move rfl) ?_
        refine tk 4 rfl rfl rfl (DetJ.nilCheck rfl) ?_
        refine tk 5 rfl rfl rfl (DetJ.fieldAddr F70_1 rfl) ?_
        refine tk 6 rfl rfl rfl (DetJ.fieldAddr F47_4 rfl) ?_
        first | refine RunD.takeF 7 rfl rfl kr T3 rfl pk (by rfl) ?_ | refine RunD.takeO 7 rfl rfl kr T3 rfl pk (by assumption) (by rfl) (by exact fun _ => rfl) ?_
        refine tk 8 rfl rfl rfl (DetJ.neg rfl) ?_
        refine tk 9 rfl rfl rfl (DetJ.move rfl) ?_
        refine tk 10 rfl rfl rfl (DetJ.neg rfl) ?_
        refine tk 11 rfl rfl rfl (DetJ.move rfl) ?_
        refine tk 12 rfl rfl rfl (DetJ.move rfl) ?_
        refine tk 13 rfl rfl rfl (DetJ.nilCheck rfl) ?_
        refine tk 14 rfl rfl rfl (DetJ.fieldAddr F70_1 rfl) ?_
        refine tk 15 rfl rfl rfl (DetJ.fieldAddr F47_5 rfl) ?_
        first | refine RunD.takeF 16 rfl rfl kr T3 rfl pk (by rfl) ?_ | refine RunD.takeO 16 rfl rfl kr T3 rfl pk (by assumption) (by rfl) (by exact fun _ => rfl) ?_
        refine tk 17 rfl rfl rfl (DetJ.sub rfl rfl) ?_
        refine tk 18 rfl rfl rfl (DetJ.nilCheck rfl) ?_
        refine tk 19 rfl rfl rfl (DetJ.fieldAddr F70_2 rfl) ?_
        refine tk 20 rfl rfl rfl (DetJ.fieldAddr F43_1 rfl) ?_
        refine RunD.op 21 [false, false, false, true, false, false, false, true, true, true, true, true, false, false, false, false, false, false, true, true, false] rfl rfl rfl kr kr (OpJ.store1 T3 rfl rfl rfl up (by simp) ⟨po, ?_⟩)
        refine tk 22 rfl rfl rfl (DetJ.nilCheck rfl) ?_
        refine tk 23 rfl rfl rfl (DetJ.fieldAddr F70_2 rfl) ?_
        refine tk 24 rfl rfl rfl (DetJ.fieldAddr F43_2 rfl) ?_
        refine RunD.op 25 [false, false, false, true, true, true, true, false, false, true, false] rfl rfl rfl kr kr (OpJ.store1 T3 rfl rfl rfl up (by simp) ⟨po, ?_⟩)
        refine tk 26 rfl rfl rfl (DetJ.nilCheck rfl) ?_
        refine tk 27 rfl rfl rfl (DetJ.fieldAddr F70_2 rfl) ?_
        refine tk 28 rfl rfl rfl (DetJ.fieldAddr F43_3 rfl) ?_
        refine RunD.op 29 [false, false, false, false, false, false, false, false] rfl rfl rfl kr kr (OpJ.store1 T3 rfl rfl rfl up (by simp) ⟨po, ?_⟩)
        refine kd [] rfl ?_
        refine sr ?_
        refine asg rfl rfl ?_
        refine kp [2] rfl ?_
        refine Run.ret ?_
        have hres : fSend t m c = .ok _ := (by unfold fSend; rw [hr]; simp only [hf]; rw [if_neg (by assumption)]); refine ret_out (la2, lc2, (some ⟨b, 0, none⟩), pc) (.tmp rfl .nil) trivial (by rw [hres]; rfl) ?_; rw [hres]; simp only [Aft, List.length_set, List.length_append]; exact gv
end Go.Proofs.YtdcchollplhioaaGreatDoor

namespace Go.Proofs.YtdcchollplhioaaGreatDoor
open Go Go.SL Go.Proofs
theorem C70 : CI Tryz.prog 70 := .of (by kernel_rfl)
theorem F28_1 : FI Tryz.prog 28 1 3 1 := .of (by kernel_rfl)
-- (*fifo.step).land
theorem ac37 (bx : Nat) (t : Sk) (m : Mv) (c : Co) (la : Option Addr) (nl lc : Nat) (pa : Option Addr) (np pc : Nat) (enl : nl = t.layers.length) (enp : np = t.past.length) (ht : t.ok 999999) (hm : m.ok) : AC Tryz.prog 37 ⟨[.pointer (some ⟨bx, 0, none⟩)]⟩ (stars [pt bx (blk (XC t m c la nl lc pa np pc) 70), own 64 4 la nl lc ((t.layers).flatMap Ly.c), own 66 7 pa np pc ((t.past).flatMap Pa.c)]) (Outs (fun _ : Option Addr × Nat × Option Addr × Nat => True) (fun _ => I (errOf (fLand t m c))) (fun x => Aft 70 64 66 bx m (fLand t m c) x)) := by
  subst enl enp
  have hn : t.layers.length ≤ 1000000 ∧ t.past.length ≤ 1000000 := ⟨Nat.le_trans ht.nl (by decide), Nat.le_trans ht.np (by decide)⟩
  have hnl := ht.nl; have hnp := ht.np
  obtain ⟨hm1, hm2⟩ := hm
  refine AC.go Tryz.func37 rfl (Nat.le_of_ble_eq_true rfl) fun β => ?_
  refine sr ?_
  refine asg rfl rfl ?_
  refine kp [0] rfl ?_
  refine sr ?_
  refine mvo rfl rfl ?_
  refine RunL.call C67 rfl rfl rfl (ac67 bx t m c la _ lc pa _ pc _ rfl rfl hn) tks ?_
  refine mvo rfl rfl ?_
  refine RunL.op rfl rfl (OpJ.extract rfl rfl ?_)
  refine RunL.op rfl rfl (OpJ.extract rfl rfl ?_)
  refine asg rfl rfl ?_
  refine asg rfl rfl ?_
  refine kp [0, 3, 4] rfl ?_
  refine Run.seq ?_
  refine sr ?_
  refine mvo rfl rfl ?_
  refine RunL.op rfl rfl (OpJ.neq rfl rfl ?_)
  refine kp [0, 3, 4, 12] rfl ?_
  first | refine Run.if rfl (fun h1 => ?_) (fun h1 => ?_) | refine Run.cond rfl (fun h1 => ?_) (fun h1 => ?_)
  · skip
    refine sr ?_
    obtain ⟨e, he⟩ := errOf_ne h1
    refine mvo rfl rfl ?_
    refine asg rfl rfl ?_
    refine kp [2] rfl ?_
    refine Run.ret ?_
    have hres : fLand t m c = .error e := (by unfold fLand; rw [he]); rw [he]; refine ret_out (none, 0, none, 0) (.tmp rfl .nil) trivial (by rw [hres]; rfl) ?_; rw [hres]; exact gv
  · skip
    refine Run.skip ?_
    refine Run.seq ?_
    refine sr ?_
    obtain ⟨i, p, hr, hx⟩ := refd_ok (Decidable.not_not.1 h1)
    rw [hr]
    have hi := (List.getElem?_eq_some_iff.1 hx).1
    obtain ⟨hp1, hp2, hp3, hp4⟩ := ht.pa i p hx
    refine RunL.ownAddr pk (flat_ne (k := 7) (fun _ => rfl) (by decide) hx) fun b e hcap => ?_
    subst e
    simp only [okPtr, ptrOf]
    refine mvo rfl rfl ?_
    refine mvo rfl rfl ?_
    refine RunL.op rfl rfl (OpJ.nilCheck rfl ?_)
    refine RunL.op rfl rfl (OpJ.fieldAddr F70_1 rfl ?_)
    refine RunL.op rfl rfl (OpJ.fieldAddr F47_7 rfl ?_)
    first | refine RunL.op rfl rfl (OpJ.loadF T3 rfl pk (by rfl) ?_) | refine RunL.op rfl rfl (OpJ.loadO T3 rfl pk (by assumption) (by rfl) (by exact fun _ => rfl) ?_)
    refine RunL.call C69 rfl rfl rfl (ac69 bx t m c la _ lc _ _ pc m.ref rfl rfl hn) tks ?_
    refine asg rfl rfl ?_
    rcases hf : findI (isLy m.ref) t.layers with _ | ⟨j, l⟩
    · skip
      refine kp [0, 3, 5] rfl ?_
      refine sr ?_
      refine mvo rfl rfl ?_
      refine RunL.op rfl rfl (OpJ.geq rfl rfl ?_)
      first | refine RunL.set (congrArg Value.bool (decide_eq_true (show (0 : Int) ≤ (j : Int) by omega))) ?_ | skip
      refine kp [0, 3, 5, 22] rfl ?_
      refine Run.false rfl ?_
      refine Run.skip ?_
      refine Run.seq ?_
      refine regionD HM ?_
      refine tk 0 rfl rfl rfl (DetJ.move rfl) ?_
      refine tk 1 rfl rfl rfl (DetJ.move rfl) ?_
      refine tk 2 rfl rfl rfl (DetJ.nilCheck rfl) ?_
      refine tk 3 rfl rfl rfl (DetJ.fieldAddr F70_1 rfl) ?_
      refine tk 4 rfl rfl rfl (DetJ.fieldAddr F47_5 rfl) ?_
      first | refine RunD.takeF 5 rfl rfl kr T3 rfl pk (by rfl) ?_ | refine RunD.takeO 5 rfl rfl kr T3 rfl pk (by assumption) (by rfl) (by exact fun _ => rfl) ?_
      refine tk 6 rfl rfl rfl (DetJ.move rfl) ?_
      refine tk 7 rfl rfl rfl (DetJ.nilCheck rfl) ?_
      refine tk 8 rfl rfl rfl (DetJ.fieldAddr F70_2 rfl) ?_
      refine tk 9 rfl rfl rfl (DetJ.fieldAddr F43_2 rfl) ?_
      first | refine RunD.takeF 10 rfl rfl kr T3 rfl pk (by rfl) ?_ | refine RunD.takeO 10 rfl rfl kr T3 rfl pk (by assumption) (by rfl) (by exact fun _ => rfl) ?_
      refine tk 11 rfl rfl rfl (DetJ.sub rfl rfl) ?_
      refine tk 12 rfl rfl rfl (DetJ.nilCheck rfl) ?_
      refine tk 13 rfl rfl rfl (DetJ.fieldAddr F70_2 rfl) ?_
      refine tk 14 rfl rfl rfl (DetJ.fieldAddr F43_3 rfl) ?_
      refine RunD.op 15 [false, false, false, false, false, false, false, false, false, false, false, false, false, false, false] rfl rfl rfl kr kr (OpJ.store1 T3 rfl rfl rfl up (by simp) ⟨po, ?_⟩)
      refine kd [] rfl ?_
      refine sr ?_
      refine asg rfl rfl ?_
      refine kp [2] rfl ?_
      refine Run.ret ?_
      have hres : fLand t m c = .ok _ := (by unfold fLand; rw [hr]; simp only [hf]; rfl); refine ret_out (la, lc, (some ⟨b, 0, none⟩), pc) (.tmp rfl .nil) trivial (by rw [hres]; rfl) ?_; rw [hres]; simp only [Aft, List.length_set, List.length_append]; exact gv
    · skip
      obtain ⟨hy, _⟩ := findI_some hf
      have hj := (List.getElem?_eq_some_iff.1 hy).1
      have hly := ht.ly j l hy
      have hl1 := hly.1
      refine RunL.ownAddr pk (flat_ne (k := 4) (fun _ => rfl) (by decide) hy) fun b2 e hcap => ?_
      subst e
      simp only [idxOf]
      refine kp [0, 3, 5] rfl ?_
      refine sr ?_
      refine mvo rfl rfl ?_
      refine RunL.op rfl rfl (OpJ.geq rfl rfl ?_)
      first | refine RunL.set (congrArg Value.bool (decide_eq_true (show (0 : Int) ≤ (j : Int) by omega))) ?_ | skip
      refine kp [0, 3, 5, 22] rfl ?_
      refine Run.true rfl ?_
      refine Run.seq ?_
      refine regionD HM ?_
      refine tk 0 rfl rfl rfl (DetJ.move rfl) ?_
      refine tk 1 rfl rfl rfl (DetJ.move rfl) ?_
      refine tk 2 rfl rfl rfl (DetJ.nilCheck rfl) ?_
      refine tk 3 rfl rfl rfl (DetJ.fieldAddr F70_1 rfl) ?_
      refine tk 4 rfl rfl rfl (DetJ.fieldAddr F47_5 rfl) ?_
      first | refine RunD.takeF 5 rfl rfl kr T3 rfl pk (by rfl) ?_ | refine RunD.takeO 5 rfl rfl kr T3 rfl pk (by assumption) (by rfl) (by exact fun _ => rfl) ?_
      refine tk 6 rfl rfl rfl (DetJ.move rfl) ?_
      refine tk 7 rfl rfl rfl (DetJ.nilCheck rfl) ?_
      refine tk 8 rfl rfl rfl (DetJ.fieldAddr F70_0 rfl) ?_
      refine tk 9 rfl rfl rfl (DetJ.fieldAddr F28_3 rfl) ?_
      first | refine RunD.takeF 10 rfl rfl kr T25 rfl pk (by rfl) ?_ | refine RunD.takeO 10 rfl rfl kr T25 rfl pk (by assumption) (by rfl) (by exact fun _ => rfl) ?_
      refine tk 11 rfl rfl rfl (DetJ.move rfl) ?_
      refine tk 12 rfl rfl rfl (DetJ.indexAddr S25 rfl rfl (by omega)) ?_
      refine tk 13 rfl rfl rfl (DetJ.fieldAddr F64_2 rfl) ?_
      first | refine RunD.takeF 14 rfl rfl kr T3 rfl pk (by rfl) ?_ | refine RunD.takeO 14 rfl rfl kr T3 rfl pk (by assumption) (by rfl) (by exact fun _ => rfl) ?_
      refine tk 15 rfl rfl rfl (DetJ.move rfl) ?_
      refine tk 16 rfl rfl rfl (DetJ.nilCheck rfl) ?_
      refine tk 17 rfl rfl rfl (DetJ.fieldAddr F66_3 rfl) ?_
      first | refine RunD.takeF 18 rfl rfl kr T3 rfl pk (by rfl) ?_ | refine RunD.takeO 18 rfl rfl kr T3 rfl pk (by assumption) (by rfl) (by exact fun _ => rfl) ?_
      refine RunD.op 19 [false, false, false, true, false, false, false, true, true, true, true, true, true, false, false, false, true, true, true] rfl rfl rfl kr kr (OpJ.callRet C68 rfl rfl (ac68 _ _ _ hm2 hl1 hp1) .nil ⟨po, ?_⟩)
      refine tk 20 rfl rfl rfl (DetJ.nilCheck rfl) ?_
      refine tk 21 rfl rfl rfl (DetJ.fieldAddr F70_2 rfl) ?_
      refine tk 22 rfl rfl rfl (DetJ.fieldAddr F43_2 rfl) ?_
      refine RunD.op 23 [false, false, false, false, false, false, false, false, false, false, false, false, false] rfl rfl rfl kr kr (OpJ.store1 T3 rfl rfl rfl up (by simp) ⟨po, ?_⟩)
      refine kd [0, 5] rfl ?_
      refine regionD HM ?_
      refine tk 0 rfl rfl rfl (DetJ.move rfl) ?_
      refine tk 1 rfl rfl rfl (DetJ.nilCheck rfl) ?_
      refine tk 2 rfl rfl rfl (DetJ.fieldAddr F70_0 rfl) ?_
      refine tk 3 rfl rfl rfl (DetJ.fieldAddr F28_3 rfl) ?_
      first | refine RunD.takeF 4 rfl rfl kr T25 rfl pk (by rfl) ?_ | refine RunD.takeO 4 rfl rfl kr T25 rfl pk (by assumption) (by rfl) (by exact fun _ => rfl) ?_
      refine tk 5 rfl rfl rfl (DetJ.move rfl) ?_
      refine tk 6 rfl rfl rfl (DetJ.indexAddr S25 rfl rfl (by omega)) ?_
      refine tk 7 rfl rfl rfl (DetJ.fieldAddr F64_3 rfl) ?_
      first | refine RunD.takeF 8 rfl rfl kr T3 rfl pk (by rfl) ?_ | refine RunD.takeO 8 rfl rfl kr T3 rfl pk (by assumption) (by rfl) (by exact fun _ => rfl) ?_
      refine tk 9 rfl rfl rfl (DetJ.move rfl) ?_
      refine tk 10 rfl rfl rfl (DetJ.nilCheck rfl) ?_
      refine tk 11 rfl rfl rfl (DetJ.fieldAddr F70_2 rfl) ?_
      refine tk 12 rfl rfl rfl (DetJ.fieldAddr F43_2 rfl) ?_
      first | refine RunD.takeF 13 rfl rfl kr T3 rfl pk (by rfl) ?_ | refine RunD.takeO 13 rfl rfl kr T3 rfl pk (by assumption) (by rfl) (by exact fun _ => rfl) ?_
      refine tk 14 rfl rfl rfl (DetJ.add rfl rfl) ?_
      refine tk 15 rfl rfl rfl (DetJ.indexAddr S25 rfl rfl (by omega)) ?_
      refine tk 16 rfl rfl rfl (DetJ.fieldAddr F64_3 rfl) ?_
      refine RunD.op 17 [false, false, false, false, false, false, false, false, false, false, false, false, false, false, false, false, false] rfl rfl rfl kr kr (OpJ.storeO (i := j) (u' := { l with value := W (l.value + partN m.cost l.qty p.qty) }) T3 rfl rfl rfl hy (fun _ => rfl) (by decide) rfl up ⟨po, ?_⟩)
      refine kd [0] rfl ?_
      refine Run.seq ?_
      refine regionD HM ?_
      refine tk 0 rfl rfl rfl (DetJ.move rfl) ?_
      refine tk 1 rfl rfl rfl (DetJ.move rfl) ?_
      refine tk 2 rfl rfl rfl (DetJ.nilCheck rfl) ?_
      refine tk 3 rfl rfl rfl (DetJ.fieldAddr F70_1 rfl) ?_
      refine tk 4 rfl rfl rfl (DetJ.fieldAddr F47_5 rfl) ?_
      first | refine RunD.takeF 5 rfl rfl kr T3 rfl pk (by rfl) ?_ | refine RunD.takeO 5 rfl rfl kr T3 rfl pk (by assumption) (by rfl) (by exact fun _ => rfl) ?_
      refine tk 6 rfl rfl rfl (DetJ.move rfl) ?_
      refine tk 7 rfl rfl rfl (DetJ.nilCheck rfl) ?_
      refine tk 8 rfl rfl rfl (DetJ.fieldAddr F70_2 rfl) ?_
      refine tk 9 rfl rfl rfl (DetJ.fieldAddr F43_2 rfl) ?_
      first | refine RunD.takeF 10 rfl rfl kr T3 rfl pk (by rfl) ?_ | refine RunD.takeO 10 rfl rfl kr T3 rfl pk (by assumption) (by rfl) (by exact fun _ => rfl) ?_
      refine tk 11 rfl rfl rfl (DetJ.sub rfl rfl) ?_
      refine tk 12 rfl rfl rfl (DetJ.nilCheck rfl) ?_
      refine tk 13 rfl rfl rfl (DetJ.fieldAddr F70_2 rfl) ?_
      refine tk 14 rfl rfl rfl (DetJ.fieldAddr F43_3 rfl) ?_
      refine RunD.op 15 [false, false, false, false, false, false, false, false, false, false, false, false, false, false, false] rfl rfl rfl kr kr (OpJ.store1 T3 rfl rfl rfl up (by simp) ⟨po, ?_⟩)
      refine kd [] rfl ?_
      refine sr ?_
      refine asg rfl rfl ?_
      refine kp [2] rfl ?_
      refine Run.ret ?_
      have hres : fLand t m c = .ok _ := (by unfold fLand; rw [hr]; simp only [hf]; rfl); refine ret_out ((some ⟨b2, 0, none⟩), lc, (some ⟨b, 0, none⟩), pc) (.tmp rfl .nil) trivial (by rw [hres]; rfl) ?_; rw [hres]; simp only [Aft, List.length_set, List.length_append]; exact gv
-- (*fifo.step).over
theorem ac38 (bx : Nat) (t : Sk) (m : Mv) (c : Co) (la : Option Addr) (nl lc : Nat) (pa : Option Addr) (np pc : Nat) (enl : nl = t.layers.length) (enp : np = t.past.length) (hn : t.layers.length ≤ 1000000 ∧ t.past.length ≤ 1000000) : AC Tryz.prog 38 ⟨[.pointer (some ⟨bx, 0, none⟩)]⟩ (stars [pt bx (blk (XC t m c la nl lc pa np pc) 70), own 64 4 la nl lc ((t.layers).flatMap Ly.c)]) (Ret (Bo (overB t c)) [pt bx (blk (XC t m c la nl lc pa np pc) 70), own 64 4 la nl lc ((t.layers).flatMap Ly.c)]) := by
  subst enl enp
  have hnl := hn.1; have hnp := hn.2
  refine AC.go Tryz.func38 rfl (Nat.le_of_ble_eq_true rfl) fun β => ?_
  refine sr ?_
  refine asg rfl rfl ?_
  refine kp [0] rfl ?_
  refine Run.seq ?_
  refine sr ?_
  refine mvo rfl rfl ?_
  refine RunL.op rfl rfl (OpJ.nilCheck rfl ?_)
  refine RunL.op rfl rfl (OpJ.fieldAddr F70_0 rfl ?_)
  refine RunL.op rfl rfl (OpJ.fieldAddr F28_3 rfl ?_)
  first | refine RunL.op rfl rfl (OpJ.loadF T25 rfl pk (by rfl) ?_) | refine RunL.op rfl rfl (OpJ.loadO T25 rfl pk (by assumption) (by rfl) (by exact fun _ => rfl) ?_)
  refine RunL.op rfl rfl (OpJ.len S25 rfl ?_)
  refine mvo rfl rfl ?_
  refine kp [0, 9, 10, 11] rfl ?_
  refine Run.block ?_
  refine Run.loop (fun mm E L => ∃ i : Nat, mm = t.layers.length - i ∧ i ≤ t.layers.length ∧ (∀ j y, j < i → t.layers[j]? = some y → farB y.value = false) ∧ E = [(0, .pointer (some ⟨bx, 0, none⟩)), (9, .slice la t.layers.length lc), (10, I t.layers.length), (11, I i)] ∧ L = [pt bx (blk (XC t m c la t.layers.length lc pa t.past.length pc) 70), own 64 4 la t.layers.length lc ((t.layers).flatMap Ly.c)]) ⟨_, 0, rfl, Nat.zero_le _, fun _ _ h => by omega, rfl, rfl⟩ ?_
  rintro _ _ _ ⟨i, rfl, hi, hI0, rfl, rfl⟩
  refine sr ?_
  refine RunL.op rfl rfl (OpJ.lss rfl rfl ?_)
  refine kp [0, 9, 10, 11, 12] rfl ?_
  refine Run.seq ?_
  first | refine Run.if rfl (fun h1 => ?_) (fun h1 => ?_) | refine Run.cond rfl (fun h1 => ?_) (fun h1 => ?_)
  · skip
    refine Run.skip ?_
    refine Run.seq ?_
    refine Run.block ?_
    refine sr ?_
    obtain ⟨x, hx⟩ := get_ex (xs := t.layers) (i := i) (by omega)
    refine RunL.ownAddr pk (flat_ne (k := 4) (fun _ => rfl) (by decide) hx) fun b e hcap => ?_
    subst e
    refine RunL.op rfl rfl (OpJ.indexAddr S25 rfl rfl (by omega) ?_)
    first | refine RunL.op rfl rfl (OpJ.loadW T64 rfl pk (by rfl) ?_) | refine RunL.op rfl rfl (OpJ.loadP T64 rfl pk (by simp) ?_) | refine RunL.op rfl rfl (OpJ.loadE T64 rfl pk (by assumption) (by exact fun _ => rfl) rfl (by decide) ?_)
    refine RunL.op rfl rfl (OpJ.alloc Z64 fun b4 => ?_)
    refine RunL.op rfl rfl (OpJ.storeW T64 rfl rfl rfl rfl (by simp [Value.oneCell', Pa.c, Ly.c, Mv.c, Co.c]) up ?_)
    refine kp [0, 4, 9, 10, 11] rfl ?_
    refine sr ?_
    refine RunL.op rfl rfl (OpJ.fieldAddr F64_3 rfl ?_)
    first | refine RunL.op rfl rfl (OpJ.loadF T3 rfl pk (by rfl) ?_) | refine RunL.op rfl rfl (OpJ.loadO T3 rfl pk (by assumption) (by rfl) (by exact fun _ => rfl) ?_)
    refine RunL.call C70 rfl rfl rfl (ac70 _) .nil ?_
    refine kp [0, 9, 10, 11, 17] rfl ?_
    first | refine Run.if rfl (fun h2 => ?_) (fun h2 => ?_) | refine Run.cond rfl (fun h2 => ?_) (fun h2 => ?_)
    · skip
      refine sr ?_
      refine asg rfl rfl ?_
      refine kp [2] rfl ?_
      refine Run.ret ?_
      exact ret_one (.tmp rfl .nil) (congrArg Bo (overB_far hx h2).symm) gv
    · skip
      refine Run.skip ?_
      refine Run.region ?_
      first | refine RunL.op rfl rfl (OpJ.addI rfl rfl (by omega) ?_) | refine RunL.op rfl rfl (OpJ.add rfl rfl ?_)
      refine mvo rfl rfl ?_
      exact RunL.next (Keep.sub (kt (ks := [0, 9, 10, 11]) rfl)) _ ⟨_, by omega, i + 1, rfl, by omega, (fun j y hj hy => (by rcases Nat.lt_succ_iff_lt_or_eq.1 hj with h | rfl; exact hI0 j y h hy; rw [hx] at hy; cases hy; exact h2)), rfl, rfl⟩ gv
  · skip
    refine Run.exit ?_
    refine sr ?_
    refine mvo rfl rfl ?_
    refine RunL.op rfl rfl (OpJ.nilCheck rfl ?_)
    refine RunL.op rfl rfl (OpJ.fieldAddr F70_0 rfl ?_)
    refine RunL.op rfl rfl (OpJ.fieldAddr F28_0 rfl ?_)
    first | refine RunL.op rfl rfl (OpJ.loadF T3 rfl pk (by rfl) ?_) | refine RunL.op rfl rfl (OpJ.loadO T3 rfl pk (by assumption) (by rfl) (by exact fun _ => rfl) ?_)
    refine RunL.op rfl rfl (OpJ.gtr rfl rfl ?_)
    refine mvo rfl rfl ?_
    first | refine RunL.splitP (t := 25) rfl (fun g3 => ?_) (fun g3 => ?_) | refine RunL.split (t := 25) rfl (fun g3 => ?_) (fun g3 => ?_)
    · skip
      refine RunL.no rfl rfl rfl rfl ?_
      refine RunL.no rfl rfl rfl rfl ?_
      refine RunL.no rfl rfl rfl rfl ?_
      refine RunL.no rfl rfl rfl rfl ?_
      refine RunL.no rfl rfl rfl rfl ?_
      refine RunL.no rfl rfl rfl rfl ?_
      refine RunL.op rfl rfl (OpJ.pickT rfl rfl ?_)
      refine mvo rfl rfl ?_
      refine RunL.no rfl rfl rfl rfl ?_
      refine RunL.no rfl rfl rfl rfl ?_
      refine RunL.no rfl rfl rfl rfl ?_
      refine RunL.no rfl rfl rfl rfl ?_
      refine RunL.no rfl rfl rfl rfl ?_
      refine RunL.no rfl rfl rfl rfl ?_
      refine RunL.op rfl rfl (OpJ.pickT rfl rfl ?_)
      refine asg rfl rfl ?_
      refine kp [2] rfl ?_
      refine Run.ret ?_
      exact ret_one (.tmp rfl .nil) (congrArg Bo (by rw [overB_rest (fun j y hj => hI0 j y (by omega))]; simp [*])) gv
    · skip
      refine RunL.yes rfl rfl rfl rfl (OpJ.move rfl ?_)
      refine RunL.yes rfl rfl rfl rfl (OpJ.nilCheck rfl ?_)
      refine RunL.yes rfl rfl rfl rfl (OpJ.fieldAddr F70_0 rfl ?_)
      refine RunL.yes rfl rfl rfl rfl (OpJ.fieldAddr F28_1 rfl ?_)
      first | refine RunL.yes rfl rfl rfl rfl (OpJ.loadF T3 rfl pk (by rfl) ?_) | refine RunL.yes rfl rfl rfl rfl (OpJ.loadO T3 rfl pk (by assumption) (by rfl) (by exact fun _ => rfl) ?_)
      refine RunL.callG C70 rfl rfl rfl rfl rfl (ac70 _) .nil ?_
      refine RunL.op rfl rfl (OpJ.pickF rfl rfl ?_)
      refine mvo rfl rfl ?_
      first | refine RunL.splitP (t := 33) rfl (fun g4 => ?_) (fun g4 => ?_) | refine RunL.split (t := 33) rfl (fun g4 => ?_) (fun g4 => ?_)
      · skip
        refine RunL.no rfl rfl rfl rfl ?_
        refine RunL.no rfl rfl rfl rfl ?_
        refine RunL.no rfl rfl rfl rfl ?_
        refine RunL.no rfl rfl rfl rfl ?_
        refine RunL.no rfl rfl rfl rfl ?_
        refine RunL.no rfl rfl rfl rfl ?_
        refine RunL.op rfl rfl (OpJ.pickT rfl rfl ?_)
        refine asg rfl rfl ?_
        refine kp [2] rfl ?_
        refine Run.ret ?_
        exact ret_one (.tmp rfl .nil) (congrArg Bo (by rw [overB_rest (fun j y hj => hI0 j y (by omega))]; simp [*])) gv
      · skip
        refine RunL.yes rfl rfl rfl rfl (OpJ.move rfl ?_)
        refine RunL.yes rfl rfl rfl rfl (OpJ.nilCheck rfl ?_)
        refine RunL.yes rfl rfl rfl rfl (OpJ.fieldAddr F70_2 rfl ?_)
        refine RunL.yes rfl rfl rfl rfl (OpJ.fieldAddr F43_3 rfl ?_)
        first | refine RunL.yes rfl rfl rfl rfl (OpJ.loadF T3 rfl pk (by rfl) ?_) | refine RunL.yes rfl rfl rfl rfl (OpJ.loadO T3 rfl pk (by assumption) (by rfl) (by exact fun _ => rfl) ?_)
        refine RunL.callG C70 rfl rfl rfl rfl rfl (ac70 _) .nil ?_
        refine RunL.op rfl rfl (OpJ.pickF rfl rfl ?_)
        refine asg rfl rfl ?_
        refine kp [2] rfl ?_
        refine Run.ret ?_
        exact ret_one (.tmp rfl .nil) (congrArg Bo (by rw [overB_rest (fun j y hj => hI0 j y (by omega))]; simp [*])) gv
-- fifo.Step$1
theorem ac32 : AC Tryz.prog 32 ⟨[]⟩ (stars []) (Ret (I 10) []) := by
  refine AC.go Tryz.func32 rfl (Nat.le_of_ble_eq_true rfl) fun β => ?_
  refine sr ?_
  refine asg rfl rfl ?_
  refine kp [] rfl ?_
  refine sr ?_
  refine asg rfl rfl ?_
  refine kp [0] rfl ?_
  refine Run.ret ?_
  exact ret_one (.tmp rfl .nil) (by simp [tup, *]) gv
end Go.Proofs.YtdcchollplhioaaGreatDoor

namespace Go.SL
open Go
/-- What a step returns: the zero values and an error, or a stock and costs. -/
def StV (r : Except Int (Sk × Co)) (x : Option Addr × Nat × Option Addr × Nat) : Value :=
  match r with
  | .error e => .tuple ⟨[.agg ⟨[I 0, I 0, I 0, .slice none 0 0, .slice none 0 0]⟩, .agg ⟨[I 0, I 0, I 0, I 0]⟩, I e]⟩
  | .ok (t, c) => .tuple ⟨[.agg ⟨t.c x.1 x.2.1 x.2.2.1 x.2.2.2⟩, .agg ⟨c.c⟩, I 0]⟩
def StB (TL TP : Nat) (r : Except Int (Sk × Co)) (x : Option Addr × Nat × Option Addr × Nat) : List HP :=
  match r with
  | .error _ => []
  | .ok (t, _) => [own TL 4 x.1 t.layers.length x.2.1 (t.layers.flatMap Ly.c), own TP 7 x.2.2.1 t.past.length x.2.2.2 (t.past.flatMap Pa.c)]
theorem ptrOf_isSome {α : Type} {a : Addr} {k : Nat} {r : Option (Nat × α)} : (ptrOf (some a) k r).isSome = r.isSome := by cases r <;> rfl
theorem fDo_1 {t : Sk} {m : Mv} {c : Co} (h : m.kind = 1) : fDo t m c = fRecv t m c := by unfold fDo; rw [if_pos h]
theorem fDo_2 {t : Sk} {m : Mv} {c : Co} (h : m.kind = 2) : fDo t m c = fIssue t m c := by unfold fDo; rw [if_neg (by omega), if_pos h]
theorem fDo_3 {t : Sk} {m : Mv} {c : Co} (h : m.kind = 3) : fDo t m c = fBack t m c := by unfold fDo; rw [if_neg (by omega), if_neg (by omega), if_pos h]
theorem fDo_4 {t : Sk} {m : Mv} {c : Co} (h : m.kind = 4) : fDo t m c = fSend t m c := by unfold fDo; rw [if_neg (by omega), if_neg (by omega), if_neg (by omega), if_pos h]
theorem fDo_5 {t : Sk} {m : Mv} {c : Co} (h : m.kind = 5) : fDo t m c = fLand t m c := by unfold fDo; rw [if_neg (by omega), if_neg (by omega), if_neg (by omega), if_neg (by omega), if_pos h]
theorem fDo_0 {t : Sk} {m : Mv} {c : Co} (h : ¬ m.kind = 1 ∧ ¬ m.kind = 2 ∧ ¬ m.kind = 3 ∧ ¬ m.kind = 4 ∧ ¬ m.kind = 5) : fDo t m c = .error 10 := by unfold fDo; rw [if_neg h.1, if_neg h.2.1, if_neg h.2.2.1, if_neg h.2.2.2.1, if_neg h.2.2.2.2]
abbrev okL (ls : List Ly) : Prop := ∀ (i : Nat) (l : Ly), ls[i]? = some l → l.ok
abbrev okP (ps : List Pa) : Prop := ∀ (i : Nat) (p : Pa), ps[i]? = some p → p.ok
theorem all_append1 {α : Type} {Q : α → Prop} {xs : List α} {x : α} (h : ∀ (i : Nat) (y : α), xs[i]? = some y → Q y) (hx : Q x) : ∀ (i : Nat) (y : α), (xs ++ [x])[i]? = some y → Q y := by
  intro i y hy
  rcases List.mem_append.1 (List.mem_of_getElem? hy) with hm | hm
  · obtain ⟨j, hj, he⟩ := List.getElem_of_mem hm
    exact h j y (by rw [List.getElem?_eq_getElem hj, he])
  · rw [List.mem_singleton.1 hm]; exact hx
theorem all_set {α : Type} {Q : α → Prop} {xs : List α} {x : α} {k : Nat} (h : ∀ (i : Nat) (y : α), xs[i]? = some y → Q y) (hx : Q x) : ∀ (i : Nat) (y : α), (xs.set k x)[i]? = some y → Q y := by
  intro i y hy
  rw [List.getElem?_set] at hy
  split at hy
  · split at hy
    · cases hy; exact hx
    · cases hy
  · exact h i y hy
theorem issueL_ok : ∀ (ls : List Ly) (left v : Int), okL ls → i64 v → okL (issueL ls left v).1 ∧ i64 (issueL ls left v).2 ∧ (issueL ls left v).1.length ≤ ls.length
  | [], left, v, h, hv => ⟨h, hv, Nat.le_refl _⟩
  | l :: ls, left, v, h, hv => by
    have ht : okL ls := fun i x hx => h (i + 1) x (by simpa using hx)
    unfold issueL
    split
    · exact ⟨h, hv, Nat.le_refl _⟩
    · simp only
      generalize (if l.qty < left then l.qty else left) = q
      split
      · have := issueL_ok ls (W (left - q)) (W (v + takeV l q)) ht (W_i64 _)
        exact ⟨this.1, this.2.1, by simp only [List.length_cons]; omega⟩
      · refine ⟨fun i x hx => ?_, W_i64 _, by simp⟩
        cases i with
        | zero => simp at hx; subst hx; exact takeX_ok _ _
        | succ i => exact ht i x (by simpa using hx)
theorem refd_spec {kind : Int} {m : Mv} {ps : List Pa} {i : Nat} {p : Pa} (h : refd kind m ps = .ok (i, p)) : ps[i]? = some p ∧ isPast kind m.ref p = true ∧ m.qty ≤ W (p.qty - p.used) := by
  unfold refd at h
  split at h
  · cases h
  · rename_i j q hf
    split at h
    · cases h
    · rename_i hlt; cases h; exact ⟨(findI_some hf).1, (findI_some hf).2, by omega⟩
theorem fDo_ok {N : Nat} {s t : Sk} {m : Mv} {c c' : Co} (hs : s.ok N) (hm : m.ok) (h : fDo s m c = .ok (t, c')) : t.ok (N + 1) := by
  have hnl := hs.nl; have hnp := hs.np
  unfold fDo at h
  split at h
  · unfold fRecv at h
    cases h
    exact ⟨by simp; omega, by simp; omega, all_append1 hs.ly ⟨hm.1, hm.2⟩, all_append1 hs.pa ⟨hm.1, hm.2, (show i64 0 by decide), (show i64 0 by decide)⟩, hs.q, hs.v, hs.pr⟩
  split at h
  · unfold fIssue at h
    split at h
    · cases h
    · cases h
      have := issueL_ok s.layers m.qty 0 hs.ly (by decide)
      exact ⟨by simp only; omega, by simp; omega, this.1, all_append1 hs.pa ⟨hm.1, this.2.1, (show i64 0 by decide), (show i64 0 by decide)⟩, hs.q, hs.v, hs.pr⟩
  split at h
  · unfold fBack at h
    split at h
    · cases h
    · rename_i i p hr
      cases h
      obtain ⟨hx, _, _⟩ := refd_spec hr
      have hp := hs.pa i p hx
      have hv : i64 (backV p m) := partN_i64 (W_i64 _) hm.1
      exact ⟨by simp; omega, by simp; omega, all_append1 hs.ly ⟨hm.1, hv⟩, all_set hs.pa ⟨hp.1, hp.2.1, W_i64 _, W_i64 _⟩, hs.q, hs.v, hs.pr⟩
  split at h
  · unfold fSend at h
    split at h
    · cases h
    · rename_i i p hr
      split at h
      · cases h
      · rename_i j l hf
        split at h
        · cases h
        · cases h
          obtain ⟨hx, _, _⟩ := refd_spec hr
          have hp := hs.pa i p hx
          have := @takeL_len s.layers j l m.qty
          exact ⟨by simp only; omega, by simp; omega, takeL_ok hs.ly, all_set hs.pa ⟨hp.1, hp.2.1, W_i64 _, hp.2.2.2⟩, hs.q, hs.v, hs.pr⟩
  split at h
  · unfold fLand at h
    split at h
    · cases h
    · rename_i i p hr
      split at h
      · cases h; exact ⟨by omega, by omega, hs.ly, hs.pa, hs.q, hs.v, hs.pr⟩
      · rename_i j l hf
        cases h
        have hl := hs.ly j l (findI_some hf).1
        exact ⟨by simp; omega, by simp; omega, all_set hs.ly ⟨hl.1, W_i64 _⟩, hs.pa, hs.q, hs.v, hs.pr⟩
  · cases h
theorem summed_ok {N : Nat} {t : Sk} {c : Co} (h : t.ok N) : (summed t c).ok N := ⟨h.nl, h.np, h.ly, h.pa, W_i64 _, W_i64 _, h.pr⟩
theorem one_ne {m : Mv} (h : m.one ≠ 0) : m.one ≠ 0 := h
theorem refd_err {kind : Int} {m : Mv} {ps : List Pa} {e : Int} (h : refd kind m ps = .error e) : e ≠ 0 := by
  unfold refd at h
  split at h
  · cases h; decide
  · split at h
    · cases h; decide
    · cases h
theorem fDo_err {s : Sk} {m : Mv} {c : Co} {e : Int} (h : fDo s m c = .error e) : e ≠ 0 := by
  unfold fDo at h
  split at h
  · cases h
  split at h
  · unfold fIssue at h; split at h
    · cases h; decide
    · cases h
  split at h
  · unfold fBack at h; split at h
    · rename_i e' he; cases h; exact refd_err he
    · cases h
  split at h
  · unfold fSend at h; split at h
    · rename_i e' he; cases h; exact refd_err he
    · split at h
      · cases h; decide
      · split at h
        · cases h; decide
        · cases h
  split at h
  · unfold fLand at h; split at h
    · rename_i e' he; cases h; exact refd_err he
    · split at h <;> cases h
  · cases h; decide
end Go.SL

namespace Go.Proofs.YtdcchollplhioaaGreatDoor
open Go Go.SL Go.Proofs
theorem B28 : BI Tryz.prog 28 [.int .i64 0, .int .i64 0, .int .i64 0, .slice none 0 0, .slice none 0 0] [(0, 1), (1, 1), (2, 1), (3, 1), (4, 1)] := .of (by kernel_rfl) (by kernel_rfl)
theorem B43 : BI Tryz.prog 43 [.int .i64 0, .int .i64 0, .int .i64 0, .int .i64 0] [(0, 1), (1, 1), (2, 1), (3, 1)] := .of (by kernel_rfl) (by kernel_rfl)
theorem B70 : BI Tryz.prog 70 [.int .i64 0, .int .i64 0, .int .i64 0, .slice none 0 0, .slice none 0 0, .int .i64 0, .int .i64 0, .string ⟨#[]⟩, .int .i64 0, .int .i64 0, .int .i64 0, .string ⟨#[]⟩, .int .i64 0, .int .i64 0, .int .i64 0, .int .i64 0, .int .i64 0] [(0, 5), (5, 8), (13, 4)] := .of (by kernel_rfl) (by kernel_rfl)
theorem C29 : CI Tryz.prog 29 := .of (by kernel_rfl)
theorem C30 : CI Tryz.prog 30 := .of (by kernel_rfl)
theorem C32 : CI Tryz.prog 32 := .of (by kernel_rfl)
theorem C33 : CI Tryz.prog 33 := .of (by kernel_rfl)
theorem C34 : CI Tryz.prog 34 := .of (by kernel_rfl)
theorem C35 : CI Tryz.prog 35 := .of (by kernel_rfl)
theorem C36 : CI Tryz.prog 36 := .of (by kernel_rfl)
theorem C37 : CI Tryz.prog 37 := .of (by kernel_rfl)
theorem C38 : CI Tryz.prog 38 := .of (by kernel_rfl)
theorem T43 : TI Tryz.prog 43 true 4 := .of (by kernel_rfl)
theorem Z43 : ZI Tryz.prog 43 [.int .i64 0, .int .i64 0, .int .i64 0, .int .i64 0] := .of (by kernel_rfl)
theorem acd33 (bx : Nat) (t : Sk) (m : Mv) (c : Co) (la : Option Addr) (nl lc : Nat) (pa : Option Addr) (np pc : Nat) (enl : nl = t.layers.length) (enp : np = t.past.length) (ht : t.ok 999999) (hm : m.ok) (hk : m.kind = 1) : AC Tryz.prog 33 ⟨[.pointer (some ⟨bx, 0, none⟩)]⟩ (stars [pt bx (blk (XC t m c la nl lc pa np pc) 70), own 64 4 la nl lc ((t.layers).flatMap Ly.c), own 66 7 pa np pc ((t.past).flatMap Pa.c)]) (Outs (fun _ : Option Addr × Nat × Option Addr × Nat => True) (fun _ => I (errOf (fDo t m c))) (fun x => Aft 70 64 66 bx m (fDo t m c) x)) := by
  rw [fDo_1 hk]; exact ac33 bx t m c la nl lc pa np pc enl enp ht hm
theorem acd34 (bx : Nat) (t : Sk) (m : Mv) (c : Co) (la : Option Addr) (nl lc : Nat) (pa : Option Addr) (np pc : Nat) (enl : nl = t.layers.length) (enp : np = t.past.length) (ht : t.ok 999999) (hm : m.ok) (hk : m.kind = 2) : AC Tryz.prog 34 ⟨[.pointer (some ⟨bx, 0, none⟩)]⟩ (stars [pt bx (blk (XC t m c la nl lc pa np pc) 70), own 64 4 la nl lc ((t.layers).flatMap Ly.c), own 66 7 pa np pc ((t.past).flatMap Pa.c)]) (Outs (fun _ : Option Addr × Nat × Option Addr × Nat => True) (fun _ => I (errOf (fDo t m c))) (fun x => Aft 70 64 66 bx m (fDo t m c) x)) := by
  rw [fDo_2 hk]; exact ac34 bx t m c la nl lc pa np pc enl enp ht hm
theorem acd35 (bx : Nat) (t : Sk) (m : Mv) (c : Co) (la : Option Addr) (nl lc : Nat) (pa : Option Addr) (np pc : Nat) (enl : nl = t.layers.length) (enp : np = t.past.length) (ht : t.ok 999999) (hm : m.ok) (hk : m.kind = 3) : AC Tryz.prog 35 ⟨[.pointer (some ⟨bx, 0, none⟩)]⟩ (stars [pt bx (blk (XC t m c la nl lc pa np pc) 70), own 64 4 la nl lc ((t.layers).flatMap Ly.c), own 66 7 pa np pc ((t.past).flatMap Pa.c)]) (Outs (fun _ : Option Addr × Nat × Option Addr × Nat => True) (fun _ => I (errOf (fDo t m c))) (fun x => Aft 70 64 66 bx m (fDo t m c) x)) := by
  rw [fDo_3 hk]; exact ac35 bx t m c la nl lc pa np pc enl enp ht hm
theorem acd36 (bx : Nat) (t : Sk) (m : Mv) (c : Co) (la : Option Addr) (nl lc : Nat) (pa : Option Addr) (np pc : Nat) (enl : nl = t.layers.length) (enp : np = t.past.length) (ht : t.ok 999999) (hm : m.ok) (hk : m.kind = 4) : AC Tryz.prog 36 ⟨[.pointer (some ⟨bx, 0, none⟩)]⟩ (stars [pt bx (blk (XC t m c la nl lc pa np pc) 70), own 64 4 la nl lc ((t.layers).flatMap Ly.c), own 66 7 pa np pc ((t.past).flatMap Pa.c)]) (Outs (fun _ : Option Addr × Nat × Option Addr × Nat => True) (fun _ => I (errOf (fDo t m c))) (fun x => Aft 70 64 66 bx m (fDo t m c) x)) := by
  rw [fDo_4 hk]; exact ac36 bx t m c la nl lc pa np pc enl enp ht hm
theorem acd37 (bx : Nat) (t : Sk) (m : Mv) (c : Co) (la : Option Addr) (nl lc : Nat) (pa : Option Addr) (np pc : Nat) (enl : nl = t.layers.length) (enp : np = t.past.length) (ht : t.ok 999999) (hm : m.ok) (hk : m.kind = 5) : AC Tryz.prog 37 ⟨[.pointer (some ⟨bx, 0, none⟩)]⟩ (stars [pt bx (blk (XC t m c la nl lc pa np pc) 70), own 64 4 la nl lc ((t.layers).flatMap Ly.c), own 66 7 pa np pc ((t.past).flatMap Pa.c)]) (Outs (fun _ : Option Addr × Nat × Option Addr × Nat => True) (fun _ => I (errOf (fDo t m c))) (fun x => Aft 70 64 66 bx m (fDo t m c) x)) := by
  rw [fDo_5 hk]; exact ac37 bx t m c la nl lc pa np pc enl enp ht hm
theorem acd32 (A : HP) (t : Sk) (m : Mv) (c : Co) (hk : ¬ m.kind = 1 ∧ ¬ m.kind = 2 ∧ ¬ m.kind = 3 ∧ ¬ m.kind = 4 ∧ ¬ m.kind = 5) : AC Tryz.prog 32 ⟨[]⟩ A (Outs (fun _ : Option Addr × Nat × Option Addr × Nat => True) (fun _ => I (errOf (fDo t m c))) (fun x => Aft 70 64 66 0 m (fDo t m c) x)) := by
  rw [fDo_0 hk]; exact AC.drop ac32 fun r h hh => ⟨(none, 0, none, 0), ⟨trivial, hh.1⟩, hh.2⟩
-- fifo.Step
theorem ac20 (s : Sk) (m : Mv) (la : Option Addr) (lc : Nat) (pa : Option Addr) (pc : Nat) (RL RP : HP) (hs : s.ok 999999) (hm : m.ok) (hRL : RdS RL la (s.layers.flatMap Ly.c)) (hRP : RdS RP pa (s.past.flatMap Pa.c)) (R0 : HP) (hR0 : Rd R0 ⟨0, 0, none⟩ lensC) : AC Tryz.prog 20 ⟨[.agg ⟨s.c la lc pa pc⟩, .agg ⟨m.c⟩]⟩ (stars [RL, RP, R0]) (Outs (fun _ : Option Addr × Nat × Option Addr × Nat => True) (fun x => StV (fStep s m) x) (fun x => StB 64 66 (fStep s m) x ++ [RL, RP, R0])) := by
  have hn : s.layers.length ≤ 1000000 ∧ s.past.length ≤ 1000000 := ⟨Nat.le_trans hs.nl (by decide), Nat.le_trans hs.np (by decide)⟩
  refine AC.go Tryz.func20 rfl (Nat.le_of_ble_eq_true rfl) fun β => ?_
  refine sr ?_
  refine RunL.op rfl rfl (OpJ.boxA rfl fun b2 => ?_)
  refine RunL.op rfl rfl (OpJ.boxA rfl fun b3 => ?_)
  refine RunL.op rfl rfl (OpJ.alloc Z28 fun b4 => ?_)
  refine RunL.op rfl rfl (OpJ.alloc Z43 fun b5 => ?_)
  refine asg rfl rfl ?_
  refine kp [2, 3, 4, 5] rfl ?_
  refine Run.seq ?_
  refine regionD HM ?_
  first | refine RunD.takeW 0 rfl rfl kr T28 rfl pk (by rfl) ?_ | refine RunD.takeP 0 rfl rfl kr T28 rfl pk (by simp) ?_ | refine RunD.takeE 0 rfl rfl kr T28 rfl pk (by assumption) (by exact fun _ => rfl) rfl (by decide) ?_
  first | refine RunD.takeW 2 rfl rfl kr T47 rfl pk (by rfl) ?_ | refine RunD.takeP 2 rfl rfl kr T47 rfl pk (by simp) ?_ | refine RunD.takeE 2 rfl rfl kr T47 rfl pk (by assumption) (by exact fun _ => rfl) rfl (by decide) ?_
  refine tk 3 rfl rfl rfl (DetJ.fieldAddr F47_0 rfl) ?_
  first | refine RunD.takeF 4 rfl rfl kr T3 rfl pk (by rfl) ?_ | refine RunD.takeO 4 rfl rfl kr T3 rfl pk (by assumption) (by rfl) (by exact fun _ => rfl) ?_
  refine RunD.takeB 5 rfl rfl kr B43 rfl rfl fun cs hcs => ?_
  simp only [Sk.c, Mv.c, Co.c, bldL, bldA, Value.cells, bs, Nat.reduceAdd, Nat.reduceLeDiff, Nat.reduceLT] at hcs; subst hcs
  refine RunD.op 1 [true, true, true, true, false] rfl rfl rfl kr kr (OpJ.callOuts C29 rfl rfl (ac29 s la lc pa pc RL RP ⟨Nat.le_trans hs.nl (by decide), Nat.le_trans hs.np (by decide), hs.ly, hs.pa, hs.q, hs.v, hs.pr⟩ hRL hRP) tks fun ⟨bl, bp⟩ _ => ⟨po, ?_⟩)
  refine RunD.takeB 6 rfl rfl kr B70 rfl rfl fun cs hcs => ?_
  simp only [Sk.c, Mv.c, Co.c, bldL, bldA, Value.cells, bs, Nat.reduceAdd, Nat.reduceLeDiff, Nat.reduceLT] at hcs; subst hcs
  refine RunD.op 7 [false, false, false, true, false] rfl rfl rfl kr kr (OpJ.boxA rfl fun b18 => ⟨po, ?_⟩)
  refine tk 8 rfl rfl rfl (DetJ.assign rfl) ?_
  refine kd [3, 4, 5, 7] rfl ?_
  refine Run.seq ?_
  refine sr ?_
  first | refine RunL.op rfl rfl (OpJ.loadW T47 rfl pk (by rfl) ?_) | refine RunL.op rfl rfl (OpJ.loadP T47 rfl pk (by simp) ?_) | refine RunL.op rfl rfl (OpJ.loadE T47 rfl pk (by assumption) (by exact fun _ => rfl) rfl (by decide) ?_)
  refine RunL.call C30 rfl rfl rfl (ac30 _ _ hR0) tks ?_
  refine asg rfl rfl ?_
  refine kp [3, 4, 5, 7, 8] rfl ?_
  refine sr ?_
  refine mvo rfl rfl ?_
  refine RunL.op rfl rfl (OpJ.neq rfl rfl ?_)
  refine kp [3, 4, 5, 7, 8, 22] rfl ?_
  first | refine Run.if rfl (fun h1 => ?_) (fun h1 => ?_) | refine Run.cond rfl (fun h1 => ?_) (fun h1 => ?_)
  · skip
    refine sr ?_
    refine RunL.op rfl rfl (OpJ.build B28 rfl rfl fun cs hcs => ?_)
    simp only [Sk.c, Mv.c, Co.c, bldL, bldA, Value.cells, bs, Nat.reduceAdd, Nat.reduceLeDiff, Nat.reduceLT] at hcs; subst hcs
    refine RunL.op rfl rfl (OpJ.build B43 rfl rfl fun cs hcs => ?_)
    simp only [Sk.c, Mv.c, Co.c, bldL, bldA, Value.cells, bs, Nat.reduceAdd, Nat.reduceLeDiff, Nat.reduceLT] at hcs; subst hcs
    refine mvo rfl rfl ?_
    refine RunL.op rfl rfl (OpJ.storeW T28 rfl rfl rfl rfl (by simp [Value.oneCell', Pa.c, Ly.c, Mv.c, Co.c]) up ?_)
    refine RunL.op rfl rfl (OpJ.storeW T43 rfl rfl rfl rfl (by simp [Value.oneCell', Pa.c, Ly.c, Mv.c, Co.c]) up ?_)
    refine asg rfl rfl ?_
    refine kp [4, 5, 6] rfl ?_
    refine Run.ret ?_
    have hres2 : fStep s m = .error m.one := (by unfold fStep; rw [if_pos h1]); refine ret_out (none, 0, none, 0) (.cellA T28 rfl pk (by rfl) (.cellA T43 rfl pk (by rfl) (.tmp rfl .nil))) trivial (by rw [hres2]; rfl) ?_; rw [hres2]; exact gv
  · skip
    refine Run.skip ?_
    refine Run.seq ?_
    refine sr ?_
    refine mvo rfl rfl ?_
    refine RunL.op rfl rfl (OpJ.fieldAddr F47_0 rfl ?_)
    first | refine RunL.op rfl rfl (OpJ.loadF T3 rfl pk (by rfl) ?_) | refine RunL.op rfl rfl (OpJ.loadO T3 rfl pk (by assumption) (by rfl) (by exact fun _ => rfl) ?_)
    refine RunL.call C31 rfl rfl rfl (ac31 b18 s m ⟨m.seq, 0, 0, 0⟩ _ _ _ _ _ _ 0 m.seq rfl rfl hn) tks ?_
    refine RunL.op rfl rfl (OpJ.neqNil U71 rfl ?_)
    refine kp [3, 4, 5, 7, 30] rfl ?_
    first | refine Run.if rfl (fun h2 => ?_) (fun h2 => ?_) | refine Run.cond rfl (fun h2 => ?_) (fun h2 => ?_)
    · skip
      refine sr ?_
      refine RunL.op rfl rfl (OpJ.build B28 rfl rfl fun cs hcs => ?_)
      simp only [Sk.c, Mv.c, Co.c, bldL, bldA, Value.cells, bs, Nat.reduceAdd, Nat.reduceLeDiff, Nat.reduceLT] at hcs; subst hcs
      refine RunL.op rfl rfl (OpJ.build B43 rfl rfl fun cs hcs => ?_)
      simp only [Sk.c, Mv.c, Co.c, bldL, bldA, Value.cells, bs, Nat.reduceAdd, Nat.reduceLeDiff, Nat.reduceLT] at hcs; subst hcs
      refine RunL.op rfl rfl (OpJ.storeW T28 rfl rfl rfl rfl (by simp [Value.oneCell', Pa.c, Ly.c, Mv.c, Co.c]) up ?_)
      refine RunL.op rfl rfl (OpJ.storeW T43 rfl rfl rfl rfl (by simp [Value.oneCell', Pa.c, Ly.c, Mv.c, Co.c]) up ?_)
      refine asg rfl rfl ?_
      refine kp [4, 5, 6] rfl ?_
      refine Run.ret ?_
      have hres2 : fStep s m = .error 8 := (by unfold fStep; rw [if_neg h1, if_pos (by rw [← ptrOf_isSome (a := ⟨bp, 0, none⟩) (k := 7)]; exact h2)]); refine ret_out (none, 0, none, 0) (.cellA T28 rfl pk (by rfl) (.cellA T43 rfl pk (by rfl) (.tmp rfl .nil))) trivial (by rw [hres2]; rfl) ?_; rw [hres2]; exact gv
    · skip
      refine Run.skip ?_
      refine sr ?_
      refine asg rfl rfl ?_
      refine kp [3, 4, 5, 7, 9] rfl ?_
      refine Run.seq ?_
      refine sr ?_
      refine RunL.op rfl rfl (OpJ.fieldAddr F47_3 rfl ?_)
      first | refine RunL.op rfl rfl (OpJ.loadF T3 rfl pk (by rfl) ?_) | refine RunL.op rfl rfl (OpJ.loadO T3 rfl pk (by assumption) (by rfl) (by exact fun _ => rfl) ?_)
      refine kp [4, 5, 7, 9, 34] rfl ?_
      refine Run.block ?_
      refine sr ?_
      refine RunL.op rfl rfl (OpJ.eql rfl rfl ?_)
      refine asg rfl rfl ?_
      refine kp [4, 5, 7, 9, 34, 35] rfl ?_
      first | refine Run.if rfl (fun h3 => ?_) (fun h3 => ?_) | refine Run.cond rfl (fun h3 => ?_) (fun h3 => ?_)
      · skip
        refine Run.region ?_
        refine mvo rfl rfl ?_
        refine RunL.op rfl rfl (OpJ.makeFunc rfl rfl ?_)
        refine asg rfl rfl ?_
        refine kp [4, 5, 7, 9] rfl ?_
        refine Run.seq ?_
        refine sr ?_
        refine mvo rfl rfl ?_
        refine RunL.callX C33 rfl rfl rfl (acd33 b18 s m ⟨m.seq, 0, 0, 0⟩ _ _ _ _ _ _ rfl rfl hs hm (by assumption)) tks fun ⟨la2, lc2, pa2, pc2⟩ _ => ?_
        rcases hres : fDo s m ⟨m.seq, 0, 0, 0⟩ with e | ⟨t, c⟩
        · skip
          refine asg rfl rfl ?_
          refine kp [4, 5, 7, 10] rfl ?_
          refine sr ?_
          refine mvo rfl rfl ?_
          refine RunL.op rfl rfl (OpJ.neq rfl rfl ?_)
          first | refine RunL.set (congrArg Value.bool (decide_eq_true (show errOf (Except.error _) ≠ 0 from fDo_err hres))) ?_ | skip
          refine kp [4, 5, 7, 10, 58] rfl ?_
          refine Run.true rfl ?_
          refine sr ?_
          refine RunL.op rfl rfl (OpJ.build B28 rfl rfl fun cs hcs => ?_)
          simp only [Sk.c, Mv.c, Co.c, bldL, bldA, Value.cells, bs, Nat.reduceAdd, Nat.reduceLeDiff, Nat.reduceLT] at hcs; subst hcs
          refine RunL.op rfl rfl (OpJ.build B43 rfl rfl fun cs hcs => ?_)
          simp only [Sk.c, Mv.c, Co.c, bldL, bldA, Value.cells, bs, Nat.reduceAdd, Nat.reduceLeDiff, Nat.reduceLT] at hcs; subst hcs
          refine mvo rfl rfl ?_
          refine RunL.op rfl rfl (OpJ.storeW T28 rfl rfl rfl rfl (by simp [Value.oneCell', Pa.c, Ly.c, Mv.c, Co.c]) up ?_)
          refine RunL.op rfl rfl (OpJ.storeW T43 rfl rfl rfl rfl (by simp [Value.oneCell', Pa.c, Ly.c, Mv.c, Co.c]) up ?_)
          refine asg rfl rfl ?_
          refine kp [4, 5, 6] rfl ?_
          refine Run.ret ?_
          have hres2 : fStep s m = .error e := (by unfold fStep; rw [if_neg h1, if_neg (by rw [← ptrOf_isSome (a := ⟨bp, 0, none⟩) (k := 7)]; simp [h2]), hres]); refine ret_out (none, 0, none, 0) (.cellA T28 rfl pk (by rfl) (.cellA T43 rfl pk (by rfl) (.tmp rfl .nil))) trivial (by rw [hres2]; rfl) ?_; rw [hres2]; exact gv
        · skip
          have hto := fDo_ok hs hm hres
          have hnt : (summed t c).layers.length ≤ 1000000 ∧ (summed t c).past.length ≤ 1000000 := ⟨hto.nl, hto.np⟩
          refine asg rfl rfl ?_
          refine kp [4, 5, 7, 10] rfl ?_
          refine sr ?_
          refine mvo rfl rfl ?_
          refine RunL.op rfl rfl (OpJ.neq rfl rfl ?_)
          first | refine RunL.set (congrArg Value.bool (decide_eq_true (show errOf (Except.error _) ≠ 0 from fDo_err hres))) ?_ | skip
          refine kp [4, 5, 7, 10, 58] rfl ?_
          refine Run.false rfl ?_
          refine Run.skip ?_
          refine Run.seq ?_
          refine regionD HM ?_
          refine tk 0 rfl rfl rfl (DetJ.move rfl) ?_
          refine tk 1 rfl rfl rfl (DetJ.nilCheck rfl) ?_
          refine tk 2 rfl rfl rfl (DetJ.fieldAddr F70_0 rfl) ?_
          refine tk 3 rfl rfl rfl (DetJ.fieldAddr F28_0 rfl) ?_
          first | refine RunD.takeF 4 rfl rfl kr T3 rfl pk (by rfl) ?_ | refine RunD.takeO 4 rfl rfl kr T3 rfl pk (by assumption) (by rfl) (by exact fun _ => rfl) ?_
          refine tk 5 rfl rfl rfl (DetJ.move rfl) ?_
          refine tk 6 rfl rfl rfl (DetJ.nilCheck rfl) ?_
          refine tk 7 rfl rfl rfl (DetJ.fieldAddr F70_2 rfl) ?_
          refine tk 8 rfl rfl rfl (DetJ.fieldAddr F43_1 rfl) ?_
          first | refine RunD.takeF 9 rfl rfl kr T3 rfl pk (by rfl) ?_ | refine RunD.takeO 9 rfl rfl kr T3 rfl pk (by assumption) (by rfl) (by exact fun _ => rfl) ?_
          refine tk 10 rfl rfl rfl (DetJ.add rfl rfl) ?_
          refine tk 11 rfl rfl rfl (DetJ.nilCheck rfl) ?_
          refine tk 12 rfl rfl rfl (DetJ.fieldAddr F70_0 rfl) ?_
          refine tk 13 rfl rfl rfl (DetJ.fieldAddr F28_0 rfl) ?_
          refine RunD.op 14 [false, false, false, false, false, false, false, false, false, false, false, false, false, false] rfl rfl rfl kr kr (OpJ.store1 T3 rfl rfl rfl up (by simp) ⟨po, ?_⟩)
          refine kd [4, 5, 7] rfl ?_
          refine Run.seq ?_
          refine regionD HM ?_
          refine tk 0 rfl rfl rfl (DetJ.move rfl) ?_
          refine tk 1 rfl rfl rfl (DetJ.nilCheck rfl) ?_
          refine tk 2 rfl rfl rfl (DetJ.fieldAddr F70_0 rfl) ?_
          refine tk 3 rfl rfl rfl (DetJ.fieldAddr F28_1 rfl) ?_
          first | refine RunD.takeF 4 rfl rfl kr T3 rfl pk (by rfl) ?_ | refine RunD.takeO 4 rfl rfl kr T3 rfl pk (by assumption) (by rfl) (by exact fun _ => rfl) ?_
          refine tk 5 rfl rfl rfl (DetJ.move rfl) ?_
          refine tk 6 rfl rfl rfl (DetJ.nilCheck rfl) ?_
          refine tk 7 rfl rfl rfl (DetJ.fieldAddr F70_2 rfl) ?_
          refine tk 8 rfl rfl rfl (DetJ.fieldAddr F43_2 rfl) ?_
          first | refine RunD.takeF 9 rfl rfl kr T3 rfl pk (by rfl) ?_ | refine RunD.takeO 9 rfl rfl kr T3 rfl pk (by assumption) (by rfl) (by exact fun _ => rfl) ?_
          refine tk 10 rfl rfl rfl (DetJ.add rfl rfl) ?_
          refine tk 11 rfl rfl rfl (DetJ.nilCheck rfl) ?_
          refine tk 12 rfl rfl rfl (DetJ.fieldAddr F70_0 rfl) ?_
          refine tk 13 rfl rfl rfl (DetJ.fieldAddr F28_1 rfl) ?_
          refine RunD.op 14 [false, false, false, false, false, false, false, false, false, false, false, false, false, false] rfl rfl rfl kr kr (OpJ.store1 T3 rfl rfl rfl up (by simp) ⟨po, ?_⟩)
          refine kd [4, 5, 7] rfl ?_
          refine Run.seq ?_
          refine sr ?_
          refine mvo rfl rfl ?_
          refine RunL.call C38 rfl rfl rfl (ac38 b18 (summed t c) m c _ _ _ _ _ _ rfl rfl hnt) tks ?_
          refine kp [4, 5, 7, 91] rfl ?_
          first | refine Run.if rfl (fun h4 => ?_) (fun h4 => ?_) | refine Run.cond rfl (fun h4 => ?_) (fun h4 => ?_)
          · skip
            refine sr ?_
            refine RunL.op rfl rfl (OpJ.build B28 rfl rfl fun cs hcs => ?_)
            simp only [Sk.c, Mv.c, Co.c, bldL, bldA, Value.cells, bs, Nat.reduceAdd, Nat.reduceLeDiff, Nat.reduceLT] at hcs; subst hcs
            refine RunL.op rfl rfl (OpJ.build B43 rfl rfl fun cs hcs => ?_)
            simp only [Sk.c, Mv.c, Co.c, bldL, bldA, Value.cells, bs, Nat.reduceAdd, Nat.reduceLeDiff, Nat.reduceLT] at hcs; subst hcs
            refine RunL.op rfl rfl (OpJ.storeW T28 rfl rfl rfl rfl (by simp [Value.oneCell', Pa.c, Ly.c, Mv.c, Co.c]) up ?_)
            refine RunL.op rfl rfl (OpJ.storeW T43 rfl rfl rfl rfl (by simp [Value.oneCell', Pa.c, Ly.c, Mv.c, Co.c]) up ?_)
            refine asg rfl rfl ?_
            refine kp [4, 5, 6] rfl ?_
            refine Run.ret ?_
            have hres2 : fStep s m = .error 4 := (by unfold fStep; rw [if_neg h1, if_neg (by rw [← ptrOf_isSome (a := ⟨bp, 0, none⟩) (k := 7)]; simp [h2]), hres]; exact if_pos (by assumption)); refine ret_out (none, 0, none, 0) (.cellA T28 rfl pk (by rfl) (.cellA T43 rfl pk (by rfl) (.tmp rfl .nil))) trivial (by rw [hres2]; rfl) ?_; rw [hres2]; exact gv
          · skip
            refine Run.skip ?_
            refine Run.seq ?_
            refine regionD HM ?_
            refine tk 0 rfl rfl rfl (DetJ.move rfl) ?_
            refine tk 1 rfl rfl rfl (DetJ.nilCheck rfl) ?_
            refine tk 2 rfl rfl rfl (DetJ.fieldAddr F70_0 rfl) ?_
            first | refine RunD.takeW 3 rfl rfl kr T28 rfl pk (by rfl) ?_ | refine RunD.takeP 3 rfl rfl kr T28 rfl pk (by simp) ?_ | refine RunD.takeE 3 rfl rfl kr T28 rfl pk (by assumption) (by exact fun _ => rfl) rfl (by decide) ?_
            refine tk 4 rfl rfl rfl (DetJ.move rfl) ?_
            refine tk 5 rfl rfl rfl (DetJ.nilCheck rfl) ?_
            refine tk 6 rfl rfl rfl (DetJ.fieldAddr F70_2 rfl) ?_
            first | refine RunD.takeW 7 rfl rfl kr T43 rfl pk (by rfl) ?_ | refine RunD.takeP 7 rfl rfl kr T43 rfl pk (by simp) ?_ | refine RunD.takeE 7 rfl rfl kr T43 rfl pk (by assumption) (by exact fun _ => rfl) rfl (by decide) ?_
            refine RunD.op 8 [true, true, true, true, false, false, false, false] rfl rfl rfl kr kr (OpJ.storeW T28 rfl rfl rfl rfl (by simp [Value.oneCell', Pa.c, Ly.c, Mv.c, Co.c]) up ⟨po, ?_⟩)
            refine RunD.op 9 [false, false, false, false] rfl rfl rfl kr kr (OpJ.storeW T43 rfl rfl rfl rfl (by simp [Value.oneCell', Pa.c, Ly.c, Mv.c, Co.c]) up ⟨po, ?_⟩)
            refine tk 10 rfl rfl rfl (DetJ.assign rfl) ?_
            refine kd [4, 5, 6] rfl ?_
            refine Run.ret ?_
            have hres2 : fStep s m = .ok (summed t c, c) := (by unfold fStep; rw [if_neg h1, if_neg (by rw [← ptrOf_isSome (a := ⟨bp, 0, none⟩) (k := 7)]; simp [h2]), hres]; exact if_neg (by simp only [*]; decide)); refine ret_out (la2, lc2, pa2, pc2) (.cellA T28 rfl pk (by rfl) (.cellA T43 rfl pk (by rfl) (.tmp rfl .nil))) trivial (by rw [hres2]; rfl) ?_; rw [hres2]; exact gv
      · skip
        refine sr ?_
        refine RunL.op rfl rfl (OpJ.eql rfl rfl ?_)
        refine asg rfl rfl ?_
        refine kp [4, 5, 7, 9, 34, 39] rfl ?_
        first | refine Run.if rfl (fun h5 => ?_) (fun h5 => ?_) | refine Run.cond rfl (fun h5 => ?_) (fun h5 => ?_)
        · skip
          refine Run.region ?_
          refine mvo rfl rfl ?_
          refine RunL.op rfl rfl (OpJ.makeFunc rfl rfl ?_)
          refine asg rfl rfl ?_
          refine kp [4, 5, 7, 9] rfl ?_
          refine Run.seq ?_
          refine sr ?_
          refine mvo rfl rfl ?_
          refine RunL.callX C34 rfl rfl rfl (acd34 b18 s m ⟨m.seq, 0, 0, 0⟩ _ _ _ _ _ _ rfl rfl hs hm (by assumption)) tks fun ⟨la2, lc2, pa2, pc2⟩ _ => ?_
          rcases hres : fDo s m ⟨m.seq, 0, 0, 0⟩ with e | ⟨t, c⟩
          · skip
            refine asg rfl rfl ?_
            refine kp [4, 5, 7, 10] rfl ?_
            refine sr ?_
            refine mvo rfl rfl ?_
            refine RunL.op rfl rfl (OpJ.neq rfl rfl ?_)
            first | refine RunL.set (congrArg Value.bool (decide_eq_true (show errOf (Except.error _) ≠ 0 from fDo_err hres))) ?_ | skip
            refine kp [4, 5, 7, 10, 58] rfl ?_
            refine Run.true rfl ?_
            refine sr ?_
            refine RunL.op rfl rfl (OpJ.build B28 rfl rfl fun cs hcs => ?_)
            simp only [Sk.c, Mv.c, Co.c, bldL, bldA, Value.cells, bs, Nat.reduceAdd, Nat.reduceLeDiff, Nat.reduceLT] at hcs; subst hcs
            refine RunL.op rfl rfl (OpJ.build B43 rfl rfl fun cs hcs => ?_)
            simp only [Sk.c, Mv.c, Co.c, bldL, bldA, Value.cells, bs, Nat.reduceAdd, Nat.reduceLeDiff, Nat.reduceLT] at hcs; subst hcs
            refine mvo rfl rfl ?_
            refine RunL.op rfl rfl (OpJ.storeW T28 rfl rfl rfl rfl (by simp [Value.oneCell', Pa.c, Ly.c, Mv.c, Co.c]) up ?_)
            refine RunL.op rfl rfl (OpJ.storeW T43 rfl rfl rfl rfl (by simp [Value.oneCell', Pa.c, Ly.c, Mv.c, Co.c]) up ?_)
            refine asg rfl rfl ?_
            refine kp [4, 5, 6] rfl ?_
            refine Run.ret ?_
            have hres2 : fStep s m = .error e := (by unfold fStep; rw [if_neg h1, if_neg (by rw [← ptrOf_isSome (a := ⟨bp, 0, none⟩) (k := 7)]; simp [h2]), hres]); refine ret_out (none, 0, none, 0) (.cellA T28 rfl pk (by rfl) (.cellA T43 rfl pk (by rfl) (.tmp rfl .nil))) trivial (by rw [hres2]; rfl) ?_; rw [hres2]; exact gv
          · skip
            have hto := fDo_ok hs hm hres
            have hnt : (summed t c).layers.length ≤ 1000000 ∧ (summed t c).past.length ≤ 1000000 := ⟨hto.nl, hto.np⟩
            refine asg rfl rfl ?_
            refine kp [4, 5, 7, 10] rfl ?_
            refine sr ?_
            refine mvo rfl rfl ?_
            refine RunL.op rfl rfl (OpJ.neq rfl rfl ?_)
            first | refine RunL.set (congrArg Value.bool (decide_eq_true (show errOf (Except.error _) ≠ 0 from fDo_err hres))) ?_ | skip
            refine kp [4, 5, 7, 10, 58] rfl ?_
            refine Run.false rfl ?_
            refine Run.skip ?_
            refine Run.seq ?_
            refine regionD HM ?_
            refine tk 0 rfl rfl rfl (DetJ.move rfl) ?_
            refine tk 1 rfl rfl rfl (DetJ.nilCheck rfl) ?_
            refine tk 2 rfl rfl rfl (DetJ.fieldAddr F70_0 rfl) ?_
            refine tk 3 rfl rfl rfl (DetJ.fieldAddr F28_0 rfl) ?_
            first | refine RunD.takeF 4 rfl rfl kr T3 rfl pk (by rfl) ?_ | refine RunD.takeO 4 rfl rfl kr T3 rfl pk (by assumption) (by rfl) (by exact fun _ => rfl) ?_
            refine tk 5 rfl rfl rfl (DetJ.move rfl) ?_
            refine tk 6 rfl rfl rfl (DetJ.nilCheck rfl) ?_
            refine tk 7 rfl rfl rfl (DetJ.fieldAddr F70_2 rfl) ?_
            refine tk 8 rfl rfl rfl (DetJ.fieldAddr F43_1 rfl) ?_
            first | refine RunD.takeF 9 rfl rfl kr T3 rfl pk (by rfl) ?_ | refine RunD.takeO 9 rfl rfl kr T3 rfl pk (by assumption) (by rfl) (by exact fun _ => rfl) ?_
            refine tk 10 rfl rfl rfl (DetJ.add rfl rfl) ?_
            refine tk 11 rfl rfl rfl (DetJ.nilCheck rfl) ?_
            refine tk 12 rfl rfl rfl (DetJ.fieldAddr F70_0 rfl) ?_
            refine tk 13 rfl rfl rfl (DetJ.fieldAddr F28_0 rfl) ?_
            refine RunD.op 14 [false, false, false, false, false, false, false, false, false, false, false, false, false, false] rfl rfl rfl kr kr (OpJ.store1 T3 rfl rfl rfl up (by simp) ⟨po, ?_⟩)
            refine kd [4, 5, 7] rfl ?_
            refine Run.seq ?_
            refine regionD HM ?_
            refine tk 0 rfl rfl rfl (DetJ.move rfl) ?_
            refine tk 1 rfl rfl rfl (DetJ.nilCheck rfl) ?_
            refine tk 2 rfl rfl rfl (DetJ.fieldAddr F70_0 rfl) ?_
            refine tk 3 rfl rfl rfl (DetJ.fieldAddr F28_1 rfl) ?_
            first | refine RunD.takeF 4 rfl rfl kr T3 rfl pk (by rfl) ?_ | refine RunD.takeO 4 rfl rfl kr T3 rfl pk (by assumption) (by rfl) (by exact fun _ => rfl) ?_
            refine tk 5 rfl rfl rfl (DetJ.move rfl) ?_
            refine tk 6 rfl rfl rfl (DetJ.nilCheck rfl) ?_
            refine tk 7 rfl rfl rfl (DetJ.fieldAddr F70_2 rfl) ?_
            refine tk 8 rfl rfl rfl (DetJ.fieldAddr F43_2 rfl) ?_
            first | refine RunD.takeF 9 rfl rfl kr T3 rfl pk (by rfl) ?_ | refine RunD.takeO 9 rfl rfl kr T3 rfl pk (by assumption) (by rfl) (by exact fun _ => rfl) ?_
            refine tk 10 rfl rfl rfl (DetJ.add rfl rfl) ?_
            refine tk 11 rfl rfl rfl (DetJ.nilCheck rfl) ?_
            refine tk 12 rfl rfl rfl (DetJ.fieldAddr F70_0 rfl) ?_
            refine tk 13 rfl rfl rfl (DetJ.fieldAddr F28_1 rfl) ?_
            refine RunD.op 14 [false, false, false, false, false, false, false, false, false, false, false, false, false, false] rfl rfl rfl kr kr (OpJ.store1 T3 rfl rfl rfl up (by simp) ⟨po, ?_⟩)
            refine kd [4, 5, 7] rfl ?_
            refine Run.seq ?_
            refine sr ?_
            refine mvo rfl rfl ?_
            refine RunL.call C38 rfl rfl rfl (ac38 b18 (summed t c) m c _ _ _ _ _ _ rfl rfl hnt) tks ?_
            refine kp [4, 5, 7, 91] rfl ?_
            first | refine Run.if rfl (fun h6 => ?_) (fun h6 => ?_) | refine Run.cond rfl (fun h6 => ?_) (fun h6 => ?_)
            · skip
              refine sr ?_
              refine RunL.op rfl rfl (OpJ.build B28 rfl rfl fun cs hcs => ?_)
              simp only [Sk.c, Mv.c, Co.c, bldL, bldA, Value.cells, bs, Nat.reduceAdd, Nat.reduceLeDiff, Nat.reduceLT] at hcs; subst hcs
              refine RunL.op rfl rfl (OpJ.build B43 rfl rfl fun cs hcs => ?_)
              simp only [Sk.c, Mv.c, Co.c, bldL, bldA, Value.cells, bs, Nat.reduceAdd, Nat.reduceLeDiff, Nat.reduceLT] at hcs; subst hcs
              refine RunL.op rfl rfl (OpJ.storeW T28 rfl rfl rfl rfl (by simp [Value.oneCell', Pa.c, Ly.c, Mv.c, Co.c]) up ?_)
              refine RunL.op rfl rfl (OpJ.storeW T43 rfl rfl rfl rfl (by simp [Value.oneCell', Pa.c, Ly.c, Mv.c, Co.c]) up ?_)
              refine asg rfl rfl ?_
              refine kp [4, 5, 6] rfl ?_
              refine Run.ret ?_
              have hres2 : fStep s m = .error 4 := (by unfold fStep; rw [if_neg h1, if_neg (by rw [← ptrOf_isSome (a := ⟨bp, 0, none⟩) (k := 7)]; simp [h2]), hres]; exact if_pos (by assumption)); refine ret_out (none, 0, none, 0) (.cellA T28 rfl pk (by rfl) (.cellA T43 rfl pk (by rfl) (.tmp rfl .nil))) trivial (by rw [hres2]; rfl) ?_; rw [hres2]; exact gv
            · skip
              refine Run.skip ?_
              refine Run.seq ?_
              refine regionD HM ?_
              refine tk 0 rfl rfl rfl (DetJ.move rfl) ?_
              refine tk 1 rfl rfl rfl (DetJ.nilCheck rfl) ?_
              refine tk 2 rfl rfl rfl (DetJ.fieldAddr F70_0 rfl) ?_
              first | refine RunD.takeW 3 rfl rfl kr T28 rfl pk (by rfl) ?_ | refine RunD.takeP 3 rfl rfl kr T28 rfl pk (by simp) ?_ | refine RunD.takeE 3 rfl rfl kr T28 rfl pk (by assumption) (by exact fun _ => rfl) rfl (by decide) ?_
              refine tk 4 rfl rfl rfl (DetJ.move rfl) ?_
              refine tk 5 rfl rfl rfl (DetJ.nilCheck rfl) ?_
              refine tk 6 rfl rfl rfl (DetJ.fieldAddr F70_2 rfl) ?_
              first | refine RunD.takeW 7 rfl rfl kr T43 rfl pk (by rfl) ?_ | refine RunD.takeP 7 rfl rfl kr T43 rfl pk (by simp) ?_ | refine RunD.takeE 7 rfl rfl kr T43 rfl pk (by assumption) (by exact fun _ => rfl) rfl (by decide) ?_
              refine RunD.op 8 [true, true, true, true, false, false, false, false] rfl rfl rfl kr kr (OpJ.storeW T28 rfl rfl rfl rfl (by simp [Value.oneCell', Pa.c, Ly.c, Mv.c, Co.c]) up ⟨po, ?_⟩)
              refine RunD.op 9 [false, false, false, false] rfl rfl rfl kr kr (OpJ.storeW T43 rfl rfl rfl rfl (by simp [Value.oneCell', Pa.c, Ly.c, Mv.c, Co.c]) up ⟨po, ?_⟩)
              refine tk 10 rfl rfl rfl (DetJ.assign rfl) ?_
              refine kd [4, 5, 6] rfl ?_
              refine Run.ret ?_
              have hres2 : fStep s m = .ok (summed t c, c) := (by unfold fStep; rw [if_neg h1, if_neg (by rw [← ptrOf_isSome (a := ⟨bp, 0, none⟩) (k := 7)]; simp [h2]), hres]; exact if_neg (by simp only [*]; decide)); refine ret_out (la2, lc2, pa2, pc2) (.cellA T28 rfl pk (by rfl) (.cellA T43 rfl pk (by rfl) (.tmp rfl .nil))) trivial (by rw [hres2]; rfl) ?_; rw [hres2]; exact gv
        · skip
          refine sr ?_
          refine RunL.op rfl rfl (OpJ.eql rfl rfl ?_)
          refine asg rfl rfl ?_
          refine kp [4, 5, 7, 9, 34, 43] rfl ?_
          first | refine Run.if rfl (fun h7 => ?_) (fun h7 => ?_) | refine Run.cond rfl (fun h7 => ?_) (fun h7 => ?_)
          · skip
            refine Run.region ?_
            refine mvo rfl rfl ?_
            refine RunL.op rfl rfl (OpJ.makeFunc rfl rfl ?_)
            refine asg rfl rfl ?_
            refine kp [4, 5, 7, 9] rfl ?_
            refine Run.seq ?_
            refine sr ?_
            refine mvo rfl rfl ?_
            refine RunL.callX C35 rfl rfl rfl (acd35 b18 s m ⟨m.seq, 0, 0, 0⟩ _ _ _ _ _ _ rfl rfl hs hm (by assumption)) tks fun ⟨la2, lc2, pa2, pc2⟩ _ => ?_
            rcases hres : fDo s m ⟨m.seq, 0, 0, 0⟩ with e | ⟨t, c⟩
            · skip
              refine asg rfl rfl ?_
              refine kp [4, 5, 7, 10] rfl ?_
              refine sr ?_
              refine mvo rfl rfl ?_
              refine RunL.op rfl rfl (OpJ.neq rfl rfl ?_)
              first | refine RunL.set (congrArg Value.bool (decide_eq_true (show errOf (Except.error _) ≠ 0 from fDo_err hres))) ?_ | skip
              refine kp [4, 5, 7, 10, 58] rfl ?_
              refine Run.true rfl ?_
              refine sr ?_
              refine RunL.op rfl rfl (OpJ.build B28 rfl rfl fun cs hcs => ?_)
              simp only [Sk.c, Mv.c, Co.c, bldL, bldA, Value.cells, bs, Nat.reduceAdd, Nat.reduceLeDiff, Nat.reduceLT] at hcs; subst hcs
              refine RunL.op rfl rfl (OpJ.build B43 rfl rfl fun cs hcs => ?_)
              simp only [Sk.c, Mv.c, Co.c, bldL, bldA, Value.cells, bs, Nat.reduceAdd, Nat.reduceLeDiff, Nat.reduceLT] at hcs; subst hcs
              refine mvo rfl rfl ?_
              refine RunL.op rfl rfl (OpJ.storeW T28 rfl rfl rfl rfl (by simp [Value.oneCell', Pa.c, Ly.c, Mv.c, Co.c]) up ?_)
              refine RunL.op rfl rfl (OpJ.storeW T43 rfl rfl rfl rfl (by simp [Value.oneCell', Pa.c, Ly.c, Mv.c, Co.c]) up ?_)
              refine asg rfl rfl ?_
              refine kp [4, 5, 6] rfl ?_
              refine Run.ret ?_
              have hres2 : fStep s m = .error e := (by unfold fStep; rw [if_neg h1, if_neg (by rw [← ptrOf_isSome (a := ⟨bp, 0, none⟩) (k := 7)]; simp [h2]), hres]); refine ret_out (none, 0, none, 0) (.cellA T28 rfl pk (by rfl) (.cellA T43 rfl pk (by rfl) (.tmp rfl .nil))) trivial (by rw [hres2]; rfl) ?_; rw [hres2]; exact gv
            · skip
              have hto := fDo_ok hs hm hres
              have hnt : (summed t c).layers.length ≤ 1000000 ∧ (summed t c).past.length ≤ 1000000 := ⟨hto.nl, hto.np⟩
              refine asg rfl rfl ?_
              refine kp [4, 5, 7, 10] rfl ?_
              refine sr ?_
              refine mvo rfl rfl ?_
              refine RunL.op rfl rfl (OpJ.neq rfl rfl ?_)
              first | refine RunL.set (congrArg Value.bool (decide_eq_true (show errOf (Except.error _) ≠ 0 from fDo_err hres))) ?_ | skip
              refine kp [4, 5, 7, 10, 58] rfl ?_
              refine Run.false rfl ?_
              refine Run.skip ?_
              refine Run.seq ?_
              refine regionD HM ?_
              refine tk 0 rfl rfl rfl (DetJ.move rfl) ?_
              refine tk 1 rfl rfl rfl (DetJ.nilCheck rfl) ?_
              refine tk 2 rfl rfl rfl (DetJ.fieldAddr F70_0 rfl) ?_
              refine tk 3 rfl rfl rfl (DetJ.fieldAddr F28_0 rfl) ?_
              first | refine RunD.takeF 4 rfl rfl kr T3 rfl pk (by rfl) ?_ | refine RunD.takeO 4 rfl rfl kr T3 rfl pk (by assumption) (by rfl) (by exact fun _ => rfl) ?_
              refine tk 5 rfl rfl rfl (DetJ.move rfl) ?_
              refine tk 6 rfl rfl rfl (DetJ.nilCheck rfl) ?_
              refine tk 7 rfl rfl rfl (DetJ.fieldAddr F70_2 rfl) ?_
              refine tk 8 rfl rfl rfl (DetJ.fieldAddr F43_1 rfl) ?_
              first | refine RunD.takeF 9 rfl rfl kr T3 rfl pk (by rfl) ?_ | refine RunD.takeO 9 rfl rfl kr T3 rfl pk (by assumption) (by rfl) (by exact fun _ => rfl) ?_
              refine tk 10 rfl rfl rfl (DetJ.add rfl rfl) ?_
              refine tk 11 rfl rfl rfl (DetJ.nilCheck rfl) ?_
              refine tk 12 rfl rfl rfl (DetJ.fieldAddr F70_0 rfl) ?_
              refine tk 13 rfl rfl rfl (DetJ.fieldAddr F28_0 rfl) ?_
              refine RunD.op 14 [false, false, false, false, false, false, false, false, false, false, false, false, false, false] rfl rfl rfl kr kr (OpJ.store1 T3 rfl rfl rfl up (by simp) ⟨po, ?_⟩)
              refine kd [4, 5, 7] rfl ?_
              refine Run.seq ?_
              refine regionD HM ?_
              refine tk 0 rfl rfl rfl (DetJ.move rfl) ?_
              refine tk 1 rfl rfl rfl (DetJ.nilCheck rfl) ?_
              refine tk 2 rfl rfl rfl (DetJ.fieldAddr F70_0 rfl) ?_
              refine tk 3 rfl rfl rfl (DetJ.fieldAddr F28_1 rfl) ?_
              first | refine RunD.takeF 4 rfl rfl kr T3 rfl pk (by rfl) ?_ | refine RunD.takeO 4 rfl rfl kr T3 rfl pk (by assumption) (by rfl) (by exact fun _ => rfl) ?_
              refine tk 5 rfl rfl rfl (DetJ.move rfl) ?_
              refine tk 6 rfl rfl rfl (DetJ.nilCheck rfl) ?_
              refine tk 7 rfl rfl rfl (DetJ.fieldAddr F70_2 rfl) ?_
              refine tk 8 rfl rfl rfl (DetJ.fieldAddr F43_2 rfl) ?_
              first | refine RunD.takeF 9 rfl rfl kr T3 rfl pk (by rfl) ?_ | refine RunD.takeO 9 rfl rfl kr T3 rfl pk (by assumption) (by rfl) (by exact fun _ => rfl) ?_
              refine tk 10 rfl rfl rfl (DetJ.add rfl rfl) ?_
              refine tk 11 rfl rfl rfl (DetJ.nilCheck rfl) ?_
              refine tk 12 rfl rfl rfl (DetJ.fieldAddr F70_0 rfl) ?_
              refine tk 13 rfl rfl rfl (DetJ.fieldAddr F28_1 rfl) ?_
              refine RunD.op 14 [false, false, false, false, false, false, false, false, false, false, false, false, false, false] rfl rfl rfl kr kr (OpJ.store1 T3 rfl rfl rfl up (by simp) ⟨po, ?_⟩)
              refine kd [4, 5, 7] rfl ?_
              refine Run.seq ?_
              refine sr ?_
              refine mvo rfl rfl ?_
              refine RunL.call C38 rfl rfl rfl (ac38 b18 (summed t c) m c _ _ _ _ _ _ rfl rfl hnt) tks ?_
              refine kp [4, 5, 7, 91] rfl ?_
              first | refine Run.if rfl (fun h8 => ?_) (fun h8 => ?_) | refine Run.cond rfl (fun h8 => ?_) (fun h8 => ?_)
              · skip
                refine sr ?_
                refine RunL.op rfl rfl (OpJ.build B28 rfl rfl fun cs hcs => ?_)
                simp only [Sk.c, Mv.c, Co.c, bldL, bldA, Value.cells, bs, Nat.reduceAdd, Nat.reduceLeDiff, Nat.reduceLT] at hcs; subst hcs
                refine RunL.op rfl rfl (OpJ.build B43 rfl rfl fun cs hcs => ?_)
                simp only [Sk.c, Mv.c, Co.c, bldL, bldA, Value.cells, bs, Nat.reduceAdd, Nat.reduceLeDiff, Nat.reduceLT] at hcs; subst hcs
                refine RunL.op rfl rfl (OpJ.storeW T28 rfl rfl rfl rfl (by simp [Value.oneCell', Pa.c, Ly.c, Mv.c, Co.c]) up ?_)
                refine RunL.op rfl rfl (OpJ.storeW T43 rfl rfl rfl rfl (by simp [Value.oneCell', Pa.c, Ly.c, Mv.c, Co.c]) up ?_)
                refine asg rfl rfl ?_
                refine kp [4, 5, 6] rfl ?_
                refine Run.ret ?_
                have hres2 : fStep s m = .error 4 := (by unfold fStep; rw [if_neg h1, if_neg (by rw [← ptrOf_isSome (a := ⟨bp, 0, none⟩) (k := 7)]; simp [h2]), hres]; exact if_pos (by assumption)); refine ret_out (none, 0, none, 0) (.cellA T28 rfl pk (by rfl) (.cellA T43 rfl pk (by rfl) (.tmp rfl .nil))) trivial (by rw [hres2]; rfl) ?_; rw [hres2]; exact gv
              · skip
                refine Run.skip ?_
                refine Run.seq ?_
                refine regionD HM ?_
                refine tk 0 rfl rfl rfl (DetJ.move rfl) ?_
                refine tk 1 rfl rfl rfl (DetJ.nilCheck rfl) ?_
                refine tk 2 rfl rfl rfl (DetJ.fieldAddr F70_0 rfl) ?_
                first | refine RunD.takeW 3 rfl rfl kr T28 rfl pk (by rfl) ?_ | refine RunD.takeP 3 rfl rfl kr T28 rfl pk (by simp) ?_ | refine RunD.takeE 3 rfl rfl kr T28 rfl pk (by assumption) (by exact fun _ => rfl) rfl (by decide) ?_
                refine tk 4 rfl rfl rfl (DetJ.move rfl) ?_
                refine tk 5 rfl rfl rfl (DetJ.nilCheck rfl) ?_
                refine tk 6 rfl rfl rfl (DetJ.fieldAddr F70_2 rfl) ?_
                first | refine RunD.takeW 7 rfl rfl kr T43 rfl pk (by rfl) ?_ | refine RunD.takeP 7 rfl rfl kr T43 rfl pk (by simp) ?_ | refine RunD.takeE 7 rfl rfl kr T43 rfl pk (by assumption) (by exact fun _ => rfl) rfl (by decide) ?_
                refine RunD.op 8 [true, true, true, true, false, false, false, false] rfl rfl rfl kr kr (OpJ.storeW T28 rfl rfl rfl rfl (by simp [Value.oneCell', Pa.c, Ly.c, Mv.c, Co.c]) up ⟨po, ?_⟩)
                refine RunD.op 9 [false, false, false, false] rfl rfl rfl kr kr (OpJ.storeW T43 rfl rfl rfl rfl (by simp [Value.oneCell', Pa.c, Ly.c, Mv.c, Co.c]) up ⟨po, ?_⟩)
                refine tk 10 rfl rfl rfl (DetJ.assign rfl) ?_
                refine kd [4, 5, 6] rfl ?_
                refine Run.ret ?_
                have hres2 : fStep s m = .ok (summed t c, c) := (by unfold fStep; rw [if_neg h1, if_neg (by rw [← ptrOf_isSome (a := ⟨bp, 0, none⟩) (k := 7)]; simp [h2]), hres]; exact if_neg (by simp only [*]; decide)); refine ret_out (la2, lc2, pa2, pc2) (.cellA T28 rfl pk (by rfl) (.cellA T43 rfl pk (by rfl) (.tmp rfl .nil))) trivial (by rw [hres2]; rfl) ?_; rw [hres2]; exact gv
          · skip
            refine sr ?_
            refine RunL.op rfl rfl (OpJ.eql rfl rfl ?_)
            refine asg rfl rfl ?_
            refine kp [4, 5, 7, 9, 34, 47] rfl ?_
            first | refine Run.if rfl (fun h9 => ?_) (fun h9 => ?_) | refine Run.cond rfl (fun h9 => ?_) (fun h9 => ?_)
            · skip
              refine Run.region ?_
              refine mvo rfl rfl ?_
              refine RunL.op rfl rfl (OpJ.makeFunc rfl rfl ?_)
              refine asg rfl rfl ?_
              refine kp [4, 5, 7, 9] rfl ?_
              refine Run.seq ?_
              refine sr ?_
              refine mvo rfl rfl ?_
              refine RunL.callX C36 rfl rfl rfl (acd36 b18 s m ⟨m.seq, 0, 0, 0⟩ _ _ _ _ _ _ rfl rfl hs hm (by assumption)) tks fun ⟨la2, lc2, pa2, pc2⟩ _ => ?_
              rcases hres : fDo s m ⟨m.seq, 0, 0, 0⟩ with e | ⟨t, c⟩
              · skip
                refine asg rfl rfl ?_
                refine kp [4, 5, 7, 10] rfl ?_
                refine sr ?_
                refine mvo rfl rfl ?_
                refine RunL.op rfl rfl (OpJ.neq rfl rfl ?_)
                first | refine RunL.set (congrArg Value.bool (decide_eq_true (show errOf (Except.error _) ≠ 0 from fDo_err hres))) ?_ | skip
                refine kp [4, 5, 7, 10, 58] rfl ?_
                refine Run.true rfl ?_
                refine sr ?_
                refine RunL.op rfl rfl (OpJ.build B28 rfl rfl fun cs hcs => ?_)
                simp only [Sk.c, Mv.c, Co.c, bldL, bldA, Value.cells, bs, Nat.reduceAdd, Nat.reduceLeDiff, Nat.reduceLT] at hcs; subst hcs
                refine RunL.op rfl rfl (OpJ.build B43 rfl rfl fun cs hcs => ?_)
                simp only [Sk.c, Mv.c, Co.c, bldL, bldA, Value.cells, bs, Nat.reduceAdd, Nat.reduceLeDiff, Nat.reduceLT] at hcs; subst hcs
                refine mvo rfl rfl ?_
                refine RunL.op rfl rfl (OpJ.storeW T28 rfl rfl rfl rfl (by simp [Value.oneCell', Pa.c, Ly.c, Mv.c, Co.c]) up ?_)
                refine RunL.op rfl rfl (OpJ.storeW T43 rfl rfl rfl rfl (by simp [Value.oneCell', Pa.c, Ly.c, Mv.c, Co.c]) up ?_)
                refine asg rfl rfl ?_
                refine kp [4, 5, 6] rfl ?_
                refine Run.ret ?_
                have hres2 : fStep s m = .error e := (by unfold fStep; rw [if_neg h1, if_neg (by rw [← ptrOf_isSome (a := ⟨bp, 0, none⟩) (k := 7)]; simp [h2]), hres]); refine ret_out (none, 0, none, 0) (.cellA T28 rfl pk (by rfl) (.cellA T43 rfl pk (by rfl) (.tmp rfl .nil))) trivial (by rw [hres2]; rfl) ?_; rw [hres2]; exact gv
              · skip
                have hto := fDo_ok hs hm hres
                have hnt : (summed t c).layers.length ≤ 1000000 ∧ (summed t c).past.length ≤ 1000000 := ⟨hto.nl, hto.np⟩
                refine asg rfl rfl ?_
                refine kp [4, 5, 7, 10] rfl ?_
                refine sr ?_
                refine mvo rfl rfl ?_
                refine RunL.op rfl rfl (OpJ.neq rfl rfl ?_)
                first | refine RunL.set (congrArg Value.bool (decide_eq_true (show errOf (Except.error _) ≠ 0 from fDo_err hres))) ?_ | skip
                refine kp [4, 5, 7, 10, 58] rfl ?_
                refine Run.false rfl ?_
                refine Run.skip ?_
                refine Run.seq ?_
                refine regionD HM ?_
                refine tk 0 rfl rfl rfl (DetJ.move rfl) ?_
                refine tk 1 rfl rfl rfl (DetJ.nilCheck rfl) ?_
                refine tk 2 rfl rfl rfl (DetJ.fieldAddr F70_0 rfl) ?_
                refine tk 3 rfl rfl rfl (DetJ.fieldAddr F28_0 rfl) ?_
                first | refine RunD.takeF 4 rfl rfl kr T3 rfl pk (by rfl) ?_ | refine RunD.takeO 4 rfl rfl kr T3 rfl pk (by assumption) (by rfl) (by exact fun _ => rfl) ?_
                refine tk 5 rfl rfl rfl (DetJ.move rfl) ?_
                refine tk 6 rfl rfl rfl (DetJ.nilCheck rfl) ?_
                refine tk 7 rfl rfl rfl (DetJ.fieldAddr F70_2 rfl) ?_
                refine tk 8 rfl rfl rfl (DetJ.fieldAddr F43_1 rfl) ?_
                first | refine RunD.takeF 9 rfl rfl kr T3 rfl pk (by rfl) ?_ | refine RunD.takeO 9 rfl rfl kr T3 rfl pk (by assumption) (by rfl) (by exact fun _ => rfl) ?_
                refine tk 10 rfl rfl rfl (DetJ.add rfl rfl) ?_
                refine tk 11 rfl rfl rfl (DetJ.nilCheck rfl) ?_
                refine tk 12 rfl rfl rfl (DetJ.fieldAddr F70_0 rfl) ?_
                refine tk 13 rfl rfl rfl (DetJ.fieldAddr F28_0 rfl) ?_
                refine RunD.op 14 [false, false, false, false, false, false, false, false, false, false, false, false, false, false] rfl rfl rfl kr kr (OpJ.store1 T3 rfl rfl rfl up (by simp) ⟨po, ?_⟩)
                refine kd [4, 5, 7] rfl ?_
                refine Run.seq ?_
                refine regionD HM ?_
                refine tk 0 rfl rfl rfl (DetJ.move rfl) ?_
                refine tk 1 rfl rfl rfl (DetJ.nilCheck rfl) ?_
                refine tk 2 rfl rfl rfl (DetJ.fieldAddr F70_0 rfl) ?_
                refine tk 3 rfl rfl rfl (DetJ.fieldAddr F28_1 rfl) ?_
                first | refine RunD.takeF 4 rfl rfl kr T3 rfl pk (by rfl) ?_ | refine RunD.takeO 4 rfl rfl kr T3 rfl pk (by assumption) (by rfl) (by exact fun _ => rfl) ?_
                refine tk 5 rfl rfl rfl (DetJ.move rfl) ?_
                refine tk 6 rfl rfl rfl (DetJ.nilCheck rfl) ?_
                refine tk 7 rfl rfl rfl (DetJ.fieldAddr F70_2 rfl) ?_
                refine tk 8 rfl rfl rfl (DetJ.fieldAddr F43_2 rfl) ?_
                first | refine RunD.takeF 9 rfl rfl kr T3 rfl pk (by rfl) ?_ | refine RunD.takeO 9 rfl rfl kr T3 rfl pk (by assumption) (by rfl) (by exact fun _ => rfl) ?_
                refine tk 10 rfl rfl rfl (DetJ.add rfl rfl) ?_
                refine tk 11 rfl rfl rfl (DetJ.nilCheck rfl) ?_
                refine tk 12 rfl rfl rfl (DetJ.fieldAddr F70_0 rfl) ?_
                refine tk 13 rfl rfl rfl (DetJ.fieldAddr F28_1 rfl) ?_
                refine RunD.op 14 [false, false, false, false, false, false, false, false, false, false, false, false, false, false] rfl rfl rfl kr kr (OpJ.store1 T3 rfl rfl rfl up (by simp) ⟨po, ?_⟩)
                refine kd [4, 5, 7] rfl ?_
                refine Run.seq ?_
                refine sr ?_
                refine mvo rfl rfl ?_
                refine RunL.call C38 rfl rfl rfl (ac38 b18 (summed t c) m c _ _ _ _ _ _ rfl rfl hnt) tks ?_
                refine kp [4, 5, 7, 91] rfl ?_
                first | refine Run.if rfl (fun h10 => ?_) (fun h10 => ?_) | refine Run.cond rfl (fun h10 => ?_) (fun h10 => ?_)
                · skip
                  refine sr ?_
                  refine RunL.op rfl rfl (OpJ.build B28 rfl rfl fun cs hcs => ?_)
                  simp only [Sk.c, Mv.c, Co.c, bldL, bldA, Value.cells, bs, Nat.reduceAdd, Nat.reduceLeDiff, Nat.reduceLT] at hcs; subst hcs
                  refine RunL.op rfl rfl (OpJ.build B43 rfl rfl fun cs hcs => ?_)
                  simp only [Sk.c, Mv.c, Co.c, bldL, bldA, Value.cells, bs, Nat.reduceAdd, Nat.reduceLeDiff, Nat.reduceLT] at hcs; subst hcs
                  refine RunL.op rfl rfl (OpJ.storeW T28 rfl rfl rfl rfl (by simp [Value.oneCell', Pa.c, Ly.c, Mv.c, Co.c]) up ?_)
                  refine RunL.op rfl rfl (OpJ.storeW T43 rfl rfl rfl rfl (by simp [Value.oneCell', Pa.c, Ly.c, Mv.c, Co.c]) up ?_)
                  refine asg rfl rfl ?_
                  refine kp [4, 5, 6] rfl ?_
                  refine Run.ret ?_
                  have hres2 : fStep s m = .error 4 := (by unfold fStep; rw [if_neg h1, if_neg (by rw [← ptrOf_isSome (a := ⟨bp, 0, none⟩) (k := 7)]; simp [h2]), hres]; exact if_pos (by assumption)); refine ret_out (none, 0, none, 0) (.cellA T28 rfl pk (by rfl) (.cellA T43 rfl pk (by rfl) (.tmp rfl .nil))) trivial (by rw [hres2]; rfl) ?_; rw [hres2]; exact gv
                · skip
                  refine Run.skip ?_
                  refine Run.seq ?_
                  refine regionD HM ?_
                  refine tk 0 rfl rfl rfl (DetJ.move rfl) ?_
                  refine tk 1 rfl rfl rfl (DetJ.nilCheck rfl) ?_
                  refine tk 2 rfl rfl rfl (DetJ.fieldAddr F70_0 rfl) ?_
                  first | refine RunD.takeW 3 rfl rfl kr T28 rfl pk (by rfl) ?_ | refine RunD.takeP 3 rfl rfl kr T28 rfl pk (by simp) ?_ | refine RunD.takeE 3 rfl rfl kr T28 rfl pk (by assumption) (by exact fun _ => rfl) rfl (by decide) ?_
                  refine tk 4 rfl rfl rfl (DetJ.move rfl) ?_
                  refine tk 5 rfl rfl rfl (DetJ.nilCheck rfl) ?_
                  refine tk 6 rfl rfl rfl (DetJ.fieldAddr F70_2 rfl) ?_
                  first | refine RunD.takeW 7 rfl rfl kr T43 rfl pk (by rfl) ?_ | refine RunD.takeP 7 rfl rfl kr T43 rfl pk (by simp) ?_ | refine RunD.takeE 7 rfl rfl kr T43 rfl pk (by assumption) (by exact fun _ => rfl) rfl (by decide) ?_
                  refine RunD.op 8 [true, true, true, true, false, false, false, false] rfl rfl rfl kr kr (OpJ.storeW T28 rfl rfl rfl rfl (by simp [Value.oneCell', Pa.c, Ly.c, Mv.c, Co.c]) up ⟨po, ?_⟩)
                  refine RunD.op 9 [false, false, false, false] rfl rfl rfl kr kr (OpJ.storeW T43 rfl rfl rfl rfl (by simp [Value.oneCell', Pa.c, Ly.c, Mv.c, Co.c]) up ⟨po, ?_⟩)
                  refine tk 10 rfl rfl rfl (DetJ.assign rfl) ?_
                  refine kd [4, 5, 6] rfl ?_
                  refine Run.ret ?_
                  have hres2 : fStep s m = .ok (summed t c, c) := (by unfold fStep; rw [if_neg h1, if_neg (by rw [← ptrOf_isSome (a := ⟨bp, 0, none⟩) (k := 7)]; simp [h2]), hres]; exact if_neg (by simp only [*]; decide)); refine ret_out (la2, lc2, pa2, pc2) (.cellA T28 rfl pk (by rfl) (.cellA T43 rfl pk (by rfl) (.tmp rfl .nil))) trivial (by rw [hres2]; rfl) ?_; rw [hres2]; exact gv
            · skip
              refine sr ?_
              refine RunL.op rfl rfl (OpJ.eql rfl rfl ?_)
              refine asg rfl rfl ?_
              refine kp [4, 5, 7, 9, 51] rfl ?_
              first | refine Run.if rfl (fun h11 => ?_) (fun h11 => ?_) | refine Run.cond rfl (fun h11 => ?_) (fun h11 => ?_)
              · skip
                refine Run.region ?_
                refine mvo rfl rfl ?_
                refine RunL.op rfl rfl (OpJ.makeFunc rfl rfl ?_)
                refine asg rfl rfl ?_
                refine kp [4, 5, 7, 9] rfl ?_
                refine Run.seq ?_
                refine sr ?_
                refine mvo rfl rfl ?_
                refine RunL.callX C37 rfl rfl rfl (acd37 b18 s m ⟨m.seq, 0, 0, 0⟩ _ _ _ _ _ _ rfl rfl hs hm (by assumption)) tks fun ⟨la2, lc2, pa2, pc2⟩ _ => ?_
                rcases hres : fDo s m ⟨m.seq, 0, 0, 0⟩ with e | ⟨t, c⟩
                · skip
                  refine asg rfl rfl ?_
                  refine kp [4, 5, 7, 10] rfl ?_
                  refine sr ?_
                  refine mvo rfl rfl ?_
                  refine RunL.op rfl rfl (OpJ.neq rfl rfl ?_)
                  first | refine RunL.set (congrArg Value.bool (decide_eq_true (show errOf (Except.error _) ≠ 0 from fDo_err hres))) ?_ | skip
                  refine kp [4, 5, 7, 10, 58] rfl ?_
                  refine Run.true rfl ?_
                  refine sr ?_
                  refine RunL.op rfl rfl (OpJ.build B28 rfl rfl fun cs hcs => ?_)
                  simp only [Sk.c, Mv.c, Co.c, bldL, bldA, Value.cells, bs, Nat.reduceAdd, Nat.reduceLeDiff, Nat.reduceLT] at hcs; subst hcs
                  refine RunL.op rfl rfl (OpJ.build B43 rfl rfl fun cs hcs => ?_)
                  simp only [Sk.c, Mv.c, Co.c, bldL, bldA, Value.cells, bs, Nat.reduceAdd, Nat.reduceLeDiff, Nat.reduceLT] at hcs; subst hcs
                  refine mvo rfl rfl ?_
                  refine RunL.op rfl rfl (OpJ.storeW T28 rfl rfl rfl rfl (by simp [Value.oneCell', Pa.c, Ly.c, Mv.c, Co.c]) up ?_)
                  refine RunL.op rfl rfl (OpJ.storeW T43 rfl rfl rfl rfl (by simp [Value.oneCell', Pa.c, Ly.c, Mv.c, Co.c]) up ?_)
                  refine asg rfl rfl ?_
                  refine kp [4, 5, 6] rfl ?_
                  refine Run.ret ?_
                  have hres2 : fStep s m = .error e := (by unfold fStep; rw [if_neg h1, if_neg (by rw [← ptrOf_isSome (a := ⟨bp, 0, none⟩) (k := 7)]; simp [h2]), hres]); refine ret_out (none, 0, none, 0) (.cellA T28 rfl pk (by rfl) (.cellA T43 rfl pk (by rfl) (.tmp rfl .nil))) trivial (by rw [hres2]; rfl) ?_; rw [hres2]; exact gv
                · skip
                  have hto := fDo_ok hs hm hres
                  have hnt : (summed t c).layers.length ≤ 1000000 ∧ (summed t c).past.length ≤ 1000000 := ⟨hto.nl, hto.np⟩
                  refine asg rfl rfl ?_
                  refine kp [4, 5, 7, 10] rfl ?_
                  refine sr ?_
                  refine mvo rfl rfl ?_
                  refine RunL.op rfl rfl (OpJ.neq rfl rfl ?_)
                  first | refine RunL.set (congrArg Value.bool (decide_eq_true (show errOf (Except.error _) ≠ 0 from fDo_err hres))) ?_ | skip
                  refine kp [4, 5, 7, 10, 58] rfl ?_
                  refine Run.false rfl ?_
                  refine Run.skip ?_
                  refine Run.seq ?_
                  refine regionD HM ?_
                  refine tk 0 rfl rfl rfl (DetJ.move rfl) ?_
                  refine tk 1 rfl rfl rfl (DetJ.nilCheck rfl) ?_
                  refine tk 2 rfl rfl rfl (DetJ.fieldAddr F70_0 rfl) ?_
                  refine tk 3 rfl rfl rfl (DetJ.fieldAddr F28_0 rfl) ?_
                  first | refine RunD.takeF 4 rfl rfl kr T3 rfl pk (by rfl) ?_ | refine RunD.takeO 4 rfl rfl kr T3 rfl pk (by assumption) (by rfl) (by exact fun _ => rfl) ?_
                  refine tk 5 rfl rfl rfl (DetJ.move rfl) ?_
                  refine tk 6 rfl rfl rfl (DetJ.nilCheck rfl) ?_
                  refine tk 7 rfl rfl rfl (DetJ.fieldAddr F70_2 rfl) ?_
                  refine tk 8 rfl rfl rfl (DetJ.fieldAddr F43_1 rfl) ?_
                  first | refine RunD.takeF 9 rfl rfl kr T3 rfl pk (by rfl) ?_ | refine RunD.takeO 9 rfl rfl kr T3 rfl pk (by assumption) (by rfl) (by exact fun _ => rfl) ?_
                  refine tk 10 rfl rfl rfl (DetJ.add rfl rfl) ?_
                  refine tk 11 rfl rfl rfl (DetJ.nilCheck rfl) ?_
                  refine tk 12 rfl rfl rfl (DetJ.fieldAddr F70_0 rfl) ?_
                  refine tk 13 rfl rfl rfl (DetJ.fieldAddr F28_0 rfl) ?_
                  refine RunD.op 14 [false, false, false, false, false, false, false, false, false, false, false, false, false, false] rfl rfl rfl kr kr (OpJ.store1 T3 rfl rfl rfl up (by simp) ⟨po, ?_⟩)
                  refine kd [4, 5, 7] rfl ?_
                  refine Run.seq ?_
                  refine regionD HM ?_
                  refine tk 0 rfl rfl rfl (DetJ.move rfl) ?_
                  refine tk 1 rfl rfl rfl (DetJ.nilCheck rfl) ?_
                  refine tk 2 rfl rfl rfl (DetJ.fieldAddr F70_0 rfl) ?_
                  refine tk 3 rfl rfl rfl (DetJ.fieldAddr F28_1 rfl) ?_
                  first | refine RunD.takeF 4 rfl rfl kr T3 rfl pk (by rfl) ?_ | refine RunD.takeO 4 rfl rfl kr T3 rfl pk (by assumption) (by rfl) (by exact fun _ => rfl) ?_
                  refine tk 5 rfl rfl rfl (DetJ.move rfl) ?_
                  refine tk 6 rfl rfl rfl (DetJ.nilCheck rfl) ?_
                  refine tk 7 rfl rfl rfl (DetJ.fieldAddr F70_2 rfl) ?_
                  refine tk 8 rfl rfl rfl (DetJ.fieldAddr F43_2 rfl) ?_
                  first | refine RunD.takeF 9 rfl rfl kr T3 rfl pk (by rfl) ?_ | refine RunD.takeO 9 rfl rfl kr T3 rfl pk (by assumption) (by rfl) (by exact fun _ => rfl) ?_
                  refine tk 10 rfl rfl rfl (DetJ.add rfl rfl) ?_
                  refine tk 11 rfl rfl rfl (DetJ.nilCheck rfl) ?_
                  refine tk 12 rfl rfl rfl (DetJ.fieldAddr F70_0 rfl) ?_
                  refine tk 13 rfl rfl rfl (DetJ.fieldAddr F28_1 rfl) ?_
                  refine RunD.op 14 [false, false, false, false, false, false, false, false, false, false, false, false, false, false] rfl rfl rfl kr kr (OpJ.store1 T3 rfl rfl rfl up (by simp) ⟨po, ?_⟩)
                  refine kd [4, 5, 7] rfl ?_
                  refine Run.seq ?_
                  refine sr ?_
                  refine mvo rfl rfl ?_
                  refine RunL.call C38 rfl rfl rfl (ac38 b18 (summed t c) m c _ _ _ _ _ _ rfl rfl hnt) tks ?_
                  refine kp [4, 5, 7, 91] rfl ?_
                  first | refine Run.if rfl (fun h12 => ?_) (fun h12 => ?_) | refine Run.cond rfl (fun h12 => ?_) (fun h12 => ?_)
                  · skip
                    refine sr ?_
                    refine RunL.op rfl rfl (OpJ.build B28 rfl rfl fun cs hcs => ?_)
                    simp only [Sk.c, Mv.c, Co.c, bldL, bldA, Value.cells, bs, Nat.reduceAdd, Nat.reduceLeDiff, Nat.reduceLT] at hcs; subst hcs
                    refine RunL.op rfl rfl (OpJ.build B43 rfl rfl fun cs hcs => ?_)
                    simp only [Sk.c, Mv.c, Co.c, bldL, bldA, Value.cells, bs, Nat.reduceAdd, Nat.reduceLeDiff, Nat.reduceLT] at hcs; subst hcs
                    refine RunL.op rfl rfl (OpJ.storeW T28 rfl rfl rfl rfl (by simp [Value.oneCell', Pa.c, Ly.c, Mv.c, Co.c]) up ?_)
                    refine RunL.op rfl rfl (OpJ.storeW T43 rfl rfl rfl rfl (by simp [Value.oneCell', Pa.c, Ly.c, Mv.c, Co.c]) up ?_)
                    refine asg rfl rfl ?_
                    refine kp [4, 5, 6] rfl ?_
                    refine Run.ret ?_
                    have hres2 : fStep s m = .error 4 := (by unfold fStep; rw [if_neg h1, if_neg (by rw [← ptrOf_isSome (a := ⟨bp, 0, none⟩) (k := 7)]; simp [h2]), hres]; exact if_pos (by assumption)); refine ret_out (none, 0, none, 0) (.cellA T28 rfl pk (by rfl) (.cellA T43 rfl pk (by rfl) (.tmp rfl .nil))) trivial (by rw [hres2]; rfl) ?_; rw [hres2]; exact gv
                  · skip
                    refine Run.skip ?_
                    refine Run.seq ?_
                    refine regionD HM ?_
                    refine tk 0 rfl rfl rfl (DetJ.move rfl) ?_
                    refine tk 1 rfl rfl rfl (DetJ.nilCheck rfl) ?_
                    refine tk 2 rfl rfl rfl (DetJ.fieldAddr F70_0 rfl) ?_
                    first | refine RunD.takeW 3 rfl rfl kr T28 rfl pk (by rfl) ?_ | refine RunD.takeP 3 rfl rfl kr T28 rfl pk (by simp) ?_ | refine RunD.takeE 3 rfl rfl kr T28 rfl pk (by assumption) (by exact fun _ => rfl) rfl (by decide) ?_
                    refine tk 4 rfl rfl rfl (DetJ.move rfl) ?_
                    refine tk 5 rfl rfl rfl (DetJ.nilCheck rfl) ?_
                    refine tk 6 rfl rfl rfl (DetJ.fieldAddr F70_2 rfl) ?_
                    first | refine RunD.takeW 7 rfl rfl kr T43 rfl pk (by rfl) ?_ | refine RunD.takeP 7 rfl rfl kr T43 rfl pk (by simp) ?_ | refine RunD.takeE 7 rfl rfl kr T43 rfl pk (by assumption) (by exact fun _ => rfl) rfl (by decide) ?_
                    refine RunD.op 8 [true, true, true, true, false, false, false, false] rfl rfl rfl kr kr (OpJ.storeW T28 rfl rfl rfl rfl (by simp [Value.oneCell', Pa.c, Ly.c, Mv.c, Co.c]) up ⟨po, ?_⟩)
                    refine RunD.op 9 [false, false, false, false] rfl rfl rfl kr kr (OpJ.storeW T43 rfl rfl rfl rfl (by simp [Value.oneCell', Pa.c, Ly.c, Mv.c, Co.c]) up ⟨po, ?_⟩)
                    refine tk 10 rfl rfl rfl (DetJ.assign rfl) ?_
                    refine kd [4, 5, 6] rfl ?_
                    refine Run.ret ?_
                    have hres2 : fStep s m = .ok (summed t c, c) := (by unfold fStep; rw [if_neg h1, if_neg (by rw [← ptrOf_isSome (a := ⟨bp, 0, none⟩) (k := 7)]; simp [h2]), hres]; exact if_neg (by simp only [*]; decide)); refine ret_out (la2, lc2, pa2, pc2) (.cellA T28 rfl pk (by rfl) (.cellA T43 rfl pk (by rfl) (.tmp rfl .nil))) trivial (by rw [hres2]; rfl) ?_; rw [hres2]; exact gv
              · skip
                refine Run.skip ?_
                refine Run.seq ?_
                refine sr ?_
                refine mvo rfl rfl ?_
                refine RunL.callX C32 rfl rfl rfl (acd32 (stars []) s m ⟨m.seq, 0, 0, 0⟩ (by refine ⟨?_, ?_, ?_, ?_, ?_⟩ <;> assumption)) .nil fun ⟨la2, lc2, pa2, pc2⟩ _ => ?_
                rcases hres : fDo s m ⟨m.seq, 0, 0, 0⟩ with e | ⟨t, c⟩
                · skip
                  refine asg rfl rfl ?_
                  refine kp [4, 5, 7, 10] rfl ?_
                  refine sr ?_
                  refine mvo rfl rfl ?_
                  refine RunL.op rfl rfl (OpJ.neq rfl rfl ?_)
                  first | refine RunL.set (congrArg Value.bool (decide_eq_true (show errOf (Except.error _) ≠ 0 from fDo_err hres))) ?_ | skip
                  refine kp [4, 5, 7, 10, 58] rfl ?_
                  refine Run.true rfl ?_
                  refine sr ?_
                  refine RunL.op rfl rfl (OpJ.build B28 rfl rfl fun cs hcs => ?_)
                  simp only [Sk.c, Mv.c, Co.c, bldL, bldA, Value.cells, bs, Nat.reduceAdd, Nat.reduceLeDiff, Nat.reduceLT] at hcs; subst hcs
                  refine RunL.op rfl rfl (OpJ.build B43 rfl rfl fun cs hcs => ?_)
                  simp only [Sk.c, Mv.c, Co.c, bldL, bldA, Value.cells, bs, Nat.reduceAdd, Nat.reduceLeDiff, Nat.reduceLT] at hcs; subst hcs
                  refine mvo rfl rfl ?_
                  refine RunL.op rfl rfl (OpJ.storeW T28 rfl rfl rfl rfl (by simp [Value.oneCell', Pa.c, Ly.c, Mv.c, Co.c]) up ?_)
                  refine RunL.op rfl rfl (OpJ.storeW T43 rfl rfl rfl rfl (by simp [Value.oneCell', Pa.c, Ly.c, Mv.c, Co.c]) up ?_)
                  refine asg rfl rfl ?_
                  refine kp [4, 5, 6] rfl ?_
                  refine Run.ret ?_
                  have hres2 : fStep s m = .error e := (by unfold fStep; rw [if_neg h1, if_neg (by rw [← ptrOf_isSome (a := ⟨bp, 0, none⟩) (k := 7)]; simp [h2]), hres]); refine ret_out (none, 0, none, 0) (.cellA T28 rfl pk (by rfl) (.cellA T43 rfl pk (by rfl) (.tmp rfl .nil))) trivial (by rw [hres2]; rfl) ?_; rw [hres2]; exact gv
                · skip
                  rw [fDo_0 (by refine ⟨?_, ?_, ?_, ?_, ?_⟩ <;> assumption)] at hres; cases hres
end Go.Proofs.YtdcchollplhioaaGreatDoor

namespace Go.SL
open Go
theorem Gives.refl : ∀ L : List HP, Gives L L
  | [] => .nil
  | A :: L => .cons .here (Gives.refl L)
/-- A region that comes to one value, whatever way it takes; the heap's parts may change their order. -/
theorem RunL.cutG {P : Program} {β : Base} {n : Nat} {arr : Array Oper} {os : List Oper} {E Ek : Env} {L : List HP} {K : Env → List HP → Prop} {ks : List Nat} {t : Nat} {v : Value} (hk : Keep ks E Ek) (h1 : RunL P β n arr os E L fun E' L' => Keep (t :: ks) E' ((t, v) :: Ek) ∧ Gives L' L) (h2 : K ((t, v) :: Ek) L) : RunL P β n arr os E L K :=
  fun a w ha hs Q hQ => h1 a w ha hs Q fun a' w' E' L' ⟨hK, hL⟩ ha' hs' => hQ a' w' _ _ h2 (ha'.sub hK.sub) (hs'.gives hL)
theorem isPast_eq {kind seq : Int} (h : kind ≠ 0) : isPast kind seq = fun p => decide (p.kind = kind ∧ p.seq = seq) := by
  funext p
  unfold isPast
  by_cases h1 : p.seq = seq <;> by_cases h2 : p.kind = kind <;> simp [h, h1, h2]
theorem findIdx_idx {α : Type} {f : α → Bool} {xs : List α} : findIdx f xs = idxOf (findI f xs) := by
  unfold findIdx findI
  cases h : xs.findIdx? f with
  | none => rfl
  | some i =>
    obtain ⟨hi, _, _⟩ := List.findIdx?_eq_some_iff_getElem.1 h
    simp [List.getElem?_eq_getElem hi, idxOf]
def okIdx (r : Except Int (Nat × Pa)) : Int := match r with | .error _ => 0 | .ok (i, _) => (i : Int)
def priceV (m : Mv) (p : Int) : Int := if mulOk m.qty p = true then mulN m.qty p else 0
def priceE (m : Mv) (p : Int) : Int := if mulOk m.qty p = true then 0 else 4
def sRecv (t : Sk) (m : Mv) (c : Co) : Except Int (Sk × Co) :=
  if priceE m t.price ≠ 0 then .error (priceE m t.price) else
    .ok ({ t with past := t.past ++ [⟨m.seq, m.kind, m.lot, m.qty, m.cost, 0, 0⟩] }, ⟨0, m.qty, priceV m t.price, W (m.cost - priceV m t.price)⟩)
def sIssue (t : Sk) (m : Mv) (c : Co) : Except Int (Sk × Co) :=
  if t.qty < m.qty then .error 21 else if priceE m t.price ≠ 0 then .error (priceE m t.price) else
    .ok ({ t with past := t.past ++ [⟨m.seq, m.kind, m.lot, m.qty, priceV m t.price, 0, 0⟩] }, ⟨0, W (0 - m.qty), W (0 - priceV m t.price), 0⟩)
def sCust (t : Sk) (m : Mv) (c : Co) : Except Int (Sk × Co) :=
  match refd 2 m t.past with
  | .error e => .error e
  | .ok (i, p) => if priceE m t.price ≠ 0 then .error (priceE m t.price) else
    .ok ({ t with past := t.past.set i (backP p m) }, ⟨0, m.qty, priceV m t.price, W (backV p m - priceV m t.price)⟩)
def sSupp (t : Sk) (m : Mv) (c : Co) : Except Int (Sk × Co) :=
  match refd 1 m t.past with
  | .error e => .error e
  | .ok (i, p) => if t.qty < m.qty then .error 21 else if priceE m t.price ≠ 0 then .error (priceE m t.price) else
    .ok ({ t with past := t.past.set i (sendP p m) }, ⟨0, W (0 - m.qty), W (0 - priceV m t.price), W (priceV m t.price - m.cost)⟩)
def sLand (t : Sk) (m : Mv) (c : Co) : Except Int (Sk × Co) :=
  match refd 1 m t.past with
  | .error e => .error e
  | .ok _ => .ok (t, ⟨0, 0, 0, m.cost⟩)
def reprV (t : Sk) (m : Mv) : Int := mulN t.qty (subN m.cost t.price)
def sRepr (t : Sk) (m : Mv) (c : Co) : Except Int (Sk × Co) :=
  if (!subOk m.cost t.price || !mulOk t.qty (subN m.cost t.price) || !withinB (reprV t m)) = true then .error 4 else
    .ok ({ t with price := m.cost }, ⟨0, 0, reprV t m, W (0 - reprV t m)⟩)
def sDo (t : Sk) (m : Mv) (c : Co) : Except Int (Sk × Co) :=
  if m.kind = 1 then sRecv t m c else if m.kind = 2 then sIssue t m c else if m.kind = 3 then sCust t m c else if m.kind = 4 then sSupp t m c else if m.kind = 5 then sLand t m c else sRepr t m c
def sSum (s t : Sk) (c : Co) : Sk := { t with qty := W (s.qty + c.qty), value := addN s.value c.value }
def sOver (s t : Sk) (c : Co) : Bool := !addOk s.value c.value || decide (1000000000 < W (s.qty + c.qty)) || !withinB (addN s.value c.value) || !withinB c.var
def sStep (s : Sk) (m : Mv) : Except Int (Sk × Co) :=
  if m.one ≠ 0 then .error m.one else if ((findI (isPast 1 m.seq) s.past).isSome || (findI (isPast 2 m.seq) s.past).isSome) = true then .error 8 else
  match sDo s m ⟨0, 0, 0, 0⟩ with
  | .error e => .error e
  | .ok (t, c) => if sOver s t c = true then .error 4 else .ok (sSum s t c, { c with seq := m.seq })
theorem subN_i64 {a b : Int} : i64 (subN a b) := by
  unfold subN
  split
  · assumption
  · decide
theorem sDo_1 {t : Sk} {m : Mv} {c : Co} (h : m.kind = 1) : sDo t m c = sRecv t m c := by unfold sDo; rw [if_pos h]
theorem sDo_2 {t : Sk} {m : Mv} {c : Co} (h : m.kind = 2) : sDo t m c = sIssue t m c := by unfold sDo; rw [if_neg (by omega), if_pos h]
theorem sDo_3 {t : Sk} {m : Mv} {c : Co} (h : m.kind = 3) : sDo t m c = sCust t m c := by unfold sDo; rw [if_neg (by omega), if_neg (by omega), if_pos h]
theorem sDo_4 {t : Sk} {m : Mv} {c : Co} (h : m.kind = 4) : sDo t m c = sSupp t m c := by unfold sDo; rw [if_neg (by omega), if_neg (by omega), if_neg (by omega), if_pos h]
theorem sDo_5 {t : Sk} {m : Mv} {c : Co} (h : m.kind = 5) : sDo t m c = sLand t m c := by unfold sDo; rw [if_neg (by omega), if_neg (by omega), if_neg (by omega), if_neg (by omega), if_pos h]
theorem sDo_6 {t : Sk} {m : Mv} {c : Co} (h : ¬ m.kind = 1 ∧ ¬ m.kind = 2 ∧ ¬ m.kind = 3 ∧ ¬ m.kind = 4 ∧ ¬ m.kind = 5) : sDo t m c = sRepr t m c := by unfold sDo; rw [if_neg h.1, if_neg h.2.1, if_neg h.2.2.1, if_neg h.2.2.2.1, if_neg h.2.2.2.2]
theorem idx_some {α : Type} {r : Option (Nat × α)} : decide (0 ≤ idxOf r) = r.isSome := by
  cases r with
  | none => rfl
  | some x => simp only [idxOf, Option.isSome_some]; exact decide_eq_true (by omega)
theorem priceV_i64 {m : Mv} {p : Int} : i64 (priceV m p) := by
  unfold priceV
  split
  · rename_i h; unfold mulOk at h; unfold mulN; split
    · rename_i h2; exact h2
    · decide
  · decide
end Go.SL

namespace Go.Proofs.YtdcchollplhioaaGreatDoor
open Go Go.SL Go.Proofs
theorem C120 : CI Tryz.prog 120 := .of (by kernel_rfl)
theorem C44 : CI Tryz.prog 44 := .of (by kernel_rfl)
theorem F85_0 : FI Tryz.prog 85 0 28 0 := .of (by kernel_rfl)
theorem F85_1 : FI Tryz.prog 85 1 47 5 := .of (by kernel_rfl)
theorem ac44k (R : HP) (oa : Option Addr) (cap : Nat) (ps : List Pa) (kind seq : Int) (hR : RdS R oa (ps.flatMap Pa.c)) (hlen : (ps.length : Int) ≤ 9223372036854775807) (hk : kind ≠ 0) : AC Tryz.prog 44 ⟨[.slice oa ps.length cap, .agg ⟨[I kind, I seq]⟩]⟩ (stars [R]) (Ret (I (idxOf (findI (isPast kind seq) ps))) [R]) := by
  have h := ac44 R oa cap ps kind seq hR hlen
  rw [findIdx_idx, ← isPast_eq hk] at h; exact h
-- standard.share
theorem ac118 (p : Pa) (m : Mv) (hm : i64 m.qty) : AC Tryz.prog 118 ⟨[.agg ⟨p.c⟩, I m.qty]⟩ (stars []) (Ret (I (backV p m)) []) := by
  refine AC.go Tryz.func118 rfl (Nat.le_of_ble_eq_true rfl) fun β => ?_
  refine sr ?_
  refine RunL.op rfl rfl (OpJ.boxA rfl fun b2 => ?_)
  refine asg rfl rfl ?_
  refine kp [1, 2] rfl ?_
  refine Run.seq ?_
  refine regionD HM ?_
  refine tk 0 rfl rfl rfl (DetJ.fieldAddr F66_3 rfl) ?_
  first | refine RunD.takeF 1 rfl rfl kr T3 rfl pk (by rfl) ?_ | refine RunD.takeO 1 rfl rfl kr T3 rfl pk (by assumption) (by rfl) (by exact fun _ => rfl) ?_
  refine tk 2 rfl rfl rfl (DetJ.fieldAddr F66_5 rfl) ?_
  first | refine RunD.takeF 3 rfl rfl kr T3 rfl pk (by rfl) ?_ | refine RunD.takeO 3 rfl rfl kr T3 rfl pk (by assumption) (by rfl) (by exact fun _ => rfl) ?_
  refine tk 4 rfl rfl rfl (DetJ.sub rfl rfl) ?_
  refine tk 5 rfl rfl rfl (DetJ.fieldAddr F66_4 rfl) ?_
  first | refine RunD.takeF 6 rfl rfl kr T3 rfl pk (by rfl) ?_ | refine RunD.takeO 6 rfl rfl kr T3 rfl pk (by assumption) (by rfl) (by exact fun _ => rfl) ?_
  refine tk 7 rfl rfl rfl (DetJ.fieldAddr F66_6 rfl) ?_
  first | refine RunD.takeF 8 rfl rfl kr T3 rfl pk (by rfl) ?_ | refine RunD.takeO 8 rfl rfl kr T3 rfl pk (by assumption) (by rfl) (by exact fun _ => rfl) ?_
  refine tk 9 rfl rfl rfl (DetJ.sub rfl rfl) ?_
  refine tk 10 rfl rfl rfl (DetJ.assign rfl) ?_
  refine tk 11 rfl rfl rfl (DetJ.assign rfl) ?_
  refine kd [1, 5, 6] rfl ?_
  refine Run.seq ?_
  refine sr ?_
  refine mvo rfl rfl ?_
  refine mvo rfl rfl ?_
  refine RunL.op rfl rfl (OpJ.eql rfl rfl ?_)
  refine kp [1, 5, 6, 21] rfl ?_
  first | refine Run.if rfl (fun h1 => ?_) (fun h1 => ?_) | refine Run.cond rfl (fun h1 => ?_) (fun h1 => ?_)
  · skip
    refine sr ?_
    refine mvo rfl rfl ?_
    refine asg rfl rfl ?_
    refine kp [4] rfl ?_
    refine Run.ret ?_
    exact ret_one (.tmp rfl .nil) (by first | (simp [tup, backV, partN, *]; done) | (exfalso; omega)) .nil
  · skip
    refine Run.skip ?_
    refine sr ?_
    refine mvo rfl rfl ?_
    refine mvo rfl rfl ?_
    refine mvo rfl rfl ?_
    refine RunL.call C111 rfl rfl rfl (ac111 _ _ _ _ (W_i64 _) hm (W_i64 _)) .nil ?_
    refine mvo rfl rfl ?_
    refine RunL.op rfl rfl (OpJ.extract rfl rfl ?_)
    refine RunL.op rfl rfl (OpJ.extract rfl rfl ?_)
    refine asg rfl rfl ?_
    refine asg rfl rfl ?_
    refine kp [7] rfl ?_
    refine sr ?_
    refine mvo rfl rfl ?_
    refine asg rfl rfl ?_
    refine kp [4] rfl ?_
    refine Run.ret ?_
    exact ret_one (.tmp rfl .nil) (by first | (simp [tup, backV, partN, *]; done) | (exfalso; omega)) .nil
-- standard.clone
theorem ac45 (s : Sk) (la : Option Addr) (lc : Nat) (pa : Option Addr) (pc : Nat) (RL RP : HP) (hn : s.layers.length ≤ 1000000 ∧ s.past.length ≤ 1000000) (hRL : RdS RL la (s.layers.flatMap Ly.c)) (hRP : RdS RP pa (s.past.flatMap Pa.c)) : AC Tryz.prog 45 ⟨[.agg ⟨s.c la lc pa pc⟩]⟩ (stars [RL, RP]) (Outs (fun _ : Nat × Nat => True) (fun x => .agg ⟨s.c (some ⟨x.1, 0, none⟩) s.layers.length (some ⟨x.2, 0, none⟩) s.past.length⟩) (fun x => [own 64 4 (some ⟨x.1, 0, none⟩) s.layers.length s.layers.length ((s.layers).flatMap Ly.c), own 66 7 (some ⟨x.2, 0, none⟩) s.past.length s.past.length ((s.past).flatMap Pa.c), RL, RP])) := by
  have hnl := hn.1; have hnp := hn.2
  refine AC.go Tryz.func45 rfl (Nat.le_of_ble_eq_true rfl) fun β => ?_
  refine sr ?_
  refine RunL.op rfl rfl (OpJ.boxA rfl fun b1 => ?_)
  refine RunL.op rfl rfl (OpJ.alloc Z28 fun b2 => ?_)
  refine kp [1, 2] rfl ?_
  refine sr ?_
  refine RunL.op rfl rfl (OpJ.fieldAddr F28_4 rfl ?_)
  first | refine RunL.op rfl rfl (OpJ.loadF T26 rfl pk (by rfl) ?_) | refine RunL.op rfl rfl (OpJ.loadO T26 rfl pk (by assumption) (by rfl) (by exact fun _ => rfl) ?_)
  refine RunL.op rfl rfl (OpJ.len S26 rfl ?_)
  refine RunL.op rfl rfl (OpJ.make S26 M66 rfl rfl (by omega) (by omega) fun b8 => ?_)
  refine asg rfl rfl ?_
  refine kp [1, 2, 3] rfl ?_
  refine sr ?_
  refine mvo rfl rfl ?_
  refine RunL.op rfl rfl (OpJ.fieldAddr F28_4 rfl ?_)
  first | refine RunL.op rfl rfl (OpJ.loadF T26 rfl pk (by rfl) ?_) | refine RunL.op rfl rfl (OpJ.loadO T26 rfl pk (by assumption) (by rfl) (by exact fun _ => rfl) ?_)
  refine RunL.op rfl rfl (OpJ.copyAll S26 rfl rfl up pk hRP (flat_len (enc := Pa.c) (k := 7) (fun _ => rfl) _) (by simp) (flat_one Pa.one _) ?_)
  refine kp [1, 2, 3] rfl ?_
  refine sr ?_
  refine RunL.op rfl rfl (OpJ.fieldAddr F28_3 rfl ?_)
  first | refine RunL.op rfl rfl (OpJ.loadF T25 rfl pk (by rfl) ?_) | refine RunL.op rfl rfl (OpJ.loadO T25 rfl pk (by assumption) (by rfl) (by exact fun _ => rfl) ?_)
  refine RunL.op rfl rfl (OpJ.len S25 rfl ?_)
  refine RunL.op rfl rfl (OpJ.make S25 M64 rfl rfl (by omega) (by omega) fun b16 => ?_)
  refine asg rfl rfl ?_
  refine kp [1, 2, 3, 4] rfl ?_
  refine sr ?_
  refine mvo rfl rfl ?_
  refine RunL.op rfl rfl (OpJ.fieldAddr F28_3 rfl ?_)
  first | refine RunL.op rfl rfl (OpJ.loadF T25 rfl pk (by rfl) ?_) | refine RunL.op rfl rfl (OpJ.loadO T25 rfl pk (by assumption) (by rfl) (by exact fun _ => rfl) ?_)
  refine RunL.op rfl rfl (OpJ.copyAll S25 rfl rfl up pk hRL (flat_len (enc := Ly.c) (k := 4) (fun _ => rfl) _) (by simp) (flat_one Ly.one _) ?_)
  refine kp [1, 2, 3, 4] rfl ?_
  refine sr ?_
  refine mvo rfl rfl ?_
  refine mvo rfl rfl ?_
  refine RunL.op rfl rfl (OpJ.fieldAddr F28_4 rfl ?_)
  refine RunL.op rfl rfl (OpJ.store1 T26 rfl rfl rfl up (by simp) ?_)
  refine RunL.op rfl rfl (OpJ.fieldAddr F28_3 rfl ?_)
  refine RunL.op rfl rfl (OpJ.store1 T25 rfl rfl rfl up (by simp) ?_)
  refine kp [1, 2] rfl ?_
  refine sr ?_
  first | refine RunL.op rfl rfl (OpJ.loadW T28 rfl pk (by rfl) ?_) | refine RunL.op rfl rfl (OpJ.loadP T28 rfl pk (by simp) ?_) | refine RunL.op rfl rfl (OpJ.loadE T28 rfl pk (by assumption) (by exact fun _ => rfl) rfl (by decide) ?_)
  refine RunL.op rfl rfl (OpJ.storeW T28 rfl rfl rfl rfl (by simp [Value.oneCell', Pa.c, Ly.c, Mv.c, Co.c]) up ?_)
  refine kp [2] rfl ?_
  refine Run.ret ?_
  exact ret_out (b16, b8) (.cellA T28 rfl pk (by rfl) .nil) trivial rfl gv
-- (*standard.state).price
theorem ac115 (bx : Nat) (t : Sk) (m : Mv) (c : Co) (la : Option Addr) (nl lc : Nat) (pa : Option Addr) (np pc : Nat) (p : Int) (hq : i64 m.qty) (hp : i64 p) : AC Tryz.prog 115 ⟨[.pointer (some ⟨bx, 0, none⟩), I p]⟩ (stars [pt bx (blk (XC t m c la nl lc pa np pc) 85)]) (Ret (.tuple ⟨[I (priceV m p), I (priceE m p)]⟩) [pt bx (blk (XC t m c la nl lc pa np pc) 85)]) := by
  refine AC.go Tryz.func115 rfl (Nat.le_of_ble_eq_true rfl) fun β => ?_
  refine sr ?_
  refine asg rfl rfl ?_
  refine asg rfl rfl ?_
  refine kp [0, 1] rfl ?_
  refine sr ?_
  refine mvo rfl rfl ?_
  refine RunL.op rfl rfl (OpJ.nilCheck rfl ?_)
  refine RunL.op rfl rfl (OpJ.fieldAddr F85_1 rfl ?_)
  refine RunL.op rfl rfl (OpJ.fieldAddr F47_4 rfl ?_)
  first | refine RunL.op rfl rfl (OpJ.loadF T3 rfl pk (by rfl) ?_) | refine RunL.op rfl rfl (OpJ.loadO T3 rfl pk (by assumption) (by rfl) (by exact fun _ => rfl) ?_)
  refine mvo rfl rfl ?_
  refine RunL.call C120 rfl rfl rfl (ac120 _ _ (by omega) (by omega)) .nil ?_
  refine mvo rfl rfl ?_
  refine RunL.op rfl rfl (OpJ.extract rfl rfl ?_)
  refine RunL.op rfl rfl (OpJ.extract rfl rfl ?_)
  refine asg rfl rfl ?_
  refine asg rfl rfl ?_
  refine kp [6, 7] rfl ?_
  refine Run.seq ?_
  refine sr ?_
  refine mvo rfl rfl ?_
  refine RunL.op rfl rfl (OpJ.not rfl ?_)
  refine kp [6, 19] rfl ?_
  first | refine Run.if rfl (fun h1 => ?_) (fun h1 => ?_) | refine Run.cond rfl (fun h1 => ?_) (fun h1 => ?_)
  · skip
    refine sr ?_
    refine asg rfl rfl ?_
    refine asg rfl rfl ?_
    refine kp [4, 5] rfl ?_
    refine Run.ret ?_
    exact ret_one (.tmp rfl (.tmp rfl .nil)) (by simp [tup, priceV, priceE, *] <;> simp_all) gv
  · skip
    refine Run.skip ?_
    refine sr ?_
    refine mvo rfl rfl ?_
    refine asg rfl rfl ?_
    refine asg rfl rfl ?_
    refine kp [4, 5] rfl ?_
    refine Run.ret ?_
    exact ret_one (.tmp rfl (.tmp rfl .nil)) (by simp [tup, priceV, priceE, *] <;> simp_all) gv
-- (*standard.state).record
theorem ac116 (bx : Nat) (t : Sk) (m : Mv) (c : Co) (la : Option Addr) (nl lc : Nat) (pa : Option Addr) (np pc : Nat) (v : Int) (enl : nl = t.layers.length) (enp : np = t.past.length) (hn : t.layers.length ≤ 1000000 ∧ t.past.length ≤ 1000000) : AC Tryz.prog 116 ⟨[.pointer (some ⟨bx, 0, none⟩), I v]⟩ (stars [pt bx (blk (XC t m c la nl lc pa np pc) 85), own 66 7 pa np pc ((t.past).flatMap Pa.c)]) (Outs (fun _ : Option Addr × Nat => True) (fun _ => .tuple ⟨[]⟩) (fun x => [pt bx (blk (XC { t with past := t.past ++ [(⟨m.seq, m.kind, m.lot, m.qty, v, 0, 0⟩ : Pa)] } m c la nl lc x.1 (t.past ++ [(⟨m.seq, m.kind, m.lot, m.qty, v, 0, 0⟩ : Pa)]).length x.2) 85), own 66 7 x.1 (t.past ++ [(⟨m.seq, m.kind, m.lot, m.qty, v, 0, 0⟩ : Pa)]).length x.2 ((t.past ++ [(⟨m.seq, m.kind, m.lot, m.qty, v, 0, 0⟩ : Pa)]).flatMap Pa.c)])) := by
  subst enl enp
  have hnl := hn.1; have hnp := hn.2
  refine AC.go Tryz.func116 rfl (Nat.le_of_ble_eq_true rfl) fun β => ?_
  refine regionD HM ?_
  refine tk 0 rfl rfl rfl (DetJ.move rfl) ?_
  refine tk 1 rfl rfl rfl (DetJ.move rfl) ?_
  refine tk 2 rfl rfl rfl (DetJ.nilCheck rfl) ?_
  refine tk 3 rfl rfl rfl (DetJ.fieldAddr F85_0 rfl) ?_
  refine tk 4 rfl rfl rfl (DetJ.fieldAddr F28_4 rfl) ?_
  first | refine RunD.takeF 5 rfl rfl kr T26 rfl pk (by rfl) ?_ | refine RunD.takeO 5 rfl rfl kr T26 rfl pk (by assumption) (by rfl) (by exact fun _ => rfl) ?_
  refine tk 6 rfl rfl rfl (DetJ.move rfl) ?_
  refine tk 7 rfl rfl rfl (DetJ.nilCheck rfl) ?_
  refine tk 8 rfl rfl rfl (DetJ.fieldAddr F85_1 rfl) ?_
  refine tk 9 rfl rfl rfl (DetJ.fieldAddr F47_0 rfl) ?_
  first | refine RunD.takeF 10 rfl rfl kr T3 rfl pk (by rfl) ?_ | refine RunD.takeO 10 rfl rfl kr T3 rfl pk (by assumption) (by rfl) (by exact fun _ => rfl) ?_
  refine tk 11 rfl rfl rfl (DetJ.move rfl) ?_
  refine tk 12 rfl rfl rfl (DetJ.nilCheck rfl) ?_
  refine tk 13 rfl rfl rfl (DetJ.fieldAddr F85_1 rfl) ?_
  refine tk 14 rfl rfl rfl (DetJ.fieldAddr F47_3 rfl) ?_
  first | refine RunD.takeF 15 rfl rfl kr T3 rfl pk (by rfl) ?_ | refine RunD.takeO 15 rfl rfl kr T3 rfl pk (by assumption) (by rfl) (by exact fun _ => rfl) ?_
  refine tk 16 rfl rfl rfl (DetJ.move rfl) ?_
  refine tk 17 rfl rfl rfl (DetJ.nilCheck rfl) ?_
  refine tk 18 rfl rfl rfl (DetJ.fieldAddr F85_1 rfl) ?_
  refine tk 19 rfl rfl rfl (DetJ.fieldAddr F47_6 rfl) ?_
  first | refine RunD.takeF 20 rfl rfl kr T9 rfl pk (by rfl) ?_ | refine RunD.takeO 20 rfl rfl kr T9 rfl pk (by assumption) (by rfl) (by exact fun _ => rfl) ?_
  refine tk 21 rfl rfl rfl (DetJ.move rfl) ?_
  refine tk 22 rfl rfl rfl (DetJ.nilCheck rfl) ?_
  refine tk 23 rfl rfl rfl (DetJ.fieldAddr F85_1 rfl) ?_
  refine tk 24 rfl rfl rfl (DetJ.fieldAddr F47_4 rfl) ?_
  first | refine RunD.takeF 25 rfl rfl kr T3 rfl pk (by rfl) ?_ | refine RunD.takeO 25 rfl rfl kr T3 rfl pk (by assumption) (by rfl) (by exact fun _ => rfl) ?_
  refine tk 26 rfl rfl rfl (DetJ.move rfl) ?_
  refine RunD.takeB 27 rfl rfl kr B66 rfl rfl fun cs hcs => ?_
  simp only [Sk.c, Mv.c, Co.c, bldL, bldA, Value.cells, bs, Nat.reduceAdd, Nat.reduceLeDiff, Nat.reduceLT] at hcs; subst hcs
  refine RunD.op 28 [false, false, false, false, true, true, true, false, false, true, true, true, false, false, true, true, true, false, false, true, true, true, true, true, true, true, true, true] rfl rfl rfl kr kr (OpJ.buildSlice1 S26 rfl rfl rfl (by decide) (by decide) Z66 rfl fun b32 => ⟨po, ?_⟩)
  refine RunD.op 29 [true, true, true, true, true, true, true, true, true, true, true, true, false, false, false, true, true, true] rfl rfl rfl kr kr (OpJ.append1 (⟨m.seq, m.kind, m.lot, m.qty, v, 0, 0⟩ : Pa) S26 M66 rfl rfl pk pk rfl rfl (by simp [Value.oneCell', Pa.c, Ly.c, Mv.c, Co.c]) rfl (by omega) (by omega) fun a33 c33 => ⟨po, ?_⟩)
  refine tk 30 rfl rfl rfl (DetJ.nilCheck rfl) ?_
  refine tk 31 rfl rfl rfl (DetJ.fieldAddr F85_0 rfl) ?_
  refine tk 32 rfl rfl rfl (DetJ.fieldAddr F28_4 rfl) ?_
  refine RunD.op 33 [false, false, false, false, false, false, false, false, false, false, false, false, false, false, false, false, false, false] rfl rfl rfl kr kr (OpJ.store1 T26 rfl rfl rfl up (by simp) ⟨po, ?_⟩)
  refine kd [] rfl ?_
  exact ret_out (a33, c33) .nil trivial rfl gv
-- (*standard.state).back
theorem ac117 (bx : Nat) (t : Sk) (m : Mv) (c : Co) (la : Option Addr) (nl lc : Nat) (pa : Option Addr) (np pc : Nat) (kind : Int) (enl : nl = t.layers.length) (enp : np = t.past.length) (hk : kind ≠ 0) (hn : t.layers.length ≤ 1000000 ∧ t.past.length ≤ 1000000) : AC Tryz.prog 117 ⟨[.pointer (some ⟨bx, 0, none⟩), I kind]⟩ (stars [pt bx (blk (XC t m c la nl lc pa np pc) 85), own 66 7 pa np pc ((t.past).flatMap Pa.c)]) (Ret (.tuple ⟨[I (okIdx (refd kind m t.past)), I (errOf (refd kind m t.past))]⟩) [pt bx (blk (XC t m c la nl lc pa np pc) 85), own 66 7 pa np pc ((t.past).flatMap Pa.c)]) := by
  subst enl enp
  have hnl := hn.1; have hnp := hn.2
  refine AC.go Tryz.func117 rfl (Nat.le_of_ble_eq_true rfl) fun β => ?_
  refine sr ?_
  refine asg rfl rfl ?_
  refine asg rfl rfl ?_
  refine kp [0, 1] rfl ?_
  refine Run.seq ?_
  refine regionD HM ?_
  refine tk 0 rfl rfl rfl (DetJ.move rfl) ?_
  refine tk 1 rfl rfl rfl (DetJ.nilCheck rfl) ?_
  refine tk 2 rfl rfl rfl (DetJ.fieldAddr F85_0 rfl) ?_
  refine tk 3 rfl rfl rfl (DetJ.fieldAddr F28_4 rfl) ?_
  first | refine RunD.takeF 4 rfl rfl kr T26 rfl pk (by rfl) ?_ | refine RunD.takeO 4 rfl rfl kr T26 rfl pk (by assumption) (by rfl) (by exact fun _ => rfl) ?_
  refine tk 5 rfl rfl rfl (DetJ.move rfl) ?_
  refine tk 6 rfl rfl rfl (DetJ.move rfl) ?_
  refine tk 7 rfl rfl rfl (DetJ.nilCheck rfl) ?_
  refine tk 8 rfl rfl rfl (DetJ.fieldAddr F85_1 rfl) ?_
  refine tk 9 rfl rfl rfl (DetJ.fieldAddr F47_7 rfl) ?_
  first | refine RunD.takeF 10 rfl rfl kr T3 rfl pk (by rfl) ?_ | refine RunD.takeO 10 rfl rfl kr T3 rfl pk (by assumption) (by rfl) (by exact fun _ => rfl) ?_
  refine RunD.takeB 11 rfl rfl kr B82 rfl rfl fun cs hcs => ?_
  simp only [Sk.c, Mv.c, Co.c, bldL, bldA, Value.cells, bs, Nat.reduceAdd, Nat.reduceLeDiff, Nat.reduceLT] at hcs; subst hcs
  refine RunD.op 12 [false, false, false, true, true, true, false, false, false, false, true, true] rfl rfl rfl kr kr (OpJ.callRet C44 rfl rfl (ac44k _ _ _ t.past kind m.ref own.rds (by omega) hk) tks ⟨po, ?_⟩)
  refine tk 13 rfl rfl rfl (DetJ.assign rfl) ?_
  refine kd [0, 6] rfl ?_
  refine Run.seq ?_
  refine sr ?_
  refine mvo rfl rfl ?_
  refine RunL.op rfl rfl (OpJ.lss rfl rfl ?_)
  rcases hf : findI (isPast kind m.ref) t.past with _ | ⟨i, p⟩
  · skip
    refine kp [0, 6, 22] rfl ?_
    refine Run.true rfl ?_
    refine sr ?_
    refine asg rfl rfl ?_
    refine asg rfl rfl ?_
    refine kp [4, 5] rfl ?_
    refine Run.ret ?_
    exact ret_one (.tmp rfl (.tmp rfl .nil)) (by simp [tup, refd, hf, okIdx, errOf, idxOf, *]) gv
  · skip
    obtain ⟨hx, _⟩ := findI_some hf
    have hi := (List.getElem?_eq_some_iff.1 hx).1
    refine RunL.ownAddr pk (flat_ne (k := 7) (fun _ => rfl) (by decide) hx) fun b e hcap => ?_
    subst e
    simp only [idxOf]
    refine RunL.set (congrArg Value.bool (decide_eq_false (show ¬ ((i : Int) < 0) by omega))) ?_
    refine kp [0, 6, 22] rfl ?_
    refine Run.false rfl ?_
    refine Run.skip ?_
    refine Run.seq ?_
    refine sr ?_
    refine mvo rfl rfl ?_
    refine RunL.op rfl rfl (OpJ.nilCheck rfl ?_)
    refine RunL.op rfl rfl (OpJ.fieldAddr F85_0 rfl ?_)
    refine RunL.op rfl rfl (OpJ.fieldAddr F28_4 rfl ?_)
    first | refine RunL.op rfl rfl (OpJ.loadF T26 rfl pk (by rfl) ?_) | refine RunL.op rfl rfl (OpJ.loadO T26 rfl pk (by assumption) (by rfl) (by exact fun _ => rfl) ?_)
    refine mvo rfl rfl ?_
    refine RunL.op rfl rfl (OpJ.indexAddr S26 rfl rfl (by omega) ?_)
    first | refine RunL.op rfl rfl (OpJ.loadW T66 rfl pk (by rfl) ?_) | refine RunL.op rfl rfl (OpJ.loadP T66 rfl pk (by simp) ?_) | refine RunL.op rfl rfl (OpJ.loadE T66 rfl pk (by assumption) (by exact fun _ => rfl) rfl (by decide) ?_)
    refine RunL.op rfl rfl (OpJ.alloc Z66 fun b7 => ?_)
    refine RunL.op rfl rfl (OpJ.storeW T66 rfl rfl rfl rfl (by simp [Value.oneCell', Pa.c, Ly.c, Mv.c, Co.c]) up ?_)
    refine kp [0, 6, 7] rfl ?_
    refine Run.seq ?_
    refine regionD HM ?_
    refine tk 0 rfl rfl rfl (DetJ.move rfl) ?_
    refine tk 1 rfl rfl rfl (DetJ.nilCheck rfl) ?_
    refine tk 2 rfl rfl rfl (DetJ.fieldAddr F85_1 rfl) ?_
    refine tk 3 rfl rfl rfl (DetJ.fieldAddr F47_4 rfl) ?_
    first | refine RunD.takeF 4 rfl rfl kr T3 rfl pk (by rfl) ?_ | refine RunD.takeO 4 rfl rfl kr T3 rfl pk (by assumption) (by rfl) (by exact fun _ => rfl) ?_
    refine tk 5 rfl rfl rfl (DetJ.fieldAddr F66_3 rfl) ?_
    first | refine RunD.takeF 6 rfl rfl kr T3 rfl pk (by rfl) ?_ | refine RunD.takeO 6 rfl rfl kr T3 rfl pk (by assumption) (by rfl) (by exact fun _ => rfl) ?_
    refine tk 7 rfl rfl rfl (DetJ.fieldAddr F66_5 rfl) ?_
    first | refine RunD.takeF 8 rfl rfl kr T3 rfl pk (by rfl) ?_ | refine RunD.takeO 8 rfl rfl kr T3 rfl pk (by assumption) (by rfl) (by exact fun _ => rfl) ?_
    refine tk 9 rfl rfl rfl (DetJ.sub rfl rfl) ?_
    refine tk 10 rfl rfl rfl (DetJ.gtr rfl rfl) ?_
    refine kd [6, 41] rfl ?_
    first | refine Run.if rfl (fun h1 => ?_) (fun h1 => ?_) | refine Run.cond rfl (fun h1 => ?_) (fun h1 => ?_)
    · skip
      refine sr ?_
      refine asg rfl rfl ?_
      refine asg rfl rfl ?_
      refine kp [4, 5] rfl ?_
      refine Run.ret ?_
      exact ret_one (.tmp rfl (.tmp rfl .nil)) (by simp [tup, refd, hf, okIdx, errOf, idxOf, *]) gv
    · skip
      refine Run.skip ?_
      refine sr ?_
      refine mvo rfl rfl ?_
      refine asg rfl rfl ?_
      refine asg rfl rfl ?_
      refine kp [4, 5] rfl ?_
      refine Run.ret ?_
      exact ret_one (.tmp rfl (.tmp rfl .nil)) (by simp [tup, refd, hf, okIdx, errOf, idxOf, *]) gv
end Go.Proofs.YtdcchollplhioaaGreatDoor

namespace Go.Proofs.YtdcchollplhioaaGreatDoor
open Go Go.SL Go.Proofs
theorem C115 : CI Tryz.prog 115 := .of (by kernel_rfl)
theorem C116 : CI Tryz.prog 116 := .of (by kernel_rfl)
theorem C117 : CI Tryz.prog 117 := .of (by kernel_rfl)
theorem C118 : CI Tryz.prog 118 := .of (by kernel_rfl)
theorem F28_2 : FI Tryz.prog 28 2 3 2 := .of (by kernel_rfl)
theorem F85_2 : FI Tryz.prog 85 2 43 13 := .of (by kernel_rfl)
-- (*standard.state).receipt
theorem ac78 (bx : Nat) (t : Sk) (m : Mv) (c : Co) (la : Option Addr) (nl lc : Nat) (pa : Option Addr) (np pc : Nat) (enl : nl = t.layers.length) (enp : np = t.past.length) (ht : t.ok 999999) (hm : m.ok) : AC Tryz.prog 78 ⟨[.pointer (some ⟨bx, 0, none⟩)]⟩ (stars [pt bx (blk (XC t m c la nl lc pa np pc) 85), own 64 4 la nl lc ((t.layers).flatMap Ly.c), own 66 7 pa np pc ((t.past).flatMap Pa.c)]) (Outs (fun _ : Option Addr × Nat × Option Addr × Nat => True) (fun _ => I (errOf (sRecv t m c))) (fun x => Aft 85 64 66 bx m (sRecv t m c) x)) := by
  subst enl enp
  have hn : t.layers.length ≤ 1000000 ∧ t.past.length ≤ 1000000 := ⟨Nat.le_trans ht.nl (by decide), Nat.le_trans ht.np (by decide)⟩
  have hnl := ht.nl; have hnp := ht.np
  obtain ⟨hm1, hm2⟩ := hm
  refine AC.go Tryz.func78 rfl (Nat.le_of_ble_eq_true rfl) fun β => ?_
  refine sr ?_
  refine asg rfl rfl ?_
  refine kp [0] rfl ?_
  refine sr ?_
  refine mvo rfl rfl ?_
  refine mvo rfl rfl ?_
  refine RunL.op rfl rfl (OpJ.nilCheck rfl ?_)
  refine RunL.op rfl rfl (OpJ.fieldAddr F85_0 rfl ?_)
  refine RunL.op rfl rfl (OpJ.fieldAddr F28_2 rfl ?_)
  first | refine RunL.op rfl rfl (OpJ.loadF T3 rfl pk (by rfl) ?_) | refine RunL.op rfl rfl (OpJ.loadO T3 rfl pk (by assumption) (by rfl) (by exact fun _ => rfl) ?_)
  refine RunL.call C115 rfl rfl rfl (ac115 bx t m c _ _ _ _ _ _ t.price hm1 ht.pr) tks ?_
  refine mvo rfl rfl ?_
  refine RunL.op rfl rfl (OpJ.extract rfl rfl ?_)
  refine RunL.op rfl rfl (OpJ.extract rfl rfl ?_)
  refine asg rfl rfl ?_
  refine asg rfl rfl ?_
  refine kp [0, 3, 4] rfl ?_
  refine Run.seq ?_
  refine sr ?_
  refine mvo rfl rfl ?_
  refine RunL.op rfl rfl (OpJ.neq rfl rfl ?_)
  refine kp [0, 3, 4, 16] rfl ?_
  first | refine Run.if rfl (fun h1 => ?_) (fun h1 => ?_) | refine Run.cond rfl (fun h1 => ?_) (fun h1 => ?_)
  · skip
    refine sr ?_
    refine mvo rfl rfl ?_
    refine asg rfl rfl ?_
    refine kp [2] rfl ?_
    refine Run.ret ?_
    have hres : sRecv t m c = .error _ := (by unfold sRecv; rw [if_pos (by assumption)]); refine ret_out (none, 0, none, 0) (.tmp rfl .nil) trivial (by rw [hres]; rfl) ?_; rw [hres]; exact gv
  · skip
    refine Run.skip ?_
    refine sr ?_
    refine mvo rfl rfl ?_
    refine mvo rfl rfl ?_
    refine RunL.op rfl rfl (OpJ.nilCheck rfl ?_)
    refine RunL.op rfl rfl (OpJ.fieldAddr F85_1 rfl ?_)
    refine RunL.op rfl rfl (OpJ.fieldAddr F47_5 rfl ?_)
    first | refine RunL.op rfl rfl (OpJ.loadF T3 rfl pk (by rfl) ?_) | refine RunL.op rfl rfl (OpJ.loadO T3 rfl pk (by assumption) (by rfl) (by exact fun _ => rfl) ?_)
    refine RunL.callX C116 rfl rfl rfl (ac116 bx t m c la _ lc pa _ pc _ rfl rfl hn) tks fun ⟨pa2, pc2⟩ _ => ?_
    refine kp [0, 3] rfl ?_
    refine Run.seq ?_
    refine regionD HM ?_
    refine tk 0 rfl rfl rfl (DetJ.move rfl) ?_
    refine tk 1 rfl rfl rfl (DetJ.move rfl) ?_
    refine tk 2 rfl rfl rfl (DetJ.nilCheck rfl) ?_
    refine tk 3 rfl rfl rfl (DetJ.fieldAddr F85_1 rfl) ?_
    refine tk 4 rfl rfl rfl (DetJ.fieldAddr F47_4 rfl) ?_
    first | refine RunD.takeF 5 rfl rfl kr T3 rfl pk (by rfl) ?_ | refine RunD.takeO 5 rfl rfl kr T3 rfl pk (by assumption) (by rfl) (by exact fun _ => rfl) ?_
    refine tk 6 rfl rfl rfl (DetJ.move rfl) ?_
    refine tk 7 rfl rfl rfl (DetJ.move rfl) ?_
    refine tk 8 rfl rfl rfl (DetJ.nilCheck rfl) ?_
    refine tk 9 rfl rfl rfl (DetJ.fieldAddr F85_1 rfl) ?_
    refine tk 10 rfl rfl rfl (DetJ.fieldAddr F47_5 rfl) ?_
    first | refine RunD.takeF 11 rfl rfl kr T3 rfl pk (by rfl) ?_ | refine RunD.takeO 11 rfl rfl kr T3 rfl pk (by assumption) (by rfl) (by exact fun _ => rfl) ?_
    refine tk 12 rfl rfl rfl (DetJ.move rfl) ?_
    refine tk 13 rfl rfl rfl (DetJ.sub rfl rfl) ?_
    refine RunD.takeB 14 rfl rfl kr B43 rfl rfl fun cs hcs => ?_
    simp only [Sk.c, Mv.c, Co.c, bldL, bldA, Value.cells, bs, Nat.reduceAdd, Nat.reduceLeDiff, Nat.reduceLT] at hcs; subst hcs
    refine tk 15 rfl rfl rfl (DetJ.nilCheck rfl) ?_
    refine tk 16 rfl rfl rfl (DetJ.fieldAddr F85_2 rfl) ?_
    refine RunD.op 17 [false, false, false, false, false, false, false, false, false, false, false, false, false, false, false, false, false] rfl rfl rfl kr kr (OpJ.store T43 rfl rfl rfl rfl (by simp [Value.cells, Value.oneCell', Pa.c, Ly.c, Mv.c, Co.c]) up (by simp) ⟨po, ?_⟩)
    refine kd [] rfl ?_
    refine sr ?_
    refine asg rfl rfl ?_
    refine kp [2] rfl ?_
    refine Run.ret ?_
    have hres : sRecv t m c = .ok _ := (by unfold sRecv; rw [if_neg (by assumption)]); refine ret_out (la, lc, pa2, pc2) (.tmp rfl .nil) trivial (by rw [hres]; rfl) ?_; rw [hres]; simp only [Aft, List.length_set, List.length_append]; exact gv
-- (*standard.state).issue
theorem ac79 (bx : Nat) (t : Sk) (m : Mv) (c : Co) (la : Option Addr) (nl lc : Nat) (pa : Option Addr) (np pc : Nat) (enl : nl = t.layers.length) (enp : np = t.past.length) (ht : t.ok 999999) (hm : m.ok) : AC Tryz.prog 79 ⟨[.pointer (some ⟨bx, 0, none⟩)]⟩ (stars [pt bx (blk (XC t m c la nl lc pa np pc) 85), own 64 4 la nl lc ((t.layers).flatMap Ly.c), own 66 7 pa np pc ((t.past).flatMap Pa.c)]) (Outs (fun _ : Option Addr × Nat × Option Addr × Nat => True) (fun _ => I (errOf (sIssue t m c))) (fun x => Aft 85 64 66 bx m (sIssue t m c) x)) := by
  subst enl enp
  have hn : t.layers.length ≤ 1000000 ∧ t.past.length ≤ 1000000 := ⟨Nat.le_trans ht.nl (by decide), Nat.le_trans ht.np (by decide)⟩
  have hnl := ht.nl; have hnp := ht.np
  obtain ⟨hm1, hm2⟩ := hm
  refine AC.go Tryz.func79 rfl (Nat.le_of_ble_eq_true rfl) fun β => ?_
  refine sr ?_
  refine asg rfl rfl ?_
  refine kp [0] rfl ?_
  refine Run.seq ?_
  refine Run.seq ?_
  refine regionD HM ?_
  refine tk 0 rfl rfl rfl (DetJ.move rfl) ?_
  refine tk 1 rfl rfl rfl (DetJ.nilCheck rfl) ?_
  refine tk 2 rfl rfl rfl (DetJ.fieldAddr F85_0 rfl) ?_
  refine tk 3 rfl rfl rfl (DetJ.fieldAddr F28_0 rfl) ?_
  first | refine RunD.takeF 4 rfl rfl kr T3 rfl pk (by rfl) ?_ | refine RunD.takeO 4 rfl rfl kr T3 rfl pk (by assumption) (by rfl) (by exact fun _ => rfl) ?_
  refine tk 5 rfl rfl rfl (DetJ.move rfl) ?_
  refine tk 6 rfl rfl rfl (DetJ.nilCheck rfl) ?_
  refine tk 7 rfl rfl rfl (DetJ.fieldAddr F85_1 rfl) ?_
  refine tk 8 rfl rfl rfl (DetJ.fieldAddr F47_4 rfl) ?_
  first | refine RunD.takeF 9 rfl rfl kr T3 rfl pk (by rfl) ?_ | refine RunD.takeO 9 rfl rfl kr T3 rfl pk (by assumption) (by rfl) (by exact fun _ => rfl) ?_
  refine tk 10 rfl rfl rfl (DetJ.lss rfl rfl) ?_
  refine kd [0, 15] rfl ?_
  first | refine Run.if rfl (fun h1 => ?_) (fun h1 => ?_) | refine Run.cond rfl (fun h1 => ?_) (fun h1 => ?_)
  · skip
    refine sr ?_
    refine asg rfl rfl ?_
    refine kp [2] rfl ?_
    refine Run.ret ?_
    have hres : sIssue t m c = .error _ := (by unfold sIssue; rw [if_pos (by assumption)]); refine ret_out (none, 0, none, 0) (.tmp rfl .nil) trivial (by rw [hres]; rfl) ?_; rw [hres]; exact gv
  · skip
    refine Run.skip ?_
    refine sr ?_
    refine mvo rfl rfl ?_
    refine mvo rfl rfl ?_
    refine RunL.op rfl rfl (OpJ.nilCheck rfl ?_)
    refine RunL.op rfl rfl (OpJ.fieldAddr F85_0 rfl ?_)
    refine RunL.op rfl rfl (OpJ.fieldAddr F28_2 rfl ?_)
    first | refine RunL.op rfl rfl (OpJ.loadF T3 rfl pk (by rfl) ?_) | refine RunL.op rfl rfl (OpJ.loadO T3 rfl pk (by assumption) (by rfl) (by exact fun _ => rfl) ?_)
    refine RunL.call C115 rfl rfl rfl (ac115 bx t m c _ _ _ _ _ _ t.price hm1 ht.pr) tks ?_
    refine mvo rfl rfl ?_
    refine RunL.op rfl rfl (OpJ.extract rfl rfl ?_)
    refine RunL.op rfl rfl (OpJ.extract rfl rfl ?_)
    refine asg rfl rfl ?_
    refine asg rfl rfl ?_
    refine kp [0, 3, 4] rfl ?_
    refine Run.seq ?_
    refine sr ?_
    refine mvo rfl rfl ?_
    refine RunL.op rfl rfl (OpJ.neq rfl rfl ?_)
    refine kp [0, 3, 4, 27] rfl ?_
    first | refine Run.if rfl (fun h2 => ?_) (fun h2 => ?_) | refine Run.cond rfl (fun h2 => ?_) (fun h2 => ?_)
    · skip
      refine sr ?_
      refine mvo rfl rfl ?_
      refine asg rfl rfl ?_
      refine kp [2] rfl ?_
      refine Run.ret ?_
      have hres : sIssue t m c = .error _ := (by unfold sIssue; rw [if_neg h1, if_pos (by assumption)]); refine ret_out (none, 0, none, 0) (.tmp rfl .nil) trivial (by rw [hres]; rfl) ?_; rw [hres]; exact gv
    · skip
      refine Run.skip ?_
      refine sr ?_
      refine mvo rfl rfl ?_
      refine mvo rfl rfl ?_
      refine RunL.callX C116 rfl rfl rfl (ac116 bx t m c la _ lc pa _ pc _ rfl rfl hn) tks fun ⟨pa2, pc2⟩ _ => ?_
      refine kp [0, 3] rfl ?_
      refine sr ?_
      refine mvo rfl rfl ?_
      refine mvo rfl rfl ?_
      refine RunL.op rfl rfl (OpJ.nilCheck rfl ?_)
      refine RunL.op rfl rfl (OpJ.fieldAddr F85_1 rfl ?_)
      refine RunL.op rfl rfl (OpJ.fieldAddr F47_4 rfl ?_)
      first | refine RunL.op rfl rfl (OpJ.loadF T3 rfl pk (by rfl) ?_) | refine RunL.op rfl rfl (OpJ.loadO T3 rfl pk (by assumption) (by rfl) (by exact fun _ => rfl) ?_)
      refine RunL.op rfl rfl (OpJ.neg rfl ?_)
      refine mvo rfl rfl ?_
      refine RunL.op rfl rfl (OpJ.neg rfl ?_)
      refine RunL.op rfl rfl (OpJ.build B43 rfl rfl fun cs hcs => ?_)
      simp only [Sk.c, Mv.c, Co.c, bldL, bldA, Value.cells, bs, Nat.reduceAdd, Nat.reduceLeDiff, Nat.reduceLT] at hcs; subst hcs
      refine RunL.op rfl rfl (OpJ.nilCheck rfl ?_)
      refine RunL.op rfl rfl (OpJ.fieldAddr F85_2 rfl ?_)
      refine RunL.op rfl rfl (OpJ.store T43 rfl rfl rfl rfl (by simp [Value.cells, Value.oneCell', Pa.c, Ly.c, Mv.c, Co.c]) up (by simp) ?_)
      refine kp [] rfl ?_
      refine sr ?_
      refine asg rfl rfl ?_
      refine kp [2] rfl ?_
      refine Run.ret ?_
      have hres : sIssue t m c = .ok _ := (by unfold sIssue; rw [if_neg h1, if_neg (by assumption)]); refine ret_out (la, lc, pa2, pc2) (.tmp rfl .nil) trivial (by rw [hres]; rfl) ?_; rw [hres]; simp only [Aft, List.length_set, List.length_append]; exact gv
-- (*standard.state).customer
theorem ac80 (bx : Nat) (t : Sk) (m : Mv) (c : Co) (la : Option Addr) (nl lc : Nat) (pa : Option Addr) (np pc : Nat) (enl : nl = t.layers.length) (enp : np = t.past.length) (ht : t.ok 999999) (hm : m.ok) : AC Tryz.prog 80 ⟨[.pointer (some ⟨bx, 0, none⟩)]⟩ (stars [pt bx (blk (XC t m c la nl lc pa np pc) 85), own 64 4 la nl lc ((t.layers).flatMap Ly.c), own 66 7 pa np pc ((t.past).flatMap Pa.c)]) (Outs (fun _ : Option Addr × Nat × Option Addr × Nat => True) (fun _ => I (errOf (sCust t m c))) (fun x => Aft 85 64 66 bx m (sCust t m c) x)) := by
  subst enl enp
  have hn : t.layers.length ≤ 1000000 ∧ t.past.length ≤ 1000000 := ⟨Nat.le_trans ht.nl (by decide), Nat.le_trans ht.np (by decide)⟩
  have hnl := ht.nl; have hnp := ht.np
  obtain ⟨hm1, hm2⟩ := hm
  refine AC.go Tryz.func80 rfl (Nat.le_of_ble_eq_true rfl) fun β => ?_
  refine sr ?_
  refine asg rfl rfl ?_
  refine kp [0] rfl ?_
  refine sr ?_
  refine mvo rfl rfl ?_
  refine RunL.call C117 rfl rfl rfl (ac117 bx t m c la _ lc pa _ pc _ rfl rfl (by decide) hn) tks ?_
  refine mvo rfl rfl ?_
  refine RunL.op rfl rfl (OpJ.extract rfl rfl ?_)
  refine RunL.op rfl rfl (OpJ.extract rfl rfl ?_)
  refine asg rfl rfl ?_
  refine asg rfl rfl ?_
  refine kp [0, 3, 4] rfl ?_
  refine Run.seq ?_
  refine sr ?_
  refine mvo rfl rfl ?_
  refine RunL.op rfl rfl (OpJ.neq rfl rfl ?_)
  refine kp [0, 3, 4, 13] rfl ?_
  first | refine Run.if rfl (fun h1 => ?_) (fun h1 => ?_) | refine Run.cond rfl (fun h1 => ?_) (fun h1 => ?_)
  · skip
    refine sr ?_
    obtain ⟨e, he⟩ := errOf_ne h1
    refine mvo rfl rfl ?_
    refine asg rfl rfl ?_
    refine kp [2] rfl ?_
    refine Run.ret ?_
    have hres : sCust t m c = .error e := (by unfold sCust; rw [he]); rw [he]; refine ret_out (none, 0, none, 0) (.tmp rfl .nil) trivial (by rw [hres]; rfl) ?_; rw [hres]; exact gv
  · skip
    refine Run.skip ?_
    refine sr ?_
    obtain ⟨i, p, hr, hx⟩ := refd_ok (Decidable.not_not.1 h1)
    rw [hr]
    have hi := (List.getElem?_eq_some_iff.1 hx).1
    obtain ⟨hp1, hp2, hp3, hp4⟩ := ht.pa i p hx
    refine RunL.ownAddr pk (flat_ne (k := 7) (fun _ => rfl) (by decide) hx) fun b e hcap => ?_
    subst e
    simp only [okIdx]
    refine mvo rfl rfl ?_
    refine mvo rfl rfl ?_
    refine RunL.op rfl rfl (OpJ.nilCheck rfl ?_)
    refine RunL.op rfl rfl (OpJ.fieldAddr F85_0 rfl ?_)
    refine RunL.op rfl rfl (OpJ.fieldAddr F28_2 rfl ?_)
    first | refine RunL.op rfl rfl (OpJ.loadF T3 rfl pk (by rfl) ?_) | refine RunL.op rfl rfl (OpJ.loadO T3 rfl pk (by assumption) (by rfl) (by exact fun _ => rfl) ?_)
    refine RunL.call C115 rfl rfl rfl (ac115 bx t m c _ _ _ _ _ _ t.price hm1 ht.pr) tks ?_
    refine mvo rfl rfl ?_
    refine RunL.op rfl rfl (OpJ.extract rfl rfl ?_)
    refine RunL.op rfl rfl (OpJ.extract rfl rfl ?_)
    refine asg rfl rfl ?_
    refine asg rfl rfl ?_
    refine kp [0, 3, 4, 5] rfl ?_
    refine Run.seq ?_
    refine sr ?_
    refine mvo rfl rfl ?_
    refine RunL.op rfl rfl (OpJ.neq rfl rfl ?_)
    refine kp [0, 3, 4, 5, 26] rfl ?_
    first | refine Run.if rfl (fun h2 => ?_) (fun h2 => ?_) | refine Run.cond rfl (fun h2 => ?_) (fun h2 => ?_)
    · skip
      refine sr ?_
      refine mvo rfl rfl ?_
      refine asg rfl rfl ?_
      refine kp [2] rfl ?_
      refine Run.ret ?_
      have hres : sCust t m c = .error _ := (by unfold sCust; rw [hr]; simp only; rw [if_pos (by assumption)]); refine ret_out (none, 0, none, 0) (.tmp rfl .nil) trivial (by rw [hres]; rfl) ?_; rw [hres]; exact gv
    · skip
      refine Run.skip ?_
      refine Run.seq ?_
      refine regionD HM ?_
      refine tk 0 rfl rfl rfl (DetJ.move rfl) ?_
      refine tk 1 rfl rfl rfl (DetJ.nilCheck rfl) ?_
      refine tk 2 rfl rfl rfl (DetJ.fieldAddr F85_0 rfl) ?_
      refine tk 3 rfl rfl rfl (DetJ.fieldAddr F28_4 rfl) ?_
      first | refine RunD.takeF 4 rfl rfl kr T26 rfl pk (by rfl) ?_ | refine RunD.takeO 4 rfl rfl kr T26 rfl pk (by assumption) (by rfl) (by exact fun _ => rfl) ?_
      refine tk 5 rfl rfl rfl (DetJ.move rfl) ?_
      refine tk 6 rfl rfl rfl (DetJ.indexAddr S26 rfl rfl (by omega)) ?_
      first | refine RunD.takeW 7 rfl rfl kr T66 rfl pk (by rfl) ?_ | refine RunD.takeP 7 rfl rfl kr T66 rfl pk (by simp) ?_ | refine RunD.takeE 7 rfl rfl kr T66 rfl pk (by assumption) (by exact fun _ => rfl) rfl (by decide) ?_
      refine tk 8 rfl rfl rfl (DetJ.move rfl) ?_
      refine tk 9 rfl rfl rfl (DetJ.nilCheck rfl) ?_
      refine tk 10 rfl rfl rfl (DetJ.fieldAddr F85_1 rfl) ?_
      refine tk 11 rfl rfl rfl (DetJ.fieldAddr F47_4 rfl) ?_
      first | refine RunD.takeF 12 rfl rfl kr T3 rfl pk (by rfl) ?_ | refine RunD.takeO 12 rfl rfl kr T3 rfl pk (by assumption) (by rfl) (by exact fun _ => rfl) ?_
      refine RunD.op 13 [false, false, false, true, true, false, false, false, false, true, true, true, true] rfl rfl rfl kr kr (OpJ.callRet C118 rfl rfl (ac118 p m hm1) .nil ⟨po, ?_⟩)
      refine tk 14 rfl rfl rfl (DetJ.assign rfl) ?_
      refine kd [0, 3, 5, 6] rfl ?_
      refine Run.seq ?_
      refine regionD HM ?_
      refine tk 0 rfl rfl rfl (DetJ.move rfl) ?_
      refine tk 1 rfl rfl rfl (DetJ.nilCheck rfl) ?_
      refine tk 2 rfl rfl rfl (DetJ.fieldAddr F85_0 rfl) ?_
      refine tk 3 rfl rfl rfl (DetJ.fieldAddr F28_4 rfl) ?_
      first | refine RunD.takeF 4 rfl rfl kr T26 rfl pk (by rfl) ?_ | refine RunD.takeO 4 rfl rfl kr T26 rfl pk (by assumption) (by rfl) (by exact fun _ => rfl) ?_
      refine tk 5 rfl rfl rfl (DetJ.move rfl) ?_
      refine tk 6 rfl rfl rfl (DetJ.indexAddr S26 rfl rfl (by omega)) ?_
      refine tk 7 rfl rfl rfl (DetJ.fieldAddr F66_5 rfl) ?_
      first | refine RunD.takeF 8 rfl rfl kr T3 rfl pk (by rfl) ?_ | refine RunD.takeO 8 rfl rfl kr T3 rfl pk (by assumption) (by rfl) (by exact fun _ => rfl) ?_
      refine tk 9 rfl rfl rfl (DetJ.move rfl) ?_
      refine tk 10 rfl rfl rfl (DetJ.nilCheck rfl) ?_
      refine tk 11 rfl rfl rfl (DetJ.fieldAddr F85_1 rfl) ?_
      refine tk 12 rfl rfl rfl (DetJ.fieldAddr F47_4 rfl) ?_
      first | refine RunD.takeF 13 rfl rfl kr T3 rfl pk (by rfl) ?_ | refine RunD.takeO 13 rfl rfl kr T3 rfl pk (by assumption) (by rfl) (by exact fun _ => rfl) ?_
      refine tk 14 rfl rfl rfl (DetJ.add rfl rfl) ?_
      refine tk 15 rfl rfl rfl (DetJ.indexAddr S26 rfl rfl (by omega)) ?_
      refine tk 16 rfl rfl rfl (DetJ.fieldAddr F66_5 rfl) ?_
      refine RunD.op 17 [false, false, false, false, false, false, false, false, false, false, false, false, false, false, false, false, false] rfl rfl rfl kr kr (OpJ.storeO (i := i) (u' := sendP p m) T3 rfl rfl rfl hx (fun _ => rfl) (by decide) rfl up ⟨po, ?_⟩)
      refine kd [0, 3, 5, 6] rfl ?_
      refine sr ?_
      have hx1 := set_get hx (sendP p m)
      refine mvo rfl rfl ?_
      refine RunL.op rfl rfl (OpJ.nilCheck rfl ?_)
      refine RunL.op rfl rfl (OpJ.fieldAddr F85_0 rfl ?_)
      refine RunL.op rfl rfl (OpJ.fieldAddr F28_4 rfl ?_)
      first | refine RunL.op rfl rfl (OpJ.loadF T26 rfl pk (by rfl) ?_) | refine RunL.op rfl rfl (OpJ.loadO T26 rfl pk (by assumption) (by rfl) (by exact fun _ => rfl) ?_)
      refine mvo rfl rfl ?_
      refine RunL.op rfl rfl (OpJ.indexAddr S26 rfl rfl (by omega) ?_)
      refine RunL.op rfl rfl (OpJ.fieldAddr F66_6 rfl ?_)
      first | refine RunL.op rfl rfl (OpJ.loadF T3 rfl pk (by rfl) ?_) | refine RunL.op rfl rfl (OpJ.loadO T3 rfl pk (by assumption) (by rfl) (by exact fun _ => rfl) ?_)
      refine mvo rfl rfl ?_
      refine RunL.op rfl rfl (OpJ.add rfl rfl ?_)
      refine RunL.op rfl rfl (OpJ.indexAddr S26 rfl rfl (by omega) ?_)
      refine RunL.op rfl rfl (OpJ.fieldAddr F66_6 rfl ?_)
      refine RunL.op rfl rfl (OpJ.storeO (i := i) (u' := backP p m) T3 rfl rfl rfl hx1 (fun _ => rfl) (by decide) rfl up ?_)
      rw [List.set_set]
      refine kp [0, 5, 6] rfl ?_
      refine sr ?_
      refine mvo rfl rfl ?_
      refine mvo rfl rfl ?_
      refine RunL.op rfl rfl (OpJ.nilCheck rfl ?_)
      refine RunL.op rfl rfl (OpJ.fieldAddr F85_1 rfl ?_)
      refine RunL.op rfl rfl (OpJ.fieldAddr F47_4 rfl ?_)
      first | refine RunL.op rfl rfl (OpJ.loadF T3 rfl pk (by rfl) ?_) | refine RunL.op rfl rfl (OpJ.loadO T3 rfl pk (by assumption) (by rfl) (by exact fun _ => rfl) ?_)
      refine mvo rfl rfl ?_
      refine mvo rfl rfl ?_
      refine mvo rfl rfl ?_
      refine RunL.op rfl rfl (OpJ.sub rfl rfl ?_)
      refine RunL.op rfl rfl (OpJ.build B43 rfl rfl fun cs hcs => ?_)
      simp only [Sk.c, Mv.c, Co.c, bldL, bldA, Value.cells, bs, Nat.reduceAdd, Nat.reduceLeDiff, Nat.reduceLT] at hcs; subst hcs
      refine RunL.op rfl rfl (OpJ.nilCheck rfl ?_)
      refine RunL.op rfl rfl (OpJ.fieldAddr F85_2 rfl ?_)
      refine RunL.op rfl rfl (OpJ.store T43 rfl rfl rfl rfl (by simp [Value.cells, Value.oneCell', Pa.c, Ly.c, Mv.c, Co.c]) up (by simp) ?_)
      refine kp [] rfl ?_
      refine sr ?_
      refine asg rfl rfl ?_
      refine kp [2] rfl ?_
      refine Run.ret ?_
      have hres : sCust t m c = .ok _ := (by unfold sCust; rw [hr]; simp only; rw [if_neg (by assumption)]); refine ret_out (la, lc, (some ⟨b, 0, none⟩), pc) (.tmp rfl .nil) trivial (by rw [hres]; rfl) ?_; rw [hres]; simp only [Aft, List.length_set, List.length_append]; exact gv
-- (*standard.state).supplier
theorem ac81 (bx : Nat) (t : Sk) (m : Mv) (c : Co) (la : Option Addr) (nl lc : Nat) (pa : Option Addr) (np pc : Nat) (enl : nl = t.layers.length) (enp : np = t.past.length) (ht : t.ok 999999) (hm : m.ok) : AC Tryz.prog 81 ⟨[.pointer (some ⟨bx, 0, none⟩)]⟩ (stars [pt bx (blk (XC t m c la nl lc pa np pc) 85), own 64 4 la nl lc ((t.layers).flatMap Ly.c), own 66 7 pa np pc ((t.past).flatMap Pa.c)]) (Outs (fun _ : Option Addr × Nat × Option Addr × Nat => True) (fun _ => I (errOf (sSupp t m c))) (fun x => Aft 85 64 66 bx m (sSupp t m c) x)) := by
  subst enl enp
  have hn : t.layers.length ≤ 1000000 ∧ t.past.length ≤ 1000000 := ⟨Nat.le_trans ht.nl (by decide), Nat.le_trans ht.np (by decide)⟩
  have hnl := ht.nl; have hnp := ht.np
  obtain ⟨hm1, hm2⟩ := hm
  refine AC.go Tryz.func81 rfl (Nat.le_of_ble_eq_true rfl) fun β => ?_
  refine sr ?_
  refine asg rfl rfl ?_
  refine kp [0] rfl ?_
  refine sr ?_
  refine mvo rfl rfl ?_
  refine RunL.call C117 rfl rfl rfl (ac117 bx t m c la _ lc pa _ pc _ rfl rfl (by decide) hn) tks ?_
  refine mvo rfl rfl ?_
  refine RunL.op rfl rfl (OpJ.extract rfl rfl ?_)
  refine RunL.op rfl rfl (OpJ.extract rfl rfl ?_)
  refine asg rfl rfl ?_
  refine asg rfl rfl ?_
  refine kp [0, 3, 4] rfl ?_
  refine Run.seq ?_
  refine sr ?_
  refine mvo rfl rfl ?_
  refine RunL.op rfl rfl (OpJ.neq rfl rfl ?_)
  refine kp [0, 3, 4, 12] rfl ?_
  first | refine Run.if rfl (fun h1 => ?_) (fun h1 => ?_) | refine Run.cond rfl (fun h1 => ?_) (fun h1 => ?_)
  · skip
    refine sr ?_
    obtain ⟨e, he⟩ := errOf_ne h1
    refine mvo rfl rfl ?_
    refine asg rfl rfl ?_
    refine kp [2] rfl ?_
    refine Run.ret ?_
    have hres : sSupp t m c = .error e := (by unfold sSupp; rw [he]); rw [he]; refine ret_out (none, 0, none, 0) (.tmp rfl .nil) trivial (by rw [hres]; rfl) ?_; rw [hres]; exact gv
  · skip
    refine Run.skip ?_
    refine Run.seq ?_
    refine Run.seq ?_
    refine regionD HM ?_
    obtain ⟨i, p, hr, hx⟩ := refd_ok (Decidable.not_not.1 h1)
    rw [hr]
    have hi := (List.getElem?_eq_some_iff.1 hx).1
    obtain ⟨hp1, hp2, hp3, hp4⟩ := ht.pa i p hx
    refine RunD.ownAddr pk (flat_ne (k := 7) (fun _ => rfl) (by decide) hx) fun b e hcap => ?_
    subst e
    simp only [okIdx]
    refine tk 0 rfl rfl rfl (DetJ.move rfl) ?_
    refine tk 1 rfl rfl rfl (DetJ.nilCheck rfl) ?_
    refine tk 2 rfl rfl rfl (DetJ.fieldAddr F85_0 rfl) ?_
    refine tk 3 rfl rfl rfl (DetJ.fieldAddr F28_0 rfl) ?_
    first | refine RunD.takeF 4 rfl rfl kr T3 rfl pk (by rfl) ?_ | refine RunD.takeO 4 rfl rfl kr T3 rfl pk (by assumption) (by rfl) (by exact fun _ => rfl) ?_
    refine tk 5 rfl rfl rfl (DetJ.move rfl) ?_
    refine tk 6 rfl rfl rfl (DetJ.nilCheck rfl) ?_
    refine tk 7 rfl rfl rfl (DetJ.fieldAddr F85_1 rfl) ?_
    refine tk 8 rfl rfl rfl (DetJ.fieldAddr F47_4 rfl) ?_
    first | refine RunD.takeF 9 rfl rfl kr T3 rfl pk (by rfl) ?_ | refine RunD.takeO 9 rfl rfl kr T3 rfl pk (by assumption) (by rfl) (by exact fun _ => rfl) ?_
    refine tk 10 rfl rfl rfl (DetJ.lss rfl rfl) ?_
    refine kd [0, 3, 24] rfl ?_
    first | refine Run.if rfl (fun h2 => ?_) (fun h2 => ?_) | refine Run.cond rfl (fun h2 => ?_) (fun h2 => ?_)
    · skip
      refine sr ?_
      refine asg rfl rfl ?_
      refine kp [2] rfl ?_
      refine Run.ret ?_
      have hres : sSupp t m c = .error _ := (by unfold sSupp; rw [hr]; simp only; rw [if_pos (by assumption)]); refine ret_out (none, 0, none, 0) (.tmp rfl .nil) trivial (by rw [hres]; rfl) ?_; rw [hres]; exact gv
    · skip
      refine Run.skip ?_
      refine sr ?_
      refine mvo rfl rfl ?_
      refine mvo rfl rfl ?_
      refine RunL.op rfl rfl (OpJ.nilCheck rfl ?_)
      refine RunL.op rfl rfl (OpJ.fieldAddr F85_0 rfl ?_)
      refine RunL.op rfl rfl (OpJ.fieldAddr F28_2 rfl ?_)
      first | refine RunL.op rfl rfl (OpJ.loadF T3 rfl pk (by rfl) ?_) | refine RunL.op rfl rfl (OpJ.loadO T3 rfl pk (by assumption) (by rfl) (by exact fun _ => rfl) ?_)
      refine RunL.call C115 rfl rfl rfl (ac115 bx t m c _ _ _ _ _ _ t.price hm1 ht.pr) tks ?_
      refine mvo rfl rfl ?_
      refine RunL.op rfl rfl (OpJ.extract rfl rfl ?_)
      refine RunL.op rfl rfl (OpJ.extract rfl rfl ?_)
      refine asg rfl rfl ?_
      refine asg rfl rfl ?_
      refine kp [0, 3, 4, 5] rfl ?_
      refine Run.seq ?_
      refine sr ?_
      refine mvo rfl rfl ?_
      refine RunL.op rfl rfl (OpJ.neq rfl rfl ?_)
      refine kp [0, 3, 4, 5, 36] rfl ?_
      first | refine Run.if rfl (fun h3 => ?_) (fun h3 => ?_) | refine Run.cond rfl (fun h3 => ?_) (fun h3 => ?_)
      · skip
        refine sr ?_
        refine mvo rfl rfl ?_
        refine asg rfl rfl ?_
        refine kp [2] rfl ?_
        refine Run.ret ?_
        have hres : sSupp t m c = .error _ := (by unfold sSupp; rw [hr]; simp only; rw [if_neg h2, if_pos (by assumption)]); refine ret_out (none, 0, none, 0) (.tmp rfl .nil) trivial (by rw [hres]; rfl) ?_; rw [hres]; exact gv
      · skip
        refine Run.skip ?_
        refine Run.seq ?_
        refine regionD HM ?_
        refine tk 0 rfl rfl rfl (DetJ.move rfl) ?_
        refine tk 1 rfl rfl rfl (DetJ.nilCheck rfl) ?_
        refine tk 2 rfl rfl rfl (DetJ.fieldAddr F85_0 rfl) ?_
        refine tk 3 rfl rfl rfl (DetJ.fieldAddr F28_4 rfl) ?_
        first | refine RunD.takeF 4 rfl rfl kr T26 rfl pk (by rfl) ?_ | refine RunD.takeO 4 rfl rfl kr T26 rfl pk (by assumption) (by rfl) (by exact fun _ => rfl) ?_
        refine tk 5 rfl rfl rfl (DetJ.move rfl) ?_
        refine tk 6 rfl rfl rfl (DetJ.indexAddr S26 rfl rfl (by omega)) ?_
        refine tk 7 rfl rfl rfl (DetJ.fieldAddr F66_5 rfl) ?_
        first | refine RunD.takeF 8 rfl rfl kr T3 rfl pk (by rfl) ?_ | refine RunD.takeO 8 rfl rfl kr T3 rfl pk (by assumption) (by rfl) (by exact fun _ => rfl) ?_
        refine tk 9 rfl rfl rfl (DetJ.move rfl) ?_
        refine tk 10 rfl rfl rfl (DetJ.nilCheck rfl) ?_
        refine tk 11 rfl rfl rfl (DetJ.fieldAddr F85_1 rfl) ?_
        refine tk 12 rfl rfl rfl (DetJ.fieldAddr F47_4 rfl) ?_
        first | refine RunD.takeF 13 rfl rfl kr T3 rfl pk (by rfl) ?_ | refine RunD.takeO 13 rfl rfl kr T3 rfl pk (by assumption) (by rfl) (by exact fun _ => rfl) ?_
        refine tk 14 rfl rfl rfl (DetJ.add rfl rfl) ?_
        refine tk 15 rfl rfl rfl (DetJ.indexAddr S26 rfl rfl (by omega)) ?_
        refine tk 16 rfl rfl rfl (DetJ.fieldAddr F66_5 rfl) ?_
        refine RunD.op 17 [false, false, false, false, false, false, false, false, false, false, false, false, false, false, false, false, false] rfl rfl rfl kr kr (OpJ.storeO (i := i) (u' := sendP p m) T3 rfl rfl rfl hx (fun _ => rfl) (by decide) rfl up ⟨po, ?_⟩)
        refine kd [0, 5] rfl ?_
        refine Run.seq ?_
        refine regionD HM ?_
        refine tk 0 rfl rfl rfl (DetJ.move rfl) ?_
        refine tk 1 rfl rfl rfl (DetJ.move rfl) ?_
        refine tk 2 rfl rfl rfl (DetJ.nilCheck rfl) ?_
        refine tk 3 rfl rfl rfl (DetJ.fieldAddr F85_1 rfl) ?_
        refine tk 4 rfl rfl rfl (DetJ.fieldAddr F47_4 rfl) ?_
        first | refine RunD.takeF 5 rfl rfl kr T3 rfl pk (by rfl) ?_ | refine RunD.takeO 5 rfl rfl kr T3 rfl pk (by assumption) (by rfl) (by exact fun _ => rfl) ?_
        refine tk 6 rfl rfl rfl (DetJ.neg rfl) ?_
        refine tk 7 rfl rfl rfl (DetJ.move rfl) ?_
        refine tk 8 rfl rfl rfl (DetJ.neg rfl) ?_
        refine tk 9 rfl rfl rfl (DetJ.move rfl) ?_
        refine tk 10 rfl rfl rfl (DetJ.move rfl) ?_
        refine tk 11 rfl rfl rfl (DetJ.nilCheck rfl) ?_
        refine tk 12 rfl rfl rfl (DetJ.fieldAddr F85_1 rfl) ?_
        refine tk 13 rfl rfl rfl (DetJ.fieldAddr F47_5 rfl) ?_
        first | refine RunD.takeF 14 rfl rfl kr T3 rfl pk (by rfl) ?_ | refine RunD.takeO 14 rfl rfl kr T3 rfl pk (by assumption) (by rfl) (by exact fun _ => rfl) ?_
        refine tk 15 rfl rfl rfl (DetJ.sub rfl rfl) ?_
        refine RunD.takeB 16 rfl rfl kr B43 rfl rfl fun cs hcs => ?_
        simp only [Sk.c, Mv.c, Co.c, bldL, bldA, Value.cells, bs, Nat.reduceAdd, Nat.reduceLeDiff, Nat.reduceLT] at hcs; subst hcs
        refine tk 17 rfl rfl rfl (DetJ.nilCheck rfl) ?_
        refine tk 18 rfl rfl rfl (DetJ.fieldAddr F85_2 rfl) ?_
        refine RunD.op 19 [false, false, false, false, false, false, false, false, false, false, false, false, false, false, false, false, false, false, false] rfl rfl rfl kr kr (OpJ.store T43 rfl rfl rfl rfl (by simp [Value.cells, Value.oneCell', Pa.c, Ly.c, Mv.c, Co.c]) up (by simp) ⟨po, ?_⟩)
        refine kd [] rfl ?_
        refine sr ?_
        refine asg rfl rfl ?_
        refine kp [2] rfl ?_
        refine Run.ret ?_
        have hres : sSupp t m c = .ok _ := (by unfold sSupp; rw [hr]; simp only; rw [if_neg h2, if_neg (by assumption)]); refine ret_out (la, lc, (some ⟨b, 0, none⟩), pc) (.tmp rfl .nil) trivial (by rw [hres]; rfl) ?_; rw [hres]; simp only [Aft, List.length_set, List.length_append]; exact gv
-- (*standard.state).landed
theorem ac82 (bx : Nat) (t : Sk) (m : Mv) (c : Co) (la : Option Addr) (nl lc : Nat) (pa : Option Addr) (np pc : Nat) (enl : nl = t.layers.length) (enp : np = t.past.length) (ht : t.ok 999999) (hm : m.ok) : AC Tryz.prog 82 ⟨[.pointer (some ⟨bx, 0, none⟩)]⟩ (stars [pt bx (blk (XC t m c la nl lc pa np pc) 85), own 64 4 la nl lc ((t.layers).flatMap Ly.c), own 66 7 pa np pc ((t.past).flatMap Pa.c)]) (Outs (fun _ : Option Addr × Nat × Option Addr × Nat => True) (fun _ => I (errOf (sLand t m c))) (fun x => Aft 85 64 66 bx m (sLand t m c) x)) := by
  subst enl enp
  have hn : t.layers.length ≤ 1000000 ∧ t.past.length ≤ 1000000 := ⟨Nat.le_trans ht.nl (by decide), Nat.le_trans ht.np (by decide)⟩
  have hnl := ht.nl; have hnp := ht.np
  obtain ⟨hm1, hm2⟩ := hm
  refine AC.go Tryz.func82 rfl (Nat.le_of_ble_eq_true rfl) fun β => ?_
  refine sr ?_
  refine asg rfl rfl ?_
  refine kp [0] rfl ?_
  refine Run.seq ?_
  refine sr ?_
  refine mvo rfl rfl ?_
  refine RunL.call C117 rfl rfl rfl (ac117 bx t m c la _ lc pa _ pc _ rfl rfl (by decide) hn) tks ?_
  refine mvo rfl rfl ?_
  refine RunL.op rfl rfl (OpJ.extract rfl rfl ?_)
  refine RunL.op rfl rfl (OpJ.extract rfl rfl ?_)
  refine asg rfl rfl ?_
  refine asg rfl rfl ?_
  refine kp [0, 4] rfl ?_
  refine sr ?_
  refine mvo rfl rfl ?_
  refine RunL.op rfl rfl (OpJ.neq rfl rfl ?_)
  refine kp [0, 4, 11] rfl ?_
  first | refine Run.if rfl (fun h1 => ?_) (fun h1 => ?_) | refine Run.cond rfl (fun h1 => ?_) (fun h1 => ?_)
  · skip
    refine sr ?_
    obtain ⟨e, he⟩ := errOf_ne h1
    refine mvo rfl rfl ?_
    refine asg rfl rfl ?_
    refine kp [2] rfl ?_
    refine Run.ret ?_
    have hres : sLand t m c = .error e := (by unfold sLand; rw [he]); rw [he]; refine ret_out (none, 0, none, 0) (.tmp rfl .nil) trivial (by rw [hres]; rfl) ?_; rw [hres]; exact gv
  · skip
    refine Run.skip ?_
    refine sr ?_
    obtain ⟨i, p, hr, hx⟩ := refd_ok (Decidable.not_not.1 h1)
    refine mvo rfl rfl ?_
    refine mvo rfl rfl ?_
    refine RunL.op rfl rfl (OpJ.nilCheck rfl ?_)
    refine RunL.op rfl rfl (OpJ.fieldAddr F85_1 rfl ?_)
    refine RunL.op rfl rfl (OpJ.fieldAddr F47_5 rfl ?_)
    first | refine RunL.op rfl rfl (OpJ.loadF T3 rfl pk (by rfl) ?_) | refine RunL.op rfl rfl (OpJ.loadO T3 rfl pk (by assumption) (by rfl) (by exact fun _ => rfl) ?_)
    refine RunL.op rfl rfl (OpJ.build B43 rfl rfl fun cs hcs => ?_)
    simp only [Sk.c, Mv.c, Co.c, bldL, bldA, Value.cells, bs, Nat.reduceAdd, Nat.reduceLeDiff, Nat.reduceLT] at hcs; subst hcs
    refine RunL.op rfl rfl (OpJ.nilCheck rfl ?_)
    refine RunL.op rfl rfl (OpJ.fieldAddr F85_2 rfl ?_)
    refine RunL.op rfl rfl (OpJ.store T43 rfl rfl rfl rfl (by simp [Value.cells, Value.oneCell', Pa.c, Ly.c, Mv.c, Co.c]) up (by simp) ?_)
    refine kp [] rfl ?_
    refine sr ?_
    refine asg rfl rfl ?_
    refine kp [2] rfl ?_
    refine Run.ret ?_
    have hres : sLand t m c = .ok _ := (by unfold sLand; rw [hr]); refine ret_out (la, lc, pa, pc) (.tmp rfl .nil) trivial (by rw [hres]; rfl) ?_; rw [hres]; simp only [Aft, List.length_set, List.length_append]; exact gv
end Go.Proofs.YtdcchollplhioaaGreatDoor

namespace Go.Proofs.YtdcchollplhioaaGreatDoor
open Go Go.SL Go.Proofs
theorem C119 : CI Tryz.prog 119 := .of (by kernel_rfl)
theorem C48 : CI Tryz.prog 48 := .of (by kernel_rfl)
-- (*standard.state).reprice
theorem ac83 (bx : Nat) (t : Sk) (m : Mv) (c : Co) (la : Option Addr) (nl lc : Nat) (pa : Option Addr) (np pc : Nat) (enl : nl = t.layers.length) (enp : np = t.past.length) (ht : t.ok 999999) (hm : m.ok) : AC Tryz.prog 83 ⟨[.pointer (some ⟨bx, 0, none⟩)]⟩ (stars [pt bx (blk (XC t m c la nl lc pa np pc) 85), own 64 4 la nl lc ((t.layers).flatMap Ly.c), own 66 7 pa np pc ((t.past).flatMap Pa.c)]) (Outs (fun _ : Option Addr × Nat × Option Addr × Nat => True) (fun _ => I (errOf (sRepr t m c))) (fun x => Aft 85 64 66 bx m (sRepr t m c) x)) := by
  subst enl enp
  have hn : t.layers.length ≤ 1000000 ∧ t.past.length ≤ 1000000 := ⟨Nat.le_trans ht.nl (by decide), Nat.le_trans ht.np (by decide)⟩
  have hnl := ht.nl; have hnp := ht.np
  obtain ⟨hm1, hm2⟩ := hm
  refine AC.go Tryz.func83 rfl (Nat.le_of_ble_eq_true rfl) fun β => ?_
  refine sr ?_
  refine asg rfl rfl ?_
  refine kp [0] rfl ?_
  refine Run.seq ?_
  refine regionD HM ?_
  refine tk 0 rfl rfl rfl (DetJ.move rfl) ?_
  refine tk 1 rfl rfl rfl (DetJ.nilCheck rfl) ?_
  refine tk 2 rfl rfl rfl (DetJ.fieldAddr F85_1 rfl) ?_
  refine tk 3 rfl rfl rfl (DetJ.fieldAddr F47_5 rfl) ?_
  first | refine RunD.takeF 4 rfl rfl kr T3 rfl pk (by rfl) ?_ | refine RunD.takeO 4 rfl rfl kr T3 rfl pk (by assumption) (by rfl) (by exact fun _ => rfl) ?_
  refine tk 5 rfl rfl rfl (DetJ.move rfl) ?_
  refine tk 6 rfl rfl rfl (DetJ.nilCheck rfl) ?_
  refine tk 7 rfl rfl rfl (DetJ.fieldAddr F85_0 rfl) ?_
  refine tk 8 rfl rfl rfl (DetJ.fieldAddr F28_2 rfl) ?_
  first | refine RunD.takeF 9 rfl rfl kr T3 rfl pk (by rfl) ?_ | refine RunD.takeO 9 rfl rfl kr T3 rfl pk (by assumption) (by rfl) (by exact fun _ => rfl) ?_
  refine RunD.op 10 [false, false, false, true, true, false, false, false, true, true] rfl rfl rfl kr kr (OpJ.callRet C119 rfl rfl (ac119 _ _ hm2 ht.pr) .nil ⟨po, ?_⟩)
  refine tk 11 rfl rfl rfl (DetJ.move rfl) ?_
  refine tk 12 rfl rfl rfl (DetJ.extract rfl rfl) ?_
  refine tk 13 rfl rfl rfl (DetJ.extract rfl rfl) ?_
  refine tk 14 rfl rfl rfl (DetJ.assign rfl) ?_
  refine tk 15 rfl rfl rfl (DetJ.assign rfl) ?_
  refine kd [0, 3, 4] rfl ?_
  refine sr ?_
  refine mvo rfl rfl ?_
  refine RunL.op rfl rfl (OpJ.nilCheck rfl ?_)
  refine RunL.op rfl rfl (OpJ.fieldAddr F85_0 rfl ?_)
  refine RunL.op rfl rfl (OpJ.fieldAddr F28_0 rfl ?_)
  first | refine RunL.op rfl rfl (OpJ.loadF T3 rfl pk (by rfl) ?_) | refine RunL.op rfl rfl (OpJ.loadO T3 rfl pk (by assumption) (by rfl) (by exact fun _ => rfl) ?_)
  refine mvo rfl rfl ?_
  refine RunL.call C120 rfl rfl rfl (ac120 _ _ ht.q subN_i64) .nil ?_
  refine mvo rfl rfl ?_
  refine RunL.op rfl rfl (OpJ.extract rfl rfl ?_)
  refine RunL.op rfl rfl (OpJ.extract rfl rfl ?_)
  refine asg rfl rfl ?_
  refine asg rfl rfl ?_
  refine kp [0, 4, 5, 6] rfl ?_
  refine Run.seq ?_
  refine sr ?_
  refine RunL.cut (t := 41) (v := Bo (!subOk m.cost t.price || !mulOk t.qty (subN m.cost t.price) || !withinB (reprV t m))) (kt (ks := [0, 5]) rfl) ?_ ?_
  · skip
    refine mvo rfl rfl ?_
    refine RunL.op rfl rfl (OpJ.not rfl ?_)
    refine mvo rfl rfl ?_
    first | refine RunL.splitP (t := 33) rfl (fun g1 => ?_) (fun g1 => ?_) | refine RunL.split (t := 33) rfl (fun g1 => ?_) (fun g1 => ?_)
    · skip
      refine RunL.no rfl rfl rfl rfl ?_
      refine RunL.no rfl rfl rfl rfl ?_
      refine RunL.op rfl rfl (OpJ.pickT rfl rfl ?_)
      refine mvo rfl rfl ?_
      refine RunL.no rfl rfl rfl rfl ?_
      refine RunL.no rfl rfl rfl rfl ?_
      refine RunL.no rfl rfl rfl rfl ?_
      refine RunL.op rfl rfl (OpJ.pickT rfl rfl ?_)
      exact RunL.nil ⟨.cons (by first | rfl | (show some (Value.bool _) = some (Value.bool _); simp [reprV, *]; done) | (show some (Value.bool _) = some (Value.bool _); simp_all)) (kt (ks := [0, 5]) rfl), rfl⟩
    · skip
      refine RunL.yes rfl rfl rfl rfl (OpJ.move rfl ?_)
      refine RunL.yes rfl rfl rfl rfl (OpJ.not rfl ?_)
      refine RunL.op rfl rfl (OpJ.pickF rfl rfl ?_)
      refine mvo rfl rfl ?_
      first | refine RunL.splitP (t := 37) rfl (fun g2 => ?_) (fun g2 => ?_) | refine RunL.split (t := 37) rfl (fun g2 => ?_) (fun g2 => ?_)
      · skip
        refine RunL.no rfl rfl rfl rfl ?_
        refine RunL.no rfl rfl rfl rfl ?_
        refine RunL.no rfl rfl rfl rfl ?_
        refine RunL.op rfl rfl (OpJ.pickT rfl rfl ?_)
        exact RunL.nil ⟨.cons (by first | rfl | (show some (Value.bool _) = some (Value.bool _); simp [reprV, *]; done) | (show some (Value.bool _) = some (Value.bool _); simp_all)) (kt (ks := [0, 5]) rfl), rfl⟩
      · skip
        refine RunL.yes rfl rfl rfl rfl (OpJ.move rfl ?_)
        refine RunL.callG C48 rfl rfl rfl rfl rfl (ac48 _) .nil ?_
        refine RunL.yes rfl rfl rfl rfl (OpJ.not rfl ?_)
        refine RunL.op rfl rfl (OpJ.pickF rfl rfl ?_)
        exact RunL.nil ⟨.cons (by first | rfl | (show some (Value.bool _) = some (Value.bool _); simp [reprV, *]; done) | (show some (Value.bool _) = some (Value.bool _); simp_all)) (kt (ks := [0, 5]) rfl), rfl⟩
  first | refine Run.if rfl (fun h3 => ?_) (fun h3 => ?_) | refine Run.cond rfl (fun h3 => ?_) (fun h3 => ?_)
  · skip
    refine sr ?_
    refine asg rfl rfl ?_
    refine kp [2] rfl ?_
    refine Run.ret ?_
    have hres : sRepr t m c = .error _ := (by unfold sRepr; exact if_pos (by assumption)); refine ret_out (none, 0, none, 0) (.tmp rfl .nil) trivial (by rw [hres]; rfl) ?_; rw [hres]; exact gv
  · skip
    refine Run.skip ?_
    refine sr ?_
    refine mvo rfl rfl ?_
    refine mvo rfl rfl ?_
    refine RunL.op rfl rfl (OpJ.nilCheck rfl ?_)
    refine RunL.op rfl rfl (OpJ.fieldAddr F85_1 rfl ?_)
    refine RunL.op rfl rfl (OpJ.fieldAddr F47_5 rfl ?_)
    first | refine RunL.op rfl rfl (OpJ.loadF T3 rfl pk (by rfl) ?_) | refine RunL.op rfl rfl (OpJ.loadO T3 rfl pk (by assumption) (by rfl) (by exact fun _ => rfl) ?_)
    refine RunL.op rfl rfl (OpJ.nilCheck rfl ?_)
    refine RunL.op rfl rfl (OpJ.fieldAddr F85_0 rfl ?_)
    refine RunL.op rfl rfl (OpJ.fieldAddr F28_2 rfl ?_)
    refine RunL.op rfl rfl (OpJ.store1 T3 rfl rfl rfl up (by simp) ?_)
    refine kp [0, 5] rfl ?_
    refine sr ?_
    refine mvo rfl rfl ?_
    refine mvo rfl rfl ?_
    refine mvo rfl rfl ?_
    refine RunL.op rfl rfl (OpJ.neg rfl ?_)
    refine RunL.op rfl rfl (OpJ.build B43 rfl rfl fun cs hcs => ?_)
    simp only [Sk.c, Mv.c, Co.c, bldL, bldA, Value.cells, bs, Nat.reduceAdd, Nat.reduceLeDiff, Nat.reduceLT] at hcs; subst hcs
    refine RunL.op rfl rfl (OpJ.nilCheck rfl ?_)
    refine RunL.op rfl rfl (OpJ.fieldAddr F85_2 rfl ?_)
    refine RunL.op rfl rfl (OpJ.store T43 rfl rfl rfl rfl (by simp [Value.cells, Value.oneCell', Pa.c, Ly.c, Mv.c, Co.c]) up (by simp) ?_)
    refine kp [] rfl ?_
    refine sr ?_
    refine asg rfl rfl ?_
    refine kp [2] rfl ?_
    refine Run.ret ?_
    have hres : sRepr t m c = .ok _ := (by unfold sRepr; exact if_neg (Bool.eq_false_iff.1 (by assumption))); refine ret_out (la, lc, pa, pc) (.tmp rfl .nil) trivial (by rw [hres]; rfl) ?_; rw [hres]; simp only [Aft, List.length_set, List.length_append]; exact gv
end Go.Proofs.YtdcchollplhioaaGreatDoor

namespace Go.Proofs.YtdcchollplhioaaGreatDoor
open Go Go.SL Go.Proofs
theorem C78 : CI Tryz.prog 78 := .of (by kernel_rfl)
theorem C79 : CI Tryz.prog 79 := .of (by kernel_rfl)
theorem C80 : CI Tryz.prog 80 := .of (by kernel_rfl)
theorem C81 : CI Tryz.prog 81 := .of (by kernel_rfl)
theorem C82 : CI Tryz.prog 82 := .of (by kernel_rfl)
theorem C83 : CI Tryz.prog 83 := .of (by kernel_rfl)
theorem acs78 (bx : Nat) (t : Sk) (m : Mv) (c : Co) (la : Option Addr) (nl lc : Nat) (pa : Option Addr) (np pc : Nat) (enl : nl = t.layers.length) (enp : np = t.past.length) (ht : t.ok 999999) (hm : m.ok) (hk : m.kind = 1) : AC Tryz.prog 78 ⟨[.pointer (some ⟨bx, 0, none⟩)]⟩ (stars [pt bx (blk (XC t m c la nl lc pa np pc) 85), own 64 4 la nl lc ((t.layers).flatMap Ly.c), own 66 7 pa np pc ((t.past).flatMap Pa.c)]) (Outs (fun _ : Option Addr × Nat × Option Addr × Nat => True) (fun _ => I (errOf (sDo t m c))) (fun x => Aft 85 64 66 bx m (sDo t m c) x)) := by
  rw [sDo_1 hk]; exact ac78 bx t m c la nl lc pa np pc enl enp ht hm
theorem acs79 (bx : Nat) (t : Sk) (m : Mv) (c : Co) (la : Option Addr) (nl lc : Nat) (pa : Option Addr) (np pc : Nat) (enl : nl = t.layers.length) (enp : np = t.past.length) (ht : t.ok 999999) (hm : m.ok) (hk : m.kind = 2) : AC Tryz.prog 79 ⟨[.pointer (some ⟨bx, 0, none⟩)]⟩ (stars [pt bx (blk (XC t m c la nl lc pa np pc) 85), own 64 4 la nl lc ((t.layers).flatMap Ly.c), own 66 7 pa np pc ((t.past).flatMap Pa.c)]) (Outs (fun _ : Option Addr × Nat × Option Addr × Nat => True) (fun _ => I (errOf (sDo t m c))) (fun x => Aft 85 64 66 bx m (sDo t m c) x)) := by
  rw [sDo_2 hk]; exact ac79 bx t m c la nl lc pa np pc enl enp ht hm
theorem acs80 (bx : Nat) (t : Sk) (m : Mv) (c : Co) (la : Option Addr) (nl lc : Nat) (pa : Option Addr) (np pc : Nat) (enl : nl = t.layers.length) (enp : np = t.past.length) (ht : t.ok 999999) (hm : m.ok) (hk : m.kind = 3) : AC Tryz.prog 80 ⟨[.pointer (some ⟨bx, 0, none⟩)]⟩ (stars [pt bx (blk (XC t m c la nl lc pa np pc) 85), own 64 4 la nl lc ((t.layers).flatMap Ly.c), own 66 7 pa np pc ((t.past).flatMap Pa.c)]) (Outs (fun _ : Option Addr × Nat × Option Addr × Nat => True) (fun _ => I (errOf (sDo t m c))) (fun x => Aft 85 64 66 bx m (sDo t m c) x)) := by
  rw [sDo_3 hk]; exact ac80 bx t m c la nl lc pa np pc enl enp ht hm
theorem acs81 (bx : Nat) (t : Sk) (m : Mv) (c : Co) (la : Option Addr) (nl lc : Nat) (pa : Option Addr) (np pc : Nat) (enl : nl = t.layers.length) (enp : np = t.past.length) (ht : t.ok 999999) (hm : m.ok) (hk : m.kind = 4) : AC Tryz.prog 81 ⟨[.pointer (some ⟨bx, 0, none⟩)]⟩ (stars [pt bx (blk (XC t m c la nl lc pa np pc) 85), own 64 4 la nl lc ((t.layers).flatMap Ly.c), own 66 7 pa np pc ((t.past).flatMap Pa.c)]) (Outs (fun _ : Option Addr × Nat × Option Addr × Nat => True) (fun _ => I (errOf (sDo t m c))) (fun x => Aft 85 64 66 bx m (sDo t m c) x)) := by
  rw [sDo_4 hk]; exact ac81 bx t m c la nl lc pa np pc enl enp ht hm
theorem acs82 (bx : Nat) (t : Sk) (m : Mv) (c : Co) (la : Option Addr) (nl lc : Nat) (pa : Option Addr) (np pc : Nat) (enl : nl = t.layers.length) (enp : np = t.past.length) (ht : t.ok 999999) (hm : m.ok) (hk : m.kind = 5) : AC Tryz.prog 82 ⟨[.pointer (some ⟨bx, 0, none⟩)]⟩ (stars [pt bx (blk (XC t m c la nl lc pa np pc) 85), own 64 4 la nl lc ((t.layers).flatMap Ly.c), own 66 7 pa np pc ((t.past).flatMap Pa.c)]) (Outs (fun _ : Option Addr × Nat × Option Addr × Nat => True) (fun _ => I (errOf (sDo t m c))) (fun x => Aft 85 64 66 bx m (sDo t m c) x)) := by
  rw [sDo_5 hk]; exact ac82 bx t m c la nl lc pa np pc enl enp ht hm
theorem acs83 (bx : Nat) (t : Sk) (m : Mv) (c : Co) (la : Option Addr) (nl lc : Nat) (pa : Option Addr) (np pc : Nat) (enl : nl = t.layers.length) (enp : np = t.past.length) (ht : t.ok 999999) (hm : m.ok) (hk : ¬ m.kind = 1 ∧ ¬ m.kind = 2 ∧ ¬ m.kind = 3 ∧ ¬ m.kind = 4 ∧ ¬ m.kind = 5) : AC Tryz.prog 83 ⟨[.pointer (some ⟨bx, 0, none⟩)]⟩ (stars [pt bx (blk (XC t m c la nl lc pa np pc) 85), own 64 4 la nl lc ((t.layers).flatMap Ly.c), own 66 7 pa np pc ((t.past).flatMap Pa.c)]) (Outs (fun _ : Option Addr × Nat × Option Addr × Nat => True) (fun _ => I (errOf (sDo t m c))) (fun x => Aft 85 64 66 bx m (sDo t m c) x)) := by
  rw [sDo_6 hk]; exact ac83 bx t m c la nl lc pa np pc enl enp ht hm
-- (*standard.state).move
theorem ac46 (bx : Nat) (t : Sk) (m : Mv) (c : Co) (la : Option Addr) (nl lc : Nat) (pa : Option Addr) (np pc : Nat) (enl : nl = t.layers.length) (enp : np = t.past.length) (ht : t.ok 999999) (hm : m.ok) : AC Tryz.prog 46 ⟨[.pointer (some ⟨bx, 0, none⟩)]⟩ (stars [pt bx (blk (XC t m c la nl lc pa np pc) 85), own 64 4 la nl lc ((t.layers).flatMap Ly.c), own 66 7 pa np pc ((t.past).flatMap Pa.c)]) (Outs (fun _ : Option Addr × Nat × Option Addr × Nat => True) (fun _ => I (errOf (sDo t m c))) (fun x => Aft 85 64 66 bx m (sDo t m c) x)) := by
  subst enl enp
  have hn : t.layers.length ≤ 1000000 ∧ t.past.length ≤ 1000000 := ⟨Nat.le_trans ht.nl (by decide), Nat.le_trans ht.np (by decide)⟩
  have hnl := ht.nl; have hnp := ht.np
  obtain ⟨hm1, hm2⟩ := hm
  refine AC.go Tryz.func46 rfl (Nat.le_of_ble_eq_true rfl) fun β => ?_
  refine sr ?_
  refine asg rfl rfl ?_
  refine kp [0] rfl ?_
  refine Run.seq ?_
  refine sr ?_
  refine mvo rfl rfl ?_
  refine RunL.op rfl rfl (OpJ.nilCheck rfl ?_)
  refine RunL.op rfl rfl (OpJ.fieldAddr F85_1 rfl ?_)
  refine RunL.op rfl rfl (OpJ.fieldAddr F47_3 rfl ?_)
  first | refine RunL.op rfl rfl (OpJ.loadF T3 rfl pk (by rfl) ?_) | refine RunL.op rfl rfl (OpJ.loadO T3 rfl pk (by assumption) (by rfl) (by exact fun _ => rfl) ?_)
  refine kp [0, 7] rfl ?_
  refine Run.block ?_
  refine sr ?_
  refine RunL.op rfl rfl (OpJ.eql rfl rfl ?_)
  refine asg rfl rfl ?_
  refine kp [0, 7, 8] rfl ?_
  first | refine Run.if rfl (fun h1 => ?_) (fun h1 => ?_) | refine Run.cond rfl (fun h1 => ?_) (fun h1 => ?_)
  · skip
    refine sr ?_
    refine mvo rfl rfl ?_
    refine RunL.callX C78 rfl rfl rfl (acs78 bx t m c la _ lc pa _ pc rfl rfl ht ⟨hm1, hm2⟩ (by assumption)) tks fun x _ => ?_
    refine asg rfl rfl ?_
    refine kp [2] rfl ?_
    refine Run.ret ?_
    refine ret_out x (.tmp rfl .nil) trivial rfl ?_; simp only [List.append_nil]; exact Gives.refl _
  · skip
    refine sr ?_
    refine RunL.op rfl rfl (OpJ.eql rfl rfl ?_)
    refine asg rfl rfl ?_
    refine kp [0, 7, 12] rfl ?_
    first | refine Run.if rfl (fun h2 => ?_) (fun h2 => ?_) | refine Run.cond rfl (fun h2 => ?_) (fun h2 => ?_)
    · skip
      refine sr ?_
      refine mvo rfl rfl ?_
      refine RunL.callX C79 rfl rfl rfl (acs79 bx t m c la _ lc pa _ pc rfl rfl ht ⟨hm1, hm2⟩ (by assumption)) tks fun x _ => ?_
      refine asg rfl rfl ?_
      refine kp [2] rfl ?_
      refine Run.ret ?_
      refine ret_out x (.tmp rfl .nil) trivial rfl ?_; simp only [List.append_nil]; exact Gives.refl _
    · skip
      refine sr ?_
      refine RunL.op rfl rfl (OpJ.eql rfl rfl ?_)
      refine asg rfl rfl ?_
      refine kp [0, 7, 16] rfl ?_
      first | refine Run.if rfl (fun h3 => ?_) (fun h3 => ?_) | refine Run.cond rfl (fun h3 => ?_) (fun h3 => ?_)
      · skip
        refine sr ?_
        refine mvo rfl rfl ?_
        refine RunL.callX C80 rfl rfl rfl (acs80 bx t m c la _ lc pa _ pc rfl rfl ht ⟨hm1, hm2⟩ (by assumption)) tks fun x _ => ?_
        refine asg rfl rfl ?_
        refine kp [2] rfl ?_
        refine Run.ret ?_
        refine ret_out x (.tmp rfl .nil) trivial rfl ?_; simp only [List.append_nil]; exact Gives.refl _
      · skip
        refine sr ?_
        refine RunL.op rfl rfl (OpJ.eql rfl rfl ?_)
        refine asg rfl rfl ?_
        refine kp [0, 7, 20] rfl ?_
        first | refine Run.if rfl (fun h4 => ?_) (fun h4 => ?_) | refine Run.cond rfl (fun h4 => ?_) (fun h4 => ?_)
        · skip
          refine sr ?_
          refine mvo rfl rfl ?_
          refine RunL.callX C81 rfl rfl rfl (acs81 bx t m c la _ lc pa _ pc rfl rfl ht ⟨hm1, hm2⟩ (by assumption)) tks fun x _ => ?_
          refine asg rfl rfl ?_
          refine kp [2] rfl ?_
          refine Run.ret ?_
          refine ret_out x (.tmp rfl .nil) trivial rfl ?_; simp only [List.append_nil]; exact Gives.refl _
        · skip
          refine sr ?_
          refine RunL.op rfl rfl (OpJ.eql rfl rfl ?_)
          refine asg rfl rfl ?_
          refine kp [0, 24] rfl ?_
          first | refine Run.if rfl (fun h5 => ?_) (fun h5 => ?_) | refine Run.cond rfl (fun h5 => ?_) (fun h5 => ?_)
          · skip
            refine sr ?_
            refine mvo rfl rfl ?_
            refine RunL.callX C82 rfl rfl rfl (acs82 bx t m c la _ lc pa _ pc rfl rfl ht ⟨hm1, hm2⟩ (by assumption)) tks fun x _ => ?_
            refine asg rfl rfl ?_
            refine kp [2] rfl ?_
            refine Run.ret ?_
            refine ret_out x (.tmp rfl .nil) trivial rfl ?_; simp only [List.append_nil]; exact Gives.refl _
          · skip
            refine Run.skip ?_
            refine sr ?_
            refine mvo rfl rfl ?_
            refine RunL.callX C83 rfl rfl rfl (acs83 bx t m c la _ lc pa _ pc rfl rfl ht ⟨hm1, hm2⟩ (by refine ⟨?_, ?_, ?_, ?_, ?_⟩ <;> assumption)) tks fun x _ => ?_
            refine asg rfl rfl ?_
            refine kp [2] rfl ?_
            refine Run.ret ?_
            refine ret_out x (.tmp rfl .nil) trivial rfl ?_; simp only [List.append_nil]; exact Gives.refl _
end Go.Proofs.YtdcchollplhioaaGreatDoor

namespace Go.SL
open Go
theorem mulN_i64 {a b : Int} : i64 (mulN a b) := by
  unfold mulN
  split
  · assumption
  · decide
theorem sDo_ok {N : Nat} {s t : Sk} {m : Mv} {c c' : Co} (hs : s.ok N) (hm : m.ok) (h : sDo s m c = .ok (t, c')) : t.ok (N + 1) ∧ i64 c'.value := by
  have hnl := hs.nl; have hnp := hs.np
  unfold sDo at h
  split at h
  · unfold sRecv at h
    split at h
    · cases h
    · cases h
      exact ⟨⟨by simp only; omega, by simp; omega, hs.ly, all_append1 hs.pa ⟨hm.1, hm.2, (show i64 0 by decide), (show i64 0 by decide)⟩, hs.q, hs.v, hs.pr⟩, priceV_i64⟩
  split at h
  · unfold sIssue at h
    split at h
    · cases h
    · split at h
      · cases h
      · cases h
        exact ⟨⟨by simp only; omega, by simp; omega, hs.ly, all_append1 hs.pa ⟨hm.1, priceV_i64, (show i64 0 by decide), (show i64 0 by decide)⟩, hs.q, hs.v, hs.pr⟩, W_i64 _⟩
  split at h
  · unfold sCust at h
    split at h
    · cases h
    · rename_i i p hr
      split at h
      · cases h
      · cases h
        have hp := hs.pa i p (refd_spec hr).1
        exact ⟨⟨by simp only; omega, by simp; omega, hs.ly, all_set hs.pa ⟨hp.1, hp.2.1, W_i64 _, W_i64 _⟩, hs.q, hs.v, hs.pr⟩, priceV_i64⟩
  split at h
  · unfold sSupp at h
    split at h
    · cases h
    · rename_i i p hr
      split at h
      · cases h
      · split at h
        · cases h
        · cases h
          have hp := hs.pa i p (refd_spec hr).1
          exact ⟨⟨by simp only; omega, by simp; omega, hs.ly, all_set hs.pa ⟨hp.1, hp.2.1, W_i64 _, hp.2.2.2⟩, hs.q, hs.v, hs.pr⟩, W_i64 _⟩
  split at h
  · unfold sLand at h
    split at h
    · cases h
    · cases h; exact ⟨⟨by omega, by omega, hs.ly, hs.pa, hs.q, hs.v, hs.pr⟩, (show i64 0 by decide)⟩
  · unfold sRepr at h
    split at h
    · cases h
    · cases h; exact ⟨⟨by simp only; omega, by simp only; omega, hs.ly, hs.pa, hs.q, hs.v, hm.2⟩, mulN_i64⟩
theorem sDo_err {s : Sk} {m : Mv} {c : Co} {e : Int} (h : sDo s m c = .error e) : e ≠ 0 := by
  unfold sDo at h
  split at h
  · unfold sRecv at h; split at h
    · rename_i he; cases h; exact he
    · cases h
  split at h
  · unfold sIssue at h; split at h
    · cases h; decide
    · split at h
      · rename_i he; cases h; exact he
      · cases h
  split at h
  · unfold sCust at h; split at h
    · rename_i he; cases h; exact refd_err he
    · split at h
      · rename_i he; cases h; exact he
      · cases h
  split at h
  · unfold sSupp at h; split at h
    · rename_i he; cases h; exact refd_err he
    · split at h
      · cases h; decide
      · split at h
        · rename_i he; cases h; exact he
        · cases h
  split at h
  · unfold sLand at h; split at h
    · rename_i he; cases h; exact refd_err he
    · cases h
  · unfold sRepr at h; split at h
    · cases h; decide
    · cases h
end Go.SL

namespace Go.Proofs.YtdcchollplhioaaGreatDoor
open Go Go.SL Go.Proofs
theorem B85 : BI Tryz.prog 85 [.int .i64 0, .int .i64 0, .int .i64 0, .slice none 0 0, .slice none 0 0, .int .i64 0, .int .i64 0, .string ⟨#[]⟩, .int .i64 0, .int .i64 0, .int .i64 0, .string ⟨#[]⟩, .int .i64 0, .int .i64 0, .int .i64 0, .int .i64 0, .int .i64 0] [(0, 5), (5, 8), (13, 4)] := .of (by kernel_rfl) (by kernel_rfl)
theorem C45 : CI Tryz.prog 45 := .of (by kernel_rfl)
theorem C46 : CI Tryz.prog 46 := .of (by kernel_rfl)
theorem C47 : CI Tryz.prog 47 := .of (by kernel_rfl)
theorem F43_0 : FI Tryz.prog 43 0 3 0 := .of (by kernel_rfl)
-- standard.Step
theorem ac22 (s : Sk) (m : Mv) (la : Option Addr) (lc : Nat) (pa : Option Addr) (pc : Nat) (RL RP : HP) (hs : s.ok 999999) (hm : m.ok) (hRL : RdS RL la (s.layers.flatMap Ly.c)) (hRP : RdS RP pa (s.past.flatMap Pa.c)) (R0 : HP) (hR0 : Rd R0 ⟨0, 0, none⟩ lensC) : AC Tryz.prog 22 ⟨[.agg ⟨s.c la lc pa pc⟩, .agg ⟨m.c⟩]⟩ (stars [RL, RP, R0]) (Outs (fun _ : Option Addr × Nat × Option Addr × Nat => True) (fun x => StV (sStep s m) x) (fun x => StB 64 66 (sStep s m) x ++ [RL, RP, R0])) := by
  have hn : s.layers.length ≤ 1000000 ∧ s.past.length ≤ 1000000 := ⟨Nat.le_trans hs.nl (by decide), Nat.le_trans hs.np (by decide)⟩
  have hnl := hn.1; have hnp := hn.2
  refine AC.go Tryz.func22 rfl (Nat.le_of_ble_eq_true rfl) fun β => ?_
  refine sr ?_
  refine RunL.op rfl rfl (OpJ.boxA rfl fun b2 => ?_)
  refine RunL.op rfl rfl (OpJ.boxA rfl fun b3 => ?_)
  refine RunL.op rfl rfl (OpJ.alloc Z28 fun b4 => ?_)
  refine RunL.op rfl rfl (OpJ.alloc Z43 fun b5 => ?_)
  refine asg rfl rfl ?_
  refine kp [2, 3, 4, 5] rfl ?_
  refine Run.seq ?_
  refine sr ?_
  first | refine RunL.op rfl rfl (OpJ.loadW T47 rfl pk (by rfl) ?_) | refine RunL.op rfl rfl (OpJ.loadP T47 rfl pk (by simp) ?_) | refine RunL.op rfl rfl (OpJ.loadE T47 rfl pk (by assumption) (by exact fun _ => rfl) rfl (by decide) ?_)
  refine RunL.call C30 rfl rfl rfl (ac30 _ _ hR0) tks ?_
  refine asg rfl rfl ?_
  refine kp [2, 3, 4, 5, 7] rfl ?_
  refine sr ?_
  refine mvo rfl rfl ?_
  refine RunL.op rfl rfl (OpJ.neq rfl rfl ?_)
  refine kp [2, 3, 4, 5, 7, 15] rfl ?_
  first | refine Run.if rfl (fun h1 => ?_) (fun h1 => ?_) | refine Run.cond rfl (fun h1 => ?_) (fun h1 => ?_)
  · skip
    refine Run.seq ?_
    refine regionD HM ?_
    first | refine RunD.takeW 0 rfl rfl kr T28 rfl pk (by rfl) ?_ | refine RunD.takeP 0 rfl rfl kr T28 rfl pk (by simp) ?_ | refine RunD.takeE 0 rfl rfl kr T28 rfl pk (by assumption) (by exact fun _ => rfl) rfl (by decide) ?_
    first | refine RunD.takeW 1 rfl rfl kr T43 rfl pk (by rfl) ?_ | refine RunD.takeP 1 rfl rfl kr T43 rfl pk (by simp) ?_ | refine RunD.takeE 1 rfl rfl kr T43 rfl pk (by assumption) (by exact fun _ => rfl) rfl (by decide) ?_
    refine tk 2 rfl rfl rfl (DetJ.move rfl) ?_
    refine RunD.op 3 [true, true, false] rfl rfl rfl kr kr (OpJ.storeW T28 rfl rfl rfl rfl (by simp [Value.oneCell', Pa.c, Ly.c, Mv.c, Co.c]) up ⟨po, ?_⟩)
    refine RunD.op 4 [true, false] rfl rfl rfl kr kr (OpJ.storeW T43 rfl rfl rfl rfl (by simp [Value.oneCell', Pa.c, Ly.c, Mv.c, Co.c]) up ⟨po, ?_⟩)
    refine tk 5 rfl rfl rfl (DetJ.assign rfl) ?_
    refine kd [4, 5, 6] rfl ?_
    refine Run.ret ?_
    have hres2 : sStep s m = .error m.one := (by unfold sStep; rw [if_pos h1]); refine ret_out (none, 0, none, 0) (.cellA T28 rfl pk (by rfl) (.cellA T43 rfl pk (by rfl) (.tmp rfl .nil))) trivial (by rw [hres2]; rfl) ?_; rw [hres2]; exact gv
  · skip
    refine Run.skip ?_
    refine Run.seq ?_
    refine sr ?_
    refine RunL.cutG (t := 34) (v := Bo (decide (0 ≤ idxOf (findI (isPast 1 m.seq) s.past)) || decide (0 ≤ idxOf (findI (isPast 2 m.seq) s.past)))) (kt (ks := [2, 3, 4, 5]) rfl) ?_ ?_
    · skip
      refine RunL.op rfl rfl (OpJ.fieldAddr F28_4 rfl ?_)
      first | refine RunL.op rfl rfl (OpJ.loadF T26 rfl pk (by rfl) ?_) | refine RunL.op rfl rfl (OpJ.loadO T26 rfl pk (by assumption) (by rfl) (by exact fun _ => rfl) ?_)
      refine RunL.op rfl rfl (OpJ.fieldAddr F47_0 rfl ?_)
      first | refine RunL.op rfl rfl (OpJ.loadF T3 rfl pk (by rfl) ?_) | refine RunL.op rfl rfl (OpJ.loadO T3 rfl pk (by assumption) (by rfl) (by exact fun _ => rfl) ?_)
      refine RunL.op rfl rfl (OpJ.build B82 rfl rfl fun cs hcs => ?_)
      simp only [Sk.c, Mv.c, Co.c, bldL, bldA, Value.cells, bs, Nat.reduceAdd, Nat.reduceLeDiff, Nat.reduceLT] at hcs; subst hcs
      refine RunL.call C44 rfl rfl rfl (ac44k _ _ _ s.past _ m.seq hRP (by omega) (by decide)) tks ?_
      refine RunL.op rfl rfl (OpJ.geq rfl rfl ?_)
      refine mvo rfl rfl ?_
      first | refine RunL.splitP (t := 26) rfl (fun g2 => ?_) (fun g2 => ?_) | refine RunL.split (t := 26) rfl (fun g2 => ?_) (fun g2 => ?_)
      · skip
        refine RunL.no rfl rfl rfl rfl ?_
        refine RunL.no rfl rfl rfl rfl ?_
        refine RunL.no rfl rfl rfl rfl ?_
        refine RunL.no rfl rfl rfl rfl ?_
        refine RunL.no rfl rfl rfl rfl ?_
        refine RunL.no rfl rfl rfl rfl ?_
        refine RunL.no rfl rfl rfl rfl ?_
        refine RunL.op rfl rfl (OpJ.pickT rfl rfl ?_)
        exact RunL.nil ⟨.cons (by first | rfl | (show some (Value.bool _) = some (Value.bool _); simp [*]; done) | (show some (Value.bool _) = some (Value.bool _); simp_all)) (kt (ks := [2, 3, 4, 5]) rfl), gv⟩
      · skip
        refine RunL.yes rfl rfl rfl rfl (OpJ.fieldAddr F28_4 rfl ?_)
        first | refine RunL.yes rfl rfl rfl rfl (OpJ.loadF T26 rfl pk (by rfl) ?_) | refine RunL.yes rfl rfl rfl rfl (OpJ.loadO T26 rfl pk (by assumption) (by rfl) (by exact fun _ => rfl) ?_)
        refine RunL.yes rfl rfl rfl rfl (OpJ.fieldAddr F47_0 rfl ?_)
        first | refine RunL.yes rfl rfl rfl rfl (OpJ.loadF T3 rfl pk (by rfl) ?_) | refine RunL.yes rfl rfl rfl rfl (OpJ.loadO T3 rfl pk (by assumption) (by rfl) (by exact fun _ => rfl) ?_)
        refine RunL.yes rfl rfl rfl rfl (OpJ.build B82 rfl rfl fun cs hcs => ?_)
        simp only [Sk.c, Mv.c, Co.c, bldL, bldA, Value.cells, bs, Nat.reduceAdd, Nat.reduceLeDiff, Nat.reduceLT] at hcs; subst hcs
        refine RunL.callG C44 rfl rfl rfl rfl rfl (ac44k _ _ _ s.past _ m.seq hRP (by omega) (by decide)) tks ?_
        refine RunL.yes rfl rfl rfl rfl (OpJ.geq rfl rfl ?_)
        refine RunL.op rfl rfl (OpJ.pickF rfl rfl ?_)
        exact RunL.nil ⟨.cons (by first | rfl | (show some (Value.bool _) = some (Value.bool _); simp [*]; done) | (show some (Value.bool _) = some (Value.bool _); simp_all)) (kt (ks := [2, 3, 4, 5]) rfl), gv⟩
    first | refine Run.if rfl (fun h3 => ?_) (fun h3 => ?_) | refine Run.cond rfl (fun h3 => ?_) (fun h3 => ?_)
    · skip
      refine Run.seq ?_
      refine regionD HM ?_
      first | refine RunD.takeW 0 rfl rfl kr T28 rfl pk (by rfl) ?_ | refine RunD.takeP 0 rfl rfl kr T28 rfl pk (by simp) ?_ | refine RunD.takeE 0 rfl rfl kr T28 rfl pk (by assumption) (by exact fun _ => rfl) rfl (by decide) ?_
      first | refine RunD.takeW 1 rfl rfl kr T43 rfl pk (by rfl) ?_ | refine RunD.takeP 1 rfl rfl kr T43 rfl pk (by simp) ?_ | refine RunD.takeE 1 rfl rfl kr T43 rfl pk (by assumption) (by exact fun _ => rfl) rfl (by decide) ?_
      refine RunD.op 2 [true, false] rfl rfl rfl kr kr (OpJ.storeW T28 rfl rfl rfl rfl (by simp [Value.oneCell', Pa.c, Ly.c, Mv.c, Co.c]) up ⟨po, ?_⟩)
      refine RunD.op 3 [false] rfl rfl rfl kr kr (OpJ.storeW T43 rfl rfl rfl rfl (by simp [Value.oneCell', Pa.c, Ly.c, Mv.c, Co.c]) up ⟨po, ?_⟩)
      refine tk 4 rfl rfl rfl (DetJ.assign rfl) ?_
      refine kd [4, 5, 6] rfl ?_
      refine Run.ret ?_
      have hres2 : sStep s m = .error 8 := (by unfold sStep; rw [if_neg h1, if_pos (by rw [← idx_some, ← idx_some]; assumption)]); refine ret_out (none, 0, none, 0) (.cellA T28 rfl pk (by rfl) (.cellA T43 rfl pk (by rfl) (.tmp rfl .nil))) trivial (by rw [hres2]; rfl) ?_; rw [hres2]; exact gv
    · skip
      refine Run.skip ?_
      refine Run.seq ?_
      refine regionD HM ?_
      first | refine RunD.takeW 0 rfl rfl kr T28 rfl pk (by rfl) ?_ | refine RunD.takeP 0 rfl rfl kr T28 rfl pk (by simp) ?_ | refine RunD.takeE 0 rfl rfl kr T28 rfl pk (by assumption) (by exact fun _ => rfl) rfl (by decide) ?_
      first | refine RunD.takeW 2 rfl rfl kr T47 rfl pk (by rfl) ?_ | refine RunD.takeP 2 rfl rfl kr T47 rfl pk (by simp) ?_ | refine RunD.takeE 2 rfl rfl kr T47 rfl pk (by assumption) (by exact fun _ => rfl) rfl (by decide) ?_
      refine RunD.op 1 [true, false] rfl rfl rfl kr kr (OpJ.callOuts C45 rfl rfl (ac45 s la lc pa pc RL RP hn hRL hRP) tks fun ⟨bl, bp⟩ _ => ⟨po, ?_⟩)
      refine RunD.takeB 3 rfl rfl kr B85 rfl rfl fun cs hcs => ?_
      simp only [Sk.c, Mv.c, Co.c, bldL, bldA, Value.cells, bs, Nat.reduceAdd, Nat.reduceLeDiff, Nat.reduceLT] at hcs; subst hcs
      refine RunD.op 4 [false, false] rfl rfl rfl kr kr (OpJ.boxA rfl fun b41 => ⟨po, ?_⟩)
      refine tk 5 rfl rfl rfl (DetJ.assign rfl) ?_
      refine kd [2, 3, 4, 5, 8] rfl ?_
      refine Run.seq ?_
      refine sr ?_
      refine mvo rfl rfl ?_
      refine RunL.callX C46 rfl rfl rfl (ac46 b41 s m ⟨0, 0, 0, 0⟩ _ _ _ _ _ _ rfl rfl hs hm) tks fun ⟨la2, lc2, pa2, pc2⟩ _ => ?_
      rcases hres : sDo s m ⟨0, 0, 0, 0⟩ with e | ⟨t, c⟩
      · skip
        refine asg rfl rfl ?_
        refine kp [2, 3, 4, 5, 8, 9] rfl ?_
        refine sr ?_
        refine mvo rfl rfl ?_
        refine RunL.op rfl rfl (OpJ.neq rfl rfl ?_)
        first | refine RunL.set (congrArg Value.bool (decide_eq_true (show errOf (Except.error _) ≠ 0 from sDo_err hres))) ?_ | skip
        refine kp [2, 3, 4, 5, 8, 9, 45] rfl ?_
        refine Run.true rfl ?_
        refine Run.seq ?_
        refine regionD HM ?_
        first | refine RunD.takeW 0 rfl rfl kr T28 rfl pk (by rfl) ?_ | refine RunD.takeP 0 rfl rfl kr T28 rfl pk (by simp) ?_ | refine RunD.takeE 0 rfl rfl kr T28 rfl pk (by assumption) (by exact fun _ => rfl) rfl (by decide) ?_
        first | refine RunD.takeW 1 rfl rfl kr T43 rfl pk (by rfl) ?_ | refine RunD.takeP 1 rfl rfl kr T43 rfl pk (by simp) ?_ | refine RunD.takeE 1 rfl rfl kr T43 rfl pk (by assumption) (by exact fun _ => rfl) rfl (by decide) ?_
        refine tk 2 rfl rfl rfl (DetJ.move rfl) ?_
        refine RunD.op 3 [true, true, false] rfl rfl rfl kr kr (OpJ.storeW T28 rfl rfl rfl rfl (by simp [Value.oneCell', Pa.c, Ly.c, Mv.c, Co.c]) up ⟨po, ?_⟩)
        refine RunD.op 4 [true, false] rfl rfl rfl kr kr (OpJ.storeW T43 rfl rfl rfl rfl (by simp [Value.oneCell', Pa.c, Ly.c, Mv.c, Co.c]) up ⟨po, ?_⟩)
        refine tk 5 rfl rfl rfl (DetJ.assign rfl) ?_
        refine kd [4, 5, 6] rfl ?_
        refine Run.ret ?_
        have hres2 : sStep s m = .error e := (by unfold sStep; rw [if_neg h1, if_neg (by rw [← idx_some, ← idx_some]; simp only [*]; decide), hres]); refine ret_out (none, 0, none, 0) (.cellA T28 rfl pk (by rfl) (.cellA T43 rfl pk (by rfl) (.tmp rfl .nil))) trivial (by rw [hres2]; rfl) ?_; rw [hres2]; exact gv
      · skip
        have hto := sDo_ok hs hm hres
        refine asg rfl rfl ?_
        refine kp [2, 3, 4, 5, 8, 9] rfl ?_
        refine sr ?_
        refine mvo rfl rfl ?_
        refine RunL.op rfl rfl (OpJ.neq rfl rfl ?_)
        first | refine RunL.set (congrArg Value.bool (decide_eq_true (show errOf (Except.error _) ≠ 0 from sDo_err hres))) ?_ | skip
        refine kp [2, 3, 4, 5, 8, 9, 45] rfl ?_
        refine Run.false rfl ?_
        refine Run.skip ?_
        refine sr ?_
        refine mvo rfl rfl ?_
        refine RunL.op rfl rfl (OpJ.fieldAddr F47_0 rfl ?_)
        first | refine RunL.op rfl rfl (OpJ.loadF T3 rfl pk (by rfl) ?_) | refine RunL.op rfl rfl (OpJ.loadO T3 rfl pk (by assumption) (by rfl) (by exact fun _ => rfl) ?_)
        refine RunL.op rfl rfl (OpJ.nilCheck rfl ?_)
        refine RunL.op rfl rfl (OpJ.fieldAddr F85_2 rfl ?_)
        refine RunL.op rfl rfl (OpJ.fieldAddr F43_0 rfl ?_)
        refine RunL.op rfl rfl (OpJ.store1 T3 rfl rfl rfl up (by simp) ?_)
        refine kp [2, 4, 5, 8] rfl ?_
        refine Run.seq ?_
        refine regionD HM ?_
        refine tk 0 rfl rfl rfl (DetJ.fieldAddr F28_1 rfl) ?_
        first | refine RunD.takeF 1 rfl rfl kr T3 rfl pk (by rfl) ?_ | refine RunD.takeO 1 rfl rfl kr T3 rfl pk (by assumption) (by rfl) (by exact fun _ => rfl) ?_
        refine tk 2 rfl rfl rfl (DetJ.move rfl) ?_
        refine tk 3 rfl rfl rfl (DetJ.nilCheck rfl) ?_
        refine tk 4 rfl rfl rfl (DetJ.fieldAddr F85_2 rfl) ?_
        refine tk 5 rfl rfl rfl (DetJ.fieldAddr F43_2 rfl) ?_
        first | refine RunD.takeF 6 rfl rfl kr T3 rfl pk (by rfl) ?_ | refine RunD.takeO 6 rfl rfl kr T3 rfl pk (by assumption) (by rfl) (by exact fun _ => rfl) ?_
        refine RunD.op 7 [false, false, false, true, true, false, false] rfl rfl rfl kr kr (OpJ.callRet C47 rfl rfl (ac47 _ _ hs.v hto.2) .nil ⟨po, ?_⟩)
        refine tk 8 rfl rfl rfl (DetJ.move rfl) ?_
        refine tk 9 rfl rfl rfl (DetJ.extract rfl rfl) ?_
        refine tk 10 rfl rfl rfl (DetJ.extract rfl rfl) ?_
        refine tk 11 rfl rfl rfl (DetJ.assign rfl) ?_
        refine tk 12 rfl rfl rfl (DetJ.assign rfl) ?_
        refine kd [2, 4, 5, 8, 10, 11] rfl ?_
        refine Run.seq ?_
        refine regionD HM ?_
        refine tk 0 rfl rfl rfl (DetJ.move rfl) ?_
        refine tk 1 rfl rfl rfl (DetJ.move rfl) ?_
        refine tk 2 rfl rfl rfl (DetJ.fieldAddr F28_0 rfl) ?_
        first | refine RunD.takeF 3 rfl rfl kr T3 rfl pk (by rfl) ?_ | refine RunD.takeO 3 rfl rfl kr T3 rfl pk (by assumption) (by rfl) (by exact fun _ => rfl) ?_
        refine tk 4 rfl rfl rfl (DetJ.move rfl) ?_
        refine tk 5 rfl rfl rfl (DetJ.nilCheck rfl) ?_
        refine tk 6 rfl rfl rfl (DetJ.fieldAddr F85_2 rfl) ?_
        refine tk 7 rfl rfl rfl (DetJ.fieldAddr F43_1 rfl) ?_
        first | refine RunD.takeF 8 rfl rfl kr T3 rfl pk (by rfl) ?_ | refine RunD.takeO 8 rfl rfl kr T3 rfl pk (by assumption) (by rfl) (by exact fun _ => rfl) ?_
        refine tk 9 rfl rfl rfl (DetJ.add rfl rfl) ?_
        refine tk 10 rfl rfl rfl (DetJ.move rfl) ?_
        refine tk 11 rfl rfl rfl (DetJ.nilCheck rfl) ?_
        refine tk 12 rfl rfl rfl (DetJ.fieldAddr F85_0 rfl) ?_
        refine tk 13 rfl rfl rfl (DetJ.fieldAddr F28_0 rfl) ?_
        refine RunD.op 14 [false, false, false, true, false, false, false, false, false, false, false, false, true, false] rfl rfl rfl kr kr (OpJ.store1 T3 rfl rfl rfl up (by simp) ⟨po, ?_⟩)
        refine tk 15 rfl rfl rfl (DetJ.nilCheck rfl) ?_
        refine tk 16 rfl rfl rfl (DetJ.fieldAddr F85_0 rfl) ?_
        refine tk 17 rfl rfl rfl (DetJ.fieldAddr F28_1 rfl) ?_
        refine RunD.op 18 [false, false, false, false, false] rfl rfl rfl kr kr (OpJ.store1 T3 rfl rfl rfl up (by simp) ⟨po, ?_⟩)
        refine kd [4, 5, 8, 10, 11] rfl ?_
        refine Run.seq ?_
        refine sr ?_
        refine mvo rfl rfl ?_
        refine RunL.op rfl rfl (OpJ.not rfl ?_)
        refine mvo rfl rfl ?_
        first | refine RunL.splitP (t := 85) rfl (fun g4 => ?_) (fun g4 => ?_) | refine RunL.split (t := 85) rfl (fun g4 => ?_) (fun g4 => ?_)
        · skip
          refine RunL.no rfl rfl rfl rfl ?_
          refine RunL.no rfl rfl rfl rfl ?_
          refine RunL.no rfl rfl rfl rfl ?_
          refine RunL.no rfl rfl rfl rfl ?_
          refine RunL.no rfl rfl rfl rfl ?_
          refine RunL.no rfl rfl rfl rfl ?_
          refine RunL.op rfl rfl (OpJ.pickT rfl rfl ?_)
          refine mvo rfl rfl ?_
          refine RunL.no rfl rfl rfl rfl ?_
          refine RunL.no rfl rfl rfl rfl ?_
          refine RunL.no rfl rfl rfl rfl ?_
          refine RunL.op rfl rfl (OpJ.pickT rfl rfl ?_)
          refine mvo rfl rfl ?_
          refine RunL.no rfl rfl rfl rfl ?_
          refine RunL.no rfl rfl rfl rfl ?_
          refine RunL.no rfl rfl rfl rfl ?_
          refine RunL.no rfl rfl rfl rfl ?_
          refine RunL.no rfl rfl rfl rfl ?_
          refine RunL.no rfl rfl rfl rfl ?_
          refine RunL.no rfl rfl rfl rfl ?_
          refine RunL.op rfl rfl (OpJ.pickT rfl rfl ?_)
          refine kp [4, 5, 8, 106] rfl ?_
          refine Run.true rfl ?_
          refine Run.seq ?_
          refine regionD HM ?_
          first | refine RunD.takeW 0 rfl rfl kr T28 rfl pk (by rfl) ?_ | refine RunD.takeP 0 rfl rfl kr T28 rfl pk (by simp) ?_ | refine RunD.takeE 0 rfl rfl kr T28 rfl pk (by assumption) (by exact fun _ => rfl) rfl (by decide) ?_
          first | refine RunD.takeW 1 rfl rfl kr T43 rfl pk (by rfl) ?_ | refine RunD.takeP 1 rfl rfl kr T43 rfl pk (by simp) ?_ | refine RunD.takeE 1 rfl rfl kr T43 rfl pk (by assumption) (by exact fun _ => rfl) rfl (by decide) ?_
          refine RunD.op 2 [true, false] rfl rfl rfl kr kr (OpJ.storeW T28 rfl rfl rfl rfl (by simp [Value.oneCell', Pa.c, Ly.c, Mv.c, Co.c]) up ⟨po, ?_⟩)
          refine RunD.op 3 [false] rfl rfl rfl kr kr (OpJ.storeW T43 rfl rfl rfl rfl (by simp [Value.oneCell', Pa.c, Ly.c, Mv.c, Co.c]) up ⟨po, ?_⟩)
          refine tk 4 rfl rfl rfl (DetJ.assign rfl) ?_
          refine kd [4, 5, 6] rfl ?_
          refine Run.ret ?_
          first | (have hres2 : sStep s m = .error 4 := (by unfold sStep; rw [if_neg h1, if_neg (by rw [← idx_some, ← idx_some]; simp only [*]; decide), hres]; exact if_pos (by simp [sOver, *])); refine ret_out (none, 0, none, 0) (.cellA T28 rfl pk (by rfl) (.cellA T43 rfl pk (by rfl) (.tmp rfl .nil))) trivial (by rw [hres2]; rfl) ?_; rw [hres2]; exact gv) | (have hres2 : sStep s m = .ok (sSum s t c, { c with seq := m.seq }) := (by unfold sStep; rw [if_neg h1, if_neg (by rw [← idx_some, ← idx_some]; simp only [*]; decide), hres]; exact if_neg (by simp [sOver, *])); refine ret_out (la2, lc2, pa2, pc2) (.cellA T28 rfl pk (by rfl) (.cellA T43 rfl pk (by rfl) (.tmp rfl .nil))) trivial (by rw [hres2]; rfl) ?_; rw [hres2]; exact gv)
        · skip
          refine RunL.yes rfl rfl rfl rfl (OpJ.move rfl ?_)
          refine RunL.yes rfl rfl rfl rfl (OpJ.nilCheck rfl ?_)
          refine RunL.yes rfl rfl rfl rfl (OpJ.fieldAddr F85_0 rfl ?_)
          refine RunL.yes rfl rfl rfl rfl (OpJ.fieldAddr F28_0 rfl ?_)
          first | refine RunL.yes rfl rfl rfl rfl (OpJ.loadF T3 rfl pk (by rfl) ?_) | refine RunL.yes rfl rfl rfl rfl (OpJ.loadO T3 rfl pk (by assumption) (by rfl) (by exact fun _ => rfl) ?_)
          refine RunL.yes rfl rfl rfl rfl (OpJ.gtr rfl rfl ?_)
          refine RunL.op rfl rfl (OpJ.pickF rfl rfl ?_)
          refine mvo rfl rfl ?_
          first | refine RunL.splitP (t := 93) rfl (fun g5 => ?_) (fun g5 => ?_) | refine RunL.split (t := 93) rfl (fun g5 => ?_) (fun g5 => ?_)
          · skip
            refine RunL.no rfl rfl rfl rfl ?_
            refine RunL.no rfl rfl rfl rfl ?_
            refine RunL.no rfl rfl rfl rfl ?_
            refine RunL.op rfl rfl (OpJ.pickT rfl rfl ?_)
            refine mvo rfl rfl ?_
            refine RunL.no rfl rfl rfl rfl ?_
            refine RunL.no rfl rfl rfl rfl ?_
            refine RunL.no rfl rfl rfl rfl ?_
            refine RunL.no rfl rfl rfl rfl ?_
            refine RunL.no rfl rfl rfl rfl ?_
            refine RunL.no rfl rfl rfl rfl ?_
            refine RunL.no rfl rfl rfl rfl ?_
            refine RunL.op rfl rfl (OpJ.pickT rfl rfl ?_)
            refine kp [4, 5, 8, 106] rfl ?_
            refine Run.true rfl ?_
            refine Run.seq ?_
            refine regionD HM ?_
            first | refine RunD.takeW 0 rfl rfl kr T28 rfl pk (by rfl) ?_ | refine RunD.takeP 0 rfl rfl kr T28 rfl pk (by simp) ?_ | refine RunD.takeE 0 rfl rfl kr T28 rfl pk (by assumption) (by exact fun _ => rfl) rfl (by decide) ?_
            first | refine RunD.takeW 1 rfl rfl kr T43 rfl pk (by rfl) ?_ | refine RunD.takeP 1 rfl rfl kr T43 rfl pk (by simp) ?_ | refine RunD.takeE 1 rfl rfl kr T43 rfl pk (by assumption) (by exact fun _ => rfl) rfl (by decide) ?_
            refine RunD.op 2 [true, false] rfl rfl rfl kr kr (OpJ.storeW T28 rfl rfl rfl rfl (by simp [Value.oneCell', Pa.c, Ly.c, Mv.c, Co.c]) up ⟨po, ?_⟩)
            refine RunD.op 3 [false] rfl rfl rfl kr kr (OpJ.storeW T43 rfl rfl rfl rfl (by simp [Value.oneCell', Pa.c, Ly.c, Mv.c, Co.c]) up ⟨po, ?_⟩)
            refine tk 4 rfl rfl rfl (DetJ.assign rfl) ?_
            refine kd [4, 5, 6] rfl ?_
            refine Run.ret ?_
            first | (have hres2 : sStep s m = .error 4 := (by unfold sStep; rw [if_neg h1, if_neg (by rw [← idx_some, ← idx_some]; simp only [*]; decide), hres]; exact if_pos (by simp [sOver, *])); refine ret_out (none, 0, none, 0) (.cellA T28 rfl pk (by rfl) (.cellA T43 rfl pk (by rfl) (.tmp rfl .nil))) trivial (by rw [hres2]; rfl) ?_; rw [hres2]; exact gv) | (have hres2 : sStep s m = .ok (sSum s t c, { c with seq := m.seq }) := (by unfold sStep; rw [if_neg h1, if_neg (by rw [← idx_some, ← idx_some]; simp only [*]; decide), hres]; exact if_neg (by simp [sOver, *])); refine ret_out (la2, lc2, pa2, pc2) (.cellA T28 rfl pk (by rfl) (.cellA T43 rfl pk (by rfl) (.tmp rfl .nil))) trivial (by rw [hres2]; rfl) ?_; rw [hres2]; exact gv)
          · skip
            refine RunL.yes rfl rfl rfl rfl (OpJ.move rfl ?_)
            refine RunL.callG C48 rfl rfl rfl rfl rfl (ac48 _) .nil ?_
            refine RunL.yes rfl rfl rfl rfl (OpJ.not rfl ?_)
            refine RunL.op rfl rfl (OpJ.pickF rfl rfl ?_)
            refine mvo rfl rfl ?_
            first | refine RunL.splitP (t := 98) rfl (fun g6 => ?_) (fun g6 => ?_) | refine RunL.split (t := 98) rfl (fun g6 => ?_) (fun g6 => ?_)
            · skip
              refine RunL.no rfl rfl rfl rfl ?_
              refine RunL.no rfl rfl rfl rfl ?_
              refine RunL.no rfl rfl rfl rfl ?_
              refine RunL.no rfl rfl rfl rfl ?_
              refine RunL.no rfl rfl rfl rfl ?_
              refine RunL.no rfl rfl rfl rfl ?_
              refine RunL.no rfl rfl rfl rfl ?_
              refine RunL.op rfl rfl (OpJ.pickT rfl rfl ?_)
              refine kp [4, 5, 8, 106] rfl ?_
              refine Run.true rfl ?_
              refine Run.seq ?_
              refine regionD HM ?_
              first | refine RunD.takeW 0 rfl rfl kr T28 rfl pk (by rfl) ?_ | refine RunD.takeP 0 rfl rfl kr T28 rfl pk (by simp) ?_ | refine RunD.takeE 0 rfl rfl kr T28 rfl pk (by assumption) (by exact fun _ => rfl) rfl (by decide) ?_
              first | refine RunD.takeW 1 rfl rfl kr T43 rfl pk (by rfl) ?_ | refine RunD.takeP 1 rfl rfl kr T43 rfl pk (by simp) ?_ | refine RunD.takeE 1 rfl rfl kr T43 rfl pk (by assumption) (by exact fun _ => rfl) rfl (by decide) ?_
              refine RunD.op 2 [true, false] rfl rfl rfl kr kr (OpJ.storeW T28 rfl rfl rfl rfl (by simp [Value.oneCell', Pa.c, Ly.c, Mv.c, Co.c]) up ⟨po, ?_⟩)
              refine RunD.op 3 [false] rfl rfl rfl kr kr (OpJ.storeW T43 rfl rfl rfl rfl (by simp [Value.oneCell', Pa.c, Ly.c, Mv.c, Co.c]) up ⟨po, ?_⟩)
              refine tk 4 rfl rfl rfl (DetJ.assign rfl) ?_
              refine kd [4, 5, 6] rfl ?_
              refine Run.ret ?_
              first | (have hres2 : sStep s m = .error 4 := (by unfold sStep; rw [if_neg h1, if_neg (by rw [← idx_some, ← idx_some]; simp only [*]; decide), hres]; exact if_pos (by simp [sOver, *])); refine ret_out (none, 0, none, 0) (.cellA T28 rfl pk (by rfl) (.cellA T43 rfl pk (by rfl) (.tmp rfl .nil))) trivial (by rw [hres2]; rfl) ?_; rw [hres2]; exact gv) | (have hres2 : sStep s m = .ok (sSum s t c, { c with seq := m.seq }) := (by unfold sStep; rw [if_neg h1, if_neg (by rw [← idx_some, ← idx_some]; simp only [*]; decide), hres]; exact if_neg (by simp [sOver, *])); refine ret_out (la2, lc2, pa2, pc2) (.cellA T28 rfl pk (by rfl) (.cellA T43 rfl pk (by rfl) (.tmp rfl .nil))) trivial (by rw [hres2]; rfl) ?_; rw [hres2]; exact gv)
            · skip
              refine RunL.yes rfl rfl rfl rfl (OpJ.move rfl ?_)
              refine RunL.yes rfl rfl rfl rfl (OpJ.nilCheck rfl ?_)
              refine RunL.yes rfl rfl rfl rfl (OpJ.fieldAddr F85_2 rfl ?_)
              refine RunL.yes rfl rfl rfl rfl (OpJ.fieldAddr F43_3 rfl ?_)
              first | refine RunL.yes rfl rfl rfl rfl (OpJ.loadF T3 rfl pk (by rfl) ?_) | refine RunL.yes rfl rfl rfl rfl (OpJ.loadO T3 rfl pk (by assumption) (by rfl) (by exact fun _ => rfl) ?_)
              refine RunL.callG C48 rfl rfl rfl rfl rfl (ac48 _) .nil ?_
              refine RunL.yes rfl rfl rfl rfl (OpJ.not rfl ?_)
              refine RunL.op rfl rfl (OpJ.pickF rfl rfl ?_)
              refine kp [4, 5, 8, 106] rfl ?_
              first | refine Run.if rfl (fun h7 => ?_) (fun h7 => ?_) | refine Run.cond rfl (fun h7 => ?_) (fun h7 => ?_)
              · skip
                refine Run.seq ?_
                refine regionD HM ?_
                first | refine RunD.takeW 0 rfl rfl kr T28 rfl pk (by rfl) ?_ | refine RunD.takeP 0 rfl rfl kr T28 rfl pk (by simp) ?_ | refine RunD.takeE 0 rfl rfl kr T28 rfl pk (by assumption) (by exact fun _ => rfl) rfl (by decide) ?_
                first | refine RunD.takeW 1 rfl rfl kr T43 rfl pk (by rfl) ?_ | refine RunD.takeP 1 rfl rfl kr T43 rfl pk (by simp) ?_ | refine RunD.takeE 1 rfl rfl kr T43 rfl pk (by assumption) (by exact fun _ => rfl) rfl (by decide) ?_
                refine RunD.op 2 [true, false] rfl rfl rfl kr kr (OpJ.storeW T28 rfl rfl rfl rfl (by simp [Value.oneCell', Pa.c, Ly.c, Mv.c, Co.c]) up ⟨po, ?_⟩)
                refine RunD.op 3 [false] rfl rfl rfl kr kr (OpJ.storeW T43 rfl rfl rfl rfl (by simp [Value.oneCell', Pa.c, Ly.c, Mv.c, Co.c]) up ⟨po, ?_⟩)
                refine tk 4 rfl rfl rfl (DetJ.assign rfl) ?_
                refine kd [4, 5, 6] rfl ?_
                refine Run.ret ?_
                first | (have hres2 : sStep s m = .error 4 := (by unfold sStep; rw [if_neg h1, if_neg (by rw [← idx_some, ← idx_some]; simp only [*]; decide), hres]; exact if_pos (by simp [sOver, *])); refine ret_out (none, 0, none, 0) (.cellA T28 rfl pk (by rfl) (.cellA T43 rfl pk (by rfl) (.tmp rfl .nil))) trivial (by rw [hres2]; rfl) ?_; rw [hres2]; exact gv) | (have hres2 : sStep s m = .ok (sSum s t c, { c with seq := m.seq }) := (by unfold sStep; rw [if_neg h1, if_neg (by rw [← idx_some, ← idx_some]; simp only [*]; decide), hres]; exact if_neg (by simp [sOver, *])); refine ret_out (la2, lc2, pa2, pc2) (.cellA T28 rfl pk (by rfl) (.cellA T43 rfl pk (by rfl) (.tmp rfl .nil))) trivial (by rw [hres2]; rfl) ?_; rw [hres2]; exact gv)
              · skip
                refine Run.skip ?_
                refine Run.seq ?_
                refine regionD HM ?_
                refine tk 0 rfl rfl rfl (DetJ.move rfl) ?_
                refine tk 1 rfl rfl rfl (DetJ.nilCheck rfl) ?_
                refine tk 2 rfl rfl rfl (DetJ.fieldAddr F85_0 rfl) ?_
                first | refine RunD.takeW 3 rfl rfl kr T28 rfl pk (by rfl) ?_ | refine RunD.takeP 3 rfl rfl kr T28 rfl pk (by simp) ?_ | refine RunD.takeE 3 rfl rfl kr T28 rfl pk (by assumption) (by exact fun _ => rfl) rfl (by decide) ?_
                refine tk 4 rfl rfl rfl (DetJ.move rfl) ?_
                refine tk 5 rfl rfl rfl (DetJ.nilCheck rfl) ?_
                refine tk 6 rfl rfl rfl (DetJ.fieldAddr F85_2 rfl) ?_
                first | refine RunD.takeW 7 rfl rfl kr T43 rfl pk (by rfl) ?_ | refine RunD.takeP 7 rfl rfl kr T43 rfl pk (by simp) ?_ | refine RunD.takeE 7 rfl rfl kr T43 rfl pk (by assumption) (by exact fun _ => rfl) rfl (by decide) ?_
                refine RunD.op 8 [true, true, true, true, false, false, false, false] rfl rfl rfl kr kr (OpJ.storeW T28 rfl rfl rfl rfl (by simp [Value.oneCell', Pa.c, Ly.c, Mv.c, Co.c]) up ⟨po, ?_⟩)
                refine RunD.op 9 [false, false, false, false] rfl rfl rfl kr kr (OpJ.storeW T43 rfl rfl rfl rfl (by simp [Value.oneCell', Pa.c, Ly.c, Mv.c, Co.c]) up ⟨po, ?_⟩)
                refine tk 10 rfl rfl rfl (DetJ.assign rfl) ?_
                refine kd [4, 5, 6] rfl ?_
                refine Run.ret ?_
                first | (have hres2 : sStep s m = .error 4 := (by unfold sStep; rw [if_neg h1, if_neg (by rw [← idx_some, ← idx_some]; simp only [*]; decide), hres]; exact if_pos (by simp [sOver, *])); refine ret_out (none, 0, none, 0) (.cellA T28 rfl pk (by rfl) (.cellA T43 rfl pk (by rfl) (.tmp rfl .nil))) trivial (by rw [hres2]; rfl) ?_; rw [hres2]; exact gv) | (have hres2 : sStep s m = .ok (sSum s t c, { c with seq := m.seq }) := (by unfold sStep; rw [if_neg h1, if_neg (by rw [← idx_some, ← idx_some]; simp only [*]; decide), hres]; exact if_neg (by simp [sOver, *])); refine ret_out (la2, lc2, pa2, pc2) (.cellA T28 rfl pk (by rfl) (.cellA T43 rfl pk (by rfl) (.tmp rfl .nil))) trivial (by rw [hres2]; rfl) ?_; rw [hres2]; exact gv)
end Go.Proofs.YtdcchollplhioaaGreatDoor

namespace Go.SL
open Go
section
variable {P : Program} {β : Base} {n : Nat} {arr : Array Oper} {os : List Oper} {E : Env} {L M1 M2 : List HP} {A B : HP} {K : Env → List HP → Prop}
theorem RunL.pack (p1 : Pick L A M1) (p2 : Pick M1 B M2) (h : RunL P β n arr os E (star A B :: M2) K) : RunL P β n arr os E L K :=
  RunL.mapL (L' := star A B :: M2) (fun w hs => Has.mono hs fun _ hh => star_assoc (star_mono (fun _ => id) (fun _ => p2.star) (p1.star hh))) h
theorem RunL.unpack (p1 : Pick L (star A B) M1) (h : RunL P β n arr os E (A :: B :: M1) K) : RunL P β n arr os E L K :=
  RunL.mapL (L' := A :: B :: M1) (fun w hs => Has.mono hs fun _ hh => star_assoc' (p1.star hh)) h
end
abbrev SC (t : Sk) (la : Option Addr) (nl lc : Nat) (pa : Option Addr) (np pc : Nat) : List Value := [I t.qty, I t.value, I t.price, .slice la nl lc, .slice pa np pc]
def aRecv (t : Sk) (m : Mv) : Except Int (Sk × Co) := .ok ({ t with past := t.past ++ [⟨m.seq, m.kind, m.lot, m.qty, m.cost, 0, 0⟩] }, ⟨m.seq, m.qty, m.cost, 0⟩)
def avgV (t : Sk) (m : Mv) : Int := partN t.value m.qty t.qty
def aIssue (t : Sk) (m : Mv) : Except Int (Sk × Co) :=
  if t.qty < m.qty then .error 21 else .ok ({ t with past := t.past ++ [⟨m.seq, m.kind, m.lot, m.qty, avgV t m, 0, 0⟩] }, ⟨m.seq, W (0 - m.qty), W (0 - avgV t m), 0⟩)
def aBack (t : Sk) (m : Mv) : Except Int (Sk × Co) :=
  match refd 2 m t.past with
  | .error e => .error e
  | .ok (i, p) => .ok ({ t with past := t.past.set i (backP p m) }, ⟨m.seq, m.qty, backV p m, 0⟩)
def aSend (t : Sk) (m : Mv) : Except Int (Sk × Co) :=
  match refd 1 m t.past with
  | .error e => .error e
  | .ok (i, p) => if t.qty < m.qty then .error 21 else .ok ({ t with past := t.past.set i (sendP p m) }, ⟨m.seq, W (0 - m.qty), W (0 - avgV t m), W (avgV t m - m.cost)⟩)
def landV (t : Sk) (p : Pa) (m : Mv) : Int := partN m.cost (if t.qty < p.qty then t.qty else p.qty) p.qty
def aLand (t : Sk) (m : Mv) : Except Int (Sk × Co) :=
  match refd 1 m t.past with
  | .error e => .error e
  | .ok (_, p) => .ok (t, ⟨m.seq, 0, landV t p m, W (m.cost - landV t p m)⟩)
def aDo (t : Sk) (m : Mv) : Except Int (Sk × Co) :=
  if m.kind = 1 then aRecv t m else if m.kind = 2 then aIssue t m else if m.kind = 3 then aBack t m else if m.kind = 4 then aSend t m else if m.kind = 5 then aLand t m else .error 10
def aOver (t : Sk) (c : Co) : Bool := decide (1000000000 < t.qty) || largeB t.value || largeB c.var
def aStep (s : Sk) (m : Mv) : Except Int (Sk × Co) :=
  if m.one ≠ 0 then .error m.one else if (findI (isPast 0 m.seq) s.past).isSome = true then .error 8 else
  match aDo s m with
  | .error e => .error e
  | .ok (t, c) => if aOver (summed t c) c = true then .error 4 else .ok (summed t c, c)
/-- What a part of the method returns: costs and an error; the stock as it is then. -/
def avC (r : Except Int (Sk × Co)) : Co := match r with | .error _ => ⟨0, 0, 0, 0⟩ | .ok (_, c) => c
abbrev AvV (r : Except Int (Sk × Co)) : Value := .tuple ⟨[.agg ⟨(avC r).c⟩, I (errOf r)]⟩
def AvB (TS TP bx : Nat) (la : Option Addr) (nl lc : Nat) (t0 : Sk) (r : Except Int (Sk × Co)) (x : Option Addr × Nat) : List HP :=
  match r with
  | .error _ => [pt bx (blk (SC t0 la nl lc x.1 t0.past.length x.2) TS), own TP 7 x.1 t0.past.length x.2 (t0.past.flatMap Pa.c)]
  | .ok (t, _) => [pt bx (blk (SC t la nl lc x.1 t.past.length x.2) TS), own TP 7 x.1 t.past.length x.2 (t.past.flatMap Pa.c)]
theorem Pick.app : ∀ {L : List HP} {A : HP} {M : List HP}, Pick L A M → ∀ N, Pick (L ++ N) A (M ++ N)
  | _, _, _, .here, _ => .here
  | _, _, _, .there p, N => .there (p.app N)
theorem Gives.mono : ∀ {L M : List HP}, Gives L M → ∀ N, Gives (L ++ N) M
  | _, _, .nil, _ => .nil
  | _, _, .cons p g, N => .cons (p.app N) (g.mono N)
theorem Gives.app (L N : List HP) : Gives (L ++ N) L := (Gives.refl L).mono N
end Go.SL

namespace Go.Proofs.YtdcchollplhioaaGreatDoor
open Go Go.SL Go.Proofs

-- average.part
theorem ac113 (v q n : Int) (hv : i64 v) (hq : i64 q) (hn : i64 n) : AC Tryz.prog 113 ⟨[I v, I q, I n]⟩ (stars []) (Ret (I (partN v q n)) []) := by
  refine AC.go Tryz.func113 rfl (Nat.le_of_ble_eq_true rfl) fun β => ?_
  refine sr ?_
  refine asg rfl rfl ?_
  refine kp [0, 1, 2] rfl ?_
  refine Run.seq ?_
  refine sr ?_
  refine mvo rfl rfl ?_
  refine mvo rfl rfl ?_
  refine RunL.op rfl rfl (OpJ.eql rfl rfl ?_)
  refine kp [0, 1, 2, 11] rfl ?_
  first | refine Run.if rfl (fun h1 => ?_) (fun h1 => ?_) | refine Run.cond rfl (fun h1 => ?_) (fun h1 => ?_)
  · skip
    refine sr ?_
    refine mvo rfl rfl ?_
    refine asg rfl rfl ?_
    refine kp [6] rfl ?_
    refine Run.ret ?_
    exact ret_one (.tmp rfl .nil) (by first | (simp [tup, partN, *]; done) | (exfalso; omega)) .nil
  · skip
    refine Run.skip ?_
    refine sr ?_
    refine mvo rfl rfl ?_
    refine mvo rfl rfl ?_
    refine mvo rfl rfl ?_
    refine RunL.call C111 rfl rfl rfl (ac111 _ _ _ _ (by omega) (by omega) (by omega)) .nil ?_
    refine mvo rfl rfl ?_
    refine RunL.op rfl rfl (OpJ.extract rfl rfl ?_)
    refine RunL.op rfl rfl (OpJ.extract rfl rfl ?_)
    refine asg rfl rfl ?_
    refine asg rfl rfl ?_
    refine kp [7] rfl ?_
    refine sr ?_
    refine mvo rfl rfl ?_
    refine asg rfl rfl ?_
    refine kp [6] rfl ?_
    refine Run.ret ?_
    exact ret_one (.tmp rfl .nil) (by first | (simp [tup, partN, *]; done) | (exfalso; omega)) .nil
-- average.Step$1
theorem ac40 (bm : Nat) (m : Mv) (p : Pa) : AC Tryz.prog 40 ⟨[.agg ⟨p.c⟩, .pointer (some ⟨bm, 0, none⟩)]⟩ (stars [pt bm (blk m.c 47)]) (Ret (Bo (isPast 0 m.seq p)) [pt bm (blk m.c 47)]) := by
  refine AC.go Tryz.func40 rfl (Nat.le_of_ble_eq_true rfl) fun β => ?_
  refine sr ?_
  refine RunL.op rfl rfl (OpJ.boxA rfl fun b2 => ?_)
  refine asg rfl rfl ?_
  refine kp [1, 2] rfl ?_
  refine sr ?_
  refine RunL.op rfl rfl (OpJ.fieldAddr F66_0 rfl ?_)
  first | refine RunL.op rfl rfl (OpJ.loadF T3 rfl pk (by rfl) ?_) | refine RunL.op rfl rfl (OpJ.loadO T3 rfl pk (by assumption) (by rfl) (by exact fun _ => rfl) ?_)
  refine RunL.op rfl rfl (OpJ.fieldAddr F47_0 rfl ?_)
  first | refine RunL.op rfl rfl (OpJ.loadF T3 rfl pk (by rfl) ?_) | refine RunL.op rfl rfl (OpJ.loadO T3 rfl pk (by assumption) (by rfl) (by exact fun _ => rfl) ?_)
  refine RunL.op rfl rfl (OpJ.eql rfl rfl ?_)
  refine asg rfl rfl ?_
  refine kp [3] rfl ?_
  refine Run.ret ?_
  exact ret_one (.tmp rfl .nil) (by simp [tup, isPast]) gv
-- average.referred$1
theorem ac155 (bm bk : Nat) (m : Mv) (kind : Int) (p : Pa) (hk : kind ≠ 0) : AC Tryz.prog 155 ⟨[.agg ⟨p.c⟩, .pointer (some ⟨bm, 0, none⟩), .pointer (some ⟨bk, 0, none⟩)]⟩ (stars [star (pt bm (blk m.c 47)) (pt bk (blk [I kind] 3))]) (Ret (Bo (isPast kind m.ref p)) [star (pt bm (blk m.c 47)) (pt bk (blk [I kind] 3))]) := by
  refine AC.go Tryz.func155 rfl (Nat.le_of_ble_eq_true rfl) fun β => ?_
  refine sr ?_
  refine RunL.unpack Pick.here ?_
  refine RunL.op rfl rfl (OpJ.boxA rfl fun b3 => ?_)
  refine asg rfl rfl ?_
  refine kp [1, 2, 3] rfl ?_
  refine sr ?_
  refine RunL.op rfl rfl (OpJ.fieldAddr F66_0 rfl ?_)
  first | refine RunL.op rfl rfl (OpJ.loadF T3 rfl pk (by rfl) ?_) | refine RunL.op rfl rfl (OpJ.loadO T3 rfl pk (by assumption) (by rfl) (by exact fun _ => rfl) ?_)
  refine RunL.op rfl rfl (OpJ.fieldAddr F47_7 rfl ?_)
  first | refine RunL.op rfl rfl (OpJ.loadF T3 rfl pk (by rfl) ?_) | refine RunL.op rfl rfl (OpJ.loadO T3 rfl pk (by assumption) (by rfl) (by exact fun _ => rfl) ?_)
  refine RunL.op rfl rfl (OpJ.eql rfl rfl ?_)
  refine mvo rfl rfl ?_
  first | refine RunL.splitP (t := 10) rfl (fun g1 => ?_) (fun g1 => ?_) | refine RunL.split (t := 10) rfl (fun g1 => ?_) (fun g1 => ?_)
  · skip
    refine RunL.yes rfl rfl rfl rfl (OpJ.fieldAddr F66_1 rfl ?_)
    first | refine RunL.yes rfl rfl rfl rfl (OpJ.loadF T3 rfl pk (by rfl) ?_) | refine RunL.yes rfl rfl rfl rfl (OpJ.loadO T3 rfl pk (by assumption) (by rfl) (by exact fun _ => rfl) ?_)
    first | refine RunL.yes rfl rfl rfl rfl (OpJ.loadF T3 rfl pk (by rfl) ?_) | refine RunL.yes rfl rfl rfl rfl (OpJ.loadO T3 rfl pk (by assumption) (by rfl) (by exact fun _ => rfl) ?_)
    refine RunL.yes rfl rfl rfl rfl (OpJ.eql rfl rfl ?_)
    refine RunL.op rfl rfl (OpJ.pickT rfl rfl ?_)
    refine asg rfl rfl ?_
    refine RunL.pack (A := pt bm (blk m.c 47)) (B := pt bk (blk [I kind] 3)) pk pk ?_
    refine kp [4] rfl ?_
    refine Run.ret ?_
    exact ret_one (.tmp rfl .nil) (by rw [isPast_eq hk]; simp [tup, *]) gv
  · skip
    refine RunL.no rfl rfl rfl rfl ?_
    refine RunL.no rfl rfl rfl rfl ?_
    refine RunL.no rfl rfl rfl rfl ?_
    refine RunL.no rfl rfl rfl rfl ?_
    refine RunL.op rfl rfl (OpJ.pickF rfl rfl ?_)
    refine asg rfl rfl ?_
    refine RunL.pack (A := pt bm (blk m.c 47)) (B := pt bk (blk [I kind] 3)) pk pk ?_
    refine kp [4] rfl ?_
    refine Run.ret ?_
    exact ret_one (.tmp rfl .nil) (by rw [isPast_eq hk]; simp [tup, *]) gv
end Go.Proofs.YtdcchollplhioaaGreatDoor

namespace Go.Proofs.YtdcchollplhioaaGreatDoor
open Go Go.SL Go.Proofs
theorem C71 : CI Tryz.prog 71 := .of (by kernel_rfl)
-- slices.IndexFunc[[]api.Past,api.Past]
theorem ac71 (RP RA : HP) (g : FuncId) (capv : List Value) (f : Pa → Bool) (oa : Option Addr) (cap : Nat) (ps : List Pa) (hR : RdS RP oa (ps.flatMap Pa.c)) (hlen : ps.length ≤ 1000000) (Cg : CI Tryz.prog g) (hg : ∀ p : Pa, AC Tryz.prog g ⟨[.agg ⟨p.c⟩] ++ capv⟩ (stars [RA]) (Ret (Bo (f p)) [RA])) : AC Tryz.prog 71 ⟨[.slice oa ps.length cap, .func (.func g) ⟨[]⟩ ⟨capv⟩]⟩ (stars [RP, RA]) (Ret (I (idxOf (findI f ps))) [RP, RA]) := by
  refine AC.go Tryz.func71 rfl (Nat.le_of_ble_eq_true rfl) fun β => ?_
  refine sr ?_
  refine asg rfl rfl ?_
  refine kp [0, 1] rfl ?_
  refine Run.seq ?_
  refine sr ?_
  refine mvo rfl rfl ?_
  refine RunL.op rfl rfl (OpJ.len S26 rfl ?_)
  refine mvo rfl rfl ?_
  refine kp [0, 1, 7, 8] rfl ?_
  refine Run.block ?_
  refine Run.loop (fun mm E L => ∃ i : Nat, mm = ps.length - i ∧ i ≤ ps.length ∧ (∀ j y, j < i → ps[j]? = some y → f y = false) ∧ E = [(0, .slice oa ps.length cap), (1, .func (.func g) ⟨[]⟩ ⟨capv⟩), (7, I ps.length), (8, I i)] ∧ L = [RP, RA]) ⟨_, 0, rfl, Nat.zero_le _, fun _ _ h => by omega, rfl, rfl⟩ ?_
  rintro _ _ _ ⟨i, rfl, hi, hI0, rfl, rfl⟩
  refine sr ?_
  refine RunL.op rfl rfl (OpJ.lss rfl rfl ?_)
  refine kp [0, 1, 7, 8, 9] rfl ?_
  refine Run.seq ?_
  first | refine Run.if rfl (fun h1 => ?_) (fun h1 => ?_) | refine Run.cond rfl (fun h1 => ?_) (fun h1 => ?_)
  · skip
    refine Run.skip ?_
    refine Run.seq ?_
    refine Run.block ?_
    refine sr ?_
    refine mvo rfl rfl ?_
    refine asg rfl rfl ?_
    refine kp [0, 1, 5, 7, 8] rfl ?_
    refine sr ?_
    obtain ⟨x, hx⟩ := get_ex (xs := ps) (by omega)
    refine RunL.rdOpen pk hR (flat_ne (k := 7) (fun _ => rfl) (by decide) hx) fun b o e hrd => ?_
    subst e
    refine mvo rfl rfl ?_
    refine mvo rfl rfl ?_
    refine mvo rfl rfl ?_
    refine RunL.op rfl rfl (OpJ.indexAddr S26 rfl rfl (by omega) ?_)
    refine RunL.op rfl rfl (OpJ.loadA T66 rfl pk (hrd.elem (fun _ => rfl) hx) rfl ?_)
    refine RunL.call Cg rfl rfl rfl (hg x) tks ?_
    refine kp [0, 1, 5, 7, 8, 16] rfl ?_
    first | refine Run.if rfl (fun h2 => ?_) (fun h2 => ?_) | refine Run.cond rfl (fun h2 => ?_) (fun h2 => ?_)
    · skip
      refine sr ?_
      refine mvo rfl rfl ?_
      refine asg rfl rfl ?_
      refine kp [4] rfl ?_
      refine Run.ret ?_
      exact ret_one (.tmp rfl .nil) (congrArg I (by rw [findI_at hx (by assumption) hI0]; rfl)) gv
    · skip
      refine Run.skip ?_
      refine Run.region ?_
      first | refine RunL.op rfl rfl (OpJ.addI rfl rfl (by omega) ?_) | refine RunL.op rfl rfl (OpJ.add rfl rfl ?_)
      refine mvo rfl rfl ?_
      exact RunL.next (Keep.sub (kt (ks := [0, 1, 7, 8]) rfl)) _ ⟨_, by omega, i + 1, rfl, by omega, notYet hx (by assumption) hI0, rfl, rfl⟩ gv
  · skip
    refine Run.exit ?_
    refine sr ?_
    refine asg rfl rfl ?_
    refine kp [4] rfl ?_
    refine Run.ret ?_
    exact ret_one (.tmp rfl .nil) (congrArg I (by rw [findI_none (fun j y hj => hI0 j y (by omega))]; rfl)) gv
-- average.find
theorem ac39 (RP RA : HP) (g : FuncId) (capv : List Value) (f : Pa → Bool) (oa : Option Addr) (cap : Nat) (ps : List Pa) (hR : RdS RP oa (ps.flatMap Pa.c)) (hlen : ps.length ≤ 1000000) (Cg : CI Tryz.prog g) (hg : ∀ p : Pa, AC Tryz.prog g ⟨[.agg ⟨p.c⟩] ++ capv⟩ (stars [RA]) (Ret (Bo (f p)) [RA])) : AC Tryz.prog 39 ⟨[.slice oa ps.length cap, .func (.func g) ⟨[]⟩ ⟨capv⟩]⟩ (stars [RP, RA]) (Ret (I (idxOf (findI f ps))) [RP, RA]) := by
  refine AC.go Tryz.func39 rfl (Nat.le_of_ble_eq_true rfl) fun β => ?_
  refine sr ?_
  refine asg rfl rfl ?_
  refine kp [0, 1] rfl ?_
  refine sr ?_
  refine mvo rfl rfl ?_
  refine mvo rfl rfl ?_
  refine RunL.call C71 rfl rfl rfl (ac71 RP RA g capv f oa cap ps hR hlen Cg hg) tks ?_
  refine asg rfl rfl ?_
  refine kp [4] rfl ?_
  refine Run.ret ?_
  exact ret_one (.tmp rfl .nil) (by simp [tup, *]) gv
end Go.Proofs.YtdcchollplhioaaGreatDoor
