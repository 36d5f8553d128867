/- Laws of the walks and of the models, part 4. Merged by program out of: VF Cos SL12 VG VH VI Few VJ VK Law2 Law3 Law4 Law5 Law6 Jo. -/
import Derived.Test.YtdcchollplhioaaGreatDoorQ3
import Derived.KernelRfl
import Derived.Test.YtdcchollplhioaaGreatDoorRows
import Derived.Test.YtdcchollplhioaaGreatDoorTie
import Derived.Test.YtdcchollplhioaaGreatDoorCards
import Derived.ProofKit
import Derived.WalkKit
import Derived.LaidMore
import Derived.OpenShut
import Derived.Below
import Derived.ChangeOld
import Derived.SizedLaws
import Derived.Deep.Slices
import Derived.Stop.Joined
set_option linter.unusedVariables false
set_option linter.unusedSimpArgs false
set_option maxRecDepth 20000
namespace Go.Proofs.YtdcchollplhioaaGreatDoor
open Go Go.SL Go.Proofs
theorem C49 : CI Tryz.prog 49 := .of (by kernel_rfl)
theorem C51 : CI Tryz.prog 51 := .of (by kernel_rfl)
theorem C52 : CI Tryz.prog 52 := .of (by kernel_rfl)
-- lots.Step
theorem ac23 (s : Sk) (m : Mv) (la : Option Addr) (lc : Nat) (pa : Option Addr) (pc : Nat) (RL RP : HP) (hs : s.ok 999999) (hm : m.ok) (hRL : RdS RL la (s.layers.flatMap Ly.c)) (hRP : RdS RP pa (s.past.flatMap Pa.c)) (R0 : HP) (hR0 : Rd R0 ⟨0, 0, none⟩ lensC) : AC Tryz.prog 23 ⟨[.agg ⟨s.c la lc pa pc⟩, .agg ⟨m.c⟩]⟩ (stars [RL, RP, R0]) (Outs (fun _ : Option Addr × Nat × Option Addr × Nat => True) (fun x => StV (lStep s m) x) (fun x => StB 64 66 (lStep s m) x ++ [RL, RP, R0])) := by
  have hn : s.layers.length ≤ 1000000 ∧ s.past.length ≤ 1000000 := ⟨Nat.le_trans hs.nl (by decide), Nat.le_trans hs.np (by decide)⟩
  have hnl := hn.1; have hnp := hn.2
  refine AC.go Tryz.func23 rfl (Nat.le_of_ble_eq_true rfl) fun β => ?_
  refine sr ?_
  refine RunL.op rfl rfl (OpJ.boxA rfl fun b2 => ?_)
  refine RunL.op rfl rfl (OpJ.boxA rfl fun b3 => ?_)
  refine RunL.op rfl rfl (OpJ.alloc Z28 fun b4 => ?_)
  refine RunL.op rfl rfl (OpJ.alloc Z43 fun b5 => ?_)
  refine asg rfl rfl ?_
  refine kp [2, 3, 4, 5] rfl ?_
  refine sr ?_
  first | refine RunL.op rfl rfl (OpJ.loadW T28 rfl pk (by rfl) ?_) | refine RunL.op rfl rfl (OpJ.loadP T28 rfl pk (by simp) ?_) | refine RunL.op rfl rfl (OpJ.loadE T28 rfl pk (by assumption) (by exact fun _ => rfl) rfl (by decide) ?_)
  refine RunL.callX C49 rfl rfl rfl (ac49 s la lc pa pc RL RP hn hRL hRP) tks fun ⟨b, bl, bp⟩ _ => ?_
  refine asg rfl rfl ?_
  refine kp [3, 4, 5, 7] rfl ?_
  refine Run.seq ?_
  refine sr ?_
  first | refine RunL.op rfl rfl (OpJ.loadW T47 rfl pk (by rfl) ?_) | refine RunL.op rfl rfl (OpJ.loadP T47 rfl pk (by simp) ?_) | refine RunL.op rfl rfl (OpJ.loadE T47 rfl pk (by assumption) (by exact fun _ => rfl) rfl (by decide) ?_)
  refine RunL.call C30 rfl rfl rfl (ac30 _ _ hR0) tks ?_
  refine asg rfl rfl ?_
  refine kp [3, 4, 5, 7, 8] rfl ?_
  refine sr ?_
  refine mvo rfl rfl ?_
  refine RunL.op rfl rfl (OpJ.neq rfl rfl ?_)
  refine kp [3, 4, 5, 7, 8, 14] rfl ?_
  first | refine Run.if rfl (fun h1 => ?_) (fun h1 => ?_) | refine Run.cond rfl (fun h1 => ?_) (fun h1 => ?_)
  · skip
    refine sr ?_
    refine RunL.op rfl rfl (OpJ.build B28 rfl rfl fun cs hcs => ?_)
    simp only [Sk.c, Mv.c, Co.c, bldL, bldA, Value.cells, bs, Nat.reduceAdd, Nat.reduceLeDiff, Nat.reduceLT] at hcs; subst hcs
    refine RunL.op rfl rfl (OpJ.build B43 rfl rfl fun cs hcs => ?_)
    simp only [Sk.c, Mv.c, Co.c, bldL, bldA, Value.cells, bs, Nat.reduceAdd, Nat.reduceLeDiff, Nat.reduceLT] at hcs; subst hcs
    refine mvo rfl rfl ?_
    refine RunL.op rfl rfl (OpJ.storeW T28 rfl rfl rfl rfl (by simp [Value.oneCell', Pa.c, Ly.c, Mv.c, Co.c]) up ?_)
    refine RunL.op rfl rfl (OpJ.storeW T43 rfl rfl rfl rfl (by simp [Value.oneCell', Pa.c, Ly.c, Mv.c, Co.c]) up ?_)
    refine asg rfl rfl ?_
    refine kp [4, 5, 6] rfl ?_
    refine Run.ret ?_
    have hres2 : lStep s m = .error m.one := (by unfold lStep; rw [if_pos h1]); refine ret_out (none, 0, none, 0) (.cellA T28 rfl pk (by rfl) (.cellA T43 rfl pk (by rfl) (.tmp rfl .nil))) trivial (by rw [hres2]; rfl) ?_; rw [hres2]; exact gv
  · skip
    refine Run.skip ?_
    refine Run.seq ?_
    refine sr ?_
    refine mvo rfl rfl ?_
    refine RunL.op rfl rfl (OpJ.fieldAddr F47_0 rfl ?_)
    first | refine RunL.op rfl rfl (OpJ.loadF T3 rfl pk (by rfl) ?_) | refine RunL.op rfl rfl (OpJ.loadO T3 rfl pk (by assumption) (by rfl) (by exact fun _ => rfl) ?_)
    refine RunL.call C50 rfl rfl rfl (ac50 b s _ _ _ _ _ _ 0 m.seq rfl hnp) tks ?_
    refine RunL.op rfl rfl (OpJ.neqNil U71 rfl ?_)
    refine kp [3, 4, 5, 7, 22] rfl ?_
    first | refine Run.if rfl (fun h2 => ?_) (fun h2 => ?_) | refine Run.cond rfl (fun h2 => ?_) (fun h2 => ?_)
    · skip
      refine sr ?_
      refine RunL.op rfl rfl (OpJ.build B28 rfl rfl fun cs hcs => ?_)
      simp only [Sk.c, Mv.c, Co.c, bldL, bldA, Value.cells, bs, Nat.reduceAdd, Nat.reduceLeDiff, Nat.reduceLT] at hcs; subst hcs
      refine RunL.op rfl rfl (OpJ.build B43 rfl rfl fun cs hcs => ?_)
      simp only [Sk.c, Mv.c, Co.c, bldL, bldA, Value.cells, bs, Nat.reduceAdd, Nat.reduceLeDiff, Nat.reduceLT] at hcs; subst hcs
      refine RunL.op rfl rfl (OpJ.storeW T28 rfl rfl rfl rfl (by simp [Value.oneCell', Pa.c, Ly.c, Mv.c, Co.c]) up ?_)
      refine RunL.op rfl rfl (OpJ.storeW T43 rfl rfl rfl rfl (by simp [Value.oneCell', Pa.c, Ly.c, Mv.c, Co.c]) up ?_)
      refine asg rfl rfl ?_
      refine kp [4, 5, 6] rfl ?_
      refine Run.ret ?_
      have hres2 : lStep s m = .error 8 := (by unfold lStep; rw [if_neg h1, if_pos (by rw [← ptrOf_isSome (a := ⟨bp, 0, none⟩) (k := 7)]; exact h2)]); refine ret_out (none, 0, none, 0) (.cellA T28 rfl pk (by rfl) (.cellA T43 rfl pk (by rfl) (.tmp rfl .nil))) trivial (by rw [hres2]; rfl) ?_; rw [hres2]; exact gv
    · skip
      refine Run.skip ?_
      refine sr ?_
      refine mvo rfl rfl ?_
      first | refine RunL.op rfl rfl (OpJ.loadW T47 rfl pk (by rfl) ?_) | refine RunL.op rfl rfl (OpJ.loadP T47 rfl pk (by simp) ?_) | refine RunL.op rfl rfl (OpJ.loadE T47 rfl pk (by assumption) (by exact fun _ => rfl) rfl (by decide) ?_)
      refine RunL.callX C51 rfl rfl rfl (ac51 b s _ _ _ _ _ _ m rfl rfl hs hm (fun hk => ((MG.of (Decidable.not_not.1 h1)).q.2 (by omega)).1)) tks fun ⟨la2, lc2, pa2, pc2⟩ _ => ?_
      rcases hres : lDo s m with e | ⟨t, c⟩
      · skip
        refine mvo rfl rfl ?_
        refine RunL.op rfl rfl (OpJ.extract rfl rfl ?_)
        refine RunL.op rfl rfl (OpJ.extract rfl rfl ?_)
        refine RunL.op rfl rfl (OpJ.storeW T43 rfl rfl rfl rfl (by simp [Value.oneCell', Pa.c, Ly.c, Mv.c, Co.c]) up ?_)
        refine asg rfl rfl ?_
        refine kp [3, 4, 5, 6, 7] rfl ?_
        refine Run.seq ?_
        refine sr ?_
        refine mvo rfl rfl ?_
        refine RunL.op rfl rfl (OpJ.neq rfl rfl ?_)
        first | refine RunL.set (congrArg Value.bool (decide_eq_true (show errOf (Except.error _) ≠ 0 from lDo_err hres))) ?_ | skip
        refine kp [3, 4, 5, 6, 7, 32] rfl ?_
        refine Run.true rfl ?_
        refine sr ?_
        refine RunL.op rfl rfl (OpJ.build B28 rfl rfl fun cs hcs => ?_)
        simp only [Sk.c, Mv.c, Co.c, bldL, bldA, Value.cells, bs, Nat.reduceAdd, Nat.reduceLeDiff, Nat.reduceLT] at hcs; subst hcs
        refine RunL.op rfl rfl (OpJ.build B43 rfl rfl fun cs hcs => ?_)
        simp only [Sk.c, Mv.c, Co.c, bldL, bldA, Value.cells, bs, Nat.reduceAdd, Nat.reduceLeDiff, Nat.reduceLT] at hcs; subst hcs
        refine mvo rfl rfl ?_
        refine RunL.op rfl rfl (OpJ.storeW T28 rfl rfl rfl rfl (by simp [Value.oneCell', Pa.c, Ly.c, Mv.c, Co.c]) up ?_)
        refine RunL.op rfl rfl (OpJ.storeW T43 rfl rfl rfl rfl (by simp [Value.oneCell', Pa.c, Ly.c, Mv.c, Co.c]) up ?_)
        refine asg rfl rfl ?_
        refine kp [4, 5, 6] rfl ?_
        refine Run.ret ?_
        have hres2 : lStep s m = .error e := (by unfold lStep; rw [if_neg h1, if_neg (by rw [← ptrOf_isSome (a := ⟨bp, 0, none⟩) (k := 7)]; simp [h2]), hres]); refine ret_out (none, 0, none, 0) (.cellA T28 rfl pk (by rfl) (.cellA T43 rfl pk (by rfl) (.tmp rfl .nil))) trivial (by rw [hres2]; rfl) ?_; rw [hres2]; exact gv
      · skip
        have hto := lDo_ok hs hm hres
        have hnt : (summed t c).layers.length ≤ 1000000 := hto.nl
        refine mvo rfl rfl ?_
        refine RunL.op rfl rfl (OpJ.extract rfl rfl ?_)
        refine RunL.op rfl rfl (OpJ.extract rfl rfl ?_)
        refine RunL.op rfl rfl (OpJ.storeW T43 rfl rfl rfl rfl (by simp [Value.oneCell', Pa.c, Ly.c, Mv.c, Co.c]) up ?_)
        refine asg rfl rfl ?_
        refine kp [3, 4, 5, 6, 7] rfl ?_
        refine Run.seq ?_
        refine sr ?_
        refine mvo rfl rfl ?_
        refine RunL.op rfl rfl (OpJ.neq rfl rfl ?_)
        first | refine RunL.set (congrArg Value.bool (decide_eq_true (show errOf (Except.error _) ≠ 0 from lDo_err hres))) ?_ | skip
        refine kp [3, 4, 5, 6, 7, 32] rfl ?_
        refine Run.false rfl ?_
        refine Run.skip ?_
        refine sr ?_
        refine RunL.op rfl rfl (OpJ.fieldAddr F47_0 rfl ?_)
        first | refine RunL.op rfl rfl (OpJ.loadF T3 rfl pk (by rfl) ?_) | refine RunL.op rfl rfl (OpJ.loadO T3 rfl pk (by assumption) (by rfl) (by exact fun _ => rfl) ?_)
        refine RunL.op rfl rfl (OpJ.fieldAddr F43_0 rfl ?_)
        refine RunL.op rfl rfl (OpJ.store1 T3 rfl rfl rfl up (by show 0 < 4; decide) ?_)
        refine kp [4, 5, 7] rfl ?_
        refine Run.seq ?_
        refine regionD HM ?_
        refine tk 0 rfl rfl rfl (DetJ.move rfl) ?_
        refine tk 1 rfl rfl rfl (DetJ.nilCheck rfl) ?_
        refine tk 2 rfl rfl rfl (DetJ.fieldAddr F92_0 rfl) ?_
        refine tk 3 rfl rfl rfl (DetJ.fieldAddr F28_0 rfl) ?_
        first | refine RunD.takeF 4 rfl rfl kr T3 rfl pk (by rfl) ?_ | refine RunD.takeO 4 rfl rfl kr T3 rfl pk (by assumption) (by rfl) (by exact fun _ => rfl) ?_
        refine tk 5 rfl rfl rfl (DetJ.fieldAddr F43_1 rfl) ?_
        first | refine RunD.takeF 6 rfl rfl kr T3 rfl pk (by rfl) ?_ | refine RunD.takeO 6 rfl rfl kr T3 rfl pk (by assumption) (by rfl) (by exact fun _ => rfl) ?_
        refine tk 7 rfl rfl rfl (DetJ.add rfl rfl) ?_
        refine tk 8 rfl rfl rfl (DetJ.nilCheck rfl) ?_
        refine tk 9 rfl rfl rfl (DetJ.fieldAddr F92_0 rfl) ?_
        refine tk 10 rfl rfl rfl (DetJ.fieldAddr F28_0 rfl) ?_
        refine RunD.op 11 [false, false, false, false, false, false, false, false, false, false, false] rfl rfl rfl kr kr (OpJ.store1 T3 rfl rfl rfl up (by simp) ⟨po, ?_⟩)
        refine kd [4, 5, 7] rfl ?_
        refine Run.seq ?_
        refine regionD HM ?_
        refine tk 0 rfl rfl rfl (DetJ.move rfl) ?_
        refine tk 1 rfl rfl rfl (DetJ.nilCheck rfl) ?_
        refine tk 2 rfl rfl rfl (DetJ.fieldAddr F92_0 rfl) ?_
        refine tk 3 rfl rfl rfl (DetJ.fieldAddr F28_1 rfl) ?_
        first | refine RunD.takeF 4 rfl rfl kr T3 rfl pk (by rfl) ?_ | refine RunD.takeO 4 rfl rfl kr T3 rfl pk (by assumption) (by rfl) (by exact fun _ => rfl) ?_
        refine tk 5 rfl rfl rfl (DetJ.fieldAddr F43_2 rfl) ?_
        first | refine RunD.takeF 6 rfl rfl kr T3 rfl pk (by rfl) ?_ | refine RunD.takeO 6 rfl rfl kr T3 rfl pk (by assumption) (by rfl) (by exact fun _ => rfl) ?_
        refine tk 7 rfl rfl rfl (DetJ.add rfl rfl) ?_
        refine tk 8 rfl rfl rfl (DetJ.nilCheck rfl) ?_
        refine tk 9 rfl rfl rfl (DetJ.fieldAddr F92_0 rfl) ?_
        refine tk 10 rfl rfl rfl (DetJ.fieldAddr F28_1 rfl) ?_
        refine RunD.op 11 [false, false, false, false, false, false, false, false, false, false, false] rfl rfl rfl kr kr (OpJ.store1 T3 rfl rfl rfl up (by simp) ⟨po, ?_⟩)
        refine kd [4, 5, 7] rfl ?_
        refine Run.seq ?_
        refine sr ?_
        refine mvo rfl rfl ?_
        first | refine RunL.op rfl rfl (OpJ.loadW T43 rfl pk (by rfl) ?_) | refine RunL.op rfl rfl (OpJ.loadP T43 rfl pk (by simp) ?_) | refine RunL.op rfl rfl (OpJ.loadE T43 rfl pk (by assumption) (by exact fun _ => rfl) rfl (by decide) ?_)
        refine RunL.call C52 rfl rfl rfl (ac52 b (summed t c) _ _ _ _ _ _ { c with seq := m.seq } rfl hnt) tks ?_
        refine kp [4, 5, 7, 63] rfl ?_
        first | refine Run.if rfl (fun h3 => ?_) (fun h3 => ?_) | refine Run.cond rfl (fun h3 => ?_) (fun h3 => ?_)
        · skip
          refine sr ?_
          refine RunL.op rfl rfl (OpJ.build B28 rfl rfl fun cs hcs => ?_)
          simp only [Sk.c, Mv.c, Co.c, bldL, bldA, Value.cells, bs, Nat.reduceAdd, Nat.reduceLeDiff, Nat.reduceLT] at hcs; subst hcs
          refine RunL.op rfl rfl (OpJ.build B43 rfl rfl fun cs hcs => ?_)
          simp only [Sk.c, Mv.c, Co.c, bldL, bldA, Value.cells, bs, Nat.reduceAdd, Nat.reduceLeDiff, Nat.reduceLT] at hcs; subst hcs
          refine RunL.op rfl rfl (OpJ.storeW T28 rfl rfl rfl rfl (by simp [Value.oneCell', Pa.c, Ly.c, Mv.c, Co.c]) up ?_)
          refine RunL.op rfl rfl (OpJ.storeW T43 rfl rfl rfl rfl (by simp [Value.oneCell', Pa.c, Ly.c, Mv.c, Co.c]) up ?_)
          refine asg rfl rfl ?_
          refine kp [4, 5, 6] rfl ?_
          refine Run.ret ?_
          have hres2 : lStep s m = .error 4 := (by unfold lStep; rw [if_neg h1, if_neg (by rw [← ptrOf_isSome (a := ⟨bp, 0, none⟩) (k := 7)]; simp [h2]), hres]; exact if_pos (by assumption)); refine ret_out (none, 0, none, 0) (.cellA T28 rfl pk (by rfl) (.cellA T43 rfl pk (by rfl) (.tmp rfl .nil))) trivial (by rw [hres2]; rfl) ?_; rw [hres2]; exact gv
        · skip
          refine Run.skip ?_
          refine Run.seq ?_
          refine regionD HM ?_
          refine tk 0 rfl rfl rfl (DetJ.move rfl) ?_
          refine tk 1 rfl rfl rfl (DetJ.nilCheck rfl) ?_
          refine tk 2 rfl rfl rfl (DetJ.fieldAddr F92_0 rfl) ?_
          first | refine RunD.takeW 3 rfl rfl kr T28 rfl pk (by rfl) ?_ | refine RunD.takeP 3 rfl rfl kr T28 rfl pk (by simp) ?_ | refine RunD.takeE 3 rfl rfl kr T28 rfl pk (by assumption) (by exact fun _ => rfl) rfl (by decide) ?_
          first | refine RunD.takeW 4 rfl rfl kr T43 rfl pk (by rfl) ?_ | refine RunD.takeP 4 rfl rfl kr T43 rfl pk (by simp) ?_ | refine RunD.takeE 4 rfl rfl kr T43 rfl pk (by assumption) (by exact fun _ => rfl) rfl (by decide) ?_
          refine RunD.op 5 [true, false, false, false, false] rfl rfl rfl kr kr (OpJ.storeW T28 rfl rfl rfl rfl (by simp [Value.oneCell', Pa.c, Ly.c, Mv.c, Co.c]) up ⟨po, ?_⟩)
          refine RunD.op 6 [false] rfl rfl rfl kr kr (OpJ.storeW T43 rfl rfl rfl rfl (by simp [Value.oneCell', Pa.c, Ly.c, Mv.c, Co.c]) up ⟨po, ?_⟩)
          refine tk 7 rfl rfl rfl (DetJ.assign rfl) ?_
          refine kd [4, 5, 6] rfl ?_
          refine Run.ret ?_
          have hres2 : lStep s m = .ok (summed t c, { c with seq := m.seq }) := (by unfold lStep; rw [if_neg h1, if_neg (by rw [← ptrOf_isSome (a := ⟨bp, 0, none⟩) (k := 7)]; simp [h2]), hres]; exact if_neg (by simp only [overB] at *; simp only [*]; decide)); refine ret_out (la2, lc2, pa2, pc2) (.cellA T28 rfl pk (by rfl) (.cellA T43 rfl pk (by rfl) (.tmp rfl .nil))) trivial (by rw [hres2]; rfl) ?_; rw [hres2]; exact gv
end Go.Proofs.YtdcchollplhioaaGreatDoor

namespace Go.SL
open Go
def stepM (k : Int) (s : Sk) (m : Mv) : Except Int (Sk × Co) :=
  if k = 1 then fStep s m else if k = 2 then aStep s m else if k = 3 then sStep s m else if k = 4 then lStep s m else .error 10
theorem stepM_1 {k : Int} {s : Sk} {m : Mv} (h : k = 1) : stepM k s m = fStep s m := by unfold stepM; rw [if_pos h]
theorem stepM_2 {k : Int} {s : Sk} {m : Mv} (h : k = 2) : stepM k s m = aStep s m := by unfold stepM; rw [if_neg (by omega), if_pos h]
theorem stepM_3 {k : Int} {s : Sk} {m : Mv} (h : k = 3) : stepM k s m = sStep s m := by unfold stepM; rw [if_neg (by omega), if_neg (by omega), if_pos h]
theorem stepM_4 {k : Int} {s : Sk} {m : Mv} (h : k = 4) : stepM k s m = lStep s m := by unfold stepM; rw [if_neg (by omega), if_neg (by omega), if_neg (by omega), if_pos h]
theorem stepM_0 {k : Int} {s : Sk} {m : Mv} (h : ¬ k = 1 ∧ ¬ k = 2 ∧ ¬ k = 3 ∧ ¬ k = 4) : stepM k s m = .error 10 := by unfold stepM; rw [if_neg h.1, if_neg h.2.1, if_neg h.2.2.1, if_neg h.2.2.2]
def startE (k p : Int) : Int := if k < 1 ∨ 4 < k then 10 else if p < 0 ∨ 1000000000000 < p then 3 else 0
def sk0 : Sk := ⟨0, 0, 0, [], []⟩
def start0 (k p : Int) : Sk := if startE k p = 0 ∧ k = 3 then ⟨0, 0, p, [], []⟩ else sk0
theorem start0_c (k p : Int) : (start0 k p).c none 0 none 0 = [I 0, I 0, I (if startE k p = 0 ∧ k = 3 then p else 0), .slice none 0 0, .slice none 0 0] := by
  unfold start0; split <;> rfl
theorem start0_l (k p : Int) : (start0 k p).layers = [] := by unfold start0; split <;> rfl
theorem start0_p (k p : Int) : (start0 k p).past = [] := by unfold start0; split <;> rfl
theorem start0_q (k p : Int) : (start0 k p).qty = 0 := by unfold start0; split <;> rfl
theorem start0_v (k p : Int) : (start0 k p).value = 0 := by unfold start0; split <;> rfl
theorem start0_ok {k p : Int} (n : Nat) : (start0 k p).ok n := by
  refine ⟨by rw [start0_l]; simp, by rw [start0_p]; simp, fun i l h => by rw [start0_l] at h; simp at h, fun i l h => by rw [start0_p] at h; simp at h, by rw [start0_q]; decide, by rw [start0_v]; decide, ?_⟩
  unfold start0
  split
  · rename_i h
    have := h.1
    unfold startE at this
    split at this
    · cases this
    · split at this
      · cases this
      · constructor <;> simp only <;> omega
  · decide
theorem Sk.ok.mono {N M : Nat} {s : Sk} (h : s.ok N) (hm : N ≤ M) : s.ok M := ⟨Nat.le_trans h.nl hm, Nat.le_trans h.np hm, h.ly, h.pa, h.q, h.v, h.pr⟩
theorem stepM_ok {N : Nat} {k : Int} {s t : Sk} {m : Mv} {c : Co} (hs : s.ok N) (hm : m.ok) (h : stepM k s m = .ok (t, c)) : t.ok (N + 1) := by
  unfold stepM at h
  split at h
  · unfold fStep at h
    split at h
    · cases h
    split at h
    · cases h
    split at h
    · cases h
    rename_i hd
    split at h
    · cases h
    cases h
    exact summed_ok (fDo_ok hs hm hd)
  split at h
  · unfold aStep at h
    split at h
    · cases h
    split at h
    · cases h
    split at h
    · cases h
    rename_i hd
    split at h
    · cases h
    cases h
    exact summed_ok (aDo_ok hs hm hd)
  split at h
  · unfold sStep at h
    split at h
    · cases h
    split at h
    · cases h
    split at h
    · cases h
    rename_i hd
    split at h
    · cases h
    rename_i ho
    cases h
    have := (sDo_ok hs hm hd).1
    refine ⟨this.nl, this.np, this.ly, this.pa, W_i64 _, ?_, this.pr⟩
    show i64 (addN _ _)
    unfold addN; split
    · assumption
    · decide
  split at h
  · unfold lStep at h
    split at h
    · cases h
    split at h
    · cases h
    split at h
    · cases h
    rename_i hd
    split at h
    · cases h
    cases h
    exact summed_ok (lDo_ok hs hm hd)
  · cases h
theorem stepM_err {k : Int} {s : Sk} {m : Mv} {e : Int} (h : stepM k s m = .error e) : e ≠ 0 := by
  unfold stepM at h
  split at h
  · unfold fStep at h
    split at h
    · rename_i h1; cases h; exact h1
    split at h
    · cases h; decide
    split at h
    · rename_i hd; cases h; exact fDo_err hd
    split at h <;> cases h; decide
  split at h
  · unfold aStep at h
    split at h
    · rename_i h1; cases h; exact h1
    split at h
    · cases h; decide
    split at h
    · rename_i hd; cases h; exact aDo_err hd
    split at h <;> cases h; decide
  split at h
  · unfold sStep at h
    split at h
    · rename_i h1; cases h; exact h1
    split at h
    · cases h; decide
    split at h
    · rename_i hd; cases h; exact sDo_err hd
    split at h <;> cases h; decide
  split at h
  · unfold lStep at h
    split at h
    · rename_i h1; cases h; exact h1
    split at h
    · cases h; decide
    split at h
    · rename_i hd; cases h; exact lDo_err hd
    split at h <;> cases h; decide
  · cases h; decide
/-- All movements, one after the other: the place and the error of the first that fails, or the stock and the costs. -/
def runL {σ α ο : Type} (f : σ → α → Except Int (σ × ο)) : σ → List α → Except (Nat × Int) (σ × List ο)
  | s, [] => .ok (s, [])
  | s, m :: ms => match f s m with
    | .error e => .error (0, e)
    | .ok (t, c) => match runL f t ms with
      | .error (i, e) => .error (i + 1, e)
      | .ok (u, cs) => .ok (u, c :: cs)
theorem runL_app {σ α ο : Type} {f : σ → α → Except Int (σ × ο)} : ∀ (ms ns : List α) (s : σ), runL f s (ms ++ ns) = (match runL f s ms with
    | .error x => .error x
    | .ok (t, cs) => match runL f t ns with | .error (i, e) => .error (ms.length + i, e) | .ok (u, ds) => .ok (u, cs ++ ds))
  | [], ns, s => by
    simp only [List.nil_append, runL, List.length_nil, Nat.zero_add]
    rcases runL f s ns with ⟨i, e⟩ | ⟨u, ds⟩ <;> rfl
  | m :: ms, ns, s => by
    simp only [List.cons_append, runL]
    rcases f s m with e | ⟨t, c⟩
    · rfl
    · simp only [runL_app ms ns t]
      rcases runL f t ms with ⟨i, e⟩ | ⟨u, cs⟩
      · rfl
      · simp only
        rcases runL f u ns with ⟨j, e⟩ | ⟨v, ds⟩
        · simp only [List.length_cons]; congr 2; omega
        · rfl
theorem take_get {α : Type} {xs : List α} {i : Nat} {x : α} (h : xs[i]? = some x) : xs = xs.take i ++ x :: xs.drop (i + 1) := by
  obtain ⟨hi, rfl⟩ := List.getElem?_eq_some_iff.1 h
  rw [List.getElem_cons_drop hi, List.take_append_drop]
theorem take_succ_get {α : Type} {xs : List α} {i : Nat} {x : α} (h : xs[i]? = some x) : xs.take (i + 1) = xs.take i ++ [x] := by
  rw [List.take_add_one, h]; rfl
theorem runL_snoc {σ α ο : Type} {f : σ → α → Except Int (σ × ο)} {s u t : σ} {ms : List α} {cs : List ο} {i : Nat} {m : α} {c : ο} (h : runL f s (ms.take i) = .ok (u, cs)) (hx : ms[i]? = some m) (hf : f u m = .ok (t, c)) : runL f s (ms.take (i + 1)) = .ok (t, cs ++ [c]) := by
  rw [take_succ_get hx, runL_app, h]; simp only [runL, hf]
theorem runL_fail {σ α ο : Type} {f : σ → α → Except Int (σ × ο)} {s u : σ} {ms : List α} {cs : List ο} {i : Nat} {m : α} {e : Int} (h : runL f s (ms.take i) = .ok (u, cs)) (hx : ms[i]? = some m) (hf : f u m = .error e) : runL f s ms = .error (i, e) := by
  have hi := (List.getElem?_eq_some_iff.1 hx).1
  rw [take_get hx, runL_app, h]
  simp only [runL, hf, List.length_take, Nat.add_zero, Nat.min_eq_left (Nat.le_of_lt hi)]
theorem runL_all {σ α ο : Type} {f : σ → α → Except Int (σ × ο)} {s : σ} {ms : List α} {i : Nat} (h : i = ms.length) : runL f s ms = runL f s (ms.take i) := by rw [h, List.take_length]
theorem runL_len {σ α ο : Type} {f : σ → α → Except Int (σ × ο)} : ∀ {ms : List α} {s u : σ} {cs : List ο}, runL f s ms = .ok (u, cs) → cs.length = ms.length
  | [], s, u, cs, h => by cases h; rfl
  | m :: ms, s, u, cs, h => by
    unfold runL at h
    split at h
    · cases h
    split at h
    · cases h
    rename_i hr; cases h
    simp [runL_len hr]
theorem runL_err {k : Int} : ∀ {ms : List Mv} {s : Sk} {i : Nat} {e : Int}, runL (stepM k) s ms = .error (i, e) → e ≠ 0 ∧ i < ms.length
  | [], s, i, e, h => by cases h
  | m :: ms, s, i, e, h => by
    unfold runL at h
    split at h
    · rename_i he; cases h; exact ⟨stepM_err he, by simp⟩
    split at h
    · rename_i hr; cases h; have := runL_err hr; exact ⟨this.1, by simp only [List.length_cons]; omega⟩
    · cases h
theorem runL_ok {k : Int} : ∀ {ms : List Mv} {s u : Sk} {cs : List Co} {N : Nat}, (∀ m ∈ ms, m.ok) → s.ok N → runL (stepM k) s ms = .ok (u, cs) → u.ok (N + ms.length)
  | [], s, u, cs, N, hm, hs, h => by cases h; exact hs
  | m :: ms, s, u, cs, N, hm, hs, h => by
    unfold runL at h
    split at h
    · cases h
    rename_i hf
    split at h
    · cases h
    rename_i hr; cases h
    have := runL_ok (fun x hx => hm x (by simp [hx])) (stepM_ok hs (hm m (by simp)) hf) hr
    simp only [List.length_cons]; rw [show N + (ms.length + 1) = N + 1 + ms.length by omega]; exact this
/-- A run from its start: the place and the error, or the stock and the costs. -/
def runM (k p : Int) (ms : List Mv) : Except (Int × Int) (Sk × List Co) :=
  if startE k p ≠ 0 then .error (-1, startE k p) else match runL (stepM k) (start0 k p) ms with | .error (i, e) => .error ((i : Int), e) | .ok x => .ok x
theorem runM_err {k p : Int} {ms : List Mv} {i e : Int} (h : runM k p ms = .error (i, e)) : e ≠ 0 := by
  unfold runM at h
  split at h
  · cases h; assumption
  · split at h
    · rename_i hr; cases h; exact (runL_err hr).1
    · cases h
def RunV (r : Except (Int × Int) (Sk × List Co)) (x : Option Addr × Nat × Option Addr × Nat × Option Addr × Nat) : Value :=
  match r with
  | .error (i, e) => .tuple ⟨[.agg ⟨[I 0, I 0, I 0, .slice none 0 0, .slice none 0 0]⟩, .slice none 0 0, I i, I e]⟩
  | .ok (t, cs) => .tuple ⟨[.agg ⟨t.c x.1 x.2.1 x.2.2.1 x.2.2.2.1⟩, .slice x.2.2.2.2.1 cs.length x.2.2.2.2.2, I (-1), I 0]⟩
def RunB (TL TP TC : Nat) (r : Except (Int × Int) (Sk × List Co)) (x : Option Addr × Nat × Option Addr × Nat × Option Addr × Nat) : List HP :=
  match r with
  | .error _ => []
  | .ok (t, cs) => [own TL 4 x.1 t.layers.length x.2.1 (t.layers.flatMap Ly.c), own TP 7 x.2.2.1 t.past.length x.2.2.2.1 (t.past.flatMap Pa.c), own TC 4 x.2.2.2.2.1 cs.length x.2.2.2.2.2 (cs.flatMap Co.c)]
/-- The state of a run in memory. -/
abbrev RC (k : Int) (s : Sk) (la : Option Addr) (lc : Nat) (pa : Option Addr) (pc : Nat) (ca : Option Addr) (cs : List Co) (cc : Nat) : List Value :=
  [I k, I s.qty, I s.value, I s.price, .slice la s.layers.length lc, .slice pa s.past.length pc, .slice ca cs.length cc]
def StS (r : Except Int (Sk × Co)) (x : Option Addr × Nat × Option Addr × Nat) : List Value :=
  match r with
  | .error _ => [I 0, I 0, I 0, .slice none 0 0, .slice none 0 0]
  | .ok (t, _) => t.c x.1 x.2.1 x.2.2.1 x.2.2.2
theorem StS_len {r : Except Int (Sk × Co)} {x : Option Addr × Nat × Option Addr × Nat} : (StS r x).length = 5 := by unfold StS; split <;> rfl
theorem StS_one {r : Except Int (Sk × Co)} {x : Option Addr × Nat × Option Addr × Nat} : ∀ v ∈ StS r x, Value.oneCell' v = true := by unfold StS; split <;> simp [Value.oneCell']
theorem StV_eq {r : Except Int (Sk × Co)} {x : Option Addr × Nat × Option Addr × Nat} : StV r x = .tuple ⟨[.agg ⟨StS r x⟩, .agg ⟨(avC r).c⟩, I (errOf r)]⟩ := by
  rcases r with e | ⟨t, c⟩ <;> rfl
def PerB (TX TL TP TC br : Nat) (k : Int) (r : Except Int (Sk × Co)) (cs : List Co) (x : Option Addr × Nat × Option Addr × Nat × Option Addr × Nat) : List HP :=
  match r with
  | .error _ => []
  | .ok (t, c) => [pt br (blk (RC k t x.1 x.2.1 x.2.2.1 x.2.2.2.1 x.2.2.2.2.1 (cs ++ [c]) x.2.2.2.2.2) TX), own TL 4 x.1 t.layers.length x.2.1 (t.layers.flatMap Ly.c), own TP 7 x.2.2.1 t.past.length x.2.2.2.1 (t.past.flatMap Pa.c), own TC 4 x.2.2.2.2.1 (cs ++ [c]).length x.2.2.2.2.2 ((cs ++ [c]).flatMap Co.c)]
def eachI (r : Except (Nat × Int) (Sk × List Co)) : Int := match r with | .error (i, _) => (i : Int) | .ok _ => -1
def eachE (r : Except (Nat × Int) (Sk × List Co)) : Int := match r with | .error (_, e) => e | .ok _ => 0
def EachB (TX TL TP TC br : Nat) (k : Int) (r : Except (Nat × Int) (Sk × List Co)) (x : Option Addr × Nat × Option Addr × Nat × Option Addr × Nat) : List HP :=
  match r with
  | .error _ => []
  | .ok (t, cs) => [pt br (blk (RC k t x.1 x.2.1 x.2.2.1 x.2.2.2.1 x.2.2.2.2.1 cs x.2.2.2.2.2) TX), own TL 4 x.1 t.layers.length x.2.1 (t.layers.flatMap Ly.c), own TP 7 x.2.2.1 t.past.length x.2.2.2.1 (t.past.flatMap Pa.c), own TC 4 x.2.2.2.2.1 cs.length x.2.2.2.2.2 (cs.flatMap Co.c)]
theorem runM_no {k p : Int} {ms : List Mv} (h : startE k p ≠ 0) : runM k p ms = .error (-1, startE k p) := if_pos h
theorem runM_er {k p : Int} {ms : List Mv} {i : Nat} {e : Int} (h : startE k p = 0) (hr : runL (stepM k) (start0 k p) ms = .error (i, e)) : runM k p ms = .error ((i : Int), e) := by unfold runM; rw [if_neg (fun x => x h), hr]
theorem runM_ok {k p : Int} {ms : List Mv} {x : Sk × List Co} (h : startE k p = 0) (hr : runL (stepM k) (start0 k p) ms = .ok x) : runM k p ms = .ok x := by unfold runM; rw [if_neg (fun x => x h), hr]
theorem runM_iff {k p : Int} {ms : List Mv} {x : Sk × List Co} : runM k p ms = .ok x ↔ startE k p = 0 ∧ runL (stepM k) (start0 k p) ms = .ok x := by
  constructor
  · intro h
    unfold runM at h
    split at h
    · cases h
    · rename_i h0
      split at h
      · cases h
      · rename_i hr; cases h; exact ⟨Decidable.not_not.1 h0, hr⟩
  · rintro ⟨h1, h2⟩; exact runM_ok h1 h2
theorem Mv.one8 (x : Mv) : ∀ v ∈ x.c, Value.oneCell' v = true := by simp [Mv.c, Value.oneCell']
theorem Co.one4 (x : Co) : ∀ v ∈ x.c, Value.oneCell' v = true := by simp [Co.c, Value.oneCell']
theorem Rd.mv {R : HP} {b o i : Nat} {ms : List Mv} {m : Mv} (hrd : Rd R ⟨b, o, none⟩ (ms.flatMap Mv.c)) (hx : ms[i]? = some m) (j : Nat) (v : Value) (hv : m.c[j]? = some v) : Rd R ⟨b, o + i * 8 + j, none⟩ [v] := (Rd.elem (k := 8) (fun _ => rfl) hrd hx).fld hv
theorem Rd.co {R : HP} {b o i : Nat} {cs : List Co} {c : Co} (hrd : Rd R ⟨b, o, none⟩ (cs.flatMap Co.c)) (hx : cs[i]? = some c) (j : Nat) (v : Value) (hv : c.c[j]? = some v) : Rd R ⟨b, o + i * 4 + j, none⟩ [v] := (Rd.elem (k := 4) (fun _ => rfl) hrd hx).fld hv
def largeM (m : Mv) : Bool := decide (100 < W ((m.item.size : Int) + (m.lot.size : Int)))
def largeMs (ms : List Mv) : Bool := decide (40 < (ms.length : Int)) || ms.any largeM
theorem largeMs_hit {ms : List Mv} {i : Nat} {m : Mv} (hx : ms[i]? = some m) (h : largeM m = true) : largeMs ms = true := by
  unfold largeMs; rw [List.any_eq_true.2 ⟨m, List.mem_of_getElem? hx, h⟩, Bool.or_true]
theorem largeMs_no {ms : List Mv} {i : Nat} (hl : ¬ 40 < (ms.length : Int)) (hi : i = ms.length) (h : ∀ (j : Nat) (y : Mv), j < i → ms[j]? = some y → largeM y = false) : largeMs ms = false := by
  subst hi
  unfold largeMs
  rw [decide_eq_false hl, Bool.false_or, List.any_eq_false]
  intro m hm
  obtain ⟨j, hj, rfl⟩ := List.getElem_of_mem hm
  rw [h j _ hj (List.getElem?_eq_getElem hj)]; decide
def changeM (m : Mv) : Int := if inB m.qty 1 1000000000 = true then (if m.kind = 1 ∨ m.kind = 3 then m.qty else if m.kind = 2 ∨ m.kind = 4 then W (0 - m.qty) else 0) else 0
def levM (q : Int) (m : Mv) : Except Int (Int × Int) :=
  if W (q + changeM m) < 0 then .error 21 else if 1000000000 < W (q + changeM m) then .error 4 else .ok (W (q + changeM m), W (q + changeM m))
def Iv (n : Int) : List Value := [I n]
theorem Iv.one (n : Int) : ∀ v ∈ Iv n, Value.oneCell' v = true := by simp [Iv, Value.oneCell']
def LevV (r : Except (Nat × Int) (Int × List Int)) (x : Option Addr × Nat) : Value :=
  match r with
  | .error (i, e) => .tuple ⟨[.slice none 0 0, I (i : Int), I e]⟩
  | .ok (_, qs) => .tuple ⟨[.slice x.1 qs.length x.2, I (-1), I 0]⟩
def LevB (T : TypeId) (r : Except (Nat × Int) (Int × List Int)) (x : Option Addr × Nat) : List HP :=
  match r with
  | .error _ => []
  | .ok (_, qs) => [own T 1 x.1 qs.length x.2 (qs.flatMap Iv)]
def fewMs : List Mv := [⟨1, 46021, ⟨#[120]⟩, 1, 10, 100, ⟨#[]⟩, 0⟩, ⟨2, 46022, ⟨#[120]⟩, 1, 10, 140, ⟨#[]⟩, 0⟩, ⟨3, 46023, ⟨#[120]⟩, 2, 5, 0, ⟨#[]⟩, 0⟩]
theorem fewOk : ∀ m ∈ fewMs, m.ok := by
  intro m hm
  simp only [fewMs, List.mem_cons, List.not_mem_nil, or_false] at hm
  rcases hm with rfl | rfl | rfl <;> (constructor <;> decide)
end Go.SL

namespace Go.SL
open Go
section
variable {P : Program} {β : Base} {E : Env} {L L' M M' : List HP} {K : Value → List HP → Prop} {d : Option Tmp} {ty : TypeId} {pos : String} {af : Array Edge} {g : Option (Nat × Bool)} {x y : Operand} {t t' : TypeId} {e : TypeId} {k : Nat}
theorem fill_congr {f h : Nat → Option (Nat × Nat)} : ∀ (ps : List (Nat × Value)) (cs : Array Value), (∀ p ∈ ps, f p.1 = h p.1) → Instr.fill f cs ps = Instr.fill h cs ps
  | [], cs, _ => rfl
  | p :: ps, cs, hp => by
    have h1 := hp p (by simp)
    have ih := fun cs => fill_congr ps cs fun q hq => hp q (by simp [hq])
    obtain ⟨i, v⟩ := p
    simp only at h1
    simp only [Instr.fill, h1]
    cases h i with
    | none => rfl
    | some o =>
      simp only
      split
      · rfl
      · exact ih _
def slPlaces (n k : Nat) : List (Nat × Nat) := (List.range n).map fun i => (i * k, k)
theorem OpJ.buildSliceN {n : Nat} {xs : List (Nat × Operand)} {ps : List (Nat × Value)} {zs cs : List Value} (S : SI P t e k) (Z : ZI P e zs) (hz : zs.length = k) (h0 : 0 < n * k) (hk : n * k ≤ 16777216) (hx : E.evp xs = some ps) (hi : ps.all (fun p => decide (p.1 < n)) = true)
    (hcs : bldL (slPlaces n k) (List.replicate n zs).flatten ps = some cs) (h : ∀ b, K (.slice (some ⟨b, 0, none⟩) n n) (pt b (blk cs e) :: L)) : OpJ P β E L ⟨d, .buildSlice t n ⟨xs⟩, ty, pos, af, g⟩ K := OpJ.vals fun a w ha hs => by
  obtain ⟨i, z, hi', hiz, rfl⟩ := Z.zero
  refine ⟨.slice (some ⟨w.heap.size, 0, none⟩) n n, pt w.heap.size (blk cs e) :: L, w.alloc (blk cs e), ?_, Has.alloc hs _, h w.heap.size⟩
  have hzc : ((Array.range (n * k)).map (z.cells[· % z.cells.size]!)) = ⟨(List.replicate n z.cells.toList).flatten⟩ := by
    have hsz : z.cells.size = k := by simpa using hz
    have := madeCells_flat z.cells.toList n
    rw [hz] at this
    apply Array.ext'
    rw [← this]
    simp only [madeCells, Array.toArray_toList]
  have hfill : Instr.fill (fun i => some (i * k, k)) ((Array.range (n * k)).map (z.cells[· % z.cells.size]!)) ps = some ⟨cs⟩ := by
    rw [hzc, ← fill_bldL _ _ _ _ hcs]
    refine fill_congr _ _ fun p hp => ?_
    have hpn : p.1 < n := by simpa using List.all_eq_true.1 hi p hp
    simp [slPlaces, hpn]
  have hpar := ha.evp hx
  have hk2 : ¬ (16777216 < n * k) := by omega
  have hk0 : ¬ (n * k = 0) := by omega
  have hn0 : n ≠ 0 := by rintro rfl; simp at h0
  have hkk : k ≠ 0 := by rintro rfl; simp at h0
  simp only [execOp, Instr.buildSlice]
  simp only [Sem.run_bind, run_underlying S.under, Result.andThen_ok, S.run_size]
  have hpar2 : (Array.map (fun x => (x.1, a.eval x.2)) ⟨xs⟩).toList = ps := by
    rw [← hpar]; simp
  simp [hn0, hkk, hk2, zeroValue, typeInfo, hi', hiz, newRow, hpar, hfill]
  rw [if_neg hk0]
  rfl
end
section
variable {P : Program} {β : Base} {n : Nat} {arr : Array Oper} {os : List Oper} {E : Env} {L M As : List HP} {K : Env → List HP → Prop}
theorem stars_mk : ∀ {As M : List HP} {h : Hp}, star (stars As) (stars M) h → stars (As ++ M) h
  | [], M, h, hs => by
    obtain ⟨h1, h2, hd, rfl, ha, hb⟩ := hs
    rw [Hp.add_none ha]; exact hb
  | A :: As, M, h, hs => star_mono (fun _ => id) (fun _ h => stars_mk h) (star_assoc' hs)
theorem RunL.unstar (p : Pick L (stars As) M) (h : RunL P β n arr os E (As ++ M) K) : RunL P β n arr os E L K :=
  RunL.mapL (L' := As ++ M) (fun w hs => Has.mono hs fun _ hh => stars_mk (p.star hh)) h
theorem RunD.rdOpen {ops : Array Oper} {fuel : Nat} {listed : Array Bool} {pend : Pend} {R : HP} {oa : Option Addr} {cs : List Value} (p : Pick L R M) (hr : RdS R oa cs) (hne : cs ≠ []) (k : ∀ b o, oa = some ⟨b, o, none⟩ → Rd R ⟨b, o, none⟩ cs → RunD P β n ops fuel listed pend E L K) : RunD P β n ops fuel listed pend E L K := fun a w ha hs hp Q hnp hQ => by
  have hs' := hs
  obtain ⟨⟨hp', hlp, _⟩, _⟩ := hs'
  obtain ⟨h1', h2', _, e, hA, _⟩ := p.star hlp
  obtain ⟨b', o', rfl⟩ := hr.addr hne hA
  exact k b' o' rfl (hr.rd hne) a w ha hs hp Q hnp hQ
theorem stars_un : ∀ {As M : List HP} {h : Hp}, stars (As ++ M) h → star (stars As) (stars M) h
  | [], M, h, hs => ⟨fun _ => none, h, fun b => .inl rfl, by funext b; simp [Hp.add], fun _ => rfl, hs⟩
  | A :: As, M, h, hs => star_assoc (star_mono (fun _ => id) (fun _ h => stars_un h) hs)
theorem RunL.ownNilX {α : Type} {enc : α → List Value} {xs : List α} (T : TypeId) (k : Nat) (h0 : xs = []) (h : RunL P β n arr os E (own T k none xs.length 0 (xs.flatMap enc) :: L) K) : RunL P β n arr os E L K := by
  subst h0; exact RunL.ownNil T k h
end
/-- A guard whose operation did not run. -/
theorem RunD.takeU {P : Program} {β : Base} {n : Nat} {ops : Array Oper} {fuel : Nat} {listed : Array Bool} {pend : Pend} {E : Env} {L : List HP} {K : Env → List HP → Prop} (i : Nat) {o : Oper} {j : Nat} {b : Bool} {gd : Tmp} (hi : ops[i]? = some o) (hg : o.guard = some (j, b)) (hj : (ops[j]?).bind (·.dst) = some gd) (hb : E.get gd = some Go.undef) (hd : dstOk n o.dst = true)
    (h : RunD P β n ops fuel (listed.setIfInBounds i true) ((i, []) :: pend) (E.put o.dst Go.undef) L K) (hchk : (Region.noSelect ops && Region.free .any ops listed i && (Region.ready .any ops listed).contains i) = true := by kernel_rfl) : RunD P β n ops (fuel + 1) listed pend E L K := fun a w ha hs hp Q hnp hQ => by
  simp only [Bool.and_eq_true] at hchk
  have hsl : Sat β [] w := hs.gives .nil
  have hw : Region.wanted o (yielded ops a.tmps) = false := by
    have h := ha.env gd _ hb
    have hy : yielded ops a.tmps j = none := by
      unfold yielded
      rw [hj]
      simp only [Option.bind_some]
      rw [Array.getD_eq_getD_getElem?] at h
      cases hd : a.tmps[gd]? with
      | none => rfl
      | some v => rw [hd] at h; simp at h; subst h; rfl
    simp [Region.wanted, hg, hy]
  refine wpAnyS_first hi (Region.noSelect_spec hchk.1.1) (fun c a w h => absurd h (hnp _ _ _)) fuel listed (pend.w β) a w (Region.free_spec hi hchk.1.2) (by simpa using hchk.2) (.inr ⟨hw, rfl⟩) hsl ?_
  exact h (a.put o.dst Go.undef) w (ha.put (dstOk_spec hd) Go.undef) hs (fun p hp' => by
    rcases List.mem_cons.1 hp' with rfl | h'
    · exact hsl
    · exact hp p h') Q hnp hQ
end Go.SL

namespace Go.Proofs.YtdcchollplhioaaGreatDoor
open Go Go.SL Go.Proofs
theorem C20 : CI Tryz.prog 20 := .of (by kernel_rfl)
theorem C21 : CI Tryz.prog 21 := .of (by kernel_rfl)
theorem C22 : CI Tryz.prog 22 := .of (by kernel_rfl)
theorem C23 : CI Tryz.prog 23 := .of (by kernel_rfl)
-- costing.Start
theorem ac13 (k p : Int) : AC Tryz.prog 13 ⟨[I k, I p]⟩ (stars []) (Ret (.tuple ⟨[.agg ⟨(start0 k p).c none 0 none 0⟩, I (startE k p)]⟩) []) := by
  refine AC.go Tryz.func13 rfl (Nat.le_of_ble_eq_true rfl) fun β => ?_
  refine sr ?_
  refine RunL.op rfl rfl (OpJ.alloc Z28 fun b4 => ?_)
  refine asg rfl rfl ?_
  refine kp [0, 1, 4] rfl ?_
  refine Run.seq ?_
  refine Run.block ?_
  refine sr ?_
  refine mvo rfl rfl ?_
  refine RunL.op rfl rfl (OpJ.lss rfl rfl ?_)
  refine mvo rfl rfl ?_
  first | refine RunL.splitP (t := 9) rfl (fun g1 => ?_) (fun g1 => ?_) | refine RunL.split (t := 9) rfl (fun g1 => ?_) (fun g1 => ?_)
  · skip
    refine RunL.no rfl rfl rfl rfl ?_
    refine RunL.no rfl rfl rfl rfl ?_
    refine RunL.op rfl rfl (OpJ.pickT rfl rfl ?_)
    refine asg rfl rfl ?_
    refine kp [0, 1, 4, 6] rfl ?_
    refine Run.true rfl ?_
    refine sr ?_
    refine RunL.op rfl rfl (OpJ.build B28 rfl rfl fun cs hcs => ?_)
    simp only [Sk.c, Mv.c, Co.c, bldL, bldA, Value.cells, bs, Nat.reduceAdd, Nat.reduceLeDiff, Nat.reduceLT] at hcs; subst hcs
    refine RunL.op rfl rfl (OpJ.storeW T28 rfl rfl rfl rfl (by simp [Value.oneCell', Pa.c, Ly.c, Mv.c, Co.c]) up ?_)
    refine asg rfl rfl ?_
    refine kp [4, 5] rfl ?_
    refine Run.ret ?_
    exact ret_one (.cellA T28 rfl pk (by rfl) (.tmp rfl .nil)) (by rw [start0_c]; first | (simp [tup, startE, *]; done) | (exfalso; simp_all; done) | (simp [tup, startE, *]; omega)) gv
  · skip
    refine RunL.yes rfl rfl rfl rfl (OpJ.move rfl ?_)
    refine RunL.yes rfl rfl rfl rfl (OpJ.gtr rfl rfl ?_)
    refine RunL.op rfl rfl (OpJ.pickF rfl rfl ?_)
    refine asg rfl rfl ?_
    refine kp [0, 1, 4, 6] rfl ?_
    first | refine Run.if rfl (fun h2 => ?_) (fun h2 => ?_) | refine Run.cond rfl (fun h2 => ?_) (fun h2 => ?_)
    · skip
      refine sr ?_
      refine RunL.op rfl rfl (OpJ.build B28 rfl rfl fun cs hcs => ?_)
      simp only [Sk.c, Mv.c, Co.c, bldL, bldA, Value.cells, bs, Nat.reduceAdd, Nat.reduceLeDiff, Nat.reduceLT] at hcs; subst hcs
      refine RunL.op rfl rfl (OpJ.storeW T28 rfl rfl rfl rfl (by simp [Value.oneCell', Pa.c, Ly.c, Mv.c, Co.c]) up ?_)
      refine asg rfl rfl ?_
      refine kp [4, 5] rfl ?_
      refine Run.ret ?_
      exact ret_one (.cellA T28 rfl pk (by rfl) (.tmp rfl .nil)) (by rw [start0_c]; first | (simp [tup, startE, *]; done) | (exfalso; simp_all; done) | (simp [tup, startE, *]; omega)) gv
    · skip
      refine sr ?_
      refine mvo rfl rfl ?_
      refine RunL.op rfl rfl (OpJ.lss rfl rfl ?_)
      refine mvo rfl rfl ?_
      first | refine RunL.splitP (t := 17) rfl (fun g3 => ?_) (fun g3 => ?_) | refine RunL.split (t := 17) rfl (fun g3 => ?_) (fun g3 => ?_)
      · skip
        refine RunL.no rfl rfl rfl rfl ?_
        refine RunL.no rfl rfl rfl rfl ?_
        refine RunL.op rfl rfl (OpJ.pickT rfl rfl ?_)
        refine asg rfl rfl ?_
        refine kp [0, 1, 4, 14] rfl ?_
        refine Run.true rfl ?_
        refine sr ?_
        refine RunL.op rfl rfl (OpJ.build B28 rfl rfl fun cs hcs => ?_)
        simp only [Sk.c, Mv.c, Co.c, bldL, bldA, Value.cells, bs, Nat.reduceAdd, Nat.reduceLeDiff, Nat.reduceLT] at hcs; subst hcs
        refine RunL.op rfl rfl (OpJ.storeW T28 rfl rfl rfl rfl (by simp [Value.oneCell', Pa.c, Ly.c, Mv.c, Co.c]) up ?_)
        refine asg rfl rfl ?_
        refine kp [4, 5] rfl ?_
        refine Run.ret ?_
        exact ret_one (.cellA T28 rfl pk (by rfl) (.tmp rfl .nil)) (by rw [start0_c]; first | (simp [tup, startE, *]; done) | (exfalso; simp_all; done) | (simp [tup, startE, *]; omega)) gv
      · skip
        refine RunL.yes rfl rfl rfl rfl (OpJ.move rfl ?_)
        refine RunL.yes rfl rfl rfl rfl (OpJ.gtr rfl rfl ?_)
        refine RunL.op rfl rfl (OpJ.pickF rfl rfl ?_)
        refine asg rfl rfl ?_
        refine kp [0, 1, 4, 14] rfl ?_
        first | refine Run.if rfl (fun h4 => ?_) (fun h4 => ?_) | refine Run.cond rfl (fun h4 => ?_) (fun h4 => ?_)
        · skip
          refine sr ?_
          refine RunL.op rfl rfl (OpJ.build B28 rfl rfl fun cs hcs => ?_)
          simp only [Sk.c, Mv.c, Co.c, bldL, bldA, Value.cells, bs, Nat.reduceAdd, Nat.reduceLeDiff, Nat.reduceLT] at hcs; subst hcs
          refine RunL.op rfl rfl (OpJ.storeW T28 rfl rfl rfl rfl (by simp [Value.oneCell', Pa.c, Ly.c, Mv.c, Co.c]) up ?_)
          refine asg rfl rfl ?_
          refine kp [4, 5] rfl ?_
          refine Run.ret ?_
          exact ret_one (.cellA T28 rfl pk (by rfl) (.tmp rfl .nil)) (by rw [start0_c]; first | (simp [tup, startE, *]; done) | (exfalso; simp_all; done) | (simp [tup, startE, *]; omega)) gv
        · skip
          refine sr ?_
          refine mvo rfl rfl ?_
          refine RunL.op rfl rfl (OpJ.eql rfl rfl ?_)
          refine asg rfl rfl ?_
          refine kp [1, 4, 22] rfl ?_
          first | refine Run.if rfl (fun h5 => ?_) (fun h5 => ?_) | refine Run.cond rfl (fun h5 => ?_) (fun h5 => ?_)
          · skip
            refine sr ?_
            refine mvo rfl rfl ?_
            refine RunL.op rfl rfl (OpJ.build B28 rfl rfl fun cs hcs => ?_)
            simp only [Sk.c, Mv.c, Co.c, bldL, bldA, Value.cells, bs, Nat.reduceAdd, Nat.reduceLeDiff, Nat.reduceLT] at hcs; subst hcs
            refine RunL.op rfl rfl (OpJ.storeW T28 rfl rfl rfl rfl (by simp [Value.oneCell', Pa.c, Ly.c, Mv.c, Co.c]) up ?_)
            refine asg rfl rfl ?_
            refine kp [4, 5] rfl ?_
            refine Run.ret ?_
            exact ret_one (.cellA T28 rfl pk (by rfl) (.tmp rfl .nil)) (by rw [start0_c]; first | (simp [tup, startE, *]; done) | (exfalso; simp_all; done) | (simp [tup, startE, *]; omega)) gv
          · skip
            refine Run.skip ?_
            refine sr ?_
            refine RunL.op rfl rfl (OpJ.build B28 rfl rfl fun cs hcs => ?_)
            simp only [Sk.c, Mv.c, Co.c, bldL, bldA, Value.cells, bs, Nat.reduceAdd, Nat.reduceLeDiff, Nat.reduceLT] at hcs; subst hcs
            refine RunL.op rfl rfl (OpJ.storeW T28 rfl rfl rfl rfl (by simp [Value.oneCell', Pa.c, Ly.c, Mv.c, Co.c]) up ?_)
            refine asg rfl rfl ?_
            refine kp [4, 5] rfl ?_
            refine Run.ret ?_
            exact ret_one (.cellA T28 rfl pk (by rfl) (.tmp rfl .nil)) (by rw [start0_c]; first | (simp [tup, startE, *]; done) | (exfalso; simp_all; done) | (simp [tup, startE, *]; omega)) gv
-- costing.Step
theorem ac19 (k : Int) (s : Sk) (m : Mv) (la : Option Addr) (lc : Nat) (pa : Option Addr) (pc : Nat) (RL RP : HP) (hs : s.ok 999999) (hm : m.ok) (hRL : RdS RL la (s.layers.flatMap Ly.c)) (hRP : RdS RP pa (s.past.flatMap Pa.c)) (R0 : HP) (hR0 : Rd R0 ⟨0, 0, none⟩ lensC) : AC Tryz.prog 19 ⟨[I k, .agg ⟨s.c la lc pa pc⟩, .agg ⟨m.c⟩]⟩ (stars [RL, RP, R0]) (Outs (fun _ : Option Addr × Nat × Option Addr × Nat => True) (fun x => StV (stepM k s m) x) (fun x => StB 64 66 (stepM k s m) x ++ [RL, RP, R0])) := by
  refine AC.go Tryz.func19 rfl (Nat.le_of_ble_eq_true rfl) fun β => ?_
  refine sr ?_
  refine RunL.op rfl rfl (OpJ.boxA rfl fun b4 => ?_)
  refine RunL.op rfl rfl (OpJ.boxA rfl fun b5 => ?_)
  refine RunL.op rfl rfl (OpJ.alloc Z28 fun b6 => ?_)
  refine RunL.op rfl rfl (OpJ.alloc Z43 fun b7 => ?_)
  refine asg rfl rfl ?_
  refine kp [0, 4, 5, 6, 7] rfl ?_
  refine Run.seq ?_
  refine sr ?_
  refine mvo rfl rfl ?_
  refine kp [4, 5, 6, 7, 9] rfl ?_
  refine Run.block ?_
  refine sr ?_
  refine RunL.op rfl rfl (OpJ.eql rfl rfl ?_)
  refine asg rfl rfl ?_
  refine kp [4, 5, 6, 7, 9, 10] rfl ?_
  first | refine Run.if rfl (fun h1 => ?_) (fun h1 => ?_) | refine Run.cond rfl (fun h1 => ?_) (fun h1 => ?_)
  · skip
    refine sr ?_
    first | refine RunL.op rfl rfl (OpJ.loadW T28 rfl pk (by rfl) ?_) | refine RunL.op rfl rfl (OpJ.loadP T28 rfl pk (by simp) ?_) | refine RunL.op rfl rfl (OpJ.loadE T28 rfl pk (by assumption) (by exact fun _ => rfl) rfl (by decide) ?_)
    first | refine RunL.op rfl rfl (OpJ.loadW T47 rfl pk (by rfl) ?_) | refine RunL.op rfl rfl (OpJ.loadP T47 rfl pk (by simp) ?_) | refine RunL.op rfl rfl (OpJ.loadE T47 rfl pk (by assumption) (by exact fun _ => rfl) rfl (by decide) ?_)
    refine RunL.callX C20 rfl rfl rfl (ac20 s m la lc pa pc RL RP hs hm hRL hRP R0 hR0) tks fun x _ => ?_
    rcases hres : fStep s m with e | ⟨t, c⟩
    · skip
      refine RunL.op rfl rfl (OpJ.extract rfl rfl ?_)
      refine RunL.op rfl rfl (OpJ.extract rfl rfl ?_)
      refine RunL.op rfl rfl (OpJ.extract rfl rfl ?_)
      refine RunL.op rfl rfl (OpJ.storeW T28 rfl rfl rfl rfl (by simp [Value.oneCell', Pa.c, Ly.c, Mv.c, Co.c]) up ?_)
      refine RunL.op rfl rfl (OpJ.storeW T43 rfl rfl rfl rfl (by simp [Value.oneCell', Pa.c, Ly.c, Mv.c, Co.c]) up ?_)
      refine asg rfl rfl ?_
      refine kp [6, 7, 8] rfl ?_
      refine Run.ret ?_
      refine ret_out x (.cellA T28 rfl pk (by rfl) (.cellA T43 rfl pk (by rfl) (.tmp rfl .nil))) trivial (by rw [stepM_1 (by assumption), hres]; rfl) ?_; rw [stepM_1 (by assumption), hres]; exact gv
    · skip
      refine RunL.op rfl rfl (OpJ.extract rfl rfl ?_)
      refine RunL.op rfl rfl (OpJ.extract rfl rfl ?_)
      refine RunL.op rfl rfl (OpJ.extract rfl rfl ?_)
      refine RunL.op rfl rfl (OpJ.storeW T28 rfl rfl rfl rfl (by simp [Value.oneCell', Pa.c, Ly.c, Mv.c, Co.c]) up ?_)
      refine RunL.op rfl rfl (OpJ.storeW T43 rfl rfl rfl rfl (by simp [Value.oneCell', Pa.c, Ly.c, Mv.c, Co.c]) up ?_)
      refine asg rfl rfl ?_
      refine kp [6, 7, 8] rfl ?_
      refine Run.ret ?_
      refine ret_out x (.cellA T28 rfl pk (by rfl) (.cellA T43 rfl pk (by rfl) (.tmp rfl .nil))) trivial (by rw [stepM_1 (by assumption), hres]; rfl) ?_; rw [stepM_1 (by assumption), hres]; exact gv
  · skip
    refine sr ?_
    refine RunL.op rfl rfl (OpJ.eql rfl rfl ?_)
    refine asg rfl rfl ?_
    refine kp [4, 5, 6, 7, 9, 18] rfl ?_
    first | refine Run.if rfl (fun h2 => ?_) (fun h2 => ?_) | refine Run.cond rfl (fun h2 => ?_) (fun h2 => ?_)
    · skip
      refine sr ?_
      first | refine RunL.op rfl rfl (OpJ.loadW T28 rfl pk (by rfl) ?_) | refine RunL.op rfl rfl (OpJ.loadP T28 rfl pk (by simp) ?_) | refine RunL.op rfl rfl (OpJ.loadE T28 rfl pk (by assumption) (by exact fun _ => rfl) rfl (by decide) ?_)
      first | refine RunL.op rfl rfl (OpJ.loadW T47 rfl pk (by rfl) ?_) | refine RunL.op rfl rfl (OpJ.loadP T47 rfl pk (by simp) ?_) | refine RunL.op rfl rfl (OpJ.loadE T47 rfl pk (by assumption) (by exact fun _ => rfl) rfl (by decide) ?_)
      refine RunL.callX C21 rfl rfl rfl (ac21 s m la lc pa pc RL RP hs hm hRL hRP R0 hR0) tks fun x _ => ?_
      rcases hres : aStep s m with e | ⟨t, c⟩
      · skip
        refine RunL.op rfl rfl (OpJ.extract rfl rfl ?_)
        refine RunL.op rfl rfl (OpJ.extract rfl rfl ?_)
        refine RunL.op rfl rfl (OpJ.extract rfl rfl ?_)
        refine RunL.op rfl rfl (OpJ.storeW T28 rfl rfl rfl rfl (by simp [Value.oneCell', Pa.c, Ly.c, Mv.c, Co.c]) up ?_)
        refine RunL.op rfl rfl (OpJ.storeW T43 rfl rfl rfl rfl (by simp [Value.oneCell', Pa.c, Ly.c, Mv.c, Co.c]) up ?_)
        refine asg rfl rfl ?_
        refine kp [6, 7, 8] rfl ?_
        refine Run.ret ?_
        refine ret_out x (.cellA T28 rfl pk (by rfl) (.cellA T43 rfl pk (by rfl) (.tmp rfl .nil))) trivial (by rw [stepM_2 (by assumption), hres]; rfl) ?_; rw [stepM_2 (by assumption), hres]; exact gv
      · skip
        refine RunL.op rfl rfl (OpJ.extract rfl rfl ?_)
        refine RunL.op rfl rfl (OpJ.extract rfl rfl ?_)
        refine RunL.op rfl rfl (OpJ.extract rfl rfl ?_)
        refine RunL.op rfl rfl (OpJ.storeW T28 rfl rfl rfl rfl (by simp [Value.oneCell', Pa.c, Ly.c, Mv.c, Co.c]) up ?_)
        refine RunL.op rfl rfl (OpJ.storeW T43 rfl rfl rfl rfl (by simp [Value.oneCell', Pa.c, Ly.c, Mv.c, Co.c]) up ?_)
        refine asg rfl rfl ?_
        refine kp [6, 7, 8] rfl ?_
        refine Run.ret ?_
        refine ret_out x (.cellA T28 rfl pk (by rfl) (.cellA T43 rfl pk (by rfl) (.tmp rfl .nil))) trivial (by rw [stepM_2 (by assumption), hres]; rfl) ?_; rw [stepM_2 (by assumption), hres]; exact gv
    · skip
      refine sr ?_
      refine RunL.op rfl rfl (OpJ.eql rfl rfl ?_)
      refine asg rfl rfl ?_
      refine kp [4, 5, 6, 7, 9, 26] rfl ?_
      first | refine Run.if rfl (fun h3 => ?_) (fun h3 => ?_) | refine Run.cond rfl (fun h3 => ?_) (fun h3 => ?_)
      · skip
        refine sr ?_
        first | refine RunL.op rfl rfl (OpJ.loadW T28 rfl pk (by rfl) ?_) | refine RunL.op rfl rfl (OpJ.loadP T28 rfl pk (by simp) ?_) | refine RunL.op rfl rfl (OpJ.loadE T28 rfl pk (by assumption) (by exact fun _ => rfl) rfl (by decide) ?_)
        first | refine RunL.op rfl rfl (OpJ.loadW T47 rfl pk (by rfl) ?_) | refine RunL.op rfl rfl (OpJ.loadP T47 rfl pk (by simp) ?_) | refine RunL.op rfl rfl (OpJ.loadE T47 rfl pk (by assumption) (by exact fun _ => rfl) rfl (by decide) ?_)
        refine RunL.callX C22 rfl rfl rfl (ac22 s m la lc pa pc RL RP hs hm hRL hRP R0 hR0) tks fun x _ => ?_
        rcases hres : sStep s m with e | ⟨t, c⟩
        · skip
          refine RunL.op rfl rfl (OpJ.extract rfl rfl ?_)
          refine RunL.op rfl rfl (OpJ.extract rfl rfl ?_)
          refine RunL.op rfl rfl (OpJ.extract rfl rfl ?_)
          refine RunL.op rfl rfl (OpJ.storeW T28 rfl rfl rfl rfl (by simp [Value.oneCell', Pa.c, Ly.c, Mv.c, Co.c]) up ?_)
          refine RunL.op rfl rfl (OpJ.storeW T43 rfl rfl rfl rfl (by simp [Value.oneCell', Pa.c, Ly.c, Mv.c, Co.c]) up ?_)
          refine asg rfl rfl ?_
          refine kp [6, 7, 8] rfl ?_
          refine Run.ret ?_
          refine ret_out x (.cellA T28 rfl pk (by rfl) (.cellA T43 rfl pk (by rfl) (.tmp rfl .nil))) trivial (by rw [stepM_3 (by assumption), hres]; rfl) ?_; rw [stepM_3 (by assumption), hres]; exact gv
        · skip
          refine RunL.op rfl rfl (OpJ.extract rfl rfl ?_)
          refine RunL.op rfl rfl (OpJ.extract rfl rfl ?_)
          refine RunL.op rfl rfl (OpJ.extract rfl rfl ?_)
          refine RunL.op rfl rfl (OpJ.storeW T28 rfl rfl rfl rfl (by simp [Value.oneCell', Pa.c, Ly.c, Mv.c, Co.c]) up ?_)
          refine RunL.op rfl rfl (OpJ.storeW T43 rfl rfl rfl rfl (by simp [Value.oneCell', Pa.c, Ly.c, Mv.c, Co.c]) up ?_)
          refine asg rfl rfl ?_
          refine kp [6, 7, 8] rfl ?_
          refine Run.ret ?_
          refine ret_out x (.cellA T28 rfl pk (by rfl) (.cellA T43 rfl pk (by rfl) (.tmp rfl .nil))) trivial (by rw [stepM_3 (by assumption), hres]; rfl) ?_; rw [stepM_3 (by assumption), hres]; exact gv
      · skip
        refine sr ?_
        refine RunL.op rfl rfl (OpJ.eql rfl rfl ?_)
        refine asg rfl rfl ?_
        refine kp [4, 5, 6, 7, 34] rfl ?_
        first | refine Run.if rfl (fun h4 => ?_) (fun h4 => ?_) | refine Run.cond rfl (fun h4 => ?_) (fun h4 => ?_)
        · skip
          refine sr ?_
          first | refine RunL.op rfl rfl (OpJ.loadW T28 rfl pk (by rfl) ?_) | refine RunL.op rfl rfl (OpJ.loadP T28 rfl pk (by simp) ?_) | refine RunL.op rfl rfl (OpJ.loadE T28 rfl pk (by assumption) (by exact fun _ => rfl) rfl (by decide) ?_)
          first | refine RunL.op rfl rfl (OpJ.loadW T47 rfl pk (by rfl) ?_) | refine RunL.op rfl rfl (OpJ.loadP T47 rfl pk (by simp) ?_) | refine RunL.op rfl rfl (OpJ.loadE T47 rfl pk (by assumption) (by exact fun _ => rfl) rfl (by decide) ?_)
          refine RunL.callX C23 rfl rfl rfl (ac23 s m la lc pa pc RL RP hs hm hRL hRP R0 hR0) tks fun x _ => ?_
          rcases hres : lStep s m with e | ⟨t, c⟩
          · skip
            refine RunL.op rfl rfl (OpJ.extract rfl rfl ?_)
            refine RunL.op rfl rfl (OpJ.extract rfl rfl ?_)
            refine RunL.op rfl rfl (OpJ.extract rfl rfl ?_)
            refine RunL.op rfl rfl (OpJ.storeW T28 rfl rfl rfl rfl (by simp [Value.oneCell', Pa.c, Ly.c, Mv.c, Co.c]) up ?_)
            refine RunL.op rfl rfl (OpJ.storeW T43 rfl rfl rfl rfl (by simp [Value.oneCell', Pa.c, Ly.c, Mv.c, Co.c]) up ?_)
            refine asg rfl rfl ?_
            refine kp [6, 7, 8] rfl ?_
            refine Run.ret ?_
            refine ret_out x (.cellA T28 rfl pk (by rfl) (.cellA T43 rfl pk (by rfl) (.tmp rfl .nil))) trivial (by rw [stepM_4 (by assumption), hres]; rfl) ?_; rw [stepM_4 (by assumption), hres]; exact gv
          · skip
            refine RunL.op rfl rfl (OpJ.extract rfl rfl ?_)
            refine RunL.op rfl rfl (OpJ.extract rfl rfl ?_)
            refine RunL.op rfl rfl (OpJ.extract rfl rfl ?_)
            refine RunL.op rfl rfl (OpJ.storeW T28 rfl rfl rfl rfl (by simp [Value.oneCell', Pa.c, Ly.c, Mv.c, Co.c]) up ?_)
            refine RunL.op rfl rfl (OpJ.storeW T43 rfl rfl rfl rfl (by simp [Value.oneCell', Pa.c, Ly.c, Mv.c, Co.c]) up ?_)
            refine asg rfl rfl ?_
            refine kp [6, 7, 8] rfl ?_
            refine Run.ret ?_
            refine ret_out x (.cellA T28 rfl pk (by rfl) (.cellA T43 rfl pk (by rfl) (.tmp rfl .nil))) trivial (by rw [stepM_4 (by assumption), hres]; rfl) ?_; rw [stepM_4 (by assumption), hres]; exact gv
        · skip
          refine Run.skip ?_
          refine sr ?_
          refine RunL.op rfl rfl (OpJ.build B28 rfl rfl fun cs hcs => ?_)
          simp only [Sk.c, Mv.c, Co.c, bldL, bldA, Value.cells, bs, Nat.reduceAdd, Nat.reduceLeDiff, Nat.reduceLT] at hcs; subst hcs
          refine RunL.op rfl rfl (OpJ.build B43 rfl rfl fun cs hcs => ?_)
          simp only [Sk.c, Mv.c, Co.c, bldL, bldA, Value.cells, bs, Nat.reduceAdd, Nat.reduceLeDiff, Nat.reduceLT] at hcs; subst hcs
          refine RunL.op rfl rfl (OpJ.storeW T28 rfl rfl rfl rfl (by simp [Value.oneCell', Pa.c, Ly.c, Mv.c, Co.c]) up ?_)
          refine RunL.op rfl rfl (OpJ.storeW T43 rfl rfl rfl rfl (by simp [Value.oneCell', Pa.c, Ly.c, Mv.c, Co.c]) up ?_)
          refine asg rfl rfl ?_
          refine kp [6, 7, 8] rfl ?_
          refine Run.ret ?_
          have hres := stepM_0 (k := k) (s := s) (m := m) (by refine ⟨?_, ?_, ?_, ?_⟩ <;> assumption); refine ret_out (none, 0, none, 0) (.cellA T28 rfl pk (by rfl) (.cellA T43 rfl pk (by rfl) (.tmp rfl .nil))) trivial (by rw [hres]; rfl) ?_; rw [hres]; exact gv
end Go.Proofs.YtdcchollplhioaaGreatDoor

namespace Go.Proofs.YtdcchollplhioaaGreatDoor
open Go Go.SL Go.Proofs
theorem C19 : CI Tryz.prog 19 := .of (by kernel_rfl)
theorem F56_0 : FI Tryz.prog 56 0 3 0 := .of (by kernel_rfl)
theorem F56_1 : FI Tryz.prog 56 1 28 1 := .of (by kernel_rfl)
theorem F56_2 : FI Tryz.prog 56 2 34 6 := .of (by kernel_rfl)
theorem M43 : MI Tryz.prog 43 4 32 [.int .i64 0, .int .i64 0, .int .i64 0, .int .i64 0] := .of (by kernel_rfl) rfl
theorem S22 : SI Tryz.prog 22 47 8 := .of (by kernel_rfl) (by kernel_rfl)
theorem S34 : SI Tryz.prog 34 43 4 := .of (by kernel_rfl) (by kernel_rfl)
theorem T34 : TI Tryz.prog 34 false 1 := .of (by kernel_rfl)
theorem ac19f (k : Int) (s : Sk) (m : Mv) (la : Option Addr) (lc : Nat) (pa : Option Addr) (pc : Nat) (RL RP : HP) (hs : s.ok 999999) (hm : m.ok) (hRL : RdS RL la (s.layers.flatMap Ly.c)) (hRP : RdS RP pa (s.past.flatMap Pa.c)) (R0 : HP) (hR0 : Rd R0 ⟨0, 0, none⟩ lensC) : AC Tryz.prog 19 ⟨[I k, .agg ⟨s.c la lc pa pc⟩, .agg ⟨m.c⟩]⟩ (stars [RL, RP, R0]) (Outs (fun _ : Option Addr × Nat × Option Addr × Nat => True) (fun x => .tuple ⟨[.agg ⟨StS (stepM k s m) x⟩, .agg ⟨(avC (stepM k s m)).c⟩, I (errOf (stepM k s m))]⟩) (fun x => [stars (StB 64 66 (stepM k s m) x), RL, RP, R0])) := by
  refine AC.mono (ac19 k s m la lc pa pc RL RP hs hm hRL hRP R0 hR0) (fun _ h => h) ?_
  rintro r h ⟨x, ⟨_, hr⟩, hh⟩
  exact ⟨x, ⟨trivial, hr.trans StV_eq⟩, stars_un hh⟩
-- (*costing.replay).perform
theorem ac27 (br : Nat) (k : Int) (s : Sk) (m : Mv) (la : Option Addr) (lc : Nat) (pa : Option Addr) (pc : Nat) (ca : Option Addr) (cs : List Co) (cc : Nat) (hs : s.ok 999999) (hm : m.ok) (hc : cs.length ≤ 999999) (R0 : HP) (hR0 : Rd R0 ⟨0, 0, none⟩ lensC) : AC Tryz.prog 27 ⟨[.pointer (some ⟨br, 0, none⟩), .agg ⟨m.c⟩]⟩ (stars [pt br (blk (RC k s la lc pa pc ca cs cc) 56), own 64 4 la s.layers.length lc (s.layers.flatMap Ly.c), own 66 7 pa s.past.length pc (s.past.flatMap Pa.c), own 43 4 ca (cs).length cc ((cs).flatMap Co.c), R0]) (Outs (fun _ : Option Addr × Nat × Option Addr × Nat × Option Addr × Nat => True) (fun _ => I (errOf (stepM k s m))) (fun x => PerB 56 64 66 43 br k (stepM k s m) cs x ++ [R0])) := by
  refine AC.go Tryz.func27 rfl (Nat.le_of_ble_eq_true rfl) fun β => ?_
  refine sr ?_
  refine RunL.op rfl rfl (OpJ.boxA rfl fun b3 => ?_)
  refine asg rfl rfl ?_
  refine kp [0, 3] rfl ?_
  refine Run.seq ?_
  refine regionD HM ?_
  refine RunD.mono (K' := fun E' L' => ∃ x : Option Addr × Nat × Option Addr × Nat, ∃ b5 : Nat, ∃ b6 : Nat, E' = [(0, .pointer (some ⟨br, 0, none⟩)), (5, .pointer (some ⟨b5, 0, none⟩)), (6, .pointer (some ⟨b6, 0, none⟩)), (7, I (errOf (stepM k s m)))] ∧ L' = [pt b5 (blk (StS (stepM k s m) x) 28), pt b6 (blk (avC (stepM k s m)).c 43), stars (StB 64 66 (stepM k s m) x), pt br (blk (RC k s la lc pa pc ca cs cc) 56), own 43 4 ca (cs).length cc ((cs).flatMap Co.c), R0]) ?_ ?_
  · skip
    refine tk 0 rfl rfl rfl (DetJ.move rfl) ?_
    refine tk 1 rfl rfl rfl (DetJ.nilCheck rfl) ?_
    refine tk 2 rfl rfl rfl (DetJ.fieldAddr F56_0 rfl) ?_
    first | refine RunD.takeF 3 rfl rfl kr T3 rfl pk (by rfl) ?_ | refine RunD.takeO 3 rfl rfl kr T3 rfl pk (by assumption) (by rfl) (by exact fun _ => rfl) ?_
    refine tk 4 rfl rfl rfl (DetJ.move rfl) ?_
    refine tk 5 rfl rfl rfl (DetJ.nilCheck rfl) ?_
    refine tk 6 rfl rfl rfl (DetJ.fieldAddr F56_1 rfl) ?_
    first | refine RunD.takeW 7 rfl rfl kr T28 rfl pk (by rfl) ?_ | refine RunD.takeP 7 rfl rfl kr T28 rfl pk (by simp) ?_ | refine RunD.takeE 7 rfl rfl kr T28 rfl pk (by assumption) (by exact fun _ => rfl) rfl (by decide) ?_
    first | refine RunD.takeW 8 rfl rfl kr T47 rfl pk (by rfl) ?_ | refine RunD.takeP 8 rfl rfl kr T47 rfl pk (by simp) ?_ | refine RunD.takeE 8 rfl rfl kr T47 rfl pk (by assumption) (by exact fun _ => rfl) rfl (by decide) ?_
    refine RunD.three 9 14 15 [false, false, false, false, true, false, false, false, true] [true, true, true, true, true, true, true, true, true] [true, true, true, true, true, true, true, true, true] rfl rfl rfl rfl rfl rfl rfl rfl rfl kr kr kr kr (OpJ.callOuts C19 rfl rfl (ac19f k s m la lc pa pc (own 64 4 la s.layers.length lc (s.layers.flatMap Ly.c)) (own 66 7 pa s.past.length pc (s.past.flatMap Pa.c)) hs hm own.rds own.rds R0 hR0) tks fun x _ => ⟨po, ?_⟩) (OpJ.alloc Z28 fun b5 => ⟨po, ?_⟩) (OpJ.alloc Z43 fun b6 => ⟨po, ?_⟩)
    · skip
      refine tk 10 rfl rfl rfl (DetJ.move rfl) ?_
      refine tk 11 rfl rfl rfl (DetJ.extract rfl rfl) ?_
      refine tk 12 rfl rfl rfl (DetJ.extract rfl rfl) ?_
      refine tk 13 rfl rfl rfl (DetJ.extract rfl rfl) ?_
      refine RunD.two 14 15 [true, true, true, true, true, true] [true, true, true, true, true, true] rfl rfl rfl rfl rfl rfl kr kr kr (OpJ.alloc Z28 fun b5 => ⟨po, ?_⟩) (OpJ.alloc Z43 fun b6 => ⟨po, ?_⟩)
      · skip
        refine RunD.op 15 [true, true, true, true, true, true] rfl rfl rfl kr kr (OpJ.alloc Z43 fun b6 => ⟨po, ?_⟩)
        refine RunD.op 16 [true, true, false, false, false, false] rfl rfl rfl kr kr (OpJ.storeW T28 rfl rfl StS_len rfl StS_one up ⟨po, ?_⟩)
        refine RunD.op 17 [true, false] rfl rfl rfl kr kr (OpJ.storeW T43 rfl rfl rfl rfl (by simp [Value.oneCell', Pa.c, Ly.c, Mv.c, Co.c]) up ⟨po, ?_⟩)
        refine tk 18 rfl rfl rfl (DetJ.assign rfl) ?_
        exact RunD.weak (E' := [(0, .pointer (some ⟨br, 0, none⟩)), (5, .pointer (some ⟨b5, 0, none⟩)), (6, .pointer (some ⟨b6, 0, none⟩)), (7, I (errOf (stepM k s m)))]) (L' := [pt b5 (blk (StS (stepM k s m) x) 28), pt b6 (blk (avC (stepM k s m)).c 43), stars (StB 64 66 (stepM k s m) x), pt br (blk (RC k s la lc pa pc ca cs cc) 56), own 43 4 ca (cs).length cc ((cs).flatMap Co.c), R0]) (Keep.sub (kt (ks := [0, 5, 6, 7]) rfl)) gv (RunD.done kr ⟨_, _, _, rfl, rfl⟩)
      · skip
        refine RunD.op 14 [true, true, true, true, true, true] rfl rfl rfl kr kr (OpJ.alloc Z28 fun b5 => ⟨po, ?_⟩)
        refine RunD.op 16 [true, true, false, false, false, false] rfl rfl rfl kr kr (OpJ.storeW T28 rfl rfl StS_len rfl StS_one up ⟨po, ?_⟩)
        refine RunD.op 17 [true, false] rfl rfl rfl kr kr (OpJ.storeW T43 rfl rfl rfl rfl (by simp [Value.oneCell', Pa.c, Ly.c, Mv.c, Co.c]) up ⟨po, ?_⟩)
        refine tk 18 rfl rfl rfl (DetJ.assign rfl) ?_
        exact RunD.weak (E' := [(0, .pointer (some ⟨br, 0, none⟩)), (5, .pointer (some ⟨b5, 0, none⟩)), (6, .pointer (some ⟨b6, 0, none⟩)), (7, I (errOf (stepM k s m)))]) (L' := [pt b5 (blk (StS (stepM k s m) x) 28), pt b6 (blk (avC (stepM k s m)).c 43), stars (StB 64 66 (stepM k s m) x), pt br (blk (RC k s la lc pa pc ca cs cc) 56), own 43 4 ca (cs).length cc ((cs).flatMap Co.c), R0]) (Keep.sub (kt (ks := [0, 5, 6, 7]) rfl)) gv (RunD.done kr ⟨_, _, _, rfl, rfl⟩)
    · skip
      refine RunD.two 9 15 [false, false, false, false, true, false, false, false, true] [true, true, true, true, true, true, true, true, true] rfl rfl rfl rfl rfl rfl kr kr kr (OpJ.callOuts C19 rfl rfl (ac19f k s m la lc pa pc (own 64 4 la s.layers.length lc (s.layers.flatMap Ly.c)) (own 66 7 pa s.past.length pc (s.past.flatMap Pa.c)) hs hm own.rds own.rds R0 hR0) tks fun x _ => ⟨po, ?_⟩) (OpJ.alloc Z43 fun b6 => ⟨po, ?_⟩)
      · skip
        refine tk 10 rfl rfl rfl (DetJ.move rfl) ?_
        refine tk 11 rfl rfl rfl (DetJ.extract rfl rfl) ?_
        refine tk 12 rfl rfl rfl (DetJ.extract rfl rfl) ?_
        refine tk 13 rfl rfl rfl (DetJ.extract rfl rfl) ?_
        refine RunD.op 15 [true, true, true, true, true, true] rfl rfl rfl kr kr (OpJ.alloc Z43 fun b6 => ⟨po, ?_⟩)
        refine RunD.op 16 [true, true, false, false, false, false] rfl rfl rfl kr kr (OpJ.storeW T28 rfl rfl StS_len rfl StS_one up ⟨po, ?_⟩)
        refine RunD.op 17 [true, false] rfl rfl rfl kr kr (OpJ.storeW T43 rfl rfl rfl rfl (by simp [Value.oneCell', Pa.c, Ly.c, Mv.c, Co.c]) up ⟨po, ?_⟩)
        refine tk 18 rfl rfl rfl (DetJ.assign rfl) ?_
        exact RunD.weak (E' := [(0, .pointer (some ⟨br, 0, none⟩)), (5, .pointer (some ⟨b5, 0, none⟩)), (6, .pointer (some ⟨b6, 0, none⟩)), (7, I (errOf (stepM k s m)))]) (L' := [pt b5 (blk (StS (stepM k s m) x) 28), pt b6 (blk (avC (stepM k s m)).c 43), stars (StB 64 66 (stepM k s m) x), pt br (blk (RC k s la lc pa pc ca cs cc) 56), own 43 4 ca (cs).length cc ((cs).flatMap Co.c), R0]) (Keep.sub (kt (ks := [0, 5, 6, 7]) rfl)) gv (RunD.done kr ⟨_, _, _, rfl, rfl⟩)
      · skip
        refine RunD.op 9 [false, false, false, false, true, false, false, false, true] rfl rfl rfl kr kr (OpJ.callOuts C19 rfl rfl (ac19f k s m la lc pa pc (own 64 4 la s.layers.length lc (s.layers.flatMap Ly.c)) (own 66 7 pa s.past.length pc (s.past.flatMap Pa.c)) hs hm own.rds own.rds R0 hR0) tks fun x _ => ⟨po, ?_⟩)
        refine tk 10 rfl rfl rfl (DetJ.move rfl) ?_
        refine tk 11 rfl rfl rfl (DetJ.extract rfl rfl) ?_
        refine tk 12 rfl rfl rfl (DetJ.extract rfl rfl) ?_
        refine tk 13 rfl rfl rfl (DetJ.extract rfl rfl) ?_
        refine RunD.op 16 [true, true, false, false, false, false] rfl rfl rfl kr kr (OpJ.storeW T28 rfl rfl StS_len rfl StS_one up ⟨po, ?_⟩)
        refine RunD.op 17 [true, false] rfl rfl rfl kr kr (OpJ.storeW T43 rfl rfl rfl rfl (by simp [Value.oneCell', Pa.c, Ly.c, Mv.c, Co.c]) up ⟨po, ?_⟩)
        refine tk 18 rfl rfl rfl (DetJ.assign rfl) ?_
        exact RunD.weak (E' := [(0, .pointer (some ⟨br, 0, none⟩)), (5, .pointer (some ⟨b5, 0, none⟩)), (6, .pointer (some ⟨b6, 0, none⟩)), (7, I (errOf (stepM k s m)))]) (L' := [pt b5 (blk (StS (stepM k s m) x) 28), pt b6 (blk (avC (stepM k s m)).c 43), stars (StB 64 66 (stepM k s m) x), pt br (blk (RC k s la lc pa pc ca cs cc) 56), own 43 4 ca (cs).length cc ((cs).flatMap Co.c), R0]) (Keep.sub (kt (ks := [0, 5, 6, 7]) rfl)) gv (RunD.done kr ⟨_, _, _, rfl, rfl⟩)
    · skip
      refine RunD.two 9 14 [false, false, false, false, true, false, false, false, true] [true, true, true, true, true, true, true, true, true] rfl rfl rfl rfl rfl rfl kr kr kr (OpJ.callOuts C19 rfl rfl (ac19f k s m la lc pa pc (own 64 4 la s.layers.length lc (s.layers.flatMap Ly.c)) (own 66 7 pa s.past.length pc (s.past.flatMap Pa.c)) hs hm own.rds own.rds R0 hR0) tks fun x _ => ⟨po, ?_⟩) (OpJ.alloc Z28 fun b5 => ⟨po, ?_⟩)
      · skip
        refine tk 10 rfl rfl rfl (DetJ.move rfl) ?_
        refine tk 11 rfl rfl rfl (DetJ.extract rfl rfl) ?_
        refine tk 12 rfl rfl rfl (DetJ.extract rfl rfl) ?_
        refine tk 13 rfl rfl rfl (DetJ.extract rfl rfl) ?_
        refine RunD.op 14 [true, true, true, true, true, true] rfl rfl rfl kr kr (OpJ.alloc Z28 fun b5 => ⟨po, ?_⟩)
        refine RunD.op 16 [true, true, false, false, false, false] rfl rfl rfl kr kr (OpJ.storeW T28 rfl rfl StS_len rfl StS_one up ⟨po, ?_⟩)
        refine RunD.op 17 [true, false] rfl rfl rfl kr kr (OpJ.storeW T43 rfl rfl rfl rfl (by simp [Value.oneCell', Pa.c, Ly.c, Mv.c, Co.c]) up ⟨po, ?_⟩)
        refine tk 18 rfl rfl rfl (DetJ.assign rfl) ?_
        exact RunD.weak (E' := [(0, .pointer (some ⟨br, 0, none⟩)), (5, .pointer (some ⟨b5, 0, none⟩)), (6, .pointer (some ⟨b6, 0, none⟩)), (7, I (errOf (stepM k s m)))]) (L' := [pt b5 (blk (StS (stepM k s m) x) 28), pt b6 (blk (avC (stepM k s m)).c 43), stars (StB 64 66 (stepM k s m) x), pt br (blk (RC k s la lc pa pc ca cs cc) 56), own 43 4 ca (cs).length cc ((cs).flatMap Co.c), R0]) (Keep.sub (kt (ks := [0, 5, 6, 7]) rfl)) gv (RunD.done kr ⟨_, _, _, rfl, rfl⟩)
      · skip
        refine RunD.op 9 [false, false, false, false, true, false, false, false, true] rfl rfl rfl kr kr (OpJ.callOuts C19 rfl rfl (ac19f k s m la lc pa pc (own 64 4 la s.layers.length lc (s.layers.flatMap Ly.c)) (own 66 7 pa s.past.length pc (s.past.flatMap Pa.c)) hs hm own.rds own.rds R0 hR0) tks fun x _ => ⟨po, ?_⟩)
        refine tk 10 rfl rfl rfl (DetJ.move rfl) ?_
        refine tk 11 rfl rfl rfl (DetJ.extract rfl rfl) ?_
        refine tk 12 rfl rfl rfl (DetJ.extract rfl rfl) ?_
        refine tk 13 rfl rfl rfl (DetJ.extract rfl rfl) ?_
        refine RunD.op 16 [true, true, false, false, false, false] rfl rfl rfl kr kr (OpJ.storeW T28 rfl rfl StS_len rfl StS_one up ⟨po, ?_⟩)
        refine RunD.op 17 [true, false] rfl rfl rfl kr kr (OpJ.storeW T43 rfl rfl rfl rfl (by simp [Value.oneCell', Pa.c, Ly.c, Mv.c, Co.c]) up ⟨po, ?_⟩)
        refine tk 18 rfl rfl rfl (DetJ.assign rfl) ?_
        exact RunD.weak (E' := [(0, .pointer (some ⟨br, 0, none⟩)), (5, .pointer (some ⟨b5, 0, none⟩)), (6, .pointer (some ⟨b6, 0, none⟩)), (7, I (errOf (stepM k s m)))]) (L' := [pt b5 (blk (StS (stepM k s m) x) 28), pt b6 (blk (avC (stepM k s m)).c 43), stars (StB 64 66 (stepM k s m) x), pt br (blk (RC k s la lc pa pc ca cs cc) 56), own 43 4 ca (cs).length cc ((cs).flatMap Co.c), R0]) (Keep.sub (kt (ks := [0, 5, 6, 7]) rfl)) gv (RunD.done kr ⟨_, _, _, rfl, rfl⟩)
  rintro _ _ ⟨x, b5, b6, rfl, rfl⟩
  refine Run.seq ?_
  refine sr ?_
  refine mvo rfl rfl ?_
  rcases hres : stepM k s m with e | ⟨t, c⟩
  · skip
    refine RunL.op rfl rfl (OpJ.neq rfl rfl ?_)
    first | refine RunL.set (congrArg Value.bool (decide_eq_true (show errOf (Except.error _) ≠ 0 from stepM_err hres))) ?_ | skip
    refine kp [0, 5, 6, 7, 23] rfl ?_
    refine Run.true rfl ?_
    refine sr ?_
    refine mvo rfl rfl ?_
    refine asg rfl rfl ?_
    refine kp [4] rfl ?_
    refine Run.ret ?_
    refine ret_out (none, 0, none, 0, none, 0) (.tmp rfl .nil) trivial rfl ?_; exact gv
  · skip
    refine RunL.unstar (As := StB 64 66 (Except.ok (t, c)) x) pk ?_
    rw [show StS (Except.ok (t, c)) x = t.c x.1 x.2.1 x.2.2.1 x.2.2.2 from rfl, show avC (Except.ok (t, c)) = c from rfl]
    refine RunL.op rfl rfl (OpJ.neq rfl rfl ?_)
    first | refine RunL.set (congrArg Value.bool (decide_eq_true (show errOf (Except.error _) ≠ 0 from stepM_err hres))) ?_ | skip
    refine kp [0, 5, 6, 7, 23] rfl ?_
    refine Run.false rfl ?_
    refine Run.skip ?_
    refine sr ?_
    refine mvo rfl rfl ?_
    first | refine RunL.op rfl rfl (OpJ.loadW T28 rfl pk (by rfl) ?_) | refine RunL.op rfl rfl (OpJ.loadP T28 rfl pk (by simp) ?_) | refine RunL.op rfl rfl (OpJ.loadE T28 rfl pk (by assumption) (by exact fun _ => rfl) rfl (by decide) ?_)
    refine RunL.op rfl rfl (OpJ.nilCheck rfl ?_)
    refine RunL.op rfl rfl (OpJ.fieldAddr F56_1 rfl ?_)
    refine RunL.op rfl rfl (OpJ.store T28 rfl rfl rfl rfl (by simp [Value.cells, Value.oneCell', Pa.c, Ly.c, Mv.c, Co.c]) up (by simp) ?_)
    refine kp [0, 6] rfl ?_
    refine Run.seq ?_
    refine regionD HM ?_
    refine tk 0 rfl rfl rfl (DetJ.move rfl) ?_
    refine tk 1 rfl rfl rfl (DetJ.move rfl) ?_
    refine tk 2 rfl rfl rfl (DetJ.nilCheck rfl) ?_
    refine tk 3 rfl rfl rfl (DetJ.fieldAddr F56_2 rfl) ?_
    first | refine RunD.takeF 4 rfl rfl kr T34 rfl pk (by rfl) ?_ | refine RunD.takeO 4 rfl rfl kr T34 rfl pk (by assumption) (by rfl) (by exact fun _ => rfl) ?_
    first | refine RunD.takeW 5 rfl rfl kr T43 rfl pk (by rfl) ?_ | refine RunD.takeP 5 rfl rfl kr T43 rfl pk (by simp) ?_ | refine RunD.takeE 5 rfl rfl kr T43 rfl pk (by assumption) (by exact fun _ => rfl) rfl (by decide) ?_
    refine RunD.op 6 [false, true, true, true, true, true] rfl rfl rfl kr kr (OpJ.buildSlice1 S34 rfl rfl rfl (by decide) (by decide) Z43 rfl fun b35 => ⟨po, ?_⟩)
    refine RunD.op 7 [false, false, false, true, true] rfl rfl rfl kr kr (OpJ.append1 (c : Co) S34 M43 rfl rfl pk pk rfl rfl (by simp [Value.oneCell', Pa.c, Ly.c, Mv.c, Co.c]) rfl (by omega) (by omega) fun a36 c36 => ⟨po, ?_⟩)
    refine tk 8 rfl rfl rfl (DetJ.nilCheck rfl) ?_
    refine tk 9 rfl rfl rfl (DetJ.fieldAddr F56_2 rfl) ?_
    refine RunD.op 10 [false, false, false, false] rfl rfl rfl kr kr (OpJ.store1 T34 rfl rfl rfl up (by show 6 < 7; decide) ⟨po, ?_⟩)
    refine kd [] rfl ?_
    refine sr ?_
    refine asg rfl rfl ?_
    refine kp [4] rfl ?_
    refine Run.ret ?_
    refine ret_out (x.1, x.2.1, x.2.2.1, x.2.2.2, a36, c36) (.tmp rfl .nil) trivial rfl ?_; exact gv
-- accountinglaw38.large
theorem ac11 (R : HP) (oa : Option Addr) (cap : Nat) (ms : List Mv) (hR : RdS R oa (ms.flatMap Mv.c)) (hlen : (ms.length : Int) ≤ 9223372036854775807) : AC Tryz.prog 11 ⟨[.slice oa ms.length cap]⟩ (stars [R]) (Ret (Bo (largeMs ms)) [R]) := by
  refine AC.go Tryz.func11 rfl (Nat.le_of_ble_eq_true rfl) fun β => ?_
  refine sr ?_
  refine asg rfl rfl ?_
  refine kp [0] rfl ?_
  refine Run.seq ?_
  refine sr ?_
  refine mvo rfl rfl ?_
  refine RunL.op rfl rfl (OpJ.len S22 rfl ?_)
  refine RunL.op rfl rfl (OpJ.gtr rfl rfl ?_)
  refine kp [0, 6] rfl ?_
  first | refine Run.if rfl (fun h1 => ?_) (fun h1 => ?_) | refine Run.cond rfl (fun h1 => ?_) (fun h1 => ?_)
  · skip
    refine sr ?_
    refine asg rfl rfl ?_
    refine kp [2] rfl ?_
    refine Run.ret ?_
    exact ret_one (.tmp rfl .nil) (congrArg Bo (by unfold largeMs; rw [decide_eq_true h1, Bool.true_or])) gv
  · skip
    refine Run.skip ?_
    refine Run.seq ?_
    refine sr ?_
    refine asg rfl rfl ?_
    refine kp [0, 3] rfl ?_
    refine Run.block ?_
    refine Run.loop (fun mm E L => ∃ i : Nat, mm = ms.length - i ∧ i ≤ ms.length ∧ (∀ j y, j < i → ms[j]? = some y → largeM y = false) ∧ E = [(0, .slice oa ms.length cap), (3, I i)] ∧ L = [R]) ⟨_, 0, rfl, Nat.zero_le _, fun _ _ h => by omega, rfl, rfl⟩ ?_
    rintro _ _ _ ⟨i, rfl, hi, hI0, rfl, rfl⟩
    refine Run.seq ?_
    refine sr ?_
    refine mvo rfl rfl ?_
    refine mvo rfl rfl ?_
    refine RunL.op rfl rfl (OpJ.len S22 rfl ?_)
    refine RunL.op rfl rfl (OpJ.lss rfl rfl ?_)
    refine kp [0, 3, 10] rfl ?_
    first | refine Run.if rfl (fun h2 => ?_) (fun h2 => ?_) | refine Run.cond rfl (fun h2 => ?_) (fun h2 => ?_)
    · skip
      refine Run.skip ?_
      refine Run.seq ?_
      refine Run.block ?_
      refine Run.seq ?_
      refine regionD HM ?_
      obtain ⟨m, hx⟩ := get_ex (xs := ms) (by omega)
      refine RunD.rdOpen pk hR (flat_ne (k := 8) (fun _ => rfl) (by decide) hx) fun b o e hrd => ?_
      subst e
      refine tk 0 rfl rfl rfl (DetJ.move rfl) ?_
      refine tk 1 rfl rfl rfl (DetJ.move rfl) ?_
      refine tk 2 rfl rfl rfl (DetJ.indexAddr S22 rfl rfl (by omega)) ?_
      refine tk 3 rfl rfl rfl (DetJ.fieldAddr F47_2 rfl) ?_
      refine RunD.takeR1 4 rfl rfl kr T9 rfl pk (hrd.mv hx 2 (St m.item) rfl) ?_
      refine tk 5 rfl rfl rfl (DetJ.lenS U9 rfl) ?_
      refine tk 6 rfl rfl rfl (DetJ.move rfl) ?_
      refine tk 7 rfl rfl rfl (DetJ.move rfl) ?_
      refine tk 8 rfl rfl rfl (DetJ.indexAddr S22 rfl rfl (by omega)) ?_
      refine tk 9 rfl rfl rfl (DetJ.fieldAddr F47_6 rfl) ?_
      refine RunD.takeR1 10 rfl rfl kr T9 rfl pk (hrd.mv hx 6 (St m.lot) rfl) ?_
      refine tk 11 rfl rfl rfl (DetJ.lenS U9 rfl) ?_
      refine tk 12 rfl rfl rfl (DetJ.add rfl rfl) ?_
      refine tk 13 rfl rfl rfl (DetJ.gtr rfl rfl) ?_
      refine kd [0, 3, 26] rfl ?_
      first | refine Run.if rfl (fun h3 => ?_) (fun h3 => ?_) | refine Run.cond rfl (fun h3 => ?_) (fun h3 => ?_)
      · skip
        refine sr ?_
        refine asg rfl rfl ?_
        refine kp [2] rfl ?_
        refine Run.ret ?_
        exact ret_one (.tmp rfl .nil) (congrArg Bo (largeMs_hit hx (decide_eq_true (by assumption))).symm) gv
      · skip
        refine Run.skip ?_
        refine Run.region ?_
        refine mvo rfl rfl ?_
        refine RunL.op rfl rfl (OpJ.addI rfl rfl (by omega) ?_)
        refine asg rfl rfl ?_
        exact RunL.next (Keep.sub (kt (ks := [0, 3]) rfl)) _ ⟨_, by omega, i + 1, rfl, by omega, notYet hx (decide_eq_false (by assumption)) hI0, rfl, rfl⟩ gv
    · skip
      refine Run.exit ?_
      refine sr ?_
      refine asg rfl rfl ?_
      refine kp [2] rfl ?_
      refine Run.ret ?_
      exact ret_one (.tmp rfl .nil) (congrArg Bo (largeMs_no h1 (by omega) hI0).symm) gv
end Go.Proofs.YtdcchollplhioaaGreatDoor

namespace Go.Proofs.YtdcchollplhioaaGreatDoor
open Go Go.SL Go.Proofs
theorem B56 : BI Tryz.prog 56 [.int .i64 0, .int .i64 0, .int .i64 0, .int .i64 0, .slice none 0 0, .slice none 0 0, .slice none 0 0] [(0, 1), (1, 5), (6, 1)] := .of (by kernel_rfl) (by kernel_rfl)
theorem C13 : CI Tryz.prog 13 := .of (by kernel_rfl)
theorem C26 : CI Tryz.prog 26 := .of (by kernel_rfl)
theorem C27 : CI Tryz.prog 27 := .of (by kernel_rfl)
-- costing.each
theorem ac26 (br : Nat) (k : Int) (s0 : Sk) (la0 : Option Addr) (lc0 : Nat) (pa0 : Option Addr) (pc0 : Nat) (R : HP) (oa : Option Addr) (cap : Nat) (ms : List Mv) (hR : RdS R oa (ms.flatMap Mv.c)) (hlen : ms.length ≤ 1000) (hms : ∀ m ∈ ms, m.ok) (hs0 : s0.ok 0) (R0 : HP) (hR0 : Rd R0 ⟨0, 0, none⟩ lensC) : AC Tryz.prog 26 ⟨[.pointer (some ⟨br, 0, none⟩), .func (.func 27) ⟨[]⟩ ⟨[]⟩, .slice oa ms.length cap]⟩ (stars [pt br (blk (RC k s0 la0 lc0 pa0 pc0 none [] 0) 56), own 64 4 la0 s0.layers.length lc0 (s0.layers.flatMap Ly.c), own 66 7 pa0 s0.past.length pc0 (s0.past.flatMap Pa.c), own 43 4 none 0 0 [], R, R0]) (Outs (fun _ : Option Addr × Nat × Option Addr × Nat × Option Addr × Nat => True) (fun _ => .tuple ⟨[I (eachI (runL (stepM k) s0 ms)), I (eachE (runL (stepM k) s0 ms))]⟩) (fun x => EachB 56 64 66 43 br k (runL (stepM k) s0 ms) x ++ [R, R0])) := by
  refine AC.go Tryz.func26 rfl (Nat.le_of_ble_eq_true rfl) fun β => ?_
  refine sr ?_
  refine asg rfl rfl ?_
  refine asg rfl rfl ?_
  refine kp [0, 1, 2] rfl ?_
  refine Run.seq ?_
  refine sr ?_
  refine mvo rfl rfl ?_
  refine RunL.op rfl rfl (OpJ.len S22 rfl ?_)
  refine mvo rfl rfl ?_
  refine kp [0, 1, 11, 12, 13] rfl ?_
  refine Run.block ?_
  refine Run.loop (fun mm E L => ∃ (i : Nat) (s : Sk) (cs : List Co) (la : Option Addr) (lc : Nat) (pa : Option Addr) (pc : Nat) (ca : Option Addr) (cc : Nat), mm = ms.length - i ∧ i ≤ ms.length ∧ runL (stepM k) s0 (ms.take i) = .ok (s, cs) ∧ E = [(0, .pointer (some ⟨br, 0, none⟩)), (1, .func (.func 27) ⟨[]⟩ ⟨[]⟩), (11, .slice oa ms.length cap), (12, I ms.length), (13, I i)] ∧ L = [pt br (blk (RC k s la lc pa pc ca cs cc) 56), own 64 4 la s.layers.length lc (s.layers.flatMap Ly.c), own 66 7 pa s.past.length pc (s.past.flatMap Pa.c), own 43 4 ca (cs).length cc ((cs).flatMap Co.c), R, R0]) ⟨_, 0, s0, [], la0, lc0, pa0, pc0, none, 0, rfl, Nat.zero_le _, rfl, rfl, rfl⟩ ?_
  rintro _ _ _ ⟨i, s, cs, la, lc, pa, pc, ca, cc, rfl, hi, hrun, rfl, rfl⟩
  have hs := (runL_ok (fun x hx => hms x (List.mem_of_mem_take hx)) hs0 hrun).mono (show 0 + (ms.take i).length ≤ 999999 by rw [List.length_take]; omega)
  have hcl : cs.length = i := (runL_len hrun).trans (by rw [List.length_take]; omega)
  refine sr ?_
  refine RunL.op rfl rfl (OpJ.lss rfl rfl ?_)
  refine kp [0, 1, 11, 12, 13, 14] rfl ?_
  refine Run.seq ?_
  first | refine Run.if rfl (fun h1 => ?_) (fun h1 => ?_) | refine Run.cond rfl (fun h1 => ?_) (fun h1 => ?_)
  · skip
    refine Run.skip ?_
    refine Run.seq ?_
    refine Run.block ?_
    refine sr ?_
    obtain ⟨m, hx⟩ := get_ex (xs := ms) (by omega)
    refine RunL.rdOpen pk hR (flat_ne (k := 8) (fun _ => rfl) (by decide) hx) fun b o e hrd => ?_
    subst e
    refine mvo rfl rfl ?_
    refine RunL.op rfl rfl (OpJ.indexAddr S22 rfl rfl (by omega) ?_)
    refine RunL.op rfl rfl (OpJ.loadA T47 rfl pk (hrd.elem (fun _ => rfl) hx) rfl ?_)
    refine RunL.op rfl rfl (OpJ.alloc Z47 fun b9 => ?_)
    refine asg rfl rfl ?_
    refine RunL.op rfl rfl (OpJ.storeW T47 rfl rfl rfl rfl (by simp [Value.oneCell', Pa.c, Ly.c, Mv.c, Co.c]) up ?_)
    refine kp [0, 1, 8, 9, 11, 12, 13] rfl ?_
    refine sr ?_
    refine mvo rfl rfl ?_
    refine mvo rfl rfl ?_
    first | refine RunL.op rfl rfl (OpJ.loadW T47 rfl pk (by rfl) ?_) | refine RunL.op rfl rfl (OpJ.loadP T47 rfl pk (by simp) ?_) | refine RunL.op rfl rfl (OpJ.loadE T47 rfl pk (by assumption) (by exact fun _ => rfl) rfl (by decide) ?_)
    refine RunL.callX C27 rfl rfl rfl (ac27 br k s m la lc pa pc ca cs cc hs (hms m (List.mem_of_getElem? hx)) (by omega) R0 hR0) tks fun x _ => ?_
    rcases hres : stepM k s m with e | ⟨t, c⟩
    · skip
      refine asg rfl rfl ?_
      refine kp [0, 1, 8, 10, 11, 12, 13] rfl ?_
      refine sr ?_
      refine mvo rfl rfl ?_
      refine RunL.op rfl rfl (OpJ.neq rfl rfl ?_)
      first | refine RunL.set (congrArg Value.bool (decide_eq_true (show errOf (Except.error _) ≠ 0 from stepM_err hres))) ?_ | skip
      refine kp [0, 1, 8, 10, 11, 12, 13, 23] rfl ?_
      refine Run.true rfl ?_
      refine sr ?_
      refine mvo rfl rfl ?_
      refine mvo rfl rfl ?_
      refine asg rfl rfl ?_
      refine asg rfl rfl ?_
      refine kp [6, 7] rfl ?_
      refine Run.ret ?_
      have hf := runL_fail hrun hx hres; refine ret_out (none, 0, none, 0, none, 0) (.tmp rfl (.tmp rfl .nil)) trivial (by rw [hf]; rfl) ?_; rw [hf]; exact gv
    · skip
      refine asg rfl rfl ?_
      refine kp [0, 1, 8, 10, 11, 12, 13] rfl ?_
      refine sr ?_
      refine mvo rfl rfl ?_
      refine RunL.op rfl rfl (OpJ.neq rfl rfl ?_)
      first | refine RunL.set (congrArg Value.bool (decide_eq_true (show errOf (Except.error _) ≠ 0 from stepM_err hres))) ?_ | skip
      refine kp [0, 1, 8, 10, 11, 12, 13, 23] rfl ?_
      refine Run.false rfl ?_
      refine Run.skip ?_
      refine Run.region ?_
      first | refine RunL.op rfl rfl (OpJ.addI rfl rfl (by omega) ?_) | refine RunL.op rfl rfl (OpJ.add rfl rfl ?_)
      refine mvo rfl rfl ?_
      exact RunL.next (Keep.sub (kt (ks := [0, 1, 11, 12, 13]) rfl)) _ ⟨_, by omega, i + 1, t, cs ++ [c], x.1, x.2.1, x.2.2.1, x.2.2.2.1, x.2.2.2.2.1, x.2.2.2.2.2, rfl, by omega, runL_snoc hrun hx hres, rfl, rfl⟩ gv
  · skip
    refine Run.exit ?_
    refine sr ?_
    refine asg rfl rfl ?_
    refine asg rfl rfl ?_
    refine kp [6, 7] rfl ?_
    refine Run.ret ?_
    have hf : runL (stepM k) s0 ms = .ok (s, cs) := (runL_all (by omega)).trans hrun; refine ret_out (la, lc, pa, pc, ca, cc) (.tmp rfl (.tmp rfl .nil)) trivial (by rw [hf]; rfl) ?_; rw [hf]; exact gv
theorem ac26s (br : Nat) (k p : Int) (R : HP) (oa : Option Addr) (cap : Nat) (ms : List Mv) (hR : RdS R oa (ms.flatMap Mv.c)) (hlen : ms.length ≤ 1000) (hms : ∀ m ∈ ms, m.ok) (R0 : HP) (hR0 : Rd R0 ⟨0, 0, none⟩ lensC) : AC Tryz.prog 26 ⟨[.pointer (some ⟨br, 0, none⟩), .func (.func 27) ⟨[]⟩ ⟨[]⟩, .slice oa ms.length cap]⟩ (stars [pt br (blk [I k, I (start0 k p).qty, I (start0 k p).value, I (start0 k p).price, .slice none 0 0, .slice none 0 0, .slice none 0 0] 56), own 64 4 none 0 0 [], own 66 7 none 0 0 [], own 43 4 none 0 0 [], R, R0]) (Outs (fun _ : Option Addr × Nat × Option Addr × Nat × Option Addr × Nat => True) (fun _ => .tuple ⟨[I (eachI (runL (stepM k) (start0 k p) ms)), I (eachE (runL (stepM k) (start0 k p) ms))]⟩) (fun x => EachB 56 64 66 43 br k (runL (stepM k) (start0 k p) ms) x ++ [R, R0])) := by
  have h := ac26 br k (start0 k p) none 0 none 0 R oa cap ms hR hlen hms (start0_ok 0) R0 hR0
  simp only [RC, start0_l, start0_p, List.length_nil, List.flatMap_nil] at h
  exact h
-- costing.Run
theorem ac15 (k p : Int) (R : HP) (oa : Option Addr) (cap : Nat) (ms : List Mv) (hR : RdS R oa (ms.flatMap Mv.c)) (hlen : ms.length ≤ 1000) (hms : ∀ m ∈ ms, m.ok) (R0 : HP) (hR0 : Rd R0 ⟨0, 0, none⟩ lensC) : AC Tryz.prog 15 ⟨[I k, I p, .slice oa ms.length cap]⟩ (stars [R, R0]) (Outs (fun _ : Option Addr × Nat × Option Addr × Nat × Option Addr × Nat => True) (fun x => RunV (runM k p ms) x) (fun x => RunB 64 66 43 (runM k p ms) x ++ [R, R0])) := by
  refine AC.go Tryz.func15 rfl (Nat.le_of_ble_eq_true rfl) fun β => ?_
  refine sr ?_
  refine RunL.op rfl rfl (OpJ.alloc Z28 fun b6 => ?_)
  refine asg rfl rfl ?_
  refine asg rfl rfl ?_
  refine asg rfl rfl ?_
  refine kp [0, 1, 2, 6] rfl ?_
  refine sr ?_
  refine mvo rfl rfl ?_
  refine mvo rfl rfl ?_
  refine RunL.call C13 rfl rfl rfl (ac13 k p) .nil ?_
  refine mvo rfl rfl ?_
  refine RunL.op rfl rfl (OpJ.extract rfl rfl ?_)
  refine RunL.op rfl rfl (OpJ.extract rfl rfl ?_)
  refine RunL.op rfl rfl (OpJ.storeW T28 rfl rfl rfl rfl (by simp [Value.oneCell', Pa.c, Ly.c, Mv.c, Co.c]) up ?_)
  refine asg rfl rfl ?_
  refine kp [0, 2, 6, 9] rfl ?_
  refine Run.seq ?_
  refine sr ?_
  refine mvo rfl rfl ?_
  refine RunL.op rfl rfl (OpJ.neq rfl rfl ?_)
  refine kp [0, 2, 6, 9, 18] rfl ?_
  first | refine Run.if rfl (fun h1 => ?_) (fun h1 => ?_) | refine Run.cond rfl (fun h1 => ?_) (fun h1 => ?_)
  · skip
    refine sr ?_
    refine RunL.op rfl rfl (OpJ.build B28 rfl rfl fun cs hcs => ?_)
    simp only [Sk.c, Mv.c, Co.c, bldL, bldA, Value.cells, bs, Nat.reduceAdd, Nat.reduceLeDiff, Nat.reduceLT] at hcs; subst hcs
    refine mvo rfl rfl ?_
    refine RunL.op rfl rfl (OpJ.storeW T28 rfl rfl rfl rfl (by simp [Value.oneCell', Pa.c, Ly.c, Mv.c, Co.c]) up ?_)
    refine asg rfl rfl ?_
    refine asg rfl rfl ?_
    refine asg rfl rfl ?_
    refine kp [6, 7, 8, 9] rfl ?_
    refine Run.ret ?_
    have hf := runM_no (ms := ms) h1; refine ret_out (none, 0, none, 0, none, 0) (.cellA T28 rfl pk (by rfl) (.tmp rfl (.tmp rfl (.tmp rfl .nil)))) trivial (by rw [hf]; rfl) ?_; rw [hf]; exact gv
  · skip
    refine Run.skip ?_
    refine sr ?_
    have h0 : startE k p = 0 := Decidable.not_not.1 h1
    refine mvo rfl rfl ?_
    first | refine RunL.op rfl rfl (OpJ.loadW T28 rfl pk (by rfl) ?_) | refine RunL.op rfl rfl (OpJ.loadP T28 rfl pk (by simp) ?_) | refine RunL.op rfl rfl (OpJ.loadE T28 rfl pk (by assumption) (by exact fun _ => rfl) rfl (by decide) ?_)
    refine RunL.op rfl rfl (OpJ.build B56 rfl rfl fun cs hcs => ?_)
    simp only [Sk.c, Mv.c, Co.c, bldL, bldA, Value.cells, bs, Nat.reduceAdd, Nat.reduceLeDiff, Nat.reduceLT] at hcs; subst hcs
    refine RunL.op rfl rfl (OpJ.boxA rfl fun b24 => ?_)
    simp only [start0_l, start0_p, List.length_nil]
    refine RunL.ownNil 64 4 ?_
    refine RunL.ownNil 66 7 ?_
    refine RunL.ownNil 43 4 ?_
    refine asg rfl rfl ?_
    refine kp [2, 6, 10] rfl ?_
    refine sr ?_
    refine mvo rfl rfl ?_
    refine mvo rfl rfl ?_
    refine RunL.callX C26 rfl rfl rfl (ac26s b24 k p R oa cap ms hR hlen hms R0 hR0) tks fun x _ => ?_
    rcases hres : runL (stepM k) (start0 k p) ms with ⟨i, e⟩ | ⟨t, cs⟩
    · skip
      refine mvo rfl rfl ?_
      refine RunL.op rfl rfl (OpJ.extract rfl rfl ?_)
      refine RunL.op rfl rfl (OpJ.extract rfl rfl ?_)
      refine asg rfl rfl ?_
      refine asg rfl rfl ?_
      refine kp [6, 8, 9, 10] rfl ?_
      refine Run.seq ?_
      refine sr ?_
      refine mvo rfl rfl ?_
      refine RunL.op rfl rfl (OpJ.neq rfl rfl ?_)
      first | refine RunL.set (congrArg Value.bool (decide_eq_true (show eachE (Except.error _) ≠ 0 from (runL_err hres).1))) ?_ | skip
      refine kp [6, 8, 9, 10, 32] rfl ?_
      refine Run.true rfl ?_
      refine sr ?_
      refine RunL.op rfl rfl (OpJ.build B28 rfl rfl fun cs hcs => ?_)
      simp only [Sk.c, Mv.c, Co.c, bldL, bldA, Value.cells, bs, Nat.reduceAdd, Nat.reduceLeDiff, Nat.reduceLT] at hcs; subst hcs
      refine mvo rfl rfl ?_
      refine mvo rfl rfl ?_
      refine RunL.op rfl rfl (OpJ.storeW T28 rfl rfl rfl rfl (by simp [Value.oneCell', Pa.c, Ly.c, Mv.c, Co.c]) up ?_)
      refine asg rfl rfl ?_
      refine asg rfl rfl ?_
      refine asg rfl rfl ?_
      refine kp [6, 7, 8, 9] rfl ?_
      refine Run.ret ?_
      have hf := runM_er h0 hres; refine ret_out (none, 0, none, 0, none, 0) (.cellA T28 rfl pk (by rfl) (.tmp rfl (.tmp rfl (.tmp rfl .nil)))) trivial (by rw [hf]; rfl) ?_; rw [hf]; exact gv
    · skip
      refine mvo rfl rfl ?_
      refine RunL.op rfl rfl (OpJ.extract rfl rfl ?_)
      refine RunL.op rfl rfl (OpJ.extract rfl rfl ?_)
      refine asg rfl rfl ?_
      refine asg rfl rfl ?_
      refine kp [6, 8, 9, 10] rfl ?_
      refine Run.seq ?_
      refine sr ?_
      refine mvo rfl rfl ?_
      refine RunL.op rfl rfl (OpJ.neq rfl rfl ?_)
      first | refine RunL.set (congrArg Value.bool (decide_eq_true (show eachE (Except.error _) ≠ 0 from (runL_err hres).1))) ?_ | skip
      refine kp [6, 8, 9, 10, 32] rfl ?_
      refine Run.false rfl ?_
      refine Run.skip ?_
      refine Run.seq ?_
      refine regionD HM ?_
      refine tk 0 rfl rfl rfl (DetJ.move rfl) ?_
      refine tk 1 rfl rfl rfl (DetJ.nilCheck rfl) ?_
      refine tk 2 rfl rfl rfl (DetJ.fieldAddr F56_1 rfl) ?_
      first | refine RunD.takeW 3 rfl rfl kr T28 rfl pk (by rfl) ?_ | refine RunD.takeP 3 rfl rfl kr T28 rfl pk (by simp) ?_ | refine RunD.takeE 3 rfl rfl kr T28 rfl pk (by assumption) (by exact fun _ => rfl) rfl (by decide) ?_
      refine tk 4 rfl rfl rfl (DetJ.move rfl) ?_
      refine tk 5 rfl rfl rfl (DetJ.nilCheck rfl) ?_
      refine tk 6 rfl rfl rfl (DetJ.fieldAddr F56_2 rfl) ?_
      first | refine RunD.takeF 7 rfl rfl kr T34 rfl pk (by rfl) ?_ | refine RunD.takeO 7 rfl rfl kr T34 rfl pk (by assumption) (by rfl) (by exact fun _ => rfl) ?_
      refine RunD.op 8 [true, true, true, true, false, false, false, false] rfl rfl rfl kr kr (OpJ.storeW T28 rfl rfl rfl rfl (by simp [Value.oneCell', Pa.c, Ly.c, Mv.c, Co.c]) up ⟨po, ?_⟩)
      refine tk 9 rfl rfl rfl (DetJ.assign rfl) ?_
      refine tk 10 rfl rfl rfl (DetJ.assign rfl) ?_
      refine tk 11 rfl rfl rfl (DetJ.assign rfl) ?_
      refine kd [6, 7, 8, 9] rfl ?_
      refine Run.ret ?_
      have hf := runM_ok h0 hres; refine ret_out x (.cellA T28 rfl pk (by rfl) (.tmp rfl (.tmp rfl (.tmp rfl .nil)))) trivial (by rw [hf]; rfl) ?_; rw [hf]; exact gv
end Go.Proofs.YtdcchollplhioaaGreatDoor

namespace Go.SL
open Go
def lx : ByteArray := ⟨#[]⟩
def paF (v : Int) : List Pa := [⟨1, 1, lx, 10, 100, 0, 0⟩, ⟨2, 1, lx, 10, 140, 0, 0⟩, ⟨3, 2, lx, 5, v, 0, 0⟩]
def sk1 : Sk := ⟨15, 190, 0, [⟨1, lx, 5, 50⟩, ⟨2, lx, 10, 140⟩], paF 50⟩
def sk2 : Sk := ⟨15, 180, 0, [], paF 60⟩
def sk3 : Sk := ⟨15, 165, 11, [], paF 55⟩
def cs1 : List Co := [⟨1, 10, 100, 0⟩, ⟨2, 10, 140, 0⟩, ⟨3, -5, -50, 0⟩]
def cs2 : List Co := [⟨1, 10, 100, 0⟩, ⟨2, 10, 140, 0⟩, ⟨3, -5, -60, 0⟩]
def cs3 : List Co := [⟨1, 10, 110, -10⟩, ⟨2, 10, 110, 30⟩, ⟨3, -5, -55, 0⟩]
theorem run1 : runM 1 11 fewMs = .ok (sk1, cs1) := by kernel_rfl
theorem run2 : runM 2 11 fewMs = .ok (sk2, cs2) := by kernel_rfl
theorem run3 : runM 3 11 fewMs = .ok (sk3, cs3) := by kernel_rfl
theorem run4 : runM 4 11 fewMs = .error (0, 22) := by kernel_rfl
theorem run5 : runM 5 (-1) fewMs = .error (-1, 10) := by kernel_rfl
end Go.SL

namespace Go.Proofs.YtdcchollplhioaaGreatDoor
open Go Go.SL Go.Proofs
theorem B47 : BI Tryz.prog 47 [.int .i64 0, .int .i64 0, .string ⟨#[]⟩, .int .i64 0, .int .i64 0, .int .i64 0, .string ⟨#[]⟩, .int .i64 0] [(0, 1), (1, 1), (2, 1), (3, 1), (4, 1), (5, 1), (6, 1), (7, 1)] := .of (by kernel_rfl) (by kernel_rfl)
theorem EI43 : EI Tryz.prog 43 [.int, .int, .int, .int] := .of (by kernel_rfl)
theorem EI64 : EI Tryz.prog 64 [.int, .str, .int, .int] := .of (by kernel_rfl)
theorem EI66 : EI Tryz.prog 66 [.int, .int, .str, .int, .int, .int, .int] := .of (by kernel_rfl)
-- accountingref34.SameStock
theorem ac17 (s : Sk) (la : Option Addr) (lc : Nat) (pa : Option Addr) (pc : Nat) (la2 : Option Addr) (lc2 : Nat) (pa2 : Option Addr) (pc2 : Nat) (R1 R2 R3 R4 : HP) (hR1 : RdS R1 la (s.layers.flatMap Ly.c)) (hR2 : RdS R2 pa (s.past.flatMap Pa.c)) (hR3 : RdS R3 la2 (s.layers.flatMap Ly.c)) (hR4 : RdS R4 pa2 (s.past.flatMap Pa.c)) (hn : s.layers.length ≤ 1000000 ∧ s.past.length ≤ 1000000) : AC Tryz.prog 17 ⟨[.agg ⟨s.c la lc pa pc⟩, .agg ⟨s.c la2 lc2 pa2 pc2⟩]⟩ (stars [R1, R2, R3, R4]) (Ret (Bo true) [R1, R2, R3, R4]) := by
  have hnl := hn.1; have hnp := hn.2
  refine AC.go Tryz.func17 rfl (Nat.le_of_ble_eq_true rfl) fun β => ?_
  refine sr ?_
  refine RunL.op rfl rfl (OpJ.boxA rfl fun b2 => ?_)
  refine RunL.op rfl rfl (OpJ.boxA rfl fun b3 => ?_)
  refine asg rfl rfl ?_
  refine kp [2, 3] rfl ?_
  refine Run.seq ?_
  refine sr ?_
  refine RunL.op rfl rfl (OpJ.fieldAddr F28_0 rfl ?_)
  first | refine RunL.op rfl rfl (OpJ.loadF T3 rfl pk (by rfl) ?_) | refine RunL.op rfl rfl (OpJ.loadO T3 rfl pk (by assumption) (by rfl) (by exact fun _ => rfl) ?_)
  refine RunL.op rfl rfl (OpJ.fieldAddr F28_0 rfl ?_)
  first | refine RunL.op rfl rfl (OpJ.loadF T3 rfl pk (by rfl) ?_) | refine RunL.op rfl rfl (OpJ.loadO T3 rfl pk (by assumption) (by rfl) (by exact fun _ => rfl) ?_)
  refine RunL.op rfl rfl (OpJ.neq rfl rfl ?_)
  refine RunL.set (congrArg Value.bool (decide_eq_false (fun h => h rfl))) ?_
  refine mvo rfl rfl ?_
  refine RunL.yes rfl rfl rfl rfl (OpJ.fieldAddr F28_1 rfl ?_)
  first | refine RunL.yes rfl rfl rfl rfl (OpJ.loadF T3 rfl pk (by rfl) ?_) | refine RunL.yes rfl rfl rfl rfl (OpJ.loadO T3 rfl pk (by assumption) (by rfl) (by exact fun _ => rfl) ?_)
  refine RunL.yes rfl rfl rfl rfl (OpJ.fieldAddr F28_1 rfl ?_)
  first | refine RunL.yes rfl rfl rfl rfl (OpJ.loadF T3 rfl pk (by rfl) ?_) | refine RunL.yes rfl rfl rfl rfl (OpJ.loadO T3 rfl pk (by assumption) (by rfl) (by exact fun _ => rfl) ?_)
  refine RunL.yes rfl rfl rfl rfl (OpJ.neq rfl rfl ?_)
  refine RunL.set (congrArg Value.bool (decide_eq_false (fun h => h rfl))) ?_
  refine RunL.op rfl rfl (OpJ.pickF rfl rfl ?_)
  refine mvo rfl rfl ?_
  refine RunL.yes rfl rfl rfl rfl (OpJ.fieldAddr F28_2 rfl ?_)
  first | refine RunL.yes rfl rfl rfl rfl (OpJ.loadF T3 rfl pk (by rfl) ?_) | refine RunL.yes rfl rfl rfl rfl (OpJ.loadO T3 rfl pk (by assumption) (by rfl) (by exact fun _ => rfl) ?_)
  refine RunL.yes rfl rfl rfl rfl (OpJ.fieldAddr F28_2 rfl ?_)
  first | refine RunL.yes rfl rfl rfl rfl (OpJ.loadF T3 rfl pk (by rfl) ?_) | refine RunL.yes rfl rfl rfl rfl (OpJ.loadO T3 rfl pk (by assumption) (by rfl) (by exact fun _ => rfl) ?_)
  refine RunL.yes rfl rfl rfl rfl (OpJ.neq rfl rfl ?_)
  refine RunL.set (congrArg Value.bool (decide_eq_false (fun h => h rfl))) ?_
  refine RunL.op rfl rfl (OpJ.pickF rfl rfl ?_)
  refine mvo rfl rfl ?_
  refine RunL.yes rfl rfl rfl rfl (OpJ.fieldAddr F28_3 rfl ?_)
  first | refine RunL.yes rfl rfl rfl rfl (OpJ.loadF T25 rfl pk (by rfl) ?_) | refine RunL.yes rfl rfl rfl rfl (OpJ.loadO T25 rfl pk (by assumption) (by rfl) (by exact fun _ => rfl) ?_)
  refine RunL.yes rfl rfl rfl rfl (OpJ.len S25 rfl ?_)
  refine RunL.yes rfl rfl rfl rfl (OpJ.fieldAddr F28_3 rfl ?_)
  first | refine RunL.yes rfl rfl rfl rfl (OpJ.loadF T25 rfl pk (by rfl) ?_) | refine RunL.yes rfl rfl rfl rfl (OpJ.loadO T25 rfl pk (by assumption) (by rfl) (by exact fun _ => rfl) ?_)
  refine RunL.yes rfl rfl rfl rfl (OpJ.len S25 rfl ?_)
  refine RunL.yes rfl rfl rfl rfl (OpJ.neq rfl rfl ?_)
  refine RunL.set (congrArg Value.bool (decide_eq_false (fun h => h rfl))) ?_
  refine RunL.op rfl rfl (OpJ.pickF rfl rfl ?_)
  refine mvo rfl rfl ?_
  refine RunL.yes rfl rfl rfl rfl (OpJ.fieldAddr F28_4 rfl ?_)
  first | refine RunL.yes rfl rfl rfl rfl (OpJ.loadF T26 rfl pk (by rfl) ?_) | refine RunL.yes rfl rfl rfl rfl (OpJ.loadO T26 rfl pk (by assumption) (by rfl) (by exact fun _ => rfl) ?_)
  refine RunL.yes rfl rfl rfl rfl (OpJ.len S26 rfl ?_)
  refine RunL.yes rfl rfl rfl rfl (OpJ.fieldAddr F28_4 rfl ?_)
  first | refine RunL.yes rfl rfl rfl rfl (OpJ.loadF T26 rfl pk (by rfl) ?_) | refine RunL.yes rfl rfl rfl rfl (OpJ.loadO T26 rfl pk (by assumption) (by rfl) (by exact fun _ => rfl) ?_)
  refine RunL.yes rfl rfl rfl rfl (OpJ.len S26 rfl ?_)
  refine RunL.yes rfl rfl rfl rfl (OpJ.neq rfl rfl ?_)
  refine RunL.set (congrArg Value.bool (decide_eq_false (fun h => h rfl))) ?_
  refine RunL.op rfl rfl (OpJ.pickF rfl rfl ?_)
  refine kp [2, 3, 43] rfl ?_
  refine Run.false rfl ?_
  refine Run.skip ?_
  refine Run.seq ?_
  refine sr ?_
  refine asg rfl rfl ?_
  refine kp [2, 3, 5] rfl ?_
  refine Run.block ?_
  refine Run.loop (fun mm E L => ∃ i : Nat, mm = s.layers.length - i ∧ i ≤ s.layers.length ∧ E = [(2, .pointer (some ⟨b2, 0, none⟩)), (3, .pointer (some ⟨b3, 0, none⟩)), (5, I i)] ∧ L = [pt b3 (blk (s.c la2 lc2 pa2 pc2) 28), pt b2 (blk (s.c la lc pa pc) 28), R1, R2, R3, R4]) ⟨_, 0, rfl, Nat.zero_le _, rfl, rfl⟩ ?_
  rintro _ _ _ ⟨i, rfl, hi, rfl, rfl⟩
  refine Run.seq ?_
  refine sr ?_
  refine mvo rfl rfl ?_
  refine RunL.op rfl rfl (OpJ.fieldAddr F28_3 rfl ?_)
  first | refine RunL.op rfl rfl (OpJ.loadF T25 rfl pk (by rfl) ?_) | refine RunL.op rfl rfl (OpJ.loadO T25 rfl pk (by assumption) (by rfl) (by exact fun _ => rfl) ?_)
  refine RunL.op rfl rfl (OpJ.len S25 rfl ?_)
  refine RunL.op rfl rfl (OpJ.lss rfl rfl ?_)
  refine kp [2, 3, 5, 48] rfl ?_
  first | refine Run.if rfl (fun h1 => ?_) (fun h1 => ?_) | refine Run.cond rfl (fun h1 => ?_) (fun h1 => ?_)
  · skip
    refine Run.skip ?_
    refine Run.seq ?_
    refine Run.block ?_
    refine Run.seq ?_
    refine regionD HM ?_
    obtain ⟨x, hx⟩ := get_ex (xs := s.layers) (by omega)
    refine RunD.rdOpen (R := R1) pk hR1 (flat_ne (k := 4) (fun _ => rfl) (by decide) hx) fun b1 o1 e hrd1 => ?_
    subst e
    refine RunD.rdOpen (R := R3) pk hR3 (flat_ne (k := 4) (fun _ => rfl) (by decide) hx) fun b3 o3 e hrd3 => ?_
    subst e
    refine tk 0 rfl rfl rfl (DetJ.fieldAddr F28_3 rfl) ?_
    first | refine RunD.takeF 1 rfl rfl kr T25 rfl pk (by rfl) ?_ | refine RunD.takeO 1 rfl rfl kr T25 rfl pk (by assumption) (by rfl) (by exact fun _ => rfl) ?_
    refine tk 2 rfl rfl rfl (DetJ.move rfl) ?_
    refine tk 3 rfl rfl rfl (DetJ.indexAddr S25 rfl rfl (by omega)) ?_
    refine RunD.takeR (R := R1) 4 rfl rfl kr T64 rfl pk (hrd1.elem (fun _ => rfl) hx) rfl ?_
    refine tk 5 rfl rfl rfl (DetJ.fieldAddr F28_3 rfl) ?_
    first | refine RunD.takeF 6 rfl rfl kr T25 rfl pk (by rfl) ?_ | refine RunD.takeO 6 rfl rfl kr T25 rfl pk (by assumption) (by rfl) (by exact fun _ => rfl) ?_
    refine tk 7 rfl rfl rfl (DetJ.move rfl) ?_
    refine tk 8 rfl rfl rfl (DetJ.indexAddr S25 rfl rfl (by omega)) ?_
    refine RunD.takeR (R := R3) 9 rfl rfl kr T64 rfl pk (hrd3.elem (fun _ => rfl) hx) rfl ?_
    refine tk 10 rfl rfl rfl (DetJ.neqA EI64 rfl rfl (by rfl)) ?_
    refine RunD.set (v := Bo false) (congrArg Value.bool (by simp)) ?_
    refine kd [2, 3, 5, 61] rfl ?_
    refine Run.false rfl ?_
    refine Run.skip ?_
    refine Run.region ?_
    refine mvo rfl rfl ?_
    refine RunL.op rfl rfl (OpJ.addI rfl rfl (by omega) ?_)
    refine asg rfl rfl ?_
    exact RunL.next (Keep.sub (kt (ks := [2, 3, 5]) rfl)) _ ⟨_, by omega, i + 1, rfl, by omega, rfl, rfl⟩ gv
  · skip
    refine Run.exit ?_
    refine Run.seq ?_
    refine sr ?_
    refine asg rfl rfl ?_
    refine kp [2, 3, 6] rfl ?_
    refine Run.block ?_
    refine Run.loop (fun mm E L => ∃ i : Nat, mm = s.past.length - i ∧ i ≤ s.past.length ∧ E = [(2, .pointer (some ⟨b2, 0, none⟩)), (3, .pointer (some ⟨b3, 0, none⟩)), (6, I i)] ∧ L = [pt b3 (blk (s.c la2 lc2 pa2 pc2) 28), pt b2 (blk (s.c la lc pa pc) 28), R1, R2, R3, R4]) ⟨_, 0, rfl, Nat.zero_le _, rfl, rfl⟩ ?_
    rintro _ _ _ ⟨i, rfl, hi, rfl, rfl⟩
    refine Run.seq ?_
    refine sr ?_
    refine mvo rfl rfl ?_
    refine RunL.op rfl rfl (OpJ.fieldAddr F28_4 rfl ?_)
    first | refine RunL.op rfl rfl (OpJ.loadF T26 rfl pk (by rfl) ?_) | refine RunL.op rfl rfl (OpJ.loadO T26 rfl pk (by assumption) (by rfl) (by exact fun _ => rfl) ?_)
    refine RunL.op rfl rfl (OpJ.len S26 rfl ?_)
    refine RunL.op rfl rfl (OpJ.lss rfl rfl ?_)
    refine kp [2, 3, 6, 66] rfl ?_
    first | refine Run.if rfl (fun h2 => ?_) (fun h2 => ?_) | refine Run.cond rfl (fun h2 => ?_) (fun h2 => ?_)
    · skip
      refine Run.skip ?_
      refine Run.seq ?_
      refine Run.block ?_
      refine Run.seq ?_
      refine regionD HM ?_
      obtain ⟨x, hx⟩ := get_ex (xs := s.past) (by omega)
      refine RunD.rdOpen (R := R2) pk hR2 (flat_ne (k := 7) (fun _ => rfl) (by decide) hx) fun b2 o2 e hrd2 => ?_
      subst e
      refine RunD.rdOpen (R := R4) pk hR4 (flat_ne (k := 7) (fun _ => rfl) (by decide) hx) fun b4 o4 e hrd4 => ?_
      subst e
      refine tk 0 rfl rfl rfl (DetJ.fieldAddr F28_4 rfl) ?_
      first | refine RunD.takeF 1 rfl rfl kr T26 rfl pk (by rfl) ?_ | refine RunD.takeO 1 rfl rfl kr T26 rfl pk (by assumption) (by rfl) (by exact fun _ => rfl) ?_
      refine tk 2 rfl rfl rfl (DetJ.move rfl) ?_
      refine tk 3 rfl rfl rfl (DetJ.indexAddr S26 rfl rfl (by omega)) ?_
      refine RunD.takeR (R := R2) 4 rfl rfl kr T66 rfl pk (hrd2.elem (fun _ => rfl) hx) rfl ?_
      refine tk 5 rfl rfl rfl (DetJ.fieldAddr F28_4 rfl) ?_
      first | refine RunD.takeF 6 rfl rfl kr T26 rfl pk (by rfl) ?_ | refine RunD.takeO 6 rfl rfl kr T26 rfl pk (by assumption) (by rfl) (by exact fun _ => rfl) ?_
      refine tk 7 rfl rfl rfl (DetJ.move rfl) ?_
      refine tk 8 rfl rfl rfl (DetJ.indexAddr S26 rfl rfl (by omega)) ?_
      refine RunD.takeR (R := R4) 9 rfl rfl kr T66 rfl pk (hrd4.elem (fun _ => rfl) hx) rfl ?_
      refine tk 10 rfl rfl rfl (DetJ.neqA EI66 rfl rfl (by rfl)) ?_
      refine RunD.set (v := Bo false) (congrArg Value.bool (by simp)) ?_
      refine kd [2, 3, 6, 79] rfl ?_
      refine Run.false rfl ?_
      refine Run.skip ?_
      refine Run.region ?_
      refine mvo rfl rfl ?_
      refine RunL.op rfl rfl (OpJ.addI rfl rfl (by omega) ?_)
      refine asg rfl rfl ?_
      exact RunL.next (Keep.sub (kt (ks := [2, 3, 6]) rfl)) _ ⟨_, by omega, i + 1, rfl, by omega, rfl, rfl⟩ gv
    · skip
      refine Run.exit ?_
      refine sr ?_
      refine asg rfl rfl ?_
      refine kp [4] rfl ?_
      refine Run.ret ?_
      exact ret_one (.tmp rfl .nil) (rfl) gv
-- accountingref38.Same
theorem ac18 (cs : List Co) (ca : Option Addr) (cc : Nat) (ca2 : Option Addr) (cc2 : Nat) (R1 R2 : HP) (hR1 : RdS R1 ca (cs.flatMap Co.c)) (hR2 : RdS R2 ca2 (cs.flatMap Co.c)) (hn : cs.length ≤ 1000000) : AC Tryz.prog 18 ⟨[.slice ca cs.length cc, .slice ca2 cs.length cc2]⟩ (stars [R1, R2]) (Ret (Bo true) [R1, R2]) := by
  refine AC.go Tryz.func18 rfl (Nat.le_of_ble_eq_true rfl) fun β => ?_
  refine sr ?_
  refine asg rfl rfl ?_
  refine kp [0, 1] rfl ?_
  refine Run.seq ?_
  refine sr ?_
  refine mvo rfl rfl ?_
  refine RunL.op rfl rfl (OpJ.len S34 rfl ?_)
  refine mvo rfl rfl ?_
  refine RunL.op rfl rfl (OpJ.len S34 rfl ?_)
  refine RunL.op rfl rfl (OpJ.neq rfl rfl ?_)
  refine RunL.set (congrArg Value.bool (decide_eq_false (fun h => h rfl))) ?_
  refine kp [0, 1, 10] rfl ?_
  refine Run.false rfl ?_
  refine Run.skip ?_
  refine Run.seq ?_
  refine sr ?_
  refine asg rfl rfl ?_
  refine kp [0, 1, 5] rfl ?_
  refine Run.block ?_
  refine Run.loop (fun mm E L => ∃ i : Nat, mm = cs.length - i ∧ i ≤ cs.length ∧ E = [(0, .slice ca cs.length cc), (1, .slice ca2 cs.length cc2), (5, I i)] ∧ L = [R1, R2]) ⟨_, 0, rfl, Nat.zero_le _, rfl, rfl⟩ ?_
  rintro _ _ _ ⟨i, rfl, hi, rfl, rfl⟩
  refine Run.seq ?_
  refine sr ?_
  refine mvo rfl rfl ?_
  refine mvo rfl rfl ?_
  refine RunL.op rfl rfl (OpJ.len S34 rfl ?_)
  refine RunL.op rfl rfl (OpJ.lss rfl rfl ?_)
  refine kp [0, 1, 5, 14] rfl ?_
  first | refine Run.if rfl (fun h1 => ?_) (fun h1 => ?_) | refine Run.cond rfl (fun h1 => ?_) (fun h1 => ?_)
  · skip
    refine Run.skip ?_
    refine Run.seq ?_
    refine Run.block ?_
    refine Run.seq ?_
    refine regionD HM ?_
    obtain ⟨x, hx⟩ := get_ex (xs := cs) (by omega)
    refine RunD.rdOpen (R := R1) pk hR1 (flat_ne (k := 4) (fun _ => rfl) (by decide) hx) fun b1 o1 e hrd1 => ?_
    subst e
    refine RunD.rdOpen (R := R2) pk hR2 (flat_ne (k := 4) (fun _ => rfl) (by decide) hx) fun b2 o2 e hrd2 => ?_
    subst e
    refine tk 0 rfl rfl rfl (DetJ.move rfl) ?_
    refine tk 1 rfl rfl rfl (DetJ.move rfl) ?_
    refine tk 2 rfl rfl rfl (DetJ.indexAddr S34 rfl rfl (by omega)) ?_
    refine RunD.takeR (R := R1) 3 rfl rfl kr T43 rfl pk (hrd1.elem (fun _ => rfl) hx) rfl ?_
    refine tk 4 rfl rfl rfl (DetJ.move rfl) ?_
    refine tk 5 rfl rfl rfl (DetJ.move rfl) ?_
    refine tk 6 rfl rfl rfl (DetJ.indexAddr S34 rfl rfl (by omega)) ?_
    refine RunD.takeR (R := R2) 7 rfl rfl kr T43 rfl pk (hrd2.elem (fun _ => rfl) hx) rfl ?_
    refine tk 8 rfl rfl rfl (DetJ.neqA EI43 rfl rfl (by rfl)) ?_
    refine RunD.set (v := Bo false) (congrArg Value.bool (by simp)) ?_
    refine kd [0, 1, 5, 25] rfl ?_
    refine Run.false rfl ?_
    refine Run.skip ?_
    refine Run.region ?_
    refine mvo rfl rfl ?_
    refine RunL.op rfl rfl (OpJ.addI rfl rfl (by omega) ?_)
    refine asg rfl rfl ?_
    exact RunL.next (Keep.sub (kt (ks := [0, 1, 5]) rfl)) _ ⟨_, by omega, i + 1, rfl, by omega, rfl, rfl⟩ gv
  · skip
    refine Run.exit ?_
    refine sr ?_
    refine asg rfl rfl ?_
    refine kp [4] rfl ?_
    refine Run.ret ?_
    exact ret_one (.tmp rfl .nil) (rfl) gv
-- accountinglaw38.few
theorem ac25 : AC Tryz.prog 25 ⟨[]⟩ (stars []) (Outs (fun _ : Nat => True) (fun x => .slice (some ⟨x, 0, none⟩) 3 3) (fun x => [pt x (blk (fewMs.flatMap Mv.c) 47)])) := by
  refine AC.go Tryz.func25 rfl (Nat.le_of_ble_eq_true rfl) fun β => ?_
  refine sr ?_
  refine asg rfl rfl ?_
  refine kp [] rfl ?_
  refine sr ?_
  refine RunL.op rfl rfl (OpJ.build B47 rfl rfl fun cs hcs => ?_)
  simp only [Sk.c, Mv.c, Co.c, bldL, bldA, Value.cells, bs, Nat.reduceAdd, Nat.reduceLeDiff, Nat.reduceLT] at hcs; subst hcs
  refine RunL.op rfl rfl (OpJ.build B47 rfl rfl fun cs hcs => ?_)
  simp only [Sk.c, Mv.c, Co.c, bldL, bldA, Value.cells, bs, Nat.reduceAdd, Nat.reduceLeDiff, Nat.reduceLT] at hcs; subst hcs
  refine RunL.op rfl rfl (OpJ.build B47 rfl rfl fun cs hcs => ?_)
  simp only [Sk.c, Mv.c, Co.c, bldL, bldA, Value.cells, bs, Nat.reduceAdd, Nat.reduceLeDiff, Nat.reduceLT] at hcs; subst hcs
  refine RunL.op rfl rfl (OpJ.buildSliceN (cs := fewMs.flatMap Mv.c) S22 Z47 rfl (by decide) (by decide) rfl (by rfl) (by rfl) fun b4 => ?_)
  refine asg rfl rfl ?_
  refine kp [0] rfl ?_
  refine Run.ret ?_
  exact ret_out b4 (.tmp rfl .nil) trivial rfl gv
-- moves.change
theorem ac53 (m : Mv) : AC Tryz.prog 53 ⟨[.agg ⟨m.c⟩]⟩ (stars []) (Ret (I (changeM m)) []) := by
  refine AC.go Tryz.func53 rfl (Nat.le_of_ble_eq_true rfl) fun β => ?_
  refine sr ?_
  refine RunL.op rfl rfl (OpJ.boxA rfl fun b1 => ?_)
  refine asg rfl rfl ?_
  refine kp [1] rfl ?_
  refine Run.seq ?_
  refine sr ?_
  refine RunL.op rfl rfl (OpJ.fieldAddr F47_4 rfl ?_)
  first | refine RunL.op rfl rfl (OpJ.loadF T3 rfl pk (by rfl) ?_) | refine RunL.op rfl rfl (OpJ.loadO T3 rfl pk (by assumption) (by rfl) (by exact fun _ => rfl) ?_)
  refine RunL.call C60 rfl rfl rfl (ac60 _ _ _) .nil ?_
  refine RunL.op rfl rfl (OpJ.not rfl ?_)
  refine kp [1, 6] rfl ?_
  first | refine Run.if rfl (fun h1 => ?_) (fun h1 => ?_) | refine Run.cond rfl (fun h1 => ?_) (fun h1 => ?_)
  · skip
    refine sr ?_
    refine asg rfl rfl ?_
    refine kp [2] rfl ?_
    refine Run.ret ?_
    exact ret_one (.tmp rfl .nil) (congrArg I (by unfold changeM; first | (simp_all; done) | (exfalso; omega))) gv
  · skip
    refine Run.skip ?_
    refine Run.seq ?_
    refine sr ?_
    refine RunL.op rfl rfl (OpJ.fieldAddr F47_3 rfl ?_)
    first | refine RunL.op rfl rfl (OpJ.loadF T3 rfl pk (by rfl) ?_) | refine RunL.op rfl rfl (OpJ.loadO T3 rfl pk (by assumption) (by rfl) (by exact fun _ => rfl) ?_)
    refine kp [1, 8] rfl ?_
    refine Run.block ?_
    refine Run.seq ?_
    refine sr ?_
    refine RunL.op rfl rfl (OpJ.eql rfl rfl ?_)
    refine asg rfl rfl ?_
    refine kp [1, 8, 9] rfl ?_
    first | refine Run.if rfl (fun h2 => ?_) (fun h2 => ?_) | refine Run.cond rfl (fun h2 => ?_) (fun h2 => ?_)
    · skip
      refine Run.skip ?_
      first | refine Run.if rfl (fun h3 => ?_) (fun h3 => ?_) | refine Run.cond rfl (fun h3 => ?_) (fun h3 => ?_)
      · skip
        refine sr ?_
        refine RunL.op rfl rfl (OpJ.fieldAddr F47_4 rfl ?_)
        first | refine RunL.op rfl rfl (OpJ.loadF T3 rfl pk (by rfl) ?_) | refine RunL.op rfl rfl (OpJ.loadO T3 rfl pk (by assumption) (by rfl) (by exact fun _ => rfl) ?_)
        refine asg rfl rfl ?_
        refine kp [2] rfl ?_
        refine Run.ret ?_
        exact ret_one (.tmp rfl .nil) (congrArg I (by unfold changeM; first | (simp_all; done) | (exfalso; omega))) gv
      · skip
        refine Run.seq ?_
        refine sr ?_
        refine RunL.op rfl rfl (OpJ.eql rfl rfl ?_)
        refine asg rfl rfl ?_
        refine kp [1, 8, 14] rfl ?_
        first | refine Run.if rfl (fun h4 => ?_) (fun h4 => ?_) | refine Run.cond rfl (fun h4 => ?_) (fun h4 => ?_)
        · skip
          refine Run.skip ?_
          first | refine Run.if rfl (fun h5 => ?_) (fun h5 => ?_) | refine Run.cond rfl (fun h5 => ?_) (fun h5 => ?_)
          · skip
            refine sr ?_
            refine RunL.op rfl rfl (OpJ.fieldAddr F47_4 rfl ?_)
            first | refine RunL.op rfl rfl (OpJ.loadF T3 rfl pk (by rfl) ?_) | refine RunL.op rfl rfl (OpJ.loadO T3 rfl pk (by assumption) (by rfl) (by exact fun _ => rfl) ?_)
            refine RunL.op rfl rfl (OpJ.neg rfl ?_)
            refine asg rfl rfl ?_
            refine kp [2] rfl ?_
            refine Run.ret ?_
            exact ret_one (.tmp rfl .nil) (congrArg I (by unfold changeM; first | (simp_all; done) | (exfalso; omega))) gv
          · skip
            refine Run.skip ?_
            refine sr ?_
            refine asg rfl rfl ?_
            refine kp [2] rfl ?_
            refine Run.ret ?_
            exact ret_one (.tmp rfl .nil) (congrArg I (by unfold changeM; first | (simp_all; done) | (exfalso; omega))) gv
        · skip
          refine Run.region ?_
          refine RunL.op rfl rfl (OpJ.eql rfl rfl ?_)
          refine asg rfl rfl ?_
          refine kp [1, 14] rfl ?_
          first | refine Run.if rfl (fun h6 => ?_) (fun h6 => ?_) | refine Run.cond rfl (fun h6 => ?_) (fun h6 => ?_)
          · skip
            refine sr ?_
            refine RunL.op rfl rfl (OpJ.fieldAddr F47_4 rfl ?_)
            first | refine RunL.op rfl rfl (OpJ.loadF T3 rfl pk (by rfl) ?_) | refine RunL.op rfl rfl (OpJ.loadO T3 rfl pk (by assumption) (by rfl) (by exact fun _ => rfl) ?_)
            refine RunL.op rfl rfl (OpJ.neg rfl ?_)
            refine asg rfl rfl ?_
            refine kp [2] rfl ?_
            refine Run.ret ?_
            exact ret_one (.tmp rfl .nil) (congrArg I (by unfold changeM; first | (simp_all; done) | (exfalso; omega))) gv
          · skip
            refine Run.skip ?_
            refine sr ?_
            refine asg rfl rfl ?_
            refine kp [2] rfl ?_
            refine Run.ret ?_
            exact ret_one (.tmp rfl .nil) (congrArg I (by unfold changeM; first | (simp_all; done) | (exfalso; omega))) gv
    · skip
      refine Run.region ?_
      refine RunL.op rfl rfl (OpJ.eql rfl rfl ?_)
      refine asg rfl rfl ?_
      refine kp [1, 8, 9] rfl ?_
      first | refine Run.if rfl (fun h7 => ?_) (fun h7 => ?_) | refine Run.cond rfl (fun h7 => ?_) (fun h7 => ?_)
      · skip
        refine sr ?_
        refine RunL.op rfl rfl (OpJ.fieldAddr F47_4 rfl ?_)
        first | refine RunL.op rfl rfl (OpJ.loadF T3 rfl pk (by rfl) ?_) | refine RunL.op rfl rfl (OpJ.loadO T3 rfl pk (by assumption) (by rfl) (by exact fun _ => rfl) ?_)
        refine asg rfl rfl ?_
        refine kp [2] rfl ?_
        refine Run.ret ?_
        exact ret_one (.tmp rfl .nil) (congrArg I (by unfold changeM; first | (simp_all; done) | (exfalso; omega))) gv
      · skip
        refine Run.seq ?_
        refine sr ?_
        refine RunL.op rfl rfl (OpJ.eql rfl rfl ?_)
        refine asg rfl rfl ?_
        refine kp [1, 8, 14] rfl ?_
        first | refine Run.if rfl (fun h8 => ?_) (fun h8 => ?_) | refine Run.cond rfl (fun h8 => ?_) (fun h8 => ?_)
        · skip
          refine Run.skip ?_
          first | refine Run.if rfl (fun h9 => ?_) (fun h9 => ?_) | refine Run.cond rfl (fun h9 => ?_) (fun h9 => ?_)
          · skip
            refine sr ?_
            refine RunL.op rfl rfl (OpJ.fieldAddr F47_4 rfl ?_)
            first | refine RunL.op rfl rfl (OpJ.loadF T3 rfl pk (by rfl) ?_) | refine RunL.op rfl rfl (OpJ.loadO T3 rfl pk (by assumption) (by rfl) (by exact fun _ => rfl) ?_)
            refine RunL.op rfl rfl (OpJ.neg rfl ?_)
            refine asg rfl rfl ?_
            refine kp [2] rfl ?_
            refine Run.ret ?_
            exact ret_one (.tmp rfl .nil) (congrArg I (by unfold changeM; first | (simp_all; done) | (exfalso; omega))) gv
          · skip
            refine Run.skip ?_
            refine sr ?_
            refine asg rfl rfl ?_
            refine kp [2] rfl ?_
            refine Run.ret ?_
            exact ret_one (.tmp rfl .nil) (congrArg I (by unfold changeM; first | (simp_all; done) | (exfalso; omega))) gv
        · skip
          refine Run.region ?_
          refine RunL.op rfl rfl (OpJ.eql rfl rfl ?_)
          refine asg rfl rfl ?_
          refine kp [1, 14] rfl ?_
          first | refine Run.if rfl (fun h10 => ?_) (fun h10 => ?_) | refine Run.cond rfl (fun h10 => ?_) (fun h10 => ?_)
          · skip
            refine sr ?_
            refine RunL.op rfl rfl (OpJ.fieldAddr F47_4 rfl ?_)
            first | refine RunL.op rfl rfl (OpJ.loadF T3 rfl pk (by rfl) ?_) | refine RunL.op rfl rfl (OpJ.loadO T3 rfl pk (by assumption) (by rfl) (by exact fun _ => rfl) ?_)
            refine RunL.op rfl rfl (OpJ.neg rfl ?_)
            refine asg rfl rfl ?_
            refine kp [2] rfl ?_
            refine Run.ret ?_
            exact ret_one (.tmp rfl .nil) (congrArg I (by unfold changeM; first | (simp_all; done) | (exfalso; omega))) gv
          · skip
            refine Run.skip ?_
            refine sr ?_
            refine asg rfl rfl ?_
            refine kp [2] rfl ?_
            refine Run.ret ?_
            exact ret_one (.tmp rfl .nil) (congrArg I (by unfold changeM; first | (simp_all; done) | (exfalso; omega))) gv
end Go.Proofs.YtdcchollplhioaaGreatDoor

namespace Go.Proofs.YtdcchollplhioaaGreatDoor
open Go Go.SL Go.Proofs
theorem C15 : CI Tryz.prog 15 := .of (by kernel_rfl)
theorem C25 : CI Tryz.prog 25 := .of (by kernel_rfl)
theorem C53 : CI Tryz.prog 53 := .of (by kernel_rfl)
theorem M3 : MI Tryz.prog 3 1 8 [.int .i64 0] := .of (by kernel_rfl) rfl
theorem S50 : SI Tryz.prog 50 3 1 := .of (by kernel_rfl) (by kernel_rfl)
theorem Z3 : ZI Tryz.prog 3 [.int .i64 0] := .of (by kernel_rfl)
-- moves.Levels
theorem ac24 (R : HP) (oa : Option Addr) (cap : Nat) (ms : List Mv) (hR : RdS R oa (ms.flatMap Mv.c)) (hlen : ms.length ≤ 1000) : AC Tryz.prog 24 ⟨[.slice oa ms.length cap]⟩ (stars [R]) (Outs (fun _ : Option Addr × Nat => True) (fun x => LevV (runL levM 0 ms) x) (fun x => LevB 3 (runL levM 0 ms) x ++ [R])) := by
  refine AC.go Tryz.func24 rfl (Nat.le_of_ble_eq_true rfl) fun β => ?_
  refine sr ?_
  refine asg rfl rfl ?_
  refine asg rfl rfl ?_
  refine asg rfl rfl ?_
  refine kp [0, 2] rfl ?_
  refine sr ?_
  refine asg rfl rfl ?_
  refine kp [0, 2, 5] rfl ?_
  refine Run.seq ?_
  refine sr ?_
  refine RunL.ownNil 3 1 ?_
  refine mvo rfl rfl ?_
  refine RunL.op rfl rfl (OpJ.len S22 rfl ?_)
  refine mvo rfl rfl ?_
  refine kp [2, 5, 8, 9, 10] rfl ?_
  refine Run.block ?_
  refine Run.loop (fun mm E L => ∃ (i : Nat) (q : Int) (qs : List Int) (qa : Option Addr) (qc : Nat), mm = ms.length - i ∧ i ≤ ms.length ∧ runL levM 0 (ms.take i) = .ok (q, qs) ∧ E = [(2, .slice qa qs.length qc), (5, I q), (8, .slice oa ms.length cap), (9, I ms.length), (10, I i)] ∧ L = [own 3 1 qa (qs).length qc ((qs).flatMap Iv), R]) ⟨_, 0, 0, [], none, 0, rfl, Nat.zero_le _, rfl, rfl, rfl⟩ ?_
  rintro _ _ _ ⟨i, q, qs, qa, qc, rfl, hi, hrun, rfl, rfl⟩
  have hql : qs.length = i := (runL_len hrun).trans (by rw [List.length_take]; omega)
  refine sr ?_
  refine RunL.op rfl rfl (OpJ.lss rfl rfl ?_)
  refine kp [2, 5, 8, 9, 10, 11] rfl ?_
  refine Run.seq ?_
  first | refine Run.if rfl (fun h1 => ?_) (fun h1 => ?_) | refine Run.cond rfl (fun h1 => ?_) (fun h1 => ?_)
  · skip
    refine Run.skip ?_
    refine Run.seq ?_
    refine Run.block ?_
    refine sr ?_
    obtain ⟨m, hx⟩ := get_ex (xs := ms) (by omega)
    refine RunL.rdOpen pk hR (flat_ne (k := 8) (fun _ => rfl) (by decide) hx) fun b o e hrd => ?_
    subst e
    refine mvo rfl rfl ?_
    refine RunL.op rfl rfl (OpJ.indexAddr S22 rfl rfl (by omega) ?_)
    refine RunL.op rfl rfl (OpJ.loadA T47 rfl pk (hrd.elem (fun _ => rfl) hx) rfl ?_)
    refine RunL.op rfl rfl (OpJ.alloc Z47 fun b7 => ?_)
    refine asg rfl rfl ?_
    refine RunL.op rfl rfl (OpJ.storeW T47 rfl rfl rfl rfl (by simp [Value.oneCell', Pa.c, Ly.c, Mv.c, Co.c]) up ?_)
    refine kp [2, 5, 6, 7, 8, 9, 10] rfl ?_
    refine sr ?_
    refine mvo rfl rfl ?_
    first | refine RunL.op rfl rfl (OpJ.loadW T47 rfl pk (by rfl) ?_) | refine RunL.op rfl rfl (OpJ.loadP T47 rfl pk (by simp) ?_) | refine RunL.op rfl rfl (OpJ.loadE T47 rfl pk (by assumption) (by exact fun _ => rfl) rfl (by decide) ?_)
    refine RunL.call C53 rfl rfl rfl (ac53 m) .nil ?_
    refine RunL.op rfl rfl (OpJ.add rfl rfl ?_)
    refine asg rfl rfl ?_
    refine kp [2, 5, 6, 8, 9, 10] rfl ?_
    refine Run.seq ?_
    refine sr ?_
    refine mvo rfl rfl ?_
    refine RunL.op rfl rfl (OpJ.lss rfl rfl ?_)
    refine kp [2, 5, 6, 8, 9, 10, 20] rfl ?_
    first | refine Run.if rfl (fun h2 => ?_) (fun h2 => ?_) | refine Run.cond rfl (fun h2 => ?_) (fun h2 => ?_)
    · skip
      refine sr ?_
      refine mvo rfl rfl ?_
      refine asg rfl rfl ?_
      refine asg rfl rfl ?_
      refine asg rfl rfl ?_
      refine kp [2, 3, 4] rfl ?_
      refine Run.ret ?_
      have hf := runL_fail hrun hx (show levM q m = .error 21 by unfold levM; rw [if_pos (by assumption)]); refine ret_out (none, 0) (.tmp rfl (.tmp rfl (.tmp rfl .nil))) trivial (by rw [hf]; rfl) ?_; rw [hf]; exact gv
    · skip
      refine Run.skip ?_
      refine Run.seq ?_
      refine sr ?_
      refine mvo rfl rfl ?_
      refine RunL.op rfl rfl (OpJ.gtr rfl rfl ?_)
      refine kp [2, 5, 6, 8, 9, 10, 23] rfl ?_
      first | refine Run.if rfl (fun h3 => ?_) (fun h3 => ?_) | refine Run.cond rfl (fun h3 => ?_) (fun h3 => ?_)
      · skip
        refine sr ?_
        refine mvo rfl rfl ?_
        refine asg rfl rfl ?_
        refine asg rfl rfl ?_
        refine asg rfl rfl ?_
        refine kp [2, 3, 4] rfl ?_
        refine Run.ret ?_
        have hf := runL_fail hrun hx (show levM q m = .error 4 by unfold levM; rw [if_neg (by assumption), if_pos (by assumption)]); refine ret_out (none, 0) (.tmp rfl (.tmp rfl (.tmp rfl .nil))) trivial (by rw [hf]; rfl) ?_; rw [hf]; exact gv
      · skip
        refine Run.skip ?_
        refine Run.region ?_
        refine mvo rfl rfl ?_
        refine mvo rfl rfl ?_
        refine RunL.op rfl rfl (OpJ.buildSlice1 S50 rfl rfl rfl (by decide) (by decide) Z3 rfl fun b27 => ?_)
        refine RunL.op rfl rfl (OpJ.append1 (enc := Iv) (W (q + changeM m) : Int) S50 M3 rfl rfl pk pk rfl rfl (Iv.one _) rfl (by omega) (by omega) fun a28 c28 => ?_)
        refine asg rfl rfl ?_
        refine kp [2, 5, 8, 9, 10] rfl ?_
        refine Run.region ?_
        refine RunL.op rfl rfl (OpJ.addI rfl rfl (by omega) ?_)
        refine mvo rfl rfl ?_
        exact RunL.next (Keep.sub (kt (ks := [2, 5, 8, 9, 10]) rfl)) _ ⟨_, by omega, i + 1, W (q + changeM m), qs ++ [W (q + changeM m)], a28, c28, rfl, by omega, runL_snoc hrun hx (show levM q m = .ok _ by unfold levM; rw [if_neg (by assumption), if_neg (by assumption)]), rfl, rfl⟩ gv
  · skip
    refine Run.exit ?_
    refine sr ?_
    refine mvo rfl rfl ?_
    refine asg rfl rfl ?_
    refine asg rfl rfl ?_
    refine asg rfl rfl ?_
    refine kp [2, 3, 4] rfl ?_
    refine Run.ret ?_
    have hf : runL levM 0 ms = .ok (q, qs) := (runL_all (by omega)).trans hrun; refine ret_out (qa, qc) (.tmp rfl (.tmp rfl (.tmp rfl .nil))) trivial (by rw [hf]; rfl) ?_; rw [hf]; exact gv
theorem lv1 (b : Nat) (R0 : HP) (hR0 : Rd R0 ⟨0, 0, none⟩ lensC) : AC Tryz.prog 15 ⟨[I 1, I 11, .slice (some ⟨b, 0, none⟩) 3 3]⟩ (stars [pt b (blk (fewMs.flatMap Mv.c) 47), R0]) (Outs (fun _ : Option Addr × Nat × Option Addr × Nat × Option Addr × Nat => True) (fun x => RunV (.ok (sk1, cs1)) x) (fun x => [own 64 4 x.1 sk1.layers.length x.2.1 (sk1.layers.flatMap Ly.c), own 66 7 x.2.2.1 sk1.past.length x.2.2.2.1 (sk1.past.flatMap Pa.c), own 43 4 x.2.2.2.2.1 (cs1).length x.2.2.2.2.2 ((cs1).flatMap Co.c), pt b (blk (fewMs.flatMap Mv.c) 47), R0])) := by
  have h := ac15 1 11 (pt b (blk (fewMs.flatMap Mv.c) 47)) (some ⟨b, 0, none⟩) 3 fewMs (Rd.rds Rd.whole) (by decide) fewOk R0 hR0
  rw [run1] at h; exact h
theorem lv2 (b : Nat) (R0 : HP) (hR0 : Rd R0 ⟨0, 0, none⟩ lensC) : AC Tryz.prog 15 ⟨[I 2, I 11, .slice (some ⟨b, 0, none⟩) 3 3]⟩ (stars [pt b (blk (fewMs.flatMap Mv.c) 47), R0]) (Outs (fun _ : Option Addr × Nat × Option Addr × Nat × Option Addr × Nat => True) (fun x => RunV (.ok (sk2, cs2)) x) (fun x => [own 64 4 x.1 sk2.layers.length x.2.1 (sk2.layers.flatMap Ly.c), own 66 7 x.2.2.1 sk2.past.length x.2.2.2.1 (sk2.past.flatMap Pa.c), own 43 4 x.2.2.2.2.1 (cs2).length x.2.2.2.2.2 ((cs2).flatMap Co.c), pt b (blk (fewMs.flatMap Mv.c) 47), R0])) := by
  have h := ac15 2 11 (pt b (blk (fewMs.flatMap Mv.c) 47)) (some ⟨b, 0, none⟩) 3 fewMs (Rd.rds Rd.whole) (by decide) fewOk R0 hR0
  rw [run2] at h; exact h
theorem lv3 (b : Nat) (R0 : HP) (hR0 : Rd R0 ⟨0, 0, none⟩ lensC) : AC Tryz.prog 15 ⟨[I 3, I 11, .slice (some ⟨b, 0, none⟩) 3 3]⟩ (stars [pt b (blk (fewMs.flatMap Mv.c) 47), R0]) (Outs (fun _ : Option Addr × Nat × Option Addr × Nat × Option Addr × Nat => True) (fun x => RunV (.ok (sk3, cs3)) x) (fun x => [own 64 4 x.1 sk3.layers.length x.2.1 (sk3.layers.flatMap Ly.c), own 66 7 x.2.2.1 sk3.past.length x.2.2.2.1 (sk3.past.flatMap Pa.c), own 43 4 x.2.2.2.2.1 (cs3).length x.2.2.2.2.2 ((cs3).flatMap Co.c), pt b (blk (fewMs.flatMap Mv.c) 47), R0])) := by
  have h := ac15 3 11 (pt b (blk (fewMs.flatMap Mv.c) 47)) (some ⟨b, 0, none⟩) 3 fewMs (Rd.rds Rd.whole) (by decide) fewOk R0 hR0
  rw [run3] at h; exact h
theorem lv4 (b : Nat) (R0 : HP) (hR0 : Rd R0 ⟨0, 0, none⟩ lensC) : AC Tryz.prog 15 ⟨[I 4, I 11, .slice (some ⟨b, 0, none⟩) 3 3]⟩ (stars [pt b (blk (fewMs.flatMap Mv.c) 47), R0]) (Outs (fun _ : Option Addr × Nat × Option Addr × Nat × Option Addr × Nat => True) (fun x => RunV (.error (0, 22)) x) (fun x => [pt b (blk (fewMs.flatMap Mv.c) 47), R0])) := by
  have h := ac15 4 11 (pt b (blk (fewMs.flatMap Mv.c) 47)) (some ⟨b, 0, none⟩) 3 fewMs (Rd.rds Rd.whole) (by decide) fewOk R0 hR0
  rw [run4] at h; exact h
theorem lv5 (b : Nat) (R0 : HP) (hR0 : Rd R0 ⟨0, 0, none⟩ lensC) : AC Tryz.prog 15 ⟨[I 5, I (-1), .slice (some ⟨b, 0, none⟩) 3 3]⟩ (stars [pt b (blk (fewMs.flatMap Mv.c) 47), R0]) (Outs (fun _ : Option Addr × Nat × Option Addr × Nat × Option Addr × Nat => True) (fun x => RunV (.error (-1, 10)) x) (fun x => [pt b (blk (fewMs.flatMap Mv.c) 47), R0])) := by
  have h := ac15 5 (-1) (pt b (blk (fewMs.flatMap Mv.c) 47)) (some ⟨b, 0, none⟩) 3 fewMs (Rd.rds Rd.whole) (by decide) fewOk R0 hR0
  rw [run5] at h; exact h
-- accountinglaw38.lives
theorem ac12 (R0 : HP) (hR0 : Rd R0 ⟨0, 0, none⟩ lensC) : AC Tryz.prog 12 ⟨[]⟩ (stars [R0]) (Ret (Bo true) [R0]) := by
  refine AC.go Tryz.func12 rfl (Nat.le_of_ble_eq_true rfl) fun β => ?_
  refine sr ?_
  refine asg rfl rfl ?_
  refine kp [] rfl ?_
  refine sr ?_
  refine RunL.callX C25 rfl rfl rfl ac25 .nil fun b _ => ?_
  refine RunL.callX C15 rfl rfl rfl (lv1 b R0 hR0) tks fun ⟨l1, lc1, p1, pc1, ca1, cc1⟩ _ => ?_
  refine mvo rfl rfl ?_
  refine RunL.op rfl rfl (OpJ.extract rfl rfl ?_)
  refine RunL.op rfl rfl (OpJ.extract rfl rfl ?_)
  refine RunL.op rfl rfl (OpJ.extract rfl rfl ?_)
  refine RunL.op rfl rfl (OpJ.extract rfl rfl ?_)
  refine RunL.op rfl rfl (OpJ.alloc Z28 fun b1 => ?_)
  refine RunL.op rfl rfl (OpJ.storeW T28 rfl rfl rfl rfl (by simp [Value.oneCell', Pa.c, Ly.c, Mv.c, Co.c]) up ?_)
  refine asg rfl rfl ?_
  refine asg rfl rfl ?_
  refine asg rfl rfl ?_
  refine kp [1, 2, 3, 4] rfl ?_
  refine sr ?_
  refine RunL.callX C25 rfl rfl rfl ac25 .nil fun b _ => ?_
  refine RunL.callX C15 rfl rfl rfl (lv2 b R0 hR0) tks fun ⟨l2, lc2, p2, pc2, ca2, cc2⟩ _ => ?_
  refine mvo rfl rfl ?_
  refine RunL.op rfl rfl (OpJ.extract rfl rfl ?_)
  refine RunL.op rfl rfl (OpJ.extract rfl rfl ?_)
  refine RunL.op rfl rfl (OpJ.extract rfl rfl ?_)
  refine RunL.op rfl rfl (OpJ.extract rfl rfl ?_)
  refine RunL.op rfl rfl (OpJ.alloc Z28 fun b5 => ?_)
  refine RunL.op rfl rfl (OpJ.storeW T28 rfl rfl rfl rfl (by simp [Value.oneCell', Pa.c, Ly.c, Mv.c, Co.c]) up ?_)
  refine asg rfl rfl ?_
  refine asg rfl rfl ?_
  refine asg rfl rfl ?_
  refine kp [1, 2, 3, 4, 5, 6, 8] rfl ?_
  refine sr ?_
  refine RunL.callX C25 rfl rfl rfl ac25 .nil fun b _ => ?_
  refine RunL.callX C15 rfl rfl rfl (lv3 b R0 hR0) tks fun ⟨l3, lc3, p3, pc3, ca3, cc3⟩ _ => ?_
  refine mvo rfl rfl ?_
  refine RunL.op rfl rfl (OpJ.extract rfl rfl ?_)
  refine RunL.op rfl rfl (OpJ.extract rfl rfl ?_)
  refine RunL.op rfl rfl (OpJ.extract rfl rfl ?_)
  refine RunL.op rfl rfl (OpJ.extract rfl rfl ?_)
  refine RunL.op rfl rfl (OpJ.alloc Z28 fun b9 => ?_)
  refine RunL.op rfl rfl (OpJ.storeW T28 rfl rfl rfl rfl (by simp [Value.oneCell', Pa.c, Ly.c, Mv.c, Co.c]) up ?_)
  refine asg rfl rfl ?_
  refine asg rfl rfl ?_
  refine asg rfl rfl ?_
  refine kp [1, 2, 3, 4, 5, 6, 8, 9, 10, 12] rfl ?_
  refine sr ?_
  refine RunL.callX C25 rfl rfl rfl ac25 .nil fun b _ => ?_
  refine RunL.callX C15 rfl rfl rfl (lv4 b R0 hR0) tks fun ⟨l4, lc4, p4, pc4, ca4, cc4⟩ _ => ?_
  refine mvo rfl rfl ?_
  refine RunL.op rfl rfl (OpJ.extract rfl rfl ?_)
  refine RunL.op rfl rfl (OpJ.extract rfl rfl ?_)
  refine RunL.op rfl rfl (OpJ.extract rfl rfl ?_)
  refine RunL.op rfl rfl (OpJ.extract rfl rfl ?_)
  refine RunL.op rfl rfl (OpJ.alloc Z28 fun b13 => ?_)
  refine RunL.op rfl rfl (OpJ.storeW T28 rfl rfl rfl rfl (by simp [Value.oneCell', Pa.c, Ly.c, Mv.c, Co.c]) up ?_)
  refine asg rfl rfl ?_
  refine asg rfl rfl ?_
  refine asg rfl rfl ?_
  refine kp [1, 2, 3, 4, 5, 6, 8, 9, 10, 12, 14, 15, 16] rfl ?_
  refine sr ?_
  refine RunL.callX C25 rfl rfl rfl ac25 .nil fun b _ => ?_
  refine RunL.callX C15 rfl rfl rfl (lv5 b R0 hR0) tks fun ⟨l5, lc5, p5, pc5, ca5, cc5⟩ _ => ?_
  refine mvo rfl rfl ?_
  refine RunL.op rfl rfl (OpJ.extract rfl rfl ?_)
  refine RunL.op rfl rfl (OpJ.extract rfl rfl ?_)
  refine RunL.op rfl rfl (OpJ.extract rfl rfl ?_)
  refine RunL.op rfl rfl (OpJ.extract rfl rfl ?_)
  refine RunL.op rfl rfl (OpJ.alloc Z28 fun b17 => ?_)
  refine RunL.op rfl rfl (OpJ.storeW T28 rfl rfl rfl rfl (by simp [Value.oneCell', Pa.c, Ly.c, Mv.c, Co.c]) up ?_)
  refine asg rfl rfl ?_
  refine asg rfl rfl ?_
  refine asg rfl rfl ?_
  refine kp [1, 2, 3, 4, 5, 6, 8, 9, 10, 12, 14, 15, 16, 19, 20] rfl ?_
  refine sr ?_
  refine RunL.call C13 rfl rfl rfl (ac13 3 11) .nil ?_
  refine mvo rfl rfl ?_
  refine RunL.op rfl rfl (OpJ.extract rfl rfl ?_)
  refine RunL.op rfl rfl (OpJ.extract rfl rfl ?_)
  refine RunL.op rfl rfl (OpJ.alloc Z28 fun b21 => ?_)
  refine RunL.op rfl rfl (OpJ.storeW T28 rfl rfl rfl rfl (by simp [Value.oneCell', Pa.c, Ly.c, Mv.c, Co.c]) up ?_)
  refine asg rfl rfl ?_
  refine kp [1, 2, 3, 4, 5, 6, 8, 9, 10, 12, 14, 15, 16, 19, 20, 21, 22] rfl ?_
  refine Run.seq ?_
  refine sr ?_
  refine mvo rfl rfl ?_
  refine RunL.op rfl rfl (OpJ.neq rfl rfl ?_)
  refine mvo rfl rfl ?_
  refine RunL.yes rfl rfl rfl rfl (OpJ.move rfl ?_)
  refine RunL.yes rfl rfl rfl rfl (OpJ.neq rfl rfl ?_)
  refine RunL.op rfl rfl (OpJ.pickF rfl rfl ?_)
  refine mvo rfl rfl ?_
  refine RunL.yes rfl rfl rfl rfl (OpJ.move rfl ?_)
  refine RunL.yes rfl rfl rfl rfl (OpJ.neq rfl rfl ?_)
  refine RunL.op rfl rfl (OpJ.pickF rfl rfl ?_)
  refine mvo rfl rfl ?_
  refine RunL.yes rfl rfl rfl rfl (OpJ.move rfl ?_)
  refine RunL.yes rfl rfl rfl rfl (OpJ.neq rfl rfl ?_)
  refine RunL.op rfl rfl (OpJ.pickF rfl rfl ?_)
  refine mvo rfl rfl ?_
  refine RunL.yes rfl rfl rfl rfl (OpJ.move rfl ?_)
  refine RunL.yes rfl rfl rfl rfl (OpJ.len S34 rfl ?_)
  refine RunL.yes rfl rfl rfl rfl (OpJ.neq rfl rfl ?_)
  refine RunL.op rfl rfl (OpJ.pickF rfl rfl ?_)
  refine mvo rfl rfl ?_
  refine RunL.yes rfl rfl rfl rfl (OpJ.move rfl ?_)
  refine RunL.yes rfl rfl rfl rfl (OpJ.len S34 rfl ?_)
  refine RunL.yes rfl rfl rfl rfl (OpJ.neq rfl rfl ?_)
  refine RunL.op rfl rfl (OpJ.pickF rfl rfl ?_)
  refine mvo rfl rfl ?_
  refine RunL.yes rfl rfl rfl rfl (OpJ.move rfl ?_)
  refine RunL.yes rfl rfl rfl rfl (OpJ.len S34 rfl ?_)
  refine RunL.yes rfl rfl rfl rfl (OpJ.neq rfl rfl ?_)
  refine RunL.op rfl rfl (OpJ.pickF rfl rfl ?_)
  refine mvo rfl rfl ?_
  refine RunL.yes rfl rfl rfl rfl (OpJ.move rfl ?_)
  refine RunL.yes rfl rfl rfl rfl (OpJ.len S34 rfl ?_)
  refine RunL.yes rfl rfl rfl rfl (OpJ.neq rfl rfl ?_)
  refine RunL.op rfl rfl (OpJ.pickF rfl rfl ?_)
  refine mvo rfl rfl ?_
  refine RunL.yes rfl rfl rfl rfl (OpJ.move rfl ?_)
  refine RunL.yes rfl rfl rfl rfl (OpJ.neq rfl rfl ?_)
  refine RunL.op rfl rfl (OpJ.pickF rfl rfl ?_)
  refine mvo rfl rfl ?_
  refine RunL.yes rfl rfl rfl rfl (OpJ.move rfl ?_)
  refine RunL.yes rfl rfl rfl rfl (OpJ.neq rfl rfl ?_)
  refine RunL.op rfl rfl (OpJ.pickF rfl rfl ?_)
  refine mvo rfl rfl ?_
  refine RunL.yes rfl rfl rfl rfl (OpJ.move rfl ?_)
  refine RunL.yes rfl rfl rfl rfl (OpJ.neq rfl rfl ?_)
  refine RunL.op rfl rfl (OpJ.pickF rfl rfl ?_)
  refine mvo rfl rfl ?_
  refine RunL.yes rfl rfl rfl rfl (OpJ.move rfl ?_)
  refine RunL.yes rfl rfl rfl rfl (OpJ.neq rfl rfl ?_)
  refine RunL.op rfl rfl (OpJ.pickF rfl rfl ?_)
  refine mvo rfl rfl ?_
  refine RunL.yes rfl rfl rfl rfl (OpJ.move rfl ?_)
  refine RunL.yes rfl rfl rfl rfl (OpJ.neq rfl rfl ?_)
  refine RunL.op rfl rfl (OpJ.pickF rfl rfl ?_)
  refine kp [1, 2, 5, 6, 9, 10, 21, 115] rfl ?_
  refine Run.false rfl ?_
  refine Run.skip ?_
  refine sr ?_
  refine RunL.ownAddr (cs := cs1.flatMap Co.c) pk (flat_ne (k := 4) (fun _ => rfl) (by decide) (show cs1[2]? = some ⟨3, -5, -50, 0⟩ from rfl)) fun bb1 e hcap1 => ?_
  subst e
  refine RunL.ownAddr (cs := cs2.flatMap Co.c) pk (flat_ne (k := 4) (fun _ => rfl) (by decide) (show cs2[2]? = some ⟨3, -5, -60, 0⟩ from rfl)) fun bb2 e hcap2 => ?_
  subst e
  refine RunL.ownAddr (cs := cs3.flatMap Co.c) pk (flat_ne (k := 4) (fun _ => rfl) (by decide) (show cs3[2]? = some ⟨3, -5, -55, 0⟩ from rfl)) fun bb3 e hcap3 => ?_
  subst e
  refine mvo rfl rfl ?_
  refine RunL.op rfl rfl (OpJ.indexAddr S34 rfl rfl (by decide) ?_)
  refine RunL.op rfl rfl (OpJ.fieldAddr F43_2 rfl ?_)
  refine RunL.op rfl rfl (OpJ.loadO (i := 2) (xs := cs1) (enc := Co.c) (u := ⟨3, -5, -50, 0⟩) T3 rfl pk rfl (by rfl) (by exact fun _ => rfl) ?_)
  refine RunL.op rfl rfl (OpJ.eql rfl rfl ?_)
  refine mvo rfl rfl ?_
  refine RunL.yes rfl rfl rfl rfl (OpJ.fieldAddr F28_1 rfl ?_)
  first | refine RunL.yes rfl rfl rfl rfl (OpJ.loadF T3 rfl pk (by rfl) ?_) | refine RunL.yes rfl rfl rfl rfl (OpJ.loadO T3 rfl pk (by assumption) (by rfl) (by exact fun _ => rfl) ?_)
  refine RunL.yes rfl rfl rfl rfl (OpJ.eql rfl rfl ?_)
  refine RunL.op rfl rfl (OpJ.pickT rfl rfl ?_)
  refine mvo rfl rfl ?_
  refine RunL.yes rfl rfl rfl rfl (OpJ.move rfl ?_)
  refine RunL.yes rfl rfl rfl rfl (OpJ.indexAddr S34 rfl rfl (by decide) ?_)
  refine RunL.yes rfl rfl rfl rfl (OpJ.fieldAddr F43_2 rfl ?_)
  refine RunL.yes rfl rfl rfl rfl (OpJ.loadO (i := 2) (xs := cs2) (enc := Co.c) (u := ⟨3, -5, -60, 0⟩) T3 rfl pk rfl (by rfl) (by exact fun _ => rfl) ?_)
  refine RunL.yes rfl rfl rfl rfl (OpJ.eql rfl rfl ?_)
  refine RunL.op rfl rfl (OpJ.pickT rfl rfl ?_)
  refine mvo rfl rfl ?_
  refine RunL.yes rfl rfl rfl rfl (OpJ.fieldAddr F28_1 rfl ?_)
  first | refine RunL.yes rfl rfl rfl rfl (OpJ.loadF T3 rfl pk (by rfl) ?_) | refine RunL.yes rfl rfl rfl rfl (OpJ.loadO T3 rfl pk (by assumption) (by rfl) (by exact fun _ => rfl) ?_)
  refine RunL.yes rfl rfl rfl rfl (OpJ.eql rfl rfl ?_)
  refine RunL.op rfl rfl (OpJ.pickT rfl rfl ?_)
  refine mvo rfl rfl ?_
  refine RunL.yes rfl rfl rfl rfl (OpJ.move rfl ?_)
  refine RunL.yes rfl rfl rfl rfl (OpJ.indexAddr S34 rfl rfl (by decide) ?_)
  refine RunL.yes rfl rfl rfl rfl (OpJ.fieldAddr F43_3 rfl ?_)
  refine RunL.yes rfl rfl rfl rfl (OpJ.loadO (i := 0) (xs := cs3) (enc := Co.c) (u := ⟨1, 10, 110, -10⟩) T3 rfl pk rfl (by rfl) (by exact fun _ => rfl) ?_)
  refine RunL.yes rfl rfl rfl rfl (OpJ.eql rfl rfl ?_)
  refine RunL.op rfl rfl (OpJ.pickT rfl rfl ?_)
  refine mvo rfl rfl ?_
  refine RunL.yes rfl rfl rfl rfl (OpJ.move rfl ?_)
  refine RunL.yes rfl rfl rfl rfl (OpJ.indexAddr S34 rfl rfl (by decide) ?_)
  refine RunL.yes rfl rfl rfl rfl (OpJ.fieldAddr F43_3 rfl ?_)
  refine RunL.yes rfl rfl rfl rfl (OpJ.loadO (i := 1) (xs := cs3) (enc := Co.c) (u := ⟨2, 10, 110, 30⟩) T3 rfl pk rfl (by rfl) (by exact fun _ => rfl) ?_)
  refine RunL.yes rfl rfl rfl rfl (OpJ.eql rfl rfl ?_)
  refine RunL.op rfl rfl (OpJ.pickT rfl rfl ?_)
  refine mvo rfl rfl ?_
  refine RunL.yes rfl rfl rfl rfl (OpJ.move rfl ?_)
  refine RunL.yes rfl rfl rfl rfl (OpJ.indexAddr S34 rfl rfl (by decide) ?_)
  refine RunL.yes rfl rfl rfl rfl (OpJ.fieldAddr F43_2 rfl ?_)
  refine RunL.yes rfl rfl rfl rfl (OpJ.loadO (i := 2) (xs := cs3) (enc := Co.c) (u := ⟨3, -5, -55, 0⟩) T3 rfl pk rfl (by rfl) (by exact fun _ => rfl) ?_)
  refine RunL.yes rfl rfl rfl rfl (OpJ.eql rfl rfl ?_)
  refine RunL.op rfl rfl (OpJ.pickT rfl rfl ?_)
  refine mvo rfl rfl ?_
  refine RunL.yes rfl rfl rfl rfl (OpJ.fieldAddr F28_1 rfl ?_)
  first | refine RunL.yes rfl rfl rfl rfl (OpJ.loadF T3 rfl pk (by rfl) ?_) | refine RunL.yes rfl rfl rfl rfl (OpJ.loadO T3 rfl pk (by assumption) (by rfl) (by exact fun _ => rfl) ?_)
  refine RunL.yes rfl rfl rfl rfl (OpJ.eql rfl rfl ?_)
  refine RunL.op rfl rfl (OpJ.pickT rfl rfl ?_)
  refine mvo rfl rfl ?_
  refine RunL.yes rfl rfl rfl rfl (OpJ.fieldAddr F28_2 rfl ?_)
  first | refine RunL.yes rfl rfl rfl rfl (OpJ.loadF T3 rfl pk (by rfl) ?_) | refine RunL.yes rfl rfl rfl rfl (OpJ.loadO T3 rfl pk (by assumption) (by rfl) (by exact fun _ => rfl) ?_)
  refine RunL.yes rfl rfl rfl rfl (OpJ.eql rfl rfl ?_)
  refine RunL.op rfl rfl (OpJ.pickT rfl rfl ?_)
  refine asg rfl rfl ?_
  refine kp [0] rfl ?_
  refine Run.ret ?_
  exact ret_one (.tmp rfl .nil) (rfl) gv
end Go.Proofs.YtdcchollplhioaaGreatDoor

namespace Go.SL
open Go
structure SG (s : Sk) : Prop where
  q0 : 0 ≤ s.qty
  q1 : s.qty ≤ 1000000000
  v0 : -1000000000000000 ≤ s.value
  v1 : s.value ≤ 1000000000000000
  ps : PGs s.past
structure PF (s t : Sk) (m : Mv) (c : Co) : Prop where
  cq : c.qty = if m.kind = 1 ∨ m.kind = 3 then m.qty else if m.kind = 2 ∨ m.kind = 4 then -m.qty else 0
  e15 : m.kind = 1 ∨ m.kind = 5 → c.value + c.var = m.cost
  e4 : m.kind = 4 → c.value + c.var = -m.cost
  e6 : m.kind = 6 → c.value + c.var = 0
  e2 : m.kind = 2 → c.var = 0 ∧ c.value ≤ 0 ∧ -2000000000000000 ≤ c.value
  p1 : m.kind = 1 → t.past = s.past ++ [⟨m.seq, m.kind, m.lot, m.qty, m.cost, 0, 0⟩]
  p2 : m.kind = 2 → t.past = s.past ++ [⟨m.seq, m.kind, m.lot, m.qty, -c.value, 0, 0⟩]
  p3 : m.kind = 3 → ∃ i p, s.past[i]? = some p ∧ p.kind = 2 ∧ p.seq = m.ref ∧ t.past = s.past.set i (backP p m) ∧ c.value + c.var = backV p m ∧ m.qty ≤ W (p.qty - p.used)
  p4 : m.kind = 4 → ∃ i p, s.past[i]? = some p ∧ p.kind = 1 ∧ p.seq = m.ref ∧ t.past = s.past.set i (sendP p m) ∧ m.qty ≤ W (p.qty - p.used)
  p5 : m.kind = 5 ∨ m.kind = 6 → t.past = s.past
structure SF (s t : Sk) (m : Mv) (c : Co) : Prop where
  mg : MG m
  new : seqNew m.seq s.past
  seq : c.seq = m.seq
  tq : t.qty = s.qty + c.qty
  tv : t.value = s.value + c.value
  r0 : -1000000000000000 ≤ c.var
  r1 : c.var ≤ 1000000000000000
  pf : PF s t m c
theorem refd_one {k : Int} {m : Mv} {ps : List Pa} {i : Nat} {p : Pa} (hk : k ≠ 0) (h : refd k m ps = .ok (i, p)) : ps[i]? = some p ∧ p.kind = k ∧ p.seq = m.ref ∧ m.qty ≤ W (p.qty - p.used) := by
  obtain ⟨h1, h2, h3⟩ := refd_spec h
  have := isPast_iff.1 h2
  exact ⟨h1, by rcases this.2 with h | h; exact absurd h hk; exact h, this.1, h3⟩
/-- What the past becomes is good again. -/
theorem PF.past {s t : Sk} {m : Mv} {c : Co} (h : PF s t m c) (hm : MG m) (hn : seqNew m.seq s.past) (hs : PGs s.past) : PGs t.past := by
  have hk := hm.k; have hc := hm.c
  rcases (show m.kind = 1 ∨ m.kind = 2 ∨ m.kind = 3 ∨ m.kind = 4 ∨ (m.kind = 5 ∨ m.kind = 6) by omega) with hk | hk | hk | hk | hk
  · rw [h.p1 hk]
    have := hm.q.2 (.inl hk)
    exact hs.add ⟨.inl hk, this.1, this.2, Int.le_refl _, by simp only; omega, by simp only; omega, by simp only; omega, Int.le_refl _, by simp only; omega, fun _ h2 => by simp only at h2; omega⟩ hn
  · rw [h.p2 hk]
    have := hm.q.2 (.inr (.inl hk))
    have h2 := h.e2 hk
    exact hs.add ⟨.inr hk, this.1, this.2, Int.le_refl _, by simp only; omega, by simp only; omega, by simp only; omega, Int.le_refl _, by simp only; omega, fun h2 _ => by simp only at h2; omega⟩ hn
  · obtain ⟨i, p, hx, hpk, hps, ht, _, hw⟩ := h.p3 hk
    have hq := hm.q.2 (.inr (.inr (.inl hk)))
    have hp := hs.all p (List.mem_of_getElem? hx)
    rw [ht]
    exact hs.set hx (back_good hp hq.1 hw).1 rfl
  · obtain ⟨i, p, hx, hpk, hps, ht, hw⟩ := h.p4 hk
    have hq := hm.q.2 (.inr (.inr (.inr hk)))
    have hp := hs.all p (List.mem_of_getElem? hx)
    rw [ht]
    exact hs.set hx (send_good hp hpk hq.1 hw) rfl
  · rw [h.p5 hk]; exact hs
/-- The layers bear the stock. -/
structure LI (ls : List Ly) (q v : Int) : Prop where
  g : LGs ls
  q : sumBy Ly.qty ls = q
  v : sumBy Ly.value ls = v
theorem overB_no {t : Sk} {c : Co} (h : ¬ overB t c = true) : (∀ l ∈ t.layers, -1000000000000000 ≤ l.value ∧ l.value ≤ 1000000000000000) ∧ t.qty ≤ 1000000000 ∧ (-1000000000000000 ≤ t.value ∧ t.value ≤ 1000000000000000) ∧ (-1000000000000000 ≤ c.var ∧ c.var ≤ 1000000000000000) := by
  unfold overB at h
  simp only [Bool.or_eq_true, not_or, List.any_eq_true, not_exists, not_and] at h
  obtain ⟨h1, ⟨h2, h3⟩, h4⟩ := h
  exact ⟨fun l hl => farB_no (h1 l hl), by have := of_decide_eq_false (Bool.eq_false_iff.2 h2); omega, farB_no h3, farB_no h4⟩

theorem wq {a b : Int} (h1 : -10000000000000000 ≤ a ∧ a ≤ 10000000000000000) (h2 : -10000000000000000 ≤ b ∧ b ≤ 10000000000000000) : W (a + b) = a + b := W_in ⟨by omega, by omega⟩
theorem wn {a b : Int} (h1 : -10000000000000000 ≤ a ∧ a ≤ 10000000000000000) (h2 : -10000000000000000 ≤ b ∧ b ≤ 10000000000000000) : W (a - b) = a - b := W_in ⟨by omega, by omega⟩
/-- first in, first out -/
theorem fDo_f {s t : Sk} {m : Mv} {c : Co} (hs : SG s) (hl : LI s.layers s.qty s.value) (hm : MG m) (h : fDo s m ⟨m.seq, 0, 0, 0⟩ = .ok (t, c)) (ho : ¬ overB (summed t c) c = true) :
    PF s t m c ∧ t.qty = s.qty ∧ t.value = s.value ∧ c.seq = m.seq ∧ LI t.layers (s.qty + c.qty) (s.value + c.value) ∧ -2000000000000000 ≤ c.value ∧ c.value ≤ 2000000000000000 := by
  obtain ⟨q0, q1, v0, v1, ps⟩ := hs
  obtain ⟨lg, lq, lv⟩ := hl
  have mk := hm.k; have mq := hm.q; have mc := hm.c
  obtain ⟨ho1, ho2, ho3, ho4⟩ := overB_no ho
  unfold fDo at h
  split at h
  · rename_i hk
    have hq := mq.2 (.inl hk)
    unfold fRecv at h; cases h
    refine ⟨⟨?_, ?_, ?_, ?_, ?_, fun _ => rfl, ?_, ?_, ?_, ?_⟩, rfl, rfl, rfl, ⟨?_, ?_, ?_⟩, ?_, ?_⟩ <;> (try simp only) <;> (try omega)
    · intro x hx
      rcases List.mem_append.1 hx with hx | hx
      · exact lg x hx
      · rw [List.mem_singleton.1 hx]; exact ⟨hq.1, mc.1⟩
    · rw [sumBy_append]; simp only [sumBy]; omega
    · rw [sumBy_append]; simp only [sumBy]; omega
  split at h
  · rename_i hk1 hk
    have hq := mq.2 (.inr (.inl hk))
    unfold fIssue at h
    split at h
    · cases h
    · rename_i hlt
      cases h
      have hi := issueL_good s.layers m.qty 0 lg (by omega) (by omega) (by omega) (by decide) (by omega)
      have hnn := sumBy_nonneg hi.1.v
      have hw : W (0 - m.qty) = -m.qty := by rw [wn ⟨by decide, by decide⟩ ⟨by omega, by omega⟩]; omega
      have hw2 : W (0 - (issueL s.layers m.qty 0).2) = -(issueL s.layers m.qty 0).2 := by rw [wn ⟨by decide, by decide⟩ ⟨by omega, by omega⟩]; omega
      rw [hw, hw2]
      refine ⟨⟨?_, ?_, ?_, ?_, ?_, ?_, fun _ => ?_, ?_, ?_, ?_⟩, rfl, rfl, rfl, ⟨hi.1, ?_, ?_⟩, ?_, ?_⟩ <;> (try simp only) <;> (try omega)
      · exact fun _ => ⟨trivial, by omega, by omega⟩
      · rw [Int.neg_neg]
  split at h
  · rename_i hk1 hk2 hk
    have hq := mq.2 (.inr (.inr (.inl hk)))
    unfold fBack at h
    split at h
    · cases h
    · rename_i i p hr
      cases h
      have hr' := refd_one (by decide) hr
      have hp := ps.all p (List.mem_of_getElem? hr'.1)
      have hb := back_good hp hq.1 hr'.2.2.2
      have hpv := hp.v1; have hpw := hp.w0
      refine ⟨⟨?_, ?_, ?_, ?_, ?_, ?_, ?_, fun _ => ⟨i, p, hr'.1, hr'.2.1, hr'.2.2.1, rfl, ?_, hr'.2.2.2⟩, ?_, ?_⟩, rfl, rfl, rfl, ⟨?_, ?_, ?_⟩, ?_, ?_⟩ <;> (try simp only) <;> (try omega)
      · intro x hx
        rcases List.mem_append.1 hx with hx | hx
        · exact lg x hx
        · rw [List.mem_singleton.1 hx]; exact ⟨hq.1, hb.2.2.2.1⟩
      · rw [sumBy_append]; simp only [sumBy]; omega
      · rw [sumBy_append]; simp only [sumBy]; omega
  split at h
  · rename_i hk1 hk2 hk3 hk
    have hq := mq.2 (.inr (.inr (.inr hk)))
    unfold fSend at h
    split at h
    · cases h
    · rename_i i p hr
      split at h
      · cases h
      · rename_i j l hf
        split at h
        · cases h
        · rename_i hlt
          cases h
          have hr' := refd_one (by decide) hr
          have hp := ps.all p (List.mem_of_getElem? hr'.1)
          have ht := takeL_good lg (findI_some hf).1 hq.1 (by omega) (by omega) (by omega)
          have hw : W (0 - m.qty) = -m.qty := by rw [wn ⟨by decide, by decide⟩ ⟨by omega, by omega⟩]; omega
          have hw2 : W (0 - takeV l m.qty) = -takeV l m.qty := by rw [wn ⟨by decide, by decide⟩ ⟨by omega, by omega⟩]; omega
          have hw3 : W (takeV l m.qty - m.cost) = takeV l m.qty - m.cost := wn ⟨by omega, by omega⟩ ⟨by omega, by omega⟩
          rw [hw, hw2, hw3]
          refine ⟨⟨?_, ?_, ?_, ?_, ?_, ?_, ?_, ?_, fun _ => ⟨i, p, hr'.1, hr'.2.1, hr'.2.2.1, rfl, hr'.2.2.2⟩, ?_⟩, rfl, rfl, rfl, ⟨ht.1, ?_, ?_⟩, ?_, ?_⟩ <;> (try simp only) <;> (try omega)
  split at h
  · rename_i hk1 hk2 hk3 hk4 hk
    have hq := mq.1 (.inl hk)
    unfold fLand at h
    split at h
    · cases h
    · rename_i i p hr
      have hr' := refd_one (by decide) hr
      have hp := ps.all p (List.mem_of_getElem? hr'.1)
      split at h
      · cases h
        have hw : W (m.cost - 0) = m.cost := by rw [Int.sub_zero]; exact W_in ⟨by omega, by omega⟩
        rw [hw]
        refine ⟨⟨?_, ?_, ?_, ?_, ?_, ?_, ?_, ?_, ?_, fun _ => rfl⟩, rfl, rfl, rfl, ⟨lg, ?_, ?_⟩, ?_, ?_⟩ <;> (try simp only) <;> (try omega)
      · rename_i j l hf
        cases h
        have hx := (findI_some hf).1
        have hlm := List.mem_of_getElem? hx
        have hlg := lg l hlm
        have h0 := partN_nonneg (v := m.cost) (q := l.qty) (n := p.qty) mc.1 (by have := hlg.1; omega) (by have := hp.q1; omega)
        have hi : i64 (partN m.cost l.qty p.qty) := partN_i64 ⟨by omega, by omega⟩ (by have := sumBy_le lg.q hx; have := hlg.1; constructor <;> omega)
        have hw : W (m.cost - partN m.cost l.qty p.qty) = m.cost - partN m.cost l.qty p.qty := W_in ⟨by omega, by omega⟩
        rw [hw] at ho4 ⊢; simp only at ho4
        have hlv := sumBy_le lg.v hx; have hl2 := hlg.2
        have hw2 : W (l.value + partN m.cost l.qty p.qty) = l.value + partN m.cost l.qty p.qty := wq ⟨by omega, by omega⟩ ⟨by omega, by omega⟩
        rw [hw2]
        refine ⟨⟨?_, ?_, ?_, ?_, ?_, ?_, ?_, ?_, ?_, fun _ => rfl⟩, rfl, rfl, rfl, ⟨?_, ?_, ?_⟩, ?_, ?_⟩ <;> (try simp only) <;> (try omega)
        · intro x hx'
          rcases mem_set hx' with rfl | hx'
          · exact ⟨hlg.1, by simp only; omega⟩
          · exact lg x hx'
        · rw [sumBy_set _ _ _ _ _ hx]; simp only; omega
        · rw [sumBy_set _ _ _ _ _ hx]; simp only; omega
  · cases h
theorem LI.nonneg {ls : List Ly} {q v : Int} (h : LI ls q v) : 0 ≤ q ∧ 0 ≤ v := ⟨h.q ▸ sumBy_nonneg h.g.q, h.v ▸ sumBy_nonneg h.g.v⟩
theorem PF.cqb {s t : Sk} {m : Mv} {c : Co} (h : PF s t m c) (hm : MG m) : -1000000000 ≤ c.qty ∧ c.qty ≤ 1000000000 := by
  have mk := hm.k; have mq := hm.q
  rw [h.cq]
  split
  · have := mq.2 (by omega); omega
  · split
    · have := mq.2 (by omega); omega
    · omega
theorem PF.reseq {s t : Sk} {m : Mv} {c : Co} (h : PF s t m c) (q v n : Int) : PF s { t with qty := q, value := v } m { c with seq := n } := ⟨h.cq, h.e15, h.e4, h.e6, h.e2, h.p1, h.p2, h.p3, h.p4, h.p5⟩
/-- What 'summed' makes of it. -/
theorem summed_f {s t : Sk} {m : Mv} {c : Co} (hs : SG s) (hm : MG m) (hn : seqNew m.seq s.past) (pf : PF s t m c) (tq : t.qty = s.qty) (tv : t.value = s.value) (c0 : -2000000000000000 ≤ c.value) (c1 : c.value ≤ 2000000000000000)
    (hq : 0 ≤ s.qty + c.qty) (ho : (summed t c).qty ≤ 1000000000 ∧ (-1000000000000000 ≤ (summed t c).value ∧ (summed t c).value ≤ 1000000000000000) ∧ (-1000000000000000 ≤ c.var ∧ c.var ≤ 1000000000000000)) (n : Int) (e : n = m.seq) :
    SF s (summed t c) m { c with seq := n } ∧ SG (summed t c) := by
  obtain ⟨q0, q1, v0, v1, ps⟩ := hs
  have hcq := pf.cqb hm
  have e1 : W (t.qty + c.qty) = s.qty + c.qty := by rw [tq]; exact wq ⟨by omega, by omega⟩ ⟨by omega, by omega⟩
  have e2 : W (t.value + c.value) = s.value + c.value := by rw [tv]; exact wq ⟨by omega, by omega⟩ ⟨by omega, by omega⟩
  have e3 : summed t c = { t with qty := s.qty + c.qty, value := s.value + c.value } := by unfold summed; rw [e1, e2]
  rw [e3] at ho ⊢
  simp only at ho
  refine ⟨⟨hm, hn, e, rfl, rfl, ho.2.2.1, ho.2.2.2, pf.reseq _ _ _⟩, ⟨hq, ho.1, ho.2.1.1, ho.2.1.2, ?_⟩⟩
  exact (pf.past hm hn ps)
theorem fStep_f {s t : Sk} {m : Mv} {c : Co} (hs : SG s) (hl : LI s.layers s.qty s.value) (h : fStep s m = .ok (t, c)) : SF s t m c ∧ SG t ∧ LI t.layers t.qty t.value := by
  unfold fStep at h
  split at h
  · cases h
  rename_i h1
  have hm := MG.of (Decidable.not_not.1 h1)
  split at h
  · cases h
  rename_i h2
  have hn := seqNew_of_none h2
  split at h
  · cases h
  rename_i t' c' hd
  split at h
  · cases h
  rename_i ho
  cases h
  have hf := fDo_f hs hl hm hd ho
  obtain ⟨pf, tq, tv, cs, li, c0, c1⟩ := hf
  have ho' := (overB_no ho).2
  have hsum := summed_f hs hm hn pf tq tv c0 c1 li.nonneg.1 ho' c.seq cs
  refine ⟨hsum.1, hsum.2, ?_⟩
  have e1 := hsum.1.tq; have e2 := hsum.1.tv
  simp only at e1 e2
  rw [e1, e2]
  exact li
end Go.SL

namespace Go.SL
open Go
def wsumFrom (f : Co → Int) (a : Int) (cs : List Co) : Int := cs.foldl (fun a c => W (a + f c)) a
def wsum (f : Co → Int) (cs : List Co) : Int := wsumFrom f 0 cs
theorem wsum_succ {f : Co → Int} {cs : List Co} {i : Nat} {c : Co} (hx : cs[i]? = some c) : wsum f (cs.take (i + 1)) = IntKind.i64.wrap (wsum f (cs.take i) + f c) := by
  unfold wsum wsumFrom
  rw [take_succ_get hx, List.foldl_append]; rfl
theorem largeMs_len {ms : List Mv} (h : largeMs ms = false) : ms.length ≤ 40 := by
  unfold largeMs at h
  rw [Bool.or_eq_false_iff] at h
  have := of_decide_eq_false h.1; omega
theorem sum_of {s t : Sk} {c : Co} (h : t = summed s c) : t.qty = W (s.qty + c.qty) ∧ t.value = W (s.value + c.value) := by subst h; exact ⟨rfl, rfl⟩
theorem fDo_qv {s t : Sk} {m : Mv} {c0 c : Co} (h : fDo s m c0 = .ok (t, c)) : t.qty = s.qty ∧ t.value = s.value := by
  unfold fDo fRecv fIssue fBack fSend fLand at h
  repeat' (first | cases h; exact ⟨rfl, rfl⟩ | split at h | cases h)
theorem aDo_qv {s t : Sk} {m : Mv} {c : Co} (h : aDo s m = .ok (t, c)) : t.qty = s.qty ∧ t.value = s.value := by
  unfold aDo aRecv aIssue aBack aSend aLand at h
  repeat' (first | cases h; exact ⟨rfl, rfl⟩ | split at h | cases h)
theorem lDo_qv {s t : Sk} {m : Mv} {c : Co} (h : lDo s m = .ok (t, c)) : t.qty = s.qty ∧ t.value = s.value := by
  unfold lDo lRecv lIssue lBack lSend lLand lRef lBackR lSendR lLandR at h
  repeat' (first | cases h; exact ⟨rfl, rfl⟩ | split at h | cases h)
theorem stepM_sum {k : Int} {s t : Sk} {m : Mv} {c : Co} (h : stepM k s m = .ok (t, c)) : t.qty = W (s.qty + c.qty) ∧ t.value = W (s.value + c.value) := by
  unfold stepM at h
  split at h
  · unfold fStep at h
    split at h
    · cases h
    split at h
    · cases h
    split at h
    · cases h
    rename_i hd
    split at h
    · cases h
    cases h
    have := fDo_qv hd
    unfold summed; simp only; rw [this.1, this.2]; exact ⟨rfl, rfl⟩
  split at h
  · unfold aStep at h
    split at h
    · cases h
    split at h
    · cases h
    split at h
    · cases h
    rename_i hd
    split at h
    · cases h
    cases h
    have := aDo_qv hd
    unfold summed; simp only; rw [this.1, this.2]; exact ⟨rfl, rfl⟩
  split at h
  · unfold sStep at h
    split at h
    · cases h
    split at h
    · cases h
    split at h
    · cases h
    rename_i hd
    split at h
    · cases h
    rename_i ho
    cases h
    refine ⟨rfl, ?_⟩
    show addN _ _ = _
    unfold sOver at ho
    simp only [Bool.or_eq_true, not_or, Bool.not_eq_true', Bool.not_eq_false] at ho
    have h1 := ho.1.1.1
    unfold addOk at h1
    have h2 := of_decide_eq_true h1
    unfold addN
    rw [if_pos h2]; exact (wrap_i64_in h2).symm
  split at h
  · unfold lStep at h
    split at h
    · cases h
    split at h
    · cases h
    split at h
    · cases h
    rename_i hd
    split at h
    · cases h
    cases h
    have := lDo_qv hd
    unfold summed; simp only; rw [this.1, this.2]; exact ⟨rfl, rfl⟩
  · cases h
theorem runL_sum {k : Int} : ∀ {ms : List Mv} {s t : Sk} {cs : List Co}, runL (stepM k) s ms = .ok (t, cs) → t.qty = wsumFrom Co.qty s.qty cs ∧ t.value = wsumFrom Co.value s.value cs
  | [], s, t, cs, h => by cases h; exact ⟨rfl, rfl⟩
  | m :: ms, s, t, cs, h => by
    unfold runL at h
    split at h
    · cases h
    rename_i hf
    split at h
    · cases h
    rename_i hr; cases h
    have h1 := stepM_sum hf
    have h2 := runL_sum hr
    unfold wsumFrom at h2 ⊢
    rw [List.foldl_cons, List.foldl_cons, ← h1.1, ← h1.2]; exact h2
theorem runM_sum {k p : Int} {ms : List Mv} {t : Sk} {cs : List Co} (h : runM k p ms = .ok (t, cs)) : t.qty = wsum Co.qty cs ∧ t.value = wsum Co.value cs := by
  have := runL_sum (runM_iff.1 h).2
  rw [start0_q, start0_v] at this; exact this
theorem runM_len {k p : Int} {ms : List Mv} {t : Sk} {cs : List Co} (h : runM k p ms = .ok (t, cs)) : cs.length = ms.length := runL_len (runM_iff.1 h).2
end Go.SL

namespace Go.SL
open Go
theorem neg_W {v : Int} (h : -9223372036854775807 ≤ v ∧ v ≤ 9223372036854775807) : W (0 - v) = -v := by rw [W_in ⟨by omega, by omega⟩]; omega
/-- moving average -/
theorem aDo_f {s t : Sk} {m : Mv} {c : Co} (hs : SG s) (hv : 0 ≤ s.value) (hm : MG m) (h : aDo s m = .ok (t, c)) :
    PF s t m c ∧ t.qty = s.qty ∧ t.value = s.value ∧ c.seq = m.seq ∧ 0 ≤ s.qty + c.qty ∧ 0 ≤ s.value + c.value ∧ -2000000000000000 ≤ c.value ∧ c.value ≤ 2000000000000000 := by
  obtain ⟨q0, q1, v0, v1, ps⟩ := hs
  have mk := hm.k; have mq := hm.q; have mc := hm.c
  unfold aDo at h
  split at h
  · rename_i hk
    have hq := mq.2 (.inl hk)
    unfold aRecv at h; cases h
    refine ⟨⟨?_, ?_, ?_, ?_, ?_, fun _ => rfl, ?_, ?_, ?_, ?_⟩, rfl, rfl, rfl, ?_, ?_, ?_, ?_⟩ <;> (try simp only) <;> (try omega)
  split at h
  · rename_i hk1 hk
    have hq := mq.2 (.inr (.inl hk))
    unfold aIssue at h
    split at h
    · cases h
    · rename_i hlt
      cases h
      have hp := partN_le (v := s.value) (q := m.qty) (n := s.qty) hv (by omega) (by omega) (by omega) (by omega) (by omega)
      have hw : W (0 - m.qty) = -m.qty := neg_W ⟨by omega, by omega⟩
      have hw2 : W (0 - avgV s m) = -avgV s m := neg_W (by unfold avgV; omega)
      have hav : 0 ≤ avgV s m ∧ avgV s m ≤ s.value := hp
      rw [hw, hw2]
      refine ⟨⟨?_, ?_, ?_, ?_, ?_, ?_, fun _ => ?_, ?_, ?_, ?_⟩, rfl, rfl, rfl, ?_, ?_, ?_, ?_⟩ <;> (try simp only) <;> (try omega)
      · exact fun _ => ⟨trivial, by omega, by omega⟩
      · rw [Int.neg_neg]
  split at h
  · rename_i hk1 hk2 hk
    have hq := mq.2 (.inr (.inr (.inl hk)))
    unfold aBack at h
    split at h
    · cases h
    · rename_i i p hr
      cases h
      have hr' := refd_one (by decide) hr
      have hp := ps.all p (List.mem_of_getElem? hr'.1)
      have hb := back_good hp hq.1 hr'.2.2.2
      have hpv := hp.v1; have hpw := hp.w0
      refine ⟨⟨?_, ?_, ?_, ?_, ?_, ?_, ?_, fun _ => ⟨i, p, hr'.1, hr'.2.1, hr'.2.2.1, rfl, ?_, hr'.2.2.2⟩, ?_, ?_⟩, rfl, rfl, rfl, ?_, ?_, ?_, ?_⟩ <;> (try simp only) <;> (try omega)
  split at h
  · rename_i hk1 hk2 hk3 hk
    have hq := mq.2 (.inr (.inr (.inr hk)))
    unfold aSend at h
    split at h
    · cases h
    · rename_i i p hr
      split at h
      · cases h
      · rename_i hlt
        cases h
        have hr' := refd_one (by decide) hr
        have hp := partN_le (v := s.value) (q := m.qty) (n := s.qty) hv (by omega) (by omega) (by omega) (by omega) (by omega)
        have hav : 0 ≤ avgV s m ∧ avgV s m ≤ s.value := hp
        have hw : W (0 - m.qty) = -m.qty := neg_W ⟨by omega, by omega⟩
        have hw2 : W (0 - avgV s m) = -avgV s m := neg_W ⟨by omega, by omega⟩
        have hw3 : W (avgV s m - m.cost) = avgV s m - m.cost := wn ⟨by omega, by omega⟩ ⟨by omega, by omega⟩
        rw [hw, hw2, hw3]
        refine ⟨⟨?_, ?_, ?_, ?_, ?_, ?_, ?_, ?_, fun _ => ⟨i, p, hr'.1, hr'.2.1, hr'.2.2.1, rfl, hr'.2.2.2⟩, ?_⟩, rfl, rfl, rfl, ?_, ?_, ?_, ?_⟩ <;> (try simp only) <;> (try omega)
  split at h
  · rename_i hk1 hk2 hk3 hk4 hk
    have hq := mq.1 (.inl hk)
    unfold aLand at h
    split at h
    · cases h
    · rename_i i p hr
      cases h
      have hr' := refd_one (by decide) hr
      have hp := ps.all p (List.mem_of_getElem? hr'.1)
      have h1 := hp.q1; have h2 := hp.q2
      have hpl : 0 ≤ landV s p m ∧ landV s p m ≤ m.cost := partN_le mc.1 (by omega) (by split <;> omega) (by split <;> omega) h2 h1
      have hw : W (m.cost - landV s p m) = m.cost - landV s p m := wn ⟨by omega, by omega⟩ ⟨by omega, by omega⟩
      rw [hw]
      refine ⟨⟨?_, ?_, ?_, ?_, ?_, ?_, ?_, ?_, ?_, fun _ => rfl⟩, rfl, rfl, rfl, ?_, ?_, ?_, ?_⟩ <;> (try simp only) <;> (try omega)
  · cases h
theorem aStep_f {s t : Sk} {m : Mv} {c : Co} (hs : SG s) (hv : 0 ≤ s.value) (h : aStep s m = .ok (t, c)) : SF s t m c ∧ SG t ∧ 0 ≤ t.value := by
  unfold aStep at h
  split at h
  · cases h
  rename_i h1
  have hm := MG.of (Decidable.not_not.1 h1)
  split at h
  · cases h
  rename_i h2
  have hn := seqNew_of_none h2
  split at h
  · cases h
  rename_i t' c' hd
  split at h
  · cases h
  rename_i ho
  cases h
  obtain ⟨pf, tq, tv, cs, hq, hv', c0, c1⟩ := aDo_f hs hv hm hd
  unfold aOver at ho
  simp only [Bool.or_eq_true, not_or] at ho
  have ho1 := of_decide_eq_false (Bool.eq_false_iff.2 ho.1.1)
  have hsum := summed_f hs hm hn pf tq tv c0 c1 hq ⟨by omega, largeB_no ho.1.2, largeB_no ho.2⟩ c.seq cs
  have e2 := hsum.1.tv
  simp only at e2
  exact ⟨hsum.1, hsum.2, by rw [e2]; exact hv'⟩
/-- lots -/
theorem addLot_good {ls : List Ly} {lot : ByteArray} {q v : Int} (h : LGs ls) (hq : sumBy Ly.qty ls ≤ 1000000000) (hv : sumBy Ly.value ls ≤ 1000000000000000) (q0 : 0 ≤ q) (q1 : q ≤ 1000000000) (v0 : 0 ≤ v) (v1 : v ≤ 2000000000000000) (hn : lotF lot ls = none → 1 ≤ q) :
    LGs (addLot ls lot q v) ∧ sumBy Ly.qty (addLot ls lot q v) = sumBy Ly.qty ls + q ∧ sumBy Ly.value (addLot ls lot q v) = sumBy Ly.value ls + v := by
  unfold addLot
  split
  · rename_i i l hf
    have hx := (lotF_some hf).1
    have hl := h l (List.mem_of_getElem? hx)
    have hlq := sumBy_le h.q hx; have hlv := sumBy_le h.v hx
    have hl1 := hl.1; have hl2 := hl.2
    have e : bump l q v = { l with qty := l.qty + q, value := l.value + v } := by unfold bump; rw [W_in (show i64 (l.qty + q) from ⟨by omega, by omega⟩), W_in (show i64 (l.value + v) from ⟨by omega, by omega⟩)]
    rw [e]
    refine ⟨fun x hx' => ?_, ?_, ?_⟩
    · rcases mem_set hx' with rfl | hx'
      · exact ⟨by simp only; omega, by simp only; omega⟩
      · exact h x hx'
    · rw [sumBy_set _ _ _ _ _ hx]; simp only; omega
    · rw [sumBy_set _ _ _ _ _ hx]; simp only; omega
  · rename_i hf
    have hq1 := hn hf
    have e : bump (newLy lot) q v = ⟨0, lot, q, v⟩ := by unfold bump newLy; simp only [Int.zero_add]; rw [W_in (show i64 q from ⟨by omega, by omega⟩), W_in (show i64 v from ⟨by omega, by omega⟩)]
    rw [e]
    refine ⟨fun x hx' => ?_, sumBy_ins _ _ _ _, sumBy_ins _ _ _ _⟩
    rcases insL_mem hx' with rfl | hx'
    · exact ⟨hq1, v0⟩
    · exact h x hx'
theorem qtyLot_pos {ls : List Ly} {lot : ByteArray} (h : LGs ls) : 0 ≤ qtyLot ls lot ∧ (lotF lot ls = none → qtyLot ls lot = 0) := by
  unfold qtyLot
  split
  · rename_i hf; have := (h _ (List.mem_of_getElem? (lotF_some hf).1)).1; exact ⟨by omega, fun e => by rw [e] at hf; cases hf⟩
  · exact ⟨Int.le_refl _, fun _ => rfl⟩
theorem lDo_f {s t : Sk} {m : Mv} {c : Co} (hs : SG s) (hl : LI s.layers s.qty s.value) (hm : MG m) (h : lDo s m = .ok (t, c)) :
    PF s t m c ∧ t.qty = s.qty ∧ t.value = s.value ∧ LI t.layers (s.qty + c.qty) (s.value + c.value) ∧ -2000000000000000 ≤ c.value ∧ c.value ≤ 2000000000000000 := by
  obtain ⟨q0, q1, v0, v1, ps⟩ := hs
  obtain ⟨lg, lq, lv⟩ := hl
  have mk := hm.k; have mq := hm.q; have mc := hm.c
  unfold lDo at h
  split at h
  · rename_i hk
    have hq := mq.2 (.inl hk)
    unfold lRecv at h
    split at h
    · cases h
    cases h
    have ha := addLot_good (lot := m.lot) (q := m.qty) (v := m.cost) lg (by omega) (by omega) (by omega) hq.2 mc.1 (by omega) (fun _ => hq.1)
    refine ⟨⟨?_, ?_, ?_, ?_, ?_, fun _ => rfl, ?_, ?_, ?_, ?_⟩, rfl, rfl, ⟨ha.1, ?_, ?_⟩, ?_, ?_⟩ <;> (try simp only) <;> (try omega)
  split at h
  · rename_i hk1 hk
    have hq := mq.2 (.inr (.inl hk))
    unfold lIssue at h
    split at h
    · cases h
    rename_i i l hf
    split at h
    · cases h
    split at h
    · cases h
    rename_i hlt
    cases h
    have ht := takeL_good lg (lotF_some hf).1 hq.1 (by omega) (by omega) (by omega)
    have hw : W (0 - m.qty) = -m.qty := neg_W ⟨by omega, by omega⟩
    have hw2 : W (0 - takeV l m.qty) = -takeV l m.qty := neg_W ⟨by omega, by omega⟩
    rw [hw, hw2]
    refine ⟨⟨?_, ?_, ?_, ?_, ?_, ?_, fun _ => ?_, ?_, ?_, ?_⟩, rfl, rfl, ⟨ht.1, ?_, ?_⟩, ?_, ?_⟩ <;> (try simp only) <;> (try omega)
    · exact fun _ => ⟨trivial, by omega, by omega⟩
    · rw [Int.neg_neg]
  split at h
  · rename_i hk1 hk2 hk
    have hq := mq.2 (.inr (.inr (.inl hk)))
    unfold lBack lRef at h
    split at h
    · cases h
    rename_i i p hr
    unfold lBackR at h
    cases h
    have hr' := refd_one (by decide) hr
    have hp := ps.all p (List.mem_of_getElem? hr'.1)
    have hb := back_good hp hq.1 hr'.2.2.2
    have hpv := hp.v1; have hpw := hp.w0
    have ha := addLot_good (lot := p.lot) (q := m.qty) (v := backV p m) lg (by omega) (by omega) (by omega) hq.2 hb.2.2.2.1 (by omega) (fun _ => hq.1)
    refine ⟨⟨?_, ?_, ?_, ?_, ?_, ?_, ?_, fun _ => ⟨i, p, hr'.1, hr'.2.1, hr'.2.2.1, rfl, ?_, hr'.2.2.2⟩, ?_, ?_⟩, rfl, rfl, ⟨ha.1, ?_, ?_⟩, ?_, ?_⟩ <;> (try simp only) <;> (try omega)
  split at h
  · rename_i hk1 hk2 hk3 hk
    have hq := mq.2 (.inr (.inr (.inr hk)))
    unfold lSend lRef at h
    split at h
    · cases h
    rename_i i p hr
    unfold lSendR at h
    split at h
    · cases h
    rename_i j l hf
    split at h
    · cases h
    rename_i hlt
    cases h
    have hr' := refd_one (by decide) hr
    have ht := takeL_good lg (lotF_some hf).1 hq.1 (by omega) (by omega) (by omega)
    have hw : W (0 - m.qty) = -m.qty := neg_W ⟨by omega, by omega⟩
    have hw2 : W (0 - takeV l m.qty) = -takeV l m.qty := neg_W ⟨by omega, by omega⟩
    have hw3 : W (takeV l m.qty - m.cost) = takeV l m.qty - m.cost := wn ⟨by omega, by omega⟩ ⟨by omega, by omega⟩
    rw [hw, hw2, hw3]
    refine ⟨⟨?_, ?_, ?_, ?_, ?_, ?_, ?_, ?_, fun _ => ⟨i, p, hr'.1, hr'.2.1, hr'.2.2.1, rfl, hr'.2.2.2⟩, ?_⟩, rfl, rfl, ⟨ht.1, ?_, ?_⟩, ?_, ?_⟩ <;> (try simp only) <;> (try omega)
  split at h
  · rename_i hk1 hk2 hk3 hk4 hk
    have hq := mq.1 (.inl hk)
    unfold lLand lRef at h
    split at h
    · cases h
    rename_i i p hr
    have hr' := refd_one (by decide) hr
    have hp := ps.all p (List.mem_of_getElem? hr'.1)
    have h1 := hp.q1; have h2 := hp.q2
    unfold lLandR at h
    split at h
    · cases h
      refine ⟨⟨?_, ?_, ?_, ?_, ?_, ?_, ?_, ?_, ?_, fun _ => rfl⟩, rfl, rfl, ⟨lg, ?_, ?_⟩, ?_, ?_⟩ <;> (try simp only) <;> (try omega)
    · rename_i hz
      cases h
      have hqp := qtyLot_pos (lot := p.lot) lg
      have hlq : 0 ≤ lotQ s p ∧ lotQ s p ≤ p.qty := by unfold lotQ; split <;> omega
      have hpl := partN_le (v := m.cost) (q := lotQ s p) (n := p.qty) mc.1 (by omega) hlq.1 hlq.2 h2 h1
      have hne : lotF p.lot s.layers = none → (1 : Int) ≤ 0 := fun e => by
        exfalso; apply hz; unfold lotQ; rw [hqp.2 e, if_pos (by omega)]
      have ha := addLot_good (lot := p.lot) (q := 0) (v := partN m.cost (lotQ s p) p.qty) lg (by omega) (by omega) (Int.le_refl _) (by decide) hpl.1 (by omega) hne
      have hw : W (m.cost - partN m.cost (lotQ s p) p.qty) = m.cost - partN m.cost (lotQ s p) p.qty := wn ⟨by omega, by omega⟩ ⟨by omega, by omega⟩
      rw [hw]
      refine ⟨⟨?_, ?_, ?_, ?_, ?_, ?_, ?_, ?_, ?_, fun _ => rfl⟩, rfl, rfl, ⟨ha.1, ?_, ?_⟩, ?_, ?_⟩ <;> (try simp only) <;> (try omega)
  · cases h
theorem lStep_f {s t : Sk} {m : Mv} {c : Co} (hs : SG s) (hl : LI s.layers s.qty s.value) (h : lStep s m = .ok (t, c)) : SF s t m c ∧ SG t ∧ LI t.layers t.qty t.value := by
  unfold lStep at h
  split at h
  · cases h
  rename_i h1
  have hm := MG.of (Decidable.not_not.1 h1)
  split at h
  · cases h
  rename_i h2
  have hn := seqNew_of_none h2
  split at h
  · cases h
  rename_i t' c' hd
  split at h
  · cases h
  rename_i ho
  cases h
  obtain ⟨pf, tq, tv, li, c0, c1⟩ := lDo_f hs hl hm hd
  have ho' := (overB_no ho).2
  have hsum := summed_f hs hm hn pf tq tv c0 c1 li.nonneg.1 ho' m.seq rfl
  refine ⟨hsum.1, hsum.2, ?_⟩
  have e1 := hsum.1.tq; have e2 := hsum.1.tv
  simp only at e1 e2
  rw [e1, e2]
  exact li
/-- standard price -/
theorem priceV_of {m : Mv} {p : Int} (h : ¬ priceE m p ≠ 0) : priceV m p = m.qty * p ∧ i64 (priceV m p) := by
  refine ⟨?_, priceV_i64⟩
  unfold priceE at h
  split at h
  · rename_i hk
    unfold priceV; rw [if_pos hk]
    unfold mulOk at hk; unfold mulN
    rw [if_pos (of_decide_eq_true hk)]
  · exact absurd (by decide) h
theorem sDo_f {s t : Sk} {m : Mv} {c : Co} (hs : SG s) (hp : 0 ≤ s.price ∧ s.price ≤ 1000000000000) (hm : MG m) (h : sDo s m ⟨0, 0, 0, 0⟩ = .ok (t, c)) (hv : -1000000000000000 ≤ s.value + c.value ∧ s.value + c.value ≤ 1000000000000000) :
    PF s t m c ∧ 0 ≤ s.qty + c.qty ∧ (0 ≤ t.price ∧ t.price ≤ 1000000000000) := by
  obtain ⟨q0, q1, v0, v1, ps⟩ := hs
  have mk := hm.k; have mq := hm.q; have mc := hm.c
  unfold sDo at h
  split at h
  · rename_i hk
    have hq := mq.2 (.inl hk)
    unfold sRecv at h
    split at h
    · cases h
    rename_i he
    cases h
    obtain ⟨e1, e2⟩ := priceV_of he
    have e3 : 0 ≤ priceV m s.price := by rw [e1]; exact Int.mul_nonneg (by omega) hp.1
    have hw : W (m.cost - priceV m s.price) = m.cost - priceV m s.price := W_in ⟨by omega, by omega⟩
    rw [hw]
    refine ⟨⟨?_, ?_, ?_, ?_, ?_, fun _ => rfl, ?_, ?_, ?_, ?_⟩, ?_, hp⟩ <;> (try simp only) <;> (try omega)
  split at h
  · rename_i hk1 hk
    have hq := mq.2 (.inr (.inl hk))
    unfold sIssue at h
    split at h
    · cases h
    split at h
    · cases h
    rename_i hlt he
    cases h
    obtain ⟨e1, e2⟩ := priceV_of he
    have e3 : 0 ≤ priceV m s.price := by rw [e1]; exact Int.mul_nonneg (by omega) hp.1
    have hw : W (0 - m.qty) = -m.qty := neg_W ⟨by omega, by omega⟩
    have hw2 : W (0 - priceV m s.price) = -priceV m s.price := neg_W ⟨by omega, by omega⟩
    rw [hw2] at hv
    rw [hw, hw2]
    simp only at hv
    refine ⟨⟨?_, ?_, ?_, ?_, ?_, ?_, fun _ => ?_, ?_, ?_, ?_⟩, ?_, hp⟩ <;> (try simp only) <;> (try omega)
    · exact fun _ => ⟨trivial, by omega, by omega⟩
    · rw [Int.neg_neg]
  split at h
  · rename_i hk1 hk2 hk
    have hq := mq.2 (.inr (.inr (.inl hk)))
    unfold sCust at h
    split at h
    · cases h
    rename_i i p hr
    split at h
    · cases h
    rename_i he
    cases h
    obtain ⟨e1, e2⟩ := priceV_of he
    have e3 : 0 ≤ priceV m s.price := by rw [e1]; exact Int.mul_nonneg (by omega) hp.1
    have hr' := refd_one (by decide) hr
    have hpp := ps.all p (List.mem_of_getElem? hr'.1)
    have hb := back_good hpp hq.1 hr'.2.2.2
    have hpv := hpp.v1; have hpw := hpp.w0
    have hw : W (backV p m - priceV m s.price) = backV p m - priceV m s.price := W_in ⟨by omega, by omega⟩
    rw [hw]
    refine ⟨⟨?_, ?_, ?_, ?_, ?_, ?_, ?_, fun _ => ⟨i, p, hr'.1, hr'.2.1, hr'.2.2.1, rfl, ?_, hr'.2.2.2⟩, ?_, ?_⟩, ?_, hp⟩ <;> (try simp only) <;> (try omega)
  split at h
  · rename_i hk1 hk2 hk3 hk
    have hq := mq.2 (.inr (.inr (.inr hk)))
    unfold sSupp at h
    split at h
    · cases h
    rename_i i p hr
    split at h
    · cases h
    split at h
    · cases h
    rename_i hlt he
    cases h
    obtain ⟨e1, e2⟩ := priceV_of he
    have e3 : 0 ≤ priceV m s.price := by rw [e1]; exact Int.mul_nonneg (by omega) hp.1
    have hr' := refd_one (by decide) hr
    have hw : W (0 - m.qty) = -m.qty := neg_W ⟨by omega, by omega⟩
    have hw2 : W (0 - priceV m s.price) = -priceV m s.price := neg_W ⟨by omega, by omega⟩
    have hw3 : W (priceV m s.price - m.cost) = priceV m s.price - m.cost := W_in ⟨by omega, by omega⟩
    rw [hw, hw2, hw3]
    refine ⟨⟨?_, ?_, ?_, ?_, ?_, ?_, ?_, ?_, fun _ => ⟨i, p, hr'.1, hr'.2.1, hr'.2.2.1, rfl, hr'.2.2.2⟩, ?_⟩, ?_, hp⟩ <;> (try simp only) <;> (try omega)
  split at h
  · rename_i hk1 hk2 hk3 hk4 hk
    have hq := mq.1 (.inl hk)
    unfold sLand at h
    split at h
    · cases h
    cases h
    refine ⟨⟨?_, ?_, ?_, ?_, ?_, ?_, ?_, ?_, ?_, fun _ => rfl⟩, ?_, hp⟩ <;> (try simp only) <;> (try omega)
  · rename_i hk1 hk2 hk3 hk4 hk5
    have hk : m.kind = 6 := by omega
    unfold sRepr at h
    split at h
    · cases h
    rename_i ho
    cases h
    simp only [Bool.or_eq_true, not_or, Bool.not_eq_true', Bool.not_eq_false] at ho
    have hw := withinB_yes ho.2
    have hw2 : W (0 - reprV s m) = -reprV s m := neg_W ⟨by omega, by omega⟩
    rw [hw2]
    refine ⟨⟨?_, ?_, ?_, ?_, ?_, ?_, ?_, ?_, ?_, fun _ => rfl⟩, ?_, mc⟩ <;> (try simp only) <;> (try omega)
theorem sStep_f {s t : Sk} {m : Mv} {c : Co} (hs : SG s) (hp : 0 ≤ s.price ∧ s.price ≤ 1000000000000) (h : sStep s m = .ok (t, c)) : SF s t m c ∧ SG t ∧ (0 ≤ t.price ∧ t.price ≤ 1000000000000) := by
  unfold sStep at h
  split at h
  · cases h
  rename_i h1
  have hm := MG.of (Decidable.not_not.1 h1)
  split at h
  · cases h
  rename_i h2
  have hn := seqNew_of_two hs.ps.all h2
  split at h
  · cases h
  rename_i t' c' hd
  split at h
  · cases h
  rename_i ho
  cases h
  unfold sOver at ho
  simp only [Bool.or_eq_true, not_or, Bool.not_eq_true', Bool.not_eq_false] at ho
  obtain ⟨⟨⟨a1, a2⟩, a3⟩, a4⟩ := ho
  have e1 : addN s.value c'.value = s.value + c'.value := by
    unfold addOk at a1
    unfold addN; exact if_pos (of_decide_eq_true a1)
  rw [e1] at a3
  have b3 := withinB_yes a3
  have b4 := withinB_yes a4
  obtain ⟨pf, hq, hp'⟩ := sDo_f hs hp hm hd b3
  have hcq := pf.cqb hm
  have e2 : W (s.qty + c'.qty) = s.qty + c'.qty := wq ⟨by have := hs.q0; omega, by have := hs.q1; omega⟩ ⟨by omega, by omega⟩
  have b2 := of_decide_eq_false (Bool.eq_false_iff.2 a2)
  rw [e2] at b2
  have e3 : sSum s t' c' = { t' with qty := s.qty + c'.qty, value := s.value + c'.value } := by unfold sSum; rw [e1, e2]
  rw [e3]
  exact ⟨⟨hm, hn, rfl, rfl, rfl, b4.1, b4.2, pf.reseq _ _ _⟩, ⟨hq, by simp only; omega, b3.1, b3.2, pf.past hm hn hs.ps⟩, hp'⟩
/-- any method -/
structure Inv (k : Int) (s : Sk) : Prop where
  sg : SG s
  li : k = 1 ∨ k = 4 → LI s.layers s.qty s.value
  av : k = 2 → 0 ≤ s.value
  pr : k = 3 → 0 ≤ s.price ∧ s.price ≤ 1000000000000
theorem stepM_f {k : Int} {s t : Sk} {m : Mv} {c : Co} (hi : Inv k s) (h : stepM k s m = .ok (t, c)) : SF s t m c ∧ Inv k t := by
  unfold stepM at h
  split at h
  · rename_i hk; have := fStep_f hi.sg (hi.li (.inl hk)) h; exact ⟨this.1, this.2.1, fun _ => this.2.2, fun e => by omega, fun e => by omega⟩
  split at h
  · rename_i hk1 hk; have := aStep_f hi.sg (hi.av hk) h; exact ⟨this.1, this.2.1, fun e => by omega, fun _ => this.2.2, fun e => by omega⟩
  split at h
  · rename_i hk1 hk2 hk; have := sStep_f hi.sg (hi.pr hk) h; exact ⟨this.1, this.2.1, fun e => by omega, fun e => by omega, fun _ => this.2.2⟩
  split at h
  · rename_i hk1 hk2 hk3 hk; have := lStep_f hi.sg (hi.li (.inr hk)) h; exact ⟨this.1, this.2.1, fun _ => this.2.2, fun e => by omega, fun e => by omega⟩
  · cases h
theorem start_inv (k p : Int) : Inv k (start0 k p) := by
  have hq := start0_q k p; have hv := start0_v k p; have hl := start0_l k p; have hp := start0_p k p
  refine ⟨⟨by omega, by omega, by omega, by omega, ?_⟩, fun _ => ?_, fun _ => by omega, fun hk => ?_⟩
  · rw [hp]; exact ⟨(fun p h => by cases h), by simp⟩
  · rw [hl, hq, hv]; exact ⟨(fun l h => by cases h), rfl, rfl⟩
  · unfold start0
    split
    · rename_i h
      have := h.1
      unfold startE at this
      split at this
      · cases this
      · split at this
        · cases this
        · simp only; omega
    · simp only [sk0]; omega
end Go.SL

namespace Go.SL
open Go
theorem runL_cons {k : Int} {m : Mv} {ms : List Mv} {s u : Sk} {cs : List Co} (h : runL (stepM k) s (m :: ms) = .ok (u, cs)) : ∃ t c ds, stepM k s m = .ok (t, c) ∧ runL (stepM k) t ms = .ok (u, ds) ∧ cs = c :: ds := by
  unfold runL at h
  split at h
  · cases h
  rename_i t c hf
  split at h
  · cases h
  rename_i v ds hr
  cases h
  exact ⟨t, c, ds, hf, hr, rfl⟩
theorem runL_each {k : Int} : ∀ {ms : List Mv} {s u : Sk} {cs : List Co}, Inv k s → runL (stepM k) s ms = .ok (u, cs) → Inv k u ∧ ∀ (i : Nat) (m : Mv) (c : Co), ms[i]? = some m → cs[i]? = some c → ∃ s1 t1, Inv k s1 ∧ Inv k t1 ∧ SF s1 t1 m c
  | [], s, u, cs, hi, h => by cases h; exact ⟨hi, fun i m c hm => by simp at hm⟩
  | m :: ms, s, u, cs, hi, h => by
    obtain ⟨t, c, ds, hf, hr, rfl⟩ := runL_cons h
    have h1 := stepM_f hi hf
    have h2 := runL_each h1.2 hr
    refine ⟨h2.1, fun i m' c' hm hc => ?_⟩
    cases i with
    | zero => simp at hm hc; subst hm hc; exact ⟨s, t, hi, h1.2, h1.1⟩
    | succ i => exact h2.2 i m' c' (by simpa using hm) (by simpa using hc)
theorem SF.vb {k : Int} {s t : Sk} {m : Mv} {c : Co} (hs : Inv k s) (ht : Inv k t) (h : SF s t m c) : -2000000000000000 ≤ c.value ∧ c.value ≤ 2000000000000000 := by
  have := h.tv; have := hs.sg.v0; have := hs.sg.v1; have := ht.sg.v0; have := ht.sg.v1; omega
/-- What the law 'each' asks of a movement and its costs. -/
structure EachOk (m : Mv) (c : Co) : Prop where
  k15 : m.kind = 1 ∨ m.kind = 5 → W (c.value + c.var) = m.cost
  k4 : m.kind = 4 → W (c.value + c.var) = W (0 - m.cost)
  k6 : m.kind = 6 → W (c.value + c.var) = 0
  k2 : m.kind = 2 → c.var = 0 ∧ c.value ≤ 0
theorem runM_each {k p : Int} {ms : List Mv} {t : Sk} {cs : List Co} (h : runM k p ms = .ok (t, cs)) {i : Nat} {m : Mv} {c : Co} (hm : ms[i]? = some m) (hc : cs[i]? = some c) : EachOk m c := by
  obtain ⟨s1, t1, i1, i2, hf⟩ := (runL_each (start_inv k p) (runM_iff.1 h).2).2 i m c hm hc
  have hb := hf.vb i1 i2
  have hr0 := hf.r0; have hr1 := hf.r1
  have hw : W (c.value + c.var) = c.value + c.var := wq ⟨by omega, by omega⟩ ⟨by omega, by omega⟩
  have hmc := hf.mg.c
  refine ⟨fun e => by rw [hw]; exact hf.pf.e15 e, fun e => by rw [hw, neg_W ⟨by omega, by omega⟩]; exact hf.pf.e4 e, fun e => by rw [hw]; exact hf.pf.e6 e, fun e => ⟨(hf.pf.e2 e).1, (hf.pf.e2 e).2.1⟩⟩
theorem changeM_of {k : Int} {s t : Sk} {m : Mv} {c : Co} (h : SF s t m c) : changeM m = c.qty := by
  have mk := h.mg.k; have mq := h.mg.q
  rw [h.pf.cq]
  unfold changeM
  by_cases hk : m.kind = 5 ∨ m.kind = 6
  · have hq := mq.1 hk
    have : ¬ inB m.qty 1 1000000000 = true := fun e => by have := inB_true.1 e; omega
    rw [if_neg this, if_neg (by omega), if_neg (by omega)]
  · have hq := mq.2 (by omega)
    rw [if_pos (inB_true.2 hq)]
    split
    · rfl
    · split
      · exact neg_W ⟨by omega, by omega⟩
      · rfl
theorem runL_lev {k : Int} : ∀ {ms : List Mv} {s u : Sk} {cs : List Co}, Inv k s → runL (stepM k) s ms = .ok (u, cs) → ∃ qs, runL levM s.qty ms = .ok (u.qty, qs) ∧ qs.length = cs.length ∧ ∀ i, i < cs.length → qs[i]? = some (wsumFrom Co.qty s.qty (cs.take (i + 1)))
  | [], s, u, cs, hi, h => by cases h; exact ⟨[], rfl, rfl, fun i hi => by simp at hi⟩
  | m :: ms, s, u, cs, hi, h => by
    obtain ⟨t, c, ds, hf, hr, rfl⟩ := runL_cons h
    have h1 := stepM_f hi hf
    obtain ⟨qs, hq, hl, hg⟩ := runL_lev h1.2 hr
    have hch := changeM_of (k := k) h1.1
    have htq := h1.1.tq
    have b1 := h1.2.sg.q0; have b2 := h1.2.sg.q1
    have hw : W (s.qty + changeM m) = t.qty := by rw [hch, ← htq]; exact W_in ⟨by omega, by omega⟩
    have hlev : levM s.qty m = .ok (t.qty, t.qty) := by unfold levM; rw [hw, if_neg (by omega), if_neg (by omega)]
    refine ⟨t.qty :: qs, by unfold runL; rw [hlev]; simp only; rw [hq], by simp [hl], fun i hi' => ?_⟩
    have hwc : W (s.qty + c.qty) = t.qty := by rw [← hch]; exact hw
    cases i with
    | zero => simp only [List.getElem?_cons_zero, Nat.zero_add, List.take_succ_cons, List.take_zero, wsumFrom, List.foldl_cons, List.foldl_nil]; rw [hwc]
    | succ i =>
      simp only [List.getElem?_cons_succ, List.take_succ_cons, wsumFrom, List.foldl_cons]
      rw [hwc]
      exact hg i (by simpa using hi')
theorem runM_lev {k p : Int} {ms : List Mv} {t : Sk} {cs : List Co} (h : runM k p ms = .ok (t, cs)) : ∃ qs, runL levM 0 ms = .ok (t.qty, qs) ∧ qs.length = cs.length ∧ ∀ i, i < cs.length → qs[i]? = some (wsum Co.qty (cs.take (i + 1))) := by
  have := runL_lev (start_inv k p) (runM_iff.1 h).2
  rw [start0_q] at this; exact this
theorem runM_seq {k p : Int} {ms : List Mv} {t : Sk} {cs : List Co} (h : runM k p ms = .ok (t, cs)) {i : Nat} {m : Mv} {c : Co} (hm : ms[i]? = some m) (hc : cs[i]? = some c) : c.seq = m.seq := by
  obtain ⟨_, _, _, _, hf⟩ := (runL_each (start_inv k p) (runM_iff.1 h).2).2 i m c hm hc
  exact hf.seq
/-! the first movements -/
theorem runL_lt {σ α ο : Type} {f : σ → α → Except Int (σ × ο)} : ∀ {ms : List α} {s : σ} {i : Nat} {e : Int}, runL f s ms = .error (i, e) → i < ms.length
  | [], s, i, e, h => by cases h
  | m :: ms, s, i, e, h => by
    unfold runL at h
    split at h
    · cases h; simp
    split at h
    · rename_i hr; cases h; have := runL_lt hr; simp only [List.length_cons]; omega
    · cases h
theorem runL_take_ok {σ α ο : Type} {f : σ → α → Except Int (σ × ο)} {s t : σ} {ms : List α} {cs : List ο} {n : Nat} (h : runL f s ms = .ok (t, cs)) (hn : n ≤ ms.length) : ∃ u, runL f s (ms.take n) = .ok (u, cs.take n) := by
  have hl := runL_len h
  rw [← List.take_append_drop n ms, runL_app] at h
  split at h
  · cases h
  rename_i u ds h1
  split at h
  · cases h
  rename_i v es h2
  cases h
  have hd := runL_len h1
  rw [List.length_take, Nat.min_eq_left hn] at hd
  refine ⟨u, ?_⟩
  rw [h1, List.take_left' hd]
theorem runL_take_err {σ α ο : Type} {f : σ → α → Except Int (σ × ο)} {s : σ} {ms : List α} {n i : Nat} {e : Int} (h : runL f s ms = .error (i, e)) (hn : n ≤ ms.length) : (i < n → runL f s (ms.take n) = .error (i, e)) ∧ (¬ i < n → ∃ u ds, runL f s (ms.take n) = .ok (u, ds)) := by
  rw [← List.take_append_drop n ms, runL_app] at h
  split at h
  · rename_i x hx
    cases h
    have := runL_lt hx
    rw [List.length_take, Nat.min_eq_left hn] at this
    exact ⟨fun _ => hx, fun hni => absurd this hni⟩
  · rename_i u ds h1
    split at h
    · rename_i j e' h2
      cases h
      rw [List.length_take, Nat.min_eq_left hn]
      exact ⟨fun hlt => by omega, fun _ => ⟨u, ds, h1⟩⟩
    · cases h
end Go.SL

namespace Go.SL
open Go
theorem runM_cases (k p : Int) (ms : List Mv) : (startE k p ≠ 0 ∧ runM k p ms = .error (-1, startE k p)) ∨ (startE k p = 0 ∧ ∃ (i : Nat) (e : Int), runM k p ms = .error ((i : Int), e) ∧ runL (stepM k) (start0 k p) ms = .error (i, e)) ∨ (startE k p = 0 ∧ ∃ t cs, runM k p ms = .ok (t, cs) ∧ runL (stepM k) (start0 k p) ms = .ok (t, cs)) := by
  by_cases h : startE k p = 0
  · right
    cases hr : runL (stepM k) (start0 k p) ms with
    | error x => obtain ⟨i, e⟩ := x; exact .inl ⟨h, i, e, runM_er h hr, rfl⟩
    | ok x => obtain ⟨t, cs⟩ := x; exact .inr ⟨h, t, cs, runM_ok h hr, rfl⟩
  · exact .inl ⟨h, runM_no h⟩
theorem RdS.take {α : Type} {enc : α → List Value} {R : HP} {oa : Option Addr} {xs : List α} (h : RdS R oa (xs.flatMap enc)) (n : Nat) : RdS R oa ((xs.take n).flatMap enc) := fun hp hr => by
  have e : xs.flatMap enc = (xs.take n).flatMap enc ++ (xs.drop n).flatMap enc := by rw [← List.flatMap_append, List.take_append_drop]
  rcases h hp hr with h | ⟨b, o, e1, c, t, fr, hb, hc⟩
  · left; rw [e] at h; exact (List.append_eq_nil_iff.1 h).1
  · refine .inr ⟨b, o, e1, c, t, fr, hb, fun j v hj => hc j v ?_⟩
    rw [e, List.getElem?_append_left (List.getElem?_eq_some_iff.1 hj).1]; exact hj
theorem step_cost {k p : Int} {ms : List Mv} {s t u : Sk} {cs ds : List Co} {i : Nat} {m : Mv} {c : Co} (hL : runL (stepM k) (start0 k p) ms = .ok (u, cs)) (h : runL (stepM k) (start0 k p) (ms.take i) = .ok (s, ds)) (hx : ms[i]? = some m) (hf : stepM k s m = .ok (t, c)) : cs[i]? = some c := by
  have hi := (List.getElem?_eq_some_iff.1 hx).1
  have h1 := runL_snoc h hx hf
  obtain ⟨v, h2⟩ := runL_take_ok hL (show i + 1 ≤ ms.length from hi)
  rw [h1] at h2
  simp only [Except.ok.injEq, Prod.mk.injEq] at h2
  have h3 := h2.2
  have hd : ds.length = i := (runL_len h).trans (by rw [List.length_take]; omega)
  have e : (cs.take (i + 1))[i]? = some c := by
    rw [← h3, List.getElem?_append_right (by omega), hd]; simp
  rw [List.getElem?_take] at e
  simpa using e
def retG (σ : Int) (a : Int × Int) (x : Mv × Co) : Int × Int := if x.1.kind = 3 ∧ x.1.ref = σ then (W (a.1 + x.1.qty), W (W (a.2 + x.2.value) + x.2.var)) else a
def retL (σ : Int) (l : List (Mv × Co)) : Int × Int := l.foldl (retG σ) (0, 0)
theorem ret_nil {σ : Int} {l : List (Mv × Co)} {i : Nat} : retL σ ((l.take i).drop i) = (0, 0) := by
  rw [List.drop_eq_nil_of_le (by rw [List.length_take]; omega)]; rfl
theorem ret_succ {σ : Int} {l : List (Mv × Co)} {i k : Nat} {x : Mv × Co} (hx : l[k]? = some x) (hik : i ≤ k) : retL σ ((l.take (k + 1)).drop i) = retG σ (retL σ ((l.take k).drop i)) x := by
  have hk := (List.getElem?_eq_some_iff.1 hx).1
  rw [take_succ_get hx, List.drop_append_of_le_length (by rw [List.length_take]; omega)]
  unfold retL
  rw [List.foldl_append]; rfl
theorem zip_get {ms : List Mv} {cs : List Co} {i : Nat} {m : Mv} {c : Co} (hm : ms[i]? = some m) (hc : cs[i]? = some c) : (ms.zip cs)[i]? = some (m, c) := by
  rw [List.getElem?_zip_eq_some]; exact ⟨hm, hc⟩
theorem seq_index {ps : List Pa} {i j : Nat} {p q : Pa} (h : PGs ps) (hi : ps[i]? = some p) (hj : ps[j]? = some q) (e : p.seq = q.seq) : i = j := by
  have h1 : (ps.map Pa.seq)[i]? = some p.seq := by rw [List.getElem?_map, hi]; rfl
  have h2 : (ps.map Pa.seq)[j]? = some p.seq := by rw [List.getElem?_map, hj, e]; rfl
  have hil := (List.getElem?_eq_some_iff.1 h1).1
  exact (List.getElem?_inj hil h.uniq).1 (h1.trans h2.symm)
structure Kept (p p' : Pa) : Prop where
  seq : p'.seq = p.seq
  kind : p'.kind = p.kind
  qty : p'.qty = p.qty
  value : p'.value = p.value
/-- One step, as the entry of an issue sees it. -/
theorem ret_step {k : Int} {s t : Sk} {m : Mv} {c : Co} {j : Nat} {p : Pa} (is : Inv k s) (it : Inv k t) (h : SF s t m c) (hx : s.past[j]? = some p) (hk : p.kind = 2) :
    ∃ p', t.past[j]? = some p' ∧ Kept p p' ∧ retG p.seq (p.used, p.usedValue) (m, c) = (p'.used, p'.usedValue) := by
  have mk := h.mg.k; have mq := h.mg.q
  have hvb := h.vb is it
  have r0 := h.r0; have r1 := h.r1
  have hp := is.sg.ps.all p (List.mem_of_getElem? hx)
  have hjl := (List.getElem?_eq_some_iff.1 hx).1
  have same : ∀ (ne : ¬ (m.kind = 3 ∧ m.ref = p.seq)), t.past[j]? = some p → ∃ p', t.past[j]? = some p' ∧ Kept p p' ∧ retG p.seq (p.used, p.usedValue) (m, c) = (p'.used, p'.usedValue) := fun ne ht =>
    ⟨p, ht, ⟨rfl, rfl, rfl, rfl⟩, by unfold retG; rw [if_neg ne]⟩
  rcases (show m.kind = 1 ∨ m.kind = 2 ∨ m.kind = 3 ∨ m.kind = 4 ∨ (m.kind = 5 ∨ m.kind = 6) by omega) with h1 | h1 | h1 | h1 | h1
  · exact same (by omega) (by rw [h.pf.p1 h1, List.getElem?_append_left hjl]; exact hx)
  · exact same (by omega) (by rw [h.pf.p2 h1, List.getElem?_append_left hjl]; exact hx)
  · obtain ⟨i, q, hq, hqk, hqs, ht, hv, hw⟩ := h.pf.p3 h1
    by_cases hr : m.ref = p.seq
    · have hij : i = j := seq_index is.sg.ps hq hx (hqs.trans hr)
      subst hij
      have e : q = p := Option.some.inj (hq.symm.trans hx)
      rw [e] at hq hw hv ht
      have hm := mq.2 (by omega)
      have hb := back_good hp hm.1 hw
      have hpv := hp.v1; have u0 := hp.u0; have u1 := hp.u1; have w0 := hp.w0; have w1 := hp.w1; have q2 := hp.q2
      refine ⟨backP p m, by rw [ht]; exact set_get hq _, ⟨rfl, rfl, rfl, rfl⟩, ?_⟩
      unfold retG
      rw [if_pos ⟨h1, hr⟩, hb.2.1, hb.2.2.1]
      simp only
      rw [W_in (show i64 (p.used + m.qty) from ⟨by omega, by omega⟩), W_in (show i64 (p.usedValue + c.value) from ⟨by omega, by omega⟩), W_in (show i64 (p.usedValue + c.value + c.var) from ⟨by omega, by omega⟩)]
      rw [show p.usedValue + c.value + c.var = p.usedValue + backV p m by omega]
    · have hij : i ≠ j := fun e => by subst e; rw [hq] at hx; cases hx; exact hr hqs.symm
      exact same (fun x => hr x.2) (by rw [ht, List.getElem?_set_ne hij]; exact hx)
  · obtain ⟨i, q, hq, hqk, hqs, ht, hw⟩ := h.pf.p4 h1
    have hij : i ≠ j := fun e => by subst e; rw [hq] at hx; cases hx; omega
    exact same (by omega) (by rw [ht, List.getElem?_set_ne hij]; exact hx)
  · exact same (by omega) (by rw [h.pf.p5 h1]; exact hx)
theorem ret_run {k : Int} : ∀ {ms : List Mv} {s u : Sk} {cs : List Co} {j : Nat} {p : Pa}, Inv k s → runL (stepM k) s ms = .ok (u, cs) → s.past[j]? = some p → p.kind = 2 →
    ∃ p', u.past[j]? = some p' ∧ Kept p p' ∧ (ms.zip cs).foldl (retG p.seq) (p.used, p.usedValue) = (p'.used, p'.usedValue)
  | [], s, u, cs, j, p, hi, h, hx, hk => by cases h; exact ⟨p, hx, ⟨rfl, rfl, rfl, rfl⟩, rfl⟩
  | m :: ms, s, u, cs, j, p, hi, h, hx, hk => by
    obtain ⟨t, c, ds, hf, hr, rfl⟩ := runL_cons h
    have h1 := stepM_f hi hf
    obtain ⟨p1, hx1, k1, e1⟩ := ret_step hi h1.2 h1.1 hx hk
    obtain ⟨p2, hx2, k2, e2⟩ := ret_run h1.2 hr hx1 (k1.kind.trans hk)
    refine ⟨p2, hx2, ⟨k2.seq.trans k1.seq, k2.kind.trans k1.kind, k2.qty.trans k1.qty, k2.value.trans k1.value⟩, ?_⟩
    rw [List.zip_cons_cons, List.foldl_cons, e1, ← k1.seq]; exact e2
structure RetOk (q v qty value : Int) : Prop where
  w : W (0 - value) = -value
  fv : v ≤ -value
  fq : q ≤ qty
  full : q = qty → v = -value
theorem runM_ret {k p : Int} {ms : List Mv} {t : Sk} {cs : List Co} (h : runM k p ms = .ok (t, cs)) {i : Nat} {m : Mv} {c : Co} {q v : Int} (hm : ms[i]? = some m) (hc : cs[i]? = some c) (hk : m.kind = 2) (hr : retL m.seq (((ms.zip cs).take ms.length).drop (i + 1)) = (q, v)) : RetOk q v m.qty c.value := by
  have hL := (runM_iff.1 h).2
  have hi := (List.getElem?_eq_some_iff.1 hm).1
  have hcl := runL_len hL
  obtain ⟨s, hs⟩ := runL_take_ok hL (show i ≤ ms.length by omega)
  have hL2 := hL
  rw [← List.take_append_drop i ms, runL_app, hs] at hL2
  simp only at hL2
  split at hL2
  · cases hL2
  rename_i u es he
  simp only [Except.ok.injEq, Prod.mk.injEq] at hL2
  obtain ⟨rfl, e3⟩ := hL2
  have is := (runL_each (start_inv k p) hs).1
  rw [← List.getElem_cons_drop hi, show ms[i] = m from by rw [List.getElem?_eq_getElem hi] at hm; exact Option.some.inj hm] at he
  obtain ⟨s1, c1, ds, hf, hrest, rfl⟩ := runL_cons he
  have hlt : (cs.take i).length = i := by rw [List.length_take]; omega
  have h1 := stepM_f is hf
  have hp2 := h1.1.pf.p2 hk
  have he2 := h1.1.pf.e2 hk
  have hall := runL_each h1.2 hrest
  have hj : s1.past[s.past.length]? = some ⟨m.seq, m.kind, m.lot, m.qty, -c1.value, 0, 0⟩ := by rw [hp2]; simp
  obtain ⟨p', hx', kp, ef⟩ := ret_run h1.2 hrest hj hk
  have hg := hall.1.sg.ps.all p' (List.mem_of_getElem? hx')
  have hcc : c = c1 := by
    have e : (cs.take i ++ c1 :: ds)[i]? = some c1 := by rw [List.getElem?_append_right (by omega), hlt]; simp
    rw [e3, hc] at e; exact Option.some.inj e
  subst hcc
  have hds : cs.drop (i + 1) = ds := by
    have e : (cs.take i ++ c :: ds).drop (i + 1) = ds := by
      rw [List.drop_append, hlt, List.drop_eq_nil_of_le (by omega), show i + 1 - i = 1 by omega]; rfl
    rw [e3] at e; exact e
  have hz : ((ms.zip cs).take ms.length).drop (i + 1) = (ms.drop (i + 1)).zip ds := by
    rw [List.take_of_length_le (by rw [List.length_zip]; omega), ← hds]
    simp only [List.zip, List.drop_zipWith]
  rw [hz] at hr
  have hef : retL m.seq ((ms.drop (i + 1)).zip ds) = (p'.used, p'.usedValue) := ef
  rw [hef] at hr
  simp only [Prod.mk.injEq] at hr
  obtain ⟨rfl, rfl⟩ := hr
  have kq := kp.qty; have kv := kp.value; have kk := kp.kind
  simp only at kq kv kk
  have u1 := hg.u1; have w1 := hg.w1; have fl := hg.full
  exact ⟨neg_W ⟨by omega, by omega⟩, by omega, by omega, fun e => by have := fl (by omega) (by omega); omega⟩
end Go.SL

namespace Go.Proofs.YtdcchollplhioaaGreatDoor
open Go Go.SL Go.ChangeShapes Go.WideShapes Go.ChangeAt Go.WideElems Go.RowKit Go.Deep
section
variable {H : Type} {enc : TypeId × Value → H} {W : World} {sp : Nat → Bool} {held : Bool}
theorem cof3 : Tryz.prog.cellsOf 3 = 1 := by kernel_rfl
theorem cof9 : Tryz.prog.cellsOf 9 = 1 := by kernel_rfl
theorem cof47 : Tryz.prog.cellsOf 47 = 8 := by kernel_rfl
theorem i64_of {n : Int} (h : (Lit.int .i64 n).wf = true) : i64 n := by
  have h1 : IntKind.i64.min = -9223372036854775808 := by rfl
  have h2 : IntKind.i64.max = 9223372036854775807 := by rfl
  simp only [Lit.wf, Bool.and_eq_true, decide_eq_true_eq] at h
  rw [h1, h2] at h
  exact h
theorem int_at {fuel : Nat} {cs : List Value} {x : DataW H × List MemPlace} (h : DataW.trod enc Tryz.prog W 0 sp held fuel 3 cs = some x) : ∃ n, cs = [I n] ∧ i64 n := by
  obtain ⟨n, h1, _, h2⟩ := DataW.trod_int Tryz.underlying3 h
  exact ⟨n, h1, i64_of h2⟩
theorem str_at {fuel : Nat} {cs : List Value} {x : DataW H × List MemPlace} (h : DataW.trod enc Tryz.prog W 0 sp held fuel 9 cs = some x) : ∃ s, cs = [St s] := by
  obtain ⟨s, h1, _, _⟩ := DataW.trod_string Tryz.underlying9 h
  exact ⟨s, h1⟩
theorem mv_of {fuel : Nat} {cs : List Value} {x : DataW H × List MemPlace} (h : DataW.trod enc Tryz.prog W 0 sp held fuel 47 cs = some x) : ∃ m : Mv, cs = m.c ∧ m.ok := by
  obtain ⟨xs, n, _, _, hl, hxl, hf⟩ := DataW.trod_struct Tryz.underlying47 h
  rw [cof47] at hl
  have hsz : xs.length = 8 := hxl
  have get : ∀ i, i < 8 → ∃ y, xs[i]? = some y := fun i hi => ⟨_, List.getElem?_eq_getElem (by omega)⟩
  have f0 : DataW.trod enc Tryz.prog W 0 sp held n 3 ((cs.drop 0).take (Tryz.prog.cellsOf 3)) = xs[0]? := hf 0 _ rfl
  have f1 : DataW.trod enc Tryz.prog W 0 sp held n 3 ((cs.drop 1).take (Tryz.prog.cellsOf 3)) = xs[1]? := hf 1 _ rfl
  have f2 : DataW.trod enc Tryz.prog W 0 sp held n 9 ((cs.drop 2).take (Tryz.prog.cellsOf 9)) = xs[2]? := hf 2 _ rfl
  have f3 : DataW.trod enc Tryz.prog W 0 sp held n 3 ((cs.drop 3).take (Tryz.prog.cellsOf 3)) = xs[3]? := hf 3 _ rfl
  have f4 : DataW.trod enc Tryz.prog W 0 sp held n 3 ((cs.drop 4).take (Tryz.prog.cellsOf 3)) = xs[4]? := hf 4 _ rfl
  have f5 : DataW.trod enc Tryz.prog W 0 sp held n 3 ((cs.drop 5).take (Tryz.prog.cellsOf 3)) = xs[5]? := hf 5 _ rfl
  have f6 : DataW.trod enc Tryz.prog W 0 sp held n 9 ((cs.drop 6).take (Tryz.prog.cellsOf 9)) = xs[6]? := hf 6 _ rfl
  have f7 : DataW.trod enc Tryz.prog W 0 sp held n 3 ((cs.drop 7).take (Tryz.prog.cellsOf 3)) = xs[7]? := hf 7 _ rfl
  rw [cof3] at f0 f1 f3 f4 f5 f7
  rw [cof9] at f2 f6
  obtain ⟨y0, e0⟩ := get 0 (by decide); obtain ⟨y1, e1⟩ := get 1 (by decide); obtain ⟨y2, e2⟩ := get 2 (by decide); obtain ⟨y3, e3⟩ := get 3 (by decide)
  obtain ⟨y4, e4⟩ := get 4 (by decide); obtain ⟨y5, e5⟩ := get 5 (by decide); obtain ⟨y6, e6⟩ := get 6 (by decide); obtain ⟨y7, e7⟩ := get 7 (by decide)
  obtain ⟨n0, h0, _⟩ := int_at (f0.trans e0); obtain ⟨n1, h1, _⟩ := int_at (f1.trans e1); obtain ⟨s2, h2⟩ := str_at (f2.trans e2); obtain ⟨n3, h3, _⟩ := int_at (f3.trans e3)
  obtain ⟨n4, h4, w4⟩ := int_at (f4.trans e4); obtain ⟨n5, h5, w5⟩ := int_at (f5.trans e5); obtain ⟨s6, h6⟩ := str_at (f6.trans e6); obtain ⟨n7, h7, _⟩ := int_at (f7.trans e7)
  clear f0 f1 f2 f3 f4 f5 f6 f7 hf get
  match cs, hl with
  | [c0, c1, c2, c3, c4, c5, c6, c7], _ =>
    simp at h0 h1 h2 h3 h4 h5 h6 h7
    subst h0 h1 h2 h3 h4 h5 h6 h7
    exact ⟨⟨n0, n1, s2, n3, n4, n5, s6, n7⟩, rfl, w4, w5⟩
theorem add_add' (a : Addr) (x y : Nat) : (a.add x).add y = a.add (x + y) := by
  unfold Addr.add
  by_cases hx : x = 0
  · subst hx; simp
  · by_cases hy : y = 0
    · subst hy; simp
    · have : x + y ≠ 0 := by omega
      simp [hx, hy, Nat.add_assoc]
theorem cells_at {a : Addr} {n : Nat} {cs : List Value} (h : W.cells? 0 a n = some cs) : ∀ j v, cs[j]? = some v → W.cell? (a.add j) = some v := fun j v hj => by
  unfold World.cells? at h
  rw [if_pos (Nat.zero_le _)] at h
  have hl := mapM_some_length h
  have hjl := (List.getElem?_eq_some_iff.1 hj).1
  rw [List.length_range] at hl
  have := mapM_some_get h j j (List.getElem?_range (by omega))
  rw [this]; exact hj
/-- The movements that a slice holds. -/
theorem moves_of {fuel : Nat} {oa : Option Addr} {len cap : Nat} {x : DataW H × List MemPlace} (h : DataW.trod enc Tryz.prog W 0 (fun _ => true) held fuel 22 [.slice oa len cap] = some x) :
    ∃ ms : List Mv, ms.length = len ∧ (∀ m ∈ ms, m.ok) ∧ (len : Int) ≤ 9223372036854775807 ∧ len ≤ cap ∧ (ms = [] ∨ ∃ a, oa = some a ∧ ∀ j v, (ms.flatMap Mv.c)[j]? = some v → W.cell? (a.add j) = some v) := by
  rcases open_slice Tryz.underlying22 h with ⟨h1, _⟩ | ⟨a, l, c, m, n, D, Pl, h1, _, hlc, hcm, hm, _, hel⟩
  · simp at h1; obtain ⟨rfl, rfl, rfl⟩ := h1; exact ⟨[], rfl, (fun m hm => by cases hm), by decide, Nat.le_refl _, Or.inl rfl⟩
  · simp at h1; obtain ⟨rfl, rfl, rfl⟩ := h1
    simp only [if_true] at hm
    subst hm
    have hmax : (maxLen : Nat) ≤ 9223372036854775807 := by decide
    have key : ∀ i, ∃ mv : Mv, i < len → (W.cells? 0 (a.add (i * 8)) 8 = some mv.c ∧ mv.ok) := fun i => by
      by_cases hi : i < len
      · obtain ⟨cs', hc, ht⟩ := hel i (by omega)
        rw [cof47] at hc
        obtain ⟨mv, rfl, hok⟩ := mv_of ht
        exact ⟨mv, fun _ => ⟨hc, hok⟩⟩
      · exact ⟨⟨0, 0, ⟨#[]⟩, 0, 0, 0, ⟨#[]⟩, 0⟩, fun h => absurd h hi⟩
    let f : Nat → Mv := fun i => Classical.choose (key i)
    have hfs : ∀ i, i < len → (W.cells? 0 (a.add (i * 8)) 8 = some (f i).c ∧ (f i).ok) := fun i => Classical.choose_spec (key i)
    refine ⟨(List.range len).map f, by simp, fun mv hmv => ?_, by omega, hlc, .inr ⟨a, rfl, fun j v hj => ?_⟩⟩
    · obtain ⟨i, hi, rfl⟩ := List.mem_map.1 hmv
      exact (hfs i (by simpa using hi)).2
    · have hjl := (List.getElem?_eq_some_iff.1 hj).1
      rw [flat_len (enc := Mv.c) (k := 8) (fun _ => rfl), List.length_map, List.length_range] at hjl
      have hi : j / 8 < len := by omega
      have hx : ((List.range len).map f)[j / 8]? = some (f (j / 8)) := by simp [hi]
      obtain ⟨v', hv'⟩ : ∃ v', (f (j / 8)).c[j % 8]? = some v' := ⟨_, List.getElem?_eq_getElem (show j % 8 < 8 by omega)⟩
      have := flat_get (enc := Mv.c) (k := 8) (fun _ => rfl) _ _ _ hx _ _ hv'
      rw [show j / 8 * 8 + j % 8 = j by omega, hj] at this
      cases this
      have hc := cells_at (hfs _ hi).1 _ _ hv'
      rw [← hc]
      rw [add_add', show j / 8 * 8 + j % 8 = j by omega]
end
theorem gLen : Tryz.prog.globalNamed "accounting/days.lengths" = some 0 := by kernel_rfl
def laid1 : List (String × DataW Unit) := [("accounting/days.lengths", Rows.laid_accounting_days_lengths)]
/-- What the condition gives: the block of the months' lengths. -/
theorem of_laid {W : World} (h : laidMetH Tryz.prog laid1 W) : ∃ t fr, W.heap[0]? = some (.cells ⟨lensC⟩ t fr) := by
  rw [MakeChecks.laidMetH_plain _ _ _ (by kernel_rfl)] at h
  obtain ⟨ps, ⟨g0, t0, cs0, f0, p0, q0, hg0, ht0, hv0, hd0, _, _⟩, _, hfr⟩ := h
  obtain rfl := Option.some.inj (gLen.symm.trans hg0)
  have tl : (Tryz.prog.globals[0]?).map (·.type) = some 149 := by kernel_rfl
  obtain rfl := Option.some.inj (tl.symm.trans ht0)
  obtain ⟨xs, m1, rfl, hx1, hlen, hn, hel⟩ := DataW.trod_array Tryz.underlying149 hd0
  have c149 : Tryz.prog.cellsOf 149 = 12 := by kernel_rfl
  rw [c149] at hlen
  simp only [cof3, Nat.mul_one] at hel
  have hcs : cs0.toList = lensC := by
    simp only [Rows.laid_accounting_days_lengths, Prod.mk.injEq, DataW.agg.injEq] at hx1
    obtain ⟨l⟩ := cs0
    (try simp only at hlen)
    (try simp only at hel)
    (try simp only)
    have get : ∀ i, i < 12 → ∃ (n : Int) (y : DataW Unit × List MemPlace), (l.drop i).take 1 = [.int .i64 n] ∧ xs[i]? = some y ∧ y.1 = .lit (.int .i64 n) := fun i hi => by
      obtain ⟨y, hy⟩ : ∃ y, xs[i]? = some y := ⟨_, List.getElem?_eq_getElem (by omega)⟩
      obtain ⟨n, h1, h2, _⟩ := DataW.trod_int Tryz.underlying3 ((hel i hi).trans hy)
      exact ⟨n, y, h1, hy, by rw [h2]⟩
    have val : ∀ i, i < 12 → ∀ n : Int, ([31, 28, 31, 30, 31, 30, 31, 31, 30, 31, 30, 31] : List Int)[i]? = some n → l[i]? = some (.int .i64 n) := fun i hi n hn' => by
      obtain ⟨n', y, h1, h2, h3⟩ := get i hi
      have h4 : (xs.map (·.1))[i]? = some (.lit (.int .i64 n')) := by rw [List.getElem?_map, h2]; simp [h3]
      rw [← hx1.1] at h4
      have h5 : l[i]? = some (.int .i64 n') := by
        have := congrArg (·[0]?) h1
        simpa [List.getElem?_take] using this
      rw [h5]
      have : i = 0 ∨ i = 1 ∨ i = 2 ∨ i = 3 ∨ i = 4 ∨ i = 5 ∨ i = 6 ∨ i = 7 ∨ i = 8 ∨ i = 9 ∨ i = 10 ∨ i = 11 := by omega
      rcases this with rfl | rfl | rfl | rfl | rfl | rfl | rfl | rfl | rfl | rfl | rfl | rfl <;> (simp at h4 hn'; subst h4; subst hn'; rfl)
    have hll : l.length = 12 := hlen
    show l = lensC
    apply List.ext_getElem?
    intro i
    by_cases hi : i < 12
    · obtain ⟨n, hn'⟩ : ∃ n, lensL[i]? = some n := ⟨_, List.getElem?_eq_getElem (show i < lensL.length from hi)⟩
      rw [val i hi n hn', lensC, List.getElem?_map, hn']; rfl
    · rw [List.getElem?_eq_none (by omega), List.getElem?_eq_none (show lensC.length ≤ i from (by omega : 12 ≤ i))]
  unfold World.var? at hv0
  rw [gLen] at hv0
  simp only [Option.bind_some] at hv0
  split at hv0
  · rename_i cs t fr hh
    cases hv0
    obtain ⟨l⟩ := cs0
    (try simp only at hcs)
    subst hcs
    exact ⟨t, fr, hh⟩
  · cases hv0

/-! from a contract to the row -/
def at1 (b : Nat) (o : Obj) : Hp := fun c => if c = b then some o else none
theorem pt_at1 (b : Nat) (o : Obj) : pt b o (at1 b o) := fun _ => rfl
theorem pt_eq {b : Nat} {o : Obj} {h : Hp} (hp : pt b o h) : h = at1 b o := funext hp
theorem emp_eq {h : Hp} (hp : emp h) : h = fun _ => none := funext hp
/-- A call that only reads what it owns leaves all that was there. -/
theorem ac_below {P : Program} {f : FuncId} {args : Array Value} {R R0 : HP} {hr h0 : Hp} {v : Value} {w : World} (eR : ∀ h, R h → h = hr) (mR : R hr) (e0 : ∀ h, R0 h → h = h0) (m0 : R0 h0) (hd : Hp.disj hr h0) (sR : hr.sub w) (s0 : h0.sub w)
    (h : AC P f args (stars [R, R0]) (Ret v [R, R0])) : Calls P f args w fun e w' => e = .returned v ∧ Below w.heap.size w w' := by
  have hA : stars [R, R0] (Hp.add hr h0) := by
    refine ⟨hr, h0, hd, rfl, mR, h0, fun _ => none, fun b => .inr rfl, ?_, m0, fun _ => rfl⟩
    exact (Hp.add_none' fun _ => rfl).symm
  have hsub : (Hp.add hr h0).sub w := fun b o hb => by
    simp only [Hp.add] at hb
    cases hrb : hr b with
    | some o' => rw [hrb] at hb; cases hb; exact sR b _ hrb
    | none => rw [hrb] at hb; exact s0 b o hb
  refine (h w _ hA hsub).mono ?_
  rintro e w' ⟨r, rfl, ⟨⟨h', hQ, hsub', _⟩, hrest⟩⟩
  obtain ⟨rfl, h1, h23, hd', rfl, hR1, h2, h3, hd2, rfl, hR2, h3e⟩ := hQ
  obtain rfl := eR _ hR1
  obtain rfl := e0 _ hR2
  refine ⟨rfl, hrest.os, hrest.tape, hrest.output, hrest.size, fun k hk => ?_⟩
  have hk2 : Hp.add h1 (Hp.add h2 h3) k = Hp.add h1 h2 k := by rw [Hp.add_none' h3e]
  cases hb : Hp.add h1 h2 k with
  | none => exact hrest.frame k hk hb
  | some o => rw [hsub' k o (hk2.trans hb), hsub k o hb]
theorem lens_rd {t : TypeId} {fr : Nat × Nat} : Rd (pt 0 (.cells ⟨lensC⟩ t fr)) ⟨0, 0, none⟩ lensC := fun h hp => ⟨⟨lensC⟩, t, fr, by rw [hp]; simp, rfl, fun j v hj => by simpa using hj⟩
/-- A law over values and a list of movements: what its contract gives the row. -/
theorem law_gen {f : FuncId} {xs ys : List Value} {oa : Option Addr} {len cap : Nat} (hac : ∀ (R : HP) (ms : List Mv), ms.length = len → RdS R oa (ms.flatMap Mv.c) → (ms.length : Int) ≤ 9223372036854775807 → (∀ m ∈ ms, m.ok) → ms.length ≤ cap → ∀ R0 : HP, Rd R0 ⟨0, 0, none⟩ lensC → AC Tryz.prog f ⟨xs ++ [.slice oa len cap] ++ ys⟩ (stars [R, R0]) (Ret (Bo true) [R, R0]))
    {H : Type} {enc : TypeId × Value → H} {W : World} {held : Bool} {fuel : Nat} {x : DataW H × List MemPlace} (h : DataW.trod enc Tryz.prog W 0 (fun _ => true) held fuel 22 [.slice oa len cap] = some x) (hL : laidMetH Tryz.prog laid1 W) :
    Calls Tryz.prog f ⟨xs ++ [.slice oa len cap] ++ ys⟩ W fun e w' => e = .returned (.bool true) ∧ Below W.heap.size W w' := by
  obtain ⟨t, fr, h0⟩ := of_laid hL
  obtain ⟨ms, rfl, hok, hlen, hcap, hms⟩ := moves_of h
  have s0 : (at1 0 (.cells ⟨lensC⟩ t fr)).sub W := fun b o hb => by
    unfold at1 at hb
    split at hb
    · rename_i hb0; cases hb; rw [hb0]; exact h0
    · cases hb
  rcases hms with rfl | ⟨a, rfl, hcell⟩
  · exact ac_below (R := emp) (hr := fun _ => none) (fun _ => emp_eq) (fun _ => rfl) (fun _ => pt_eq) (pt_at1 _ _) (fun _ => .inl rfl) (fun _ _ hb => by cases hb) s0 (hac emp [] rfl RdS.nil hlen hok hcap _ lens_rd)
  · by_cases hnil : ms = []
    · subst hnil
      exact ac_below (R := emp) (hr := fun _ => none) (fun _ => emp_eq) (fun _ => rfl) (fun _ => pt_eq) (pt_at1 _ _) (fun _ => .inl rfl) (fun _ _ hb => by cases hb) s0 (hac emp [] rfl RdS.nil hlen hok hcap _ lens_rd)
    · obtain ⟨m, ms', rfl⟩ : ∃ m ms', ms = m :: ms' := by
        cases ms with
        | nil => exact absurd rfl hnil
        | cons m ms' => exact ⟨m, ms', rfl⟩
      have c0 := hcell 0 (I m.seq) rfl
      have c2 := hcell 2 (St m.item) rfl
      obtain ⟨blk0, off, spot⟩ := a
      have hspot : spot = none := by
        unfold World.cell? at c0
        split at c0
        · split at c0
          · cases c0
          · rename_i hs; cases spot with
            | none => rfl
            | some s => simp [Addr.add] at hs
        · cases c0
      subst hspot
      obtain ⟨o, ho⟩ : ∃ o, W.heap[blk0]? = some o := by
        unfold World.cell? at c0
        split at c0
        · rename_i c t' fr' hh; exact ⟨_, hh⟩
        · cases c0
      have hb0 : blk0 ≠ 0 := by
        rintro rfl
        rw [h0] at ho
        rw [Addr.add_eq rfl] at c2
        simp only [World.cell?, h0, Option.isSome_none, Bool.false_eq_true, if_false, List.getElem?_toArray] at c2
        have hall : ∀ v ∈ lensC, ∃ n, v = Value.int .i64 n := by
          intro v hv
          obtain ⟨n, _, rfl⟩ := List.mem_map.1 hv
          exact ⟨n, rfl⟩
        obtain ⟨n, hn⟩ := hall _ (List.mem_of_getElem? c2)
        cases hn
      refine ac_below (R := pt blk0 o) (hr := at1 blk0 o) (fun _ => pt_eq) (pt_at1 _ _) (fun _ => pt_eq) (pt_at1 _ _) (fun b => ?_) (fun b o' hb => ?_) s0 (hac (pt blk0 o) _ rfl (Rd.rds ?_) hlen hok hcap _ lens_rd)
      · by_cases e : b = 0
        · left; subst e; simp [at1, Ne.symm hb0]
        · right; simp [at1, e]
      · unfold at1 at hb
        split at hb
        · rename_i e; cases hb; rw [e]; exact ho
        · cases hb
      · intro h hp
        have c0' := c0
        unfold World.cell? at c0'
        rw [show ((⟨blk0, off, none⟩ : Addr).add 0).block = blk0 by rw [Addr.add_eq rfl], ho] at c0'
        match o, ho with
        | .cells cs t' fr', ho =>
          refine ⟨cs, t', fr', by rw [hp]; simp, rfl, fun j v hj => ?_⟩
          have := hcell j v hj
          rw [Addr.add_eq rfl] at this
          simpa only [World.cell?, ho, Option.isSome_none, Bool.false_eq_true, if_false] using this
        | .map es c, ho => cases c0'
theorem law_calls {f : FuncId} (hac : ∀ (k p : Int) (R : HP) (oa : Option Addr) (cap : Nat) (ms : List Mv), RdS R oa (ms.flatMap Mv.c) → (ms.length : Int) ≤ 9223372036854775807 → (∀ m ∈ ms, m.ok) → ms.length ≤ cap → ∀ R0 : HP, Rd R0 ⟨0, 0, none⟩ lensC → AC Tryz.prog f ⟨[I k, I p, .slice oa ms.length cap]⟩ (stars [R, R0]) (Ret (Bo true) [R, R0]))
    {H : Type} {enc : TypeId × Value → H} {W : World} {held : Bool} {fuel : Nat} {oa : Option Addr} {len cap : Nat} {x : DataW H × List MemPlace} (k p : Int) (h : DataW.trod enc Tryz.prog W 0 (fun _ => true) held fuel 22 [.slice oa len cap] = some x) (hL : laidMetH Tryz.prog laid1 W) :
    Calls Tryz.prog f #[I k, I p, .slice oa len cap] W fun e w' => e = .returned (.bool true) ∧ Below W.heap.size W w' :=
  law_gen (xs := [I k, I p]) (ys := []) (fun R ms hl hR hlen hms hcap R0 hR0 => by subst hl; exact hac k p R oa cap ms hR hlen hms hcap R0 hR0) h hL
theorem knob0 : ownKnob Tryz.prog.godebug = none := by kernel_rfl
theorem laidOut : laidOutB Tryz.prog = true := by kernel_rfl
theorem door_met (os : Os) (args : Array Value) : laidMetH Tryz.prog laid1 ((World.doorLaid Tryz.prog 400 os).forCall (fun _ _ => 0) ⟨#[], args, []⟩).memory :=
  laidMetH_of_parts3 (fuel := 8) (laidMet_of_run' 8 (by kernel_rfl) (by kernel_rfl)) (by kernel_rfl) (by kernel_rfl)
end Go.Proofs.YtdcchollplhioaaGreatDoor
