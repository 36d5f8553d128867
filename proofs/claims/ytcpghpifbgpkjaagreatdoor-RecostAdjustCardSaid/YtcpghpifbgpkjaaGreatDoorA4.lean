/- Laws of the walks and of the models, part 4. Merged by program out of: WO WB WE WP WQ WR WS WT WU WV WX WY WZ VA VB VC VD. -/
import Derived.Test.YtcpghpifbgpkjaaGreatDoorA3
set_option linter.unusedVariables false
set_option linter.unusedSimpArgs false
set_option maxRecDepth 20000
set_option maxHeartbeats 4000000
namespace Go.Proofs.YtcpghpifbgpkjaaGreatDoor
open Go Go.SL Go.Proofs
section
attribute [local irreducible] OpJ RunL Run RunD DetJ pt own star Rd RdS
end
theorem acd33 (bx : Nat) (t : Sk) (m : Mv) (c : Co) (la : Option Addr) (nl lc : Nat) (pa : Option Addr) (np pc : Nat) (enl : nl = t.layers.length) (enp : np = t.past.length) (ht : t.ok 999999) (hm : m.ok) (hk : m.kind = 1) : AC Tryz.prog 90 ⟨[.pointer (some ⟨bx, 0, none⟩)]⟩ (stars [pt bx (blk (XC t m c la nl lc pa np pc) 142), own 96 4 la nl lc ((t.layers).flatMap Ly.c), own 98 7 pa np pc ((t.past).flatMap Pa.c)]) (Outs (fun _ : Option Addr × Nat × Option Addr × Nat => True) (fun _ => I (errOf (fDo t m c))) (fun x => Aft 142 96 98 bx m (fDo t m c) x)) := by
  rw [fDo_1 hk]; exact ac33 bx t m c la nl lc pa np pc enl enp ht hm
section
attribute [local irreducible] OpJ RunL Run RunD DetJ pt own star Rd RdS
end
theorem acd34 (bx : Nat) (t : Sk) (m : Mv) (c : Co) (la : Option Addr) (nl lc : Nat) (pa : Option Addr) (np pc : Nat) (enl : nl = t.layers.length) (enp : np = t.past.length) (ht : t.ok 999999) (hm : m.ok) (hk : m.kind = 2) : AC Tryz.prog 91 ⟨[.pointer (some ⟨bx, 0, none⟩)]⟩ (stars [pt bx (blk (XC t m c la nl lc pa np pc) 142), own 96 4 la nl lc ((t.layers).flatMap Ly.c), own 98 7 pa np pc ((t.past).flatMap Pa.c)]) (Outs (fun _ : Option Addr × Nat × Option Addr × Nat => True) (fun _ => I (errOf (fDo t m c))) (fun x => Aft 142 96 98 bx m (fDo t m c) x)) := by
  rw [fDo_2 hk]; exact ac34 bx t m c la nl lc pa np pc enl enp ht hm
section
attribute [local irreducible] OpJ RunL Run RunD DetJ pt own star Rd RdS
end
theorem acd35 (bx : Nat) (t : Sk) (m : Mv) (c : Co) (la : Option Addr) (nl lc : Nat) (pa : Option Addr) (np pc : Nat) (enl : nl = t.layers.length) (enp : np = t.past.length) (ht : t.ok 999999) (hm : m.ok) (hk : m.kind = 3) : AC Tryz.prog 92 ⟨[.pointer (some ⟨bx, 0, none⟩)]⟩ (stars [pt bx (blk (XC t m c la nl lc pa np pc) 142), own 96 4 la nl lc ((t.layers).flatMap Ly.c), own 98 7 pa np pc ((t.past).flatMap Pa.c)]) (Outs (fun _ : Option Addr × Nat × Option Addr × Nat => True) (fun _ => I (errOf (fDo t m c))) (fun x => Aft 142 96 98 bx m (fDo t m c) x)) := by
  rw [fDo_3 hk]; exact ac35 bx t m c la nl lc pa np pc enl enp ht hm
section
attribute [local irreducible] OpJ RunL Run RunD DetJ pt own star Rd RdS
end
theorem acd36 (bx : Nat) (t : Sk) (m : Mv) (c : Co) (la : Option Addr) (nl lc : Nat) (pa : Option Addr) (np pc : Nat) (enl : nl = t.layers.length) (enp : np = t.past.length) (ht : t.ok 999999) (hm : m.ok) (hk : m.kind = 4) : AC Tryz.prog 93 ⟨[.pointer (some ⟨bx, 0, none⟩)]⟩ (stars [pt bx (blk (XC t m c la nl lc pa np pc) 142), own 96 4 la nl lc ((t.layers).flatMap Ly.c), own 98 7 pa np pc ((t.past).flatMap Pa.c)]) (Outs (fun _ : Option Addr × Nat × Option Addr × Nat => True) (fun _ => I (errOf (fDo t m c))) (fun x => Aft 142 96 98 bx m (fDo t m c) x)) := by
  rw [fDo_4 hk]; exact ac36 bx t m c la nl lc pa np pc enl enp ht hm
section
attribute [local irreducible] OpJ RunL Run RunD DetJ pt own star Rd RdS
end
theorem acd37 (bx : Nat) (t : Sk) (m : Mv) (c : Co) (la : Option Addr) (nl lc : Nat) (pa : Option Addr) (np pc : Nat) (enl : nl = t.layers.length) (enp : np = t.past.length) (ht : t.ok 999999) (hm : m.ok) (hk : m.kind = 5) : AC Tryz.prog 94 ⟨[.pointer (some ⟨bx, 0, none⟩)]⟩ (stars [pt bx (blk (XC t m c la nl lc pa np pc) 142), own 96 4 la nl lc ((t.layers).flatMap Ly.c), own 98 7 pa np pc ((t.past).flatMap Pa.c)]) (Outs (fun _ : Option Addr × Nat × Option Addr × Nat => True) (fun _ => I (errOf (fDo t m c))) (fun x => Aft 142 96 98 bx m (fDo t m c) x)) := by
  rw [fDo_5 hk]; exact ac37 bx t m c la nl lc pa np pc enl enp ht hm
section
attribute [local irreducible] OpJ RunL Run RunD DetJ pt own star Rd RdS
end
theorem acd32 (A : HP) (t : Sk) (m : Mv) (c : Co) (hk : ¬ m.kind = 1 ∧ ¬ m.kind = 2 ∧ ¬ m.kind = 3 ∧ ¬ m.kind = 4 ∧ ¬ m.kind = 5) : AC Tryz.prog 89 ⟨[]⟩ A (Outs (fun _ : Option Addr × Nat × Option Addr × Nat => True) (fun _ => I (errOf (fDo t m c))) (fun x => Aft 142 96 98 0 m (fDo t m c) x)) := by
  rw [fDo_0 hk]; exact AC.drop ac32 fun r h hh => ⟨(none, 0, none, 0), ⟨trivial, hh.1⟩, hh.2⟩
section
attribute [local irreducible] OpJ RunL Run RunD DetJ pt own star Rd RdS
-- fifo.Step
theorem ac20 (s : Sk) (m : Mv) (la : Option Addr) (lc : Nat) (pa : Option Addr) (pc : Nat) (RL RP : HP) (hs : s.ok 999999) (hm : m.ok) (hRL : RdS RL la (s.layers.flatMap Ly.c)) (hRP : RdS RP pa (s.past.flatMap Pa.c)) (R0 : HP) (hR0 : Rd R0 ⟨0, 0, none⟩ lensC) : AC Tryz.prog 72 ⟨[.agg ⟨s.c la lc pa pc⟩, .agg ⟨m.c⟩]⟩ (stars [RL, RP, R0]) (Outs (fun _ : Option Addr × Nat × Option Addr × Nat => True) (fun x => StV (fStep s m) x) (fun x => StB 96 98 (fStep s m) x ++ [RL, RP, R0])) := by
 have hn : s.layers.length ≤ 1000000 ∧ s.past.length ≤ 1000000 := ⟨Nat.le_trans hs.nl (by decide), Nat.le_trans hs.np (by decide)⟩
 refine AC.go Tryz.func72 rfl (Nat.le_of_ble_eq_true rfl) fun β => ?_
 refine sr ?_
 refine RunL.op rfl rfl (OpJ.boxA rfl fun b2 => ?_)
 refine RunL.op rfl rfl (OpJ.boxA rfl fun b3 => ?_)
 refine RunL.op rfl rfl (OpJ.alloc Z28 fun b4 => ?_)
 refine RunL.op rfl rfl (OpJ.alloc Z43 fun b5 => ?_)
 refine asg rfl rfl ?_
 refine kp [2, 3, 4, 5] rfl ?_
 refine Run.seq ?_
 refine regionD HM ?_
 first | refine RunD.takeW 0 rfl rfl kr T28 rfl pk (by rfl) ?_ | refine RunD.takeP 0 rfl rfl kr T28 rfl pk (by simp) ?_ | refine RunD.takeE 0 rfl rfl kr T28 rfl pk (by assumption) (by exact fun _ => rfl) rfl (by decide) ?_
 first | refine RunD.takeW 2 rfl rfl kr T47 rfl pk (by rfl) ?_ | refine RunD.takeP 2 rfl rfl kr T47 rfl pk (by simp) ?_ | refine RunD.takeE 2 rfl rfl kr T47 rfl pk (by assumption) (by exact fun _ => rfl) rfl (by decide) ?_
 refine tk 3 rfl rfl rfl (DetJ.fieldAddr F47_0 rfl) ?_
 first | refine RunD.takeF 4 rfl rfl kr T3 rfl pk (by rfl) ?_ | refine RunD.takeO 4 rfl rfl kr T3 rfl pk (by assumption) (by rfl) (by exact fun _ => rfl) ?_
 refine RunD.takeB 5 rfl rfl kr B43 rfl rfl fun cs hcs => ?_
 simp only [Sk.c, Mv.c, Co.c, bldL, bldA, Value.cells, bs, Nat.reduceAdd, Nat.reduceLeDiff, Nat.reduceLT] at hcs; subst hcs
 refine RunD.op 1 [true, true, true, true, false] rfl rfl rfl kr kr (OpJ.callOuts C29 rfl rfl (ac29 s la lc pa pc RL RP ⟨Nat.le_trans hs.nl (by decide), Nat.le_trans hs.np (by decide), hs.ly, hs.pa, hs.q, hs.v, hs.pr⟩ hRL hRP) tks fun ⟨bl, bp⟩ _ => ⟨po, ?_⟩)
 refine RunD.takeB 6 rfl rfl kr B70 rfl rfl fun cs hcs => ?_
 simp only [Sk.c, Mv.c, Co.c, bldL, bldA, Value.cells, bs, Nat.reduceAdd, Nat.reduceLeDiff, Nat.reduceLT] at hcs; subst hcs
 refine RunD.op 7 [false, false, false, true, false] rfl rfl rfl kr kr (OpJ.boxA rfl fun b18 => ⟨po, ?_⟩)
 refine tk 8 rfl rfl rfl (DetJ.assign rfl) ?_
 refine kd [3, 4, 5, 7] rfl ?_
 refine Run.seq ?_
 refine sr ?_
 refine sx 1 ?_
 refine RunL.call C30 rfl rfl rfl (ac30 _ _ hR0) tks ?_
 refine asg rfl rfl ?_
 refine kp [3, 4, 5, 7, 8] rfl ?_
 refine sr ?_
 refine sx 2 ?_
 refine kp [3, 4, 5, 7, 8, 22] rfl ?_
 first | refine Run.if rfl (fun h1 => ?_) (fun h1 => ?_) | refine Run.cond rfl (fun h1 => ?_) (fun h1 => ?_)
 refine sr ?_
 refine sx 6 ?_
 refine kp [4, 5, 6] rfl ?_
 refine Run.ret ?_
 have hres2 : fStep s m = .error m.one := (by unfold fStep; rw [if_pos h1]); refine ret_out (none, 0, none, 0) (.cellA T28 rfl pk (by rfl) (.cellA T43 rfl pk (by rfl) (.tmp rfl .nil))) trivial (by rw [hres2]; rfl) ?_; rw [hres2]; exact gv
 refine Run.skip ?_
 refine Run.seq ?_
 refine sr ?_
 refine sx 3 ?_
 refine RunL.call C31 rfl rfl rfl (ac31 b18 s m ⟨m.seq, 0, 0, 0⟩ _ _ _ _ _ _ 0 m.seq rfl rfl hn) tks ?_
 refine sx 1 ?_
 refine kp [3, 4, 5, 7, 30] rfl ?_
 first | refine Run.if rfl (fun h2 => ?_) (fun h2 => ?_) | refine Run.cond rfl (fun h2 => ?_) (fun h2 => ?_)
 refine sr ?_
 refine sx 5 ?_
 refine kp [4, 5, 6] rfl ?_
 refine Run.ret ?_
 have hres2 : fStep s m = .error 8 := (by unfold fStep; rw [if_neg h1, if_pos (by rw [← ptrOf_isSome (a := ⟨bp, 0, none⟩) (k := 7)]; exact h2)]); refine ret_out (none, 0, none, 0) (.cellA T28 rfl pk (by rfl) (.cellA T43 rfl pk (by rfl) (.tmp rfl .nil))) trivial (by rw [hres2]; rfl) ?_; rw [hres2]; exact gv
 refine Run.skip ?_
 refine sr ?_
 refine asg rfl rfl ?_
 refine kp [3, 4, 5, 7, 9] rfl ?_
 refine Run.seq ?_
 refine sr ?_
 refine sx 2 ?_
 refine kp [4, 5, 7, 9, 34] rfl ?_
 refine Run.block ?_
 refine sr ?_
 refine sx 2 ?_
 refine kp [4, 5, 7, 9, 34, 35] rfl ?_
 first | refine Run.if rfl (fun h3 => ?_) (fun h3 => ?_) | refine Run.cond rfl (fun h3 => ?_) (fun h3 => ?_)
 refine Run.region ?_
 refine sx 3 ?_
 refine kp [4, 5, 7, 9] rfl ?_
 refine Run.seq ?_
 refine sr ?_
 refine mvo rfl rfl ?_
 refine RunL.callX C33 rfl rfl rfl (acd33 b18 s m ⟨m.seq, 0, 0, 0⟩ _ _ _ _ _ _ rfl rfl hs hm (by assumption)) tks fun ⟨la2, lc2, pa2, pc2⟩ _ => ?_
 rcases hres : fDo s m ⟨m.seq, 0, 0, 0⟩ with e | ⟨t, c⟩
 refine asg rfl rfl ?_
 refine kp [4, 5, 7, 10] rfl ?_
 refine sr ?_
 refine sx 2 ?_
 first | refine RunL.set (congrArg Value.bool (decide_eq_true (show errOf (Except.error _) ≠ 0 from fDo_err hres))) ?_ | skip
 refine kp [4, 5, 7, 10, 58] rfl ?_
 refine Run.true rfl ?_
 refine sr ?_
 refine sx 6 ?_
 refine kp [4, 5, 6] rfl ?_
 refine Run.ret ?_
 have hres2 : fStep s m = .error e := (by unfold fStep; rw [if_neg h1, if_neg (by rw [← ptrOf_isSome (a := ⟨bp, 0, none⟩) (k := 7)]; simp [h2]), hres]); refine ret_out (none, 0, none, 0) (.cellA T28 rfl pk (by rfl) (.cellA T43 rfl pk (by rfl) (.tmp rfl .nil))) trivial (by rw [hres2]; rfl) ?_; rw [hres2]; exact gv
 have hto := fDo_ok hs hm hres
 have hnt : (summed t c).layers.length ≤ 1000000 ∧ (summed t c).past.length ≤ 1000000 := ⟨hto.nl, hto.np⟩
 refine asg rfl rfl ?_
 refine kp [4, 5, 7, 10] rfl ?_
 refine sr ?_
 refine sx 2 ?_
 first | refine RunL.set (congrArg Value.bool (decide_eq_true (show errOf (Except.error _) ≠ 0 from fDo_err hres))) ?_ | skip
 refine kp [4, 5, 7, 10, 58] rfl ?_
 refine Run.false rfl ?_
 refine Run.skip ?_
 refine Run.seq ?_
 refine regionD HM ?_
 refine tk 0 rfl rfl rfl (DetJ.move rfl) ?_
 refine tk 1 rfl rfl rfl (DetJ.nilCheck rfl) ?_
 refine tk 2 rfl rfl rfl (DetJ.fieldAddr F70_0 rfl) ?_
 refine tk 3 rfl rfl rfl (DetJ.fieldAddr F28_0 rfl) ?_
 first | refine RunD.takeF 4 rfl rfl kr T3 rfl pk (by rfl) ?_ | refine RunD.takeO 4 rfl rfl kr T3 rfl pk (by assumption) (by rfl) (by exact fun _ => rfl) ?_
 refine tk 5 rfl rfl rfl (DetJ.move rfl) ?_
 refine tk 6 rfl rfl rfl (DetJ.nilCheck rfl) ?_
 refine tk 7 rfl rfl rfl (DetJ.fieldAddr F70_2 rfl) ?_
 refine tk 8 rfl rfl rfl (DetJ.fieldAddr F43_1 rfl) ?_
 first | refine RunD.takeF 9 rfl rfl kr T3 rfl pk (by rfl) ?_ | refine RunD.takeO 9 rfl rfl kr T3 rfl pk (by assumption) (by rfl) (by exact fun _ => rfl) ?_
 refine tk 10 rfl rfl rfl (DetJ.add rfl rfl) ?_
 refine tk 11 rfl rfl rfl (DetJ.nilCheck rfl) ?_
 refine tk 12 rfl rfl rfl (DetJ.fieldAddr F70_0 rfl) ?_
 refine tk 13 rfl rfl rfl (DetJ.fieldAddr F28_0 rfl) ?_
 refine RunD.op 14 [false, false, false, false, false, false, false, false, false, false, false, false, false, false] rfl rfl rfl kr kr (OpJ.store1 T3 rfl rfl rfl up (by simp) ⟨po, ?_⟩)
 refine kd [4, 5, 7] rfl ?_
 refine Run.seq ?_
 refine regionD HM ?_
 refine tk 0 rfl rfl rfl (DetJ.move rfl) ?_
 refine tk 1 rfl rfl rfl (DetJ.nilCheck rfl) ?_
 refine tk 2 rfl rfl rfl (DetJ.fieldAddr F70_0 rfl) ?_
 refine tk 3 rfl rfl rfl (DetJ.fieldAddr F28_1 rfl) ?_
 first | refine RunD.takeF 4 rfl rfl kr T3 rfl pk (by rfl) ?_ | refine RunD.takeO 4 rfl rfl kr T3 rfl pk (by assumption) (by rfl) (by exact fun _ => rfl) ?_
 refine tk 5 rfl rfl rfl (DetJ.move rfl) ?_
 refine tk 6 rfl rfl rfl (DetJ.nilCheck rfl) ?_
 refine tk 7 rfl rfl rfl (DetJ.fieldAddr F70_2 rfl) ?_
 refine tk 8 rfl rfl rfl (DetJ.fieldAddr F43_2 rfl) ?_
 first | refine RunD.takeF 9 rfl rfl kr T3 rfl pk (by rfl) ?_ | refine RunD.takeO 9 rfl rfl kr T3 rfl pk (by assumption) (by rfl) (by exact fun _ => rfl) ?_
 refine tk 10 rfl rfl rfl (DetJ.add rfl rfl) ?_
 refine tk 11 rfl rfl rfl (DetJ.nilCheck rfl) ?_
 refine tk 12 rfl rfl rfl (DetJ.fieldAddr F70_0 rfl) ?_
 refine tk 13 rfl rfl rfl (DetJ.fieldAddr F28_1 rfl) ?_
 refine RunD.op 14 [false, false, false, false, false, false, false, false, false, false, false, false, false, false] rfl rfl rfl kr kr (OpJ.store1 T3 rfl rfl rfl up (by simp) ⟨po, ?_⟩)
 refine kd [4, 5, 7] rfl ?_
 refine Run.seq ?_
 refine sr ?_
 refine mvo rfl rfl ?_
 refine RunL.call C38 rfl rfl rfl (ac38 b18 (summed t c) m c _ _ _ _ _ _ rfl rfl hnt) tks ?_
 refine kp [4, 5, 7, 91] rfl ?_
 first | refine Run.if rfl (fun h4 => ?_) (fun h4 => ?_) | refine Run.cond rfl (fun h4 => ?_) (fun h4 => ?_)
 refine sr ?_
 refine sx 5 ?_
 refine kp [4, 5, 6] rfl ?_
 refine Run.ret ?_
 have hres2 : fStep s m = .error 4 := (by unfold fStep; rw [if_neg h1, if_neg (by rw [← ptrOf_isSome (a := ⟨bp, 0, none⟩) (k := 7)]; simp [h2]), hres]; exact if_pos (by assumption)); refine ret_out (none, 0, none, 0) (.cellA T28 rfl pk (by rfl) (.cellA T43 rfl pk (by rfl) (.tmp rfl .nil))) trivial (by rw [hres2]; rfl) ?_; rw [hres2]; exact gv
 refine Run.skip ?_
 refine Run.seq ?_
 refine regionD HM ?_
 refine tk 0 rfl rfl rfl (DetJ.move rfl) ?_
 refine tk 1 rfl rfl rfl (DetJ.nilCheck rfl) ?_
 refine tk 2 rfl rfl rfl (DetJ.fieldAddr F70_0 rfl) ?_
 first | refine RunD.takeW 3 rfl rfl kr T28 rfl pk (by rfl) ?_ | refine RunD.takeP 3 rfl rfl kr T28 rfl pk (by simp) ?_ | refine RunD.takeE 3 rfl rfl kr T28 rfl pk (by assumption) (by exact fun _ => rfl) rfl (by decide) ?_
 refine tk 4 rfl rfl rfl (DetJ.move rfl) ?_
 refine tk 5 rfl rfl rfl (DetJ.nilCheck rfl) ?_
 refine tk 6 rfl rfl rfl (DetJ.fieldAddr F70_2 rfl) ?_
 first | refine RunD.takeW 7 rfl rfl kr T43 rfl pk (by rfl) ?_ | refine RunD.takeP 7 rfl rfl kr T43 rfl pk (by simp) ?_ | refine RunD.takeE 7 rfl rfl kr T43 rfl pk (by assumption) (by exact fun _ => rfl) rfl (by decide) ?_
 refine RunD.op 8 [true, true, true, true, false, false, false, false] rfl rfl rfl kr kr (OpJ.storeW T28 rfl rfl rfl rfl (by simp [Value.oneCell', Pa.c, Ly.c, Mv.c, Co.c]) up ⟨po, ?_⟩)
 refine RunD.op 9 [false, false, false, false] rfl rfl rfl kr kr (OpJ.storeW T43 rfl rfl rfl rfl (by simp [Value.oneCell', Pa.c, Ly.c, Mv.c, Co.c]) up ⟨po, ?_⟩)
 refine tk 10 rfl rfl rfl (DetJ.assign rfl) ?_
 refine kd [4, 5, 6] rfl ?_
 refine Run.ret ?_
 have hres2 : fStep s m = .ok (summed t c, c) := (by unfold fStep; rw [if_neg h1, if_neg (by rw [← ptrOf_isSome (a := ⟨bp, 0, none⟩) (k := 7)]; simp [h2]), hres]; exact if_neg (by simp only [*]; decide)); refine ret_out (la2, lc2, pa2, pc2) (.cellA T28 rfl pk (by rfl) (.cellA T43 rfl pk (by rfl) (.tmp rfl .nil))) trivial (by rw [hres2]; rfl) ?_; rw [hres2]; exact gv
 refine sr ?_
 refine sx 2 ?_
 refine kp [4, 5, 7, 9, 34, 39] rfl ?_
 first | refine Run.if rfl (fun h5 => ?_) (fun h5 => ?_) | refine Run.cond rfl (fun h5 => ?_) (fun h5 => ?_)
 refine Run.region ?_
 refine sx 3 ?_
 refine kp [4, 5, 7, 9] rfl ?_
 refine Run.seq ?_
 refine sr ?_
 refine mvo rfl rfl ?_
 refine RunL.callX C34 rfl rfl rfl (acd34 b18 s m ⟨m.seq, 0, 0, 0⟩ _ _ _ _ _ _ rfl rfl hs hm (by assumption)) tks fun ⟨la2, lc2, pa2, pc2⟩ _ => ?_
 rcases hres : fDo s m ⟨m.seq, 0, 0, 0⟩ with e | ⟨t, c⟩
 refine asg rfl rfl ?_
 refine kp [4, 5, 7, 10] rfl ?_
 refine sr ?_
 refine sx 2 ?_
 first | refine RunL.set (congrArg Value.bool (decide_eq_true (show errOf (Except.error _) ≠ 0 from fDo_err hres))) ?_ | skip
 refine kp [4, 5, 7, 10, 58] rfl ?_
 refine Run.true rfl ?_
 refine sr ?_
 refine sx 6 ?_
 refine kp [4, 5, 6] rfl ?_
 refine Run.ret ?_
 have hres2 : fStep s m = .error e := (by unfold fStep; rw [if_neg h1, if_neg (by rw [← ptrOf_isSome (a := ⟨bp, 0, none⟩) (k := 7)]; simp [h2]), hres]); refine ret_out (none, 0, none, 0) (.cellA T28 rfl pk (by rfl) (.cellA T43 rfl pk (by rfl) (.tmp rfl .nil))) trivial (by rw [hres2]; rfl) ?_; rw [hres2]; exact gv
 have hto := fDo_ok hs hm hres
 have hnt : (summed t c).layers.length ≤ 1000000 ∧ (summed t c).past.length ≤ 1000000 := ⟨hto.nl, hto.np⟩
 refine asg rfl rfl ?_
 refine kp [4, 5, 7, 10] rfl ?_
 refine sr ?_
 refine sx 2 ?_
 first | refine RunL.set (congrArg Value.bool (decide_eq_true (show errOf (Except.error _) ≠ 0 from fDo_err hres))) ?_ | skip
 refine kp [4, 5, 7, 10, 58] rfl ?_
 refine Run.false rfl ?_
 refine Run.skip ?_
 refine Run.seq ?_
 refine regionD HM ?_
 refine tk 0 rfl rfl rfl (DetJ.move rfl) ?_
 refine tk 1 rfl rfl rfl (DetJ.nilCheck rfl) ?_
 refine tk 2 rfl rfl rfl (DetJ.fieldAddr F70_0 rfl) ?_
 refine tk 3 rfl rfl rfl (DetJ.fieldAddr F28_0 rfl) ?_
 first | refine RunD.takeF 4 rfl rfl kr T3 rfl pk (by rfl) ?_ | refine RunD.takeO 4 rfl rfl kr T3 rfl pk (by assumption) (by rfl) (by exact fun _ => rfl) ?_
 refine tk 5 rfl rfl rfl (DetJ.move rfl) ?_
 refine tk 6 rfl rfl rfl (DetJ.nilCheck rfl) ?_
 refine tk 7 rfl rfl rfl (DetJ.fieldAddr F70_2 rfl) ?_
 refine tk 8 rfl rfl rfl (DetJ.fieldAddr F43_1 rfl) ?_
 first | refine RunD.takeF 9 rfl rfl kr T3 rfl pk (by rfl) ?_ | refine RunD.takeO 9 rfl rfl kr T3 rfl pk (by assumption) (by rfl) (by exact fun _ => rfl) ?_
 refine tk 10 rfl rfl rfl (DetJ.add rfl rfl) ?_
 refine tk 11 rfl rfl rfl (DetJ.nilCheck rfl) ?_
 refine tk 12 rfl rfl rfl (DetJ.fieldAddr F70_0 rfl) ?_
 refine tk 13 rfl rfl rfl (DetJ.fieldAddr F28_0 rfl) ?_
 refine RunD.op 14 [false, false, false, false, false, false, false, false, false, false, false, false, false, false] rfl rfl rfl kr kr (OpJ.store1 T3 rfl rfl rfl up (by simp) ⟨po, ?_⟩)
 refine kd [4, 5, 7] rfl ?_
 refine Run.seq ?_
 refine regionD HM ?_
 refine tk 0 rfl rfl rfl (DetJ.move rfl) ?_
 refine tk 1 rfl rfl rfl (DetJ.nilCheck rfl) ?_
 refine tk 2 rfl rfl rfl (DetJ.fieldAddr F70_0 rfl) ?_
 refine tk 3 rfl rfl rfl (DetJ.fieldAddr F28_1 rfl) ?_
 first | refine RunD.takeF 4 rfl rfl kr T3 rfl pk (by rfl) ?_ | refine RunD.takeO 4 rfl rfl kr T3 rfl pk (by assumption) (by rfl) (by exact fun _ => rfl) ?_
 refine tk 5 rfl rfl rfl (DetJ.move rfl) ?_
 refine tk 6 rfl rfl rfl (DetJ.nilCheck rfl) ?_
 refine tk 7 rfl rfl rfl (DetJ.fieldAddr F70_2 rfl) ?_
 refine tk 8 rfl rfl rfl (DetJ.fieldAddr F43_2 rfl) ?_
 first | refine RunD.takeF 9 rfl rfl kr T3 rfl pk (by rfl) ?_ | refine RunD.takeO 9 rfl rfl kr T3 rfl pk (by assumption) (by rfl) (by exact fun _ => rfl) ?_
 refine tk 10 rfl rfl rfl (DetJ.add rfl rfl) ?_
 refine tk 11 rfl rfl rfl (DetJ.nilCheck rfl) ?_
 refine tk 12 rfl rfl rfl (DetJ.fieldAddr F70_0 rfl) ?_
 refine tk 13 rfl rfl rfl (DetJ.fieldAddr F28_1 rfl) ?_
 refine RunD.op 14 [false, false, false, false, false, false, false, false, false, false, false, false, false, false] rfl rfl rfl kr kr (OpJ.store1 T3 rfl rfl rfl up (by simp) ⟨po, ?_⟩)
 refine kd [4, 5, 7] rfl ?_
 refine Run.seq ?_
 refine sr ?_
 refine mvo rfl rfl ?_
 refine RunL.call C38 rfl rfl rfl (ac38 b18 (summed t c) m c _ _ _ _ _ _ rfl rfl hnt) tks ?_
 refine kp [4, 5, 7, 91] rfl ?_
 first | refine Run.if rfl (fun h6 => ?_) (fun h6 => ?_) | refine Run.cond rfl (fun h6 => ?_) (fun h6 => ?_)
 refine sr ?_
 refine sx 5 ?_
 refine kp [4, 5, 6] rfl ?_
 refine Run.ret ?_
 have hres2 : fStep s m = .error 4 := (by unfold fStep; rw [if_neg h1, if_neg (by rw [← ptrOf_isSome (a := ⟨bp, 0, none⟩) (k := 7)]; simp [h2]), hres]; exact if_pos (by assumption)); refine ret_out (none, 0, none, 0) (.cellA T28 rfl pk (by rfl) (.cellA T43 rfl pk (by rfl) (.tmp rfl .nil))) trivial (by rw [hres2]; rfl) ?_; rw [hres2]; exact gv
 refine Run.skip ?_
 refine Run.seq ?_
 refine regionD HM ?_
 refine tk 0 rfl rfl rfl (DetJ.move rfl) ?_
 refine tk 1 rfl rfl rfl (DetJ.nilCheck rfl) ?_
 refine tk 2 rfl rfl rfl (DetJ.fieldAddr F70_0 rfl) ?_
 first | refine RunD.takeW 3 rfl rfl kr T28 rfl pk (by rfl) ?_ | refine RunD.takeP 3 rfl rfl kr T28 rfl pk (by simp) ?_ | refine RunD.takeE 3 rfl rfl kr T28 rfl pk (by assumption) (by exact fun _ => rfl) rfl (by decide) ?_
 refine tk 4 rfl rfl rfl (DetJ.move rfl) ?_
 refine tk 5 rfl rfl rfl (DetJ.nilCheck rfl) ?_
 refine tk 6 rfl rfl rfl (DetJ.fieldAddr F70_2 rfl) ?_
 first | refine RunD.takeW 7 rfl rfl kr T43 rfl pk (by rfl) ?_ | refine RunD.takeP 7 rfl rfl kr T43 rfl pk (by simp) ?_ | refine RunD.takeE 7 rfl rfl kr T43 rfl pk (by assumption) (by exact fun _ => rfl) rfl (by decide) ?_
 refine RunD.op 8 [true, true, true, true, false, false, false, false] rfl rfl rfl kr kr (OpJ.storeW T28 rfl rfl rfl rfl (by simp [Value.oneCell', Pa.c, Ly.c, Mv.c, Co.c]) up ⟨po, ?_⟩)
 refine RunD.op 9 [false, false, false, false] rfl rfl rfl kr kr (OpJ.storeW T43 rfl rfl rfl rfl (by simp [Value.oneCell', Pa.c, Ly.c, Mv.c, Co.c]) up ⟨po, ?_⟩)
 refine tk 10 rfl rfl rfl (DetJ.assign rfl) ?_
 refine kd [4, 5, 6] rfl ?_
 refine Run.ret ?_
 have hres2 : fStep s m = .ok (summed t c, c) := (by unfold fStep; rw [if_neg h1, if_neg (by rw [← ptrOf_isSome (a := ⟨bp, 0, none⟩) (k := 7)]; simp [h2]), hres]; exact if_neg (by simp only [*]; decide)); refine ret_out (la2, lc2, pa2, pc2) (.cellA T28 rfl pk (by rfl) (.cellA T43 rfl pk (by rfl) (.tmp rfl .nil))) trivial (by rw [hres2]; rfl) ?_; rw [hres2]; exact gv
 refine sr ?_
 refine sx 2 ?_
 refine kp [4, 5, 7, 9, 34, 43] rfl ?_
 first | refine Run.if rfl (fun h7 => ?_) (fun h7 => ?_) | refine Run.cond rfl (fun h7 => ?_) (fun h7 => ?_)
 refine Run.region ?_
 refine sx 3 ?_
 refine kp [4, 5, 7, 9] rfl ?_
 refine Run.seq ?_
 refine sr ?_
 refine mvo rfl rfl ?_
 refine RunL.callX C35 rfl rfl rfl (acd35 b18 s m ⟨m.seq, 0, 0, 0⟩ _ _ _ _ _ _ rfl rfl hs hm (by assumption)) tks fun ⟨la2, lc2, pa2, pc2⟩ _ => ?_
 rcases hres : fDo s m ⟨m.seq, 0, 0, 0⟩ with e | ⟨t, c⟩
 refine asg rfl rfl ?_
 refine kp [4, 5, 7, 10] rfl ?_
 refine sr ?_
 refine sx 2 ?_
 first | refine RunL.set (congrArg Value.bool (decide_eq_true (show errOf (Except.error _) ≠ 0 from fDo_err hres))) ?_ | skip
 refine kp [4, 5, 7, 10, 58] rfl ?_
 refine Run.true rfl ?_
 refine sr ?_
 refine sx 6 ?_
 refine kp [4, 5, 6] rfl ?_
 refine Run.ret ?_
 have hres2 : fStep s m = .error e := (by unfold fStep; rw [if_neg h1, if_neg (by rw [← ptrOf_isSome (a := ⟨bp, 0, none⟩) (k := 7)]; simp [h2]), hres]); refine ret_out (none, 0, none, 0) (.cellA T28 rfl pk (by rfl) (.cellA T43 rfl pk (by rfl) (.tmp rfl .nil))) trivial (by rw [hres2]; rfl) ?_; rw [hres2]; exact gv
 have hto := fDo_ok hs hm hres
 have hnt : (summed t c).layers.length ≤ 1000000 ∧ (summed t c).past.length ≤ 1000000 := ⟨hto.nl, hto.np⟩
 refine asg rfl rfl ?_
 refine kp [4, 5, 7, 10] rfl ?_
 refine sr ?_
 refine sx 2 ?_
 first | refine RunL.set (congrArg Value.bool (decide_eq_true (show errOf (Except.error _) ≠ 0 from fDo_err hres))) ?_ | skip
 refine kp [4, 5, 7, 10, 58] rfl ?_
 refine Run.false rfl ?_
 refine Run.skip ?_
 refine Run.seq ?_
 refine regionD HM ?_
 refine tk 0 rfl rfl rfl (DetJ.move rfl) ?_
 refine tk 1 rfl rfl rfl (DetJ.nilCheck rfl) ?_
 refine tk 2 rfl rfl rfl (DetJ.fieldAddr F70_0 rfl) ?_
 refine tk 3 rfl rfl rfl (DetJ.fieldAddr F28_0 rfl) ?_
 first | refine RunD.takeF 4 rfl rfl kr T3 rfl pk (by rfl) ?_ | refine RunD.takeO 4 rfl rfl kr T3 rfl pk (by assumption) (by rfl) (by exact fun _ => rfl) ?_
 refine tk 5 rfl rfl rfl (DetJ.move rfl) ?_
 refine tk 6 rfl rfl rfl (DetJ.nilCheck rfl) ?_
 refine tk 7 rfl rfl rfl (DetJ.fieldAddr F70_2 rfl) ?_
 refine tk 8 rfl rfl rfl (DetJ.fieldAddr F43_1 rfl) ?_
 first | refine RunD.takeF 9 rfl rfl kr T3 rfl pk (by rfl) ?_ | refine RunD.takeO 9 rfl rfl kr T3 rfl pk (by assumption) (by rfl) (by exact fun _ => rfl) ?_
 refine tk 10 rfl rfl rfl (DetJ.add rfl rfl) ?_
 refine tk 11 rfl rfl rfl (DetJ.nilCheck rfl) ?_
 refine tk 12 rfl rfl rfl (DetJ.fieldAddr F70_0 rfl) ?_
 refine tk 13 rfl rfl rfl (DetJ.fieldAddr F28_0 rfl) ?_
 refine RunD.op 14 [false, false, false, false, false, false, false, false, false, false, false, false, false, false] rfl rfl rfl kr kr (OpJ.store1 T3 rfl rfl rfl up (by simp) ⟨po, ?_⟩)
 refine kd [4, 5, 7] rfl ?_
 refine Run.seq ?_
 refine regionD HM ?_
 refine tk 0 rfl rfl rfl (DetJ.move rfl) ?_
 refine tk 1 rfl rfl rfl (DetJ.nilCheck rfl) ?_
 refine tk 2 rfl rfl rfl (DetJ.fieldAddr F70_0 rfl) ?_
 refine tk 3 rfl rfl rfl (DetJ.fieldAddr F28_1 rfl) ?_
 first | refine RunD.takeF 4 rfl rfl kr T3 rfl pk (by rfl) ?_ | refine RunD.takeO 4 rfl rfl kr T3 rfl pk (by assumption) (by rfl) (by exact fun _ => rfl) ?_
 refine tk 5 rfl rfl rfl (DetJ.move rfl) ?_
 refine tk 6 rfl rfl rfl (DetJ.nilCheck rfl) ?_
 refine tk 7 rfl rfl rfl (DetJ.fieldAddr F70_2 rfl) ?_
 refine tk 8 rfl rfl rfl (DetJ.fieldAddr F43_2 rfl) ?_
 first | refine RunD.takeF 9 rfl rfl kr T3 rfl pk (by rfl) ?_ | refine RunD.takeO 9 rfl rfl kr T3 rfl pk (by assumption) (by rfl) (by exact fun _ => rfl) ?_
 refine tk 10 rfl rfl rfl (DetJ.add rfl rfl) ?_
 refine tk 11 rfl rfl rfl (DetJ.nilCheck rfl) ?_
 refine tk 12 rfl rfl rfl (DetJ.fieldAddr F70_0 rfl) ?_
 refine tk 13 rfl rfl rfl (DetJ.fieldAddr F28_1 rfl) ?_
 refine RunD.op 14 [false, false, false, false, false, false, false, false, false, false, false, false, false, false] rfl rfl rfl kr kr (OpJ.store1 T3 rfl rfl rfl up (by simp) ⟨po, ?_⟩)
 refine kd [4, 5, 7] rfl ?_
 refine Run.seq ?_
 refine sr ?_
 refine mvo rfl rfl ?_
 refine RunL.call C38 rfl rfl rfl (ac38 b18 (summed t c) m c _ _ _ _ _ _ rfl rfl hnt) tks ?_
 refine kp [4, 5, 7, 91] rfl ?_
 first | refine Run.if rfl (fun h8 => ?_) (fun h8 => ?_) | refine Run.cond rfl (fun h8 => ?_) (fun h8 => ?_)
 refine sr ?_
 refine sx 5 ?_
 refine kp [4, 5, 6] rfl ?_
 refine Run.ret ?_
 have hres2 : fStep s m = .error 4 := (by unfold fStep; rw [if_neg h1, if_neg (by rw [← ptrOf_isSome (a := ⟨bp, 0, none⟩) (k := 7)]; simp [h2]), hres]; exact if_pos (by assumption)); refine ret_out (none, 0, none, 0) (.cellA T28 rfl pk (by rfl) (.cellA T43 rfl pk (by rfl) (.tmp rfl .nil))) trivial (by rw [hres2]; rfl) ?_; rw [hres2]; exact gv
 refine Run.skip ?_
 refine Run.seq ?_
 refine regionD HM ?_
 refine tk 0 rfl rfl rfl (DetJ.move rfl) ?_
 refine tk 1 rfl rfl rfl (DetJ.nilCheck rfl) ?_
 refine tk 2 rfl rfl rfl (DetJ.fieldAddr F70_0 rfl) ?_
 first | refine RunD.takeW 3 rfl rfl kr T28 rfl pk (by rfl) ?_ | refine RunD.takeP 3 rfl rfl kr T28 rfl pk (by simp) ?_ | refine RunD.takeE 3 rfl rfl kr T28 rfl pk (by assumption) (by exact fun _ => rfl) rfl (by decide) ?_
 refine tk 4 rfl rfl rfl (DetJ.move rfl) ?_
 refine tk 5 rfl rfl rfl (DetJ.nilCheck rfl) ?_
 refine tk 6 rfl rfl rfl (DetJ.fieldAddr F70_2 rfl) ?_
 first | refine RunD.takeW 7 rfl rfl kr T43 rfl pk (by rfl) ?_ | refine RunD.takeP 7 rfl rfl kr T43 rfl pk (by simp) ?_ | refine RunD.takeE 7 rfl rfl kr T43 rfl pk (by assumption) (by exact fun _ => rfl) rfl (by decide) ?_
 refine RunD.op 8 [true, true, true, true, false, false, false, false] rfl rfl rfl kr kr (OpJ.storeW T28 rfl rfl rfl rfl (by simp [Value.oneCell', Pa.c, Ly.c, Mv.c, Co.c]) up ⟨po, ?_⟩)
 refine RunD.op 9 [false, false, false, false] rfl rfl rfl kr kr (OpJ.storeW T43 rfl rfl rfl rfl (by simp [Value.oneCell', Pa.c, Ly.c, Mv.c, Co.c]) up ⟨po, ?_⟩)
 refine tk 10 rfl rfl rfl (DetJ.assign rfl) ?_
 refine kd [4, 5, 6] rfl ?_
 refine Run.ret ?_
 have hres2 : fStep s m = .ok (summed t c, c) := (by unfold fStep; rw [if_neg h1, if_neg (by rw [← ptrOf_isSome (a := ⟨bp, 0, none⟩) (k := 7)]; simp [h2]), hres]; exact if_neg (by simp only [*]; decide)); refine ret_out (la2, lc2, pa2, pc2) (.cellA T28 rfl pk (by rfl) (.cellA T43 rfl pk (by rfl) (.tmp rfl .nil))) trivial (by rw [hres2]; rfl) ?_; rw [hres2]; exact gv
 refine sr ?_
 refine sx 2 ?_
 refine kp [4, 5, 7, 9, 34, 47] rfl ?_
 first | refine Run.if rfl (fun h9 => ?_) (fun h9 => ?_) | refine Run.cond rfl (fun h9 => ?_) (fun h9 => ?_)
 refine Run.region ?_
 refine sx 3 ?_
 refine kp [4, 5, 7, 9] rfl ?_
 refine Run.seq ?_
 refine sr ?_
 refine mvo rfl rfl ?_
 refine RunL.callX C36 rfl rfl rfl (acd36 b18 s m ⟨m.seq, 0, 0, 0⟩ _ _ _ _ _ _ rfl rfl hs hm (by assumption)) tks fun ⟨la2, lc2, pa2, pc2⟩ _ => ?_
 rcases hres : fDo s m ⟨m.seq, 0, 0, 0⟩ with e | ⟨t, c⟩
 refine asg rfl rfl ?_
 refine kp [4, 5, 7, 10] rfl ?_
 refine sr ?_
 refine sx 2 ?_
 first | refine RunL.set (congrArg Value.bool (decide_eq_true (show errOf (Except.error _) ≠ 0 from fDo_err hres))) ?_ | skip
 refine kp [4, 5, 7, 10, 58] rfl ?_
 refine Run.true rfl ?_
 refine sr ?_
 refine sx 6 ?_
 refine kp [4, 5, 6] rfl ?_
 refine Run.ret ?_
 have hres2 : fStep s m = .error e := (by unfold fStep; rw [if_neg h1, if_neg (by rw [← ptrOf_isSome (a := ⟨bp, 0, none⟩) (k := 7)]; simp [h2]), hres]); refine ret_out (none, 0, none, 0) (.cellA T28 rfl pk (by rfl) (.cellA T43 rfl pk (by rfl) (.tmp rfl .nil))) trivial (by rw [hres2]; rfl) ?_; rw [hres2]; exact gv
 have hto := fDo_ok hs hm hres
 have hnt : (summed t c).layers.length ≤ 1000000 ∧ (summed t c).past.length ≤ 1000000 := ⟨hto.nl, hto.np⟩
 refine asg rfl rfl ?_
 refine kp [4, 5, 7, 10] rfl ?_
 refine sr ?_
 refine sx 2 ?_
 first | refine RunL.set (congrArg Value.bool (decide_eq_true (show errOf (Except.error _) ≠ 0 from fDo_err hres))) ?_ | skip
 refine kp [4, 5, 7, 10, 58] rfl ?_
 refine Run.false rfl ?_
 refine Run.skip ?_
 refine Run.seq ?_
 refine regionD HM ?_
 refine tk 0 rfl rfl rfl (DetJ.move rfl) ?_
 refine tk 1 rfl rfl rfl (DetJ.nilCheck rfl) ?_
 refine tk 2 rfl rfl rfl (DetJ.fieldAddr F70_0 rfl) ?_
 refine tk 3 rfl rfl rfl (DetJ.fieldAddr F28_0 rfl) ?_
 first | refine RunD.takeF 4 rfl rfl kr T3 rfl pk (by rfl) ?_ | refine RunD.takeO 4 rfl rfl kr T3 rfl pk (by assumption) (by rfl) (by exact fun _ => rfl) ?_
 refine tk 5 rfl rfl rfl (DetJ.move rfl) ?_
 refine tk 6 rfl rfl rfl (DetJ.nilCheck rfl) ?_
 refine tk 7 rfl rfl rfl (DetJ.fieldAddr F70_2 rfl) ?_
 refine tk 8 rfl rfl rfl (DetJ.fieldAddr F43_1 rfl) ?_
 first | refine RunD.takeF 9 rfl rfl kr T3 rfl pk (by rfl) ?_ | refine RunD.takeO 9 rfl rfl kr T3 rfl pk (by assumption) (by rfl) (by exact fun _ => rfl) ?_
 refine tk 10 rfl rfl rfl (DetJ.add rfl rfl) ?_
 refine tk 11 rfl rfl rfl (DetJ.nilCheck rfl) ?_
 refine tk 12 rfl rfl rfl (DetJ.fieldAddr F70_0 rfl) ?_
 refine tk 13 rfl rfl rfl (DetJ.fieldAddr F28_0 rfl) ?_
 refine RunD.op 14 [false, false, false, false, false, false, false, false, false, false, false, false, false, false] rfl rfl rfl kr kr (OpJ.store1 T3 rfl rfl rfl up (by simp) ⟨po, ?_⟩)
 refine kd [4, 5, 7] rfl ?_
 refine Run.seq ?_
 refine regionD HM ?_
 refine tk 0 rfl rfl rfl (DetJ.move rfl) ?_
 refine tk 1 rfl rfl rfl (DetJ.nilCheck rfl) ?_
 refine tk 2 rfl rfl rfl (DetJ.fieldAddr F70_0 rfl) ?_
 refine tk 3 rfl rfl rfl (DetJ.fieldAddr F28_1 rfl) ?_
 first | refine RunD.takeF 4 rfl rfl kr T3 rfl pk (by rfl) ?_ | refine RunD.takeO 4 rfl rfl kr T3 rfl pk (by assumption) (by rfl) (by exact fun _ => rfl) ?_
 refine tk 5 rfl rfl rfl (DetJ.move rfl) ?_
 refine tk 6 rfl rfl rfl (DetJ.nilCheck rfl) ?_
 refine tk 7 rfl rfl rfl (DetJ.fieldAddr F70_2 rfl) ?_
 refine tk 8 rfl rfl rfl (DetJ.fieldAddr F43_2 rfl) ?_
 first | refine RunD.takeF 9 rfl rfl kr T3 rfl pk (by rfl) ?_ | refine RunD.takeO 9 rfl rfl kr T3 rfl pk (by assumption) (by rfl) (by exact fun _ => rfl) ?_
 refine tk 10 rfl rfl rfl (DetJ.add rfl rfl) ?_
 refine tk 11 rfl rfl rfl (DetJ.nilCheck rfl) ?_
 refine tk 12 rfl rfl rfl (DetJ.fieldAddr F70_0 rfl) ?_
 refine tk 13 rfl rfl rfl (DetJ.fieldAddr F28_1 rfl) ?_
 refine RunD.op 14 [false, false, false, false, false, false, false, false, false, false, false, false, false, false] rfl rfl rfl kr kr (OpJ.store1 T3 rfl rfl rfl up (by simp) ⟨po, ?_⟩)
 refine kd [4, 5, 7] rfl ?_
 refine Run.seq ?_
 refine sr ?_
 refine mvo rfl rfl ?_
 refine RunL.call C38 rfl rfl rfl (ac38 b18 (summed t c) m c _ _ _ _ _ _ rfl rfl hnt) tks ?_
 refine kp [4, 5, 7, 91] rfl ?_
 first | refine Run.if rfl (fun h10 => ?_) (fun h10 => ?_) | refine Run.cond rfl (fun h10 => ?_) (fun h10 => ?_)
 refine sr ?_
 refine sx 5 ?_
 refine kp [4, 5, 6] rfl ?_
 refine Run.ret ?_
 have hres2 : fStep s m = .error 4 := (by unfold fStep; rw [if_neg h1, if_neg (by rw [← ptrOf_isSome (a := ⟨bp, 0, none⟩) (k := 7)]; simp [h2]), hres]; exact if_pos (by assumption)); refine ret_out (none, 0, none, 0) (.cellA T28 rfl pk (by rfl) (.cellA T43 rfl pk (by rfl) (.tmp rfl .nil))) trivial (by rw [hres2]; rfl) ?_; rw [hres2]; exact gv
 refine Run.skip ?_
 refine Run.seq ?_
 refine regionD HM ?_
 refine tk 0 rfl rfl rfl (DetJ.move rfl) ?_
 refine tk 1 rfl rfl rfl (DetJ.nilCheck rfl) ?_
 refine tk 2 rfl rfl rfl (DetJ.fieldAddr F70_0 rfl) ?_
 first | refine RunD.takeW 3 rfl rfl kr T28 rfl pk (by rfl) ?_ | refine RunD.takeP 3 rfl rfl kr T28 rfl pk (by simp) ?_ | refine RunD.takeE 3 rfl rfl kr T28 rfl pk (by assumption) (by exact fun _ => rfl) rfl (by decide) ?_
 refine tk 4 rfl rfl rfl (DetJ.move rfl) ?_
 refine tk 5 rfl rfl rfl (DetJ.nilCheck rfl) ?_
 refine tk 6 rfl rfl rfl (DetJ.fieldAddr F70_2 rfl) ?_
 first | refine RunD.takeW 7 rfl rfl kr T43 rfl pk (by rfl) ?_ | refine RunD.takeP 7 rfl rfl kr T43 rfl pk (by simp) ?_ | refine RunD.takeE 7 rfl rfl kr T43 rfl pk (by assumption) (by exact fun _ => rfl) rfl (by decide) ?_
 refine RunD.op 8 [true, true, true, true, false, false, false, false] rfl rfl rfl kr kr (OpJ.storeW T28 rfl rfl rfl rfl (by simp [Value.oneCell', Pa.c, Ly.c, Mv.c, Co.c]) up ⟨po, ?_⟩)
 refine RunD.op 9 [false, false, false, false] rfl rfl rfl kr kr (OpJ.storeW T43 rfl rfl rfl rfl (by simp [Value.oneCell', Pa.c, Ly.c, Mv.c, Co.c]) up ⟨po, ?_⟩)
 refine tk 10 rfl rfl rfl (DetJ.assign rfl) ?_
 refine kd [4, 5, 6] rfl ?_
 refine Run.ret ?_
 have hres2 : fStep s m = .ok (summed t c, c) := (by unfold fStep; rw [if_neg h1, if_neg (by rw [← ptrOf_isSome (a := ⟨bp, 0, none⟩) (k := 7)]; simp [h2]), hres]; exact if_neg (by simp only [*]; decide)); refine ret_out (la2, lc2, pa2, pc2) (.cellA T28 rfl pk (by rfl) (.cellA T43 rfl pk (by rfl) (.tmp rfl .nil))) trivial (by rw [hres2]; rfl) ?_; rw [hres2]; exact gv
 refine sr ?_
 refine sx 2 ?_
 refine kp [4, 5, 7, 9, 51] rfl ?_
 first | refine Run.if rfl (fun h11 => ?_) (fun h11 => ?_) | refine Run.cond rfl (fun h11 => ?_) (fun h11 => ?_)
 refine Run.region ?_
 refine sx 3 ?_
 refine kp [4, 5, 7, 9] rfl ?_
 refine Run.seq ?_
 refine sr ?_
 refine mvo rfl rfl ?_
 refine RunL.callX C37 rfl rfl rfl (acd37 b18 s m ⟨m.seq, 0, 0, 0⟩ _ _ _ _ _ _ rfl rfl hs hm (by assumption)) tks fun ⟨la2, lc2, pa2, pc2⟩ _ => ?_
 rcases hres : fDo s m ⟨m.seq, 0, 0, 0⟩ with e | ⟨t, c⟩
 refine asg rfl rfl ?_
 refine kp [4, 5, 7, 10] rfl ?_
 refine sr ?_
 refine sx 2 ?_
 first | refine RunL.set (congrArg Value.bool (decide_eq_true (show errOf (Except.error _) ≠ 0 from fDo_err hres))) ?_ | skip
 refine kp [4, 5, 7, 10, 58] rfl ?_
 refine Run.true rfl ?_
 refine sr ?_
 refine sx 6 ?_
 refine kp [4, 5, 6] rfl ?_
 refine Run.ret ?_
 have hres2 : fStep s m = .error e := (by unfold fStep; rw [if_neg h1, if_neg (by rw [← ptrOf_isSome (a := ⟨bp, 0, none⟩) (k := 7)]; simp [h2]), hres]); refine ret_out (none, 0, none, 0) (.cellA T28 rfl pk (by rfl) (.cellA T43 rfl pk (by rfl) (.tmp rfl .nil))) trivial (by rw [hres2]; rfl) ?_; rw [hres2]; exact gv
 have hto := fDo_ok hs hm hres
 have hnt : (summed t c).layers.length ≤ 1000000 ∧ (summed t c).past.length ≤ 1000000 := ⟨hto.nl, hto.np⟩
 refine asg rfl rfl ?_
 refine kp [4, 5, 7, 10] rfl ?_
 refine sr ?_
 refine sx 2 ?_
 first | refine RunL.set (congrArg Value.bool (decide_eq_true (show errOf (Except.error _) ≠ 0 from fDo_err hres))) ?_ | skip
 refine kp [4, 5, 7, 10, 58] rfl ?_
 refine Run.false rfl ?_
 refine Run.skip ?_
 refine Run.seq ?_
 refine regionD HM ?_
 refine tk 0 rfl rfl rfl (DetJ.move rfl) ?_
 refine tk 1 rfl rfl rfl (DetJ.nilCheck rfl) ?_
 refine tk 2 rfl rfl rfl (DetJ.fieldAddr F70_0 rfl) ?_
 refine tk 3 rfl rfl rfl (DetJ.fieldAddr F28_0 rfl) ?_
 first | refine RunD.takeF 4 rfl rfl kr T3 rfl pk (by rfl) ?_ | refine RunD.takeO 4 rfl rfl kr T3 rfl pk (by assumption) (by rfl) (by exact fun _ => rfl) ?_
 refine tk 5 rfl rfl rfl (DetJ.move rfl) ?_
 refine tk 6 rfl rfl rfl (DetJ.nilCheck rfl) ?_
 refine tk 7 rfl rfl rfl (DetJ.fieldAddr F70_2 rfl) ?_
 refine tk 8 rfl rfl rfl (DetJ.fieldAddr F43_1 rfl) ?_
 first | refine RunD.takeF 9 rfl rfl kr T3 rfl pk (by rfl) ?_ | refine RunD.takeO 9 rfl rfl kr T3 rfl pk (by assumption) (by rfl) (by exact fun _ => rfl) ?_
 refine tk 10 rfl rfl rfl (DetJ.add rfl rfl) ?_
 refine tk 11 rfl rfl rfl (DetJ.nilCheck rfl) ?_
 refine tk 12 rfl rfl rfl (DetJ.fieldAddr F70_0 rfl) ?_
 refine tk 13 rfl rfl rfl (DetJ.fieldAddr F28_0 rfl) ?_
 refine RunD.op 14 [false, false, false, false, false, false, false, false, false, false, false, false, false, false] rfl rfl rfl kr kr (OpJ.store1 T3 rfl rfl rfl up (by simp) ⟨po, ?_⟩)
 refine kd [4, 5, 7] rfl ?_
 refine Run.seq ?_
 refine regionD HM ?_
 refine tk 0 rfl rfl rfl (DetJ.move rfl) ?_
 refine tk 1 rfl rfl rfl (DetJ.nilCheck rfl) ?_
 refine tk 2 rfl rfl rfl (DetJ.fieldAddr F70_0 rfl) ?_
 refine tk 3 rfl rfl rfl (DetJ.fieldAddr F28_1 rfl) ?_
 first | refine RunD.takeF 4 rfl rfl kr T3 rfl pk (by rfl) ?_ | refine RunD.takeO 4 rfl rfl kr T3 rfl pk (by assumption) (by rfl) (by exact fun _ => rfl) ?_
 refine tk 5 rfl rfl rfl (DetJ.move rfl) ?_
 refine tk 6 rfl rfl rfl (DetJ.nilCheck rfl) ?_
 refine tk 7 rfl rfl rfl (DetJ.fieldAddr F70_2 rfl) ?_
 refine tk 8 rfl rfl rfl (DetJ.fieldAddr F43_2 rfl) ?_
 first | refine RunD.takeF 9 rfl rfl kr T3 rfl pk (by rfl) ?_ | refine RunD.takeO 9 rfl rfl kr T3 rfl pk (by assumption) (by rfl) (by exact fun _ => rfl) ?_
 refine tk 10 rfl rfl rfl (DetJ.add rfl rfl) ?_
 refine tk 11 rfl rfl rfl (DetJ.nilCheck rfl) ?_
 refine tk 12 rfl rfl rfl (DetJ.fieldAddr F70_0 rfl) ?_
 refine tk 13 rfl rfl rfl (DetJ.fieldAddr F28_1 rfl) ?_
 refine RunD.op 14 [false, false, false, false, false, false, false, false, false, false, false, false, false, false] rfl rfl rfl kr kr (OpJ.store1 T3 rfl rfl rfl up (by simp) ⟨po, ?_⟩)
 refine kd [4, 5, 7] rfl ?_
 refine Run.seq ?_
 refine sr ?_
 refine mvo rfl rfl ?_
 refine RunL.call C38 rfl rfl rfl (ac38 b18 (summed t c) m c _ _ _ _ _ _ rfl rfl hnt) tks ?_
 refine kp [4, 5, 7, 91] rfl ?_
 first | refine Run.if rfl (fun h12 => ?_) (fun h12 => ?_) | refine Run.cond rfl (fun h12 => ?_) (fun h12 => ?_)
 refine sr ?_
 refine sx 5 ?_
 refine kp [4, 5, 6] rfl ?_
 refine Run.ret ?_
 have hres2 : fStep s m = .error 4 := (by unfold fStep; rw [if_neg h1, if_neg (by rw [← ptrOf_isSome (a := ⟨bp, 0, none⟩) (k := 7)]; simp [h2]), hres]; exact if_pos (by assumption)); refine ret_out (none, 0, none, 0) (.cellA T28 rfl pk (by rfl) (.cellA T43 rfl pk (by rfl) (.tmp rfl .nil))) trivial (by rw [hres2]; rfl) ?_; rw [hres2]; exact gv
 refine Run.skip ?_
 refine Run.seq ?_
 refine regionD HM ?_
 refine tk 0 rfl rfl rfl (DetJ.move rfl) ?_
 refine tk 1 rfl rfl rfl (DetJ.nilCheck rfl) ?_
 refine tk 2 rfl rfl rfl (DetJ.fieldAddr F70_0 rfl) ?_
 first | refine RunD.takeW 3 rfl rfl kr T28 rfl pk (by rfl) ?_ | refine RunD.takeP 3 rfl rfl kr T28 rfl pk (by simp) ?_ | refine RunD.takeE 3 rfl rfl kr T28 rfl pk (by assumption) (by exact fun _ => rfl) rfl (by decide) ?_
 refine tk 4 rfl rfl rfl (DetJ.move rfl) ?_
 refine tk 5 rfl rfl rfl (DetJ.nilCheck rfl) ?_
 refine tk 6 rfl rfl rfl (DetJ.fieldAddr F70_2 rfl) ?_
 first | refine RunD.takeW 7 rfl rfl kr T43 rfl pk (by rfl) ?_ | refine RunD.takeP 7 rfl rfl kr T43 rfl pk (by simp) ?_ | refine RunD.takeE 7 rfl rfl kr T43 rfl pk (by assumption) (by exact fun _ => rfl) rfl (by decide) ?_
 refine RunD.op 8 [true, true, true, true, false, false, false, false] rfl rfl rfl kr kr (OpJ.storeW T28 rfl rfl rfl rfl (by simp [Value.oneCell', Pa.c, Ly.c, Mv.c, Co.c]) up ⟨po, ?_⟩)
 refine RunD.op 9 [false, false, false, false] rfl rfl rfl kr kr (OpJ.storeW T43 rfl rfl rfl rfl (by simp [Value.oneCell', Pa.c, Ly.c, Mv.c, Co.c]) up ⟨po, ?_⟩)
 refine tk 10 rfl rfl rfl (DetJ.assign rfl) ?_
 refine kd [4, 5, 6] rfl ?_
 refine Run.ret ?_
 have hres2 : fStep s m = .ok (summed t c, c) := (by unfold fStep; rw [if_neg h1, if_neg (by rw [← ptrOf_isSome (a := ⟨bp, 0, none⟩) (k := 7)]; simp [h2]), hres]; exact if_neg (by simp only [*]; decide)); refine ret_out (la2, lc2, pa2, pc2) (.cellA T28 rfl pk (by rfl) (.cellA T43 rfl pk (by rfl) (.tmp rfl .nil))) trivial (by rw [hres2]; rfl) ?_; rw [hres2]; exact gv
 refine Run.skip ?_
 refine Run.seq ?_
 refine sr ?_
 refine mvo rfl rfl ?_
 refine RunL.callX C32 rfl rfl rfl (acd32 (stars []) s m ⟨m.seq, 0, 0, 0⟩ (by refine ⟨?_, ?_, ?_, ?_, ?_⟩ <;> assumption)) .nil fun ⟨la2, lc2, pa2, pc2⟩ _ => ?_
 rcases hres : fDo s m ⟨m.seq, 0, 0, 0⟩ with e | ⟨t, c⟩
 refine asg rfl rfl ?_
 refine kp [4, 5, 7, 10] rfl ?_
 refine sr ?_
 refine sx 2 ?_
 first | refine RunL.set (congrArg Value.bool (decide_eq_true (show errOf (Except.error _) ≠ 0 from fDo_err hres))) ?_ | skip
 refine kp [4, 5, 7, 10, 58] rfl ?_
 refine Run.true rfl ?_
 refine sr ?_
 refine sx 6 ?_
 refine kp [4, 5, 6] rfl ?_
 refine Run.ret ?_
 have hres2 : fStep s m = .error e := (by unfold fStep; rw [if_neg h1, if_neg (by rw [← ptrOf_isSome (a := ⟨bp, 0, none⟩) (k := 7)]; simp [h2]), hres]); refine ret_out (none, 0, none, 0) (.cellA T28 rfl pk (by rfl) (.cellA T43 rfl pk (by rfl) (.tmp rfl .nil))) trivial (by rw [hres2]; rfl) ?_; rw [hres2]; exact gv
 rw [fDo_0 (by refine ⟨?_, ?_, ?_, ?_, ?_⟩ <;> assumption)] at hres; cases hres
end
end Go.Proofs.YtcpghpifbgpkjaaGreatDoor

namespace Go.Proofs.YtcpghpifbgpkjaaGreatDoor
open Go Go.SL Go.Proofs
section
attribute [local irreducible] OpJ RunL Run RunD DetJ pt own star Rd RdS
-- standard.find
theorem ac44 (R : HP) (oa : Option Addr) (cap : Nat) (ps : List Pa) (kind seq : Int) (hR : RdS R oa (ps.flatMap Pa.c)) (hlen : (ps.length : Int) ≤ 9223372036854775807) : AC Tryz.prog 101 ⟨[.slice oa ps.length cap, .agg ⟨[I kind, I seq]⟩]⟩ (stars [R]) (Ret (I (findIdx (fun p => decide (p.kind = kind ∧ p.seq = seq)) ps)) [R]) := by
 refine AC.go Tryz.func101 rfl (Nat.le_of_ble_eq_true rfl) fun β => ?_
 refine sr ?_
 refine RunL.op rfl rfl (OpJ.boxA rfl fun b3 => ?_)
 refine asg rfl rfl ?_
 refine kp [0, 3] rfl ?_
 refine Run.seq ?_
 refine sr ?_
 refine sx 3 ?_
 refine kp [3, 7, 8, 9] rfl ?_
 refine Run.block ?_
 refine Run.loop (fun mm E L => ∃ i : Nat, mm = ps.length - i ∧ i ≤ ps.length ∧ (∀ j y, j < i → ps[j]? = some y → decide (y.kind = kind ∧ y.seq = seq) = false) ∧ E = [(3, .pointer (some ⟨b3, 0, none⟩)), (7, .slice oa ps.length cap), (8, I ps.length), (9, I i)] ∧ L = [pt b3 (blk [I kind, I seq] 153), R]) ⟨_, 0, rfl, Nat.zero_le _, fun _ _ h => by omega, rfl, rfl⟩ ?_
 rintro _ _ _ ⟨i, rfl, hi, hI0, rfl, rfl⟩
 refine sr ?_
 refine sx 1 ?_
 refine kp [3, 7, 8, 9, 10] rfl ?_
 refine Run.seq ?_
 first | refine Run.if rfl (fun h1 => ?_) (fun h1 => ?_) | refine Run.cond rfl (fun h1 => ?_) (fun h1 => ?_)
 refine Run.skip ?_
 refine Run.seq ?_
 refine Run.block ?_
 refine sr ?_
 obtain ⟨x, hx⟩ := get_ex (xs := ps) (by omega)
 refine RunL.rdOpen pk hR (flat_ne (k := 7) (fun _ => rfl) (by decide) hx) fun b o e hrd => ?_
 subst e
 refine sx 2 ?_
 refine RunL.op rfl rfl (OpJ.loadA T66 rfl pk (hrd.elem (fun _ => rfl) hx) rfl ?_)
 refine RunL.op rfl rfl (OpJ.alloc Z66 fun b6 => ?_)
 refine sx 2 ?_
 refine kp [3, 5, 6, 7, 8, 9] rfl ?_
 refine sr ?_
 refine sx 7 ?_
 refine kp [3, 5, 7, 8, 9, 20] rfl ?_
 first | refine Run.if rfl (fun h2 => ?_) (fun h2 => ?_) | refine Run.cond rfl (fun h2 => ?_) (fun h2 => ?_)
 refine sr ?_
 refine sx 2 ?_
 refine kp [4] rfl ?_
 refine Run.ret ?_
 exact ret_one (.tmp rfl .nil) (congrArg I (findIdx_at hx (by simp_all) hI0).symm) gv
 refine Run.skip ?_
 refine Run.region ?_
 refine sx 2 ?_
 exact RunL.next (Keep.sub (kt (ks := [3, 7, 8, 9]) rfl)) _ ⟨_, by omega, i + 1, rfl, by omega, notYet hx (by simp_all) hI0, rfl, rfl⟩ gv
 refine Run.exit ?_
 refine sr ?_
 refine asg rfl rfl ?_
 refine kp [4] rfl ?_
 refine Run.ret ?_
 exact ret_one (.tmp rfl .nil) (congrArg I (findIdx_none (fun j y hj => hI0 j y (by omega))).symm) gv
end
end Go.Proofs.YtcpghpifbgpkjaaGreatDoor

namespace Go.Proofs.YtcpghpifbgpkjaaGreatDoor
open Go Go.SL Go.Proofs
section
attribute [local irreducible] OpJ RunL Run RunD DetJ pt own star Rd RdS
-- num.Mul
theorem ac120 (a b : Int) (ha : i64 a) (hb : i64 b) : AC Tryz.prog 169 ⟨[I a, I b]⟩ (stars []) (Ret (.tuple ⟨[I (mulN a b), Bo (mulOk a b)]⟩) []) := by
 have ua := mag_u64 ha; have ub := mag_u64 hb
 refine AC.go Tryz.func169 rfl (Nat.le_of_ble_eq_true rfl) fun β => ?_
 refine sr ?_
 refine sx 2 ?_
 refine kp [0, 1] rfl ?_
 refine sr ?_
 refine mvo rfl rfl ?_
 refine RunL.call C157 rfl rfl rfl (ac157 _ (by omega)) .nil ?_
 refine mvo rfl rfl ?_
 refine RunL.call C157 rfl rfl rfl (ac157 _ (by omega)) .nil ?_
 refine RunL.call C156 rfl rfl rfl (ac156 _ _ (by omega) (by omega)) .nil ?_
 refine sx 5 ?_
 refine kp [0, 1, 6, 7] rfl ?_
 refine sr ?_
 refine asg rfl rfl ?_
 refine kp [0, 1, 6, 7, 8] rfl ?_
 refine Run.seq ?_
 refine sr ?_
 refine sx 5 ?_
 refine kp [0, 1, 6, 7, 8, 21] rfl ?_
 first | refine Run.if rfl (fun h1 => ?_) (fun h1 => ?_) | refine Run.cond rfl (fun h1 => ?_) (fun h1 => ?_)
 refine Run.region ?_
 refine mvo rfl rfl ?_
 refine RunL.op rfl rfl (OpJ.add rfl rfl ?_)
 refine asg rfl rfl ?_
 refine kp [0, 1, 6, 7, 8] rfl ?_
 refine Run.seq ?_
 refine sr ?_
 refine sx 3 ?_
 first | refine RunL.splitP (t := 26) rfl (fun g2 => ?_) (fun g2 => ?_) | refine RunL.split (t := 26) rfl (fun g2 => ?_) (fun g2 => ?_)
 refine sx 4 ?_
 refine kp [0, 1, 30] rfl ?_
 refine Run.true rfl ?_
 refine sr ?_
 refine sx 2 ?_
 refine kp [4, 5] rfl ?_
 refine Run.ret ?_
 exact ret_one (.tmp rfl (.tmp rfl .nil)) (mul_no (by have e := sgn_diff h1; rw [e.2] at g2; omega)) gv
 refine sx 4 ?_
 refine kp [0, 1, 30] rfl ?_
 first | refine Run.if rfl (fun h3 => ?_) (fun h3 => ?_) | refine Run.cond rfl (fun h3 => ?_) (fun h3 => ?_)
 refine sr ?_
 refine sx 2 ?_
 refine kp [4, 5] rfl ?_
 refine Run.ret ?_
 exact ret_one (.tmp rfl (.tmp rfl .nil)) (mul_no (by have e := sgn_diff h1; rw [e.2, wrap_u64] at h3; omega)) gv
 refine Run.skip ?_
 refine sr ?_
 refine sx 5 ?_
 refine kp [4, 5] rfl ?_
 refine Run.ret ?_
 exact ret_one (.tmp rfl (.tmp rfl .nil)) (mul_yes (by have e := sgn_diff h1; rw [e.2] at g2; rw [e.2, wrap_u64] at h3; omega)) gv
 refine Run.skip ?_
 refine Run.seq ?_
 refine sr ?_
 refine sx 3 ?_
 first | refine RunL.splitP (t := 26) rfl (fun g4 => ?_) (fun g4 => ?_) | refine RunL.split (t := 26) rfl (fun g4 => ?_) (fun g4 => ?_)
 refine sx 4 ?_
 refine kp [0, 1, 30] rfl ?_
 refine Run.true rfl ?_
 refine sr ?_
 refine sx 2 ?_
 refine kp [4, 5] rfl ?_
 refine Run.ret ?_
 exact ret_one (.tmp rfl (.tmp rfl .nil)) (mul_no (by have e := sgn_same h1; rw [e.2] at g4; omega)) gv
 refine sx 4 ?_
 refine kp [0, 1, 30] rfl ?_
 first | refine Run.if rfl (fun h5 => ?_) (fun h5 => ?_) | refine Run.cond rfl (fun h5 => ?_) (fun h5 => ?_)
 refine sr ?_
 refine sx 2 ?_
 refine kp [4, 5] rfl ?_
 refine Run.ret ?_
 exact ret_one (.tmp rfl (.tmp rfl .nil)) (mul_no (by have e := sgn_same h1; rw [e.2] at h5; omega)) gv
 refine Run.skip ?_
 refine sr ?_
 refine sx 5 ?_
 refine kp [4, 5] rfl ?_
 refine Run.ret ?_
 exact ret_one (.tmp rfl (.tmp rfl .nil)) (mul_yes (by have e := sgn_same h1; rw [e.2] at g4; rw [e.2] at h5; omega)) gv
end
end Go.Proofs.YtcpghpifbgpkjaaGreatDoor

namespace Go.Proofs.YtcpghpifbgpkjaaGreatDoor
open Go Go.SL Go.Proofs
section
attribute [local irreducible] OpJ RunL Run RunD DetJ pt own star Rd RdS
end
theorem ac44k (R : HP) (oa : Option Addr) (cap : Nat) (ps : List Pa) (kind seq : Int) (hR : RdS R oa (ps.flatMap Pa.c)) (hlen : (ps.length : Int) ≤ 9223372036854775807) (hk : kind ≠ 0) : AC Tryz.prog 101 ⟨[.slice oa ps.length cap, .agg ⟨[I kind, I seq]⟩]⟩ (stars [R]) (Ret (I (idxOf (findI (isPast kind seq) ps))) [R]) := by
  have h := ac44 R oa cap ps kind seq hR hlen
  rw [findIdx_idx, ← isPast_eq hk] at h; exact h
section
attribute [local irreducible] OpJ RunL Run RunD DetJ pt own star Rd RdS
-- standard.share
theorem ac118 (p : Pa) (m : Mv) (hm : i64 m.qty) : AC Tryz.prog 167 ⟨[.agg ⟨p.c⟩, I m.qty]⟩ (stars []) (Ret (I (backV p m)) []) := by
 refine AC.go Tryz.func167 rfl (Nat.le_of_ble_eq_true rfl) fun β => ?_
 refine sr ?_
 refine RunL.op rfl rfl (OpJ.boxA rfl fun b2 => ?_)
 refine asg rfl rfl ?_
 refine kp [1, 2] rfl ?_
 refine Run.seq ?_
 refine regionD HM ?_
 refine tk 0 rfl rfl rfl (DetJ.fieldAddr F66_3 rfl) ?_
 first | refine RunD.takeF 1 rfl rfl kr T3 rfl pk (by rfl) ?_ | refine RunD.takeO 1 rfl rfl kr T3 rfl pk (by assumption) (by rfl) (by exact fun _ => rfl) ?_
 refine tk 2 rfl rfl rfl (DetJ.fieldAddr F66_5 rfl) ?_
 first | refine RunD.takeF 3 rfl rfl kr T3 rfl pk (by rfl) ?_ | refine RunD.takeO 3 rfl rfl kr T3 rfl pk (by assumption) (by rfl) (by exact fun _ => rfl) ?_
 refine tk 4 rfl rfl rfl (DetJ.sub rfl rfl) ?_
 refine tk 5 rfl rfl rfl (DetJ.fieldAddr F66_4 rfl) ?_
 first | refine RunD.takeF 6 rfl rfl kr T3 rfl pk (by rfl) ?_ | refine RunD.takeO 6 rfl rfl kr T3 rfl pk (by assumption) (by rfl) (by exact fun _ => rfl) ?_
 refine tk 7 rfl rfl rfl (DetJ.fieldAddr F66_6 rfl) ?_
 first | refine RunD.takeF 8 rfl rfl kr T3 rfl pk (by rfl) ?_ | refine RunD.takeO 8 rfl rfl kr T3 rfl pk (by assumption) (by rfl) (by exact fun _ => rfl) ?_
 refine tk 9 rfl rfl rfl (DetJ.sub rfl rfl) ?_
 refine tk 10 rfl rfl rfl (DetJ.assign rfl) ?_
 refine tk 11 rfl rfl rfl (DetJ.assign rfl) ?_
 refine kd [1, 5, 6] rfl ?_
 refine Run.seq ?_
 refine sr ?_
 refine sx 3 ?_
 refine kp [1, 5, 6, 21] rfl ?_
 first | refine Run.if rfl (fun h1 => ?_) (fun h1 => ?_) | refine Run.cond rfl (fun h1 => ?_) (fun h1 => ?_)
 refine sr ?_
 refine sx 2 ?_
 refine kp [4] rfl ?_
 refine Run.ret ?_
 exact ret_one (.tmp rfl .nil) (by first | (simp [tup, backV, partN, *]; done) | (exfalso; omega)) .nil
 refine Run.skip ?_
 refine sr ?_
 refine sx 3 ?_
 refine RunL.call C111 rfl rfl rfl (ac111 _ _ _ _ (W_i64 _) hm (W_i64 _)) .nil ?_
 refine sx 5 ?_
 refine kp [7] rfl ?_
 refine sr ?_
 refine sx 2 ?_
 refine kp [4] rfl ?_
 refine Run.ret ?_
 exact ret_one (.tmp rfl .nil) (by first | (simp [tup, backV, partN, *]; done) | (exfalso; omega)) .nil
-- standard.clone
theorem ac45 (s : Sk) (la : Option Addr) (lc : Nat) (pa : Option Addr) (pc : Nat) (RL RP : HP) (hn : s.layers.length ≤ 1000000 ∧ s.past.length ≤ 1000000) (hRL : RdS RL la (s.layers.flatMap Ly.c)) (hRP : RdS RP pa (s.past.flatMap Pa.c)) : AC Tryz.prog 102 ⟨[.agg ⟨s.c la lc pa pc⟩]⟩ (stars [RL, RP]) (Outs (fun _ : Nat × Nat => True) (fun x => .agg ⟨s.c (some ⟨x.1, 0, none⟩) s.layers.length (some ⟨x.2, 0, none⟩) s.past.length⟩) (fun x => [own 96 4 (some ⟨x.1, 0, none⟩) s.layers.length s.layers.length ((s.layers).flatMap Ly.c), own 98 7 (some ⟨x.2, 0, none⟩) s.past.length s.past.length ((s.past).flatMap Pa.c), RL, RP])) := by
 have hnl := hn.1; have hnp := hn.2
 refine AC.go Tryz.func102 rfl (Nat.le_of_ble_eq_true rfl) fun β => ?_
 refine sr ?_
 refine RunL.op rfl rfl (OpJ.boxA rfl fun b1 => ?_)
 refine RunL.op rfl rfl (OpJ.alloc Z28 fun b2 => ?_)
 refine kp [1, 2] rfl ?_
 refine sr ?_
 refine sx 3 ?_
 refine RunL.op rfl rfl (OpJ.make S26 M66 rfl rfl (by omega) (by omega) fun b8 => ?_)
 refine asg rfl rfl ?_
 refine kp [1, 2, 3] rfl ?_
 refine sr ?_
 refine sx 3 ?_
 refine RunL.op rfl rfl (OpJ.copyAll S26 rfl rfl up pk hRP (flat_len (enc := Pa.c) (k := 7) (fun _ => rfl) _) (by simp) (flat_one Pa.one _) ?_)
 refine kp [1, 2, 3] rfl ?_
 refine sr ?_
 refine sx 3 ?_
 refine RunL.op rfl rfl (OpJ.make S25 M64 rfl rfl (by omega) (by omega) fun b16 => ?_)
 refine asg rfl rfl ?_
 refine kp [1, 2, 3, 4] rfl ?_
 refine sr ?_
 refine sx 3 ?_
 refine RunL.op rfl rfl (OpJ.copyAll S25 rfl rfl up pk hRL (flat_len (enc := Ly.c) (k := 4) (fun _ => rfl) _) (by simp) (flat_one Ly.one _) ?_)
 refine kp [1, 2, 3, 4] rfl ?_
 refine sr ?_
 refine sx 6 ?_
 refine kp [1, 2] rfl ?_
 refine sr ?_
 refine sx 2 ?_
 refine kp [2] rfl ?_
 refine Run.ret ?_
 exact ret_out (b16, b8) (.cellA T28 rfl pk (by rfl) .nil) trivial rfl gv
-- (*standard.state).price
theorem ac115 (bx : Nat) (t : Sk) (m : Mv) (c : Co) (la : Option Addr) (nl lc : Nat) (pa : Option Addr) (np pc : Nat) (p : Int) (hq : i64 m.qty) (hp : i64 p) : AC Tryz.prog 164 ⟨[.pointer (some ⟨bx, 0, none⟩), I p]⟩ (stars [pt bx (blk (XC t m c la nl lc pa np pc) 156)]) (Ret (.tuple ⟨[I (priceV m p), I (priceE m p)]⟩) [pt bx (blk (XC t m c la nl lc pa np pc) 156)]) := by
 refine AC.go Tryz.func164 rfl (Nat.le_of_ble_eq_true rfl) fun β => ?_
 refine sr ?_
 refine sx 2 ?_
 refine kp [0, 1] rfl ?_
 refine sr ?_
 refine sx 6 ?_
 refine RunL.call C120 rfl rfl rfl (ac120 _ _ (by omega) (by omega)) .nil ?_
 refine sx 5 ?_
 refine kp [6, 7] rfl ?_
 refine Run.seq ?_
 refine sr ?_
 refine sx 2 ?_
 refine kp [6, 19] rfl ?_
 first | refine Run.if rfl (fun h1 => ?_) (fun h1 => ?_) | refine Run.cond rfl (fun h1 => ?_) (fun h1 => ?_)
 refine sr ?_
 refine sx 2 ?_
 refine kp [4, 5] rfl ?_
 refine Run.ret ?_
 exact ret_one (.tmp rfl (.tmp rfl .nil)) (by simp [tup, priceV, priceE, *] <;> simp_all) gv
 refine Run.skip ?_
 refine sr ?_
 refine sx 3 ?_
 refine kp [4, 5] rfl ?_
 refine Run.ret ?_
 exact ret_one (.tmp rfl (.tmp rfl .nil)) (by simp [tup, priceV, priceE, *] <;> simp_all) gv
-- (*standard.state).record
theorem ac116 (bx : Nat) (t : Sk) (m : Mv) (c : Co) (la : Option Addr) (nl lc : Nat) (pa : Option Addr) (np pc : Nat) (v : Int) (enl : nl = t.layers.length) (enp : np = t.past.length) (hn : t.layers.length ≤ 1000000 ∧ t.past.length ≤ 1000000) : AC Tryz.prog 165 ⟨[.pointer (some ⟨bx, 0, none⟩), I v]⟩ (stars [pt bx (blk (XC t m c la nl lc pa np pc) 156), own 98 7 pa np pc ((t.past).flatMap Pa.c)]) (Outs (fun _ : Option Addr × Nat => True) (fun _ => .tuple ⟨[]⟩) (fun x => [pt bx (blk (XC { t with past := t.past ++ [(⟨m.seq, m.kind, m.lot, m.qty, v, 0, 0⟩ : Pa)] } m c la nl lc x.1 (t.past ++ [(⟨m.seq, m.kind, m.lot, m.qty, v, 0, 0⟩ : Pa)]).length x.2) 156), own 98 7 x.1 (t.past ++ [(⟨m.seq, m.kind, m.lot, m.qty, v, 0, 0⟩ : Pa)]).length x.2 ((t.past ++ [(⟨m.seq, m.kind, m.lot, m.qty, v, 0, 0⟩ : Pa)]).flatMap Pa.c)])) := by
 subst enl enp
 have hnl := hn.1; have hnp := hn.2
 refine AC.go Tryz.func165 rfl (Nat.le_of_ble_eq_true rfl) fun β => ?_
 refine regionD HM ?_
 refine tk 0 rfl rfl rfl (DetJ.move rfl) ?_
 refine tk 1 rfl rfl rfl (DetJ.move rfl) ?_
 refine tk 2 rfl rfl rfl (DetJ.nilCheck rfl) ?_
 refine tk 3 rfl rfl rfl (DetJ.fieldAddr F85_0 rfl) ?_
 refine tk 4 rfl rfl rfl (DetJ.fieldAddr F28_4 rfl) ?_
 first | refine RunD.takeF 5 rfl rfl kr T26 rfl pk (by rfl) ?_ | refine RunD.takeO 5 rfl rfl kr T26 rfl pk (by assumption) (by rfl) (by exact fun _ => rfl) ?_
 refine tk 6 rfl rfl rfl (DetJ.move rfl) ?_
 refine tk 7 rfl rfl rfl (DetJ.nilCheck rfl) ?_
 refine tk 8 rfl rfl rfl (DetJ.fieldAddr F85_1 rfl) ?_
 refine tk 9 rfl rfl rfl (DetJ.fieldAddr F47_0 rfl) ?_
 first | refine RunD.takeF 10 rfl rfl kr T3 rfl pk (by rfl) ?_ | refine RunD.takeO 10 rfl rfl kr T3 rfl pk (by assumption) (by rfl) (by exact fun _ => rfl) ?_
 refine tk 11 rfl rfl rfl (DetJ.move rfl) ?_
 refine tk 12 rfl rfl rfl (DetJ.nilCheck rfl) ?_
 refine tk 13 rfl rfl rfl (DetJ.fieldAddr F85_1 rfl) ?_
 refine tk 14 rfl rfl rfl (DetJ.fieldAddr F47_3 rfl) ?_
 first | refine RunD.takeF 15 rfl rfl kr T3 rfl pk (by rfl) ?_ | refine RunD.takeO 15 rfl rfl kr T3 rfl pk (by assumption) (by rfl) (by exact fun _ => rfl) ?_
 refine tk 16 rfl rfl rfl (DetJ.move rfl) ?_
 refine tk 17 rfl rfl rfl (DetJ.nilCheck rfl) ?_
 refine tk 18 rfl rfl rfl (DetJ.fieldAddr F85_1 rfl) ?_
 refine tk 19 rfl rfl rfl (DetJ.fieldAddr F47_6 rfl) ?_
 first | refine RunD.takeF 20 rfl rfl kr T9 rfl pk (by rfl) ?_ | refine RunD.takeO 20 rfl rfl kr T9 rfl pk (by assumption) (by rfl) (by exact fun _ => rfl) ?_
 refine tk 21 rfl rfl rfl (DetJ.move rfl) ?_
 refine tk 22 rfl rfl rfl (DetJ.nilCheck rfl) ?_
 refine tk 23 rfl rfl rfl (DetJ.fieldAddr F85_1 rfl) ?_
 refine tk 24 rfl rfl rfl (DetJ.fieldAddr F47_4 rfl) ?_
 first | refine RunD.takeF 25 rfl rfl kr T3 rfl pk (by rfl) ?_ | refine RunD.takeO 25 rfl rfl kr T3 rfl pk (by assumption) (by rfl) (by exact fun _ => rfl) ?_
 refine tk 26 rfl rfl rfl (DetJ.move rfl) ?_
 refine RunD.takeB 27 rfl rfl kr B66 rfl rfl fun cs hcs => ?_
 simp only [Sk.c, Mv.c, Co.c, bldL, bldA, Value.cells, bs, Nat.reduceAdd, Nat.reduceLeDiff, Nat.reduceLT] at hcs; subst hcs
 refine RunD.op 28 [false, false, false, false, true, true, true, false, false, true, true, true, false, false, true, true, true, false, false, true, true, true, true, true, true, true, true, true] rfl rfl rfl kr kr (OpJ.buildSlice1 S26 rfl rfl rfl (by decide) (by decide) Z66 rfl fun b32 => ⟨po, ?_⟩)
 refine RunD.op 29 [true, true, true, true, true, true, true, true, true, true, true, true, false, false, false, true, true, true] rfl rfl rfl kr kr (OpJ.append1 (⟨m.seq, m.kind, m.lot, m.qty, v, 0, 0⟩ : Pa) S26 M66 rfl rfl pk pk rfl rfl (by simp [Value.oneCell', Pa.c, Ly.c, Mv.c, Co.c]) rfl (by omega) (by omega) fun a33 c33 => ⟨po, ?_⟩)
 refine tk 30 rfl rfl rfl (DetJ.nilCheck rfl) ?_
 refine tk 31 rfl rfl rfl (DetJ.fieldAddr F85_0 rfl) ?_
 refine tk 32 rfl rfl rfl (DetJ.fieldAddr F28_4 rfl) ?_
 refine RunD.op 33 [false, false, false, false, false, false, false, false, false, false, false, false, false, false, false, false, false, false] rfl rfl rfl kr kr (OpJ.store1 T26 rfl rfl rfl up (by simp) ⟨po, ?_⟩)
 refine kd [] rfl ?_
 exact ret_out (a33, c33) .nil trivial rfl gv
-- (*standard.state).back
theorem ac117 (bx : Nat) (t : Sk) (m : Mv) (c : Co) (la : Option Addr) (nl lc : Nat) (pa : Option Addr) (np pc : Nat) (kind : Int) (enl : nl = t.layers.length) (enp : np = t.past.length) (hk : kind ≠ 0) (hn : t.layers.length ≤ 1000000 ∧ t.past.length ≤ 1000000) : AC Tryz.prog 166 ⟨[.pointer (some ⟨bx, 0, none⟩), I kind]⟩ (stars [pt bx (blk (XC t m c la nl lc pa np pc) 156), own 98 7 pa np pc ((t.past).flatMap Pa.c)]) (Ret (.tuple ⟨[I (okIdx (refd kind m t.past)), I (errOf (refd kind m t.past))]⟩) [pt bx (blk (XC t m c la nl lc pa np pc) 156), own 98 7 pa np pc ((t.past).flatMap Pa.c)]) := by
 subst enl enp
 have hnl := hn.1; have hnp := hn.2
 refine AC.go Tryz.func166 rfl (Nat.le_of_ble_eq_true rfl) fun β => ?_
 refine sr ?_
 refine sx 2 ?_
 refine kp [0, 1] rfl ?_
 refine Run.seq ?_
 refine regionD HM ?_
 refine tk 0 rfl rfl rfl (DetJ.move rfl) ?_
 refine tk 1 rfl rfl rfl (DetJ.nilCheck rfl) ?_
 refine tk 2 rfl rfl rfl (DetJ.fieldAddr F85_0 rfl) ?_
 refine tk 3 rfl rfl rfl (DetJ.fieldAddr F28_4 rfl) ?_
 first | refine RunD.takeF 4 rfl rfl kr T26 rfl pk (by rfl) ?_ | refine RunD.takeO 4 rfl rfl kr T26 rfl pk (by assumption) (by rfl) (by exact fun _ => rfl) ?_
 refine tk 5 rfl rfl rfl (DetJ.move rfl) ?_
 refine tk 6 rfl rfl rfl (DetJ.move rfl) ?_
 refine tk 7 rfl rfl rfl (DetJ.nilCheck rfl) ?_
 refine tk 8 rfl rfl rfl (DetJ.fieldAddr F85_1 rfl) ?_
 refine tk 9 rfl rfl rfl (DetJ.fieldAddr F47_7 rfl) ?_
 first | refine RunD.takeF 10 rfl rfl kr T3 rfl pk (by rfl) ?_ | refine RunD.takeO 10 rfl rfl kr T3 rfl pk (by assumption) (by rfl) (by exact fun _ => rfl) ?_
 refine RunD.takeB 11 rfl rfl kr B82 rfl rfl fun cs hcs => ?_
 simp only [Sk.c, Mv.c, Co.c, bldL, bldA, Value.cells, bs, Nat.reduceAdd, Nat.reduceLeDiff, Nat.reduceLT] at hcs; subst hcs
 refine RunD.op 12 [false, false, false, true, true, true, false, false, false, false, true, true] rfl rfl rfl kr kr (OpJ.callRet C44 rfl rfl (ac44k _ _ _ t.past kind m.ref own.rds (by omega) hk) tks ⟨po, ?_⟩)
 refine tk 13 rfl rfl rfl (DetJ.assign rfl) ?_
 refine kd [0, 6] rfl ?_
 refine Run.seq ?_
 refine sr ?_
 refine sx 2 ?_
 rcases hf : findI (isPast kind m.ref) t.past with _ | ⟨i, p⟩
 refine kp [0, 6, 22] rfl ?_
 refine Run.true rfl ?_
 refine sr ?_
 refine sx 2 ?_
 refine kp [4, 5] rfl ?_
 refine Run.ret ?_
 exact ret_one (.tmp rfl (.tmp rfl .nil)) (by simp [tup, refd, hf, okIdx, errOf, idxOf, *]) gv
 obtain ⟨hx, _⟩ := findI_some hf
 have hi := (List.getElem?_eq_some_iff.1 hx).1
 refine RunL.ownAddr pk (flat_ne (k := 7) (fun _ => rfl) (by decide) hx) fun b e hcap => ?_
 subst e
 simp only [idxOf]
 refine RunL.set (congrArg Value.bool (decide_eq_false (show ¬ ((i : Int) < 0) by omega))) ?_
 refine kp [0, 6, 22] rfl ?_
 refine Run.false rfl ?_
 refine Run.skip ?_
 refine Run.seq ?_
 refine sr ?_
 refine sx 8 ?_
 refine RunL.op rfl rfl (OpJ.alloc Z66 fun b7 => ?_)
 refine sx 1 ?_
 refine kp [0, 6, 7] rfl ?_
 refine Run.seq ?_
 refine regionD HM ?_
 refine tk 0 rfl rfl rfl (DetJ.move rfl) ?_
 refine tk 1 rfl rfl rfl (DetJ.nilCheck rfl) ?_
 refine tk 2 rfl rfl rfl (DetJ.fieldAddr F85_1 rfl) ?_
 refine tk 3 rfl rfl rfl (DetJ.fieldAddr F47_4 rfl) ?_
 first | refine RunD.takeF 4 rfl rfl kr T3 rfl pk (by rfl) ?_ | refine RunD.takeO 4 rfl rfl kr T3 rfl pk (by assumption) (by rfl) (by exact fun _ => rfl) ?_
 refine tk 5 rfl rfl rfl (DetJ.fieldAddr F66_3 rfl) ?_
 first | refine RunD.takeF 6 rfl rfl kr T3 rfl pk (by rfl) ?_ | refine RunD.takeO 6 rfl rfl kr T3 rfl pk (by assumption) (by rfl) (by exact fun _ => rfl) ?_
 refine tk 7 rfl rfl rfl (DetJ.fieldAddr F66_5 rfl) ?_
 first | refine RunD.takeF 8 rfl rfl kr T3 rfl pk (by rfl) ?_ | refine RunD.takeO 8 rfl rfl kr T3 rfl pk (by assumption) (by rfl) (by exact fun _ => rfl) ?_
 refine tk 9 rfl rfl rfl (DetJ.sub rfl rfl) ?_
 refine tk 10 rfl rfl rfl (DetJ.gtr rfl rfl) ?_
 refine kd [6, 41] rfl ?_
 first | refine Run.if rfl (fun h1 => ?_) (fun h1 => ?_) | refine Run.cond rfl (fun h1 => ?_) (fun h1 => ?_)
 refine sr ?_
 refine sx 2 ?_
 refine kp [4, 5] rfl ?_
 refine Run.ret ?_
 exact ret_one (.tmp rfl (.tmp rfl .nil)) (by simp [tup, refd, hf, okIdx, errOf, idxOf, *]) gv
 refine Run.skip ?_
 refine sr ?_
 refine sx 3 ?_
 refine kp [4, 5] rfl ?_
 refine Run.ret ?_
 exact ret_one (.tmp rfl (.tmp rfl .nil)) (by simp [tup, refd, hf, okIdx, errOf, idxOf, *]) gv
end
end Go.Proofs.YtcpghpifbgpkjaaGreatDoor

namespace Go.Proofs.YtcpghpifbgpkjaaGreatDoor
open Go Go.SL Go.Proofs
section
attribute [local irreducible] OpJ RunL Run RunD DetJ pt own star Rd RdS
-- (*standard.state).receipt
theorem ac78 (bx : Nat) (t : Sk) (m : Mv) (c : Co) (la : Option Addr) (nl lc : Nat) (pa : Option Addr) (np pc : Nat) (enl : nl = t.layers.length) (enp : np = t.past.length) (ht : t.ok 999999) (hm : m.ok) : AC Tryz.prog 132 ⟨[.pointer (some ⟨bx, 0, none⟩)]⟩ (stars [pt bx (blk (XC t m c la nl lc pa np pc) 156), own 96 4 la nl lc ((t.layers).flatMap Ly.c), own 98 7 pa np pc ((t.past).flatMap Pa.c)]) (Outs (fun _ : Option Addr × Nat × Option Addr × Nat => True) (fun _ => I (errOf (sRecv t m c))) (fun x => Aft 156 96 98 bx m (sRecv t m c) x)) := by
 subst enl enp
 have hn : t.layers.length ≤ 1000000 ∧ t.past.length ≤ 1000000 := ⟨Nat.le_trans ht.nl (by decide), Nat.le_trans ht.np (by decide)⟩
 have hnl := ht.nl; have hnp := ht.np
 obtain ⟨hm1, hm2⟩ := hm
 refine AC.go Tryz.func132 rfl (Nat.le_of_ble_eq_true rfl) fun β => ?_
 refine sr ?_
 refine asg rfl rfl ?_
 refine kp [0] rfl ?_
 refine sr ?_
 refine sx 6 ?_
 refine RunL.call C115 rfl rfl rfl (ac115 bx t m c _ _ _ _ _ _ t.price hm1 ht.pr) tks ?_
 refine sx 5 ?_
 refine kp [0, 3, 4] rfl ?_
 refine Run.seq ?_
 refine sr ?_
 refine sx 2 ?_
 refine kp [0, 3, 4, 16] rfl ?_
 first | refine Run.if rfl (fun h1 => ?_) (fun h1 => ?_) | refine Run.cond rfl (fun h1 => ?_) (fun h1 => ?_)
 refine sr ?_
 refine sx 2 ?_
 refine kp [2] rfl ?_
 refine Run.ret ?_
 have hres : sRecv t m c = .error _ := (by unfold sRecv; rw [if_pos (by assumption)]); refine ret_out (none, 0, none, 0) (.tmp rfl .nil) trivial (by rw [hres]; rfl) ?_; rw [hres]; exact gv
 refine Run.skip ?_
 refine sr ?_
 refine sx 6 ?_
 refine RunL.callX C116 rfl rfl rfl (ac116 bx t m c la _ lc pa _ pc _ rfl rfl hn) tks fun ⟨pa2, pc2⟩ _ => ?_
 refine kp [0, 3] rfl ?_
 refine Run.seq ?_
 refine regionD HM ?_
 refine tk 0 rfl rfl rfl (DetJ.move rfl) ?_
 refine tk 1 rfl rfl rfl (DetJ.move rfl) ?_
 refine tk 2 rfl rfl rfl (DetJ.nilCheck rfl) ?_
 refine tk 3 rfl rfl rfl (DetJ.fieldAddr F85_1 rfl) ?_
 refine tk 4 rfl rfl rfl (DetJ.fieldAddr F47_4 rfl) ?_
 first | refine RunD.takeF 5 rfl rfl kr T3 rfl pk (by rfl) ?_ | refine RunD.takeO 5 rfl rfl kr T3 rfl pk (by assumption) (by rfl) (by exact fun _ => rfl) ?_
 refine tk 6 rfl rfl rfl (DetJ.move rfl) ?_
 refine tk 7 rfl rfl rfl (DetJ.move rfl) ?_
 refine tk 8 rfl rfl rfl (DetJ.nilCheck rfl) ?_
 refine tk 9 rfl rfl rfl (DetJ.fieldAddr F85_1 rfl) ?_
 refine tk 10 rfl rfl rfl (DetJ.fieldAddr F47_5 rfl) ?_
 first | refine RunD.takeF 11 rfl rfl kr T3 rfl pk (by rfl) ?_ | refine RunD.takeO 11 rfl rfl kr T3 rfl pk (by assumption) (by rfl) (by exact fun _ => rfl) ?_
 refine tk 12 rfl rfl rfl (DetJ.move rfl) ?_
 refine tk 13 rfl rfl rfl (DetJ.sub rfl rfl) ?_
 refine RunD.takeB 14 rfl rfl kr B43 rfl rfl fun cs hcs => ?_
 simp only [Sk.c, Mv.c, Co.c, bldL, bldA, Value.cells, bs, Nat.reduceAdd, Nat.reduceLeDiff, Nat.reduceLT] at hcs; subst hcs
 refine tk 15 rfl rfl rfl (DetJ.nilCheck rfl) ?_
 refine tk 16 rfl rfl rfl (DetJ.fieldAddr F85_2 rfl) ?_
 refine RunD.op 17 [false, false, false, false, false, false, false, false, false, false, false, false, false, false, false, false, false] rfl rfl rfl kr kr (OpJ.store T43 rfl rfl rfl rfl (by simp [Value.cells, Value.oneCell', Pa.c, Ly.c, Mv.c, Co.c]) up (by simp) ⟨po, ?_⟩)
 refine kd [] rfl ?_
 refine sr ?_
 refine asg rfl rfl ?_
 refine kp [2] rfl ?_
 refine Run.ret ?_
 have hres : sRecv t m c = .ok _ := (by unfold sRecv; rw [if_neg (by assumption)]); refine ret_out (la, lc, pa2, pc2) (.tmp rfl .nil) trivial (by rw [hres]; rfl) ?_; rw [hres]; simp only [Aft, List.length_set, List.length_append]; exact gv
-- (*standard.state).issue
theorem ac79 (bx : Nat) (t : Sk) (m : Mv) (c : Co) (la : Option Addr) (nl lc : Nat) (pa : Option Addr) (np pc : Nat) (enl : nl = t.layers.length) (enp : np = t.past.length) (ht : t.ok 999999) (hm : m.ok) : AC Tryz.prog 133 ⟨[.pointer (some ⟨bx, 0, none⟩)]⟩ (stars [pt bx (blk (XC t m c la nl lc pa np pc) 156), own 96 4 la nl lc ((t.layers).flatMap Ly.c), own 98 7 pa np pc ((t.past).flatMap Pa.c)]) (Outs (fun _ : Option Addr × Nat × Option Addr × Nat => True) (fun _ => I (errOf (sIssue t m c))) (fun x => Aft 156 96 98 bx m (sIssue t m c) x)) := by
 subst enl enp
 have hn : t.layers.length ≤ 1000000 ∧ t.past.length ≤ 1000000 := ⟨Nat.le_trans ht.nl (by decide), Nat.le_trans ht.np (by decide)⟩
 have hnl := ht.nl; have hnp := ht.np
 obtain ⟨hm1, hm2⟩ := hm
 refine AC.go Tryz.func133 rfl (Nat.le_of_ble_eq_true rfl) fun β => ?_
 refine sr ?_
 refine asg rfl rfl ?_
 refine kp [0] rfl ?_
 refine Run.seq ?_
 refine Run.seq ?_
 refine regionD HM ?_
 refine tk 0 rfl rfl rfl (DetJ.move rfl) ?_
 refine tk 1 rfl rfl rfl (DetJ.nilCheck rfl) ?_
 refine tk 2 rfl rfl rfl (DetJ.fieldAddr F85_0 rfl) ?_
 refine tk 3 rfl rfl rfl (DetJ.fieldAddr F28_0 rfl) ?_
 first | refine RunD.takeF 4 rfl rfl kr T3 rfl pk (by rfl) ?_ | refine RunD.takeO 4 rfl rfl kr T3 rfl pk (by assumption) (by rfl) (by exact fun _ => rfl) ?_
 refine tk 5 rfl rfl rfl (DetJ.move rfl) ?_
 refine tk 6 rfl rfl rfl (DetJ.nilCheck rfl) ?_
 refine tk 7 rfl rfl rfl (DetJ.fieldAddr F85_1 rfl) ?_
 refine tk 8 rfl rfl rfl (DetJ.fieldAddr F47_4 rfl) ?_
 first | refine RunD.takeF 9 rfl rfl kr T3 rfl pk (by rfl) ?_ | refine RunD.takeO 9 rfl rfl kr T3 rfl pk (by assumption) (by rfl) (by exact fun _ => rfl) ?_
 refine tk 10 rfl rfl rfl (DetJ.lss rfl rfl) ?_
 refine kd [0, 15] rfl ?_
 first | refine Run.if rfl (fun h1 => ?_) (fun h1 => ?_) | refine Run.cond rfl (fun h1 => ?_) (fun h1 => ?_)
 refine sr ?_
 refine asg rfl rfl ?_
 refine kp [2] rfl ?_
 refine Run.ret ?_
 have hres : sIssue t m c = .error _ := (by unfold sIssue; rw [if_pos (by assumption)]); refine ret_out (none, 0, none, 0) (.tmp rfl .nil) trivial (by rw [hres]; rfl) ?_; rw [hres]; exact gv
 refine Run.skip ?_
 refine sr ?_
 refine sx 6 ?_
 refine RunL.call C115 rfl rfl rfl (ac115 bx t m c _ _ _ _ _ _ t.price hm1 ht.pr) tks ?_
 refine sx 5 ?_
 refine kp [0, 3, 4] rfl ?_
 refine Run.seq ?_
 refine sr ?_
 refine sx 2 ?_
 refine kp [0, 3, 4, 27] rfl ?_
 first | refine Run.if rfl (fun h2 => ?_) (fun h2 => ?_) | refine Run.cond rfl (fun h2 => ?_) (fun h2 => ?_)
 refine sr ?_
 refine sx 2 ?_
 refine kp [2] rfl ?_
 refine Run.ret ?_
 have hres : sIssue t m c = .error _ := (by unfold sIssue; rw [if_neg h1, if_pos (by assumption)]); refine ret_out (none, 0, none, 0) (.tmp rfl .nil) trivial (by rw [hres]; rfl) ?_; rw [hres]; exact gv
 refine Run.skip ?_
 refine sr ?_
 refine sx 2 ?_
 refine RunL.callX C116 rfl rfl rfl (ac116 bx t m c la _ lc pa _ pc _ rfl rfl hn) tks fun ⟨pa2, pc2⟩ _ => ?_
 refine kp [0, 3] rfl ?_
 refine sr ?_
 refine sx 13 ?_
 refine kp [] rfl ?_
 refine sr ?_
 refine asg rfl rfl ?_
 refine kp [2] rfl ?_
 refine Run.ret ?_
 have hres : sIssue t m c = .ok _ := (by unfold sIssue; rw [if_neg h1, if_neg (by assumption)]); refine ret_out (la, lc, pa2, pc2) (.tmp rfl .nil) trivial (by rw [hres]; rfl) ?_; rw [hres]; simp only [Aft, List.length_set, List.length_append]; exact gv
-- (*standard.state).customer
theorem ac80 (bx : Nat) (t : Sk) (m : Mv) (c : Co) (la : Option Addr) (nl lc : Nat) (pa : Option Addr) (np pc : Nat) (enl : nl = t.layers.length) (enp : np = t.past.length) (ht : t.ok 999999) (hm : m.ok) : AC Tryz.prog 134 ⟨[.pointer (some ⟨bx, 0, none⟩)]⟩ (stars [pt bx (blk (XC t m c la nl lc pa np pc) 156), own 96 4 la nl lc ((t.layers).flatMap Ly.c), own 98 7 pa np pc ((t.past).flatMap Pa.c)]) (Outs (fun _ : Option Addr × Nat × Option Addr × Nat => True) (fun _ => I (errOf (sCust t m c))) (fun x => Aft 156 96 98 bx m (sCust t m c) x)) := by
 subst enl enp
 have hn : t.layers.length ≤ 1000000 ∧ t.past.length ≤ 1000000 := ⟨Nat.le_trans ht.nl (by decide), Nat.le_trans ht.np (by decide)⟩
 have hnl := ht.nl; have hnp := ht.np
 obtain ⟨hm1, hm2⟩ := hm
 refine AC.go Tryz.func134 rfl (Nat.le_of_ble_eq_true rfl) fun β => ?_
 refine sr ?_
 refine asg rfl rfl ?_
 refine kp [0] rfl ?_
 refine sr ?_
 refine mvo rfl rfl ?_
 refine RunL.call C117 rfl rfl rfl (ac117 bx t m c la _ lc pa _ pc _ rfl rfl (by decide) hn) tks ?_
 refine sx 5 ?_
 refine kp [0, 3, 4] rfl ?_
 refine Run.seq ?_
 refine sr ?_
 refine sx 2 ?_
 refine kp [0, 3, 4, 13] rfl ?_
 first | refine Run.if rfl (fun h1 => ?_) (fun h1 => ?_) | refine Run.cond rfl (fun h1 => ?_) (fun h1 => ?_)
 refine sr ?_
 obtain ⟨e, he⟩ := errOf_ne h1
 refine sx 2 ?_
 refine kp [2] rfl ?_
 refine Run.ret ?_
 have hres : sCust t m c = .error e := (by unfold sCust; rw [he]); rw [he]; refine ret_out (none, 0, none, 0) (.tmp rfl .nil) trivial (by rw [hres]; rfl) ?_; rw [hres]; exact gv
 refine Run.skip ?_
 refine sr ?_
 obtain ⟨i, p, hr, hx⟩ := refd_ok (Decidable.not_not.1 h1)
 rw [hr]
 have hi := (List.getElem?_eq_some_iff.1 hx).1
 obtain ⟨hp1, hp2, hp3, hp4⟩ := ht.pa i p hx
 refine RunL.ownAddr pk (flat_ne (k := 7) (fun _ => rfl) (by decide) hx) fun b e hcap => ?_
 subst e
 simp only [okIdx]
 refine sx 6 ?_
 refine RunL.call C115 rfl rfl rfl (ac115 bx t m c _ _ _ _ _ _ t.price hm1 ht.pr) tks ?_
 refine sx 5 ?_
 refine kp [0, 3, 4, 5] rfl ?_
 refine Run.seq ?_
 refine sr ?_
 refine sx 2 ?_
 refine kp [0, 3, 4, 5, 26] rfl ?_
 first | refine Run.if rfl (fun h2 => ?_) (fun h2 => ?_) | refine Run.cond rfl (fun h2 => ?_) (fun h2 => ?_)
 refine sr ?_
 refine sx 2 ?_
 refine kp [2] rfl ?_
 refine Run.ret ?_
 have hres : sCust t m c = .error _ := (by unfold sCust; rw [hr]; simp only; rw [if_pos (by assumption)]); refine ret_out (none, 0, none, 0) (.tmp rfl .nil) trivial (by rw [hres]; rfl) ?_; rw [hres]; exact gv
 refine Run.skip ?_
 refine Run.seq ?_
 refine regionD HM ?_
 refine tk 0 rfl rfl rfl (DetJ.move rfl) ?_
 refine tk 1 rfl rfl rfl (DetJ.nilCheck rfl) ?_
 refine tk 2 rfl rfl rfl (DetJ.fieldAddr F85_0 rfl) ?_
 refine tk 3 rfl rfl rfl (DetJ.fieldAddr F28_4 rfl) ?_
 first | refine RunD.takeF 4 rfl rfl kr T26 rfl pk (by rfl) ?_ | refine RunD.takeO 4 rfl rfl kr T26 rfl pk (by assumption) (by rfl) (by exact fun _ => rfl) ?_
 refine tk 5 rfl rfl rfl (DetJ.move rfl) ?_
 refine tk 6 rfl rfl rfl (DetJ.indexAddr S26 rfl rfl (by omega)) ?_
 first | refine RunD.takeW 7 rfl rfl kr T66 rfl pk (by rfl) ?_ | refine RunD.takeP 7 rfl rfl kr T66 rfl pk (by simp) ?_ | refine RunD.takeE 7 rfl rfl kr T66 rfl pk (by assumption) (by exact fun _ => rfl) rfl (by decide) ?_
 refine tk 8 rfl rfl rfl (DetJ.move rfl) ?_
 refine tk 9 rfl rfl rfl (DetJ.nilCheck rfl) ?_
 refine tk 10 rfl rfl rfl (DetJ.fieldAddr F85_1 rfl) ?_
 refine tk 11 rfl rfl rfl (DetJ.fieldAddr F47_4 rfl) ?_
 first | refine RunD.takeF 12 rfl rfl kr T3 rfl pk (by rfl) ?_ | refine RunD.takeO 12 rfl rfl kr T3 rfl pk (by assumption) (by rfl) (by exact fun _ => rfl) ?_
 refine RunD.op 13 [false, false, false, true, true, false, false, false, false, true, true, true, true] rfl rfl rfl kr kr (OpJ.callRet C118 rfl rfl (ac118 p m hm1) .nil ⟨po, ?_⟩)
 refine tk 14 rfl rfl rfl (DetJ.assign rfl) ?_
 refine kd [0, 3, 5, 6] rfl ?_
 refine Run.seq ?_
 refine regionD HM ?_
 refine tk 0 rfl rfl rfl (DetJ.move rfl) ?_
 refine tk 1 rfl rfl rfl (DetJ.nilCheck rfl) ?_
 refine tk 2 rfl rfl rfl (DetJ.fieldAddr F85_0 rfl) ?_
 refine tk 3 rfl rfl rfl (DetJ.fieldAddr F28_4 rfl) ?_
 first | refine RunD.takeF 4 rfl rfl kr T26 rfl pk (by rfl) ?_ | refine RunD.takeO 4 rfl rfl kr T26 rfl pk (by assumption) (by rfl) (by exact fun _ => rfl) ?_
 refine tk 5 rfl rfl rfl (DetJ.move rfl) ?_
 refine tk 6 rfl rfl rfl (DetJ.indexAddr S26 rfl rfl (by omega)) ?_
 refine tk 7 rfl rfl rfl (DetJ.fieldAddr F66_5 rfl) ?_
 first | refine RunD.takeF 8 rfl rfl kr T3 rfl pk (by rfl) ?_ | refine RunD.takeO 8 rfl rfl kr T3 rfl pk (by assumption) (by rfl) (by exact fun _ => rfl) ?_
 refine tk 9 rfl rfl rfl (DetJ.move rfl) ?_
 refine tk 10 rfl rfl rfl (DetJ.nilCheck rfl) ?_
 refine tk 11 rfl rfl rfl (DetJ.fieldAddr F85_1 rfl) ?_
 refine tk 12 rfl rfl rfl (DetJ.fieldAddr F47_4 rfl) ?_
 first | refine RunD.takeF 13 rfl rfl kr T3 rfl pk (by rfl) ?_ | refine RunD.takeO 13 rfl rfl kr T3 rfl pk (by assumption) (by rfl) (by exact fun _ => rfl) ?_
 refine tk 14 rfl rfl rfl (DetJ.add rfl rfl) ?_
 refine tk 15 rfl rfl rfl (DetJ.indexAddr S26 rfl rfl (by omega)) ?_
 refine tk 16 rfl rfl rfl (DetJ.fieldAddr F66_5 rfl) ?_
 refine RunD.op 17 [false, false, false, false, false, false, false, false, false, false, false, false, false, false, false, false, false] rfl rfl rfl kr kr (OpJ.storeO (i := i) (u' := sendP p m) T3 rfl rfl rfl hx (fun _ => rfl) (by decide) rfl up ⟨po, ?_⟩)
 refine kd [0, 3, 5, 6] rfl ?_
 refine sr ?_
 have hx1 := set_get hx (sendP p m)
 refine sx 10 ?_
 refine RunL.op rfl rfl (OpJ.add rfl rfl ?_)
 refine sx 2 ?_
 refine RunL.op rfl rfl (OpJ.storeO (i := i) (u' := backP p m) T3 rfl rfl rfl hx1 (fun _ => rfl) (by decide) rfl up ?_)
 rw [List.set_set]
 refine kp [0, 5, 6] rfl ?_
 refine sr ?_
 refine sx 9 ?_
 refine RunL.op rfl rfl (OpJ.sub rfl rfl ?_)
 refine sx 4 ?_
 refine kp [] rfl ?_
 refine sr ?_
 refine asg rfl rfl ?_
 refine kp [2] rfl ?_
 refine Run.ret ?_
 have hres : sCust t m c = .ok _ := (by unfold sCust; rw [hr]; simp only; rw [if_neg (by assumption)]); refine ret_out (la, lc, (some ⟨b, 0, none⟩), pc) (.tmp rfl .nil) trivial (by rw [hres]; rfl) ?_; rw [hres]; simp only [Aft, List.length_set, List.length_append]; exact gv
-- (*standard.state).supplier
theorem ac81 (bx : Nat) (t : Sk) (m : Mv) (c : Co) (la : Option Addr) (nl lc : Nat) (pa : Option Addr) (np pc : Nat) (enl : nl = t.layers.length) (enp : np = t.past.length) (ht : t.ok 999999) (hm : m.ok) : AC Tryz.prog 135 ⟨[.pointer (some ⟨bx, 0, none⟩)]⟩ (stars [pt bx (blk (XC t m c la nl lc pa np pc) 156), own 96 4 la nl lc ((t.layers).flatMap Ly.c), own 98 7 pa np pc ((t.past).flatMap Pa.c)]) (Outs (fun _ : Option Addr × Nat × Option Addr × Nat => True) (fun _ => I (errOf (sSupp t m c))) (fun x => Aft 156 96 98 bx m (sSupp t m c) x)) := by
 subst enl enp
 have hn : t.layers.length ≤ 1000000 ∧ t.past.length ≤ 1000000 := ⟨Nat.le_trans ht.nl (by decide), Nat.le_trans ht.np (by decide)⟩
 have hnl := ht.nl; have hnp := ht.np
 obtain ⟨hm1, hm2⟩ := hm
 refine AC.go Tryz.func135 rfl (Nat.le_of_ble_eq_true rfl) fun β => ?_
 refine sr ?_
 refine asg rfl rfl ?_
 refine kp [0] rfl ?_
 refine sr ?_
 refine mvo rfl rfl ?_
 refine RunL.call C117 rfl rfl rfl (ac117 bx t m c la _ lc pa _ pc _ rfl rfl (by decide) hn) tks ?_
 refine sx 5 ?_
 refine kp [0, 3, 4] rfl ?_
 refine Run.seq ?_
 refine sr ?_
 refine sx 2 ?_
 refine kp [0, 3, 4, 12] rfl ?_
 first | refine Run.if rfl (fun h1 => ?_) (fun h1 => ?_) | refine Run.cond rfl (fun h1 => ?_) (fun h1 => ?_)
 refine sr ?_
 obtain ⟨e, he⟩ := errOf_ne h1
 refine sx 2 ?_
 refine kp [2] rfl ?_
 refine Run.ret ?_
 have hres : sSupp t m c = .error e := (by unfold sSupp; rw [he]); rw [he]; refine ret_out (none, 0, none, 0) (.tmp rfl .nil) trivial (by rw [hres]; rfl) ?_; rw [hres]; exact gv
 refine Run.skip ?_
 refine Run.seq ?_
 refine Run.seq ?_
 refine regionD HM ?_
 obtain ⟨i, p, hr, hx⟩ := refd_ok (Decidable.not_not.1 h1)
 rw [hr]
 have hi := (List.getElem?_eq_some_iff.1 hx).1
 obtain ⟨hp1, hp2, hp3, hp4⟩ := ht.pa i p hx
 refine RunD.ownAddr pk (flat_ne (k := 7) (fun _ => rfl) (by decide) hx) fun b e hcap => ?_
 subst e
 simp only [okIdx]
 refine tk 0 rfl rfl rfl (DetJ.move rfl) ?_
 refine tk 1 rfl rfl rfl (DetJ.nilCheck rfl) ?_
 refine tk 2 rfl rfl rfl (DetJ.fieldAddr F85_0 rfl) ?_
 refine tk 3 rfl rfl rfl (DetJ.fieldAddr F28_0 rfl) ?_
 first | refine RunD.takeF 4 rfl rfl kr T3 rfl pk (by rfl) ?_ | refine RunD.takeO 4 rfl rfl kr T3 rfl pk (by assumption) (by rfl) (by exact fun _ => rfl) ?_
 refine tk 5 rfl rfl rfl (DetJ.move rfl) ?_
 refine tk 6 rfl rfl rfl (DetJ.nilCheck rfl) ?_
 refine tk 7 rfl rfl rfl (DetJ.fieldAddr F85_1 rfl) ?_
 refine tk 8 rfl rfl rfl (DetJ.fieldAddr F47_4 rfl) ?_
 first | refine RunD.takeF 9 rfl rfl kr T3 rfl pk (by rfl) ?_ | refine RunD.takeO 9 rfl rfl kr T3 rfl pk (by assumption) (by rfl) (by exact fun _ => rfl) ?_
 refine tk 10 rfl rfl rfl (DetJ.lss rfl rfl) ?_
 refine kd [0, 3, 24] rfl ?_
 first | refine Run.if rfl (fun h2 => ?_) (fun h2 => ?_) | refine Run.cond rfl (fun h2 => ?_) (fun h2 => ?_)
 refine sr ?_
 refine asg rfl rfl ?_
 refine kp [2] rfl ?_
 refine Run.ret ?_
 have hres : sSupp t m c = .error _ := (by unfold sSupp; rw [hr]; simp only; rw [if_pos (by assumption)]); refine ret_out (none, 0, none, 0) (.tmp rfl .nil) trivial (by rw [hres]; rfl) ?_; rw [hres]; exact gv
 refine Run.skip ?_
 refine sr ?_
 refine sx 6 ?_
 refine RunL.call C115 rfl rfl rfl (ac115 bx t m c _ _ _ _ _ _ t.price hm1 ht.pr) tks ?_
 refine sx 5 ?_
 refine kp [0, 3, 4, 5] rfl ?_
 refine Run.seq ?_
 refine sr ?_
 refine sx 2 ?_
 refine kp [0, 3, 4, 5, 36] rfl ?_
 first | refine Run.if rfl (fun h3 => ?_) (fun h3 => ?_) | refine Run.cond rfl (fun h3 => ?_) (fun h3 => ?_)
 refine sr ?_
 refine sx 2 ?_
 refine kp [2] rfl ?_
 refine Run.ret ?_
 have hres : sSupp t m c = .error _ := (by unfold sSupp; rw [hr]; simp only; rw [if_neg h2, if_pos (by assumption)]); refine ret_out (none, 0, none, 0) (.tmp rfl .nil) trivial (by rw [hres]; rfl) ?_; rw [hres]; exact gv
 refine Run.skip ?_
 refine Run.seq ?_
 refine regionD HM ?_
 refine tk 0 rfl rfl rfl (DetJ.move rfl) ?_
 refine tk 1 rfl rfl rfl (DetJ.nilCheck rfl) ?_
 refine tk 2 rfl rfl rfl (DetJ.fieldAddr F85_0 rfl) ?_
 refine tk 3 rfl rfl rfl (DetJ.fieldAddr F28_4 rfl) ?_
 first | refine RunD.takeF 4 rfl rfl kr T26 rfl pk (by rfl) ?_ | refine RunD.takeO 4 rfl rfl kr T26 rfl pk (by assumption) (by rfl) (by exact fun _ => rfl) ?_
 refine tk 5 rfl rfl rfl (DetJ.move rfl) ?_
 refine tk 6 rfl rfl rfl (DetJ.indexAddr S26 rfl rfl (by omega)) ?_
 refine tk 7 rfl rfl rfl (DetJ.fieldAddr F66_5 rfl) ?_
 first | refine RunD.takeF 8 rfl rfl kr T3 rfl pk (by rfl) ?_ | refine RunD.takeO 8 rfl rfl kr T3 rfl pk (by assumption) (by rfl) (by exact fun _ => rfl) ?_
 refine tk 9 rfl rfl rfl (DetJ.move rfl) ?_
 refine tk 10 rfl rfl rfl (DetJ.nilCheck rfl) ?_
 refine tk 11 rfl rfl rfl (DetJ.fieldAddr F85_1 rfl) ?_
 refine tk 12 rfl rfl rfl (DetJ.fieldAddr F47_4 rfl) ?_
 first | refine RunD.takeF 13 rfl rfl kr T3 rfl pk (by rfl) ?_ | refine RunD.takeO 13 rfl rfl kr T3 rfl pk (by assumption) (by rfl) (by exact fun _ => rfl) ?_
 refine tk 14 rfl rfl rfl (DetJ.add rfl rfl) ?_
 refine tk 15 rfl rfl rfl (DetJ.indexAddr S26 rfl rfl (by omega)) ?_
 refine tk 16 rfl rfl rfl (DetJ.fieldAddr F66_5 rfl) ?_
 refine RunD.op 17 [false, false, false, false, false, false, false, false, false, false, false, false, false, false, false, false, false] rfl rfl rfl kr kr (OpJ.storeO (i := i) (u' := sendP p m) T3 rfl rfl rfl hx (fun _ => rfl) (by decide) rfl up ⟨po, ?_⟩)
 refine kd [0, 5] rfl ?_
 refine Run.seq ?_
 refine regionD HM ?_
 refine tk 0 rfl rfl rfl (DetJ.move rfl) ?_
 refine tk 1 rfl rfl rfl (DetJ.move rfl) ?_
 refine tk 2 rfl rfl rfl (DetJ.nilCheck rfl) ?_
 refine tk 3 rfl rfl rfl (DetJ.fieldAddr F85_1 rfl) ?_
 refine tk 4 rfl rfl rfl (DetJ.fieldAddr F47_4 rfl) ?_
 first | refine RunD.takeF 5 rfl rfl kr T3 rfl pk (by rfl) ?_ | refine RunD.takeO 5 rfl rfl kr T3 rfl pk (by assumption) (by rfl) (by exact fun _ => rfl) ?_
 refine tk 6 rfl rfl rfl (DetJ.neg rfl) ?_
 refine tk 7 rfl rfl rfl (DetJ.move rfl) ?_
 refine tk 8 rfl rfl rfl (DetJ.neg rfl) ?_
 refine tk 9 rfl rfl rfl (DetJ.move rfl) ?_
 refine tk 10 rfl rfl rfl (DetJ.move rfl) ?_
 refine tk 11 rfl rfl rfl (DetJ.nilCheck rfl) ?_
 refine tk 12 rfl rfl rfl (DetJ.fieldAddr F85_1 rfl) ?_
 refine tk 13 rfl rfl rfl (DetJ.fieldAddr F47_5 rfl) ?_
 first | refine RunD.takeF 14 rfl rfl kr T3 rfl pk (by rfl) ?_ | refine RunD.takeO 14 rfl rfl kr T3 rfl pk (by assumption) (by rfl) (by exact fun _ => rfl) ?_
 refine tk 15 rfl rfl rfl (DetJ.sub rfl rfl) ?_
 refine RunD.takeB 16 rfl rfl kr B43 rfl rfl fun cs hcs => ?_
 simp only [Sk.c, Mv.c, Co.c, bldL, bldA, Value.cells, bs, Nat.reduceAdd, Nat.reduceLeDiff, Nat.reduceLT] at hcs; subst hcs
 refine tk 17 rfl rfl rfl (DetJ.nilCheck rfl) ?_
 refine tk 18 rfl rfl rfl (DetJ.fieldAddr F85_2 rfl) ?_
 refine RunD.op 19 [false, false, false, false, false, false, false, false, false, false, false, false, false, false, false, false, false, false, false] rfl rfl rfl kr kr (OpJ.store T43 rfl rfl rfl rfl (by simp [Value.cells, Value.oneCell', Pa.c, Ly.c, Mv.c, Co.c]) up (by simp) ⟨po, ?_⟩)
 refine kd [] rfl ?_
 refine sr ?_
 refine asg rfl rfl ?_
 refine kp [2] rfl ?_
 refine Run.ret ?_
 have hres : sSupp t m c = .ok _ := (by unfold sSupp; rw [hr]; simp only; rw [if_neg h2, if_neg (by assumption)]); refine ret_out (la, lc, (some ⟨b, 0, none⟩), pc) (.tmp rfl .nil) trivial (by rw [hres]; rfl) ?_; rw [hres]; simp only [Aft, List.length_set, List.length_append]; exact gv
-- (*standard.state).landed
theorem ac82 (bx : Nat) (t : Sk) (m : Mv) (c : Co) (la : Option Addr) (nl lc : Nat) (pa : Option Addr) (np pc : Nat) (enl : nl = t.layers.length) (enp : np = t.past.length) (ht : t.ok 999999) (hm : m.ok) : AC Tryz.prog 136 ⟨[.pointer (some ⟨bx, 0, none⟩)]⟩ (stars [pt bx (blk (XC t m c la nl lc pa np pc) 156), own 96 4 la nl lc ((t.layers).flatMap Ly.c), own 98 7 pa np pc ((t.past).flatMap Pa.c)]) (Outs (fun _ : Option Addr × Nat × Option Addr × Nat => True) (fun _ => I (errOf (sLand t m c))) (fun x => Aft 156 96 98 bx m (sLand t m c) x)) := by
 subst enl enp
 have hn : t.layers.length ≤ 1000000 ∧ t.past.length ≤ 1000000 := ⟨Nat.le_trans ht.nl (by decide), Nat.le_trans ht.np (by decide)⟩
 have hnl := ht.nl; have hnp := ht.np
 obtain ⟨hm1, hm2⟩ := hm
 refine AC.go Tryz.func136 rfl (Nat.le_of_ble_eq_true rfl) fun β => ?_
 refine sr ?_
 refine asg rfl rfl ?_
 refine kp [0] rfl ?_
 refine Run.seq ?_
 refine sr ?_
 refine mvo rfl rfl ?_
 refine RunL.call C117 rfl rfl rfl (ac117 bx t m c la _ lc pa _ pc _ rfl rfl (by decide) hn) tks ?_
 refine sx 5 ?_
 refine kp [0, 4] rfl ?_
 refine sr ?_
 refine sx 2 ?_
 refine kp [0, 4, 11] rfl ?_
 first | refine Run.if rfl (fun h1 => ?_) (fun h1 => ?_) | refine Run.cond rfl (fun h1 => ?_) (fun h1 => ?_)
 refine sr ?_
 obtain ⟨e, he⟩ := errOf_ne h1
 refine sx 2 ?_
 refine kp [2] rfl ?_
 refine Run.ret ?_
 have hres : sLand t m c = .error e := (by unfold sLand; rw [he]); rw [he]; refine ret_out (none, 0, none, 0) (.tmp rfl .nil) trivial (by rw [hres]; rfl) ?_; rw [hres]; exact gv
 refine Run.skip ?_
 refine sr ?_
 obtain ⟨i, p, hr, hx⟩ := refd_ok (Decidable.not_not.1 h1)
 refine sx 10 ?_
 refine kp [] rfl ?_
 refine sr ?_
 refine asg rfl rfl ?_
 refine kp [2] rfl ?_
 refine Run.ret ?_
 have hres : sLand t m c = .ok _ := (by unfold sLand; rw [hr]); refine ret_out (la, lc, pa, pc) (.tmp rfl .nil) trivial (by rw [hres]; rfl) ?_; rw [hres]; simp only [Aft, List.length_set, List.length_append]; exact gv
end
end Go.Proofs.YtcpghpifbgpkjaaGreatDoor

namespace Go.Proofs.YtcpghpifbgpkjaaGreatDoor
open Go Go.SL Go.Proofs
section
attribute [local irreducible] OpJ RunL Run RunD DetJ pt own star Rd RdS
-- (*standard.state).reprice
theorem ac83 (bx : Nat) (t : Sk) (m : Mv) (c : Co) (la : Option Addr) (nl lc : Nat) (pa : Option Addr) (np pc : Nat) (enl : nl = t.layers.length) (enp : np = t.past.length) (ht : t.ok 999999) (hm : m.ok) : AC Tryz.prog 137 ⟨[.pointer (some ⟨bx, 0, none⟩)]⟩ (stars [pt bx (blk (XC t m c la nl lc pa np pc) 156), own 96 4 la nl lc ((t.layers).flatMap Ly.c), own 98 7 pa np pc ((t.past).flatMap Pa.c)]) (Outs (fun _ : Option Addr × Nat × Option Addr × Nat => True) (fun _ => I (errOf (sRepr t m c))) (fun x => Aft 156 96 98 bx m (sRepr t m c) x)) := by
 subst enl enp
 have hn : t.layers.length ≤ 1000000 ∧ t.past.length ≤ 1000000 := ⟨Nat.le_trans ht.nl (by decide), Nat.le_trans ht.np (by decide)⟩
 have hnl := ht.nl; have hnp := ht.np
 obtain ⟨hm1, hm2⟩ := hm
 refine AC.go Tryz.func137 rfl (Nat.le_of_ble_eq_true rfl) fun β => ?_
 refine sr ?_
 refine asg rfl rfl ?_
 refine kp [0] rfl ?_
 refine Run.seq ?_
 refine regionD HM ?_
 refine tk 0 rfl rfl rfl (DetJ.move rfl) ?_
 refine tk 1 rfl rfl rfl (DetJ.nilCheck rfl) ?_
 refine tk 2 rfl rfl rfl (DetJ.fieldAddr F85_1 rfl) ?_
 refine tk 3 rfl rfl rfl (DetJ.fieldAddr F47_5 rfl) ?_
 first | refine RunD.takeF 4 rfl rfl kr T3 rfl pk (by rfl) ?_ | refine RunD.takeO 4 rfl rfl kr T3 rfl pk (by assumption) (by rfl) (by exact fun _ => rfl) ?_
 refine tk 5 rfl rfl rfl (DetJ.move rfl) ?_
 refine tk 6 rfl rfl rfl (DetJ.nilCheck rfl) ?_
 refine tk 7 rfl rfl rfl (DetJ.fieldAddr F85_0 rfl) ?_
 refine tk 8 rfl rfl rfl (DetJ.fieldAddr F28_2 rfl) ?_
 first | refine RunD.takeF 9 rfl rfl kr T3 rfl pk (by rfl) ?_ | refine RunD.takeO 9 rfl rfl kr T3 rfl pk (by assumption) (by rfl) (by exact fun _ => rfl) ?_
 refine RunD.op 10 [false, false, false, true, true, false, false, false, true, true] rfl rfl rfl kr kr (OpJ.callRet C119 rfl rfl (ac119 _ _ hm2 ht.pr) .nil ⟨po, ?_⟩)
 refine tk 11 rfl rfl rfl (DetJ.move rfl) ?_
 refine tk 12 rfl rfl rfl (DetJ.extract rfl rfl) ?_
 refine tk 13 rfl rfl rfl (DetJ.extract rfl rfl) ?_
 refine tk 14 rfl rfl rfl (DetJ.assign rfl) ?_
 refine tk 15 rfl rfl rfl (DetJ.assign rfl) ?_
 refine kd [0, 3, 4] rfl ?_
 refine sr ?_
 refine sx 6 ?_
 refine RunL.call C120 rfl rfl rfl (ac120 _ _ ht.q subN_i64) .nil ?_
 refine sx 5 ?_
 refine kp [0, 4, 5, 6] rfl ?_
 refine Run.seq ?_
 refine sr ?_
 refine RunL.cut (t := 41) (v := Bo (!subOk m.cost t.price || !mulOk t.qty (subN m.cost t.price) || !withinB (reprV t m))) (kt (ks := [0, 5]) rfl) ?_ ?_
 refine sx 3 ?_
 first | refine RunL.splitP (t := 33) rfl (fun g1 => ?_) (fun g1 => ?_) | refine RunL.split (t := 33) rfl (fun g1 => ?_) (fun g1 => ?_)
 refine sx 8 ?_
 exact RunL.nil ⟨.cons (by first | rfl | (show some (Value.bool _) = some (Value.bool _); simp [reprV, *]; done) | (show some (Value.bool _) = some (Value.bool _); simp_all)) (kt (ks := [0, 5]) rfl), rfl⟩
 refine sx 4 ?_
 first | refine RunL.splitP (t := 37) rfl (fun g2 => ?_) (fun g2 => ?_) | refine RunL.split (t := 37) rfl (fun g2 => ?_) (fun g2 => ?_)
 refine sx 4 ?_
 exact RunL.nil ⟨.cons (by first | rfl | (show some (Value.bool _) = some (Value.bool _); simp [reprV, *]; done) | (show some (Value.bool _) = some (Value.bool _); simp_all)) (kt (ks := [0, 5]) rfl), rfl⟩
 refine sx 1 ?_
 refine RunL.callG C48 rfl rfl rfl rfl rfl (ac48 _) .nil ?_
 refine sx 2 ?_
 exact RunL.nil ⟨.cons (by first | rfl | (show some (Value.bool _) = some (Value.bool _); simp [reprV, *]; done) | (show some (Value.bool _) = some (Value.bool _); simp_all)) (kt (ks := [0, 5]) rfl), rfl⟩
 first | refine Run.if rfl (fun h3 => ?_) (fun h3 => ?_) | refine Run.cond rfl (fun h3 => ?_) (fun h3 => ?_)
 refine sr ?_
 refine asg rfl rfl ?_
 refine kp [2] rfl ?_
 refine Run.ret ?_
 have hres : sRepr t m c = .error _ := (by unfold sRepr; exact if_pos (by assumption)); refine ret_out (none, 0, none, 0) (.tmp rfl .nil) trivial (by rw [hres]; rfl) ?_; rw [hres]; exact gv
 refine Run.skip ?_
 refine sr ?_
 refine sx 10 ?_
 refine kp [0, 5] rfl ?_
 refine sr ?_
 refine sx 8 ?_
 refine kp [] rfl ?_
 refine sr ?_
 refine asg rfl rfl ?_
 refine kp [2] rfl ?_
 refine Run.ret ?_
 have hres : sRepr t m c = .ok _ := (by unfold sRepr; exact if_neg (Bool.eq_false_iff.1 (by assumption))); refine ret_out (la, lc, pa, pc) (.tmp rfl .nil) trivial (by rw [hres]; rfl) ?_; rw [hres]; simp only [Aft, List.length_set, List.length_append]; exact gv
end
end Go.Proofs.YtcpghpifbgpkjaaGreatDoor

namespace Go.Proofs.YtcpghpifbgpkjaaGreatDoor
open Go Go.SL Go.Proofs
section
attribute [local irreducible] OpJ RunL Run RunD DetJ pt own star Rd RdS
end
theorem acs78 (bx : Nat) (t : Sk) (m : Mv) (c : Co) (la : Option Addr) (nl lc : Nat) (pa : Option Addr) (np pc : Nat) (enl : nl = t.layers.length) (enp : np = t.past.length) (ht : t.ok 999999) (hm : m.ok) (hk : m.kind = 1) : AC Tryz.prog 132 ⟨[.pointer (some ⟨bx, 0, none⟩)]⟩ (stars [pt bx (blk (XC t m c la nl lc pa np pc) 156), own 96 4 la nl lc ((t.layers).flatMap Ly.c), own 98 7 pa np pc ((t.past).flatMap Pa.c)]) (Outs (fun _ : Option Addr × Nat × Option Addr × Nat => True) (fun _ => I (errOf (sDo t m c))) (fun x => Aft 156 96 98 bx m (sDo t m c) x)) := by
  rw [sDo_1 hk]; exact ac78 bx t m c la nl lc pa np pc enl enp ht hm
section
attribute [local irreducible] OpJ RunL Run RunD DetJ pt own star Rd RdS
end
theorem acs79 (bx : Nat) (t : Sk) (m : Mv) (c : Co) (la : Option Addr) (nl lc : Nat) (pa : Option Addr) (np pc : Nat) (enl : nl = t.layers.length) (enp : np = t.past.length) (ht : t.ok 999999) (hm : m.ok) (hk : m.kind = 2) : AC Tryz.prog 133 ⟨[.pointer (some ⟨bx, 0, none⟩)]⟩ (stars [pt bx (blk (XC t m c la nl lc pa np pc) 156), own 96 4 la nl lc ((t.layers).flatMap Ly.c), own 98 7 pa np pc ((t.past).flatMap Pa.c)]) (Outs (fun _ : Option Addr × Nat × Option Addr × Nat => True) (fun _ => I (errOf (sDo t m c))) (fun x => Aft 156 96 98 bx m (sDo t m c) x)) := by
  rw [sDo_2 hk]; exact ac79 bx t m c la nl lc pa np pc enl enp ht hm
section
attribute [local irreducible] OpJ RunL Run RunD DetJ pt own star Rd RdS
end
theorem acs80 (bx : Nat) (t : Sk) (m : Mv) (c : Co) (la : Option Addr) (nl lc : Nat) (pa : Option Addr) (np pc : Nat) (enl : nl = t.layers.length) (enp : np = t.past.length) (ht : t.ok 999999) (hm : m.ok) (hk : m.kind = 3) : AC Tryz.prog 134 ⟨[.pointer (some ⟨bx, 0, none⟩)]⟩ (stars [pt bx (blk (XC t m c la nl lc pa np pc) 156), own 96 4 la nl lc ((t.layers).flatMap Ly.c), own 98 7 pa np pc ((t.past).flatMap Pa.c)]) (Outs (fun _ : Option Addr × Nat × Option Addr × Nat => True) (fun _ => I (errOf (sDo t m c))) (fun x => Aft 156 96 98 bx m (sDo t m c) x)) := by
  rw [sDo_3 hk]; exact ac80 bx t m c la nl lc pa np pc enl enp ht hm
section
attribute [local irreducible] OpJ RunL Run RunD DetJ pt own star Rd RdS
end
theorem acs81 (bx : Nat) (t : Sk) (m : Mv) (c : Co) (la : Option Addr) (nl lc : Nat) (pa : Option Addr) (np pc : Nat) (enl : nl = t.layers.length) (enp : np = t.past.length) (ht : t.ok 999999) (hm : m.ok) (hk : m.kind = 4) : AC Tryz.prog 135 ⟨[.pointer (some ⟨bx, 0, none⟩)]⟩ (stars [pt bx (blk (XC t m c la nl lc pa np pc) 156), own 96 4 la nl lc ((t.layers).flatMap Ly.c), own 98 7 pa np pc ((t.past).flatMap Pa.c)]) (Outs (fun _ : Option Addr × Nat × Option Addr × Nat => True) (fun _ => I (errOf (sDo t m c))) (fun x => Aft 156 96 98 bx m (sDo t m c) x)) := by
  rw [sDo_4 hk]; exact ac81 bx t m c la nl lc pa np pc enl enp ht hm
section
attribute [local irreducible] OpJ RunL Run RunD DetJ pt own star Rd RdS
end
theorem acs82 (bx : Nat) (t : Sk) (m : Mv) (c : Co) (la : Option Addr) (nl lc : Nat) (pa : Option Addr) (np pc : Nat) (enl : nl = t.layers.length) (enp : np = t.past.length) (ht : t.ok 999999) (hm : m.ok) (hk : m.kind = 5) : AC Tryz.prog 136 ⟨[.pointer (some ⟨bx, 0, none⟩)]⟩ (stars [pt bx (blk (XC t m c la nl lc pa np pc) 156), own 96 4 la nl lc ((t.layers).flatMap Ly.c), own 98 7 pa np pc ((t.past).flatMap Pa.c)]) (Outs (fun _ : Option Addr × Nat × Option Addr × Nat => True) (fun _ => I (errOf (sDo t m c))) (fun x => Aft 156 96 98 bx m (sDo t m c) x)) := by
  rw [sDo_5 hk]; exact ac82 bx t m c la nl lc pa np pc enl enp ht hm
section
attribute [local irreducible] OpJ RunL Run RunD DetJ pt own star Rd RdS
end
theorem acs83 (bx : Nat) (t : Sk) (m : Mv) (c : Co) (la : Option Addr) (nl lc : Nat) (pa : Option Addr) (np pc : Nat) (enl : nl = t.layers.length) (enp : np = t.past.length) (ht : t.ok 999999) (hm : m.ok) (hk : ¬ m.kind = 1 ∧ ¬ m.kind = 2 ∧ ¬ m.kind = 3 ∧ ¬ m.kind = 4 ∧ ¬ m.kind = 5) : AC Tryz.prog 137 ⟨[.pointer (some ⟨bx, 0, none⟩)]⟩ (stars [pt bx (blk (XC t m c la nl lc pa np pc) 156), own 96 4 la nl lc ((t.layers).flatMap Ly.c), own 98 7 pa np pc ((t.past).flatMap Pa.c)]) (Outs (fun _ : Option Addr × Nat × Option Addr × Nat => True) (fun _ => I (errOf (sDo t m c))) (fun x => Aft 156 96 98 bx m (sDo t m c) x)) := by
  rw [sDo_6 hk]; exact ac83 bx t m c la nl lc pa np pc enl enp ht hm
section
attribute [local irreducible] OpJ RunL Run RunD DetJ pt own star Rd RdS
-- (*standard.state).move
theorem ac46 (bx : Nat) (t : Sk) (m : Mv) (c : Co) (la : Option Addr) (nl lc : Nat) (pa : Option Addr) (np pc : Nat) (enl : nl = t.layers.length) (enp : np = t.past.length) (ht : t.ok 999999) (hm : m.ok) : AC Tryz.prog 103 ⟨[.pointer (some ⟨bx, 0, none⟩)]⟩ (stars [pt bx (blk (XC t m c la nl lc pa np pc) 156), own 96 4 la nl lc ((t.layers).flatMap Ly.c), own 98 7 pa np pc ((t.past).flatMap Pa.c)]) (Outs (fun _ : Option Addr × Nat × Option Addr × Nat => True) (fun _ => I (errOf (sDo t m c))) (fun x => Aft 156 96 98 bx m (sDo t m c) x)) := by
 subst enl enp
 have hn : t.layers.length ≤ 1000000 ∧ t.past.length ≤ 1000000 := ⟨Nat.le_trans ht.nl (by decide), Nat.le_trans ht.np (by decide)⟩
 have hnl := ht.nl; have hnp := ht.np
 obtain ⟨hm1, hm2⟩ := hm
 refine AC.go Tryz.func103 rfl (Nat.le_of_ble_eq_true rfl) fun β => ?_
 refine sr ?_
 refine asg rfl rfl ?_
 refine kp [0] rfl ?_
 refine Run.seq ?_
 refine sr ?_
 refine sx 5 ?_
 refine kp [0, 7] rfl ?_
 refine Run.block ?_
 refine sr ?_
 refine sx 2 ?_
 refine kp [0, 7, 8] rfl ?_
 first | refine Run.if rfl (fun h1 => ?_) (fun h1 => ?_) | refine Run.cond rfl (fun h1 => ?_) (fun h1 => ?_)
 refine sr ?_
 refine mvo rfl rfl ?_
 refine RunL.callX C78 rfl rfl rfl (acs78 bx t m c la _ lc pa _ pc rfl rfl ht ⟨hm1, hm2⟩ (by assumption)) tks fun x _ => ?_
 refine asg rfl rfl ?_
 refine kp [2] rfl ?_
 refine Run.ret ?_
 refine ret_out x (.tmp rfl .nil) trivial rfl ?_; simp only [List.append_nil]; exact Gives.refl _
 refine sr ?_
 refine sx 2 ?_
 refine kp [0, 7, 12] rfl ?_
 first | refine Run.if rfl (fun h2 => ?_) (fun h2 => ?_) | refine Run.cond rfl (fun h2 => ?_) (fun h2 => ?_)
 refine sr ?_
 refine mvo rfl rfl ?_
 refine RunL.callX C79 rfl rfl rfl (acs79 bx t m c la _ lc pa _ pc rfl rfl ht ⟨hm1, hm2⟩ (by assumption)) tks fun x _ => ?_
 refine asg rfl rfl ?_
 refine kp [2] rfl ?_
 refine Run.ret ?_
 refine ret_out x (.tmp rfl .nil) trivial rfl ?_; simp only [List.append_nil]; exact Gives.refl _
 refine sr ?_
 refine sx 2 ?_
 refine kp [0, 7, 16] rfl ?_
 first | refine Run.if rfl (fun h3 => ?_) (fun h3 => ?_) | refine Run.cond rfl (fun h3 => ?_) (fun h3 => ?_)
 refine sr ?_
 refine mvo rfl rfl ?_
 refine RunL.callX C80 rfl rfl rfl (acs80 bx t m c la _ lc pa _ pc rfl rfl ht ⟨hm1, hm2⟩ (by assumption)) tks fun x _ => ?_
 refine asg rfl rfl ?_
 refine kp [2] rfl ?_
 refine Run.ret ?_
 refine ret_out x (.tmp rfl .nil) trivial rfl ?_; simp only [List.append_nil]; exact Gives.refl _
 refine sr ?_
 refine sx 2 ?_
 refine kp [0, 7, 20] rfl ?_
 first | refine Run.if rfl (fun h4 => ?_) (fun h4 => ?_) | refine Run.cond rfl (fun h4 => ?_) (fun h4 => ?_)
 refine sr ?_
 refine mvo rfl rfl ?_
 refine RunL.callX C81 rfl rfl rfl (acs81 bx t m c la _ lc pa _ pc rfl rfl ht ⟨hm1, hm2⟩ (by assumption)) tks fun x _ => ?_
 refine asg rfl rfl ?_
 refine kp [2] rfl ?_
 refine Run.ret ?_
 refine ret_out x (.tmp rfl .nil) trivial rfl ?_; simp only [List.append_nil]; exact Gives.refl _
 refine sr ?_
 refine sx 2 ?_
 refine kp [0, 24] rfl ?_
 first | refine Run.if rfl (fun h5 => ?_) (fun h5 => ?_) | refine Run.cond rfl (fun h5 => ?_) (fun h5 => ?_)
 refine sr ?_
 refine mvo rfl rfl ?_
 refine RunL.callX C82 rfl rfl rfl (acs82 bx t m c la _ lc pa _ pc rfl rfl ht ⟨hm1, hm2⟩ (by assumption)) tks fun x _ => ?_
 refine asg rfl rfl ?_
 refine kp [2] rfl ?_
 refine Run.ret ?_
 refine ret_out x (.tmp rfl .nil) trivial rfl ?_; simp only [List.append_nil]; exact Gives.refl _
 refine Run.skip ?_
 refine sr ?_
 refine mvo rfl rfl ?_
 refine RunL.callX C83 rfl rfl rfl (acs83 bx t m c la _ lc pa _ pc rfl rfl ht ⟨hm1, hm2⟩ (by refine ⟨?_, ?_, ?_, ?_, ?_⟩ <;> assumption)) tks fun x _ => ?_
 refine asg rfl rfl ?_
 refine kp [2] rfl ?_
 refine Run.ret ?_
 refine ret_out x (.tmp rfl .nil) trivial rfl ?_; simp only [List.append_nil]; exact Gives.refl _
end
end Go.Proofs.YtcpghpifbgpkjaaGreatDoor

namespace Go.Proofs.YtcpghpifbgpkjaaGreatDoor
open Go Go.SL Go.Proofs
section
attribute [local irreducible] OpJ RunL Run RunD DetJ pt own star Rd RdS
-- standard.Step
theorem ac22 (s : Sk) (m : Mv) (la : Option Addr) (lc : Nat) (pa : Option Addr) (pc : Nat) (RL RP : HP) (hs : s.ok 999999) (hm : m.ok) (hRL : RdS RL la (s.layers.flatMap Ly.c)) (hRP : RdS RP pa (s.past.flatMap Pa.c)) (R0 : HP) (hR0 : Rd R0 ⟨0, 0, none⟩ lensC) : AC Tryz.prog 74 ⟨[.agg ⟨s.c la lc pa pc⟩, .agg ⟨m.c⟩]⟩ (stars [RL, RP, R0]) (Outs (fun _ : Option Addr × Nat × Option Addr × Nat => True) (fun x => StV (sStep s m) x) (fun x => StB 96 98 (sStep s m) x ++ [RL, RP, R0])) := by
 have hn : s.layers.length ≤ 1000000 ∧ s.past.length ≤ 1000000 := ⟨Nat.le_trans hs.nl (by decide), Nat.le_trans hs.np (by decide)⟩
 have hnl := hn.1; have hnp := hn.2
 refine AC.go Tryz.func74 rfl (Nat.le_of_ble_eq_true rfl) fun β => ?_
 refine sr ?_
 refine RunL.op rfl rfl (OpJ.boxA rfl fun b2 => ?_)
 refine RunL.op rfl rfl (OpJ.boxA rfl fun b3 => ?_)
 refine RunL.op rfl rfl (OpJ.alloc Z28 fun b4 => ?_)
 refine RunL.op rfl rfl (OpJ.alloc Z43 fun b5 => ?_)
 refine asg rfl rfl ?_
 refine kp [2, 3, 4, 5] rfl ?_
 refine Run.seq ?_
 refine sr ?_
 refine sx 1 ?_
 refine RunL.call C30 rfl rfl rfl (ac30 _ _ hR0) tks ?_
 refine asg rfl rfl ?_
 refine kp [2, 3, 4, 5, 7] rfl ?_
 refine sr ?_
 refine sx 2 ?_
 refine kp [2, 3, 4, 5, 7, 15] rfl ?_
 first | refine Run.if rfl (fun h1 => ?_) (fun h1 => ?_) | refine Run.cond rfl (fun h1 => ?_) (fun h1 => ?_)
 refine Run.seq ?_
 refine regionD HM ?_
 first | refine RunD.takeW 0 rfl rfl kr T28 rfl pk (by rfl) ?_ | refine RunD.takeP 0 rfl rfl kr T28 rfl pk (by simp) ?_ | refine RunD.takeE 0 rfl rfl kr T28 rfl pk (by assumption) (by exact fun _ => rfl) rfl (by decide) ?_
 first | refine RunD.takeW 1 rfl rfl kr T43 rfl pk (by rfl) ?_ | refine RunD.takeP 1 rfl rfl kr T43 rfl pk (by simp) ?_ | refine RunD.takeE 1 rfl rfl kr T43 rfl pk (by assumption) (by exact fun _ => rfl) rfl (by decide) ?_
 refine tk 2 rfl rfl rfl (DetJ.move rfl) ?_
 refine RunD.op 3 [true, true, false] rfl rfl rfl kr kr (OpJ.storeW T28 rfl rfl rfl rfl (by simp [Value.oneCell', Pa.c, Ly.c, Mv.c, Co.c]) up ⟨po, ?_⟩)
 refine RunD.op 4 [true, false] rfl rfl rfl kr kr (OpJ.storeW T43 rfl rfl rfl rfl (by simp [Value.oneCell', Pa.c, Ly.c, Mv.c, Co.c]) up ⟨po, ?_⟩)
 refine tk 5 rfl rfl rfl (DetJ.assign rfl) ?_
 refine kd [4, 5, 6] rfl ?_
 refine Run.ret ?_
 have hres2 : sStep s m = .error m.one := (by unfold sStep; rw [if_pos h1]); refine ret_out (none, 0, none, 0) (.cellA T28 rfl pk (by rfl) (.cellA T43 rfl pk (by rfl) (.tmp rfl .nil))) trivial (by rw [hres2]; rfl) ?_; rw [hres2]; exact gv
 refine Run.skip ?_
 refine Run.seq ?_
 refine sr ?_
 refine RunL.cutG (t := 34) (v := Bo (decide (0 ≤ idxOf (findI (isPast 1 m.seq) s.past)) || decide (0 ≤ idxOf (findI (isPast 2 m.seq) s.past)))) (kt (ks := [2, 3, 4, 5]) rfl) ?_ ?_
 refine sx 5 ?_
 refine RunL.call C44 rfl rfl rfl (ac44k _ _ _ s.past _ m.seq hRP (by omega) (by decide)) tks ?_
 refine sx 2 ?_
 first | refine RunL.splitP (t := 26) rfl (fun g2 => ?_) (fun g2 => ?_) | refine RunL.split (t := 26) rfl (fun g2 => ?_) (fun g2 => ?_)
 refine sx 8 ?_
 exact RunL.nil ⟨.cons (by first | rfl | (show some (Value.bool _) = some (Value.bool _); simp [*]; done) | (show some (Value.bool _) = some (Value.bool _); simp_all)) (kt (ks := [2, 3, 4, 5]) rfl), gv⟩
 refine sx 5 ?_
 refine RunL.callG C44 rfl rfl rfl rfl rfl (ac44k _ _ _ s.past _ m.seq hRP (by omega) (by decide)) tks ?_
 refine sx 2 ?_
 exact RunL.nil ⟨.cons (by first | rfl | (show some (Value.bool _) = some (Value.bool _); simp [*]; done) | (show some (Value.bool _) = some (Value.bool _); simp_all)) (kt (ks := [2, 3, 4, 5]) rfl), gv⟩
 first | refine Run.if rfl (fun h3 => ?_) (fun h3 => ?_) | refine Run.cond rfl (fun h3 => ?_) (fun h3 => ?_)
 refine Run.seq ?_
 refine regionD HM ?_
 first | refine RunD.takeW 0 rfl rfl kr T28 rfl pk (by rfl) ?_ | refine RunD.takeP 0 rfl rfl kr T28 rfl pk (by simp) ?_ | refine RunD.takeE 0 rfl rfl kr T28 rfl pk (by assumption) (by exact fun _ => rfl) rfl (by decide) ?_
 first | refine RunD.takeW 1 rfl rfl kr T43 rfl pk (by rfl) ?_ | refine RunD.takeP 1 rfl rfl kr T43 rfl pk (by simp) ?_ | refine RunD.takeE 1 rfl rfl kr T43 rfl pk (by assumption) (by exact fun _ => rfl) rfl (by decide) ?_
 refine RunD.op 2 [true, false] rfl rfl rfl kr kr (OpJ.storeW T28 rfl rfl rfl rfl (by simp [Value.oneCell', Pa.c, Ly.c, Mv.c, Co.c]) up ⟨po, ?_⟩)
 refine RunD.op 3 [false] rfl rfl rfl kr kr (OpJ.storeW T43 rfl rfl rfl rfl (by simp [Value.oneCell', Pa.c, Ly.c, Mv.c, Co.c]) up ⟨po, ?_⟩)
 refine tk 4 rfl rfl rfl (DetJ.assign rfl) ?_
 refine kd [4, 5, 6] rfl ?_
 refine Run.ret ?_
 have hres2 : sStep s m = .error 8 := (by unfold sStep; rw [if_neg h1, if_pos (by rw [← idx_some, ← idx_some]; assumption)]); refine ret_out (none, 0, none, 0) (.cellA T28 rfl pk (by rfl) (.cellA T43 rfl pk (by rfl) (.tmp rfl .nil))) trivial (by rw [hres2]; rfl) ?_; rw [hres2]; exact gv
 refine Run.skip ?_
 refine Run.seq ?_
 refine regionD HM ?_
 first | refine RunD.takeW 0 rfl rfl kr T28 rfl pk (by rfl) ?_ | refine RunD.takeP 0 rfl rfl kr T28 rfl pk (by simp) ?_ | refine RunD.takeE 0 rfl rfl kr T28 rfl pk (by assumption) (by exact fun _ => rfl) rfl (by decide) ?_
 first | refine RunD.takeW 2 rfl rfl kr T47 rfl pk (by rfl) ?_ | refine RunD.takeP 2 rfl rfl kr T47 rfl pk (by simp) ?_ | refine RunD.takeE 2 rfl rfl kr T47 rfl pk (by assumption) (by exact fun _ => rfl) rfl (by decide) ?_
 refine RunD.op 1 [true, false] rfl rfl rfl kr kr (OpJ.callOuts C45 rfl rfl (ac45 s la lc pa pc RL RP hn hRL hRP) tks fun ⟨bl, bp⟩ _ => ⟨po, ?_⟩)
 refine RunD.takeB 3 rfl rfl kr B85 rfl rfl fun cs hcs => ?_
 simp only [Sk.c, Mv.c, Co.c, bldL, bldA, Value.cells, bs, Nat.reduceAdd, Nat.reduceLeDiff, Nat.reduceLT] at hcs; subst hcs
 refine RunD.op 4 [false, false] rfl rfl rfl kr kr (OpJ.boxA rfl fun b41 => ⟨po, ?_⟩)
 refine tk 5 rfl rfl rfl (DetJ.assign rfl) ?_
 refine kd [2, 3, 4, 5, 8] rfl ?_
 refine Run.seq ?_
 refine sr ?_
 refine mvo rfl rfl ?_
 refine RunL.callX C46 rfl rfl rfl (ac46 b41 s m ⟨0, 0, 0, 0⟩ _ _ _ _ _ _ rfl rfl hs hm) tks fun ⟨la2, lc2, pa2, pc2⟩ _ => ?_
 rcases hres : sDo s m ⟨0, 0, 0, 0⟩ with e | ⟨t, c⟩
 refine asg rfl rfl ?_
 refine kp [2, 3, 4, 5, 8, 9] rfl ?_
 refine sr ?_
 refine sx 2 ?_
 first | refine RunL.set (congrArg Value.bool (decide_eq_true (show errOf (Except.error _) ≠ 0 from sDo_err hres))) ?_ | skip
 refine kp [2, 3, 4, 5, 8, 9, 45] rfl ?_
 refine Run.true rfl ?_
 refine Run.seq ?_
 refine regionD HM ?_
 first | refine RunD.takeW 0 rfl rfl kr T28 rfl pk (by rfl) ?_ | refine RunD.takeP 0 rfl rfl kr T28 rfl pk (by simp) ?_ | refine RunD.takeE 0 rfl rfl kr T28 rfl pk (by assumption) (by exact fun _ => rfl) rfl (by decide) ?_
 first | refine RunD.takeW 1 rfl rfl kr T43 rfl pk (by rfl) ?_ | refine RunD.takeP 1 rfl rfl kr T43 rfl pk (by simp) ?_ | refine RunD.takeE 1 rfl rfl kr T43 rfl pk (by assumption) (by exact fun _ => rfl) rfl (by decide) ?_
 refine tk 2 rfl rfl rfl (DetJ.move rfl) ?_
 refine RunD.op 3 [true, true, false] rfl rfl rfl kr kr (OpJ.storeW T28 rfl rfl rfl rfl (by simp [Value.oneCell', Pa.c, Ly.c, Mv.c, Co.c]) up ⟨po, ?_⟩)
 refine RunD.op 4 [true, false] rfl rfl rfl kr kr (OpJ.storeW T43 rfl rfl rfl rfl (by simp [Value.oneCell', Pa.c, Ly.c, Mv.c, Co.c]) up ⟨po, ?_⟩)
 refine tk 5 rfl rfl rfl (DetJ.assign rfl) ?_
 refine kd [4, 5, 6] rfl ?_
 refine Run.ret ?_
 have hres2 : sStep s m = .error e := (by unfold sStep; rw [if_neg h1, if_neg (by rw [← idx_some, ← idx_some]; simp only [*]; decide), hres]); refine ret_out (none, 0, none, 0) (.cellA T28 rfl pk (by rfl) (.cellA T43 rfl pk (by rfl) (.tmp rfl .nil))) trivial (by rw [hres2]; rfl) ?_; rw [hres2]; exact gv
 have hto := sDo_ok hs hm hres
 refine asg rfl rfl ?_
 refine kp [2, 3, 4, 5, 8, 9] rfl ?_
 refine sr ?_
 refine sx 2 ?_
 first | refine RunL.set (congrArg Value.bool (decide_eq_true (show errOf (Except.error _) ≠ 0 from sDo_err hres))) ?_ | skip
 refine kp [2, 3, 4, 5, 8, 9, 45] rfl ?_
 refine Run.false rfl ?_
 refine Run.skip ?_
 refine sr ?_
 refine sx 7 ?_
 refine kp [2, 4, 5, 8] rfl ?_
 refine Run.seq ?_
 refine regionD HM ?_
 refine tk 0 rfl rfl rfl (DetJ.fieldAddr F28_1 rfl) ?_
 first | refine RunD.takeF 1 rfl rfl kr T3 rfl pk (by rfl) ?_ | refine RunD.takeO 1 rfl rfl kr T3 rfl pk (by assumption) (by rfl) (by exact fun _ => rfl) ?_
 refine tk 2 rfl rfl rfl (DetJ.move rfl) ?_
 refine tk 3 rfl rfl rfl (DetJ.nilCheck rfl) ?_
 refine tk 4 rfl rfl rfl (DetJ.fieldAddr F85_2 rfl) ?_
 refine tk 5 rfl rfl rfl (DetJ.fieldAddr F43_2 rfl) ?_
 first | refine RunD.takeF 6 rfl rfl kr T3 rfl pk (by rfl) ?_ | refine RunD.takeO 6 rfl rfl kr T3 rfl pk (by assumption) (by rfl) (by exact fun _ => rfl) ?_
 refine RunD.op 7 [false, false, false, true, true, false, false] rfl rfl rfl kr kr (OpJ.callRet C47 rfl rfl (ac47 _ _ hs.v hto.2) .nil ⟨po, ?_⟩)
 refine tk 8 rfl rfl rfl (DetJ.move rfl) ?_
 refine tk 9 rfl rfl rfl (DetJ.extract rfl rfl) ?_
 refine tk 10 rfl rfl rfl (DetJ.extract rfl rfl) ?_
 refine tk 11 rfl rfl rfl (DetJ.assign rfl) ?_
 refine tk 12 rfl rfl rfl (DetJ.assign rfl) ?_
 refine kd [2, 4, 5, 8, 10, 11] rfl ?_
 refine Run.seq ?_
 refine regionD HM ?_
 refine tk 0 rfl rfl rfl (DetJ.move rfl) ?_
 refine tk 1 rfl rfl rfl (DetJ.move rfl) ?_
 refine tk 2 rfl rfl rfl (DetJ.fieldAddr F28_0 rfl) ?_
 first | refine RunD.takeF 3 rfl rfl kr T3 rfl pk (by rfl) ?_ | refine RunD.takeO 3 rfl rfl kr T3 rfl pk (by assumption) (by rfl) (by exact fun _ => rfl) ?_
 refine tk 4 rfl rfl rfl (DetJ.move rfl) ?_
 refine tk 5 rfl rfl rfl (DetJ.nilCheck rfl) ?_
 refine tk 6 rfl rfl rfl (DetJ.fieldAddr F85_2 rfl) ?_
 refine tk 7 rfl rfl rfl (DetJ.fieldAddr F43_1 rfl) ?_
 first | refine RunD.takeF 8 rfl rfl kr T3 rfl pk (by rfl) ?_ | refine RunD.takeO 8 rfl rfl kr T3 rfl pk (by assumption) (by rfl) (by exact fun _ => rfl) ?_
 refine tk 9 rfl rfl rfl (DetJ.add rfl rfl) ?_
 refine tk 10 rfl rfl rfl (DetJ.move rfl) ?_
 refine tk 11 rfl rfl rfl (DetJ.nilCheck rfl) ?_
 refine tk 12 rfl rfl rfl (DetJ.fieldAddr F85_0 rfl) ?_
 refine tk 13 rfl rfl rfl (DetJ.fieldAddr F28_0 rfl) ?_
 refine RunD.op 14 [false, false, false, true, false, false, false, false, false, false, false, false, true, false] rfl rfl rfl kr kr (OpJ.store1 T3 rfl rfl rfl up (by simp) ⟨po, ?_⟩)
 refine tk 15 rfl rfl rfl (DetJ.nilCheck rfl) ?_
 refine tk 16 rfl rfl rfl (DetJ.fieldAddr F85_0 rfl) ?_
 refine tk 17 rfl rfl rfl (DetJ.fieldAddr F28_1 rfl) ?_
 refine RunD.op 18 [false, false, false, false, false] rfl rfl rfl kr kr (OpJ.store1 T3 rfl rfl rfl up (by simp) ⟨po, ?_⟩)
 refine kd [4, 5, 8, 10, 11] rfl ?_
 refine Run.seq ?_
 refine sr ?_
 refine sx 3 ?_
 first | refine RunL.splitP (t := 85) rfl (fun g4 => ?_) (fun g4 => ?_) | refine RunL.split (t := 85) rfl (fun g4 => ?_) (fun g4 => ?_)
 refine sx 21 ?_
 refine kp [4, 5, 8, 106] rfl ?_
 refine Run.true rfl ?_
 refine Run.seq ?_
 refine regionD HM ?_
 first | refine RunD.takeW 0 rfl rfl kr T28 rfl pk (by rfl) ?_ | refine RunD.takeP 0 rfl rfl kr T28 rfl pk (by simp) ?_ | refine RunD.takeE 0 rfl rfl kr T28 rfl pk (by assumption) (by exact fun _ => rfl) rfl (by decide) ?_
 first | refine RunD.takeW 1 rfl rfl kr T43 rfl pk (by rfl) ?_ | refine RunD.takeP 1 rfl rfl kr T43 rfl pk (by simp) ?_ | refine RunD.takeE 1 rfl rfl kr T43 rfl pk (by assumption) (by exact fun _ => rfl) rfl (by decide) ?_
 refine RunD.op 2 [true, false] rfl rfl rfl kr kr (OpJ.storeW T28 rfl rfl rfl rfl (by simp [Value.oneCell', Pa.c, Ly.c, Mv.c, Co.c]) up ⟨po, ?_⟩)
 refine RunD.op 3 [false] rfl rfl rfl kr kr (OpJ.storeW T43 rfl rfl rfl rfl (by simp [Value.oneCell', Pa.c, Ly.c, Mv.c, Co.c]) up ⟨po, ?_⟩)
 refine tk 4 rfl rfl rfl (DetJ.assign rfl) ?_
 refine kd [4, 5, 6] rfl ?_
 refine Run.ret ?_
 first | (have hres2 : sStep s m = .error 4 := (by unfold sStep; rw [if_neg h1, if_neg (by rw [← idx_some, ← idx_some]; simp only [*]; decide), hres]; exact if_pos (by simp [sOver, *])); refine ret_out (none, 0, none, 0) (.cellA T28 rfl pk (by rfl) (.cellA T43 rfl pk (by rfl) (.tmp rfl .nil))) trivial (by rw [hres2]; rfl) ?_; rw [hres2]; exact gv) | (have hres2 : sStep s m = .ok (sSum s t c, { c with seq := m.seq }) := (by unfold sStep; rw [if_neg h1, if_neg (by rw [← idx_some, ← idx_some]; simp only [*]; decide), hres]; exact if_neg (by simp [sOver, *])); refine ret_out (la2, lc2, pa2, pc2) (.cellA T28 rfl pk (by rfl) (.cellA T43 rfl pk (by rfl) (.tmp rfl .nil))) trivial (by rw [hres2]; rfl) ?_; rw [hres2]; exact gv)
 refine sx 8 ?_
 first | refine RunL.splitP (t := 93) rfl (fun g5 => ?_) (fun g5 => ?_) | refine RunL.split (t := 93) rfl (fun g5 => ?_) (fun g5 => ?_)
 refine sx 13 ?_
 refine kp [4, 5, 8, 106] rfl ?_
 refine Run.true rfl ?_
 refine Run.seq ?_
 refine regionD HM ?_
 first | refine RunD.takeW 0 rfl rfl kr T28 rfl pk (by rfl) ?_ | refine RunD.takeP 0 rfl rfl kr T28 rfl pk (by simp) ?_ | refine RunD.takeE 0 rfl rfl kr T28 rfl pk (by assumption) (by exact fun _ => rfl) rfl (by decide) ?_
 first | refine RunD.takeW 1 rfl rfl kr T43 rfl pk (by rfl) ?_ | refine RunD.takeP 1 rfl rfl kr T43 rfl pk (by simp) ?_ | refine RunD.takeE 1 rfl rfl kr T43 rfl pk (by assumption) (by exact fun _ => rfl) rfl (by decide) ?_
 refine RunD.op 2 [true, false] rfl rfl rfl kr kr (OpJ.storeW T28 rfl rfl rfl rfl (by simp [Value.oneCell', Pa.c, Ly.c, Mv.c, Co.c]) up ⟨po, ?_⟩)
 refine RunD.op 3 [false] rfl rfl rfl kr kr (OpJ.storeW T43 rfl rfl rfl rfl (by simp [Value.oneCell', Pa.c, Ly.c, Mv.c, Co.c]) up ⟨po, ?_⟩)
 refine tk 4 rfl rfl rfl (DetJ.assign rfl) ?_
 refine kd [4, 5, 6] rfl ?_
 refine Run.ret ?_
 first | (have hres2 : sStep s m = .error 4 := (by unfold sStep; rw [if_neg h1, if_neg (by rw [← idx_some, ← idx_some]; simp only [*]; decide), hres]; exact if_pos (by simp [sOver, *])); refine ret_out (none, 0, none, 0) (.cellA T28 rfl pk (by rfl) (.cellA T43 rfl pk (by rfl) (.tmp rfl .nil))) trivial (by rw [hres2]; rfl) ?_; rw [hres2]; exact gv) | (have hres2 : sStep s m = .ok (sSum s t c, { c with seq := m.seq }) := (by unfold sStep; rw [if_neg h1, if_neg (by rw [← idx_some, ← idx_some]; simp only [*]; decide), hres]; exact if_neg (by simp [sOver, *])); refine ret_out (la2, lc2, pa2, pc2) (.cellA T28 rfl pk (by rfl) (.cellA T43 rfl pk (by rfl) (.tmp rfl .nil))) trivial (by rw [hres2]; rfl) ?_; rw [hres2]; exact gv)
 refine sx 1 ?_
 refine RunL.callG C48 rfl rfl rfl rfl rfl (ac48 _) .nil ?_
 refine sx 3 ?_
 first | refine RunL.splitP (t := 98) rfl (fun g6 => ?_) (fun g6 => ?_) | refine RunL.split (t := 98) rfl (fun g6 => ?_) (fun g6 => ?_)
 refine sx 8 ?_
 refine kp [4, 5, 8, 106] rfl ?_
 refine Run.true rfl ?_
 refine Run.seq ?_
 refine regionD HM ?_
 first | refine RunD.takeW 0 rfl rfl kr T28 rfl pk (by rfl) ?_ | refine RunD.takeP 0 rfl rfl kr T28 rfl pk (by simp) ?_ | refine RunD.takeE 0 rfl rfl kr T28 rfl pk (by assumption) (by exact fun _ => rfl) rfl (by decide) ?_
 first | refine RunD.takeW 1 rfl rfl kr T43 rfl pk (by rfl) ?_ | refine RunD.takeP 1 rfl rfl kr T43 rfl pk (by simp) ?_ | refine RunD.takeE 1 rfl rfl kr T43 rfl pk (by assumption) (by exact fun _ => rfl) rfl (by decide) ?_
 refine RunD.op 2 [true, false] rfl rfl rfl kr kr (OpJ.storeW T28 rfl rfl rfl rfl (by simp [Value.oneCell', Pa.c, Ly.c, Mv.c, Co.c]) up ⟨po, ?_⟩)
 refine RunD.op 3 [false] rfl rfl rfl kr kr (OpJ.storeW T43 rfl rfl rfl rfl (by simp [Value.oneCell', Pa.c, Ly.c, Mv.c, Co.c]) up ⟨po, ?_⟩)
 refine tk 4 rfl rfl rfl (DetJ.assign rfl) ?_
 refine kd [4, 5, 6] rfl ?_
 refine Run.ret ?_
 first | (have hres2 : sStep s m = .error 4 := (by unfold sStep; rw [if_neg h1, if_neg (by rw [← idx_some, ← idx_some]; simp only [*]; decide), hres]; exact if_pos (by simp [sOver, *])); refine ret_out (none, 0, none, 0) (.cellA T28 rfl pk (by rfl) (.cellA T43 rfl pk (by rfl) (.tmp rfl .nil))) trivial (by rw [hres2]; rfl) ?_; rw [hres2]; exact gv) | (have hres2 : sStep s m = .ok (sSum s t c, { c with seq := m.seq }) := (by unfold sStep; rw [if_neg h1, if_neg (by rw [← idx_some, ← idx_some]; simp only [*]; decide), hres]; exact if_neg (by simp [sOver, *])); refine ret_out (la2, lc2, pa2, pc2) (.cellA T28 rfl pk (by rfl) (.cellA T43 rfl pk (by rfl) (.tmp rfl .nil))) trivial (by rw [hres2]; rfl) ?_; rw [hres2]; exact gv)
 refine sx 5 ?_
 refine RunL.callG C48 rfl rfl rfl rfl rfl (ac48 _) .nil ?_
 refine sx 2 ?_
 refine kp [4, 5, 8, 106] rfl ?_
 first | refine Run.if rfl (fun h7 => ?_) (fun h7 => ?_) | refine Run.cond rfl (fun h7 => ?_) (fun h7 => ?_)
 refine Run.seq ?_
 refine regionD HM ?_
 first | refine RunD.takeW 0 rfl rfl kr T28 rfl pk (by rfl) ?_ | refine RunD.takeP 0 rfl rfl kr T28 rfl pk (by simp) ?_ | refine RunD.takeE 0 rfl rfl kr T28 rfl pk (by assumption) (by exact fun _ => rfl) rfl (by decide) ?_
 first | refine RunD.takeW 1 rfl rfl kr T43 rfl pk (by rfl) ?_ | refine RunD.takeP 1 rfl rfl kr T43 rfl pk (by simp) ?_ | refine RunD.takeE 1 rfl rfl kr T43 rfl pk (by assumption) (by exact fun _ => rfl) rfl (by decide) ?_
 refine RunD.op 2 [true, false] rfl rfl rfl kr kr (OpJ.storeW T28 rfl rfl rfl rfl (by simp [Value.oneCell', Pa.c, Ly.c, Mv.c, Co.c]) up ⟨po, ?_⟩)
 refine RunD.op 3 [false] rfl rfl rfl kr kr (OpJ.storeW T43 rfl rfl rfl rfl (by simp [Value.oneCell', Pa.c, Ly.c, Mv.c, Co.c]) up ⟨po, ?_⟩)
 refine tk 4 rfl rfl rfl (DetJ.assign rfl) ?_
 refine kd [4, 5, 6] rfl ?_
 refine Run.ret ?_
 first | (have hres2 : sStep s m = .error 4 := (by unfold sStep; rw [if_neg h1, if_neg (by rw [← idx_some, ← idx_some]; simp only [*]; decide), hres]; exact if_pos (by simp [sOver, *])); refine ret_out (none, 0, none, 0) (.cellA T28 rfl pk (by rfl) (.cellA T43 rfl pk (by rfl) (.tmp rfl .nil))) trivial (by rw [hres2]; rfl) ?_; rw [hres2]; exact gv) | (have hres2 : sStep s m = .ok (sSum s t c, { c with seq := m.seq }) := (by unfold sStep; rw [if_neg h1, if_neg (by rw [← idx_some, ← idx_some]; simp only [*]; decide), hres]; exact if_neg (by simp [sOver, *])); refine ret_out (la2, lc2, pa2, pc2) (.cellA T28 rfl pk (by rfl) (.cellA T43 rfl pk (by rfl) (.tmp rfl .nil))) trivial (by rw [hres2]; rfl) ?_; rw [hres2]; exact gv)
 refine Run.skip ?_
 refine Run.seq ?_
 refine regionD HM ?_
 refine tk 0 rfl rfl rfl (DetJ.move rfl) ?_
 refine tk 1 rfl rfl rfl (DetJ.nilCheck rfl) ?_
 refine tk 2 rfl rfl rfl (DetJ.fieldAddr F85_0 rfl) ?_
 first | refine RunD.takeW 3 rfl rfl kr T28 rfl pk (by rfl) ?_ | refine RunD.takeP 3 rfl rfl kr T28 rfl pk (by simp) ?_ | refine RunD.takeE 3 rfl rfl kr T28 rfl pk (by assumption) (by exact fun _ => rfl) rfl (by decide) ?_
 refine tk 4 rfl rfl rfl (DetJ.move rfl) ?_
 refine tk 5 rfl rfl rfl (DetJ.nilCheck rfl) ?_
 refine tk 6 rfl rfl rfl (DetJ.fieldAddr F85_2 rfl) ?_
 first | refine RunD.takeW 7 rfl rfl kr T43 rfl pk (by rfl) ?_ | refine RunD.takeP 7 rfl rfl kr T43 rfl pk (by simp) ?_ | refine RunD.takeE 7 rfl rfl kr T43 rfl pk (by assumption) (by exact fun _ => rfl) rfl (by decide) ?_
 refine RunD.op 8 [true, true, true, true, false, false, false, false] rfl rfl rfl kr kr (OpJ.storeW T28 rfl rfl rfl rfl (by simp [Value.oneCell', Pa.c, Ly.c, Mv.c, Co.c]) up ⟨po, ?_⟩)
 refine RunD.op 9 [false, false, false, false] rfl rfl rfl kr kr (OpJ.storeW T43 rfl rfl rfl rfl (by simp [Value.oneCell', Pa.c, Ly.c, Mv.c, Co.c]) up ⟨po, ?_⟩)
 refine tk 10 rfl rfl rfl (DetJ.assign rfl) ?_
 refine kd [4, 5, 6] rfl ?_
 refine Run.ret ?_
 first | (have hres2 : sStep s m = .error 4 := (by unfold sStep; rw [if_neg h1, if_neg (by rw [← idx_some, ← idx_some]; simp only [*]; decide), hres]; exact if_pos (by simp [sOver, *])); refine ret_out (none, 0, none, 0) (.cellA T28 rfl pk (by rfl) (.cellA T43 rfl pk (by rfl) (.tmp rfl .nil))) trivial (by rw [hres2]; rfl) ?_; rw [hres2]; exact gv) | (have hres2 : sStep s m = .ok (sSum s t c, { c with seq := m.seq }) := (by unfold sStep; rw [if_neg h1, if_neg (by rw [← idx_some, ← idx_some]; simp only [*]; decide), hres]; exact if_neg (by simp [sOver, *])); refine ret_out (la2, lc2, pa2, pc2) (.cellA T28 rfl pk (by rfl) (.cellA T43 rfl pk (by rfl) (.tmp rfl .nil))) trivial (by rw [hres2]; rfl) ?_; rw [hres2]; exact gv)
end
end Go.Proofs.YtcpghpifbgpkjaaGreatDoor

namespace Go.Proofs.YtcpghpifbgpkjaaGreatDoor
open Go Go.SL Go.Proofs
section
attribute [local irreducible] OpJ RunL Run RunD DetJ pt own star Rd RdS
-- average.part
theorem ac113 (v q n : Int) (hv : i64 v) (hq : i64 q) (hn : i64 n) : AC Tryz.prog 162 ⟨[I v, I q, I n]⟩ (stars []) (Ret (I (partN v q n)) []) := by
 refine AC.go Tryz.func162 rfl (Nat.le_of_ble_eq_true rfl) fun β => ?_
 refine sr ?_
 refine asg rfl rfl ?_
 refine kp [0, 1, 2] rfl ?_
 refine Run.seq ?_
 refine sr ?_
 refine sx 3 ?_
 refine kp [0, 1, 2, 11] rfl ?_
 first | refine Run.if rfl (fun h1 => ?_) (fun h1 => ?_) | refine Run.cond rfl (fun h1 => ?_) (fun h1 => ?_)
 refine sr ?_
 refine sx 2 ?_
 refine kp [6] rfl ?_
 refine Run.ret ?_
 exact ret_one (.tmp rfl .nil) (by first | (simp [tup, partN, *]; done) | (exfalso; omega)) .nil
 refine Run.skip ?_
 refine sr ?_
 refine sx 3 ?_
 refine RunL.call C111 rfl rfl rfl (ac111 _ _ _ _ (by omega) (by omega) (by omega)) .nil ?_
 refine sx 5 ?_
 refine kp [7] rfl ?_
 refine sr ?_
 refine sx 2 ?_
 refine kp [6] rfl ?_
 refine Run.ret ?_
 exact ret_one (.tmp rfl .nil) (by first | (simp [tup, partN, *]; done) | (exfalso; omega)) .nil
-- average.Step$1
theorem ac40 (bm : Nat) (m : Mv) (p : Pa) : AC Tryz.prog 97 ⟨[.agg ⟨p.c⟩, .pointer (some ⟨bm, 0, none⟩)]⟩ (stars [pt bm (blk m.c 35)]) (Ret (Bo (isPast 0 m.seq p)) [pt bm (blk m.c 35)]) := by
 refine AC.go Tryz.func97 rfl (Nat.le_of_ble_eq_true rfl) fun β => ?_
 refine sr ?_
 refine RunL.op rfl rfl (OpJ.boxA rfl fun b2 => ?_)
 refine asg rfl rfl ?_
 refine kp [1, 2] rfl ?_
 refine sr ?_
 refine sx 6 ?_
 refine kp [3] rfl ?_
 refine Run.ret ?_
 exact ret_one (.tmp rfl .nil) (by simp [tup, isPast]) gv
-- average.referred$1
theorem ac155 (bm bk : Nat) (m : Mv) (kind : Int) (p : Pa) (hk : kind ≠ 0) : AC Tryz.prog 196 ⟨[.agg ⟨p.c⟩, .pointer (some ⟨bm, 0, none⟩), .pointer (some ⟨bk, 0, none⟩)]⟩ (stars [star (pt bm (blk m.c 35)) (pt bk (blk [I kind] 3))]) (Ret (Bo (isPast kind m.ref p)) [star (pt bm (blk m.c 35)) (pt bk (blk [I kind] 3))]) := by
 refine AC.go Tryz.func196 rfl (Nat.le_of_ble_eq_true rfl) fun β => ?_
 refine sr ?_
 refine RunL.unpack Pick.here ?_
 refine RunL.op rfl rfl (OpJ.boxA rfl fun b3 => ?_)
 refine asg rfl rfl ?_
 refine kp [1, 2, 3] rfl ?_
 refine sr ?_
 refine sx 6 ?_
 first | refine RunL.splitP (t := 10) rfl (fun g1 => ?_) (fun g1 => ?_) | refine RunL.split (t := 10) rfl (fun g1 => ?_) (fun g1 => ?_)
 refine sx 6 ?_
 refine RunL.pack (A := pt bm (blk m.c 35)) (B := pt bk (blk [I kind] 3)) pk pk ?_
 refine kp [4] rfl ?_
 refine Run.ret ?_
 exact ret_one (.tmp rfl .nil) (by rw [isPast_eq hk]; simp [tup, *]) gv
 refine sx 6 ?_
 refine RunL.pack (A := pt bm (blk m.c 35)) (B := pt bk (blk [I kind] 3)) pk pk ?_
 refine kp [4] rfl ?_
 refine Run.ret ?_
 exact ret_one (.tmp rfl .nil) (by rw [isPast_eq hk]; simp [tup, *]) gv
end
end Go.Proofs.YtcpghpifbgpkjaaGreatDoor

namespace Go.Proofs.YtcpghpifbgpkjaaGreatDoor
open Go Go.SL Go.Proofs
section
attribute [local irreducible] OpJ RunL Run RunD DetJ pt own star Rd RdS
-- slices.IndexFunc[[]api.Past,api.Past]
theorem ac71 (RP RA : HP) (g : FuncId) (capv : List Value) (f : Pa → Bool) (oa : Option Addr) (cap : Nat) (ps : List Pa) (hR : RdS RP oa (ps.flatMap Pa.c)) (hlen : ps.length ≤ 1000000) (Cg : CI Tryz.prog g) (hg : ∀ p : Pa, AC Tryz.prog g ⟨[.agg ⟨p.c⟩] ++ capv⟩ (stars [RA]) (Ret (Bo (f p)) [RA])) : AC Tryz.prog 126 ⟨[.slice oa ps.length cap, .func (.func g) ⟨[]⟩ ⟨capv⟩]⟩ (stars [RP, RA]) (Ret (I (idxOf (findI f ps))) [RP, RA]) := by
 refine AC.go Tryz.func126 rfl (Nat.le_of_ble_eq_true rfl) fun β => ?_
 refine sr ?_
 refine asg rfl rfl ?_
 refine kp [0, 1] rfl ?_
 refine Run.seq ?_
 refine sr ?_
 refine sx 3 ?_
 refine kp [0, 1, 7, 8] rfl ?_
 refine Run.block ?_
 refine Run.loop (fun mm E L => ∃ i : Nat, mm = ps.length - i ∧ i ≤ ps.length ∧ (∀ j y, j < i → ps[j]? = some y → f y = false) ∧ E = [(0, .slice oa ps.length cap), (1, .func (.func g) ⟨[]⟩ ⟨capv⟩), (7, I ps.length), (8, I i)] ∧ L = [RP, RA]) ⟨_, 0, rfl, Nat.zero_le _, fun _ _ h => by omega, rfl, rfl⟩ ?_
 rintro _ _ _ ⟨i, rfl, hi, hI0, rfl, rfl⟩
 refine sr ?_
 refine sx 1 ?_
 refine kp [0, 1, 7, 8, 9] rfl ?_
 refine Run.seq ?_
 first | refine Run.if rfl (fun h1 => ?_) (fun h1 => ?_) | refine Run.cond rfl (fun h1 => ?_) (fun h1 => ?_)
 refine Run.skip ?_
 refine Run.seq ?_
 refine Run.block ?_
 refine sr ?_
 refine sx 2 ?_
 refine kp [0, 1, 5, 7, 8] rfl ?_
 refine sr ?_
 obtain ⟨x, hx⟩ := get_ex (xs := ps) (by omega)
 refine RunL.rdOpen pk hR (flat_ne (k := 7) (fun _ => rfl) (by decide) hx) fun b o e hrd => ?_
 subst e
 refine sx 4 ?_
 refine RunL.op rfl rfl (OpJ.loadA T66 rfl pk (hrd.elem (fun _ => rfl) hx) rfl ?_)
 refine RunL.call Cg rfl rfl rfl (hg x) tks ?_
 refine kp [0, 1, 5, 7, 8, 16] rfl ?_
 first | refine Run.if rfl (fun h2 => ?_) (fun h2 => ?_) | refine Run.cond rfl (fun h2 => ?_) (fun h2 => ?_)
 refine sr ?_
 refine sx 2 ?_
 refine kp [4] rfl ?_
 refine Run.ret ?_
 exact ret_one (.tmp rfl .nil) (congrArg I (by rw [findI_at hx (by assumption) hI0]; rfl)) gv
 refine Run.skip ?_
 refine Run.region ?_
 refine sx 2 ?_
 exact RunL.next (Keep.sub (kt (ks := [0, 1, 7, 8]) rfl)) _ ⟨_, by omega, i + 1, rfl, by omega, notYet hx (by assumption) hI0, rfl, rfl⟩ gv
 refine Run.exit ?_
 refine sr ?_
 refine asg rfl rfl ?_
 refine kp [4] rfl ?_
 refine Run.ret ?_
 exact ret_one (.tmp rfl .nil) (congrArg I (by rw [findI_none (fun j y hj => hI0 j y (by omega))]; rfl)) gv
-- average.find
theorem ac39 (RP RA : HP) (g : FuncId) (capv : List Value) (f : Pa → Bool) (oa : Option Addr) (cap : Nat) (ps : List Pa) (hR : RdS RP oa (ps.flatMap Pa.c)) (hlen : ps.length ≤ 1000000) (Cg : CI Tryz.prog g) (hg : ∀ p : Pa, AC Tryz.prog g ⟨[.agg ⟨p.c⟩] ++ capv⟩ (stars [RA]) (Ret (Bo (f p)) [RA])) : AC Tryz.prog 96 ⟨[.slice oa ps.length cap, .func (.func g) ⟨[]⟩ ⟨capv⟩]⟩ (stars [RP, RA]) (Ret (I (idxOf (findI f ps))) [RP, RA]) := by
 refine AC.go Tryz.func96 rfl (Nat.le_of_ble_eq_true rfl) fun β => ?_
 refine sr ?_
 refine asg rfl rfl ?_
 refine kp [0, 1] rfl ?_
 refine sr ?_
 refine sx 2 ?_
 refine RunL.call C71 rfl rfl rfl (ac71 RP RA g capv f oa cap ps hR hlen Cg hg) tks ?_
 refine asg rfl rfl ?_
 refine kp [4] rfl ?_
 refine Run.ret ?_
 exact ret_one (.tmp rfl .nil) (by simp [tup, *]) gv
end
end Go.Proofs.YtcpghpifbgpkjaaGreatDoor

namespace Go.Proofs.YtcpghpifbgpkjaaGreatDoor
open Go Go.SL Go.Proofs
section
attribute [local irreducible] OpJ RunL Run RunD DetJ pt own star Rd RdS
-- slices.Clone[[]api.Layer,api.Layer]
theorem ac72 (R : HP) (oa : Option Addr) (cap : Nat) (ls : List Ly) (hR : RdS R oa (ls.flatMap Ly.c)) (hlen : ls.length ≤ 1000000) : AC Tryz.prog 44 ⟨[.slice oa ls.length cap]⟩ (stars [R]) (Outs (fun _ : Option Addr × Nat => True) (fun x => .slice x.1 ls.length x.2) (fun x => [own 96 4 x.1 ls.length x.2 (ls.flatMap Ly.c), R])) := by
 refine AC.go Tryz.func44 rfl (Nat.le_of_ble_eq_true rfl) fun β => ?_
 refine sr ?_
 refine asg rfl rfl ?_
 refine kp [0] rfl ?_
 refine Run.seq ?_
 refine sr ?_
 refine sx 2 ?_
 refine kp [0, 4] rfl ?_
 first | refine Run.if rfl (fun h1 => ?_) (fun h1 => ?_) | refine Run.cond rfl (fun h1 => ?_) (fun h1 => ?_)
 refine sr ?_
 by_cases hne : ls.flatMap Ly.c ≠ []
 refine RunL.rdOpen pk hR hne fun b o e hrd => ?_
 rw [e] at h1
 cases h1
 obtain rfl : ls = [] := by
   cases ls with
   | nil => rfl
   | cons l ls => exact absurd (by simp [Ly.c]) hne
 refine RunL.ownNil 96 4 ?_
 refine asg rfl rfl ?_
 refine kp [2] rfl ?_
 refine Run.ret ?_
 exact ret_out (none, 0) (.tmp rfl .nil) trivial rfl gv
 refine Run.skip ?_
 refine sr ?_
 refine RunL.op rfl rfl (OpJ.buildSlice0 S25 fun b5 => ?_)
 refine mvo rfl rfl ?_
 refine RunL.op rfl rfl (OpJ.appendAll S25 M64 rfl rfl pk pk hR (flat_len (enc := Ly.c) (k := 4) (fun _ => rfl) _) (by decide) (flat_one Ly.one _) (by omega) (by omega) fun a7 c7 => ?_)
 simp only [Nat.zero_add, List.nil_append]
 refine asg rfl rfl ?_
 refine kp [2] rfl ?_
 refine Run.ret ?_
 exact ret_out (a7, c7) (.tmp rfl .nil) trivial rfl gv
-- average.copied
theorem ac41 (s : Sk) (la : Option Addr) (lc : Nat) (pa : Option Addr) (pc : Nat) (RL RP : HP) (hn : s.layers.length ≤ 1000000 ∧ s.past.length ≤ 1000000) (hRL : RdS RL la (s.layers.flatMap Ly.c)) (hRP : RdS RP pa (s.past.flatMap Pa.c)) : AC Tryz.prog 98 ⟨[.agg ⟨s.c la lc pa pc⟩]⟩ (stars [RL, RP]) (Outs (fun _ : Option Addr × Nat × Nat => True) (fun x => .agg ⟨s.c x.1 x.2.1 (some ⟨x.2.2, 0, none⟩) s.past.length⟩) (fun x => [own 96 4 x.1 s.layers.length x.2.1 ((s.layers).flatMap Ly.c), own 98 7 (some ⟨x.2.2, 0, none⟩) s.past.length s.past.length ((s.past).flatMap Pa.c), RL, RP])) := by
 have hnl := hn.1; have hnp := hn.2
 refine AC.go Tryz.func98 rfl (Nat.le_of_ble_eq_true rfl) fun β => ?_
 refine sr ?_
 refine RunL.op rfl rfl (OpJ.boxA rfl fun b1 => ?_)
 refine RunL.op rfl rfl (OpJ.alloc Z28 fun b2 => ?_)
 refine kp [1, 2] rfl ?_
 refine sr ?_
 refine sx 3 ?_
 refine RunL.op rfl rfl (OpJ.make S26 M66 rfl rfl (by omega) (by omega) fun b7 => ?_)
 refine asg rfl rfl ?_
 refine kp [1, 2, 3] rfl ?_
 refine sr ?_
 refine sx 3 ?_
 refine RunL.op rfl rfl (OpJ.copyAll S26 rfl rfl up pk hRP (flat_len (enc := Pa.c) (k := 7) (fun _ => rfl) _) (by simp) (flat_one Pa.one _) ?_)
 refine kp [1, 2, 3] rfl ?_
 refine sr ?_
 refine sx 3 ?_
 refine kp [1, 2] rfl ?_
 refine sr ?_
 refine sx 2 ?_
 refine RunL.callX C72 rfl rfl rfl (ac72 RL la lc s.layers hRL hnl) tks fun ⟨l2, c2⟩ _ => ?_
 refine sx 2 ?_
 refine kp [1, 2] rfl ?_
 refine sr ?_
 refine sx 2 ?_
 refine kp [2] rfl ?_
 refine Run.ret ?_
 exact ret_out (l2, c2, b7) (.cellA T28 rfl pk (by rfl) .nil) trivial rfl gv
-- average.referred
theorem ac114 (bx : Nat) (t : Sk) (m : Mv) (la : Option Addr) (nl lc : Nat) (pa : Option Addr) (np pc : Nat) (kind : Int) (enp : np = t.past.length) (hk : kind ≠ 0) (hn : t.past.length ≤ 1000000) : AC Tryz.prog 163 ⟨[.pointer (some ⟨bx, 0, none⟩), .agg ⟨m.c⟩, I kind]⟩ (stars [pt bx (blk (SC t la nl lc pa np pc) 61), own 98 7 pa np pc ((t.past).flatMap Pa.c)]) (Ret (.tuple ⟨[I (okIdx (refd kind m t.past)), I (errOf (refd kind m t.past))]⟩) [pt bx (blk (SC t la nl lc pa np pc) 61), own 98 7 pa np pc ((t.past).flatMap Pa.c)]) := by
 subst enp
 refine AC.go Tryz.func163 rfl (Nat.le_of_ble_eq_true rfl) fun β => ?_
 refine sr ?_
 refine RunL.op rfl rfl (OpJ.boxA rfl fun b4 => ?_)
 refine RunL.op rfl rfl (OpJ.box rfl rfl fun b5 => ?_)
 refine sx 2 ?_
 refine kp [0, 4, 5] rfl ?_
 refine sr ?_
 refine sx 5 ?_
 refine RunL.pack (A := pt b4 (blk m.c 35)) (B := pt b5 (blk [I kind] 3)) pk pk ?_
 refine RunL.call C39 rfl rfl rfl (ac39 (own 98 7 pa t.past.length pc ((t.past).flatMap Pa.c)) (star (pt b4 (blk m.c 35)) (pt b5 (blk [I kind] 3))) 196 [.pointer (some ⟨b4, 0, none⟩), .pointer (some ⟨b5, 0, none⟩)] (isPast kind m.ref) pa pc t.past own.rds hn C155 (fun p => ac155 b4 b5 m kind p hk)) tks ?_
 refine RunL.unpack (A := pt b4 (blk m.c 35)) (B := pt b5 (blk [I kind] 3)) pk ?_
 refine asg rfl rfl ?_
 refine kp [0, 4, 6] rfl ?_
 refine Run.seq ?_
 refine sr ?_
 refine sx 2 ?_
 rcases hf : findI (isPast kind m.ref) t.past with _ | ⟨i, p⟩
 refine kp [0, 4, 6, 16] rfl ?_
 refine Run.true rfl ?_
 refine sr ?_
 refine sx 2 ?_
 refine kp [6, 7] rfl ?_
 refine Run.ret ?_
 exact ret_one (.tmp rfl (.tmp rfl .nil)) (by simp [tup, refd, hf, okIdx, errOf, idxOf, *]) gv
 obtain ⟨hx, _⟩ := findI_some hf
 have hi := (List.getElem?_eq_some_iff.1 hx).1
 refine RunL.ownAddr pk (flat_ne (k := 7) (fun _ => rfl) (by decide) hx) fun b e hcap => ?_
 subst e
 simp only [idxOf]
 refine RunL.set (congrArg Value.bool (decide_eq_false (show ¬ ((i : Int) < 0) by omega))) ?_
 refine kp [0, 4, 6, 16] rfl ?_
 refine Run.false rfl ?_
 refine Run.skip ?_
 refine Run.seq ?_
 refine sr ?_
 refine sx 7 ?_
 refine RunL.op rfl rfl (OpJ.alloc Z66 fun b8 => ?_)
 refine sx 1 ?_
 refine kp [4, 6, 8] rfl ?_
 refine sr ?_
 refine sx 6 ?_
 refine RunL.op rfl rfl (OpJ.sub rfl rfl ?_)
 refine sx 1 ?_
 refine kp [6, 31] rfl ?_
 first | refine Run.if rfl (fun h1 => ?_) (fun h1 => ?_) | refine Run.cond rfl (fun h1 => ?_) (fun h1 => ?_)
 refine sr ?_
 refine sx 2 ?_
 refine kp [6, 7] rfl ?_
 refine Run.ret ?_
 exact ret_one (.tmp rfl (.tmp rfl .nil)) (by simp [tup, refd, hf, okIdx, errOf, idxOf, *]) gv
 refine Run.skip ?_
 refine sr ?_
 refine sx 3 ?_
 refine kp [6, 7] rfl ?_
 refine Run.ret ?_
 exact ret_one (.tmp rfl (.tmp rfl .nil)) (by simp [tup, refd, hf, okIdx, errOf, idxOf, *]) gv
end
end Go.Proofs.YtcpghpifbgpkjaaGreatDoor

namespace Go.Proofs.YtcpghpifbgpkjaaGreatDoor
open Go Go.SL Go.Proofs
section
attribute [local irreducible] OpJ RunL Run RunD DetJ pt own star Rd RdS
-- average.receive
theorem ac73 (bx : Nat) (t : Sk) (m : Mv) (la : Option Addr) (nl lc : Nat) (pa : Option Addr) (np pc : Nat) (enp : np = t.past.length) (ht : t.ok 999999) (hm : m.ok) : AC Tryz.prog 127 ⟨[.pointer (some ⟨bx, 0, none⟩), .agg ⟨m.c⟩]⟩ (stars [pt bx (blk (SC t la nl lc pa np pc) 61), own 98 7 pa np pc ((t.past).flatMap Pa.c)]) (Outs (fun _ : Option Addr × Nat => True) (fun _ => .agg ⟨(avC (aRecv t m)).c⟩) (fun x => AvB 61 98 bx la nl lc t (aRecv t m) x)) := by
 subst enp
 have hn : t.past.length ≤ 1000000 := Nat.le_trans ht.np (by decide)
 have hnp := ht.np
 obtain ⟨hm1, hm2⟩ := hm
 refine AC.go Tryz.func127 rfl (Nat.le_of_ble_eq_true rfl) fun β => ?_
 refine sr ?_
 refine RunL.op rfl rfl (OpJ.boxA rfl fun b3 => ?_)
 refine RunL.op rfl rfl (OpJ.alloc Z43 fun b4 => ?_)
 refine kp [0, 3, 4] rfl ?_
 refine Run.seq ?_
 refine regionD HM ?_
 refine tk 0 rfl rfl rfl (DetJ.move rfl) ?_
 refine tk 1 rfl rfl rfl (DetJ.move rfl) ?_
 refine tk 2 rfl rfl rfl (DetJ.nilCheck rfl) ?_
 refine tk 3 rfl rfl rfl (DetJ.fieldAddr F28_4 rfl) ?_
 first | refine RunD.takeF 4 rfl rfl kr T26 rfl pk (by rfl) ?_ | refine RunD.takeO 4 rfl rfl kr T26 rfl pk (by assumption) (by rfl) (by exact fun _ => rfl) ?_
 refine tk 5 rfl rfl rfl (DetJ.fieldAddr F47_0 rfl) ?_
 first | refine RunD.takeF 6 rfl rfl kr T3 rfl pk (by rfl) ?_ | refine RunD.takeO 6 rfl rfl kr T3 rfl pk (by assumption) (by rfl) (by exact fun _ => rfl) ?_
 refine tk 7 rfl rfl rfl (DetJ.fieldAddr F47_3 rfl) ?_
 first | refine RunD.takeF 8 rfl rfl kr T3 rfl pk (by rfl) ?_ | refine RunD.takeO 8 rfl rfl kr T3 rfl pk (by assumption) (by rfl) (by exact fun _ => rfl) ?_
 refine tk 9 rfl rfl rfl (DetJ.fieldAddr F47_6 rfl) ?_
 first | refine RunD.takeF 10 rfl rfl kr T9 rfl pk (by rfl) ?_ | refine RunD.takeO 10 rfl rfl kr T9 rfl pk (by assumption) (by rfl) (by exact fun _ => rfl) ?_
 refine tk 11 rfl rfl rfl (DetJ.fieldAddr F47_4 rfl) ?_
 first | refine RunD.takeF 12 rfl rfl kr T3 rfl pk (by rfl) ?_ | refine RunD.takeO 12 rfl rfl kr T3 rfl pk (by assumption) (by rfl) (by exact fun _ => rfl) ?_
 refine tk 13 rfl rfl rfl (DetJ.fieldAddr F47_5 rfl) ?_
 first | refine RunD.takeF 14 rfl rfl kr T3 rfl pk (by rfl) ?_ | refine RunD.takeO 14 rfl rfl kr T3 rfl pk (by assumption) (by rfl) (by exact fun _ => rfl) ?_
 refine RunD.takeB 15 rfl rfl kr B66 rfl rfl fun cs hcs => ?_
 simp only [Sk.c, Mv.c, Co.c, bldL, bldA, Value.cells, bs, Nat.reduceAdd, Nat.reduceLeDiff, Nat.reduceLT] at hcs; subst hcs
 refine RunD.op 16 [false, false, false, false, false, false, false, false, false, false, false, true, true, true, true, true] rfl rfl rfl kr kr (OpJ.buildSlice1 S26 rfl rfl rfl (by decide) (by decide) Z66 rfl fun b21 => ⟨po, ?_⟩)
 refine RunD.op 17 [false, false, false, true, true] rfl rfl rfl kr kr (OpJ.append1 (⟨m.seq, m.kind, m.lot, m.qty, m.cost, 0, 0⟩ : Pa) S26 M66 rfl rfl pk pk rfl rfl (by simp [Value.oneCell', Pa.c, Ly.c, Mv.c, Co.c]) rfl (by omega) (by omega) fun a22 c22 => ⟨po, ?_⟩)
 refine tk 18 rfl rfl rfl (DetJ.nilCheck rfl) ?_
 refine tk 19 rfl rfl rfl (DetJ.fieldAddr F28_4 rfl) ?_
 refine RunD.op 20 [false, false, false, false] rfl rfl rfl kr kr (OpJ.store1 T26 rfl rfl rfl up (by simp) ⟨po, ?_⟩)
 refine kd [3, 4] rfl ?_
 refine sr ?_
 refine sx 8 ?_
 refine kp [4] rfl ?_
 refine Run.ret ?_
 have hres : aRecv t m = .ok _ := (by unfold aRecv; rfl); refine ret_out (a22, c22) (.cellA T43 rfl pk (by rfl) .nil) trivial (by rw [hres]; rfl) ?_; rw [hres]; simp only [AvB, List.length_set, List.length_append]; exact gv
-- average.issue
theorem ac74 (bx : Nat) (t : Sk) (m : Mv) (la : Option Addr) (nl lc : Nat) (pa : Option Addr) (np pc : Nat) (enp : np = t.past.length) (ht : t.ok 999999) (hm : m.ok) : AC Tryz.prog 128 ⟨[.pointer (some ⟨bx, 0, none⟩), .agg ⟨m.c⟩]⟩ (stars [pt bx (blk (SC t la nl lc pa np pc) 61), own 98 7 pa np pc ((t.past).flatMap Pa.c)]) (Outs (fun _ : Option Addr × Nat => True) (fun _ => AvV (aIssue t m)) (fun x => AvB 61 98 bx la nl lc t (aIssue t m) x)) := by
 subst enp
 have hn : t.past.length ≤ 1000000 := Nat.le_trans ht.np (by decide)
 have hnp := ht.np
 obtain ⟨hm1, hm2⟩ := hm
 refine AC.go Tryz.func128 rfl (Nat.le_of_ble_eq_true rfl) fun β => ?_
 refine sr ?_
 refine RunL.op rfl rfl (OpJ.boxA rfl fun b3 => ?_)
 refine RunL.op rfl rfl (OpJ.alloc Z43 fun b4 => ?_)
 refine asg rfl rfl ?_
 refine kp [0, 3, 4] rfl ?_
 refine Run.seq ?_
 refine Run.seq ?_
 refine regionD HM ?_
 refine tk 0 rfl rfl rfl (DetJ.move rfl) ?_
 refine tk 1 rfl rfl rfl (DetJ.nilCheck rfl) ?_
 refine tk 2 rfl rfl rfl (DetJ.fieldAddr F28_0 rfl) ?_
 first | refine RunD.takeF 3 rfl rfl kr T3 rfl pk (by rfl) ?_ | refine RunD.takeO 3 rfl rfl kr T3 rfl pk (by assumption) (by rfl) (by exact fun _ => rfl) ?_
 refine tk 4 rfl rfl rfl (DetJ.fieldAddr F47_4 rfl) ?_
 first | refine RunD.takeF 5 rfl rfl kr T3 rfl pk (by rfl) ?_ | refine RunD.takeO 5 rfl rfl kr T3 rfl pk (by assumption) (by rfl) (by exact fun _ => rfl) ?_
 refine tk 6 rfl rfl rfl (DetJ.lss rfl rfl) ?_
 refine kd [0, 3, 4, 13] rfl ?_
 first | refine Run.if rfl (fun h1 => ?_) (fun h1 => ?_) | refine Run.cond rfl (fun h1 => ?_) (fun h1 => ?_)
 refine sr ?_
 refine sx 3 ?_
 refine kp [4, 5] rfl ?_
 refine Run.ret ?_
 have hres : aIssue t m = .error _ := (by unfold aIssue; rw [if_pos h1]); refine ret_out (pa, pc) (.cellA T43 rfl pk (by rfl) (.tmp rfl .nil)) trivial (by rw [hres]; rfl) ?_; rw [hres]; exact gv
 refine Run.skip ?_
 refine Run.seq ?_
 refine regionD HM ?_
 refine tk 0 rfl rfl rfl (DetJ.move rfl) ?_
 refine tk 1 rfl rfl rfl (DetJ.nilCheck rfl) ?_
 refine tk 2 rfl rfl rfl (DetJ.fieldAddr F28_1 rfl) ?_
 first | refine RunD.takeF 3 rfl rfl kr T3 rfl pk (by rfl) ?_ | refine RunD.takeO 3 rfl rfl kr T3 rfl pk (by assumption) (by rfl) (by exact fun _ => rfl) ?_
 refine tk 4 rfl rfl rfl (DetJ.fieldAddr F47_4 rfl) ?_
 first | refine RunD.takeF 5 rfl rfl kr T3 rfl pk (by rfl) ?_ | refine RunD.takeO 5 rfl rfl kr T3 rfl pk (by assumption) (by rfl) (by exact fun _ => rfl) ?_
 refine tk 6 rfl rfl rfl (DetJ.move rfl) ?_
 refine tk 7 rfl rfl rfl (DetJ.nilCheck rfl) ?_
 refine tk 8 rfl rfl rfl (DetJ.fieldAddr F28_0 rfl) ?_
 first | refine RunD.takeF 9 rfl rfl kr T3 rfl pk (by rfl) ?_ | refine RunD.takeO 9 rfl rfl kr T3 rfl pk (by assumption) (by rfl) (by exact fun _ => rfl) ?_
 refine RunD.op 10 [false, false, false, true, false, false, false, false, false, true] rfl rfl rfl kr kr (OpJ.callRet C113 rfl rfl (ac113 _ _ _ ht.v hm1 ht.q) .nil ⟨po, ?_⟩)
 refine tk 11 rfl rfl rfl (DetJ.assign rfl) ?_
 refine kd [0, 3, 4, 6] rfl ?_
 refine Run.seq ?_
 refine regionD HM ?_
 refine tk 0 rfl rfl rfl (DetJ.move rfl) ?_
 refine tk 1 rfl rfl rfl (DetJ.move rfl) ?_
 refine tk 2 rfl rfl rfl (DetJ.nilCheck rfl) ?_
 refine tk 3 rfl rfl rfl (DetJ.fieldAddr F28_4 rfl) ?_
 first | refine RunD.takeF 4 rfl rfl kr T26 rfl pk (by rfl) ?_ | refine RunD.takeO 4 rfl rfl kr T26 rfl pk (by assumption) (by rfl) (by exact fun _ => rfl) ?_
 refine tk 5 rfl rfl rfl (DetJ.fieldAddr F47_0 rfl) ?_
 first | refine RunD.takeF 6 rfl rfl kr T3 rfl pk (by rfl) ?_ | refine RunD.takeO 6 rfl rfl kr T3 rfl pk (by assumption) (by rfl) (by exact fun _ => rfl) ?_
 refine tk 7 rfl rfl rfl (DetJ.fieldAddr F47_3 rfl) ?_
 first | refine RunD.takeF 8 rfl rfl kr T3 rfl pk (by rfl) ?_ | refine RunD.takeO 8 rfl rfl kr T3 rfl pk (by assumption) (by rfl) (by exact fun _ => rfl) ?_
 refine tk 9 rfl rfl rfl (DetJ.fieldAddr F47_6 rfl) ?_
 first | refine RunD.takeF 10 rfl rfl kr T9 rfl pk (by rfl) ?_ | refine RunD.takeO 10 rfl rfl kr T9 rfl pk (by assumption) (by rfl) (by exact fun _ => rfl) ?_
 refine tk 11 rfl rfl rfl (DetJ.fieldAddr F47_4 rfl) ?_
 first | refine RunD.takeF 12 rfl rfl kr T3 rfl pk (by rfl) ?_ | refine RunD.takeO 12 rfl rfl kr T3 rfl pk (by assumption) (by rfl) (by exact fun _ => rfl) ?_
 refine tk 13 rfl rfl rfl (DetJ.move rfl) ?_
 refine RunD.takeB 14 rfl rfl kr B66 rfl rfl fun cs hcs => ?_
 simp only [Sk.c, Mv.c, Co.c, bldL, bldA, Value.cells, bs, Nat.reduceAdd, Nat.reduceLeDiff, Nat.reduceLT] at hcs; subst hcs
 refine RunD.op 15 [false, false, false, false, false, false, false, false, false, false, true, true, true, true, true] rfl rfl rfl kr kr (OpJ.buildSlice1 S26 rfl rfl rfl (by decide) (by decide) Z66 rfl fun b41 => ⟨po, ?_⟩)
 refine RunD.op 16 [false, false, false, true, true] rfl rfl rfl kr kr (OpJ.append1 (⟨m.seq, m.kind, m.lot, m.qty, avgV t m, 0, 0⟩ : Pa) S26 M66 rfl rfl pk pk rfl rfl (by simp [Value.oneCell', Pa.c, Ly.c, Mv.c, Co.c]) rfl (by omega) (by omega) fun a42 c42 => ⟨po, ?_⟩)
 refine tk 17 rfl rfl rfl (DetJ.nilCheck rfl) ?_
 refine tk 18 rfl rfl rfl (DetJ.fieldAddr F28_4 rfl) ?_
 refine RunD.op 19 [false, false, false, false] rfl rfl rfl kr kr (OpJ.store1 T26 rfl rfl rfl up (by simp) ⟨po, ?_⟩)
 refine kd [3, 4, 6] rfl ?_
 refine sr ?_
 refine sx 10 ?_
 refine kp [4, 5] rfl ?_
 refine Run.ret ?_
 have hres : aIssue t m = .ok _ := (by unfold aIssue; rw [if_neg h1]); refine ret_out (a42, c42) (.cellA T43 rfl pk (by rfl) (.tmp rfl .nil)) trivial (by rw [hres]; rfl) ?_; rw [hres]; simp only [AvB, List.length_set, List.length_append]; exact gv
-- average.back
theorem ac75 (bx : Nat) (t : Sk) (m : Mv) (la : Option Addr) (nl lc : Nat) (pa : Option Addr) (np pc : Nat) (enp : np = t.past.length) (ht : t.ok 999999) (hm : m.ok) : AC Tryz.prog 129 ⟨[.pointer (some ⟨bx, 0, none⟩), .agg ⟨m.c⟩]⟩ (stars [pt bx (blk (SC t la nl lc pa np pc) 61), own 98 7 pa np pc ((t.past).flatMap Pa.c)]) (Outs (fun _ : Option Addr × Nat => True) (fun _ => AvV (aBack t m)) (fun x => AvB 61 98 bx la nl lc t (aBack t m) x)) := by
 subst enp
 have hn : t.past.length ≤ 1000000 := Nat.le_trans ht.np (by decide)
 have hnp := ht.np
 obtain ⟨hm1, hm2⟩ := hm
 refine AC.go Tryz.func129 rfl (Nat.le_of_ble_eq_true rfl) fun β => ?_
 refine sr ?_
 refine RunL.op rfl rfl (OpJ.boxA rfl fun b3 => ?_)
 refine RunL.op rfl rfl (OpJ.alloc Z43 fun b4 => ?_)
 refine asg rfl rfl ?_
 refine kp [0, 3, 4] rfl ?_
 refine sr ?_
 refine sx 2 ?_
 refine RunL.call C114 rfl rfl rfl (ac114 bx t m la nl lc pa _ pc _ rfl (by decide) hn) tks ?_
 refine sx 5 ?_
 refine kp [0, 3, 4, 5, 6] rfl ?_
 refine Run.seq ?_
 refine sr ?_
 refine sx 2 ?_
 refine kp [0, 3, 4, 5, 6, 16] rfl ?_
 first | refine Run.if rfl (fun h1 => ?_) (fun h1 => ?_) | refine Run.cond rfl (fun h1 => ?_) (fun h1 => ?_)
 refine sr ?_
 obtain ⟨e, he⟩ := errOf_ne h1
 refine sx 4 ?_
 refine kp [4, 5] rfl ?_
 refine Run.ret ?_
 have hres : aBack t m = .error e := (by unfold aBack; rw [he]); rw [he]; refine ret_out (pa, pc) (.cellA T43 rfl pk (by rfl) (.tmp rfl .nil)) trivial (by rw [hres]; rfl) ?_; rw [hres]; exact gv
 refine Run.skip ?_
 refine sr ?_
 obtain ⟨i, p, hr, hx⟩ := refd_ok (Decidable.not_not.1 h1)
 rw [hr]
 have hi := (List.getElem?_eq_some_iff.1 hx).1
 obtain ⟨hp1, hp2, hp3, hp4⟩ := ht.pa i p hx
 refine RunL.ownAddr pk (flat_ne (k := 7) (fun _ => rfl) (by decide) hx) fun b e hcap => ?_
 subst e
 simp only [okIdx]
 refine sx 7 ?_
 refine kp [3, 4, 7] rfl ?_
 refine Run.seq ?_
 refine regionD HM ?_
 refine tk 0 rfl rfl rfl (DetJ.move rfl) ?_
 refine tk 1 rfl rfl rfl (DetJ.nilCheck rfl) ?_
 refine tk 2 rfl rfl rfl (DetJ.fieldAddr F66_4 rfl) ?_
 first | refine RunD.takeF 3 rfl rfl kr T3 rfl pk (by rfl) ?_ | refine RunD.takeO 3 rfl rfl kr T3 rfl pk (by assumption) (by rfl) (by exact fun _ => rfl) ?_
 refine tk 4 rfl rfl rfl (DetJ.move rfl) ?_
 refine tk 5 rfl rfl rfl (DetJ.nilCheck rfl) ?_
 refine tk 6 rfl rfl rfl (DetJ.fieldAddr F66_6 rfl) ?_
 first | refine RunD.takeF 7 rfl rfl kr T3 rfl pk (by rfl) ?_ | refine RunD.takeO 7 rfl rfl kr T3 rfl pk (by assumption) (by rfl) (by exact fun _ => rfl) ?_
 refine tk 8 rfl rfl rfl (DetJ.sub rfl rfl) ?_
 refine tk 9 rfl rfl rfl (DetJ.fieldAddr F47_4 rfl) ?_
 first | refine RunD.takeF 10 rfl rfl kr T3 rfl pk (by rfl) ?_ | refine RunD.takeO 10 rfl rfl kr T3 rfl pk (by assumption) (by rfl) (by exact fun _ => rfl) ?_
 refine tk 11 rfl rfl rfl (DetJ.move rfl) ?_
 refine tk 12 rfl rfl rfl (DetJ.nilCheck rfl) ?_
 refine tk 13 rfl rfl rfl (DetJ.fieldAddr F66_3 rfl) ?_
 first | refine RunD.takeF 14 rfl rfl kr T3 rfl pk (by rfl) ?_ | refine RunD.takeO 14 rfl rfl kr T3 rfl pk (by assumption) (by rfl) (by exact fun _ => rfl) ?_
 refine tk 15 rfl rfl rfl (DetJ.move rfl) ?_
 refine tk 16 rfl rfl rfl (DetJ.nilCheck rfl) ?_
 refine tk 17 rfl rfl rfl (DetJ.fieldAddr F66_5 rfl) ?_
 first | refine RunD.takeF 18 rfl rfl kr T3 rfl pk (by rfl) ?_ | refine RunD.takeO 18 rfl rfl kr T3 rfl pk (by assumption) (by rfl) (by exact fun _ => rfl) ?_
 refine tk 19 rfl rfl rfl (DetJ.sub rfl rfl) ?_
 refine RunD.op 20 [false, false, false, true, true, false, false, true, true, false, false, false, false, false, true, true, false, false, true, true] rfl rfl rfl kr kr (OpJ.callRet C113 rfl rfl (ac113 _ _ _ (W_i64 _) hm1 (W_i64 _)) .nil ⟨po, ?_⟩)
 refine tk 21 rfl rfl rfl (DetJ.assign rfl) ?_
 refine kd [3, 4, 7, 8] rfl ?_
 refine Run.seq ?_
 refine regionD HM ?_
 refine tk 0 rfl rfl rfl (DetJ.move rfl) ?_
 refine tk 1 rfl rfl rfl (DetJ.nilCheck rfl) ?_
 refine tk 2 rfl rfl rfl (DetJ.fieldAddr F66_5 rfl) ?_
 first | refine RunD.takeF 3 rfl rfl kr T3 rfl pk (by rfl) ?_ | refine RunD.takeO 3 rfl rfl kr T3 rfl pk (by assumption) (by rfl) (by exact fun _ => rfl) ?_
 refine tk 4 rfl rfl rfl (DetJ.fieldAddr F47_4 rfl) ?_
 first | refine RunD.takeF 5 rfl rfl kr T3 rfl pk (by rfl) ?_ | refine RunD.takeO 5 rfl rfl kr T3 rfl pk (by assumption) (by rfl) (by exact fun _ => rfl) ?_
 refine tk 6 rfl rfl rfl (DetJ.add rfl rfl) ?_
 refine tk 7 rfl rfl rfl (DetJ.nilCheck rfl) ?_
 refine tk 8 rfl rfl rfl (DetJ.fieldAddr F66_5 rfl) ?_
 refine RunD.op 9 [false, false, false, false, false, false, false, false, false] rfl rfl rfl kr kr (OpJ.storeO (i := i) (u' := sendP p m) T3 rfl rfl rfl hx (fun _ => rfl) (by decide) rfl up ⟨po, ?_⟩)
 refine kd [3, 4, 7, 8] rfl ?_
 refine sr ?_
 have hx1 := set_get hx (sendP p m)
 refine sx 5 ?_
 refine RunL.op rfl rfl (OpJ.add rfl rfl ?_)
 refine sx 2 ?_
 refine RunL.op rfl rfl (OpJ.storeO (i := i) (u' := backP p m) T3 rfl rfl rfl hx1 (fun _ => rfl) (by decide) rfl up ?_)
 rw [List.set_set]
 refine kp [3, 4, 8] rfl ?_
 refine sr ?_
 refine sx 8 ?_
 refine kp [4, 5] rfl ?_
 refine Run.ret ?_
 have hres : aBack t m = .ok _ := (by unfold aBack; rw [hr]); refine ret_out ((some ⟨b, 0, none⟩), pc) (.cellA T43 rfl pk (by rfl) (.tmp rfl .nil)) trivial (by rw [hres]; rfl) ?_; rw [hres]; simp only [AvB, List.length_set, List.length_append]; exact gv
-- average.send
theorem ac76 (bx : Nat) (t : Sk) (m : Mv) (la : Option Addr) (nl lc : Nat) (pa : Option Addr) (np pc : Nat) (enp : np = t.past.length) (ht : t.ok 999999) (hm : m.ok) : AC Tryz.prog 130 ⟨[.pointer (some ⟨bx, 0, none⟩), .agg ⟨m.c⟩]⟩ (stars [pt bx (blk (SC t la nl lc pa np pc) 61), own 98 7 pa np pc ((t.past).flatMap Pa.c)]) (Outs (fun _ : Option Addr × Nat => True) (fun _ => AvV (aSend t m)) (fun x => AvB 61 98 bx la nl lc t (aSend t m) x)) := by
 subst enp
 have hn : t.past.length ≤ 1000000 := Nat.le_trans ht.np (by decide)
 have hnp := ht.np
 obtain ⟨hm1, hm2⟩ := hm
 refine AC.go Tryz.func130 rfl (Nat.le_of_ble_eq_true rfl) fun β => ?_
 refine sr ?_
 refine RunL.op rfl rfl (OpJ.boxA rfl fun b3 => ?_)
 refine RunL.op rfl rfl (OpJ.alloc Z43 fun b4 => ?_)
 refine asg rfl rfl ?_
 refine kp [0, 3, 4] rfl ?_
 refine sr ?_
 refine sx 2 ?_
 refine RunL.call C114 rfl rfl rfl (ac114 bx t m la nl lc pa _ pc _ rfl (by decide) hn) tks ?_
 refine sx 5 ?_
 refine kp [0, 3, 4, 5, 6] rfl ?_
 refine Run.seq ?_
 refine sr ?_
 refine sx 2 ?_
 refine kp [0, 3, 4, 5, 6, 15] rfl ?_
 first | refine Run.if rfl (fun h1 => ?_) (fun h1 => ?_) | refine Run.cond rfl (fun h1 => ?_) (fun h1 => ?_)
 refine sr ?_
 obtain ⟨e, he⟩ := errOf_ne h1
 refine sx 4 ?_
 refine kp [4, 5] rfl ?_
 refine Run.ret ?_
 have hres : aSend t m = .error e := (by unfold aSend; rw [he]); rw [he]; refine ret_out (pa, pc) (.cellA T43 rfl pk (by rfl) (.tmp rfl .nil)) trivial (by rw [hres]; rfl) ?_; rw [hres]; exact gv
 refine Run.skip ?_
 refine Run.seq ?_
 refine Run.seq ?_
 refine regionD HM ?_
 obtain ⟨i, p, hr, hx⟩ := refd_ok (Decidable.not_not.1 h1)
 rw [hr]
 have hi := (List.getElem?_eq_some_iff.1 hx).1
 obtain ⟨hp1, hp2, hp3, hp4⟩ := ht.pa i p hx
 refine RunD.ownAddr pk (flat_ne (k := 7) (fun _ => rfl) (by decide) hx) fun b e hcap => ?_
 subst e
 simp only [okIdx]
 refine tk 0 rfl rfl rfl (DetJ.move rfl) ?_
 refine tk 1 rfl rfl rfl (DetJ.nilCheck rfl) ?_
 refine tk 2 rfl rfl rfl (DetJ.fieldAddr F28_0 rfl) ?_
 first | refine RunD.takeF 3 rfl rfl kr T3 rfl pk (by rfl) ?_ | refine RunD.takeO 3 rfl rfl kr T3 rfl pk (by assumption) (by rfl) (by exact fun _ => rfl) ?_
 refine tk 4 rfl rfl rfl (DetJ.fieldAddr F47_4 rfl) ?_
 first | refine RunD.takeF 5 rfl rfl kr T3 rfl pk (by rfl) ?_ | refine RunD.takeO 5 rfl rfl kr T3 rfl pk (by assumption) (by rfl) (by exact fun _ => rfl) ?_
 refine tk 6 rfl rfl rfl (DetJ.lss rfl rfl) ?_
 refine kd [0, 3, 4, 6, 24] rfl ?_
 first | refine Run.if rfl (fun h2 => ?_) (fun h2 => ?_) | refine Run.cond rfl (fun h2 => ?_) (fun h2 => ?_)
 refine sr ?_
 refine sx 3 ?_
 refine kp [4, 5] rfl ?_
 refine Run.ret ?_
 have hres : aSend t m = .error _ := (by unfold aSend; rw [hr]; simp only; rw [if_pos (by assumption)]); refine ret_out ((some ⟨b, 0, none⟩), pc) (.cellA T43 rfl pk (by rfl) (.tmp rfl .nil)) trivial (by rw [hres]; rfl) ?_; rw [hres]; exact gv
 refine Run.skip ?_
 refine Run.seq ?_
 refine regionD HM ?_
 refine tk 0 rfl rfl rfl (DetJ.move rfl) ?_
 refine tk 1 rfl rfl rfl (DetJ.nilCheck rfl) ?_
 refine tk 2 rfl rfl rfl (DetJ.fieldAddr F28_1 rfl) ?_
 first | refine RunD.takeF 3 rfl rfl kr T3 rfl pk (by rfl) ?_ | refine RunD.takeO 3 rfl rfl kr T3 rfl pk (by assumption) (by rfl) (by exact fun _ => rfl) ?_
 refine tk 4 rfl rfl rfl (DetJ.fieldAddr F47_4 rfl) ?_
 first | refine RunD.takeF 5 rfl rfl kr T3 rfl pk (by rfl) ?_ | refine RunD.takeO 5 rfl rfl kr T3 rfl pk (by assumption) (by rfl) (by exact fun _ => rfl) ?_
 refine tk 6 rfl rfl rfl (DetJ.move rfl) ?_
 refine tk 7 rfl rfl rfl (DetJ.nilCheck rfl) ?_
 refine tk 8 rfl rfl rfl (DetJ.fieldAddr F28_0 rfl) ?_
 first | refine RunD.takeF 9 rfl rfl kr T3 rfl pk (by rfl) ?_ | refine RunD.takeO 9 rfl rfl kr T3 rfl pk (by assumption) (by rfl) (by exact fun _ => rfl) ?_
 refine RunD.op 10 [false, false, false, true, false, false, false, false, false, true] rfl rfl rfl kr kr (OpJ.callRet C113 rfl rfl (ac113 _ _ _ ht.v hm1 ht.q) .nil ⟨po, ?_⟩)
 refine tk 11 rfl rfl rfl (DetJ.assign rfl) ?_
 refine kd [0, 3, 4, 6, 7] rfl ?_
 refine Run.seq ?_
 refine regionD HM ?_
 refine tk 0 rfl rfl rfl (DetJ.move rfl) ?_
 refine tk 1 rfl rfl rfl (DetJ.nilCheck rfl) ?_
 refine tk 2 rfl rfl rfl (DetJ.fieldAddr F28_4 rfl) ?_
 first | refine RunD.takeF 3 rfl rfl kr T26 rfl pk (by rfl) ?_ | refine RunD.takeO 3 rfl rfl kr T26 rfl pk (by assumption) (by rfl) (by exact fun _ => rfl) ?_
 refine tk 4 rfl rfl rfl (DetJ.move rfl) ?_
 refine tk 5 rfl rfl rfl (DetJ.indexAddr S26 rfl rfl (by omega)) ?_
 refine tk 6 rfl rfl rfl (DetJ.fieldAddr F66_5 rfl) ?_
 first | refine RunD.takeF 7 rfl rfl kr T3 rfl pk (by rfl) ?_ | refine RunD.takeO 7 rfl rfl kr T3 rfl pk (by assumption) (by rfl) (by exact fun _ => rfl) ?_
 refine tk 8 rfl rfl rfl (DetJ.fieldAddr F47_4 rfl) ?_
 first | refine RunD.takeF 9 rfl rfl kr T3 rfl pk (by rfl) ?_ | refine RunD.takeO 9 rfl rfl kr T3 rfl pk (by assumption) (by rfl) (by exact fun _ => rfl) ?_
 refine tk 10 rfl rfl rfl (DetJ.add rfl rfl) ?_
 refine tk 11 rfl rfl rfl (DetJ.indexAddr S26 rfl rfl (by omega)) ?_
 refine tk 12 rfl rfl rfl (DetJ.fieldAddr F66_5 rfl) ?_
 refine RunD.op 13 [false, false, false, false, false, false, false, false, false, false, false, false, false] rfl rfl rfl kr kr (OpJ.storeO (i := i) (u' := sendP p m) T3 rfl rfl rfl hx (fun _ => rfl) (by decide) rfl up ⟨po, ?_⟩)
 refine kd [3, 4, 7] rfl ?_
 refine sr ?_
 refine sx 10 ?_
 refine RunL.op rfl rfl (OpJ.sub rfl rfl ?_)
 refine sx 3 ?_
 refine kp [4, 5] rfl ?_
 refine Run.ret ?_
 have hres : aSend t m = .ok _ := (by unfold aSend; rw [hr]; simp only; rw [if_neg (by assumption)]); refine ret_out ((some ⟨b, 0, none⟩), pc) (.cellA T43 rfl pk (by rfl) (.tmp rfl .nil)) trivial (by rw [hres]; rfl) ?_; rw [hres]; simp only [AvB, List.length_set, List.length_append]; exact gv
-- average.land
theorem ac77 (bx : Nat) (t : Sk) (m : Mv) (la : Option Addr) (nl lc : Nat) (pa : Option Addr) (np pc : Nat) (enp : np = t.past.length) (ht : t.ok 999999) (hm : m.ok) : AC Tryz.prog 131 ⟨[.pointer (some ⟨bx, 0, none⟩), .agg ⟨m.c⟩]⟩ (stars [pt bx (blk (SC t la nl lc pa np pc) 61), own 98 7 pa np pc ((t.past).flatMap Pa.c)]) (Outs (fun _ : Option Addr × Nat => True) (fun _ => AvV (aLand t m)) (fun x => AvB 61 98 bx la nl lc t (aLand t m) x)) := by
 subst enp
 have hn : t.past.length ≤ 1000000 := Nat.le_trans ht.np (by decide)
 have hnp := ht.np
 obtain ⟨hm1, hm2⟩ := hm
 refine AC.go Tryz.func131 rfl (Nat.le_of_ble_eq_true rfl) fun β => ?_
 refine sr ?_
 refine RunL.op rfl rfl (OpJ.boxA rfl fun b3 => ?_)
 refine RunL.op rfl rfl (OpJ.alloc Z43 fun b4 => ?_)
 refine asg rfl rfl ?_
 refine kp [0, 3, 4] rfl ?_
 refine sr ?_
 refine sx 2 ?_
 refine RunL.call C114 rfl rfl rfl (ac114 bx t m la nl lc pa _ pc _ rfl (by decide) hn) tks ?_
 refine sx 5 ?_
 refine kp [0, 3, 4, 5, 6] rfl ?_
 refine Run.seq ?_
 refine sr ?_
 refine sx 2 ?_
 refine kp [0, 3, 4, 5, 6, 16] rfl ?_
 first | refine Run.if rfl (fun h1 => ?_) (fun h1 => ?_) | refine Run.cond rfl (fun h1 => ?_) (fun h1 => ?_)
 refine sr ?_
 obtain ⟨e, he⟩ := errOf_ne h1
 refine sx 4 ?_
 refine kp [4, 5] rfl ?_
 refine Run.ret ?_
 have hres : aLand t m = .error e := (by unfold aLand; rw [he]); rw [he]; refine ret_out (pa, pc) (.cellA T43 rfl pk (by rfl) (.tmp rfl .nil)) trivial (by rw [hres]; rfl) ?_; rw [hres]; exact gv
 refine Run.skip ?_
 refine sr ?_
 obtain ⟨i, p, hr, hx⟩ := refd_ok (Decidable.not_not.1 h1)
 rw [hr]
 have hi := (List.getElem?_eq_some_iff.1 hx).1
 obtain ⟨hp1, hp2, hp3, hp4⟩ := ht.pa i p hx
 refine RunL.ownAddr pk (flat_ne (k := 7) (fun _ => rfl) (by decide) hx) fun b e hcap => ?_
 subst e
 simp only [okIdx]
 have hmn : i64 (if t.qty < p.qty then t.qty else p.qty) := by
   split
   · exact ht.q
   · exact hp1
 refine sx 9 ?_
 refine kp [0, 3, 4, 7] rfl ?_
 refine Run.seq ?_
 refine regionD HM ?_
 refine tk 0 rfl rfl rfl (DetJ.fieldAddr F47_5 rfl) ?_
 first | refine RunD.takeF 1 rfl rfl kr T3 rfl pk (by rfl) ?_ | refine RunD.takeO 1 rfl rfl kr T3 rfl pk (by assumption) (by rfl) (by exact fun _ => rfl) ?_
 refine tk 2 rfl rfl rfl (DetJ.move rfl) ?_
 refine tk 3 rfl rfl rfl (DetJ.move rfl) ?_
 refine tk 4 rfl rfl rfl (DetJ.nilCheck rfl) ?_
 refine tk 5 rfl rfl rfl (DetJ.fieldAddr F28_0 rfl) ?_
 first | refine RunD.takeF 6 rfl rfl kr T3 rfl pk (by rfl) ?_ | refine RunD.takeO 6 rfl rfl kr T3 rfl pk (by assumption) (by rfl) (by exact fun _ => rfl) ?_
 refine tk 7 rfl rfl rfl (DetJ.min rfl rfl) ?_
 refine tk 8 rfl rfl rfl (DetJ.move rfl) ?_
 refine RunD.op 9 [false, false, false, false, true, true, false, false, false] rfl rfl rfl kr kr (OpJ.callRet C113 rfl rfl (ac113 _ _ _ hm2 hmn hp1) .nil ⟨po, ?_⟩)
 refine tk 10 rfl rfl rfl (DetJ.assign rfl) ?_
 refine kd [3, 4, 8] rfl ?_
 refine sr ?_
 refine sx 6 ?_
 refine RunL.op rfl rfl (OpJ.sub rfl rfl ?_)
 refine sx 3 ?_
 refine kp [4, 5] rfl ?_
 refine Run.ret ?_
 have hres : aLand t m = .ok _ := (by unfold aLand; rw [hr]); refine ret_out ((some ⟨b, 0, none⟩), pc) (.cellA T43 rfl pk (by rfl) (.tmp rfl .nil)) trivial (by rw [hres]; rfl) ?_; rw [hres]; simp only [AvB, List.length_set, List.length_append]; exact gv
end
end Go.Proofs.YtcpghpifbgpkjaaGreatDoor

namespace Go.Proofs.YtcpghpifbgpkjaaGreatDoor
open Go Go.SL Go.Proofs
section
attribute [local irreducible] OpJ RunL Run RunD DetJ pt own star Rd RdS
end
theorem aca73 (bx : Nat) (t : Sk) (m : Mv) (la : Option Addr) (nl lc : Nat) (pa : Option Addr) (np pc : Nat) (enp : np = t.past.length) (ht : t.ok 999999) (hm : m.ok) (hk : m.kind = 1) : AC Tryz.prog 127 ⟨[.pointer (some ⟨bx, 0, none⟩), .agg ⟨m.c⟩]⟩ (stars [pt bx (blk (SC t la nl lc pa np pc) 61), own 98 7 pa np pc ((t.past).flatMap Pa.c)]) (Outs (fun _ : Option Addr × Nat => True) (fun _ => .agg ⟨(avC (aDo t m)).c⟩) (fun x => AvB 61 98 bx la nl lc t (aDo t m) x)) := by
  rw [aDo_1 hk]; exact ac73 bx t m la nl lc pa np pc enp ht hm
section
attribute [local irreducible] OpJ RunL Run RunD DetJ pt own star Rd RdS
end
theorem aca74 (bx : Nat) (t : Sk) (m : Mv) (la : Option Addr) (nl lc : Nat) (pa : Option Addr) (np pc : Nat) (enp : np = t.past.length) (ht : t.ok 999999) (hm : m.ok) (hk : m.kind = 2) : AC Tryz.prog 128 ⟨[.pointer (some ⟨bx, 0, none⟩), .agg ⟨m.c⟩]⟩ (stars [pt bx (blk (SC t la nl lc pa np pc) 61), own 98 7 pa np pc ((t.past).flatMap Pa.c)]) (Outs (fun _ : Option Addr × Nat => True) (fun _ => AvV (aDo t m)) (fun x => AvB 61 98 bx la nl lc t (aDo t m) x)) := by
  rw [aDo_2 hk]; exact ac74 bx t m la nl lc pa np pc enp ht hm
section
attribute [local irreducible] OpJ RunL Run RunD DetJ pt own star Rd RdS
end
theorem aca75 (bx : Nat) (t : Sk) (m : Mv) (la : Option Addr) (nl lc : Nat) (pa : Option Addr) (np pc : Nat) (enp : np = t.past.length) (ht : t.ok 999999) (hm : m.ok) (hk : m.kind = 3) : AC Tryz.prog 129 ⟨[.pointer (some ⟨bx, 0, none⟩), .agg ⟨m.c⟩]⟩ (stars [pt bx (blk (SC t la nl lc pa np pc) 61), own 98 7 pa np pc ((t.past).flatMap Pa.c)]) (Outs (fun _ : Option Addr × Nat => True) (fun _ => AvV (aDo t m)) (fun x => AvB 61 98 bx la nl lc t (aDo t m) x)) := by
  rw [aDo_3 hk]; exact ac75 bx t m la nl lc pa np pc enp ht hm
section
attribute [local irreducible] OpJ RunL Run RunD DetJ pt own star Rd RdS
end
theorem aca76 (bx : Nat) (t : Sk) (m : Mv) (la : Option Addr) (nl lc : Nat) (pa : Option Addr) (np pc : Nat) (enp : np = t.past.length) (ht : t.ok 999999) (hm : m.ok) (hk : m.kind = 4) : AC Tryz.prog 130 ⟨[.pointer (some ⟨bx, 0, none⟩), .agg ⟨m.c⟩]⟩ (stars [pt bx (blk (SC t la nl lc pa np pc) 61), own 98 7 pa np pc ((t.past).flatMap Pa.c)]) (Outs (fun _ : Option Addr × Nat => True) (fun _ => AvV (aDo t m)) (fun x => AvB 61 98 bx la nl lc t (aDo t m) x)) := by
  rw [aDo_4 hk]; exact ac76 bx t m la nl lc pa np pc enp ht hm
section
attribute [local irreducible] OpJ RunL Run RunD DetJ pt own star Rd RdS
end
theorem aca77 (bx : Nat) (t : Sk) (m : Mv) (la : Option Addr) (nl lc : Nat) (pa : Option Addr) (np pc : Nat) (enp : np = t.past.length) (ht : t.ok 999999) (hm : m.ok) (hk : m.kind = 5) : AC Tryz.prog 131 ⟨[.pointer (some ⟨bx, 0, none⟩), .agg ⟨m.c⟩]⟩ (stars [pt bx (blk (SC t la nl lc pa np pc) 61), own 98 7 pa np pc ((t.past).flatMap Pa.c)]) (Outs (fun _ : Option Addr × Nat => True) (fun _ => AvV (aDo t m)) (fun x => AvB 61 98 bx la nl lc t (aDo t m) x)) := by
  rw [aDo_5 hk]; exact ac77 bx t m la nl lc pa np pc enp ht hm
section
attribute [local irreducible] OpJ RunL Run RunD DetJ pt own star Rd RdS
-- average.perform
theorem ac42 (bx : Nat) (t : Sk) (m : Mv) (la : Option Addr) (nl lc : Nat) (pa : Option Addr) (np pc : Nat) (enp : np = t.past.length) (ht : t.ok 999999) (hm : m.ok) : AC Tryz.prog 99 ⟨[.pointer (some ⟨bx, 0, none⟩), .agg ⟨m.c⟩]⟩ (stars [pt bx (blk (SC t la nl lc pa np pc) 61), own 98 7 pa np pc ((t.past).flatMap Pa.c)]) (Outs (fun _ : Option Addr × Nat => True) (fun _ => AvV (aDo t m)) (fun x => AvB 61 98 bx la nl lc t (aDo t m) x)) := by
 subst enp
 have hn : t.past.length ≤ 1000000 := Nat.le_trans ht.np (by decide)
 have hnp := ht.np
 obtain ⟨hm1, hm2⟩ := hm
 refine AC.go Tryz.func99 rfl (Nat.le_of_ble_eq_true rfl) fun β => ?_
 refine sr ?_
 refine RunL.op rfl rfl (OpJ.boxA rfl fun b3 => ?_)
 refine RunL.op rfl rfl (OpJ.alloc Z43 fun b4 => ?_)
 refine asg rfl rfl ?_
 refine kp [0, 3, 4] rfl ?_
 refine Run.seq ?_
 refine sr ?_
 refine sx 2 ?_
 refine kp [0, 3, 4, 7] rfl ?_
 refine Run.block ?_
 refine sr ?_
 refine sx 2 ?_
 refine kp [0, 3, 4, 7, 8] rfl ?_
 first | refine Run.if rfl (fun h1 => ?_) (fun h1 => ?_) | refine Run.cond rfl (fun h1 => ?_) (fun h1 => ?_)
 refine sr ?_
 refine sx 2 ?_
 refine RunL.callX C73 rfl rfl rfl (aca73 bx t m la nl lc pa _ pc rfl ht ⟨hm1, hm2⟩ (by assumption)) tks fun x _ => ?_
 rcases hres : aDo t m with e | ⟨t2, c2⟩
 rw [aDo_1 (by assumption)] at hres; cases hres
 refine sx 2 ?_
 refine kp [4, 5] rfl ?_
 refine Run.ret ?_
 refine ret_out x (.cellA T43 rfl pk (by rfl) (.tmp rfl .nil)) trivial (by first | rfl | (rw [hres]; rfl)) ?_; first | exact gv | (rw [hres]; exact gv)
 refine sr ?_
 refine sx 2 ?_
 refine kp [0, 3, 4, 7, 13] rfl ?_
 first | refine Run.if rfl (fun h2 => ?_) (fun h2 => ?_) | refine Run.cond rfl (fun h2 => ?_) (fun h2 => ?_)
 refine sr ?_
 refine sx 2 ?_
 refine RunL.callX C74 rfl rfl rfl (aca74 bx t m la nl lc pa _ pc rfl ht ⟨hm1, hm2⟩ (by assumption)) tks fun x _ => ?_
 rcases hres : aDo t m with e | ⟨t2, c2⟩
 refine sx 4 ?_
 refine kp [4, 5] rfl ?_
 refine Run.ret ?_
 refine ret_out x (.cellA T43 rfl pk (by rfl) (.tmp rfl .nil)) trivial (by first | rfl | (rw [hres]; rfl)) ?_; first | exact gv | (rw [hres]; exact gv)
 refine sx 4 ?_
 refine kp [4, 5] rfl ?_
 refine Run.ret ?_
 refine ret_out x (.cellA T43 rfl pk (by rfl) (.tmp rfl .nil)) trivial (by first | rfl | (rw [hres]; rfl)) ?_; first | exact gv | (rw [hres]; exact gv)
 refine sr ?_
 refine sx 2 ?_
 refine kp [0, 3, 4, 7, 20] rfl ?_
 first | refine Run.if rfl (fun h3 => ?_) (fun h3 => ?_) | refine Run.cond rfl (fun h3 => ?_) (fun h3 => ?_)
 refine sr ?_
 refine sx 2 ?_
 refine RunL.callX C75 rfl rfl rfl (aca75 bx t m la nl lc pa _ pc rfl ht ⟨hm1, hm2⟩ (by assumption)) tks fun x _ => ?_
 rcases hres : aDo t m with e | ⟨t2, c2⟩
 refine sx 4 ?_
 refine kp [4, 5] rfl ?_
 refine Run.ret ?_
 refine ret_out x (.cellA T43 rfl pk (by rfl) (.tmp rfl .nil)) trivial (by first | rfl | (rw [hres]; rfl)) ?_; first | exact gv | (rw [hres]; exact gv)
 refine sx 4 ?_
 refine kp [4, 5] rfl ?_
 refine Run.ret ?_
 refine ret_out x (.cellA T43 rfl pk (by rfl) (.tmp rfl .nil)) trivial (by first | rfl | (rw [hres]; rfl)) ?_; first | exact gv | (rw [hres]; exact gv)
 refine sr ?_
 refine sx 2 ?_
 refine kp [0, 3, 4, 7, 27] rfl ?_
 first | refine Run.if rfl (fun h4 => ?_) (fun h4 => ?_) | refine Run.cond rfl (fun h4 => ?_) (fun h4 => ?_)
 refine sr ?_
 refine sx 2 ?_
 refine RunL.callX C76 rfl rfl rfl (aca76 bx t m la nl lc pa _ pc rfl ht ⟨hm1, hm2⟩ (by assumption)) tks fun x _ => ?_
 rcases hres : aDo t m with e | ⟨t2, c2⟩
 refine sx 4 ?_
 refine kp [4, 5] rfl ?_
 refine Run.ret ?_
 refine ret_out x (.cellA T43 rfl pk (by rfl) (.tmp rfl .nil)) trivial (by first | rfl | (rw [hres]; rfl)) ?_; first | exact gv | (rw [hres]; exact gv)
 refine sx 4 ?_
 refine kp [4, 5] rfl ?_
 refine Run.ret ?_
 refine ret_out x (.cellA T43 rfl pk (by rfl) (.tmp rfl .nil)) trivial (by first | rfl | (rw [hres]; rfl)) ?_; first | exact gv | (rw [hres]; exact gv)
 refine sr ?_
 refine sx 2 ?_
 refine kp [0, 3, 4, 34] rfl ?_
 first | refine Run.if rfl (fun h5 => ?_) (fun h5 => ?_) | refine Run.cond rfl (fun h5 => ?_) (fun h5 => ?_)
 refine sr ?_
 refine sx 2 ?_
 refine RunL.callX C77 rfl rfl rfl (aca77 bx t m la nl lc pa _ pc rfl ht ⟨hm1, hm2⟩ (by assumption)) tks fun x _ => ?_
 rcases hres : aDo t m with e | ⟨t2, c2⟩
 refine sx 4 ?_
 refine kp [4, 5] rfl ?_
 refine Run.ret ?_
 refine ret_out x (.cellA T43 rfl pk (by rfl) (.tmp rfl .nil)) trivial (by first | rfl | (rw [hres]; rfl)) ?_; first | exact gv | (rw [hres]; exact gv)
 refine sx 4 ?_
 refine kp [4, 5] rfl ?_
 refine Run.ret ?_
 refine ret_out x (.cellA T43 rfl pk (by rfl) (.tmp rfl .nil)) trivial (by first | rfl | (rw [hres]; rfl)) ?_; first | exact gv | (rw [hres]; exact gv)
 refine Run.skip ?_
 refine sr ?_
 refine sx 3 ?_
 refine kp [4, 5] rfl ?_
 refine Run.ret ?_
 have hres := aDo_0 (t := t) (m := m) (by refine ⟨?_, ?_, ?_, ?_, ?_⟩ <;> assumption); refine ret_out (pa, pc) (.cellA T43 rfl pk (by rfl) (.tmp rfl .nil)) trivial (by rw [hres]; rfl) ?_; rw [hres]; exact gv
end
end Go.Proofs.YtcpghpifbgpkjaaGreatDoor

namespace Go.Proofs.YtcpghpifbgpkjaaGreatDoor
open Go Go.SL Go.Proofs
section
attribute [local irreducible] OpJ RunL Run RunD DetJ pt own star Rd RdS
-- average.Step
theorem ac21 (s : Sk) (m : Mv) (la : Option Addr) (lc : Nat) (pa : Option Addr) (pc : Nat) (RL RP : HP) (hs : s.ok 999999) (hm : m.ok) (hRL : RdS RL la (s.layers.flatMap Ly.c)) (hRP : RdS RP pa (s.past.flatMap Pa.c)) (R0 : HP) (hR0 : Rd R0 ⟨0, 0, none⟩ lensC) : AC Tryz.prog 73 ⟨[.agg ⟨s.c la lc pa pc⟩, .agg ⟨m.c⟩]⟩ (stars [RL, RP, R0]) (Outs (fun _ : Option Addr × Nat × Option Addr × Nat => True) (fun x => StV (aStep s m) x) (fun x => StB 96 98 (aStep s m) x ++ [RL, RP, R0])) := by
 have hn : s.layers.length ≤ 1000000 ∧ s.past.length ≤ 1000000 := ⟨Nat.le_trans hs.nl (by decide), Nat.le_trans hs.np (by decide)⟩
 have hnl := hn.1; have hnp := hn.2
 refine AC.go Tryz.func73 rfl (Nat.le_of_ble_eq_true rfl) fun β => ?_
 refine sr ?_
 refine RunL.op rfl rfl (OpJ.boxA rfl fun b2 => ?_)
 refine RunL.op rfl rfl (OpJ.boxA rfl fun b3 => ?_)
 refine RunL.op rfl rfl (OpJ.alloc Z28 fun b4 => ?_)
 refine RunL.op rfl rfl (OpJ.alloc Z43 fun b5 => ?_)
 refine asg rfl rfl ?_
 refine kp [2, 3, 4, 5] rfl ?_
 refine Run.seq ?_
 refine sr ?_
 refine sx 1 ?_
 refine RunL.call C30 rfl rfl rfl (ac30 _ _ hR0) tks ?_
 refine asg rfl rfl ?_
 refine kp [2, 3, 4, 5, 7] rfl ?_
 refine sr ?_
 refine sx 2 ?_
 refine kp [2, 3, 4, 5, 7, 11] rfl ?_
 first | refine Run.if rfl (fun h1 => ?_) (fun h1 => ?_) | refine Run.cond rfl (fun h1 => ?_) (fun h1 => ?_)
 refine sr ?_
 refine sx 6 ?_
 refine kp [4, 5, 6] rfl ?_
 refine Run.ret ?_
 have hres2 : aStep s m = .error m.one := (by unfold aStep; rw [if_pos h1]); refine ret_out (none, 0, none, 0) (.cellA T28 rfl pk (by rfl) (.cellA T43 rfl pk (by rfl) (.tmp rfl .nil))) trivial (by rw [hres2]; rfl) ?_; rw [hres2]; exact gv
 refine Run.skip ?_
 refine Run.seq ?_
 refine sr ?_
 refine sx 3 ?_
 refine RunL.call C39 rfl rfl rfl (ac39 RP (pt b3 (blk m.c 35)) 97 [.pointer (some ⟨b3, 0, none⟩)] (isPast 0 m.seq) pa pc s.past hRP hnp C40 (fun p => ac40 b3 m p)) tks ?_
 refine sx 1 ?_
 refine kp [2, 3, 4, 5, 19] rfl ?_
 first | refine Run.if rfl (fun h2 => ?_) (fun h2 => ?_) | refine Run.cond rfl (fun h2 => ?_) (fun h2 => ?_)
 refine sr ?_
 refine sx 5 ?_
 refine kp [4, 5, 6] rfl ?_
 refine Run.ret ?_
 have hres2 : aStep s m = .error 8 := (by unfold aStep; rw [if_neg h1, if_pos (by rw [← idx_some]; exact decide_eq_true (by assumption))]); refine ret_out (none, 0, none, 0) (.cellA T28 rfl pk (by rfl) (.cellA T43 rfl pk (by rfl) (.tmp rfl .nil))) trivial (by rw [hres2]; rfl) ?_; rw [hres2]; exact gv
 refine Run.skip ?_
 refine sr ?_
 refine sx 1 ?_
 refine RunL.callX C41 rfl rfl rfl (ac41 s la lc pa pc RL RP hn hRL hRP) tks fun ⟨l2, c2, bp⟩ _ => ?_
 refine sx 1 ?_
 refine kp [3, 4, 5] rfl ?_
 refine sr ?_
 refine sx 1 ?_
 refine RunL.callX C42 rfl rfl rfl (ac42 b4 s m l2 _ c2 _ _ _ rfl hs hm) tks fun ⟨pa2, pc2⟩ _ => ?_
 rcases hres : aDo s m with e | ⟨t, c⟩
 refine sx 5 ?_
 refine kp [4, 5, 6] rfl ?_
 refine Run.seq ?_
 refine sr ?_
 refine sx 2 ?_
 first | refine RunL.set (congrArg Value.bool (decide_eq_true (show errOf (Except.error _) ≠ 0 from aDo_err hres))) ?_ | skip
 refine kp [4, 5, 6, 30] rfl ?_
 refine Run.true rfl ?_
 refine sr ?_
 refine sx 6 ?_
 refine kp [4, 5, 6] rfl ?_
 refine Run.ret ?_
 have hres2 : aStep s m = .error e := (by unfold aStep; rw [if_neg h1, if_neg (by rw [← idx_some]; simp only [*]; decide), hres]); refine ret_out (none, 0, none, 0) (.cellA T28 rfl pk (by rfl) (.cellA T43 rfl pk (by rfl) (.tmp rfl .nil))) trivial (by rw [hres2]; rfl) ?_; rw [hres2]; exact gv
 have hly := aDo_layers hres
 rw [← hly]
 refine sx 5 ?_
 refine kp [4, 5, 6] rfl ?_
 refine Run.seq ?_
 refine sr ?_
 refine sx 2 ?_
 first | refine RunL.set (congrArg Value.bool (decide_eq_true (show errOf (Except.error _) ≠ 0 from aDo_err hres))) ?_ | skip
 refine kp [4, 5, 6, 30] rfl ?_
 refine Run.false rfl ?_
 refine Run.skip ?_
 refine sr ?_
 refine sx 4 ?_
 refine RunL.op rfl rfl (OpJ.add rfl rfl ?_)
 refine sx 2 ?_
 refine kp [4, 5] rfl ?_
 refine sr ?_
 refine sx 4 ?_
 refine RunL.op rfl rfl (OpJ.add rfl rfl ?_)
 refine sx 2 ?_
 refine kp [4, 5] rfl ?_
 refine Run.seq ?_
 refine sr ?_
 refine RunL.cut (t := 58) (v := Bo (aOver (summed t c) c)) (kt (ks := [4, 5]) rfl) ?_ ?_
 refine sx 4 ?_
 first | refine RunL.splitP (t := 49) rfl (fun g3 => ?_) (fun g3 => ?_) | refine RunL.split (t := 49) rfl (fun g3 => ?_) (fun g3 => ?_)
 refine sx 9 ?_
 exact RunL.nil ⟨.cons (by first | rfl | (show some (Value.bool _) = some (Value.bool _); (simp only [avC] at *; simp [aOver, summed, *]; done)) | (show some (Value.bool _) = some (Value.bool _); simp_all)) (kt (ks := [4, 5]) rfl), rfl⟩
 refine sx 2 ?_
 refine RunL.callG C43 rfl rfl rfl rfl rfl (ac43 _) .nil ?_
 refine sx 2 ?_
 first | refine RunL.splitP (t := 54) rfl (fun g4 => ?_) (fun g4 => ?_) | refine RunL.split (t := 54) rfl (fun g4 => ?_) (fun g4 => ?_)
 refine sx 4 ?_
 exact RunL.nil ⟨.cons (by first | rfl | (show some (Value.bool _) = some (Value.bool _); (simp only [avC] at *; simp [aOver, summed, *]; done)) | (show some (Value.bool _) = some (Value.bool _); simp_all)) (kt (ks := [4, 5]) rfl), rfl⟩
 refine sx 2 ?_
 refine RunL.callG C43 rfl rfl rfl rfl rfl (ac43 _) .nil ?_
 refine sx 1 ?_
 exact RunL.nil ⟨.cons (by first | rfl | (show some (Value.bool _) = some (Value.bool _); (simp only [avC] at *; simp [aOver, summed, *]; done)) | (show some (Value.bool _) = some (Value.bool _); simp_all)) (kt (ks := [4, 5]) rfl), rfl⟩
 first | refine Run.if rfl (fun h5 => ?_) (fun h5 => ?_) | refine Run.cond rfl (fun h5 => ?_) (fun h5 => ?_)
 refine sr ?_
 refine sx 5 ?_
 refine kp [4, 5, 6] rfl ?_
 refine Run.ret ?_
 have hres2 : aStep s m = .error 4 := (by unfold aStep; rw [if_neg h1, if_neg (by rw [← idx_some]; simp only [*]; decide), hres]; exact if_pos (by assumption)); refine ret_out (none, 0, none, 0) (.cellA T28 rfl pk (by rfl) (.cellA T43 rfl pk (by rfl) (.tmp rfl .nil))) trivial (by rw [hres2]; rfl) ?_; rw [hres2]; exact gv
 refine Run.skip ?_
 refine Run.seq ?_
 refine regionD HM ?_
 first | refine RunD.takeW 0 rfl rfl kr T28 rfl pk (by rfl) ?_ | refine RunD.takeP 0 rfl rfl kr T28 rfl pk (by simp) ?_ | refine RunD.takeE 0 rfl rfl kr T28 rfl pk (by assumption) (by exact fun _ => rfl) rfl (by decide) ?_
 first | refine RunD.takeW 1 rfl rfl kr T43 rfl pk (by rfl) ?_ | refine RunD.takeP 1 rfl rfl kr T43 rfl pk (by simp) ?_ | refine RunD.takeE 1 rfl rfl kr T43 rfl pk (by assumption) (by exact fun _ => rfl) rfl (by decide) ?_
 refine RunD.op 2 [true, false] rfl rfl rfl kr kr (OpJ.storeW T28 rfl rfl rfl rfl (by simp [Value.oneCell', Pa.c, Ly.c, Mv.c, Co.c]) up ⟨po, ?_⟩)
 refine RunD.op 3 [false] rfl rfl rfl kr kr (OpJ.storeW T43 rfl rfl rfl rfl (by simp [Value.oneCell', Pa.c, Ly.c, Mv.c, Co.c]) up ⟨po, ?_⟩)
 refine tk 4 rfl rfl rfl (DetJ.assign rfl) ?_
 refine kd [4, 5, 6] rfl ?_
 refine Run.ret ?_
 have hres2 : aStep s m = .ok (summed t c, c) := (by unfold aStep; rw [if_neg h1, if_neg (by rw [← idx_some]; simp only [*]; decide), hres]; exact if_neg (by simp only [*]; decide)); refine ret_out (l2, c2, pa2, pc2) (.cellA T28 rfl pk (by rfl) (.cellA T43 rfl pk (by rfl) (.tmp rfl .nil))) trivial (by rw [hres2]; rfl) ?_; rw [hres2]; exact gv
end
end Go.Proofs.YtcpghpifbgpkjaaGreatDoor

namespace Go.Proofs.YtcpghpifbgpkjaaGreatDoor
open Go Go.SL Go.Proofs
section
attribute [local irreducible] OpJ RunL Run RunD DetJ pt own star Rd RdS
-- lots.part
theorem ac126 (v q n : Int) (hv : i64 v) (hq : i64 q) (hn : i64 n) : AC Tryz.prog 175 ⟨[I v, I q, I n]⟩ (stars []) (Ret (I (partN v q n)) []) := by
 refine AC.go Tryz.func175 rfl (Nat.le_of_ble_eq_true rfl) fun β => ?_
 refine sr ?_
 refine asg rfl rfl ?_
 refine kp [0, 1, 2] rfl ?_
 refine Run.seq ?_
 refine sr ?_
 refine sx 3 ?_
 refine kp [0, 1, 2, 11] rfl ?_
 first | refine Run.if rfl (fun h1 => ?_) (fun h1 => ?_) | refine Run.cond rfl (fun h1 => ?_) (fun h1 => ?_)
 refine sr ?_
 refine sx 2 ?_
 refine kp [6] rfl ?_
 refine Run.ret ?_
 exact ret_one (.tmp rfl .nil) (by first | (simp [tup, partN, *]; done) | (exfalso; omega)) .nil
 refine Run.skip ?_
 refine sr ?_
 refine sx 3 ?_
 refine RunL.call C111 rfl rfl rfl (ac111 _ _ _ _ (by omega) (by omega) (by omega)) .nil ?_
 refine sx 5 ?_
 refine kp [7] rfl ?_
 refine sr ?_
 refine sx 2 ?_
 refine kp [6] rfl ?_
 refine Run.ret ?_
 exact ret_one (.tmp rfl .nil) (by first | (simp [tup, partN, *]; done) | (exfalso; omega)) .nil
-- lots.open
theorem ac49 (s : Sk) (la : Option Addr) (lc : Nat) (pa : Option Addr) (pc : Nat) (RL RP : HP) (hn : s.layers.length ≤ 1000000 ∧ s.past.length ≤ 1000000) (hRL : RdS RL la (s.layers.flatMap Ly.c)) (hRP : RdS RP pa (s.past.flatMap Pa.c)) : AC Tryz.prog 106 ⟨[.agg ⟨s.c la lc pa pc⟩]⟩ (stars [RL, RP]) (Outs (fun _ : Nat × Nat × Nat => True) (fun x => .pointer (some ⟨x.1, 0, none⟩)) (fun x => [pt x.1 (blk (SC s (some ⟨x.2.1, 0, none⟩) s.layers.length s.layers.length (some ⟨x.2.2, 0, none⟩) s.past.length s.past.length) 162), own 96 4 (some ⟨x.2.1, 0, none⟩) s.layers.length s.layers.length ((s.layers).flatMap Ly.c), own 98 7 (some ⟨x.2.2, 0, none⟩) s.past.length s.past.length ((s.past).flatMap Pa.c), RL, RP])) := by
 have hnl := hn.1; have hnp := hn.2
 refine AC.go Tryz.func106 rfl (Nat.le_of_ble_eq_true rfl) fun β => ?_
 refine sr ?_
 refine RunL.op rfl rfl (OpJ.boxA rfl fun b1 => ?_)
 refine asg rfl rfl ?_
 refine kp [1] rfl ?_
 refine sr ?_
 refine sx 2 ?_
 refine RunL.op rfl rfl (OpJ.boxA rfl fun b6 => ?_)
 refine asg rfl rfl ?_
 refine kp [1, 3] rfl ?_
 refine Run.seq ?_
 refine regionD HM ?_
 refine RunD.mono (K' := fun E' L' => ∃ b12 : Nat, ∃ b16 : Nat, E' = [(1, .pointer (some ⟨b1, 0, none⟩)), (3, .pointer (some ⟨b6, 0, none⟩))] ∧ L' = [pt b12 (blk (List.replicate s.layers.length [I 0, St ⟨#[]⟩, I 0, I 0]).flatten 96), pt b16 (blk (List.replicate s.past.length [I 0, I 0, St ⟨#[]⟩, I 0, I 0, I 0, I 0]).flatten 98), pt b1 (blk (s.c la lc pa pc) 61), pt b6 (blk (SC s (some ⟨b12, 0, none⟩) s.layers.length s.layers.length (some ⟨b16, 0, none⟩) s.past.length s.past.length) 162), RL, RP]) ?_ ?_
 refine tk 0 rfl rfl rfl (DetJ.move rfl) ?_
 refine tk 1 rfl rfl rfl (DetJ.move rfl) ?_
 refine tk 2 rfl rfl rfl (DetJ.fieldAddr F28_3 rfl) ?_
 first | refine RunD.takeF 3 rfl rfl kr T25 rfl pk (by rfl) ?_ | refine RunD.takeO 3 rfl rfl kr T25 rfl pk (by assumption) (by rfl) (by exact fun _ => rfl) ?_
 refine tk 4 rfl rfl rfl (DetJ.len S25 rfl) ?_
 refine tk 6 rfl rfl rfl (DetJ.fieldAddr F28_4 rfl) ?_
 first | refine RunD.takeF 7 rfl rfl kr T26 rfl pk (by rfl) ?_ | refine RunD.takeO 7 rfl rfl kr T26 rfl pk (by assumption) (by rfl) (by exact fun _ => rfl) ?_
 refine tk 8 rfl rfl rfl (DetJ.len S26 rfl) ?_
 refine RunD.two 5 9 [true, true, true, false, false, false, true, true] [false, false, false, true, true, true, true, true] rfl rfl rfl rfl rfl rfl kr kr kr (OpJ.make S25 M64 rfl rfl (by omega) (by omega) fun b12 => ⟨po, ?_⟩) (OpJ.make S26 M66 rfl rfl (by omega) (by omega) fun b16 => ⟨po, ?_⟩)
 refine tk 10 rfl rfl rfl (DetJ.nilCheck rfl) ?_
 refine tk 11 rfl rfl rfl (DetJ.fieldAddr F92_0 rfl) ?_
 refine tk 12 rfl rfl rfl (DetJ.fieldAddr F28_3 rfl) ?_
 refine RunD.two 9 13 [true, true, true, false, false, false, true, true] [false, false, false, true, true, true, true, false] rfl rfl rfl rfl rfl rfl kr kr kr (OpJ.make S26 M66 rfl rfl (by omega) (by omega) fun b16 => ⟨po, ?_⟩) (OpJ.store1 T25 rfl rfl rfl up (by simp) ⟨po, ?_⟩)
 refine RunD.op 13 [false, false, false, true, false] rfl rfl rfl kr kr (OpJ.store1 T25 rfl rfl rfl up (by simp) ⟨po, ?_⟩)
 refine tk 14 rfl rfl rfl (DetJ.nilCheck rfl) ?_
 refine tk 15 rfl rfl rfl (DetJ.fieldAddr F92_0 rfl) ?_
 refine tk 16 rfl rfl rfl (DetJ.fieldAddr F28_4 rfl) ?_
 refine RunD.op 17 [false, false, false, false] rfl rfl rfl kr kr (OpJ.store1 T26 rfl rfl rfl up (by simp) ⟨po, ?_⟩)
 exact RunD.weak (E' := [(1, .pointer (some ⟨b1, 0, none⟩)), (3, .pointer (some ⟨b6, 0, none⟩))]) (L' := [pt b12 (blk (List.replicate s.layers.length [I 0, St ⟨#[]⟩, I 0, I 0]).flatten 96), pt b16 (blk (List.replicate s.past.length [I 0, I 0, St ⟨#[]⟩, I 0, I 0, I 0, I 0]).flatten 98), pt b1 (blk (s.c la lc pa pc) 61), pt b6 (blk (SC s (some ⟨b12, 0, none⟩) s.layers.length s.layers.length (some ⟨b16, 0, none⟩) s.past.length s.past.length) 162), RL, RP]) (Keep.sub (kt (ks := [1, 3]) rfl)) gv (RunD.done kr ⟨_, _, rfl, rfl⟩)
 refine RunD.op 9 [false, false, false, true] rfl rfl rfl kr kr (OpJ.make S26 M66 rfl rfl (by omega) (by omega) fun b16 => ⟨po, ?_⟩)
 refine tk 14 rfl rfl rfl (DetJ.nilCheck rfl) ?_
 refine tk 15 rfl rfl rfl (DetJ.fieldAddr F92_0 rfl) ?_
 refine tk 16 rfl rfl rfl (DetJ.fieldAddr F28_4 rfl) ?_
 refine RunD.op 17 [false, false, false, false] rfl rfl rfl kr kr (OpJ.store1 T26 rfl rfl rfl up (by simp) ⟨po, ?_⟩)
 exact RunD.weak (E' := [(1, .pointer (some ⟨b1, 0, none⟩)), (3, .pointer (some ⟨b6, 0, none⟩))]) (L' := [pt b12 (blk (List.replicate s.layers.length [I 0, St ⟨#[]⟩, I 0, I 0]).flatten 96), pt b16 (blk (List.replicate s.past.length [I 0, I 0, St ⟨#[]⟩, I 0, I 0, I 0, I 0]).flatten 98), pt b1 (blk (s.c la lc pa pc) 61), pt b6 (blk (SC s (some ⟨b12, 0, none⟩) s.layers.length s.layers.length (some ⟨b16, 0, none⟩) s.past.length s.past.length) 162), RL, RP]) (Keep.sub (kt (ks := [1, 3]) rfl)) gv (RunD.done kr ⟨_, _, rfl, rfl⟩)
 refine RunD.op 5 [false, false, false, true, true] rfl rfl rfl kr kr (OpJ.make S25 M64 rfl rfl (by omega) (by omega) fun b12 => ⟨po, ?_⟩)
 refine tk 10 rfl rfl rfl (DetJ.nilCheck rfl) ?_
 refine tk 11 rfl rfl rfl (DetJ.fieldAddr F92_0 rfl) ?_
 refine tk 12 rfl rfl rfl (DetJ.fieldAddr F28_3 rfl) ?_
 refine RunD.op 13 [false, false, false, true, false] rfl rfl rfl kr kr (OpJ.store1 T25 rfl rfl rfl up (by simp) ⟨po, ?_⟩)
 refine tk 14 rfl rfl rfl (DetJ.nilCheck rfl) ?_
 refine tk 15 rfl rfl rfl (DetJ.fieldAddr F92_0 rfl) ?_
 refine tk 16 rfl rfl rfl (DetJ.fieldAddr F28_4 rfl) ?_
 refine RunD.op 17 [false, false, false, false] rfl rfl rfl kr kr (OpJ.store1 T26 rfl rfl rfl up (by simp) ⟨po, ?_⟩)
 exact RunD.weak (E' := [(1, .pointer (some ⟨b1, 0, none⟩)), (3, .pointer (some ⟨b6, 0, none⟩))]) (L' := [pt b12 (blk (List.replicate s.layers.length [I 0, St ⟨#[]⟩, I 0, I 0]).flatten 96), pt b16 (blk (List.replicate s.past.length [I 0, I 0, St ⟨#[]⟩, I 0, I 0, I 0, I 0]).flatten 98), pt b1 (blk (s.c la lc pa pc) 61), pt b6 (blk (SC s (some ⟨b12, 0, none⟩) s.layers.length s.layers.length (some ⟨b16, 0, none⟩) s.past.length s.past.length) 162), RL, RP]) (Keep.sub (kt (ks := [1, 3]) rfl)) gv (RunD.done kr ⟨_, _, rfl, rfl⟩)
 rintro _ _ ⟨b12, b16, rfl, rfl⟩
 refine Run.seq ?_
 refine regionD HM ?_
 refine tk 0 rfl rfl rfl (DetJ.move rfl) ?_
 refine tk 1 rfl rfl rfl (DetJ.nilCheck rfl) ?_
 refine tk 2 rfl rfl rfl (DetJ.fieldAddr F92_0 rfl) ?_
 refine tk 3 rfl rfl rfl (DetJ.fieldAddr F28_3 rfl) ?_
 first | refine RunD.takeF 4 rfl rfl kr T25 rfl pk (by rfl) ?_ | refine RunD.takeO 4 rfl rfl kr T25 rfl pk (by assumption) (by rfl) (by exact fun _ => rfl) ?_
 refine tk 5 rfl rfl rfl (DetJ.fieldAddr F28_3 rfl) ?_
 first | refine RunD.takeF 6 rfl rfl kr T25 rfl pk (by rfl) ?_ | refine RunD.takeO 6 rfl rfl kr T25 rfl pk (by assumption) (by rfl) (by exact fun _ => rfl) ?_
 refine RunD.op 7 [false, false, false, false, false, true, true] rfl rfl rfl kr kr (OpJ.copyAll S25 rfl rfl up pk hRL (flat_len (enc := Ly.c) (k := 4) (fun _ => rfl) _) (by simp) (flat_one Ly.one _) ⟨po, ?_⟩)
 refine kd [1, 3] rfl ?_
 refine Run.seq ?_
 refine regionD HM ?_
 refine tk 0 rfl rfl rfl (DetJ.move rfl) ?_
 refine tk 1 rfl rfl rfl (DetJ.nilCheck rfl) ?_
 refine tk 2 rfl rfl rfl (DetJ.fieldAddr F92_0 rfl) ?_
 refine tk 3 rfl rfl rfl (DetJ.fieldAddr F28_4 rfl) ?_
 first | refine RunD.takeF 4 rfl rfl kr T26 rfl pk (by rfl) ?_ | refine RunD.takeO 4 rfl rfl kr T26 rfl pk (by assumption) (by rfl) (by exact fun _ => rfl) ?_
 refine tk 5 rfl rfl rfl (DetJ.fieldAddr F28_4 rfl) ?_
 first | refine RunD.takeF 6 rfl rfl kr T26 rfl pk (by rfl) ?_ | refine RunD.takeO 6 rfl rfl kr T26 rfl pk (by assumption) (by rfl) (by exact fun _ => rfl) ?_
 refine RunD.op 7 [false, false, false, false, false, true, true] rfl rfl rfl kr kr (OpJ.copyAll S26 rfl rfl up pk hRP (flat_len (enc := Pa.c) (k := 7) (fun _ => rfl) _) (by simp) (flat_one Pa.one _) ⟨po, ?_⟩)
 refine kd [3] rfl ?_
 refine sr ?_
 refine sx 2 ?_
 refine kp [2] rfl ?_
 refine Run.ret ?_
 exact ret_out (b6, b12, b16) (.tmp rfl .nil) trivial rfl gv
-- (*lots.book).past
theorem ac50 (bx : Nat) (t : Sk) (la : Option Addr) (nl lc : Nat) (pa : Option Addr) (np pc : Nat) (kind seq : Int) (enp : np = t.past.length) (hnp : t.past.length ≤ 1000000) : AC Tryz.prog 107 ⟨[.pointer (some ⟨bx, 0, none⟩), I kind, I seq]⟩ (stars [pt bx (blk (SC t la nl lc pa np pc) 162), own 98 7 pa np pc ((t.past).flatMap Pa.c)]) (Ret (.pointer (ptrOf pa 7 (findI (isPast kind seq) t.past))) [pt bx (blk (SC t la nl lc pa np pc) 162), own 98 7 pa np pc ((t.past).flatMap Pa.c)]) := by
 subst enp
 refine AC.go Tryz.func107 rfl (Nat.le_of_ble_eq_true rfl) fun β => ?_
 refine sr ?_
 refine asg rfl rfl ?_
 refine kp [0, 1, 2] rfl ?_
 refine Run.seq ?_
 refine sr ?_
 refine sx 7 ?_
 refine kp [0, 1, 2, 14, 15] rfl ?_
 refine Run.block ?_
 refine Run.loop (fun mm E L => ∃ i : Nat, mm = t.past.length - i ∧ i ≤ t.past.length ∧ (∀ j y, j < i → t.past[j]? = some y → isPast kind seq y = false) ∧ E = [(0, .pointer (some ⟨bx, 0, none⟩)), (1, I kind), (2, I seq), (14, I t.past.length), (15, I i)] ∧ L = [pt bx (blk (SC t la nl lc pa t.past.length pc) 162), own 98 7 pa t.past.length pc ((t.past).flatMap Pa.c)]) ⟨_, 0, rfl, Nat.zero_le _, fun _ _ h => by omega, rfl, rfl⟩ ?_
 rintro _ _ _ ⟨i, rfl, hi, hI0, rfl, rfl⟩
 refine sr ?_
 refine sx 1 ?_
 refine kp [0, 1, 2, 14, 15, 16] rfl ?_
 refine Run.seq ?_
 first | refine Run.if rfl (fun h1 => ?_) (fun h1 => ?_) | refine Run.cond rfl (fun h1 => ?_) (fun h1 => ?_)
 refine Run.skip ?_
 refine Run.seq ?_
 refine Run.block ?_
 refine sr ?_
 refine sx 2 ?_
 refine kp [0, 1, 2, 7, 14, 15] rfl ?_
 refine sr ?_
 obtain ⟨x, hx⟩ := get_ex (xs := t.past) (by omega)
 refine RunL.ownAddr pk (flat_ne (k := 7) (fun _ => rfl) (by decide) hx) fun b e hcap => ?_
 subst e
 refine sx 8 ?_
 refine kp [0, 1, 2, 8, 14, 15] rfl ?_
 refine sr ?_
 refine sx 7 ?_
 first | refine RunL.splitP (t := 31) rfl (fun g2 => ?_) (fun g2 => ?_) | refine RunL.split (t := 31) rfl (fun g2 => ?_) (fun g2 => ?_)
 refine sx 3 ?_
 first | refine RunL.splitP (t := 34) rfl (fun g3 => ?_) (fun g3 => ?_) | refine RunL.split (t := 34) rfl (fun g3 => ?_) (fun g3 => ?_)
 refine sx 8 ?_
 refine kp [0, 1, 2, 8, 14, 15, 42] rfl ?_
 refine Run.true rfl ?_
 refine sr ?_
 refine sx 2 ?_
 refine kp [6] rfl ?_
 refine Run.ret ?_
 exact ret_one (.tmp rfl .nil) (congrArg Value.pointer (by rw [findI_at hx (by simp [isPast, *]) hI0]; rfl)) gv
 refine sx 8 ?_
 refine kp [0, 1, 2, 8, 14, 15, 42] rfl ?_
 first | refine Run.if rfl (fun h4 => ?_) (fun h4 => ?_) | refine Run.cond rfl (fun h4 => ?_) (fun h4 => ?_)
 refine sr ?_
 refine sx 2 ?_
 refine kp [6] rfl ?_
 refine Run.ret ?_
 exact ret_one (.tmp rfl .nil) (congrArg Value.pointer (by rw [findI_at hx (by simp [isPast, *]) hI0]; rfl)) gv
 refine Run.skip ?_
 refine Run.region ?_
 refine sx 2 ?_
 exact RunL.next (Keep.sub (kt (ks := [0, 1, 2, 14, 15]) rfl)) _ ⟨_, by omega, i + 1, rfl, by omega, notYet hx (by simp [isPast, *]) hI0, rfl, rfl⟩ gv
 refine sx 11 ?_
 refine kp [0, 1, 2, 8, 14, 15, 42] rfl ?_
 refine Run.false rfl ?_
 refine Run.skip ?_
 refine Run.region ?_
 refine sx 2 ?_
 exact RunL.next (Keep.sub (kt (ks := [0, 1, 2, 14, 15]) rfl)) _ ⟨_, by omega, i + 1, rfl, by omega, notYet hx (by simp [isPast, *]) hI0, rfl, rfl⟩ gv
 refine Run.exit ?_
 refine sr ?_
 refine asg rfl rfl ?_
 refine kp [6] rfl ?_
 refine Run.ret ?_
 exact ret_one (.tmp rfl .nil) (congrArg Value.pointer (by rw [findI_none (fun j y hj => hI0 j y (by omega))]; rfl)) gv
-- (*lots.book).find
theorem ac123 (bx : Nat) (t : Sk) (la : Option Addr) (nl lc : Nat) (pa : Option Addr) (np pc : Nat) (lot : ByteArray) (enl : nl = t.layers.length) (hnl : t.layers.length ≤ 1000000) : AC Tryz.prog 172 ⟨[.pointer (some ⟨bx, 0, none⟩), St lot]⟩ (stars [pt bx (blk (SC t la nl lc pa np pc) 162), own 96 4 la nl lc ((t.layers).flatMap Ly.c)]) (Ret (.tuple ⟨[I (lotI lot t.layers : Int), Bo (lotF lot t.layers).isSome]⟩) [pt bx (blk (SC t la nl lc pa np pc) 162), own 96 4 la nl lc ((t.layers).flatMap Ly.c)]) := by
 subst enl
 refine AC.go Tryz.func172 rfl (Nat.le_of_ble_eq_true rfl) fun β => ?_
 refine sr ?_
 refine sx 2 ?_
 refine kp [0, 1, 4, 5] rfl ?_
 refine Run.scope ?_
 refine Run.seq ?_
 refine Run.label ?_
 refine Run.seq ?_
 refine sr ?_
 refine sx 7 ?_
 refine kp [1, 4, 5, 12, 13, 14] rfl ?_
 refine Run.block ?_
 refine Run.loop (fun mm E L => ∃ i : Nat, mm = t.layers.length - i ∧ i ≤ t.layers.length ∧ (∀ j y, j < i → t.layers[j]? = some y → lotB lot y = false) ∧ E = [(1, St lot), (4, I i), (5, Bo false), (12, .slice la t.layers.length lc), (13, I t.layers.length), (14, I i)] ∧ L = [pt bx (blk (SC t la t.layers.length lc pa np pc) 162), own 96 4 la t.layers.length lc ((t.layers).flatMap Ly.c)]) ⟨_, 0, rfl, Nat.zero_le _, fun _ _ h => by omega, rfl, rfl⟩ ?_
 rintro _ _ _ ⟨i, rfl, hi, hI0, rfl, rfl⟩
 refine sr ?_
 refine sx 1 ?_
 refine kp [1, 4, 5, 12, 13, 14, 15] rfl ?_
 refine Run.seq ?_
 first | refine Run.if rfl (fun h1 => ?_) (fun h1 => ?_) | refine Run.cond rfl (fun h1 => ?_) (fun h1 => ?_)
 refine Run.skip ?_
 refine Run.seq ?_
 refine Run.block ?_
 refine sr ?_
 obtain ⟨x, hx⟩ := get_ex (xs := t.layers) (i := i) (by omega)
 refine RunL.ownAddr pk (flat_ne (k := 4) (fun _ => rfl) (by decide) hx) fun b e hcap => ?_
 subst e
 refine sx 3 ?_
 refine RunL.op rfl rfl (OpJ.alloc Z64 fun b7 => ?_)
 refine sx 2 ?_
 refine kp [1, 4, 5, 6, 7, 12, 13, 14] rfl ?_
 refine Run.seq ?_
 refine Run.block ?_
 refine sr ?_
 refine sx 5 ?_
 refine kp [1, 4, 5, 6, 7, 12, 13, 14, 19] rfl ?_
 first | refine Run.if rfl (fun h2 => ?_) (fun h2 => ?_) | refine Run.cond rfl (fun h2 => ?_) (fun h2 => ?_)
 refine sr ?_
 refine sx 3 ?_
 refine kp [4, 5] rfl ?_
 refine Run.exit ?_
 refine sr ?_
 refine sx 4 ?_
 refine kp [4, 5] rfl ?_
 refine Run.ret ?_
 exact ret_one (.tmp rfl (.tmp rfl .nil)) (lot_found hx (by assumption) hI0) gv
 refine sr ?_
 refine sx 5 ?_
 refine kp [1, 4, 5, 6, 12, 13, 14, 25] rfl ?_
 first | refine Run.if rfl (fun h3 => ?_) (fun h3 => ?_) | refine Run.cond rfl (fun h3 => ?_) (fun h3 => ?_)
 refine Run.exit ?_
 refine sr ?_
 refine sx 4 ?_
 refine kp [4, 5] rfl ?_
 refine Run.ret ?_
 exact ret_one (.tmp rfl (.tmp rfl .nil)) (lot_past hx (by assumption) (by assumption) hI0) gv
 refine Run.skip ?_
 refine Run.region ?_
 refine sx 3 ?_
 refine kp [1, 4, 5, 12, 13, 14] rfl ?_
 refine Run.region ?_
 refine sx 2 ?_
 exact RunL.next (Keep.sub (kt (ks := [1, 4, 5, 12, 13, 14]) rfl)) _ ⟨_, by omega, i + 1, rfl, by omega, notYet hx (lotB_not (by assumption) (by simpa using h3)) hI0, rfl, rfl⟩ gv
 refine Run.exit ?_
 refine sr ?_
 refine sx 4 ?_
 refine kp [4, 5] rfl ?_
 refine Run.ret ?_
 exact ret_one (.tmp rfl (.tmp rfl .nil)) (lot_none (by omega) hI0) gv
end
end Go.Proofs.YtcpghpifbgpkjaaGreatDoor

namespace Go.Proofs.YtcpghpifbgpkjaaGreatDoor
open Go Go.SL Go.Proofs
section
attribute [local irreducible] OpJ RunL Run RunD DetJ pt own star Rd RdS
-- (*lots.book).qty
theorem ac124 (bx : Nat) (t : Sk) (la : Option Addr) (nl lc : Nat) (pa : Option Addr) (np pc : Nat) (lot : ByteArray) (enl : nl = t.layers.length) (hnl : t.layers.length ≤ 1000000) : AC Tryz.prog 173 ⟨[.pointer (some ⟨bx, 0, none⟩), St lot]⟩ (stars [pt bx (blk (SC t la nl lc pa np pc) 162), own 96 4 la nl lc ((t.layers).flatMap Ly.c)]) (Ret (I (qtyLot t.layers lot)) [pt bx (blk (SC t la nl lc pa np pc) 162), own 96 4 la nl lc ((t.layers).flatMap Ly.c)]) := by
 subst enl
 refine AC.go Tryz.func173 rfl (Nat.le_of_ble_eq_true rfl) fun β => ?_
 refine sr ?_
 refine asg rfl rfl ?_
 refine kp [0, 1] rfl ?_
 refine Run.seq ?_
 refine sr ?_
 refine sx 2 ?_
 refine RunL.call C123 rfl rfl rfl (ac123 bx t la _ lc pa _ pc lot rfl hnl) tks ?_
 rcases hf : lotF lot t.layers with _ | ⟨i, l⟩
 refine sx 5 ?_
 refine kp [0, 5, 6] rfl ?_
 refine sr ?_
 refine mvo rfl rfl ?_
 refine kp [0, 5, 13] rfl ?_
 refine Run.false rfl ?_
 refine Run.skip ?_
 refine sr ?_
 refine asg rfl rfl ?_
 refine kp [4] rfl ?_
 refine Run.ret ?_
 exact ret_one (.tmp rfl .nil) (congrArg I (by unfold qtyLot; rw [hf])) gv
 obtain ⟨hx, hll, hI⟩ := lotF_some hf
 have hi := (List.getElem?_eq_some_iff.1 hx).1
 rw [hI]
 refine RunL.ownAddr pk (flat_ne (k := 4) (fun _ => rfl) (by decide) hx) fun b e hcap => ?_
 subst e
 refine sx 5 ?_
 refine kp [0, 5, 6] rfl ?_
 refine sr ?_
 refine mvo rfl rfl ?_
 refine kp [0, 5, 13] rfl ?_
 refine Run.true rfl ?_
 refine sr ?_
 refine sx 8 ?_
 refine RunL.op rfl rfl (OpJ.loadO T3 rfl pk hx (by rfl) (by exact fun _ => rfl) ?_)
 refine asg rfl rfl ?_
 refine kp [4] rfl ?_
 refine Run.ret ?_
 exact ret_one (.tmp rfl .nil) (congrArg I (by unfold qtyLot; rw [hf])) gv
-- (*lots.book).take
theorem ac125 (bx : Nat) (t : Sk) (la : Option Addr) (nl lc : Nat) (pa : Option Addr) (np pc : Nat) (lot : ByteArray) (i : Nat) (l : Ly) (q : Int) (hf : lotF lot t.layers = some (i, l)) (hl : l.ok) (hq : i64 q) (enl : nl = t.layers.length) (hnl : t.layers.length ≤ 1000000) : AC Tryz.prog 174 ⟨[.pointer (some ⟨bx, 0, none⟩), St lot, I q]⟩ (stars [pt bx (blk (SC t la nl lc pa np pc) 162), own 96 4 la nl lc ((t.layers).flatMap Ly.c)]) (Ret (I (takeV l q)) [pt bx (blk (SC { t with layers := takeL t.layers i l q } la (takeL t.layers i l q).length lc pa np pc) 162), own 96 4 la (takeL t.layers i l q).length lc ((takeL t.layers i l q).flatMap Ly.c)]) := by
 subst enl
 obtain ⟨hl1, hl2⟩ := hl
 refine AC.go Tryz.func174 rfl (Nat.le_of_ble_eq_true rfl) fun β => ?_
 refine sr ?_
 refine asg rfl rfl ?_
 refine kp [0, 1, 2] rfl ?_
 refine sr ?_
 refine sx 2 ?_
 refine RunL.call C123 rfl rfl rfl (ac123 bx t la _ lc pa _ pc lot rfl hnl) tks ?_
 rw [hf]
 obtain ⟨hx, hll, hI⟩ := lotF_some hf
 have hi := (List.getElem?_eq_some_iff.1 hx).1
 rw [hI]
 refine RunL.ownAddr pk (flat_ne (k := 4) (fun _ => rfl) (by decide) hx) fun b e hcap => ?_
 subst e
 have hx1 := set_get hx { l with qty := W (l.qty - q) }
 have hx2 := set_get hx (takeX l q)
 refine sx 5 ?_
 refine kp [0, 2, 7] rfl ?_
 refine sr ?_
 refine sx 8 ?_
 refine kp [0, 2, 7, 9] rfl ?_
 refine Run.seq ?_
 refine regionD HM ?_
 refine tk 0 rfl rfl rfl (DetJ.move rfl) ?_
 refine tk 1 rfl rfl rfl (DetJ.nilCheck rfl) ?_
 refine tk 2 rfl rfl rfl (DetJ.fieldAddr F64_3 rfl) ?_
 first | refine RunD.takeF 3 rfl rfl kr T3 rfl pk (by rfl) ?_ | refine RunD.takeO 3 rfl rfl kr T3 rfl pk (by assumption) (by rfl) (by exact fun _ => rfl) ?_
 refine tk 4 rfl rfl rfl (DetJ.move rfl) ?_
 refine tk 5 rfl rfl rfl (DetJ.move rfl) ?_
 refine tk 6 rfl rfl rfl (DetJ.nilCheck rfl) ?_
 refine tk 7 rfl rfl rfl (DetJ.fieldAddr F64_2 rfl) ?_
 first | refine RunD.takeF 8 rfl rfl kr T3 rfl pk (by rfl) ?_ | refine RunD.takeO 8 rfl rfl kr T3 rfl pk (by assumption) (by rfl) (by exact fun _ => rfl) ?_
 refine RunD.op 9 [false, false, false, true, false, false, false, false, true] rfl rfl rfl kr kr (OpJ.callRet C126 rfl rfl (ac126 _ _ _ hl2 hq hl1) .nil ⟨po, ?_⟩)
 refine tk 10 rfl rfl rfl (DetJ.assign rfl) ?_
 refine kd [0, 2, 7, 9, 10] rfl ?_
 refine sr ?_
 refine sx 5 ?_
 refine RunL.op rfl rfl (OpJ.sub rfl rfl ?_)
 refine sx 2 ?_
 refine RunL.op rfl rfl (OpJ.storeO (i := i) (u' := { l with qty := W (l.qty - q) }) T3 rfl rfl rfl hx (fun _ => rfl) (by decide) rfl up ?_)
 refine kp [0, 7, 9, 10] rfl ?_
 refine sr ?_
 refine sx 3 ?_
 refine RunL.op rfl rfl (OpJ.loadO T3 rfl pk hx1 (by rfl) (by exact fun _ => rfl) ?_)
 refine mvo rfl rfl ?_
 refine RunL.op rfl rfl (OpJ.sub rfl rfl ?_)
 refine sx 2 ?_
 refine RunL.op rfl rfl (OpJ.storeO (i := i) (u' := takeX l q) T3 rfl rfl rfl hx1 (fun _ => rfl) (by decide) rfl up ?_)
 rw [List.set_set]
 refine kp [0, 7, 9, 10] rfl ?_
 refine Run.seq ?_
 refine sr ?_
 refine sx 3 ?_
 refine RunL.op rfl rfl (OpJ.loadO T3 rfl pk hx2 (by rfl) (by exact fun _ => rfl) ?_)
 refine sx 1 ?_
 refine kp [0, 7, 10, 54] rfl ?_
 first | refine Run.if rfl (fun h1 => ?_) (fun h1 => ?_) | refine Run.cond rfl (fun h1 => ?_) (fun h1 => ?_)
 refine regionD HM ?_
 refine tk 0 rfl rfl rfl (DetJ.move rfl) ?_
 refine tk 1 rfl rfl rfl (DetJ.move rfl) ?_
 refine tk 2 rfl rfl rfl (DetJ.nilCheck rfl) ?_
 refine tk 3 rfl rfl rfl (DetJ.fieldAddr F92_0 rfl) ?_
 refine tk 4 rfl rfl rfl (DetJ.fieldAddr F28_3 rfl) ?_
 first | refine RunD.takeF 5 rfl rfl kr T25 rfl pk (by rfl) ?_ | refine RunD.takeO 5 rfl rfl kr T25 rfl pk (by assumption) (by rfl) (by exact fun _ => rfl) ?_
 refine tk 6 rfl rfl rfl (DetJ.move rfl) ?_
 refine tk 7 rfl rfl rfl (DetJ.sliceHi S25 rfl rfl (by omega)) ?_
 refine tk 8 rfl rfl rfl (DetJ.move rfl) ?_
 refine tk 9 rfl rfl rfl (DetJ.nilCheck rfl) ?_
 refine tk 10 rfl rfl rfl (DetJ.fieldAddr F92_0 rfl) ?_
 refine tk 11 rfl rfl rfl (DetJ.fieldAddr F28_3 rfl) ?_
 first | refine RunD.takeF 12 rfl rfl kr T25 rfl pk (by rfl) ?_ | refine RunD.takeO 12 rfl rfl kr T25 rfl pk (by assumption) (by rfl) (by exact fun _ => rfl) ?_
 refine tk 13 rfl rfl rfl (DetJ.move rfl) ?_
 refine tk 14 rfl rfl rfl (DetJ.addI rfl rfl (by omega)) ?_
 refine tk 15 rfl rfl rfl (DetJ.sliceLo (i := i + 1) S25 rfl rfl (by omega)) ?_
 refine RunD.op 16 [false, false, false, false, false, true, true, true, false, false, false, false, true, true, true, true] rfl rfl rfl kr kr (OpJ.removeIn S25 M64 rfl rfl pk (by simp) hi (fun _ => rfl) (by decide) Ly.one ⟨po, ?_⟩)
 simp only [List.eraseIdx_set_eq]
 refine tk 17 rfl rfl rfl (DetJ.nilCheck rfl) ?_
 refine tk 18 rfl rfl rfl (DetJ.fieldAddr F92_0 rfl) ?_
 refine tk 19 rfl rfl rfl (DetJ.fieldAddr F28_3 rfl) ?_
 refine RunD.op 20 [false, false, false, false, false, false, false, false, false, false] rfl rfl rfl kr kr (OpJ.store1 T25 rfl rfl rfl up (by simp) ⟨po, ?_⟩)
 refine kd [10] rfl ?_
 refine sr ?_
 refine sx 2 ?_
 refine kp [6] rfl ?_
 refine Run.ret ?_
 refine ret_one (.tmp rfl .nil) rfl ?_; simp only [takeL, if_pos (show W (l.qty - q) = 0 from h1)]; exact gv
 refine Run.skip ?_
 refine sr ?_
 refine sx 2 ?_
 refine kp [6] rfl ?_
 refine Run.ret ?_
 refine ret_one (.tmp rfl .nil) rfl ?_; simp only [takeL, if_neg (show ¬ W (l.qty - q) = 0 from h1), List.length_set]; exact gv
-- (*lots.book).record
theorem ac122 (bx : Nat) (t : Sk) (la : Option Addr) (nl lc : Nat) (pa : Option Addr) (np pc : Nat) (m : Mv) (v : Int) (enp : np = t.past.length) (hnp : t.past.length ≤ 1000000) : AC Tryz.prog 171 ⟨[.pointer (some ⟨bx, 0, none⟩), .agg ⟨m.c⟩, I v]⟩ (stars [pt bx (blk (SC t la nl lc pa np pc) 162), own 98 7 pa np pc ((t.past).flatMap Pa.c)]) (Outs (fun _ : Option Addr × Nat => True) (fun _ => .tuple ⟨[]⟩) (fun x => [pt bx (blk (SC { t with past := t.past ++ [(⟨m.seq, m.kind, m.lot, m.qty, v, 0, 0⟩ : Pa)] } la nl lc x.1 (t.past ++ [(⟨m.seq, m.kind, m.lot, m.qty, v, 0, 0⟩ : Pa)]).length x.2) 162), own 98 7 x.1 (t.past ++ [(⟨m.seq, m.kind, m.lot, m.qty, v, 0, 0⟩ : Pa)]).length x.2 ((t.past ++ [(⟨m.seq, m.kind, m.lot, m.qty, v, 0, 0⟩ : Pa)]).flatMap Pa.c)])) := by
 subst enp
 refine AC.go Tryz.func171 rfl (Nat.le_of_ble_eq_true rfl) fun β => ?_
 refine sr ?_
 refine RunL.op rfl rfl (OpJ.boxA rfl fun b4 => ?_)
 refine kp [0, 2, 4] rfl ?_
 refine regionD HM ?_
 refine tk 0 rfl rfl rfl (DetJ.move rfl) ?_
 refine tk 1 rfl rfl rfl (DetJ.move rfl) ?_
 refine tk 2 rfl rfl rfl (DetJ.nilCheck rfl) ?_
 refine tk 3 rfl rfl rfl (DetJ.fieldAddr F92_0 rfl) ?_
 refine tk 4 rfl rfl rfl (DetJ.fieldAddr F28_4 rfl) ?_
 first | refine RunD.takeF 5 rfl rfl kr T26 rfl pk (by rfl) ?_ | refine RunD.takeO 5 rfl rfl kr T26 rfl pk (by assumption) (by rfl) (by exact fun _ => rfl) ?_
 refine tk 6 rfl rfl rfl (DetJ.fieldAddr F47_0 rfl) ?_
 first | refine RunD.takeF 7 rfl rfl kr T3 rfl pk (by rfl) ?_ | refine RunD.takeO 7 rfl rfl kr T3 rfl pk (by assumption) (by rfl) (by exact fun _ => rfl) ?_
 refine tk 8 rfl rfl rfl (DetJ.fieldAddr F47_3 rfl) ?_
 first | refine RunD.takeF 9 rfl rfl kr T3 rfl pk (by rfl) ?_ | refine RunD.takeO 9 rfl rfl kr T3 rfl pk (by assumption) (by rfl) (by exact fun _ => rfl) ?_
 refine tk 10 rfl rfl rfl (DetJ.fieldAddr F47_6 rfl) ?_
 first | refine RunD.takeF 11 rfl rfl kr T9 rfl pk (by rfl) ?_ | refine RunD.takeO 11 rfl rfl kr T9 rfl pk (by assumption) (by rfl) (by exact fun _ => rfl) ?_
 refine tk 12 rfl rfl rfl (DetJ.fieldAddr F47_4 rfl) ?_
 first | refine RunD.takeF 13 rfl rfl kr T3 rfl pk (by rfl) ?_ | refine RunD.takeO 13 rfl rfl kr T3 rfl pk (by assumption) (by rfl) (by exact fun _ => rfl) ?_
 refine tk 14 rfl rfl rfl (DetJ.move rfl) ?_
 refine RunD.takeB 15 rfl rfl kr B66 rfl rfl fun cs hcs => ?_
 simp only [Sk.c, Mv.c, Co.c, bldL, bldA, Value.cells, bs, Nat.reduceAdd, Nat.reduceLeDiff, Nat.reduceLT] at hcs; subst hcs
 refine RunD.op 16 [false, false, false, false, false, false, false, false, false, false, true, true, true, true, true, true] rfl rfl rfl kr kr (OpJ.buildSlice1 S26 rfl rfl rfl (by decide) (by decide) Z66 rfl fun b22 => ⟨po, ?_⟩)
 refine RunD.op 17 [false, false, false, true, true, true] rfl rfl rfl kr kr (OpJ.append1 (⟨m.seq, m.kind, m.lot, m.qty, v, 0, 0⟩ : Pa) S26 M66 rfl rfl pk pk rfl rfl (by simp [Value.oneCell', Pa.c, Ly.c, Mv.c, Co.c]) rfl (by omega) (by omega) fun a23 c23 => ⟨po, ?_⟩)
 refine tk 18 rfl rfl rfl (DetJ.nilCheck rfl) ?_
 refine tk 19 rfl rfl rfl (DetJ.fieldAddr F92_0 rfl) ?_
 refine tk 20 rfl rfl rfl (DetJ.fieldAddr F28_4 rfl) ?_
 refine RunD.op 21 [false, false, false, false, false, false] rfl rfl rfl kr kr (OpJ.store1 T26 rfl rfl rfl up (by simp) ⟨po, ?_⟩)
 refine kd [] rfl ?_
 exact ret_out (a23, c23) .nil trivial rfl gv
-- (*lots.book).add
theorem ac121 (bx : Nat) (t : Sk) (la : Option Addr) (nl lc : Nat) (pa : Option Addr) (np pc : Nat) (lot : ByteArray) (q v : Int) (enl : nl = t.layers.length) (hnl : t.layers.length ≤ 1000000) : AC Tryz.prog 170 ⟨[.pointer (some ⟨bx, 0, none⟩), St lot, I q, I v]⟩ (stars [pt bx (blk (SC t la nl lc pa np pc) 162), own 96 4 la nl lc ((t.layers).flatMap Ly.c)]) (Outs (fun _ : Option Addr × Nat => True) (fun _ => .tuple ⟨[]⟩) (fun x => [pt bx (blk (SC { t with layers := addLot t.layers lot q v } x.1 (addLot t.layers lot q v).length x.2 pa np pc) 162), own 96 4 x.1 (addLot t.layers lot q v).length x.2 ((addLot t.layers lot q v).flatMap Ly.c)])) := by
 subst enl
 have hle := @lotI_le lot t.layers
 have hla : (t.layers ++ [(⟨0, ⟨#[]⟩, 0, 0⟩ : Ly)]).length = t.layers.length + 1 := by simp
 refine AC.go Tryz.func170 rfl (Nat.le_of_ble_eq_true rfl) fun β => ?_
 refine sr ?_
 refine sx 2 ?_
 refine RunL.call C123 rfl rfl rfl (ac123 bx t la _ lc pa _ pc lot rfl hnl) tks ?_
 rcases hf : lotF lot t.layers with _ | ⟨i, l⟩
 refine sx 5 ?_
 refine kp [0, 1, 2, 3, 8, 9] rfl ?_
 refine Run.seq ?_
 refine sr ?_
 refine sx 2 ?_
 refine kp [0, 1, 2, 3, 8, 17] rfl ?_
 refine Run.true rfl ?_
 refine sr ?_
 refine sx 7 ?_
 refine RunL.op rfl rfl (OpJ.buildSlice1 S25 rfl rfl rfl (by decide) (by decide) Z64 rfl fun b25 => ?_)
 refine RunL.op rfl rfl (OpJ.append1 (⟨0, ⟨#[]⟩, 0, 0⟩ : Ly) S25 M64 rfl rfl pk pk rfl rfl (by simp [Value.oneCell', Pa.c, Ly.c, Mv.c, Co.c]) rfl (by omega) (by omega) fun a26 c26 => ?_)
 have hxn : (t.layers ++ [(⟨0, ⟨#[]⟩, 0, 0⟩ : Ly)])[t.layers.length]? = some (⟨0, ⟨#[]⟩, 0, 0⟩ : Ly) := by simp
 refine RunL.ownAddr pk (flat_ne (k := 4) (fun _ => rfl) (by decide) hxn) fun b e hcap => ?_
 subst e
 refine sx 4 ?_
 refine kp [0, 1, 2, 3, 8] rfl ?_
 refine Run.seq ?_
 refine regionD HM ?_
 refine tk 0 rfl rfl rfl (DetJ.move rfl) ?_
 refine tk 1 rfl rfl rfl (DetJ.nilCheck rfl) ?_
 refine tk 2 rfl rfl rfl (DetJ.fieldAddr F92_0 rfl) ?_
 refine tk 3 rfl rfl rfl (DetJ.fieldAddr F28_3 rfl) ?_
 first | refine RunD.takeF 4 rfl rfl kr T25 rfl pk (by rfl) ?_ | refine RunD.takeO 4 rfl rfl kr T25 rfl pk (by assumption) (by rfl) (by exact fun _ => rfl) ?_
 refine tk 5 rfl rfl rfl (DetJ.move rfl) ?_
 refine tk 6 rfl rfl rfl (DetJ.addI rfl rfl (by omega)) ?_
 refine tk 7 rfl rfl rfl (DetJ.sliceLo (i := lotI lot t.layers + 1) S25 rfl rfl (by omega)) ?_
 refine tk 8 rfl rfl rfl (DetJ.move rfl) ?_
 refine tk 9 rfl rfl rfl (DetJ.nilCheck rfl) ?_
 refine tk 10 rfl rfl rfl (DetJ.fieldAddr F92_0 rfl) ?_
 refine tk 11 rfl rfl rfl (DetJ.fieldAddr F28_3 rfl) ?_
 first | refine RunD.takeF 12 rfl rfl kr T25 rfl pk (by rfl) ?_ | refine RunD.takeO 12 rfl rfl kr T25 rfl pk (by assumption) (by rfl) (by exact fun _ => rfl) ?_
 refine tk 13 rfl rfl rfl (DetJ.move rfl) ?_
 refine tk 14 rfl rfl rfl (DetJ.sliceLo (i := lotI lot t.layers) S25 rfl rfl (by omega)) ?_
 refine RunD.op 15 [false, false, false, false, true, true, true, false, false, false, false, false, true, true, true] rfl rfl rfl kr kr (OpJ.copyUp (i := lotI lot t.layers) S25 rfl rfl up rfl (by omega) (fun _ => rfl) (by decide) Ly.one ⟨po, ?_⟩)
 refine kd [0, 1, 2, 3, 8] rfl ?_
 refine Run.region ?_
 refine sx 9 ?_
 refine RunL.op rfl rfl (OpJ.storeE (i := lotI lot t.layers) (u' := newLy lot) T64 rfl rfl (Ly.one _) (ins_lt (z := (⟨0, ⟨#[]⟩, 0, 0⟩ : Ly)) hle) (fun _ => rfl) (by decide) up ?_)
 rw [ins_eq hle]
 refine kp [0, 2, 3, 8] rfl ?_
 refine sr ?_
 have hx0 : (insL t.layers (lotI lot t.layers) (newLy lot))[lotI lot t.layers]? = some (newLy lot) := insL_get hle
 have hx10 : (insL t.layers (lotI lot t.layers) { newLy lot with qty := W ((newLy lot).qty + q) })[lotI lot t.layers]? = some { newLy lot with qty := W ((newLy lot).qty + q) } := insL_get hle
 refine sx 8 ?_
 refine RunL.op rfl rfl (OpJ.loadO T3 rfl pk hx0 (by rfl) (by exact fun _ => rfl) ?_)
 refine mvo rfl rfl ?_
 refine RunL.op rfl rfl (OpJ.add rfl rfl ?_)
 refine sx 2 ?_
 refine RunL.op rfl rfl (OpJ.storeO (i := lotI lot t.layers) (u' := { newLy lot with qty := W ((newLy lot).qty + q) }) T3 rfl rfl rfl hx0 (fun _ => rfl) (by decide) rfl up ?_)
 first | rw [insL_set hle] | skip
 refine kp [0, 3, 8] rfl ?_
 refine Run.region ?_
 refine sx 8 ?_
 refine RunL.op rfl rfl (OpJ.loadO T3 rfl pk hx10 (by rfl) (by exact fun _ => rfl) ?_)
 refine mvo rfl rfl ?_
 refine RunL.op rfl rfl (OpJ.add rfl rfl ?_)
 refine sx 2 ?_
 refine RunL.op rfl rfl (OpJ.storeO (i := lotI lot t.layers) (u' := bump (newLy lot) q v) T3 rfl rfl rfl hx10 (fun _ => rfl) (by decide) rfl up ?_)
 first | rw [insL_set hle] | rw [List.set_set]
 refine kp [] rfl ?_
 have hadd : addLot t.layers lot q v = insL t.layers (lotI lot t.layers) (bump (newLy lot) q v) := (by unfold addLot; rw [hf]); refine ret_out (some ⟨b, 0, none⟩, c26) .nil trivial rfl ?_; rw [hadd, insL_len hle, ← hla]; exact gv
 obtain ⟨hx, hll, hI⟩ := lotF_some hf
 have hi := (List.getElem?_eq_some_iff.1 hx).1
 rw [hI]
 refine RunL.ownAddr pk (flat_ne (k := 4) (fun _ => rfl) (by decide) hx) fun b e hcap => ?_
 subst e
 have hx1 := set_get hx { l with qty := W (l.qty + q) }
 refine sx 5 ?_
 refine kp [0, 1, 2, 3, 8, 9] rfl ?_
 refine Run.seq ?_
 refine sr ?_
 refine sx 2 ?_
 refine kp [0, 1, 2, 3, 8, 17] rfl ?_
 refine Run.false rfl ?_
 refine Run.skip ?_
 refine sr ?_
 have hx0 : (insL t.layers (lotI lot t.layers) (newLy lot))[lotI lot t.layers]? = some (newLy lot) := insL_get hle
 have hx10 : (insL t.layers (lotI lot t.layers) { newLy lot with qty := W ((newLy lot).qty + q) })[lotI lot t.layers]? = some { newLy lot with qty := W ((newLy lot).qty + q) } := insL_get hle
 refine sx 8 ?_
 refine RunL.op rfl rfl (OpJ.loadO T3 rfl pk hx (by rfl) (by exact fun _ => rfl) ?_)
 refine mvo rfl rfl ?_
 refine RunL.op rfl rfl (OpJ.add rfl rfl ?_)
 refine sx 2 ?_
 refine RunL.op rfl rfl (OpJ.storeO (i := i) (u' := { l with qty := W (l.qty + q) }) T3 rfl rfl rfl hx (fun _ => rfl) (by decide) rfl up ?_)
 first | rw [insL_set hle] | skip
 refine kp [0, 3, 8] rfl ?_
 refine Run.region ?_
 refine sx 8 ?_
 refine RunL.op rfl rfl (OpJ.loadO T3 rfl pk hx1 (by rfl) (by exact fun _ => rfl) ?_)
 refine mvo rfl rfl ?_
 refine RunL.op rfl rfl (OpJ.add rfl rfl ?_)
 refine sx 2 ?_
 refine RunL.op rfl rfl (OpJ.storeO (i := i) (u' := bump l q v) T3 rfl rfl rfl hx1 (fun _ => rfl) (by decide) rfl up ?_)
 first | rw [insL_set hle] | rw [List.set_set]
 refine kp [] rfl ?_
 have hadd : addLot t.layers lot q v = t.layers.set i (bump l q v) := (by unfold addLot; rw [hf]); refine ret_out (some ⟨b, 0, none⟩, lc) .nil trivial rfl ?_; rw [hadd, List.length_set]; exact gv
end
end Go.Proofs.YtcpghpifbgpkjaaGreatDoor

namespace Go.Proofs.YtcpghpifbgpkjaaGreatDoor
open Go Go.SL Go.Proofs
section
attribute [local irreducible] OpJ RunL Run RunD DetJ pt own star Rd RdS
-- (*lots.book).receive
theorem ac85 (bx : Nat) (t : Sk) (la : Option Addr) (nl lc : Nat) (pa : Option Addr) (np pc : Nat) (m : Mv) (enl : nl = t.layers.length) (enp : np = t.past.length) (ht : t.ok 999999) (hm : m.ok) : AC Tryz.prog 139 ⟨[.pointer (some ⟨bx, 0, none⟩), .agg ⟨m.c⟩]⟩ (stars [pt bx (blk (SC t la nl lc pa np pc) 162), own 96 4 la nl lc ((t.layers).flatMap Ly.c), own 98 7 pa np pc ((t.past).flatMap Pa.c)]) (Outs (fun _ : Option Addr × Nat × Option Addr × Nat => True) (fun _ => AvV (lRecv t m)) (fun x => LvB 162 96 98 bx (lRecv t m) x)) := by
 subst enl enp
 have hn : t.layers.length ≤ 1000000 ∧ t.past.length ≤ 1000000 := ⟨Nat.le_trans ht.nl (by decide), Nat.le_trans ht.np (by decide)⟩
 have hnl := hn.1; have hnp := hn.2; have hnl9 := ht.nl; have hnp9 := ht.np
 obtain ⟨hm1, hm2⟩ := hm
 refine AC.go Tryz.func139 rfl (Nat.le_of_ble_eq_true rfl) fun β => ?_
 refine sr ?_
 refine RunL.op rfl rfl (OpJ.boxA rfl fun b3 => ?_)
 refine RunL.op rfl rfl (OpJ.alloc Z43 fun b4 => ?_)
 refine asg rfl rfl ?_
 refine kp [0, 3, 4] rfl ?_
 refine Run.seq ?_
 refine sr ?_
 refine sx 3 ?_
 refine kp [0, 3, 4, 8] rfl ?_
 first | refine Run.if rfl (fun h1 => ?_) (fun h1 => ?_) | refine Run.cond rfl (fun h1 => ?_) (fun h1 => ?_)
 refine sr ?_
 refine sx 3 ?_
 refine kp [4, 5] rfl ?_
 refine Run.ret ?_
 have hres : lRecv t m = .error 22 := (by unfold lRecv; rw [if_pos h1]); refine ret_out (none, 0, none, 0) (.cellA T43 rfl pk (by rfl) (.tmp rfl .nil)) trivial (by rw [hres]; rfl) ?_; rw [hres]; exact gv
 refine Run.skip ?_
 refine sr ?_
 refine sx 7 ?_
 refine RunL.callX C121 rfl rfl rfl (ac121 bx t la _ lc pa _ pc m.lot m.qty m.cost rfl hnl) tks fun ⟨la2, lc2⟩ _ => ?_
 refine kp [0, 3, 4] rfl ?_
 refine sr ?_
 refine sx 4 ?_
 refine RunL.callX C122 rfl rfl rfl (ac122 bx { t with layers := addLot t.layers m.lot m.qty m.cost } la2 _ lc2 pa _ pc m m.cost rfl hnp) tks fun ⟨pa2, pc2⟩ _ => ?_
 refine kp [3, 4] rfl ?_
 refine sr ?_
 refine sx 7 ?_
 refine kp [4, 5] rfl ?_
 refine Run.ret ?_
 have hres : lRecv t m = .ok _ := (by unfold lRecv; rw [if_neg h1]); refine ret_out (la2, lc2, pa2, pc2) (.cellA T43 rfl pk (by rfl) (.tmp rfl .nil)) trivial (by rw [hres]; rfl) ?_; rw [hres]; exact gv
-- (*lots.book).issue
theorem ac86 (bx : Nat) (t : Sk) (la : Option Addr) (nl lc : Nat) (pa : Option Addr) (np pc : Nat) (m : Mv) (enl : nl = t.layers.length) (enp : np = t.past.length) (ht : t.ok 999999) (hm : m.ok) : AC Tryz.prog 140 ⟨[.pointer (some ⟨bx, 0, none⟩), .agg ⟨m.c⟩]⟩ (stars [pt bx (blk (SC t la nl lc pa np pc) 162), own 96 4 la nl lc ((t.layers).flatMap Ly.c), own 98 7 pa np pc ((t.past).flatMap Pa.c)]) (Outs (fun _ : Option Addr × Nat × Option Addr × Nat => True) (fun _ => AvV (lIssue t m)) (fun x => LvB 162 96 98 bx (lIssue t m) x)) := by
 subst enl enp
 have hn : t.layers.length ≤ 1000000 ∧ t.past.length ≤ 1000000 := ⟨Nat.le_trans ht.nl (by decide), Nat.le_trans ht.np (by decide)⟩
 have hnl := hn.1; have hnp := hn.2; have hnl9 := ht.nl; have hnp9 := ht.np
 obtain ⟨hm1, hm2⟩ := hm
 refine AC.go Tryz.func140 rfl (Nat.le_of_ble_eq_true rfl) fun β => ?_
 refine sr ?_
 refine RunL.op rfl rfl (OpJ.boxA rfl fun b3 => ?_)
 refine RunL.op rfl rfl (OpJ.alloc Z43 fun b4 => ?_)
 refine asg rfl rfl ?_
 refine kp [0, 3, 4] rfl ?_
 refine Run.seq ?_
 refine sr ?_
 refine sx 3 ?_
 refine RunL.call C123 rfl rfl rfl (ac123 bx t la _ lc pa _ pc m.lot rfl hnl) tks ?_
 rcases hf : lotF m.lot t.layers with _ | ⟨j, l⟩
 refine sx 5 ?_
 refine kp [0, 3, 4, 7] rfl ?_
 refine Run.block ?_
 refine sr ?_
 refine sx 8 ?_
 refine kp [0, 3, 4, 16] rfl ?_
 refine Run.true rfl ?_
 refine sr ?_
 refine sx 3 ?_
 refine kp [4, 5] rfl ?_
 refine Run.ret ?_
 have hres : lIssue t m = .error 22 := (by unfold lIssue; rw [hf]); refine ret_out (none, 0, none, 0) (.cellA T43 rfl pk (by rfl) (.tmp rfl .nil)) trivial (by rw [hres]; rfl) ?_; rw [hres]; exact gv
 obtain ⟨hy, hll, hI⟩ := lotF_some hf
 have hj := (List.getElem?_eq_some_iff.1 hy).1
 have hly := ht.ly j l hy
 have hql : qtyLot t.layers m.lot = l.qty := (by unfold qtyLot; rw [hf])
 refine sx 5 ?_
 refine kp [0, 3, 4, 7] rfl ?_
 refine Run.block ?_
 refine sr ?_
 refine sx 8 ?_
 refine kp [0, 3, 4, 16] rfl ?_
 first | refine Run.if rfl (fun h1 => ?_) (fun h1 => ?_) | refine Run.cond rfl (fun h1 => ?_) (fun h1 => ?_)
 refine sr ?_
 refine sx 3 ?_
 refine kp [4, 5] rfl ?_
 refine Run.ret ?_
 have hres : lIssue t m = .error 22 := (by unfold lIssue; rw [hf]; simp only; rw [if_pos (by assumption)]); refine ret_out (none, 0, none, 0) (.cellA T43 rfl pk (by rfl) (.tmp rfl .nil)) trivial (by rw [hres]; rfl) ?_; rw [hres]; exact gv
 refine Run.seq ?_
 refine regionD HM ?_
 refine tk 0 rfl rfl rfl (DetJ.move rfl) ?_
 refine tk 1 rfl rfl rfl (DetJ.fieldAddr F47_6 rfl) ?_
 first | refine RunD.takeF 2 rfl rfl kr T9 rfl pk (by rfl) ?_ | refine RunD.takeO 2 rfl rfl kr T9 rfl pk (by assumption) (by rfl) (by exact fun _ => rfl) ?_
 refine tk 4 rfl rfl rfl (DetJ.fieldAddr F47_4 rfl) ?_
 first | refine RunD.takeF 5 rfl rfl kr T3 rfl pk (by rfl) ?_ | refine RunD.takeO 5 rfl rfl kr T3 rfl pk (by assumption) (by rfl) (by exact fun _ => rfl) ?_
 refine RunD.op 3 [true, true, false, false, false] rfl rfl rfl kr kr (OpJ.callRet C124 rfl rfl (ac124 bx t la _ lc pa _ pc m.lot rfl hnl) tks ⟨po, ?_⟩)
 refine tk 6 rfl rfl rfl (DetJ.lss rfl rfl) ?_
 refine tk 7 rfl rfl rfl (DetJ.assign rfl) ?_
 refine kd [0, 3, 4, 25] rfl ?_
 first | refine Run.if rfl (fun h2 => ?_) (fun h2 => ?_) | refine Run.cond rfl (fun h2 => ?_) (fun h2 => ?_)
 refine sr ?_
 refine sx 3 ?_
 refine kp [4, 5] rfl ?_
 refine Run.ret ?_
 have hres : lIssue t m = .error 21 := (by unfold lIssue; rw [hf]; simp only; rw [if_neg (by assumption), if_pos (by rw [← hql]; assumption)]); refine ret_out (none, 0, none, 0) (.cellA T43 rfl pk (by rfl) (.tmp rfl .nil)) trivial (by rw [hres]; rfl) ?_; rw [hres]; exact gv
 refine Run.skip ?_
 refine sr ?_
 refine sx 5 ?_
 refine RunL.call C125 rfl rfl rfl (ac125 bx t la _ lc pa _ pc m.lot j l m.qty hf hly hm1 rfl hnl) tks ?_
 refine asg rfl rfl ?_
 refine kp [0, 3, 4, 8] rfl ?_
 refine sr ?_
 refine sx 3 ?_
 refine RunL.callX C122 rfl rfl rfl (ac122 bx { t with layers := takeL t.layers j l m.qty } la _ lc pa _ pc m (takeV l m.qty) rfl hnp) tks fun ⟨pa2, pc2⟩ _ => ?_
 refine kp [3, 4, 8] rfl ?_
 refine sr ?_
 refine sx 8 ?_
 refine kp [4, 5] rfl ?_
 refine Run.ret ?_
 have hres : lIssue t m = .ok _ := (by unfold lIssue; rw [hf]; simp only; rw [if_neg (by assumption), if_neg (by rw [← hql]; assumption)]); refine ret_out (la, lc, pa2, pc2) (.cellA T43 rfl pk (by rfl) (.tmp rfl .nil)) trivial (by rw [hres]; rfl) ?_; rw [hres]; exact gv
-- (*lots.book).back
theorem ac87 (bx : Nat) (t : Sk) (la : Option Addr) (nl lc : Nat) (bp : Nat) (np pc : Nat) (m : Mv) (i : Nat) (p : Pa) (hx : t.past[i]? = some p) (enl : nl = t.layers.length) (enp : np = t.past.length) (ht : t.ok 999999) (hm : m.ok) : AC Tryz.prog 141 ⟨[.pointer (some ⟨bx, 0, none⟩), .agg ⟨m.c⟩, .pointer (some ⟨bp, 0 + i * 7, none⟩)]⟩ (stars [pt bx (blk (SC t la nl lc (some ⟨bp, 0, none⟩) np pc) 162), own 96 4 la nl lc ((t.layers).flatMap Ly.c), own 98 7 (some ⟨bp, 0, none⟩) np pc ((t.past).flatMap Pa.c)]) (Outs (fun _ : Option Addr × Nat × Option Addr × Nat => True) (fun _ => AvV (lBackR t m i p)) (fun x => LvB 162 96 98 bx (lBackR t m i p) x)) := by
 subst enl enp
 have hn : t.layers.length ≤ 1000000 ∧ t.past.length ≤ 1000000 := ⟨Nat.le_trans ht.nl (by decide), Nat.le_trans ht.np (by decide)⟩
 have hnl := hn.1; have hnp := hn.2; have hnl9 := ht.nl; have hnp9 := ht.np
 obtain ⟨hm1, hm2⟩ := hm
 have hi := (List.getElem?_eq_some_iff.1 hx).1
 obtain ⟨hp1, hp2, hp3, hp4⟩ := ht.pa i p hx
 have hx1 := set_get hx (sendP p m)
 refine AC.go Tryz.func141 rfl (Nat.le_of_ble_eq_true rfl) fun β => ?_
 refine sr ?_
 refine RunL.op rfl rfl (OpJ.boxA rfl fun b4 => ?_)
 refine RunL.op rfl rfl (OpJ.alloc Z43 fun b6 => ?_)
 refine asg rfl rfl ?_
 refine kp [0, 2, 4, 6] rfl ?_
 refine Run.seq ?_
 refine regionD HM ?_
 refine tk 0 rfl rfl rfl (DetJ.move rfl) ?_
 refine tk 1 rfl rfl rfl (DetJ.nilCheck rfl) ?_
 refine tk 2 rfl rfl rfl (DetJ.fieldAddr F66_4 rfl) ?_
 first | refine RunD.takeF 3 rfl rfl kr T3 rfl pk (by rfl) ?_ | refine RunD.takeO 3 rfl rfl kr T3 rfl pk (by assumption) (by rfl) (by exact fun _ => rfl) ?_
 refine tk 4 rfl rfl rfl (DetJ.move rfl) ?_
 refine tk 5 rfl rfl rfl (DetJ.nilCheck rfl) ?_
 refine tk 6 rfl rfl rfl (DetJ.fieldAddr F66_6 rfl) ?_
 first | refine RunD.takeF 7 rfl rfl kr T3 rfl pk (by rfl) ?_ | refine RunD.takeO 7 rfl rfl kr T3 rfl pk (by assumption) (by rfl) (by exact fun _ => rfl) ?_
 refine tk 8 rfl rfl rfl (DetJ.sub rfl rfl) ?_
 refine tk 9 rfl rfl rfl (DetJ.fieldAddr F47_4 rfl) ?_
 first | refine RunD.takeF 10 rfl rfl kr T3 rfl pk (by rfl) ?_ | refine RunD.takeO 10 rfl rfl kr T3 rfl pk (by assumption) (by rfl) (by exact fun _ => rfl) ?_
 refine tk 11 rfl rfl rfl (DetJ.move rfl) ?_
 refine tk 12 rfl rfl rfl (DetJ.nilCheck rfl) ?_
 refine tk 13 rfl rfl rfl (DetJ.fieldAddr F66_3 rfl) ?_
 first | refine RunD.takeF 14 rfl rfl kr T3 rfl pk (by rfl) ?_ | refine RunD.takeO 14 rfl rfl kr T3 rfl pk (by assumption) (by rfl) (by exact fun _ => rfl) ?_
 refine tk 15 rfl rfl rfl (DetJ.move rfl) ?_
 refine tk 16 rfl rfl rfl (DetJ.nilCheck rfl) ?_
 refine tk 17 rfl rfl rfl (DetJ.fieldAddr F66_5 rfl) ?_
 first | refine RunD.takeF 18 rfl rfl kr T3 rfl pk (by rfl) ?_ | refine RunD.takeO 18 rfl rfl kr T3 rfl pk (by assumption) (by rfl) (by exact fun _ => rfl) ?_
 refine tk 19 rfl rfl rfl (DetJ.sub rfl rfl) ?_
 refine RunD.op 20 [false, false, false, true, true, false, false, true, true, false, false, false, false, false, true, true, false, false, true, true] rfl rfl rfl kr kr (OpJ.callRet C126 rfl rfl (ac126 _ _ _ (W_i64 _) hm1 (W_i64 _)) .nil ⟨po, ?_⟩)
 refine tk 21 rfl rfl rfl (DetJ.assign rfl) ?_
 refine kd [0, 2, 4, 6, 8] rfl ?_
 refine Run.seq ?_
 refine regionD HM ?_
 refine tk 0 rfl rfl rfl (DetJ.move rfl) ?_
 refine tk 1 rfl rfl rfl (DetJ.nilCheck rfl) ?_
 refine tk 2 rfl rfl rfl (DetJ.fieldAddr F66_5 rfl) ?_
 first | refine RunD.takeF 3 rfl rfl kr T3 rfl pk (by rfl) ?_ | refine RunD.takeO 3 rfl rfl kr T3 rfl pk (by assumption) (by rfl) (by exact fun _ => rfl) ?_
 refine tk 4 rfl rfl rfl (DetJ.fieldAddr F47_4 rfl) ?_
 first | refine RunD.takeF 5 rfl rfl kr T3 rfl pk (by rfl) ?_ | refine RunD.takeO 5 rfl rfl kr T3 rfl pk (by assumption) (by rfl) (by exact fun _ => rfl) ?_
 refine tk 6 rfl rfl rfl (DetJ.add rfl rfl) ?_
 refine tk 7 rfl rfl rfl (DetJ.nilCheck rfl) ?_
 refine tk 8 rfl rfl rfl (DetJ.fieldAddr F66_5 rfl) ?_
 refine RunD.op 9 [false, false, false, false, false, false, false, false, false] rfl rfl rfl kr kr (OpJ.storeO (i := i) (u' := sendP p m) T3 rfl rfl rfl hx (fun _ => rfl) (by decide) rfl up ⟨po, ?_⟩)
 refine kd [0, 2, 4, 6, 8] rfl ?_
 refine sr ?_
 refine sx 3 ?_
 refine RunL.op rfl rfl (OpJ.loadO T3 rfl pk hx1 (by rfl) (by exact fun _ => rfl) ?_)
 refine mvo rfl rfl ?_
 refine RunL.op rfl rfl (OpJ.add rfl rfl ?_)
 refine sx 2 ?_
 refine RunL.op rfl rfl (OpJ.storeO (i := i) (u' := backP p m) T3 rfl rfl rfl hx1 (fun _ => rfl) (by decide) rfl up ?_)
 rw [List.set_set]
 have hx := set_get hx (backP p m)
 refine kp [0, 2, 4, 6, 8] rfl ?_
 refine Run.seq ?_
 refine regionD HM ?_
 refine tk 0 rfl rfl rfl (DetJ.move rfl) ?_
 refine tk 1 rfl rfl rfl (DetJ.move rfl) ?_
 refine tk 2 rfl rfl rfl (DetJ.nilCheck rfl) ?_
 refine tk 3 rfl rfl rfl (DetJ.fieldAddr F66_2 rfl) ?_
 first | refine RunD.takeF 4 rfl rfl kr T9 rfl pk (by rfl) ?_ | refine RunD.takeO 4 rfl rfl kr T9 rfl pk (by assumption) (by rfl) (by exact fun _ => rfl) ?_
 refine tk 5 rfl rfl rfl (DetJ.fieldAddr F47_4 rfl) ?_
 first | refine RunD.takeF 6 rfl rfl kr T3 rfl pk (by rfl) ?_ | refine RunD.takeO 6 rfl rfl kr T3 rfl pk (by assumption) (by rfl) (by exact fun _ => rfl) ?_
 refine tk 7 rfl rfl rfl (DetJ.move rfl) ?_
 refine RunD.op 8 [false, false, false, false, false, false, true, false] rfl rfl rfl kr kr (OpJ.callOuts C121 rfl rfl (ac121 bx { t with past := t.past.set i (backP p m) } la _ lc (some ⟨bp, 0, none⟩) _ pc p.lot m.qty (backV p m) rfl hnl) tks fun ⟨la2, lc2⟩ _ => ⟨po, ?_⟩)
 refine kd [4, 6, 8] rfl ?_
 refine sr ?_
 refine sx 6 ?_
 refine kp [6, 7] rfl ?_
 refine Run.ret ?_
 refine ret_out (la2, lc2, (some ⟨bp, 0, none⟩), pc) (.cellA T43 rfl pk (by rfl) (.tmp rfl .nil)) trivial rfl ?_; simp only [LvB, lBackR, List.length_set]; exact gv
-- (*lots.book).send
theorem ac88 (bx : Nat) (t : Sk) (la : Option Addr) (nl lc : Nat) (bp : Nat) (np pc : Nat) (m : Mv) (i : Nat) (p : Pa) (hx : t.past[i]? = some p) (enl : nl = t.layers.length) (enp : np = t.past.length) (ht : t.ok 999999) (hm : m.ok) (hq1 : 1 ≤ m.qty) : AC Tryz.prog 142 ⟨[.pointer (some ⟨bx, 0, none⟩), .agg ⟨m.c⟩, .pointer (some ⟨bp, 0 + i * 7, none⟩)]⟩ (stars [pt bx (blk (SC t la nl lc (some ⟨bp, 0, none⟩) np pc) 162), own 96 4 la nl lc ((t.layers).flatMap Ly.c), own 98 7 (some ⟨bp, 0, none⟩) np pc ((t.past).flatMap Pa.c)]) (Outs (fun _ : Option Addr × Nat × Option Addr × Nat => True) (fun _ => AvV (lSendR t m i p)) (fun x => LvB 162 96 98 bx (lSendR t m i p) x)) := by
 subst enl enp
 have hn : t.layers.length ≤ 1000000 ∧ t.past.length ≤ 1000000 := ⟨Nat.le_trans ht.nl (by decide), Nat.le_trans ht.np (by decide)⟩
 have hnl := hn.1; have hnp := hn.2; have hnl9 := ht.nl; have hnp9 := ht.np
 obtain ⟨hm1, hm2⟩ := hm
 have hi := (List.getElem?_eq_some_iff.1 hx).1
 obtain ⟨hp1, hp2, hp3, hp4⟩ := ht.pa i p hx
 refine AC.go Tryz.func142 rfl (Nat.le_of_ble_eq_true rfl) fun β => ?_
 refine sr ?_
 refine RunL.op rfl rfl (OpJ.boxA rfl fun b4 => ?_)
 refine RunL.op rfl rfl (OpJ.alloc Z43 fun b6 => ?_)
 refine asg rfl rfl ?_
 refine kp [0, 2, 4, 6] rfl ?_
 refine Run.seq ?_
 refine Run.seq ?_
 refine regionD HM ?_
 refine tk 0 rfl rfl rfl (DetJ.move rfl) ?_
 refine tk 1 rfl rfl rfl (DetJ.move rfl) ?_
 refine tk 2 rfl rfl rfl (DetJ.nilCheck rfl) ?_
 refine tk 3 rfl rfl rfl (DetJ.fieldAddr F66_2 rfl) ?_
 first | refine RunD.takeF 4 rfl rfl kr T9 rfl pk (by rfl) ?_ | refine RunD.takeO 4 rfl rfl kr T9 rfl pk (by assumption) (by rfl) (by exact fun _ => rfl) ?_
 refine tk 6 rfl rfl rfl (DetJ.fieldAddr F47_4 rfl) ?_
 first | refine RunD.takeF 7 rfl rfl kr T3 rfl pk (by rfl) ?_ | refine RunD.takeO 7 rfl rfl kr T3 rfl pk (by assumption) (by rfl) (by exact fun _ => rfl) ?_
 refine RunD.op 5 [true, true, false, false, false, true, false] rfl rfl rfl kr kr (OpJ.callRet C124 rfl rfl (ac124 bx t la _ lc (some ⟨bp, 0, none⟩) _ pc p.lot rfl hnl) tks ⟨po, ?_⟩)
 rcases hf : lotF p.lot t.layers with _ | ⟨j, l⟩
 have hql : qtyLot t.layers p.lot = 0 := (by unfold qtyLot; rw [hf])
 rw [hql]
 refine tk 8 rfl rfl rfl (DetJ.lss rfl rfl) ?_
 first | refine RunD.set (congrArg Value.bool (decide_eq_true (show (0 : Int) < m.qty by omega))) ?_ | skip
 refine kd [0, 2, 4, 6, 17] rfl ?_
 refine Run.true rfl ?_
 refine sr ?_
 refine sx 3 ?_
 refine kp [6, 7] rfl ?_
 refine Run.ret ?_
 have hres : lSendR t m i p = .error 21 := (by unfold lSendR; rw [hf]); refine ret_out (none, 0, none, 0) (.cellA T43 rfl pk (by rfl) (.tmp rfl .nil)) trivial (by rw [hres]; rfl) ?_; rw [hres]; exact gv
 obtain ⟨hy, hll, hI⟩ := lotF_some hf
 have hj := (List.getElem?_eq_some_iff.1 hy).1
 have hly := ht.ly j l hy
 have hql : qtyLot t.layers p.lot = l.qty := (by unfold qtyLot; rw [hf])
 rw [hql]
 refine tk 8 rfl rfl rfl (DetJ.lss rfl rfl) ?_
 first | refine RunD.set (congrArg Value.bool (decide_eq_true (show (0 : Int) < m.qty by omega))) ?_ | skip
 refine kd [0, 2, 4, 6, 17] rfl ?_
 first | refine Run.if rfl (fun h1 => ?_) (fun h1 => ?_) | refine Run.cond rfl (fun h1 => ?_) (fun h1 => ?_)
 refine sr ?_
 refine sx 3 ?_
 refine kp [6, 7] rfl ?_
 refine Run.ret ?_
 have hres : lSendR t m i p = .error 21 := (by unfold lSendR; rw [hf]; simp only; rw [if_pos (by assumption)]); refine ret_out (none, 0, none, 0) (.cellA T43 rfl pk (by rfl) (.tmp rfl .nil)) trivial (by rw [hres]; rfl) ?_; rw [hres]; exact gv
 refine Run.skip ?_
 refine Run.seq ?_
 refine regionD HM ?_
 refine tk 0 rfl rfl rfl (DetJ.move rfl) ?_
 refine tk 1 rfl rfl rfl (DetJ.nilCheck rfl) ?_
 refine tk 2 rfl rfl rfl (DetJ.fieldAddr F66_5 rfl) ?_
 first | refine RunD.takeF 3 rfl rfl kr T3 rfl pk (by rfl) ?_ | refine RunD.takeO 3 rfl rfl kr T3 rfl pk (by assumption) (by rfl) (by exact fun _ => rfl) ?_
 refine tk 4 rfl rfl rfl (DetJ.fieldAddr F47_4 rfl) ?_
 first | refine RunD.takeF 5 rfl rfl kr T3 rfl pk (by rfl) ?_ | refine RunD.takeO 5 rfl rfl kr T3 rfl pk (by assumption) (by rfl) (by exact fun _ => rfl) ?_
 refine tk 6 rfl rfl rfl (DetJ.add rfl rfl) ?_
 refine tk 7 rfl rfl rfl (DetJ.nilCheck rfl) ?_
 refine tk 8 rfl rfl rfl (DetJ.fieldAddr F66_5 rfl) ?_
 refine RunD.op 9 [false, false, false, false, false, false, false, false, false] rfl rfl rfl kr kr (OpJ.storeO (i := i) (u' := sendP p m) T3 rfl rfl rfl hx (fun _ => rfl) (by decide) rfl up ⟨po, ?_⟩)
 have hx := set_get hx (sendP p m)
 refine kd [0, 2, 4, 6] rfl ?_
 refine Run.seq ?_
 refine regionD HM ?_
 refine tk 0 rfl rfl rfl (DetJ.move rfl) ?_
 refine tk 1 rfl rfl rfl (DetJ.move rfl) ?_
 refine tk 2 rfl rfl rfl (DetJ.nilCheck rfl) ?_
 refine tk 3 rfl rfl rfl (DetJ.fieldAddr F66_2 rfl) ?_
 first | refine RunD.takeF 4 rfl rfl kr T9 rfl pk (by rfl) ?_ | refine RunD.takeO 4 rfl rfl kr T9 rfl pk (by assumption) (by rfl) (by exact fun _ => rfl) ?_
 refine tk 5 rfl rfl rfl (DetJ.fieldAddr F47_4 rfl) ?_
 first | refine RunD.takeF 6 rfl rfl kr T3 rfl pk (by rfl) ?_ | refine RunD.takeO 6 rfl rfl kr T3 rfl pk (by assumption) (by rfl) (by exact fun _ => rfl) ?_
 refine RunD.op 7 [false, false, false, false, false, true, false] rfl rfl rfl kr kr (OpJ.callRet C125 rfl rfl (ac125 bx { t with past := t.past.set i (sendP p m) } la _ lc (some ⟨bp, 0, none⟩) _ pc p.lot j l m.qty hf hly hm1 rfl hnl) tks ⟨po, ?_⟩)
 refine tk 8 rfl rfl rfl (DetJ.assign rfl) ?_
 refine kd [4, 6, 8] rfl ?_
 refine sr ?_
 refine sx 8 ?_
 refine RunL.op rfl rfl (OpJ.sub rfl rfl ?_)
 refine sx 3 ?_
 refine kp [6, 7] rfl ?_
 refine Run.ret ?_
 have hres : lSendR t m i p = .ok _ := (by unfold lSendR; rw [hf]; simp only; rw [if_neg (by assumption)]); refine ret_out (la, lc, (some ⟨bp, 0, none⟩), pc) (.cellA T43 rfl pk (by rfl) (.tmp rfl .nil)) trivial (by rw [hres]; rfl) ?_; rw [hres]; simp only [LvB, List.length_set]; exact gv
-- (*lots.book).land
theorem ac89 (bx : Nat) (t : Sk) (la : Option Addr) (nl lc : Nat) (bp : Nat) (np pc : Nat) (m : Mv) (i : Nat) (p : Pa) (hx : t.past[i]? = some p) (enl : nl = t.layers.length) (enp : np = t.past.length) (ht : t.ok 999999) (hm : m.ok) : AC Tryz.prog 143 ⟨[.pointer (some ⟨bx, 0, none⟩), .agg ⟨m.c⟩, .pointer (some ⟨bp, 0 + i * 7, none⟩)]⟩ (stars [pt bx (blk (SC t la nl lc (some ⟨bp, 0, none⟩) np pc) 162), own 96 4 la nl lc ((t.layers).flatMap Ly.c), own 98 7 (some ⟨bp, 0, none⟩) np pc ((t.past).flatMap Pa.c)]) (Outs (fun _ : Option Addr × Nat × Option Addr × Nat => True) (fun _ => AvV (lLandR t m i p)) (fun x => LvB 162 96 98 bx (lLandR t m i p) x)) := by
 subst enl enp
 have hn : t.layers.length ≤ 1000000 ∧ t.past.length ≤ 1000000 := ⟨Nat.le_trans ht.nl (by decide), Nat.le_trans ht.np (by decide)⟩
 have hnl := hn.1; have hnp := hn.2; have hnl9 := ht.nl; have hnp9 := ht.np
 obtain ⟨hm1, hm2⟩ := hm
 have hi := (List.getElem?_eq_some_iff.1 hx).1
 obtain ⟨hp1, hp2, hp3, hp4⟩ := ht.pa i p hx
 have hlq := lotQ_i64 ht.ly hp1
 refine AC.go Tryz.func143 rfl (Nat.le_of_ble_eq_true rfl) fun β => ?_
 refine sr ?_
 refine RunL.op rfl rfl (OpJ.boxA rfl fun b4 => ?_)
 refine RunL.op rfl rfl (OpJ.alloc Z43 fun b6 => ?_)
 refine asg rfl rfl ?_
 refine kp [0, 2, 4, 6] rfl ?_
 refine Run.seq ?_
 refine regionD HM ?_
 refine tk 0 rfl rfl rfl (DetJ.move rfl) ?_
 refine tk 1 rfl rfl rfl (DetJ.nilCheck rfl) ?_
 refine tk 2 rfl rfl rfl (DetJ.fieldAddr F66_3 rfl) ?_
 first | refine RunD.takeF 3 rfl rfl kr T3 rfl pk (by rfl) ?_ | refine RunD.takeO 3 rfl rfl kr T3 rfl pk (by assumption) (by rfl) (by exact fun _ => rfl) ?_
 refine tk 4 rfl rfl rfl (DetJ.move rfl) ?_
 refine tk 5 rfl rfl rfl (DetJ.move rfl) ?_
 refine tk 6 rfl rfl rfl (DetJ.nilCheck rfl) ?_
 refine tk 7 rfl rfl rfl (DetJ.fieldAddr F66_2 rfl) ?_
 first | refine RunD.takeF 8 rfl rfl kr T9 rfl pk (by rfl) ?_ | refine RunD.takeO 8 rfl rfl kr T9 rfl pk (by assumption) (by rfl) (by exact fun _ => rfl) ?_
 refine RunD.op 9 [false, false, false, true, false, true, true, true, true] rfl rfl rfl kr kr (OpJ.callRet C124 rfl rfl (ac124 bx t la _ lc (some ⟨bp, 0, none⟩) _ pc p.lot rfl hnl) tks ⟨po, ?_⟩)
 refine tk 10 rfl rfl rfl (DetJ.min rfl rfl) ?_
 refine tk 11 rfl rfl rfl (DetJ.assign rfl) ?_
 refine kd [0, 2, 4, 6, 8] rfl ?_
 refine Run.seq ?_
 refine sr ?_
 refine sx 2 ?_
 refine kp [0, 2, 4, 6, 8, 22] rfl ?_
 first | refine Run.if rfl (fun h1 => ?_) (fun h1 => ?_) | refine Run.cond rfl (fun h1 => ?_) (fun h1 => ?_)
 refine sr ?_
 refine sx 5 ?_
 refine kp [6, 7] rfl ?_
 refine Run.ret ?_
 have hres : lLandR t m i p = .ok _ := (by unfold lLandR; rw [if_pos (by assumption)]); refine ret_out (la, lc, (some ⟨bp, 0, none⟩), pc) (.cellA T43 rfl pk (by rfl) (.tmp rfl .nil)) trivial (by rw [hres]; rfl) ?_; rw [hres]; exact gv
 refine Run.skip ?_
 refine Run.seq ?_
 refine regionD HM ?_
 refine tk 0 rfl rfl rfl (DetJ.fieldAddr F47_5 rfl) ?_
 first | refine RunD.takeF 1 rfl rfl kr T3 rfl pk (by rfl) ?_ | refine RunD.takeO 1 rfl rfl kr T3 rfl pk (by assumption) (by rfl) (by exact fun _ => rfl) ?_
 refine tk 2 rfl rfl rfl (DetJ.move rfl) ?_
 refine tk 3 rfl rfl rfl (DetJ.move rfl) ?_
 refine tk 4 rfl rfl rfl (DetJ.nilCheck rfl) ?_
 refine tk 5 rfl rfl rfl (DetJ.fieldAddr F66_3 rfl) ?_
 first | refine RunD.takeF 6 rfl rfl kr T3 rfl pk (by rfl) ?_ | refine RunD.takeO 6 rfl rfl kr T3 rfl pk (by assumption) (by rfl) (by exact fun _ => rfl) ?_
 refine RunD.op 7 [false, false, false, true, false, false, false] rfl rfl rfl kr kr (OpJ.callRet C126 rfl rfl (ac126 _ _ _ hm2 hlq hp1) .nil ⟨po, ?_⟩)
 refine tk 8 rfl rfl rfl (DetJ.assign rfl) ?_
 refine kd [0, 2, 4, 6, 9] rfl ?_
 refine sr ?_
 refine sx 6 ?_
 refine RunL.callX C121 rfl rfl rfl (ac121 bx t la _ lc (some ⟨bp, 0, none⟩) _ pc p.lot 0 (partN m.cost (lotQ t p) p.qty) rfl hnl) tks fun ⟨la2, lc2⟩ _ => ?_
 refine kp [4, 6, 9] rfl ?_
 refine sr ?_
 refine sx 4 ?_
 refine RunL.op rfl rfl (OpJ.sub rfl rfl ?_)
 refine sx 3 ?_
 refine kp [6, 7] rfl ?_
 refine Run.ret ?_
 have hres : lLandR t m i p = .ok _ := (by unfold lLandR; rw [if_neg (by assumption)]); refine ret_out (la2, lc2, (some ⟨bp, 0, none⟩), pc) (.cellA T43 rfl pk (by rfl) (.tmp rfl .nil)) trivial (by rw [hres]; rfl) ?_; rw [hres]; exact gv
end
end Go.Proofs.YtcpghpifbgpkjaaGreatDoor
