/- Laws of the walks and of the models, part 6. Merged by program out of: XD XE XF XG XH XI XJ XK Jo. -/
import Derived.Test.YtdcchollplhioaaGreatDoorQ5
import Derived.Test.YtdcchollplhioaaGreatDoorRows
import Derived.Test.YtdcchollplhioaaGreatDoorTie
import Derived.Test.YtdcchollplhioaaGreatDoorCards
import Derived.ProofKit
import Derived.WalkKit
import Derived.LaidMore
import Derived.OpenShut
import Derived.Below
import Derived.ChangeOld
import Derived.SizedLaws
import Derived.Deep.Slices
import Derived.Stop.Joined
set_option linter.unusedVariables false
set_option linter.unusedSimpArgs false
set_option maxRecDepth 20000
set_option maxHeartbeats 4000000
namespace Go.Proofs.YtdcchollplhioaaGreatDoor
open Go Go.SL Go.Proofs
section
attribute [local irreducible] OpJ RunL Run RunD DetJ pt own star Rd RdS
-- accountingref36.past
theorem ac99 (s : Sk) (la : Option Addr) (lc : Nat) (pa : Option Addr) (pc : Nat) (RP : HP) (kind seq : Int) (hRP : RdS RP pa (s.past.flatMap Pa.c)) (hnp : s.past.length ≤ 1000000) : AC Tryz.prog 99 ⟨[.agg ⟨s.c la lc pa pc⟩, I kind, I seq]⟩ (stars [RP]) (Ret (I (idxOf (findI (isPast kind seq) s.past))) [RP]) := by
 refine AC.go Tryz.func99 rfl (Nat.le_of_ble_eq_true rfl) fun β => ?_
 refine sr ?_
 refine RunL.op rfl rfl (OpJ.boxA rfl fun b3 => ?_)
 refine asg rfl rfl ?_
 refine kp [1, 2, 3] rfl ?_
 refine Run.seq ?_
 refine sr ?_
 refine asg rfl rfl ?_
 refine kp [1, 2, 3, 7] rfl ?_
 refine Run.block ?_
 refine Run.loop (fun mm E L => ∃ i : Nat, mm = s.past.length - i ∧ i ≤ s.past.length ∧ (∀ j y, j < i → s.past[j]? = some y → isPast kind seq y = false) ∧ E = [(1, I kind), (2, I seq), (3, .pointer (some ⟨b3, 0, none⟩)), (7, I i)] ∧ L = [pt b3 (blk (s.c la lc pa pc) 28), RP]) ⟨_, 0, rfl, Nat.zero_le _, fun _ _ h => by omega, rfl, rfl⟩ ?_
 rintro _ _ _ ⟨i, rfl, hi, hI0, rfl, rfl⟩
 refine Run.seq ?_
 refine sr ?_
 refine sx 5 ?_
 refine kp [1, 2, 3, 7, 12] rfl ?_
 first | refine Run.if rfl (fun h1 => ?_) (fun h1 => ?_) | refine Run.cond rfl (fun h1 => ?_) (fun h1 => ?_)
 refine Run.skip ?_
 refine Run.seq ?_
 refine Run.block ?_
 refine sr ?_
 obtain ⟨x, hx⟩ := get_ex (xs := s.past) (by omega)
 refine RunL.rdOpen pk hRP (flat_ne (k := 7) (fun _ => rfl) (by decide) hx) fun b o e hrd => ?_
 subst e
 refine sx 5 ?_
 refine RunL.op rfl rfl (OpJ.load1 T3 rfl pk (hrd.pa hx 0 (I x.seq) rfl) ?_)
 refine sx 3 ?_
 first | refine RunL.splitP (t := 23) rfl (fun g2 => ?_) (fun g2 => ?_) | refine RunL.split (t := 23) rfl (fun g2 => ?_) (fun g2 => ?_)
 refine sx 3 ?_
 first | refine RunL.splitP (t := 26) rfl (fun g3 => ?_) (fun g3 => ?_) | refine RunL.split (t := 26) rfl (fun g3 => ?_) (fun g3 => ?_)
 refine sx 10 ?_
 refine kp [1, 2, 3, 7, 36] rfl ?_
 refine Run.true rfl ?_
 refine sr ?_
 refine sx 2 ?_
 refine kp [6] rfl ?_
 refine Run.ret ?_
 exact ret_one (.tmp rfl .nil) (congrArg I (by rw [findI_at hx (by unfold isPast; simp_all) hI0]; rfl)) gv
 refine sx 5 ?_
 refine RunL.yes rfl rfl rfl rfl (OpJ.load1 T3 rfl pk (hrd.pa hx 1 (I x.kind) rfl) ?_)
 refine sx 4 ?_
 refine kp [1, 2, 3, 7, 36] rfl ?_
 first | refine Run.if rfl (fun h4 => ?_) (fun h4 => ?_) | refine Run.cond rfl (fun h4 => ?_) (fun h4 => ?_)
 refine sr ?_
 refine sx 2 ?_
 refine kp [6] rfl ?_
 refine Run.ret ?_
 exact ret_one (.tmp rfl .nil) (congrArg I (by rw [findI_at hx (by unfold isPast; simp_all) hI0]; rfl)) gv
 refine Run.skip ?_
 refine Run.region ?_
 refine sx 3 ?_
 exact RunL.next (Keep.sub (kt (ks := [1, 2, 3, 7]) rfl)) _ ⟨_, by omega, i + 1, rfl, by omega, notYet hx (by unfold isPast; simp_all) hI0, rfl, rfl⟩ gv
 refine sx 13 ?_
 refine kp [1, 2, 3, 7, 36] rfl ?_
 refine Run.false rfl ?_
 refine Run.skip ?_
 refine Run.region ?_
 refine sx 3 ?_
 exact RunL.next (Keep.sub (kt (ks := [1, 2, 3, 7]) rfl)) _ ⟨_, by omega, i + 1, rfl, by omega, notYet hx (by unfold isPast; simp_all) hI0, rfl, rfl⟩ gv
 refine Run.exit ?_
 refine sr ?_
 refine asg rfl rfl ?_
 refine kp [6] rfl ?_
 refine Run.ret ?_
 exact ret_one (.tmp rfl .nil) (congrArg I (by rw [findI_none (fun j y hj => hI0 j y (by omega))]; rfl)) gv
-- accountingref36.returned
theorem ac100 (s : Sk) (la : Option Addr) (lc : Nat) (pa : Option Addr) (pc : Nat) (RP : HP) (m : Mv) (hRP : RdS RP pa (s.past.flatMap Pa.c)) (hnp : s.past.length ≤ 1000000) : AC Tryz.prog 100 ⟨[.agg ⟨s.c la lc pa pc⟩, .agg ⟨m.c⟩]⟩ (stars [RP]) (Ret (.tuple ⟨[I (okIdx (refd (if m.kind = 3 then 2 else 1) m s.past)), I (errOf (refd (if m.kind = 3 then 2 else 1) m s.past))]⟩) [RP]) := by
 refine AC.go Tryz.func100 rfl (Nat.le_of_ble_eq_true rfl) fun β => ?_
 refine sr ?_
 refine RunL.op rfl rfl (OpJ.boxA rfl fun b2 => ?_)
 refine RunL.op rfl rfl (OpJ.boxA rfl fun b3 => ?_)
 refine sx 2 ?_
 refine kp [2, 3] rfl ?_
 refine sr ?_
 refine asg rfl rfl ?_
 refine kp [2, 3, 6] rfl ?_
 refine Run.seq ?_
 refine sr ?_
 refine sx 3 ?_
 refine kp [2, 3, 6, 10] rfl ?_
 first | refine Run.if rfl (fun h1 => ?_) (fun h1 => ?_) | refine Run.cond rfl (fun h1 => ?_) (fun h1 => ?_)
 refine Run.region ?_
 refine asg rfl rfl ?_
 refine kp [2, 3, 6] rfl ?_
 refine sr ?_
 refine sx 4 ?_
 refine RunL.call C99 rfl rfl rfl (ac99 s la lc pa pc RP _ m.ref hRP hnp) tks ?_
 refine asg rfl rfl ?_
 refine kp [2, 3, 7] rfl ?_
 refine Run.seq ?_
 refine sr ?_
 refine sx 2 ?_
 rcases hf : findI (isPast 2 m.ref) s.past with _ | ⟨i, x⟩
 refine kp [2, 3, 7, 17] rfl ?_
 refine Run.true rfl ?_
 refine sr ?_
 refine sx 2 ?_
 refine kp [4, 5] rfl ?_
 refine Run.ret ?_
 exact ret_one (.tmp rfl (.tmp rfl .nil)) (by simp [tup, refd, hf, okIdx, errOf, idxOf, *]) gv
 obtain ⟨hx, _⟩ := findI_some hf
 have hi := (List.getElem?_eq_some_iff.1 hx).1
 simp only [idxOf]
 refine RunL.set (congrArg Value.bool (decide_eq_false (show ¬ ((i : Int) < 0) by omega))) ?_
 refine kp [2, 3, 7, 17] rfl ?_
 refine Run.false rfl ?_
 refine Run.skip ?_
 refine Run.seq ?_
 refine Run.seq ?_
 refine regionD HM ?_
 refine RunD.rdOpen pk hRP (flat_ne (k := 7) (fun _ => rfl) (by decide) hx) fun b o e hrd => ?_
 subst e
 refine tk 0 rfl rfl rfl (DetJ.fieldAddr F47_4 rfl) ?_
 first | refine RunD.takeF 1 rfl rfl kr T3 rfl pk (by rfl) ?_ | refine RunD.takeO 1 rfl rfl kr T3 rfl pk (by assumption) (by rfl) (by exact fun _ => rfl) ?_
 refine tk 2 rfl rfl rfl (DetJ.fieldAddr F28_4 rfl) ?_
 first | refine RunD.takeF 3 rfl rfl kr T26 rfl pk (by rfl) ?_ | refine RunD.takeO 3 rfl rfl kr T26 rfl pk (by assumption) (by rfl) (by exact fun _ => rfl) ?_
 refine tk 4 rfl rfl rfl (DetJ.move rfl) ?_
 refine tk 5 rfl rfl rfl (DetJ.indexAddr S26 rfl rfl (by omega)) ?_
 refine tk 6 rfl rfl rfl (DetJ.fieldAddr F66_3 rfl) ?_
 refine RunD.takeR1 7 rfl rfl kr T3 rfl pk (hrd.pa hx 3 (I x.qty) rfl) ?_
 refine tk 8 rfl rfl rfl (DetJ.fieldAddr F28_4 rfl) ?_
 first | refine RunD.takeF 9 rfl rfl kr T26 rfl pk (by rfl) ?_ | refine RunD.takeO 9 rfl rfl kr T26 rfl pk (by assumption) (by rfl) (by exact fun _ => rfl) ?_
 refine tk 10 rfl rfl rfl (DetJ.move rfl) ?_
 refine tk 11 rfl rfl rfl (DetJ.indexAddr S26 rfl rfl (by omega)) ?_
 refine tk 12 rfl rfl rfl (DetJ.fieldAddr F66_5 rfl) ?_
 refine RunD.takeR1 13 rfl rfl kr T3 rfl pk (hrd.pa hx 5 (I x.used) rfl) ?_
 refine tk 14 rfl rfl rfl (DetJ.sub rfl rfl) ?_
 refine tk 15 rfl rfl rfl (DetJ.gtr rfl rfl) ?_
 refine kd [7, 33] rfl ?_
 first | refine Run.if rfl (fun h2 => ?_) (fun h2 => ?_) | refine Run.cond rfl (fun h2 => ?_) (fun h2 => ?_)
 refine sr ?_
 refine sx 2 ?_
 refine kp [4, 5] rfl ?_
 refine Run.ret ?_
 exact ret_one (.tmp rfl (.tmp rfl .nil)) (by simp [tup, refd, hf, okIdx, errOf, idxOf, *]) gv
 refine Run.skip ?_
 refine sr ?_
 refine sx 3 ?_
 refine kp [4, 5] rfl ?_
 refine Run.ret ?_
 exact ret_one (.tmp rfl (.tmp rfl .nil)) (by simp [tup, refd, hf, okIdx, errOf, idxOf, *]) gv
 refine Run.skip ?_
 refine sr ?_
 refine sx 4 ?_
 refine RunL.call C99 rfl rfl rfl (ac99 s la lc pa pc RP _ m.ref hRP hnp) tks ?_
 refine asg rfl rfl ?_
 refine kp [2, 3, 7] rfl ?_
 refine Run.seq ?_
 refine sr ?_
 refine sx 2 ?_
 rcases hf : findI (isPast 1 m.ref) s.past with _ | ⟨i, x⟩
 refine kp [2, 3, 7, 17] rfl ?_
 refine Run.true rfl ?_
 refine sr ?_
 refine sx 2 ?_
 refine kp [4, 5] rfl ?_
 refine Run.ret ?_
 exact ret_one (.tmp rfl (.tmp rfl .nil)) (by simp [tup, refd, hf, okIdx, errOf, idxOf, *]) gv
 obtain ⟨hx, _⟩ := findI_some hf
 have hi := (List.getElem?_eq_some_iff.1 hx).1
 simp only [idxOf]
 refine RunL.set (congrArg Value.bool (decide_eq_false (show ¬ ((i : Int) < 0) by omega))) ?_
 refine kp [2, 3, 7, 17] rfl ?_
 refine Run.false rfl ?_
 refine Run.skip ?_
 refine Run.seq ?_
 refine Run.seq ?_
 refine regionD HM ?_
 refine RunD.rdOpen pk hRP (flat_ne (k := 7) (fun _ => rfl) (by decide) hx) fun b o e hrd => ?_
 subst e
 refine tk 0 rfl rfl rfl (DetJ.fieldAddr F47_4 rfl) ?_
 first | refine RunD.takeF 1 rfl rfl kr T3 rfl pk (by rfl) ?_ | refine RunD.takeO 1 rfl rfl kr T3 rfl pk (by assumption) (by rfl) (by exact fun _ => rfl) ?_
 refine tk 2 rfl rfl rfl (DetJ.fieldAddr F28_4 rfl) ?_
 first | refine RunD.takeF 3 rfl rfl kr T26 rfl pk (by rfl) ?_ | refine RunD.takeO 3 rfl rfl kr T26 rfl pk (by assumption) (by rfl) (by exact fun _ => rfl) ?_
 refine tk 4 rfl rfl rfl (DetJ.move rfl) ?_
 refine tk 5 rfl rfl rfl (DetJ.indexAddr S26 rfl rfl (by omega)) ?_
 refine tk 6 rfl rfl rfl (DetJ.fieldAddr F66_3 rfl) ?_
 refine RunD.takeR1 7 rfl rfl kr T3 rfl pk (hrd.pa hx 3 (I x.qty) rfl) ?_
 refine tk 8 rfl rfl rfl (DetJ.fieldAddr F28_4 rfl) ?_
 first | refine RunD.takeF 9 rfl rfl kr T26 rfl pk (by rfl) ?_ | refine RunD.takeO 9 rfl rfl kr T26 rfl pk (by assumption) (by rfl) (by exact fun _ => rfl) ?_
 refine tk 10 rfl rfl rfl (DetJ.move rfl) ?_
 refine tk 11 rfl rfl rfl (DetJ.indexAddr S26 rfl rfl (by omega)) ?_
 refine tk 12 rfl rfl rfl (DetJ.fieldAddr F66_5 rfl) ?_
 refine RunD.takeR1 13 rfl rfl kr T3 rfl pk (hrd.pa hx 5 (I x.used) rfl) ?_
 refine tk 14 rfl rfl rfl (DetJ.sub rfl rfl) ?_
 refine tk 15 rfl rfl rfl (DetJ.gtr rfl rfl) ?_
 refine kd [7, 33] rfl ?_
 first | refine Run.if rfl (fun h3 => ?_) (fun h3 => ?_) | refine Run.cond rfl (fun h3 => ?_) (fun h3 => ?_)
 refine sr ?_
 refine sx 2 ?_
 refine kp [4, 5] rfl ?_
 refine Run.ret ?_
 exact ret_one (.tmp rfl (.tmp rfl .nil)) (by simp [tup, refd, hf, okIdx, errOf, idxOf, *]) gv
 refine Run.skip ?_
 refine sr ?_
 refine sx 3 ?_
 refine kp [4, 5] rfl ?_
 refine Run.ret ?_
 exact ret_one (.tmp rfl (.tmp rfl .nil)) (by simp [tup, refd, hf, okIdx, errOf, idxOf, *]) gv
-- accountingref36.value
theorem ac101 (q p : Int) (hq : i64 q) (hp : i64 p) : AC Tryz.prog 101 ⟨[I q, I p]⟩ (stars []) (Ret (I (valN q p)) []) := by
 refine AC.go Tryz.func101 rfl (Nat.le_of_ble_eq_true rfl) fun β => ?_
 refine sr ?_
 refine asg rfl rfl ?_
 refine kp [0, 1] rfl ?_
 refine sr ?_
 refine sx 2 ?_
 refine RunL.call C140 rfl rfl rfl (ac140 _ _ (by omega) (by omega)) .nil ?_
 refine sx 5 ?_
 refine kp [5, 6] rfl ?_
 refine Run.seq ?_
 refine sr ?_
 refine sx 2 ?_
 refine kp [5, 14] rfl ?_
 first | refine Run.if rfl (fun h1 => ?_) (fun h1 => ?_) | refine Run.cond rfl (fun h1 => ?_) (fun h1 => ?_)
 refine sr ?_
 refine asg rfl rfl ?_
 refine kp [4] rfl ?_
 refine Run.ret ?_
 exact ret_one (.tmp rfl .nil) (congrArg I (by unfold valN; simp_all)) gv
 refine Run.skip ?_
 refine sr ?_
 refine sx 3 ?_
 refine kp [4] rfl ?_
 refine Run.ret ?_
 exact ret_one (.tmp rfl .nil) (congrArg I (by unfold valN; simp_all)) gv
end
end Go.Proofs.YtdcchollplhioaaGreatDoor

namespace Go.Proofs.YtdcchollplhioaaGreatDoor
open Go Go.SL Go.Proofs
section
attribute [local irreducible] OpJ RunL Run RunD DetJ pt own star Rd RdS
-- accountingref36.Step
theorem ac56 (s : Sk) (m : Mv) (la : Option Addr) (lc : Nat) (pa : Option Addr) (pc : Nat) (RL RP : HP) (hs : s.ok 999999) (hm : m.ok) (hRL : RdS RL la (s.layers.flatMap Ly.c)) (hRP : RdS RP pa (s.past.flatMap Pa.c)) (hsz : (m.item.size : Int) ≤ 9223372036854775807 ∧ (m.lot.size : Int) ≤ 9223372036854775807) (hf0 : s.fine) : AC Tryz.prog 56 ⟨[.agg ⟨s.c la lc pa pc⟩, .agg ⟨m.c⟩]⟩ (stars [RL, RP]) (Outs (fun _ : Option Addr × Nat × Option Addr × Nat => True) (fun x => StV (rsStep s m) x) (fun x => StB 64 66 (rsStep s m) x ++ [RL, RP])) := by
 have hn : s.layers.length ≤ 1000000 ∧ s.past.length ≤ 1000000 := ⟨Nat.le_trans hs.nl (by decide), Nat.le_trans hs.np (by decide)⟩
 have hnl := hn.1; have hnp := hn.2
 refine AC.go Tryz.func56 rfl (Nat.le_of_ble_eq_true rfl) fun β => ?_
 refine sr ?_
 refine RunL.op rfl rfl (OpJ.boxA rfl fun b2 => ?_)
 refine RunL.op rfl rfl (OpJ.boxA rfl fun b3 => ?_)
 refine RunL.op rfl rfl (OpJ.alloc Z28 fun b4 => ?_)
 refine RunL.op rfl rfl (OpJ.alloc Z43 fun b5 => ?_)
 refine asg rfl rfl ?_
 refine kp [2, 3, 4, 5] rfl ?_
 refine Run.seq ?_
 refine sr ?_
 refine sx 1 ?_
 refine RunL.call C91 rfl rfl rfl (ac91 m hsz.1 hsz.2) .nil ?_
 refine asg rfl rfl ?_
 refine kp [2, 3, 4, 5, 7] rfl ?_
 refine sr ?_
 refine sx 2 ?_
 refine kp [2, 3, 4, 5, 7, 17] rfl ?_
 first | refine Run.if rfl (fun h1 => ?_) (fun h1 => ?_) | refine Run.cond rfl (fun h1 => ?_) (fun h1 => ?_)
 refine sr ?_
 refine sx 6 ?_
 refine kp [4, 5, 6] rfl ?_
 refine Run.ret ?_
 have hres : rsStep s m = .error m.one := (by unfold rsStep; rw [if_pos h1]); refine ret_out (none, 0, none, 0) (.cellA T28 rfl pk (by rfl) (.cellA T43 rfl pk (by rfl) (.tmp rfl .nil))) trivial (by rw [hres]; rfl) ?_; rw [hres]; exact gv
 refine Run.skip ?_
 refine Run.seq ?_
 refine sr ?_
 refine sx 3 ?_
 refine RunL.call C99 rfl rfl rfl (ac99 s la lc pa pc RP 0 m.seq hRP hnp) tks ?_
 refine sx 1 ?_
 refine kp [2, 3, 4, 5, 25] rfl ?_
 first | refine Run.if rfl (fun h2 => ?_) (fun h2 => ?_) | refine Run.cond rfl (fun h2 => ?_) (fun h2 => ?_)
 refine sr ?_
 refine sx 5 ?_
 refine kp [4, 5, 6] rfl ?_
 refine Run.ret ?_
 have hres : rsStep s m = .error 8 := (by unfold rsStep; rw [if_neg h1, if_pos (by rw [← idx_some]; simpa using h2)]); refine ret_out (none, 0, none, 0) (.cellA T28 rfl pk (by rfl) (.cellA T43 rfl pk (by rfl) (.tmp rfl .nil))) trivial (by rw [hres]; rfl) ?_; rw [hres]; exact gv
 refine Run.skip ?_
 refine Run.seq ?_
 refine regionD HM ?_
 refine RunD.mono (K' := fun E' L' => ∃ a35 : Option Addr, ∃ c35 : Nat, ∃ b8 : Nat, E' = [(2, .pointer (some ⟨b2, 0, none⟩)), (3, .pointer (some ⟨b3, 0, none⟩)), (4, .pointer (some ⟨b4, 0, none⟩)), (5, .pointer (some ⟨b5, 0, none⟩)), (8, .pointer (some ⟨b8, 0, none⟩))] ∧ L' = [pt b8 (blk [I s.qty, I 0, I s.price, .slice none 0 0, .slice a35 s.past.length c35] 28), own 66 7 a35 s.past.length c35 (s.past.flatMap Pa.c), pt b2 (blk (s.c la lc pa pc) 28), pt b3 (blk m.c 47), pt b4 (blk [I 0, I 0, I 0, .slice none 0 0, .slice none 0 0] 28), pt b5 (blk [I 0, I 0, I 0, I 0] 43), RL, RP]) ?_ ?_
 refine tk 0 rfl rfl rfl (DetJ.fieldAddr F28_0 rfl) ?_
 first | refine RunD.takeF 1 rfl rfl kr T3 rfl pk (by rfl) ?_ | refine RunD.takeO 1 rfl rfl kr T3 rfl pk (by assumption) (by rfl) (by exact fun _ => rfl) ?_
 refine tk 2 rfl rfl rfl (DetJ.fieldAddr F28_2 rfl) ?_
 first | refine RunD.takeF 3 rfl rfl kr T3 rfl pk (by rfl) ?_ | refine RunD.takeO 3 rfl rfl kr T3 rfl pk (by assumption) (by rfl) (by exact fun _ => rfl) ?_
 refine tk 5 rfl rfl rfl (DetJ.fieldAddr F28_4 rfl) ?_
 first | refine RunD.takeF 6 rfl rfl kr T26 rfl pk (by rfl) ?_ | refine RunD.takeO 6 rfl rfl kr T26 rfl pk (by assumption) (by rfl) (by exact fun _ => rfl) ?_
 refine RunD.two 4 9 [true, true, true, true, true, true] [true, true, true, true, true, true] rfl rfl rfl rfl rfl rfl kr kr kr (OpJ.buildSlice0 S26 fun b32 => ⟨po, ?_⟩) (OpJ.alloc Z28 fun b8 => ⟨po, ?_⟩)
 refine RunD.two 7 9 [false, false, true, true, true, true] [true, true, true, true, true, true] rfl rfl rfl rfl rfl rfl kr kr kr (OpJ.appendL (enc := Pa.c) (R := RP) ([] : List Pa) s.past S26 M66 rfl rfl pk pk hRP rfl (fun _ => rfl) (by decide) Pa.one (by simp; omega) (by simp; omega) fun a35 c35 => ⟨po, ?_⟩) (OpJ.alloc Z28 fun b8 => ⟨po, ?_⟩)
 rw [List.nil_append]
 refine RunD.takeB 8 rfl rfl kr B28 rfl rfl fun cs hcs => ?_
 simp only [Sk.c, Mv.c, Co.c, bldL, bldA, Value.cells, bs, Nat.reduceAdd, Nat.reduceLeDiff, Nat.reduceLT] at hcs; subst hcs
 refine RunD.op 9 [true, true, true, true, true] rfl rfl rfl kr kr (OpJ.alloc Z28 fun b8 => ⟨po, ?_⟩)
 refine RunD.op 10 [false, false, false, false, false] rfl rfl rfl kr kr (OpJ.storeW T28 rfl rfl rfl rfl (by simp [Value.oneCell', Pa.c, Ly.c, Mv.c, Co.c]) up ⟨po, ?_⟩)
 exact RunD.weak (E' := [(2, .pointer (some ⟨b2, 0, none⟩)), (3, .pointer (some ⟨b3, 0, none⟩)), (4, .pointer (some ⟨b4, 0, none⟩)), (5, .pointer (some ⟨b5, 0, none⟩)), (8, .pointer (some ⟨b8, 0, none⟩))]) (L' := [pt b8 (blk [I s.qty, I 0, I s.price, .slice none 0 0, .slice a35 s.past.length c35] 28), own 66 7 a35 s.past.length c35 (s.past.flatMap Pa.c), pt b2 (blk (s.c la lc pa pc) 28), pt b3 (blk m.c 47), pt b4 (blk [I 0, I 0, I 0, .slice none 0 0, .slice none 0 0] 28), pt b5 (blk [I 0, I 0, I 0, I 0] 43), RL, RP]) (Keep.sub (kt (ks := [2, 3, 4, 5, 8]) rfl)) gv (RunD.done kr ⟨_, _, _, rfl, rfl⟩)
 refine RunD.op 7 [false, false, true, true, true, true] rfl rfl rfl kr kr (OpJ.appendL (enc := Pa.c) (R := RP) ([] : List Pa) s.past S26 M66 rfl rfl pk pk hRP rfl (fun _ => rfl) (by decide) Pa.one (by simp; omega) (by simp; omega) fun a35 c35 => ⟨po, ?_⟩)
 rw [List.nil_append]
 refine RunD.takeB 8 rfl rfl kr B28 rfl rfl fun cs hcs => ?_
 simp only [Sk.c, Mv.c, Co.c, bldL, bldA, Value.cells, bs, Nat.reduceAdd, Nat.reduceLeDiff, Nat.reduceLT] at hcs; subst hcs
 refine RunD.op 10 [false, false, false, false, false] rfl rfl rfl kr kr (OpJ.storeW T28 rfl rfl rfl rfl (by simp [Value.oneCell', Pa.c, Ly.c, Mv.c, Co.c]) up ⟨po, ?_⟩)
 exact RunD.weak (E' := [(2, .pointer (some ⟨b2, 0, none⟩)), (3, .pointer (some ⟨b3, 0, none⟩)), (4, .pointer (some ⟨b4, 0, none⟩)), (5, .pointer (some ⟨b5, 0, none⟩)), (8, .pointer (some ⟨b8, 0, none⟩))]) (L' := [pt b8 (blk [I s.qty, I 0, I s.price, .slice none 0 0, .slice a35 s.past.length c35] 28), own 66 7 a35 s.past.length c35 (s.past.flatMap Pa.c), pt b2 (blk (s.c la lc pa pc) 28), pt b3 (blk m.c 47), pt b4 (blk [I 0, I 0, I 0, .slice none 0 0, .slice none 0 0] 28), pt b5 (blk [I 0, I 0, I 0, I 0] 43), RL, RP]) (Keep.sub (kt (ks := [2, 3, 4, 5, 8]) rfl)) gv (RunD.done kr ⟨_, _, _, rfl, rfl⟩)
 refine RunD.op 4 [true, true, true, true, true, true] rfl rfl rfl kr kr (OpJ.buildSlice0 S26 fun b32 => ⟨po, ?_⟩)
 refine RunD.op 7 [false, false, true, true, true, true] rfl rfl rfl kr kr (OpJ.appendL (enc := Pa.c) (R := RP) ([] : List Pa) s.past S26 M66 rfl rfl pk pk hRP rfl (fun _ => rfl) (by decide) Pa.one (by simp; omega) (by simp; omega) fun a35 c35 => ⟨po, ?_⟩)
 rw [List.nil_append]
 refine RunD.takeB 8 rfl rfl kr B28 rfl rfl fun cs hcs => ?_
 simp only [Sk.c, Mv.c, Co.c, bldL, bldA, Value.cells, bs, Nat.reduceAdd, Nat.reduceLeDiff, Nat.reduceLT] at hcs; subst hcs
 refine RunD.op 10 [false, false, false, false, false] rfl rfl rfl kr kr (OpJ.storeW T28 rfl rfl rfl rfl (by simp [Value.oneCell', Pa.c, Ly.c, Mv.c, Co.c]) up ⟨po, ?_⟩)
 exact RunD.weak (E' := [(2, .pointer (some ⟨b2, 0, none⟩)), (3, .pointer (some ⟨b3, 0, none⟩)), (4, .pointer (some ⟨b4, 0, none⟩)), (5, .pointer (some ⟨b5, 0, none⟩)), (8, .pointer (some ⟨b8, 0, none⟩))]) (L' := [pt b8 (blk [I s.qty, I 0, I s.price, .slice none 0 0, .slice a35 s.past.length c35] 28), own 66 7 a35 s.past.length c35 (s.past.flatMap Pa.c), pt b2 (blk (s.c la lc pa pc) 28), pt b3 (blk m.c 47), pt b4 (blk [I 0, I 0, I 0, .slice none 0 0, .slice none 0 0] 28), pt b5 (blk [I 0, I 0, I 0, I 0] 43), RL, RP]) (Keep.sub (kt (ks := [2, 3, 4, 5, 8]) rfl)) gv (RunD.done kr ⟨_, _, _, rfl, rfl⟩)
 rintro _ _ ⟨a35, c35, b8, rfl, rfl⟩
 refine sr ?_
 have h0 := rs_do (Decidable.not_not.1 h1) (show ¬ (findI (isPast 0 m.seq) s.past).isSome = true by rw [← idx_some]; simp; omega)
 have hmg := (MG.of (Decidable.not_not.1 h1)).k
 refine sx 3 ?_
 refine RunL.op rfl rfl (OpJ.alloc Z43 fun b9 => ?_)
 refine sx 1 ?_
 refine kp [2, 3, 4, 5, 8, 9] rfl ?_
 refine sr ?_
 refine asg rfl rfl ?_
 rcases (show m.kind = 1 ∨ m.kind = 2 ∨ m.kind = 3 ∨ m.kind = 4 ∨ m.kind = 5 ∨ m.kind = 6 by omega) with hk | hk | hk | hk | hk | hk
 have hst := h0.trans (rs_1 hk)
 refine kp [2, 3, 4, 5, 8, 9, 10] rfl ?_
 refine Run.seq ?_
 refine sr ?_
 refine sx 3 ?_
 refine RunL.set (congrArg Value.bool (decide_eq_false (by omega))) ?_
 refine sx 4 ?_
 refine RunL.set (congrArg Value.bool (decide_eq_false (by omega))) ?_
 refine sx 5 ?_
 refine RunL.set (congrArg Value.bool (decide_eq_false (by omega))) ?_
 refine sx 1 ?_
 refine kp [2, 3, 4, 5, 8, 9, 10, 52] rfl ?_
 refine Run.false rfl ?_
 refine Run.skip ?_
 refine Run.seq ?_
 refine sr ?_
 refine sx 2 ?_
 refine kp [2, 3, 4, 5, 8, 9, 10, 66] rfl ?_
 refine Run.block ?_
 refine Run.seq ?_
 refine sr ?_
 refine sx 1 ?_
 refine RunL.set (congrArg Value.bool (decide_eq_true (by omega))) ?_
 refine asg rfl rfl ?_
 refine kp [2, 3, 4, 5, 8, 9, 10, 66, 67] rfl ?_
 refine Run.true rfl ?_
 refine Run.skip ?_
 refine Run.true rfl ?_
 refine Run.region ?_
 refine sx 4 ?_
 refine kp [2, 3, 4, 5, 8, 9, 10] rfl ?_
 refine sr ?_
 refine sx 4 ?_
 refine RunL.op rfl rfl (OpJ.add rfl rfl ?_)
 refine sx 2 ?_
 refine kp [2, 3, 4, 5, 8, 9, 10] rfl ?_
 refine Run.seq ?_
 refine sr ?_
 refine sx 3 ?_
 refine kp [2, 3, 4, 5, 8, 9, 10, 93] rfl ?_
 first | refine Run.if rfl (fun h3 => ?_) (fun h3 => ?_) | refine Run.cond rfl (fun h3 => ?_) (fun h3 => ?_)
 refine sr ?_
 refine sx 5 ?_
 refine kp [4, 5, 6] rfl ?_
 refine Run.ret ?_
 have hres : rsStep s m = .error _ := hst.trans (rsFin_21 (by omega)); refine ret_out (none, 0, none, 0) (.cellA T28 rfl pk (by rfl) (.cellA T43 rfl pk (by rfl) (.tmp rfl .nil))) trivial (by rw [hres]; rfl) ?_; rw [hres]; exact gv
 refine Run.skip ?_
 refine sr ?_
 refine sx 4 ?_
 refine RunL.call C101 rfl rfl rfl (ac101 _ _ (W_i64 _) (by first | exact hs.pr | exact hm.2)) .nil ?_
 refine sx 2 ?_
 refine kp [2, 3, 4, 5, 8, 9, 10] rfl ?_
 refine Run.seq ?_
 refine sr ?_
 refine sx 4 ?_
 first | refine RunL.splitP (t := 105) rfl (fun g4 => ?_) (fun g4 => ?_) | refine RunL.split (t := 105) rfl (fun g4 => ?_) (fun g4 => ?_)
 refine sx 5 ?_
 refine kp [2, 3, 4, 5, 8, 9, 10, 110] rfl ?_
 refine Run.true rfl ?_
 refine sr ?_
 refine sx 5 ?_
 refine kp [4, 5, 6] rfl ?_
 refine Run.ret ?_
 have hres : rsStep s m = .error _ := hst.trans (rsFin_4a (by omega) (by omega)); refine ret_out (none, 0, none, 0) (.cellA T28 rfl pk (by rfl) (.cellA T43 rfl pk (by rfl) (.tmp rfl .nil))) trivial (by rw [hres]; rfl) ?_; rw [hres]; exact gv
 refine sx 2 ?_
 refine RunL.callG C102 rfl rfl rfl rfl rfl (ac102 _) .nil ?_
 refine sx 2 ?_
 refine kp [2, 3, 4, 5, 8, 9, 10, 110] rfl ?_
 first | refine Run.if rfl (fun h5 => ?_) (fun h5 => ?_) | refine Run.cond rfl (fun h5 => ?_) (fun h5 => ?_)
 refine sr ?_
 refine sx 5 ?_
 refine kp [4, 5, 6] rfl ?_
 refine Run.ret ?_
 have hres : rsStep s m = .error _ := hst.trans (rsFin_4b (by omega) (by first | assumption | exact (Bool.not_eq_true' _).mp (by assumption) | simp_all)); refine ret_out (none, 0, none, 0) (.cellA T28 rfl pk (by rfl) (.cellA T43 rfl pk (by rfl) (.tmp rfl .nil))) trivial (by rw [hres]; rfl) ?_; rw [hres]; exact gv
 refine Run.skip ?_
 refine sr ?_
 refine sx 4 ?_
 refine RunL.op rfl rfl (OpJ.sub rfl rfl ?_)
 refine sx 2 ?_
 refine kp [2, 3, 4, 5, 8, 9, 10] rfl ?_
 refine Run.seq ?_
 refine sr ?_
 refine sx 2 ?_
 refine kp [2, 3, 4, 5, 8, 9, 10, 120] rfl ?_
 refine Run.block ?_
 refine sr ?_
 refine sx 1 ?_
 refine RunL.set (congrArg Value.bool (decide_eq_true (by omega))) ?_
 refine asg rfl rfl ?_
 refine kp [2, 3, 4, 5, 8, 9, 10, 120, 121] rfl ?_
 refine Run.true rfl ?_
 refine sr ?_
 refine sx 4 ?_
 refine RunL.op rfl rfl (OpJ.sub rfl rfl ?_)
 refine sx 2 ?_
 refine kp [3, 4, 5, 8, 9] rfl ?_
 refine Run.region ?_
 refine sx 13 ?_
 refine RunL.op rfl rfl (OpJ.buildSlice1 S26 rfl rfl rfl (by decide) (by decide) Z66 rfl fun b142 => ?_)
 refine RunL.op rfl rfl (OpJ.append1 (⟨m.seq, m.kind, m.lot, m.qty, m.cost, 0, 0⟩ : Pa) S26 M66 rfl rfl pk pk rfl rfl (by simp [Value.oneCell', Pa.c, Ly.c, Mv.c, Co.c]) rfl (by omega) (by omega) fun a143 c143 => ?_)
 refine sx 2 ?_
 refine kp [4, 5, 8, 9] rfl ?_
 refine Run.seq ?_
 refine sr ?_
 refine RunL.ownNil 64 4 ?_
 refine sx 2 ?_
 refine RunL.call C102 rfl rfl rfl (ac102 _) .nil ?_
 refine RunL.op rfl rfl (OpJ.not rfl ?_)
 refine kp [4, 5, 8, 9, 234] rfl ?_
 first | refine Run.if rfl (fun h6 => ?_) (fun h6 => ?_) | refine Run.cond rfl (fun h6 => ?_) (fun h6 => ?_)
 refine sr ?_
 refine sx 5 ?_
 refine kp [4, 5, 6] rfl ?_
 refine Run.ret ?_
 have hres : rsStep s m = .error _ := hst.trans (rsFin_4c (by omega) (by omega) (by first | assumption | exact (Bool.not_eq_false' _).mp (by assumption) | simp_all) (by first | assumption | exact (Bool.not_eq_true' _).mp (by assumption) | simp_all)); refine ret_out (none, 0, none, 0) (.cellA T28 rfl pk (by rfl) (.cellA T43 rfl pk (by rfl) (.tmp rfl .nil))) trivial (by rw [hres]; rfl) ?_; rw [hres]; exact gv
 refine Run.skip ?_
 refine Run.seq ?_
 refine regionD HM ?_
 first | refine RunD.takeW 0 rfl rfl kr T28 rfl pk (by rfl) ?_ | refine RunD.takeP 0 rfl rfl kr T28 rfl pk (by simp) ?_ | refine RunD.takeE 0 rfl rfl kr T28 rfl pk (by assumption) (by exact fun _ => rfl) rfl (by decide) ?_
 first | refine RunD.takeW 1 rfl rfl kr T43 rfl pk (by rfl) ?_ | refine RunD.takeP 1 rfl rfl kr T43 rfl pk (by simp) ?_ | refine RunD.takeE 1 rfl rfl kr T43 rfl pk (by assumption) (by exact fun _ => rfl) rfl (by decide) ?_
 refine RunD.op 2 [true, false] rfl rfl rfl kr kr (OpJ.storeW T28 rfl rfl rfl rfl (by simp [Value.oneCell', Pa.c, Ly.c, Mv.c, Co.c]) up ⟨po, ?_⟩)
 refine RunD.op 3 [false] rfl rfl rfl kr kr (OpJ.storeW T43 rfl rfl rfl rfl (by simp [Value.oneCell', Pa.c, Ly.c, Mv.c, Co.c]) up ⟨po, ?_⟩)
 refine tk 4 rfl rfl rfl (DetJ.assign rfl) ?_
 refine kd [4, 5, 6] rfl ?_
 refine Run.ret ?_
 have hres : rsStep s m = .ok _ := hst.trans (rsFin_ok (by omega) (by omega) (by first | assumption | exact (Bool.not_eq_false' _).mp (by assumption) | simp_all) (by first | assumption | exact (Bool.not_eq_false' _).mp (by assumption) | simp_all)); refine ret_out (none, 0, a143, c143) (.cellA T28 rfl pk (by rfl) (.cellA T43 rfl pk (by rfl) (.tmp rfl .nil))) trivial (by rw [hres]; first | rfl | (simp only [StV, Sk.c, List.length_set]; rfl)) ?_; rw [hres]; (try simp only [StB, List.length_set]); exact gv
 have hst := h0.trans (rs_2 hk)
 refine kp [2, 3, 4, 5, 8, 9, 10] rfl ?_
 refine Run.seq ?_
 refine sr ?_
 refine sx 3 ?_
 refine RunL.set (congrArg Value.bool (decide_eq_false (by omega))) ?_
 refine sx 4 ?_
 refine RunL.set (congrArg Value.bool (decide_eq_false (by omega))) ?_
 refine sx 5 ?_
 refine RunL.set (congrArg Value.bool (decide_eq_false (by omega))) ?_
 refine sx 1 ?_
 refine kp [2, 3, 4, 5, 8, 9, 10, 52] rfl ?_
 refine Run.false rfl ?_
 refine Run.skip ?_
 refine Run.seq ?_
 refine sr ?_
 refine sx 2 ?_
 refine kp [2, 3, 4, 5, 8, 9, 10, 66] rfl ?_
 refine Run.block ?_
 refine Run.seq ?_
 refine sr ?_
 refine sx 1 ?_
 refine RunL.set (congrArg Value.bool (decide_eq_false (by omega))) ?_
 refine asg rfl rfl ?_
 refine kp [2, 3, 4, 5, 8, 9, 10, 66, 67] rfl ?_
 refine Run.false rfl ?_
 refine Run.region ?_
 refine sx 1 ?_
 refine RunL.set (congrArg Value.bool (decide_eq_false (by omega))) ?_
 refine asg rfl rfl ?_
 refine kp [2, 3, 4, 5, 8, 9, 10, 66, 67] rfl ?_
 refine Run.false rfl ?_
 refine Run.seq ?_
 refine sr ?_
 refine sx 1 ?_
 refine RunL.set (congrArg Value.bool (decide_eq_true (by omega))) ?_
 refine asg rfl rfl ?_
 refine kp [2, 3, 4, 5, 8, 9, 10, 66, 73] rfl ?_
 refine Run.true rfl ?_
 refine Run.skip ?_
 refine Run.true rfl ?_
 refine Run.region ?_
 refine sx 5 ?_
 refine kp [2, 3, 4, 5, 8, 9, 10] rfl ?_
 refine sr ?_
 refine sx 4 ?_
 refine RunL.op rfl rfl (OpJ.add rfl rfl ?_)
 refine sx 2 ?_
 refine kp [2, 3, 4, 5, 8, 9, 10] rfl ?_
 refine Run.seq ?_
 refine sr ?_
 refine sx 3 ?_
 refine kp [2, 3, 4, 5, 8, 9, 10, 93] rfl ?_
 first | refine Run.if rfl (fun h7 => ?_) (fun h7 => ?_) | refine Run.cond rfl (fun h7 => ?_) (fun h7 => ?_)
 refine sr ?_
 refine sx 5 ?_
 refine kp [4, 5, 6] rfl ?_
 refine Run.ret ?_
 have hres : rsStep s m = .error _ := hst.trans (rsFin_21 (by omega)); refine ret_out (none, 0, none, 0) (.cellA T28 rfl pk (by rfl) (.cellA T43 rfl pk (by rfl) (.tmp rfl .nil))) trivial (by rw [hres]; rfl) ?_; rw [hres]; exact gv
 refine Run.skip ?_
 refine sr ?_
 refine sx 4 ?_
 refine RunL.call C101 rfl rfl rfl (ac101 _ _ (W_i64 _) (by first | exact hs.pr | exact hm.2)) .nil ?_
 refine sx 2 ?_
 refine kp [2, 3, 4, 5, 8, 9, 10] rfl ?_
 refine Run.seq ?_
 refine sr ?_
 refine sx 4 ?_
 first | refine RunL.splitP (t := 105) rfl (fun g8 => ?_) (fun g8 => ?_) | refine RunL.split (t := 105) rfl (fun g8 => ?_) (fun g8 => ?_)
 refine sx 5 ?_
 refine kp [2, 3, 4, 5, 8, 9, 10, 110] rfl ?_
 refine Run.true rfl ?_
 refine sr ?_
 refine sx 5 ?_
 refine kp [4, 5, 6] rfl ?_
 refine Run.ret ?_
 have hres : rsStep s m = .error _ := hst.trans (rsFin_4a (by omega) (by omega)); refine ret_out (none, 0, none, 0) (.cellA T28 rfl pk (by rfl) (.cellA T43 rfl pk (by rfl) (.tmp rfl .nil))) trivial (by rw [hres]; rfl) ?_; rw [hres]; exact gv
 refine sx 2 ?_
 refine RunL.callG C102 rfl rfl rfl rfl rfl (ac102 _) .nil ?_
 refine sx 2 ?_
 refine kp [2, 3, 4, 5, 8, 9, 10, 110] rfl ?_
 first | refine Run.if rfl (fun h9 => ?_) (fun h9 => ?_) | refine Run.cond rfl (fun h9 => ?_) (fun h9 => ?_)
 refine sr ?_
 refine sx 5 ?_
 refine kp [4, 5, 6] rfl ?_
 refine Run.ret ?_
 have hres : rsStep s m = .error _ := hst.trans (rsFin_4b (by omega) (by first | assumption | exact (Bool.not_eq_true' _).mp (by assumption) | simp_all)); refine ret_out (none, 0, none, 0) (.cellA T28 rfl pk (by rfl) (.cellA T43 rfl pk (by rfl) (.tmp rfl .nil))) trivial (by rw [hres]; rfl) ?_; rw [hres]; exact gv
 refine Run.skip ?_
 refine sr ?_
 refine sx 4 ?_
 refine RunL.op rfl rfl (OpJ.sub rfl rfl ?_)
 refine sx 2 ?_
 refine kp [2, 3, 4, 5, 8, 9, 10] rfl ?_
 refine Run.seq ?_
 refine sr ?_
 refine sx 2 ?_
 refine kp [2, 3, 4, 5, 8, 9, 10, 120] rfl ?_
 refine Run.block ?_
 refine sr ?_
 refine sx 1 ?_
 refine RunL.set (congrArg Value.bool (decide_eq_false (by omega))) ?_
 refine asg rfl rfl ?_
 refine kp [2, 3, 4, 5, 8, 9, 10, 120, 121] rfl ?_
 refine Run.false rfl ?_
 refine sr ?_
 refine sx 1 ?_
 refine RunL.set (congrArg Value.bool (decide_eq_true (by omega))) ?_
 refine asg rfl rfl ?_
 refine kp [2, 3, 4, 5, 8, 9, 10, 120, 145] rfl ?_
 refine Run.true rfl ?_
 refine Run.region ?_
 refine sx 14 ?_
 refine RunL.op rfl rfl (OpJ.buildSlice1 S26 rfl rfl rfl (by decide) (by decide) Z66 rfl fun b161 => ?_)
 refine RunL.op rfl rfl (OpJ.append1 (⟨m.seq, m.kind, m.lot, m.qty, W (0 - rsC s s.price (W (0 - m.qty))), 0, 0⟩ : Pa) S26 M66 rfl rfl pk pk rfl rfl (by simp [Value.oneCell', Pa.c, Ly.c, Mv.c, Co.c]) rfl (by omega) (by omega) fun a162 c162 => ?_)
 refine sx 2 ?_
 refine kp [4, 5, 8, 9] rfl ?_
 refine Run.seq ?_
 refine sr ?_
 refine RunL.ownNil 64 4 ?_
 refine sx 2 ?_
 refine RunL.call C102 rfl rfl rfl (ac102 _) .nil ?_
 refine RunL.op rfl rfl (OpJ.not rfl ?_)
 refine kp [4, 5, 8, 9, 234] rfl ?_
 first | refine Run.if rfl (fun h10 => ?_) (fun h10 => ?_) | refine Run.cond rfl (fun h10 => ?_) (fun h10 => ?_)
 refine sr ?_
 refine sx 5 ?_
 refine kp [4, 5, 6] rfl ?_
 refine Run.ret ?_
 have hres : rsStep s m = .error _ := hst.trans (rsFin_4c (by omega) (by omega) (by first | assumption | exact (Bool.not_eq_false' _).mp (by assumption) | simp_all) (by first | assumption | exact (Bool.not_eq_true' _).mp (by assumption) | simp_all)); refine ret_out (none, 0, none, 0) (.cellA T28 rfl pk (by rfl) (.cellA T43 rfl pk (by rfl) (.tmp rfl .nil))) trivial (by rw [hres]; rfl) ?_; rw [hres]; exact gv
 refine Run.skip ?_
 refine Run.seq ?_
 refine regionD HM ?_
 first | refine RunD.takeW 0 rfl rfl kr T28 rfl pk (by rfl) ?_ | refine RunD.takeP 0 rfl rfl kr T28 rfl pk (by simp) ?_ | refine RunD.takeE 0 rfl rfl kr T28 rfl pk (by assumption) (by exact fun _ => rfl) rfl (by decide) ?_
 first | refine RunD.takeW 1 rfl rfl kr T43 rfl pk (by rfl) ?_ | refine RunD.takeP 1 rfl rfl kr T43 rfl pk (by simp) ?_ | refine RunD.takeE 1 rfl rfl kr T43 rfl pk (by assumption) (by exact fun _ => rfl) rfl (by decide) ?_
 refine RunD.op 2 [true, false] rfl rfl rfl kr kr (OpJ.storeW T28 rfl rfl rfl rfl (by simp [Value.oneCell', Pa.c, Ly.c, Mv.c, Co.c]) up ⟨po, ?_⟩)
 refine RunD.op 3 [false] rfl rfl rfl kr kr (OpJ.storeW T43 rfl rfl rfl rfl (by simp [Value.oneCell', Pa.c, Ly.c, Mv.c, Co.c]) up ⟨po, ?_⟩)
 refine tk 4 rfl rfl rfl (DetJ.assign rfl) ?_
 refine kd [4, 5, 6] rfl ?_
 refine Run.ret ?_
 have hres : rsStep s m = .ok _ := hst.trans (rsFin_ok (by omega) (by omega) (by first | assumption | exact (Bool.not_eq_false' _).mp (by assumption) | simp_all) (by first | assumption | exact (Bool.not_eq_false' _).mp (by assumption) | simp_all)); refine ret_out (none, 0, a162, c162) (.cellA T28 rfl pk (by rfl) (.cellA T43 rfl pk (by rfl) (.tmp rfl .nil))) trivial (by rw [hres]; first | rfl | (simp only [StV, Sk.c, List.length_set]; rfl)) ?_; rw [hres]; (try simp only [StB, List.length_set]); exact gv
 refine kp [2, 3, 4, 5, 8, 9, 10] rfl ?_
 refine Run.seq ?_
 refine sr ?_
 refine sx 3 ?_
 refine RunL.set (congrArg Value.bool (decide_eq_true (by omega))) ?_
 refine sx 10 ?_
 refine kp [2, 3, 4, 5, 8, 9, 10, 52] rfl ?_
 refine Run.true rfl ?_
 refine sr ?_
 refine sx 2 ?_
 refine RunL.call C100 rfl rfl rfl (ac100 s la lc pa pc RP m hRP hnp) tks ?_
 refine sx 5 ?_
 rcases hr : refd (if m.kind = 3 then 2 else 1) m s.past with e | ⟨i, p⟩
 have hst := h0.trans (rs_e (by omega) hr)
 refine kp [2, 3, 4, 5, 8, 9, 11, 12] rfl ?_
 refine Run.seq ?_
 refine sr ?_
 refine sx 2 ?_
 first | refine RunL.set (congrArg Value.bool (decide_eq_true (show errOf (Except.error _) ≠ 0 from refd_ne hr))) ?_ | skip
 refine kp [2, 3, 4, 5, 8, 9, 11, 12, 60] rfl ?_
 refine Run.true rfl ?_
 refine sr ?_
 refine sx 6 ?_
 refine kp [4, 5, 6] rfl ?_
 refine Run.ret ?_
 have hres : rsStep s m = .error e := hst; refine ret_out (none, 0, none, 0) (.cellA T28 rfl pk (by rfl) (.cellA T43 rfl pk (by rfl) (.tmp rfl .nil))) trivial (by rw [hres]; rfl) ?_; rw [hres]; exact gv
 have hst := h0.trans (rs_3 hk hr)
 obtain ⟨hx, _⟩ := refd_one (by split <;> decide) hr
 have hi := (List.getElem?_eq_some_iff.1 hx).1
 obtain ⟨hp1, hp2, hp3, hp4⟩ := hs.pa i p hx
 simp only [okIdx]
 refine kp [2, 3, 4, 5, 8, 9, 11, 12] rfl ?_
 refine Run.seq ?_
 refine sr ?_
 refine sx 2 ?_
 first | refine RunL.set (congrArg Value.bool (decide_eq_true (show errOf (Except.error _) ≠ 0 from refd_ne hr))) ?_ | skip
 refine kp [2, 3, 4, 5, 8, 9, 11, 12, 60] rfl ?_
 refine Run.false rfl ?_
 refine Run.skip ?_
 refine Run.region ?_
 refine sx 2 ?_
 refine kp [2, 3, 4, 5, 8, 9, 10] rfl ?_
 refine Run.seq ?_
 refine sr ?_
 refine sx 2 ?_
 refine kp [2, 3, 4, 5, 8, 9, 10, 66] rfl ?_
 refine Run.block ?_
 refine Run.seq ?_
 refine sr ?_
 refine sx 1 ?_
 refine RunL.set (congrArg Value.bool (decide_eq_false (by omega))) ?_
 refine asg rfl rfl ?_
 refine kp [2, 3, 4, 5, 8, 9, 10, 66, 67] rfl ?_
 refine Run.false rfl ?_
 refine Run.region ?_
 refine sx 1 ?_
 refine RunL.set (congrArg Value.bool (decide_eq_true (by omega))) ?_
 refine asg rfl rfl ?_
 refine kp [2, 3, 4, 5, 8, 9, 10, 66, 67] rfl ?_
 refine Run.true rfl ?_
 refine Run.region ?_
 refine sx 4 ?_
 refine kp [2, 3, 4, 5, 8, 9, 10] rfl ?_
 refine sr ?_
 refine sx 4 ?_
 refine RunL.op rfl rfl (OpJ.add rfl rfl ?_)
 refine sx 2 ?_
 refine kp [2, 3, 4, 5, 8, 9, 10] rfl ?_
 refine Run.seq ?_
 refine sr ?_
 refine sx 3 ?_
 refine kp [2, 3, 4, 5, 8, 9, 10, 93] rfl ?_
 first | refine Run.if rfl (fun h11 => ?_) (fun h11 => ?_) | refine Run.cond rfl (fun h11 => ?_) (fun h11 => ?_)
 refine sr ?_
 refine sx 5 ?_
 refine kp [4, 5, 6] rfl ?_
 refine Run.ret ?_
 have hres : rsStep s m = .error _ := hst.trans (rsFin_21 (by omega)); refine ret_out (none, 0, none, 0) (.cellA T28 rfl pk (by rfl) (.cellA T43 rfl pk (by rfl) (.tmp rfl .nil))) trivial (by rw [hres]; rfl) ?_; rw [hres]; exact gv
 refine Run.skip ?_
 refine sr ?_
 refine sx 4 ?_
 refine RunL.call C101 rfl rfl rfl (ac101 _ _ (W_i64 _) (by first | exact hs.pr | exact hm.2)) .nil ?_
 refine sx 2 ?_
 refine kp [2, 3, 4, 5, 8, 9, 10] rfl ?_
 refine Run.seq ?_
 refine sr ?_
 refine sx 4 ?_
 first | refine RunL.splitP (t := 105) rfl (fun g12 => ?_) (fun g12 => ?_) | refine RunL.split (t := 105) rfl (fun g12 => ?_) (fun g12 => ?_)
 refine sx 5 ?_
 refine kp [2, 3, 4, 5, 8, 9, 10, 110] rfl ?_
 refine Run.true rfl ?_
 refine sr ?_
 refine sx 5 ?_
 refine kp [4, 5, 6] rfl ?_
 refine Run.ret ?_
 have hres : rsStep s m = .error _ := hst.trans (rsFin_4a (by omega) (by omega)); refine ret_out (none, 0, none, 0) (.cellA T28 rfl pk (by rfl) (.cellA T43 rfl pk (by rfl) (.tmp rfl .nil))) trivial (by rw [hres]; rfl) ?_; rw [hres]; exact gv
 refine sx 2 ?_
 refine RunL.callG C102 rfl rfl rfl rfl rfl (ac102 _) .nil ?_
 refine sx 2 ?_
 refine kp [2, 3, 4, 5, 8, 9, 10, 110] rfl ?_
 first | refine Run.if rfl (fun h13 => ?_) (fun h13 => ?_) | refine Run.cond rfl (fun h13 => ?_) (fun h13 => ?_)
 refine sr ?_
 refine sx 5 ?_
 refine kp [4, 5, 6] rfl ?_
 refine Run.ret ?_
 have hres : rsStep s m = .error _ := hst.trans (rsFin_4b (by omega) (by first | assumption | exact (Bool.not_eq_true' _).mp (by assumption) | simp_all)); refine ret_out (none, 0, none, 0) (.cellA T28 rfl pk (by rfl) (.cellA T43 rfl pk (by rfl) (.tmp rfl .nil))) trivial (by rw [hres]; rfl) ?_; rw [hres]; exact gv
 refine Run.skip ?_
 refine sr ?_
 refine sx 4 ?_
 refine RunL.op rfl rfl (OpJ.sub rfl rfl ?_)
 refine sx 2 ?_
 refine kp [2, 3, 4, 5, 8, 9, 10] rfl ?_
 refine Run.seq ?_
 refine sr ?_
 refine sx 2 ?_
 refine kp [2, 3, 4, 5, 8, 9, 10, 120] rfl ?_
 refine Run.block ?_
 refine sr ?_
 refine sx 1 ?_
 refine RunL.set (congrArg Value.bool (decide_eq_false (by omega))) ?_
 refine asg rfl rfl ?_
 refine kp [2, 3, 4, 5, 8, 9, 10, 120, 121] rfl ?_
 refine Run.false rfl ?_
 refine sr ?_
 refine sx 1 ?_
 refine RunL.set (congrArg Value.bool (decide_eq_false (by omega))) ?_
 refine asg rfl rfl ?_
 refine kp [2, 3, 4, 5, 8, 9, 10, 120, 145] rfl ?_
 refine Run.false rfl ?_
 refine sr ?_
 refine sx 1 ?_
 refine RunL.set (congrArg Value.bool (decide_eq_true (by omega))) ?_
 refine asg rfl rfl ?_
 refine kp [2, 3, 4, 5, 8, 9, 10, 120, 164] rfl ?_
 refine Run.true rfl ?_
 refine Run.seq ?_
 refine regionD HM ?_
 refine RunD.rdOpen (R := RP) pk hRP (flat_ne (k := 7) (fun _ => rfl) (by decide) hx) fun b o e hrd => ?_
 subst e
 refine tk 0 rfl rfl rfl (DetJ.fieldAddr F28_4 rfl) ?_
 first | refine RunD.takeF 1 rfl rfl kr T26 rfl pk (by rfl) ?_ | refine RunD.takeO 1 rfl rfl kr T26 rfl pk (by assumption) (by rfl) (by exact fun _ => rfl) ?_
 refine tk 2 rfl rfl rfl (DetJ.move rfl) ?_
 refine tk 3 rfl rfl rfl (DetJ.indexAddr S26 rfl rfl (by omega)) ?_
 refine RunD.takeR (R := RP) 4 rfl rfl kr T66 rfl pk (hrd.elem (fun _ => rfl) hx) rfl ?_
 refine tk 5 rfl rfl rfl (DetJ.fieldAddr F47_4 rfl) ?_
 first | refine RunD.takeF 6 rfl rfl kr T3 rfl pk (by rfl) ?_ | refine RunD.takeO 6 rfl rfl kr T3 rfl pk (by assumption) (by rfl) (by exact fun _ => rfl) ?_
 refine RunD.op 7 [false, false, false, false, false, false, true] rfl rfl rfl kr kr (OpJ.callRet C103 rfl rfl (ac103 p m hm.1) .nil ⟨po, ?_⟩)
 refine tk 8 rfl rfl rfl (DetJ.assign rfl) ?_
 refine kd [3, 4, 5, 8, 9, 10, 13] rfl ?_
 refine sr ?_
 refine sx 3 ?_
 refine RunL.op rfl rfl (OpJ.sub rfl rfl ?_)
 refine sx 2 ?_
 refine kp [3, 4, 5, 8, 9, 10, 13] rfl ?_
 refine Run.seq ?_
 refine regionD HM ?_
 refine RunD.ownAddr pk (flat_ne (k := 7) (fun _ => rfl) (by decide) hx) fun bq e hcap => ?_
 subst e
 refine tk 0 rfl rfl rfl (DetJ.fieldAddr F28_4 rfl) ?_
 first | refine RunD.takeF 1 rfl rfl kr T26 rfl pk (by rfl) ?_ | refine RunD.takeO 1 rfl rfl kr T26 rfl pk (by assumption) (by rfl) (by exact fun _ => rfl) ?_
 refine tk 2 rfl rfl rfl (DetJ.move rfl) ?_
 refine tk 3 rfl rfl rfl (DetJ.indexAddr S26 rfl rfl (by omega)) ?_
 refine tk 4 rfl rfl rfl (DetJ.fieldAddr F66_5 rfl) ?_
 first | refine RunD.takeF 5 rfl rfl kr T3 rfl pk (by rfl) ?_ | refine RunD.takeO 5 rfl rfl kr T3 rfl pk (by assumption) (by rfl) (by exact fun _ => rfl) ?_
 refine tk 6 rfl rfl rfl (DetJ.fieldAddr F47_4 rfl) ?_
 first | refine RunD.takeF 7 rfl rfl kr T3 rfl pk (by rfl) ?_ | refine RunD.takeO 7 rfl rfl kr T3 rfl pk (by assumption) (by rfl) (by exact fun _ => rfl) ?_
 refine tk 8 rfl rfl rfl (DetJ.add rfl rfl) ?_
 refine tk 9 rfl rfl rfl (DetJ.indexAddr S26 rfl rfl (by omega)) ?_
 refine tk 10 rfl rfl rfl (DetJ.fieldAddr F66_5 rfl) ?_
 refine RunD.op 11 [false, false, false, false, false, false, false, false, false, false, false] rfl rfl rfl kr kr (OpJ.storeO (i := i) (u' := sendP p m) T3 rfl rfl rfl hx (fun _ => rfl) (by decide) rfl up ⟨po, ?_⟩)
 refine kd [4, 5, 8, 9, 10, 13] rfl ?_
 refine Run.region ?_
 have hx1 := set_get hx (sendP p m)
 refine sx 7 ?_
 refine RunL.op rfl rfl (OpJ.add rfl rfl ?_)
 refine sx 2 ?_
 refine RunL.op rfl rfl (OpJ.storeO (i := i) (u' := backP p m) T3 rfl rfl rfl hx1 (fun _ => rfl) (by decide) rfl up ?_)
 rw [List.set_set]
 refine kp [4, 5, 8, 9] rfl ?_
 refine Run.seq ?_
 refine sr ?_
 refine RunL.ownNil 64 4 ?_
 refine sx 2 ?_
 refine RunL.call C102 rfl rfl rfl (ac102 _) .nil ?_
 refine RunL.op rfl rfl (OpJ.not rfl ?_)
 refine kp [4, 5, 8, 9, 234] rfl ?_
 first | refine Run.if rfl (fun h14 => ?_) (fun h14 => ?_) | refine Run.cond rfl (fun h14 => ?_) (fun h14 => ?_)
 refine sr ?_
 refine sx 5 ?_
 refine kp [4, 5, 6] rfl ?_
 refine Run.ret ?_
 have hres : rsStep s m = .error _ := hst.trans (rsFin_4c (by omega) (by omega) (by first | assumption | exact (Bool.not_eq_false' _).mp (by assumption) | simp_all) (by first | assumption | exact (Bool.not_eq_true' _).mp (by assumption) | simp_all)); refine ret_out (none, 0, none, 0) (.cellA T28 rfl pk (by rfl) (.cellA T43 rfl pk (by rfl) (.tmp rfl .nil))) trivial (by rw [hres]; rfl) ?_; rw [hres]; exact gv
 refine Run.skip ?_
 refine Run.seq ?_
 refine regionD HM ?_
 first | refine RunD.takeW 0 rfl rfl kr T28 rfl pk (by rfl) ?_ | refine RunD.takeP 0 rfl rfl kr T28 rfl pk (by simp) ?_ | refine RunD.takeE 0 rfl rfl kr T28 rfl pk (by assumption) (by exact fun _ => rfl) rfl (by decide) ?_
 first | refine RunD.takeW 1 rfl rfl kr T43 rfl pk (by rfl) ?_ | refine RunD.takeP 1 rfl rfl kr T43 rfl pk (by simp) ?_ | refine RunD.takeE 1 rfl rfl kr T43 rfl pk (by assumption) (by exact fun _ => rfl) rfl (by decide) ?_
 refine RunD.op 2 [true, false] rfl rfl rfl kr kr (OpJ.storeW T28 rfl rfl rfl rfl (by simp [Value.oneCell', Pa.c, Ly.c, Mv.c, Co.c]) up ⟨po, ?_⟩)
 refine RunD.op 3 [false] rfl rfl rfl kr kr (OpJ.storeW T43 rfl rfl rfl rfl (by simp [Value.oneCell', Pa.c, Ly.c, Mv.c, Co.c]) up ⟨po, ?_⟩)
 refine tk 4 rfl rfl rfl (DetJ.assign rfl) ?_
 refine kd [4, 5, 6] rfl ?_
 refine Run.ret ?_
 have hres : rsStep s m = .ok _ := hst.trans (rsFin_ok (by omega) (by omega) (by first | assumption | exact (Bool.not_eq_false' _).mp (by assumption) | simp_all) (by first | assumption | exact (Bool.not_eq_false' _).mp (by assumption) | simp_all)); refine ret_out (none, 0, (some ⟨bq, 0, none⟩), c35) (.cellA T28 rfl pk (by rfl) (.cellA T43 rfl pk (by rfl) (.tmp rfl .nil))) trivial (by rw [hres]; first | rfl | (simp only [StV, Sk.c, List.length_set]; rfl)) ?_; rw [hres]; (try simp only [StB, List.length_set]); exact gv
 refine kp [2, 3, 4, 5, 8, 9, 10] rfl ?_
 refine Run.seq ?_
 refine sr ?_
 refine sx 3 ?_
 refine RunL.set (congrArg Value.bool (decide_eq_false (by omega))) ?_
 refine sx 4 ?_
 refine RunL.set (congrArg Value.bool (decide_eq_true (by omega))) ?_
 refine sx 6 ?_
 refine kp [2, 3, 4, 5, 8, 9, 10, 52] rfl ?_
 refine Run.true rfl ?_
 refine sr ?_
 refine sx 2 ?_
 refine RunL.call C100 rfl rfl rfl (ac100 s la lc pa pc RP m hRP hnp) tks ?_
 refine sx 5 ?_
 rcases hr : refd (if m.kind = 3 then 2 else 1) m s.past with e | ⟨i, p⟩
 have hst := h0.trans (rs_e (by omega) hr)
 refine kp [2, 3, 4, 5, 8, 9, 11, 12] rfl ?_
 refine Run.seq ?_
 refine sr ?_
 refine sx 2 ?_
 first | refine RunL.set (congrArg Value.bool (decide_eq_true (show errOf (Except.error _) ≠ 0 from refd_ne hr))) ?_ | skip
 refine kp [2, 3, 4, 5, 8, 9, 11, 12, 60] rfl ?_
 refine Run.true rfl ?_
 refine sr ?_
 refine sx 6 ?_
 refine kp [4, 5, 6] rfl ?_
 refine Run.ret ?_
 have hres : rsStep s m = .error e := hst; refine ret_out (none, 0, none, 0) (.cellA T28 rfl pk (by rfl) (.cellA T43 rfl pk (by rfl) (.tmp rfl .nil))) trivial (by rw [hres]; rfl) ?_; rw [hres]; exact gv
 have hst := h0.trans (rs_4 hk hr)
 obtain ⟨hx, _⟩ := refd_one (by split <;> decide) hr
 have hi := (List.getElem?_eq_some_iff.1 hx).1
 obtain ⟨hp1, hp2, hp3, hp4⟩ := hs.pa i p hx
 simp only [okIdx]
 refine kp [2, 3, 4, 5, 8, 9, 11, 12] rfl ?_
 refine Run.seq ?_
 refine sr ?_
 refine sx 2 ?_
 first | refine RunL.set (congrArg Value.bool (decide_eq_true (show errOf (Except.error _) ≠ 0 from refd_ne hr))) ?_ | skip
 refine kp [2, 3, 4, 5, 8, 9, 11, 12, 60] rfl ?_
 refine Run.false rfl ?_
 refine Run.skip ?_
 refine Run.region ?_
 refine sx 2 ?_
 refine kp [2, 3, 4, 5, 8, 9, 10] rfl ?_
 refine Run.seq ?_
 refine sr ?_
 refine sx 2 ?_
 refine kp [2, 3, 4, 5, 8, 9, 10, 66] rfl ?_
 refine Run.block ?_
 refine Run.seq ?_
 refine sr ?_
 refine sx 1 ?_
 refine RunL.set (congrArg Value.bool (decide_eq_false (by omega))) ?_
 refine asg rfl rfl ?_
 refine kp [2, 3, 4, 5, 8, 9, 10, 66, 67] rfl ?_
 refine Run.false rfl ?_
 refine Run.region ?_
 refine sx 1 ?_
 refine RunL.set (congrArg Value.bool (decide_eq_false (by omega))) ?_
 refine asg rfl rfl ?_
 refine kp [2, 3, 4, 5, 8, 9, 10, 66, 67] rfl ?_
 refine Run.false rfl ?_
 refine Run.seq ?_
 refine sr ?_
 refine sx 1 ?_
 refine RunL.set (congrArg Value.bool (decide_eq_false (by omega))) ?_
 refine asg rfl rfl ?_
 refine kp [2, 3, 4, 5, 8, 9, 10, 66, 73] rfl ?_
 refine Run.false rfl ?_
 refine Run.region ?_
 refine sx 1 ?_
 refine RunL.set (congrArg Value.bool (decide_eq_true (by omega))) ?_
 refine asg rfl rfl ?_
 refine kp [2, 3, 4, 5, 8, 9, 10, 66, 73] rfl ?_
 refine Run.true rfl ?_
 refine Run.region ?_
 refine sx 5 ?_
 refine kp [2, 3, 4, 5, 8, 9, 10] rfl ?_
 refine sr ?_
 refine sx 4 ?_
 refine RunL.op rfl rfl (OpJ.add rfl rfl ?_)
 refine sx 2 ?_
 refine kp [2, 3, 4, 5, 8, 9, 10] rfl ?_
 refine Run.seq ?_
 refine sr ?_
 refine sx 3 ?_
 refine kp [2, 3, 4, 5, 8, 9, 10, 93] rfl ?_
 first | refine Run.if rfl (fun h15 => ?_) (fun h15 => ?_) | refine Run.cond rfl (fun h15 => ?_) (fun h15 => ?_)
 refine sr ?_
 refine sx 5 ?_
 refine kp [4, 5, 6] rfl ?_
 refine Run.ret ?_
 have hres : rsStep s m = .error _ := hst.trans (rsFin_21 (by omega)); refine ret_out (none, 0, none, 0) (.cellA T28 rfl pk (by rfl) (.cellA T43 rfl pk (by rfl) (.tmp rfl .nil))) trivial (by rw [hres]; rfl) ?_; rw [hres]; exact gv
 refine Run.skip ?_
 refine sr ?_
 refine sx 4 ?_
 refine RunL.call C101 rfl rfl rfl (ac101 _ _ (W_i64 _) (by first | exact hs.pr | exact hm.2)) .nil ?_
 refine sx 2 ?_
 refine kp [2, 3, 4, 5, 8, 9, 10] rfl ?_
 refine Run.seq ?_
 refine sr ?_
 refine sx 4 ?_
 first | refine RunL.splitP (t := 105) rfl (fun g16 => ?_) (fun g16 => ?_) | refine RunL.split (t := 105) rfl (fun g16 => ?_) (fun g16 => ?_)
 refine sx 5 ?_
 refine kp [2, 3, 4, 5, 8, 9, 10, 110] rfl ?_
 refine Run.true rfl ?_
 refine sr ?_
 refine sx 5 ?_
 refine kp [4, 5, 6] rfl ?_
 refine Run.ret ?_
 have hres : rsStep s m = .error _ := hst.trans (rsFin_4a (by omega) (by omega)); refine ret_out (none, 0, none, 0) (.cellA T28 rfl pk (by rfl) (.cellA T43 rfl pk (by rfl) (.tmp rfl .nil))) trivial (by rw [hres]; rfl) ?_; rw [hres]; exact gv
 refine sx 2 ?_
 refine RunL.callG C102 rfl rfl rfl rfl rfl (ac102 _) .nil ?_
 refine sx 2 ?_
 refine kp [2, 3, 4, 5, 8, 9, 10, 110] rfl ?_
 first | refine Run.if rfl (fun h17 => ?_) (fun h17 => ?_) | refine Run.cond rfl (fun h17 => ?_) (fun h17 => ?_)
 refine sr ?_
 refine sx 5 ?_
 refine kp [4, 5, 6] rfl ?_
 refine Run.ret ?_
 have hres : rsStep s m = .error _ := hst.trans (rsFin_4b (by omega) (by first | assumption | exact (Bool.not_eq_true' _).mp (by assumption) | simp_all)); refine ret_out (none, 0, none, 0) (.cellA T28 rfl pk (by rfl) (.cellA T43 rfl pk (by rfl) (.tmp rfl .nil))) trivial (by rw [hres]; rfl) ?_; rw [hres]; exact gv
 refine Run.skip ?_
 refine sr ?_
 refine sx 4 ?_
 refine RunL.op rfl rfl (OpJ.sub rfl rfl ?_)
 refine sx 2 ?_
 refine kp [2, 3, 4, 5, 8, 9, 10] rfl ?_
 refine Run.seq ?_
 refine sr ?_
 refine sx 2 ?_
 refine kp [2, 3, 4, 5, 8, 9, 10, 120] rfl ?_
 refine Run.block ?_
 refine sr ?_
 refine sx 1 ?_
 refine RunL.set (congrArg Value.bool (decide_eq_false (by omega))) ?_
 refine asg rfl rfl ?_
 refine kp [2, 3, 4, 5, 8, 9, 10, 120, 121] rfl ?_
 refine Run.false rfl ?_
 refine sr ?_
 refine sx 1 ?_
 refine RunL.set (congrArg Value.bool (decide_eq_false (by omega))) ?_
 refine asg rfl rfl ?_
 refine kp [2, 3, 4, 5, 8, 9, 10, 120, 145] rfl ?_
 refine Run.false rfl ?_
 refine sr ?_
 refine sx 1 ?_
 refine RunL.set (congrArg Value.bool (decide_eq_false (by omega))) ?_
 refine asg rfl rfl ?_
 refine kp [2, 3, 4, 5, 8, 9, 10, 120, 164] rfl ?_
 refine Run.false rfl ?_
 refine sr ?_
 refine sx 1 ?_
 refine RunL.set (congrArg Value.bool (decide_eq_true (by omega))) ?_
 refine asg rfl rfl ?_
 refine kp [3, 4, 5, 8, 9, 10, 120, 200] rfl ?_
 refine Run.true rfl ?_
 refine sr ?_
 refine sx 5 ?_
 refine RunL.op rfl rfl (OpJ.sub rfl rfl ?_)
 refine sx 2 ?_
 refine kp [3, 4, 5, 8, 9, 10] rfl ?_
 refine regionD HM ?_
 refine RunD.ownAddr pk (flat_ne (k := 7) (fun _ => rfl) (by decide) hx) fun bq e hcap => ?_
 subst e
 refine tk 0 rfl rfl rfl (DetJ.fieldAddr F28_4 rfl) ?_
 first | refine RunD.takeF 1 rfl rfl kr T26 rfl pk (by rfl) ?_ | refine RunD.takeO 1 rfl rfl kr T26 rfl pk (by assumption) (by rfl) (by exact fun _ => rfl) ?_
 refine tk 2 rfl rfl rfl (DetJ.move rfl) ?_
 refine tk 3 rfl rfl rfl (DetJ.indexAddr S26 rfl rfl (by omega)) ?_
 refine tk 4 rfl rfl rfl (DetJ.fieldAddr F66_5 rfl) ?_
 first | refine RunD.takeF 5 rfl rfl kr T3 rfl pk (by rfl) ?_ | refine RunD.takeO 5 rfl rfl kr T3 rfl pk (by assumption) (by rfl) (by exact fun _ => rfl) ?_
 refine tk 6 rfl rfl rfl (DetJ.fieldAddr F47_4 rfl) ?_
 first | refine RunD.takeF 7 rfl rfl kr T3 rfl pk (by rfl) ?_ | refine RunD.takeO 7 rfl rfl kr T3 rfl pk (by assumption) (by rfl) (by exact fun _ => rfl) ?_
 refine tk 8 rfl rfl rfl (DetJ.add rfl rfl) ?_
 refine tk 9 rfl rfl rfl (DetJ.indexAddr S26 rfl rfl (by omega)) ?_
 refine tk 10 rfl rfl rfl (DetJ.fieldAddr F66_5 rfl) ?_
 refine RunD.op 11 [false, false, false, false, false, false, false, false, false, false, false] rfl rfl rfl kr kr (OpJ.storeO (i := i) (u' := sendP p m) T3 rfl rfl rfl hx (fun _ => rfl) (by decide) rfl up ⟨po, ?_⟩)
 refine kd [4, 5, 8, 9] rfl ?_
 refine Run.seq ?_
 refine sr ?_
 refine RunL.ownNil 64 4 ?_
 refine sx 2 ?_
 refine RunL.call C102 rfl rfl rfl (ac102 _) .nil ?_
 refine RunL.op rfl rfl (OpJ.not rfl ?_)
 refine kp [4, 5, 8, 9, 234] rfl ?_
 first | refine Run.if rfl (fun h18 => ?_) (fun h18 => ?_) | refine Run.cond rfl (fun h18 => ?_) (fun h18 => ?_)
 refine sr ?_
 refine sx 5 ?_
 refine kp [4, 5, 6] rfl ?_
 refine Run.ret ?_
 have hres : rsStep s m = .error _ := hst.trans (rsFin_4c (by omega) (by omega) (by first | assumption | exact (Bool.not_eq_false' _).mp (by assumption) | simp_all) (by first | assumption | exact (Bool.not_eq_true' _).mp (by assumption) | simp_all)); refine ret_out (none, 0, none, 0) (.cellA T28 rfl pk (by rfl) (.cellA T43 rfl pk (by rfl) (.tmp rfl .nil))) trivial (by rw [hres]; rfl) ?_; rw [hres]; exact gv
 refine Run.skip ?_
 refine Run.seq ?_
 refine regionD HM ?_
 first | refine RunD.takeW 0 rfl rfl kr T28 rfl pk (by rfl) ?_ | refine RunD.takeP 0 rfl rfl kr T28 rfl pk (by simp) ?_ | refine RunD.takeE 0 rfl rfl kr T28 rfl pk (by assumption) (by exact fun _ => rfl) rfl (by decide) ?_
 first | refine RunD.takeW 1 rfl rfl kr T43 rfl pk (by rfl) ?_ | refine RunD.takeP 1 rfl rfl kr T43 rfl pk (by simp) ?_ | refine RunD.takeE 1 rfl rfl kr T43 rfl pk (by assumption) (by exact fun _ => rfl) rfl (by decide) ?_
 refine RunD.op 2 [true, false] rfl rfl rfl kr kr (OpJ.storeW T28 rfl rfl rfl rfl (by simp [Value.oneCell', Pa.c, Ly.c, Mv.c, Co.c]) up ⟨po, ?_⟩)
 refine RunD.op 3 [false] rfl rfl rfl kr kr (OpJ.storeW T43 rfl rfl rfl rfl (by simp [Value.oneCell', Pa.c, Ly.c, Mv.c, Co.c]) up ⟨po, ?_⟩)
 refine tk 4 rfl rfl rfl (DetJ.assign rfl) ?_
 refine kd [4, 5, 6] rfl ?_
 refine Run.ret ?_
 have hres : rsStep s m = .ok _ := hst.trans (rsFin_ok (by omega) (by omega) (by first | assumption | exact (Bool.not_eq_false' _).mp (by assumption) | simp_all) (by first | assumption | exact (Bool.not_eq_false' _).mp (by assumption) | simp_all)); refine ret_out (none, 0, (some ⟨bq, 0, none⟩), c35) (.cellA T28 rfl pk (by rfl) (.cellA T43 rfl pk (by rfl) (.tmp rfl .nil))) trivial (by rw [hres]; first | rfl | (simp only [StV, Sk.c, List.length_set]; rfl)) ?_; rw [hres]; (try simp only [StB, List.length_set]); exact gv
 refine kp [2, 3, 4, 5, 8, 9, 10] rfl ?_
 refine Run.seq ?_
 refine sr ?_
 refine sx 3 ?_
 refine RunL.set (congrArg Value.bool (decide_eq_false (by omega))) ?_
 refine sx 4 ?_
 refine RunL.set (congrArg Value.bool (decide_eq_false (by omega))) ?_
 refine sx 5 ?_
 refine RunL.set (congrArg Value.bool (decide_eq_true (by omega))) ?_
 refine sx 1 ?_
 refine kp [2, 3, 4, 5, 8, 9, 10, 52] rfl ?_
 refine Run.true rfl ?_
 refine sr ?_
 refine sx 2 ?_
 refine RunL.call C100 rfl rfl rfl (ac100 s la lc pa pc RP m hRP hnp) tks ?_
 refine sx 5 ?_
 rcases hr : refd (if m.kind = 3 then 2 else 1) m s.past with e | ⟨i, p⟩
 have hst := h0.trans (rs_e (by omega) hr)
 refine kp [2, 3, 4, 5, 8, 9, 11, 12] rfl ?_
 refine Run.seq ?_
 refine sr ?_
 refine sx 2 ?_
 first | refine RunL.set (congrArg Value.bool (decide_eq_true (show errOf (Except.error _) ≠ 0 from refd_ne hr))) ?_ | skip
 refine kp [2, 3, 4, 5, 8, 9, 11, 12, 60] rfl ?_
 refine Run.true rfl ?_
 refine sr ?_
 refine sx 6 ?_
 refine kp [4, 5, 6] rfl ?_
 refine Run.ret ?_
 have hres : rsStep s m = .error e := hst; refine ret_out (none, 0, none, 0) (.cellA T28 rfl pk (by rfl) (.cellA T43 rfl pk (by rfl) (.tmp rfl .nil))) trivial (by rw [hres]; rfl) ?_; rw [hres]; exact gv
 have hst := h0.trans (rs_5 hk hr)
 obtain ⟨hx, _⟩ := refd_one (by split <;> decide) hr
 have hi := (List.getElem?_eq_some_iff.1 hx).1
 obtain ⟨hp1, hp2, hp3, hp4⟩ := hs.pa i p hx
 simp only [okIdx]
 refine kp [2, 3, 4, 5, 8, 9, 11, 12] rfl ?_
 refine Run.seq ?_
 refine sr ?_
 refine sx 2 ?_
 first | refine RunL.set (congrArg Value.bool (decide_eq_true (show errOf (Except.error _) ≠ 0 from refd_ne hr))) ?_ | skip
 refine kp [2, 3, 4, 5, 8, 9, 11, 12, 60] rfl ?_
 refine Run.false rfl ?_
 refine Run.skip ?_
 refine Run.region ?_
 refine sx 2 ?_
 refine kp [2, 3, 4, 5, 8, 9, 10] rfl ?_
 refine Run.seq ?_
 refine sr ?_
 refine sx 2 ?_
 refine kp [2, 3, 4, 5, 8, 9, 10, 66] rfl ?_
 refine Run.block ?_
 refine Run.seq ?_
 refine sr ?_
 refine sx 1 ?_
 refine RunL.set (congrArg Value.bool (decide_eq_false (by omega))) ?_
 refine asg rfl rfl ?_
 refine kp [2, 3, 4, 5, 8, 9, 10, 66, 67] rfl ?_
 refine Run.false rfl ?_
 refine Run.region ?_
 refine sx 1 ?_
 refine RunL.set (congrArg Value.bool (decide_eq_false (by omega))) ?_
 refine asg rfl rfl ?_
 refine kp [2, 3, 4, 5, 8, 9, 10, 66, 67] rfl ?_
 refine Run.false rfl ?_
 refine Run.seq ?_
 refine sr ?_
 refine sx 1 ?_
 refine RunL.set (congrArg Value.bool (decide_eq_false (by omega))) ?_
 refine asg rfl rfl ?_
 refine kp [2, 3, 4, 5, 8, 9, 10, 66, 73] rfl ?_
 refine Run.false rfl ?_
 refine Run.region ?_
 refine sx 1 ?_
 refine RunL.set (congrArg Value.bool (decide_eq_false (by omega))) ?_
 refine asg rfl rfl ?_
 refine kp [2, 3, 4, 5, 8, 9, 10, 66, 73] rfl ?_
 refine Run.false rfl ?_
 refine sr ?_
 refine sx 1 ?_
 refine RunL.set (congrArg Value.bool (decide_eq_false (by omega))) ?_
 refine asg rfl rfl ?_
 refine kp [2, 3, 4, 5, 8, 9, 10, 80] rfl ?_
 refine Run.false rfl ?_
 refine Run.skip ?_
 refine sr ?_
 refine sx 4 ?_
 refine RunL.op rfl rfl (OpJ.add rfl rfl ?_)
 refine sx 2 ?_
 refine kp [2, 3, 4, 5, 8, 9, 10] rfl ?_
 refine Run.seq ?_
 refine sr ?_
 refine sx 3 ?_
 refine kp [2, 3, 4, 5, 8, 9, 10, 93] rfl ?_
 first | refine Run.if rfl (fun h19 => ?_) (fun h19 => ?_) | refine Run.cond rfl (fun h19 => ?_) (fun h19 => ?_)
 refine sr ?_
 refine sx 5 ?_
 refine kp [4, 5, 6] rfl ?_
 refine Run.ret ?_
 have hres : rsStep s m = .error _ := hst.trans (rsFin_21 (by omega)); refine ret_out (none, 0, none, 0) (.cellA T28 rfl pk (by rfl) (.cellA T43 rfl pk (by rfl) (.tmp rfl .nil))) trivial (by rw [hres]; rfl) ?_; rw [hres]; exact gv
 refine Run.skip ?_
 refine sr ?_
 refine sx 4 ?_
 refine RunL.call C101 rfl rfl rfl (ac101 _ _ (W_i64 _) (by first | exact hs.pr | exact hm.2)) .nil ?_
 refine sx 2 ?_
 refine kp [2, 3, 4, 5, 8, 9, 10] rfl ?_
 refine Run.seq ?_
 refine sr ?_
 refine sx 4 ?_
 first | refine RunL.splitP (t := 105) rfl (fun g20 => ?_) (fun g20 => ?_) | refine RunL.split (t := 105) rfl (fun g20 => ?_) (fun g20 => ?_)
 refine sx 5 ?_
 refine kp [2, 3, 4, 5, 8, 9, 10, 110] rfl ?_
 refine Run.true rfl ?_
 refine sr ?_
 refine sx 5 ?_
 refine kp [4, 5, 6] rfl ?_
 refine Run.ret ?_
 have hres : rsStep s m = .error _ := hst.trans (rsFin_4a (by omega) (by omega)); refine ret_out (none, 0, none, 0) (.cellA T28 rfl pk (by rfl) (.cellA T43 rfl pk (by rfl) (.tmp rfl .nil))) trivial (by rw [hres]; rfl) ?_; rw [hres]; exact gv
 refine sx 2 ?_
 refine RunL.callG C102 rfl rfl rfl rfl rfl (ac102 _) .nil ?_
 refine sx 2 ?_
 refine kp [2, 3, 4, 5, 8, 9, 10, 110] rfl ?_
 first | refine Run.if rfl (fun h21 => ?_) (fun h21 => ?_) | refine Run.cond rfl (fun h21 => ?_) (fun h21 => ?_)
 refine sr ?_
 refine sx 5 ?_
 refine kp [4, 5, 6] rfl ?_
 refine Run.ret ?_
 have hres : rsStep s m = .error _ := hst.trans (rsFin_4b (by omega) (by first | assumption | exact (Bool.not_eq_true' _).mp (by assumption) | simp_all)); refine ret_out (none, 0, none, 0) (.cellA T28 rfl pk (by rfl) (.cellA T43 rfl pk (by rfl) (.tmp rfl .nil))) trivial (by rw [hres]; rfl) ?_; rw [hres]; exact gv
 refine Run.skip ?_
 refine sr ?_
 refine sx 4 ?_
 refine RunL.op rfl rfl (OpJ.sub rfl rfl ?_)
 refine sx 2 ?_
 refine kp [2, 3, 4, 5, 8, 9, 10] rfl ?_
 refine Run.seq ?_
 refine sr ?_
 refine sx 2 ?_
 refine kp [2, 3, 4, 5, 8, 9, 10, 120] rfl ?_
 refine Run.block ?_
 refine sr ?_
 refine sx 1 ?_
 refine RunL.set (congrArg Value.bool (decide_eq_false (by omega))) ?_
 refine asg rfl rfl ?_
 refine kp [2, 3, 4, 5, 8, 9, 10, 120, 121] rfl ?_
 refine Run.false rfl ?_
 refine sr ?_
 refine sx 1 ?_
 refine RunL.set (congrArg Value.bool (decide_eq_false (by omega))) ?_
 refine asg rfl rfl ?_
 refine kp [2, 3, 4, 5, 8, 9, 10, 120, 145] rfl ?_
 refine Run.false rfl ?_
 refine sr ?_
 refine sx 1 ?_
 refine RunL.set (congrArg Value.bool (decide_eq_false (by omega))) ?_
 refine asg rfl rfl ?_
 refine kp [2, 3, 4, 5, 8, 9, 10, 120, 164] rfl ?_
 refine Run.false rfl ?_
 refine sr ?_
 refine sx 1 ?_
 refine RunL.set (congrArg Value.bool (decide_eq_false (by omega))) ?_
 refine asg rfl rfl ?_
 refine kp [3, 4, 5, 8, 9, 10, 120, 200] rfl ?_
 refine Run.false rfl ?_
 refine sr ?_
 refine sx 1 ?_
 refine RunL.set (congrArg Value.bool (decide_eq_true (by omega))) ?_
 refine asg rfl rfl ?_
 refine kp [3, 4, 5, 8, 9, 120, 220] rfl ?_
 refine Run.true rfl ?_
 refine Run.region ?_
 refine sx 4 ?_
 refine kp [4, 5, 8, 9] rfl ?_
 refine Run.seq ?_
 refine sr ?_
 refine RunL.ownNil 64 4 ?_
 refine sx 2 ?_
 refine RunL.call C102 rfl rfl rfl (ac102 _) .nil ?_
 refine RunL.op rfl rfl (OpJ.not rfl ?_)
 refine kp [4, 5, 8, 9, 234] rfl ?_
 first | refine Run.if rfl (fun h22 => ?_) (fun h22 => ?_) | refine Run.cond rfl (fun h22 => ?_) (fun h22 => ?_)
 refine sr ?_
 refine sx 5 ?_
 refine kp [4, 5, 6] rfl ?_
 refine Run.ret ?_
 have hres : rsStep s m = .error _ := hst.trans (rsFin_4c (by omega) (by omega) (by first | assumption | exact (Bool.not_eq_false' _).mp (by assumption) | simp_all) (by first | assumption | exact (Bool.not_eq_true' _).mp (by assumption) | simp_all)); refine ret_out (none, 0, none, 0) (.cellA T28 rfl pk (by rfl) (.cellA T43 rfl pk (by rfl) (.tmp rfl .nil))) trivial (by rw [hres]; rfl) ?_; rw [hres]; exact gv
 refine Run.skip ?_
 refine Run.seq ?_
 refine regionD HM ?_
 first | refine RunD.takeW 0 rfl rfl kr T28 rfl pk (by rfl) ?_ | refine RunD.takeP 0 rfl rfl kr T28 rfl pk (by simp) ?_ | refine RunD.takeE 0 rfl rfl kr T28 rfl pk (by assumption) (by exact fun _ => rfl) rfl (by decide) ?_
 first | refine RunD.takeW 1 rfl rfl kr T43 rfl pk (by rfl) ?_ | refine RunD.takeP 1 rfl rfl kr T43 rfl pk (by simp) ?_ | refine RunD.takeE 1 rfl rfl kr T43 rfl pk (by assumption) (by exact fun _ => rfl) rfl (by decide) ?_
 refine RunD.op 2 [true, false] rfl rfl rfl kr kr (OpJ.storeW T28 rfl rfl rfl rfl (by simp [Value.oneCell', Pa.c, Ly.c, Mv.c, Co.c]) up ⟨po, ?_⟩)
 refine RunD.op 3 [false] rfl rfl rfl kr kr (OpJ.storeW T43 rfl rfl rfl rfl (by simp [Value.oneCell', Pa.c, Ly.c, Mv.c, Co.c]) up ⟨po, ?_⟩)
 refine tk 4 rfl rfl rfl (DetJ.assign rfl) ?_
 refine kd [4, 5, 6] rfl ?_
 refine Run.ret ?_
 have hres : rsStep s m = .ok _ := hst.trans (rsFin_ok (by omega) (by omega) (by first | assumption | exact (Bool.not_eq_false' _).mp (by assumption) | simp_all) (by first | assumption | exact (Bool.not_eq_false' _).mp (by assumption) | simp_all)); refine ret_out (none, 0, a35, c35) (.cellA T28 rfl pk (by rfl) (.cellA T43 rfl pk (by rfl) (.tmp rfl .nil))) trivial (by rw [hres]; first | rfl | (simp only [StV, Sk.c, List.length_set]; rfl)) ?_; rw [hres]; (try simp only [StB, List.length_set]); exact gv
 have hst := h0.trans (rs_6 hk)
 refine kp [2, 3, 4, 5, 8, 9, 10] rfl ?_
 refine Run.seq ?_
 refine sr ?_
 refine sx 3 ?_
 refine RunL.set (congrArg Value.bool (decide_eq_false (by omega))) ?_
 refine sx 4 ?_
 refine RunL.set (congrArg Value.bool (decide_eq_false (by omega))) ?_
 refine sx 5 ?_
 refine RunL.set (congrArg Value.bool (decide_eq_false (by omega))) ?_
 refine sx 1 ?_
 refine kp [2, 3, 4, 5, 8, 9, 10, 52] rfl ?_
 refine Run.false rfl ?_
 refine Run.skip ?_
 refine Run.seq ?_
 refine sr ?_
 refine sx 2 ?_
 refine kp [2, 3, 4, 5, 8, 9, 10, 66] rfl ?_
 refine Run.block ?_
 refine Run.seq ?_
 refine sr ?_
 refine sx 1 ?_
 refine RunL.set (congrArg Value.bool (decide_eq_false (by omega))) ?_
 refine asg rfl rfl ?_
 refine kp [2, 3, 4, 5, 8, 9, 10, 66, 67] rfl ?_
 refine Run.false rfl ?_
 refine Run.region ?_
 refine sx 1 ?_
 refine RunL.set (congrArg Value.bool (decide_eq_false (by omega))) ?_
 refine asg rfl rfl ?_
 refine kp [2, 3, 4, 5, 8, 9, 10, 66, 67] rfl ?_
 refine Run.false rfl ?_
 refine Run.seq ?_
 refine sr ?_
 refine sx 1 ?_
 refine RunL.set (congrArg Value.bool (decide_eq_false (by omega))) ?_
 refine asg rfl rfl ?_
 refine kp [2, 3, 4, 5, 8, 9, 10, 66, 73] rfl ?_
 refine Run.false rfl ?_
 refine Run.region ?_
 refine sx 1 ?_
 refine RunL.set (congrArg Value.bool (decide_eq_false (by omega))) ?_
 refine asg rfl rfl ?_
 refine kp [2, 3, 4, 5, 8, 9, 10, 66, 73] rfl ?_
 refine Run.false rfl ?_
 refine sr ?_
 refine sx 1 ?_
 refine RunL.set (congrArg Value.bool (decide_eq_true (by omega))) ?_
 refine asg rfl rfl ?_
 refine kp [2, 3, 4, 5, 8, 9, 10, 80] rfl ?_
 refine Run.true rfl ?_
 refine Run.region ?_
 refine sx 4 ?_
 refine kp [2, 3, 4, 5, 8, 9, 10] rfl ?_
 refine sr ?_
 refine sx 4 ?_
 refine RunL.op rfl rfl (OpJ.add rfl rfl ?_)
 refine sx 2 ?_
 refine kp [2, 3, 4, 5, 8, 9, 10] rfl ?_
 refine Run.seq ?_
 refine sr ?_
 refine sx 3 ?_
 refine kp [2, 3, 4, 5, 8, 9, 10, 93] rfl ?_
 first | refine Run.if rfl (fun h23 => ?_) (fun h23 => ?_) | refine Run.cond rfl (fun h23 => ?_) (fun h23 => ?_)
 refine sr ?_
 refine sx 5 ?_
 refine kp [4, 5, 6] rfl ?_
 refine Run.ret ?_
 have hres : rsStep s m = .error _ := hst.trans (rsFin_21 (by omega)); refine ret_out (none, 0, none, 0) (.cellA T28 rfl pk (by rfl) (.cellA T43 rfl pk (by rfl) (.tmp rfl .nil))) trivial (by rw [hres]; rfl) ?_; rw [hres]; exact gv
 refine Run.skip ?_
 refine sr ?_
 refine sx 4 ?_
 refine RunL.call C101 rfl rfl rfl (ac101 _ _ (W_i64 _) (by first | exact hs.pr | exact hm.2)) .nil ?_
 refine sx 2 ?_
 refine kp [2, 3, 4, 5, 8, 9, 10] rfl ?_
 refine Run.seq ?_
 refine sr ?_
 refine sx 4 ?_
 first | refine RunL.splitP (t := 105) rfl (fun g24 => ?_) (fun g24 => ?_) | refine RunL.split (t := 105) rfl (fun g24 => ?_) (fun g24 => ?_)
 refine sx 5 ?_
 refine kp [2, 3, 4, 5, 8, 9, 10, 110] rfl ?_
 refine Run.true rfl ?_
 refine sr ?_
 refine sx 5 ?_
 refine kp [4, 5, 6] rfl ?_
 refine Run.ret ?_
 have hres : rsStep s m = .error _ := hst.trans (rsFin_4a (by omega) (by omega)); refine ret_out (none, 0, none, 0) (.cellA T28 rfl pk (by rfl) (.cellA T43 rfl pk (by rfl) (.tmp rfl .nil))) trivial (by rw [hres]; rfl) ?_; rw [hres]; exact gv
 refine sx 2 ?_
 refine RunL.callG C102 rfl rfl rfl rfl rfl (ac102 _) .nil ?_
 refine sx 2 ?_
 refine kp [2, 3, 4, 5, 8, 9, 10, 110] rfl ?_
 first | refine Run.if rfl (fun h25 => ?_) (fun h25 => ?_) | refine Run.cond rfl (fun h25 => ?_) (fun h25 => ?_)
 refine sr ?_
 refine sx 5 ?_
 refine kp [4, 5, 6] rfl ?_
 refine Run.ret ?_
 have hres : rsStep s m = .error _ := hst.trans (rsFin_4b (by omega) (by first | assumption | exact (Bool.not_eq_true' _).mp (by assumption) | simp_all)); refine ret_out (none, 0, none, 0) (.cellA T28 rfl pk (by rfl) (.cellA T43 rfl pk (by rfl) (.tmp rfl .nil))) trivial (by rw [hres]; rfl) ?_; rw [hres]; exact gv
 refine Run.skip ?_
 refine sr ?_
 refine sx 4 ?_
 refine RunL.op rfl rfl (OpJ.sub rfl rfl ?_)
 refine sx 2 ?_
 refine kp [2, 3, 4, 5, 8, 9, 10] rfl ?_
 refine Run.seq ?_
 refine sr ?_
 refine sx 2 ?_
 refine kp [2, 3, 4, 5, 8, 9, 10, 120] rfl ?_
 refine Run.block ?_
 refine sr ?_
 refine sx 1 ?_
 refine RunL.set (congrArg Value.bool (decide_eq_false (by omega))) ?_
 refine asg rfl rfl ?_
 refine kp [2, 3, 4, 5, 8, 9, 10, 120, 121] rfl ?_
 refine Run.false rfl ?_
 refine sr ?_
 refine sx 1 ?_
 refine RunL.set (congrArg Value.bool (decide_eq_false (by omega))) ?_
 refine asg rfl rfl ?_
 refine kp [2, 3, 4, 5, 8, 9, 10, 120, 145] rfl ?_
 refine Run.false rfl ?_
 refine sr ?_
 refine sx 1 ?_
 refine RunL.set (congrArg Value.bool (decide_eq_false (by omega))) ?_
 refine asg rfl rfl ?_
 refine kp [2, 3, 4, 5, 8, 9, 10, 120, 164] rfl ?_
 refine Run.false rfl ?_
 refine sr ?_
 refine sx 1 ?_
 refine RunL.set (congrArg Value.bool (decide_eq_false (by omega))) ?_
 refine asg rfl rfl ?_
 refine kp [3, 4, 5, 8, 9, 10, 120, 200] rfl ?_
 refine Run.false rfl ?_
 refine sr ?_
 refine sx 1 ?_
 refine RunL.set (congrArg Value.bool (decide_eq_false (by omega))) ?_
 refine asg rfl rfl ?_
 refine kp [3, 4, 5, 8, 9, 120, 220] rfl ?_
 refine Run.false rfl ?_
 refine sr ?_
 refine sx 1 ?_
 refine RunL.set (congrArg Value.bool (decide_eq_true (by omega))) ?_
 refine asg rfl rfl ?_
 refine kp [4, 5, 8, 9, 225] rfl ?_
 refine Run.true rfl ?_
 refine Run.region ?_
 refine sx 5 ?_
 refine kp [4, 5, 8, 9] rfl ?_
 refine Run.seq ?_
 refine sr ?_
 refine RunL.ownNil 64 4 ?_
 refine sx 2 ?_
 refine RunL.call C102 rfl rfl rfl (ac102 _) .nil ?_
 refine RunL.op rfl rfl (OpJ.not rfl ?_)
 refine kp [4, 5, 8, 9, 234] rfl ?_
 first | refine Run.if rfl (fun h26 => ?_) (fun h26 => ?_) | refine Run.cond rfl (fun h26 => ?_) (fun h26 => ?_)
 refine sr ?_
 refine sx 5 ?_
 refine kp [4, 5, 6] rfl ?_
 refine Run.ret ?_
 have hres : rsStep s m = .error _ := hst.trans (rsFin_4c (by omega) (by omega) (by first | assumption | exact (Bool.not_eq_false' _).mp (by assumption) | simp_all) (by first | assumption | exact (Bool.not_eq_true' _).mp (by assumption) | simp_all)); refine ret_out (none, 0, none, 0) (.cellA T28 rfl pk (by rfl) (.cellA T43 rfl pk (by rfl) (.tmp rfl .nil))) trivial (by rw [hres]; rfl) ?_; rw [hres]; exact gv
 refine Run.skip ?_
 refine Run.seq ?_
 refine regionD HM ?_
 first | refine RunD.takeW 0 rfl rfl kr T28 rfl pk (by rfl) ?_ | refine RunD.takeP 0 rfl rfl kr T28 rfl pk (by simp) ?_ | refine RunD.takeE 0 rfl rfl kr T28 rfl pk (by assumption) (by exact fun _ => rfl) rfl (by decide) ?_
 first | refine RunD.takeW 1 rfl rfl kr T43 rfl pk (by rfl) ?_ | refine RunD.takeP 1 rfl rfl kr T43 rfl pk (by simp) ?_ | refine RunD.takeE 1 rfl rfl kr T43 rfl pk (by assumption) (by exact fun _ => rfl) rfl (by decide) ?_
 refine RunD.op 2 [true, false] rfl rfl rfl kr kr (OpJ.storeW T28 rfl rfl rfl rfl (by simp [Value.oneCell', Pa.c, Ly.c, Mv.c, Co.c]) up ⟨po, ?_⟩)
 refine RunD.op 3 [false] rfl rfl rfl kr kr (OpJ.storeW T43 rfl rfl rfl rfl (by simp [Value.oneCell', Pa.c, Ly.c, Mv.c, Co.c]) up ⟨po, ?_⟩)
 refine tk 4 rfl rfl rfl (DetJ.assign rfl) ?_
 refine kd [4, 5, 6] rfl ?_
 refine Run.ret ?_
 have hres : rsStep s m = .ok _ := hst.trans (rsFin_ok (by omega) (by omega) (by first | assumption | exact (Bool.not_eq_false' _).mp (by assumption) | simp_all) (by first | assumption | exact (Bool.not_eq_false' _).mp (by assumption) | simp_all)); refine ret_out (none, 0, a35, c35) (.cellA T28 rfl pk (by rfl) (.cellA T43 rfl pk (by rfl) (.tmp rfl .nil))) trivial (by rw [hres]; first | rfl | (simp only [StV, Sk.c, List.length_set]; rfl)) ?_; rw [hres]; (try simp only [StB, List.length_set]); exact gv
end
end Go.Proofs.YtdcchollplhioaaGreatDoor

namespace Go.Proofs.YtdcchollplhioaaGreatDoor
open Go Go.SL Go.Proofs
section
attribute [local irreducible] OpJ RunL Run RunD DetJ pt own star Rd RdS
-- accountingref37.find
theorem ac174 (s : Sk) (la : Option Addr) (lc : Nat) (pa : Option Addr) (pc : Nat) (RL : HP) (lot : ByteArray) (hRL : RdS RL la (s.layers.flatMap Ly.c)) (hnl : s.layers.length ≤ 1000000) : AC Tryz.prog 174 ⟨[.agg ⟨s.c la lc pa pc⟩, St lot]⟩ (stars [RL]) (Ret (I (idxOf (rlF lot s.layers))) [RL]) := by
 refine AC.go Tryz.func174 rfl (Nat.le_of_ble_eq_true rfl) fun β => ?_
 refine sr ?_
 refine RunL.op rfl rfl (OpJ.boxA rfl fun b2 => ?_)
 refine asg rfl rfl ?_
 refine kp [1, 2] rfl ?_
 refine Run.seq ?_
 refine sr ?_
 refine asg rfl rfl ?_
 refine kp [1, 2, 5] rfl ?_
 refine Run.block ?_
 refine Run.loop (fun mm E L => ∃ i : Nat, mm = s.layers.length - i ∧ i ≤ s.layers.length ∧ (∀ j y, j < i → s.layers[j]? = some y → isLot lot y = false) ∧ E = [(1, St lot), (2, .pointer (some ⟨b2, 0, none⟩)), (5, I i)] ∧ L = [pt b2 (blk (s.c la lc pa pc) 28), RL]) ⟨_, 0, rfl, Nat.zero_le _, fun _ _ h => by omega, rfl, rfl⟩ ?_
 rintro _ _ _ ⟨i, rfl, hi, hI0, rfl, rfl⟩
 refine Run.seq ?_
 refine sr ?_
 refine sx 5 ?_
 refine kp [1, 2, 5, 10] rfl ?_
 first | refine Run.if rfl (fun h1 => ?_) (fun h1 => ?_) | refine Run.cond rfl (fun h1 => ?_) (fun h1 => ?_)
 refine Run.skip ?_
 refine Run.seq ?_
 refine Run.block ?_
 refine sr ?_
 obtain ⟨x, hx⟩ := get_ex (xs := s.layers) (by omega)
 refine RunL.rdOpen pk hRL (flat_ne (k := 4) (fun _ => rfl) (by decide) hx) fun b o e hrd => ?_
 subst e
 refine sx 5 ?_
 refine RunL.op rfl rfl (OpJ.load1 T9 rfl pk (hrd.ly hx 1 (St x.lot) rfl) ?_)
 refine sx 2 ?_
 refine kp [1, 2, 5, 20] rfl ?_
 first | refine Run.if rfl (fun h2 => ?_) (fun h2 => ?_) | refine Run.cond rfl (fun h2 => ?_) (fun h2 => ?_)
 refine sr ?_
 refine sx 2 ?_
 refine kp [4] rfl ?_
 refine Run.ret ?_
 exact ret_one (.tmp rfl .nil) (congrArg I (by unfold rlF; rw [findI_at hx (by unfold isLot; simp_all) hI0]; rfl)) gv
 refine Run.skip ?_
 refine Run.region ?_
 refine sx 3 ?_
 exact RunL.next (Keep.sub (kt (ks := [1, 2, 5]) rfl)) _ ⟨_, by omega, i + 1, rfl, by omega, notYet hx (by unfold isLot; simp_all) hI0, rfl, rfl⟩ gv
 refine Run.exit ?_
 refine sr ?_
 refine asg rfl rfl ?_
 refine kp [4] rfl ?_
 refine Run.ret ?_
 exact ret_one (.tmp rfl .nil) (congrArg I (by unfold rlF; rw [findI_none (fun j y hj => hI0 j y (by omega))]; rfl)) gv
-- accountingref37.Qty
theorem ac172 (s : Sk) (la : Option Addr) (lc : Nat) (pa : Option Addr) (pc : Nat) (RL : HP) (lot : ByteArray) (hRL : RdS RL la (s.layers.flatMap Ly.c)) (hnl : s.layers.length ≤ 1000000) : AC Tryz.prog 172 ⟨[.agg ⟨s.c la lc pa pc⟩, St lot]⟩ (stars [RL]) (Ret (I (rlQ s.layers lot)) [RL]) := by
 refine AC.go Tryz.func172 rfl (Nat.le_of_ble_eq_true rfl) fun β => ?_
 refine sr ?_
 refine RunL.op rfl rfl (OpJ.boxA rfl fun b2 => ?_)
 refine asg rfl rfl ?_
 refine kp [1, 2] rfl ?_
 refine sr ?_
 refine sx 2 ?_
 refine RunL.call C174 rfl rfl rfl (ac174 s la lc pa pc RL lot hRL hnl) tks ?_
 refine asg rfl rfl ?_
 refine kp [2, 5] rfl ?_
 refine Run.seq ?_
 refine sr ?_
 refine sx 2 ?_
 rcases hf : rlF lot s.layers with _ | ⟨i, x⟩
 refine kp [2, 5, 10] rfl ?_
 refine Run.true rfl ?_
 refine sr ?_
 refine asg rfl rfl ?_
 refine kp [4] rfl ?_
 refine Run.ret ?_
 exact ret_one (.tmp rfl .nil) (congrArg I (by unfold rlQ; rw [hf])) gv
 obtain ⟨hx, _⟩ := findI_some hf
 have hi := (List.getElem?_eq_some_iff.1 hx).1
 simp only [idxOf]
 refine RunL.set (congrArg Value.bool (decide_eq_false (show ¬ ((i : Int) < 0) by omega))) ?_
 refine kp [2, 5, 10] rfl ?_
 refine Run.false rfl ?_
 refine Run.skip ?_
 refine sr ?_
 refine RunL.rdOpen pk hRL (flat_ne (k := 4) (fun _ => rfl) (by decide) hx) fun b o e hrd => ?_
 subst e
 refine sx 5 ?_
 refine RunL.op rfl rfl (OpJ.load1 T3 rfl pk (hrd.ly hx 2 (I x.qty) rfl) ?_)
 refine asg rfl rfl ?_
 refine kp [4] rfl ?_
 refine Run.ret ?_
 exact ret_one (.tmp rfl .nil) (congrArg I (by unfold rlQ; rw [hf])) gv
-- accountingref37.value
theorem ac173 (s : Sk) (la : Option Addr) (lc : Nat) (pa : Option Addr) (pc : Nat) (RL : HP) (lot : ByteArray) (hRL : RdS RL la (s.layers.flatMap Ly.c)) (hnl : s.layers.length ≤ 1000000) : AC Tryz.prog 173 ⟨[.agg ⟨s.c la lc pa pc⟩, St lot]⟩ (stars [RL]) (Ret (I (rlV s.layers lot)) [RL]) := by
 refine AC.go Tryz.func173 rfl (Nat.le_of_ble_eq_true rfl) fun β => ?_
 refine sr ?_
 refine RunL.op rfl rfl (OpJ.boxA rfl fun b2 => ?_)
 refine asg rfl rfl ?_
 refine kp [1, 2] rfl ?_
 refine sr ?_
 refine sx 2 ?_
 refine RunL.call C174 rfl rfl rfl (ac174 s la lc pa pc RL lot hRL hnl) tks ?_
 refine asg rfl rfl ?_
 refine kp [2, 5] rfl ?_
 refine Run.seq ?_
 refine sr ?_
 refine sx 2 ?_
 rcases hf : rlF lot s.layers with _ | ⟨i, x⟩
 refine kp [2, 5, 10] rfl ?_
 refine Run.true rfl ?_
 refine sr ?_
 refine asg rfl rfl ?_
 refine kp [4] rfl ?_
 refine Run.ret ?_
 exact ret_one (.tmp rfl .nil) (congrArg I (by unfold rlV; rw [hf])) gv
 obtain ⟨hx, _⟩ := findI_some hf
 have hi := (List.getElem?_eq_some_iff.1 hx).1
 simp only [idxOf]
 refine RunL.set (congrArg Value.bool (decide_eq_false (show ¬ ((i : Int) < 0) by omega))) ?_
 refine kp [2, 5, 10] rfl ?_
 refine Run.false rfl ?_
 refine Run.skip ?_
 refine sr ?_
 refine RunL.rdOpen pk hRL (flat_ne (k := 4) (fun _ => rfl) (by decide) hx) fun b o e hrd => ?_
 subst e
 refine sx 5 ?_
 refine RunL.op rfl rfl (OpJ.load1 T3 rfl pk (hrd.ly hx 3 (I x.value) rfl) ?_)
 refine asg rfl rfl ?_
 refine kp [4] rfl ?_
 refine Run.ret ?_
 exact ret_one (.tmp rfl .nil) (congrArg I (by unfold rlV; rw [hf])) gv
-- accountingref37.put
theorem ac171 (s : Sk) (la : Option Addr) (lc : Nat) (pa : Option Addr) (pc : Nat) (RL : HP) (lot : ByteArray) (q v : Int) (hRL : RdS RL la (s.layers.flatMap Ly.c)) (hnl : s.layers.length ≤ 1000000) : AC Tryz.prog 171 ⟨[.agg ⟨s.c la lc pa pc⟩, St lot, I q, I v]⟩ (stars [RL]) (Outs (fun _ : Option Addr × Nat => True) (fun x => .agg ⟨SC s x.1 (putL s.layers lot q v).length x.2 pa s.past.length pc⟩) (fun x => [own 64 4 x.1 (putL s.layers lot q v).length x.2 ((putL s.layers lot q v).flatMap Ly.c), RL])) := by
 refine AC.go Tryz.func171 rfl (Nat.le_of_ble_eq_true rfl) fun β => ?_
 refine sr ?_
 refine RunL.op rfl rfl (OpJ.boxA rfl fun b4 => ?_)
 refine RunL.op rfl rfl (OpJ.alloc Z28 fun b8 => ?_)
 refine kp [1, 2, 3, 4, 8] rfl ?_
 refine sr ?_
 refine asg rfl rfl ?_
 refine kp [1, 2, 3, 4, 8, 9] rfl ?_
 refine sr ?_
 refine sx 3 ?_
 refine kp [1, 2, 3, 4, 8, 9, 10] rfl ?_
 refine Run.seq ?_
 refine sr ?_
 refine RunL.ownNil 64 4 ?_
 refine asg rfl rfl ?_
 refine kp [1, 2, 3, 4, 8, 9, 10, 11] rfl ?_
 refine Run.block ?_
 refine Run.loop (fun mm E L => ∃ i : Nat, ∃ (d : Bool) (out : List Ly) (oa : Option Addr) (cap : Nat), mm = s.layers.length - i ∧ i ≤ s.layers.length ∧ putF lot ⟨0, lot, q, v⟩ (decide (q = 0), []) (s.layers.take i) = (d, out) ∧ out.length ≤ 1000001 ∧ E = [(1, St lot), (2, I q), (3, I v), (4, .pointer (some ⟨b4, 0, none⟩)), (8, .pointer (some ⟨b8, 0, none⟩)), (9, .slice oa out.length cap), (10, Bo d), (11, I i)] ∧ L = [own 64 4 oa out.length cap (out.flatMap Ly.c), pt b8 (blk [I 0, I 0, I 0, .slice none 0 0, .slice none 0 0] 28), pt b4 (blk (s.c la lc pa pc) 28), RL]) ⟨_, 0, decide (q = 0), [], none, 0, rfl, Nat.zero_le _, rfl, by decide, rfl, rfl⟩ ?_
 rintro _ _ _ ⟨i, d, out, oa, cap, rfl, hi, hA, hlo, rfl, rfl⟩
 refine Run.seq ?_
 refine sr ?_
 refine sx 5 ?_
 refine kp [1, 2, 3, 4, 8, 9, 10, 11, 18] rfl ?_
 first | refine Run.if rfl (fun h1 => ?_) (fun h1 => ?_) | refine Run.cond rfl (fun h1 => ?_) (fun h1 => ?_)
 refine Run.skip ?_
 refine Run.seq ?_
 refine Run.block ?_
 refine Run.seq ?_
 refine sr ?_
 obtain ⟨x, hx⟩ := get_ex (xs := s.layers) (by omega)
 refine RunL.rdOpen pk hRL (flat_ne (k := 4) (fun _ => rfl) (by decide) hx) fun b o e hrd => ?_
 subst e
 refine sx 3 ?_
 first | refine RunL.splitP (t := 23) rfl (fun g2 => ?_) (fun g2 => ?_) | refine RunL.split (t := 23) rfl (fun g2 => ?_) (fun g2 => ?_)
 refine sx 5 ?_
 refine RunL.yes rfl rfl rfl rfl (OpJ.load1 T9 rfl pk (hrd.ly hx 1 (St x.lot) rfl) ?_)
 refine sx 3 ?_
 refine kp [1, 2, 3, 4, 8, 9, 10, 11, 32] rfl ?_
 first | refine Run.if rfl (fun h3 => ?_) (fun h3 => ?_) | refine Run.cond rfl (fun h3 => ?_) (fun h3 => ?_)
 refine sr ?_
 refine sx 5 ?_
 refine RunL.op rfl rfl (OpJ.buildSlice1 S25 rfl rfl rfl (by decide) (by decide) Z64 rfl fun b38 => ?_)
 refine RunL.op rfl rfl (OpJ.append1 (⟨0, lot, q, v⟩ : Ly) S25 M64 rfl rfl pk pk rfl rfl (by simp [Value.oneCell', Pa.c, Ly.c, Mv.c, Co.c]) rfl (by omega) (by omega) fun a39 c39 => ?_)
 have hl2 : (out ++ [(⟨0, lot, q, v⟩ : Ly)]).length = out.length + 1 := by simp
 refine asg rfl rfl ?_
 refine kp [1, 2, 3, 4, 8, 9, 11] rfl ?_
 refine Run.region ?_
 refine asg rfl rfl ?_
 refine kp [1, 2, 3, 4, 8, 9, 10, 11] rfl ?_
 refine sr ?_
 refine sx 5 ?_
 refine RunL.op rfl rfl (OpJ.load1 T9 rfl pk (hrd.ly hx 1 (St x.lot) rfl) ?_)
 refine sx 2 ?_
 refine kp [1, 2, 3, 4, 8, 9, 10, 11, 47] rfl ?_
 first | refine Run.if rfl (fun h4 => ?_) (fun h4 => ?_) | refine Run.cond rfl (fun h4 => ?_) (fun h4 => ?_)
 refine Run.region ?_
 refine sx 5 ?_
 refine RunL.op rfl rfl (OpJ.loadA T64 rfl pk (hrd.elem (fun _ => rfl) hx) rfl ?_)
 refine RunL.op rfl rfl (OpJ.buildSlice1 S25 rfl rfl rfl (by decide) (by decide) Z64 rfl fun b54 => ?_)
 refine RunL.op rfl rfl (OpJ.append1 x S25 M64 rfl rfl pk pk rfl rfl (by simp [Value.oneCell', Pa.c, Ly.c, Mv.c, Co.c]) rfl (by omega) (by omega) fun a55 c55 => ?_)
 refine asg rfl rfl ?_
 refine kp [1, 2, 3, 4, 8, 9, 10, 11] rfl ?_
 refine Run.region ?_
 refine sx 3 ?_
 have hA2 := putF_succ (lot := lot) (x := ⟨0, lot, q, v⟩) (a := (decide (q = 0), [])) hx; rw [hA] at hA2; exact RunL.next (Keep.sub (kt (ks := [1, 2, 3, 4, 8, 9, 10, 11]) rfl)) _ ⟨_, by omega, i + 1, _, _, _, _, rfl, by omega, hA2.trans (by simp [putS, *]; done), (by have := @putF_le lot ⟨0, lot, q, v⟩ (decide (q = 0)) s.layers (i + 1) hnl; rw [hA2] at this; refine Nat.le_trans (Nat.le_of_eq ?_) this; simp [putS, *]), rfl, rfl⟩ gv
 refine Run.skip ?_
 refine Run.region ?_
 refine sx 3 ?_
 have hA2 := putF_succ (lot := lot) (x := ⟨0, lot, q, v⟩) (a := (decide (q = 0), [])) hx; rw [hA] at hA2; exact RunL.next (Keep.sub (kt (ks := [1, 2, 3, 4, 8, 9, 10, 11]) rfl)) _ ⟨_, by omega, i + 1, _, _, _, _, rfl, by omega, hA2.trans (by simp [putS, *]; done), (by have := @putF_le lot ⟨0, lot, q, v⟩ (decide (q = 0)) s.layers (i + 1) hnl; rw [hA2] at this; refine Nat.le_trans (Nat.le_of_eq ?_) this; simp [putS, *]), rfl, rfl⟩ gv
 refine Run.skip ?_
 refine sr ?_
 refine sx 5 ?_
 refine RunL.op rfl rfl (OpJ.load1 T9 rfl pk (hrd.ly hx 1 (St x.lot) rfl) ?_)
 refine sx 2 ?_
 refine kp [1, 2, 3, 4, 8, 9, 10, 11, 47] rfl ?_
 first | refine Run.if rfl (fun h5 => ?_) (fun h5 => ?_) | refine Run.cond rfl (fun h5 => ?_) (fun h5 => ?_)
 refine Run.region ?_
 refine sx 5 ?_
 refine RunL.op rfl rfl (OpJ.loadA T64 rfl pk (hrd.elem (fun _ => rfl) hx) rfl ?_)
 refine RunL.op rfl rfl (OpJ.buildSlice1 S25 rfl rfl rfl (by decide) (by decide) Z64 rfl fun b54 => ?_)
 refine RunL.op rfl rfl (OpJ.append1 x S25 M64 rfl rfl pk pk rfl rfl (by simp [Value.oneCell', Pa.c, Ly.c, Mv.c, Co.c]) rfl (by omega) (by omega) fun a55 c55 => ?_)
 refine asg rfl rfl ?_
 refine kp [1, 2, 3, 4, 8, 9, 10, 11] rfl ?_
 refine Run.region ?_
 refine sx 3 ?_
 have hA2 := putF_succ (lot := lot) (x := ⟨0, lot, q, v⟩) (a := (decide (q = 0), [])) hx; rw [hA] at hA2; exact RunL.next (Keep.sub (kt (ks := [1, 2, 3, 4, 8, 9, 10, 11]) rfl)) _ ⟨_, by omega, i + 1, _, _, _, _, rfl, by omega, hA2.trans (by simp [putS, *]; done), (by have := @putF_le lot ⟨0, lot, q, v⟩ (decide (q = 0)) s.layers (i + 1) hnl; rw [hA2] at this; refine Nat.le_trans (Nat.le_of_eq ?_) this; simp [putS, *]), rfl, rfl⟩ gv
 refine Run.skip ?_
 refine Run.region ?_
 refine sx 3 ?_
 have hA2 := putF_succ (lot := lot) (x := ⟨0, lot, q, v⟩) (a := (decide (q = 0), [])) hx; rw [hA] at hA2; exact RunL.next (Keep.sub (kt (ks := [1, 2, 3, 4, 8, 9, 10, 11]) rfl)) _ ⟨_, by omega, i + 1, _, _, _, _, rfl, by omega, hA2.trans (by simp [putS, *]; done), (by have := @putF_le lot ⟨0, lot, q, v⟩ (decide (q = 0)) s.layers (i + 1) hnl; rw [hA2] at this; refine Nat.le_trans (Nat.le_of_eq ?_) this; simp [putS, *]), rfl, rfl⟩ gv
 refine sx 9 ?_
 refine kp [1, 2, 3, 4, 8, 9, 10, 11, 32] rfl ?_
 refine Run.false rfl ?_
 refine Run.skip ?_
 refine sr ?_
 refine sx 5 ?_
 refine RunL.op rfl rfl (OpJ.load1 T9 rfl pk (hrd.ly hx 1 (St x.lot) rfl) ?_)
 refine sx 2 ?_
 refine kp [1, 2, 3, 4, 8, 9, 10, 11, 47] rfl ?_
 first | refine Run.if rfl (fun h6 => ?_) (fun h6 => ?_) | refine Run.cond rfl (fun h6 => ?_) (fun h6 => ?_)
 refine Run.region ?_
 refine sx 5 ?_
 refine RunL.op rfl rfl (OpJ.loadA T64 rfl pk (hrd.elem (fun _ => rfl) hx) rfl ?_)
 refine RunL.op rfl rfl (OpJ.buildSlice1 S25 rfl rfl rfl (by decide) (by decide) Z64 rfl fun b54 => ?_)
 refine RunL.op rfl rfl (OpJ.append1 x S25 M64 rfl rfl pk pk rfl rfl (by simp [Value.oneCell', Pa.c, Ly.c, Mv.c, Co.c]) rfl (by omega) (by omega) fun a55 c55 => ?_)
 refine asg rfl rfl ?_
 refine kp [1, 2, 3, 4, 8, 9, 10, 11] rfl ?_
 refine Run.region ?_
 refine sx 3 ?_
 have hA2 := putF_succ (lot := lot) (x := ⟨0, lot, q, v⟩) (a := (decide (q = 0), [])) hx; rw [hA] at hA2; exact RunL.next (Keep.sub (kt (ks := [1, 2, 3, 4, 8, 9, 10, 11]) rfl)) _ ⟨_, by omega, i + 1, _, _, _, _, rfl, by omega, hA2.trans (by simp [putS, *]; done), (by have := @putF_le lot ⟨0, lot, q, v⟩ (decide (q = 0)) s.layers (i + 1) hnl; rw [hA2] at this; refine Nat.le_trans (Nat.le_of_eq ?_) this; simp [putS, *]), rfl, rfl⟩ gv
 refine Run.skip ?_
 refine Run.region ?_
 refine sx 3 ?_
 have hA2 := putF_succ (lot := lot) (x := ⟨0, lot, q, v⟩) (a := (decide (q = 0), [])) hx; rw [hA] at hA2; exact RunL.next (Keep.sub (kt (ks := [1, 2, 3, 4, 8, 9, 10, 11]) rfl)) _ ⟨_, by omega, i + 1, _, _, _, _, rfl, by omega, hA2.trans (by simp [putS, *]; done), (by have := @putF_le lot ⟨0, lot, q, v⟩ (decide (q = 0)) s.layers (i + 1) hnl; rw [hA2] at this; refine Nat.le_trans (Nat.le_of_eq ?_) this; simp [putS, *]), rfl, rfl⟩ gv
 refine Run.exit ?_
 refine Run.seq ?_
 refine sr ?_
 obtain rfl : i = s.layers.length := by omega
 rw [List.take_length] at hA
 refine sx 2 ?_
 refine kp [1, 2, 3, 4, 8, 9, 57] rfl ?_
 first | refine Run.if rfl (fun h7 => ?_) (fun h7 => ?_) | refine Run.cond rfl (fun h7 => ?_) (fun h7 => ?_)
 refine Run.region ?_
 refine sx 5 ?_
 refine RunL.op rfl rfl (OpJ.buildSlice1 S25 rfl rfl rfl (by decide) (by decide) Z64 rfl fun b63 => ?_)
 refine RunL.op rfl rfl (OpJ.append1 (⟨0, lot, q, v⟩ : Ly) S25 M64 rfl rfl pk pk rfl rfl (by simp [Value.oneCell', Pa.c, Ly.c, Mv.c, Co.c]) rfl (by omega) (by omega) fun a64 c64 => ?_)
 refine asg rfl rfl ?_
 refine kp [4, 8, 9] rfl ?_
 refine sr ?_
 refine sx 3 ?_
 refine kp [4, 8] rfl ?_
 refine sr ?_
 refine sx 2 ?_
 refine kp [8] rfl ?_
 refine Run.ret ?_
 have hp : putL s.layers lot q v = out ++ [(⟨0, lot, q, v⟩ : Ly)] := (by unfold putL putE; rw [hA]; simp_all); rw [hp]; exact ret_out (a64, c64) (.cellA T28 rfl pk (by rfl) .nil) trivial rfl gv
 refine Run.skip ?_
 refine sr ?_
 refine sx 3 ?_
 refine kp [4, 8] rfl ?_
 refine sr ?_
 refine sx 2 ?_
 refine kp [8] rfl ?_
 refine Run.ret ?_
 have hp : putL s.layers lot q v = out := (by unfold putL putE; rw [hA]; simp_all); rw [hp]; exact ret_out (oa, cap) (.cellA T28 rfl pk (by rfl) .nil) trivial rfl gv
end
end Go.Proofs.YtdcchollplhioaaGreatDoor

namespace Go.Proofs.YtdcchollplhioaaGreatDoor
open Go Go.SL Go.Proofs
section
attribute [local irreducible] OpJ RunL Run RunD DetJ pt own star Rd RdS
-- accountingref37.add
theorem ac142 (t : Sk) (la : Option Addr) (lc : Nat) (pa : Option Addr) (pc : Nat) (RL : HP) (lot : ByteArray) (q v : Int) (hRL : RdS RL la (t.layers.flatMap Ly.c)) (hnl : t.layers.length ≤ 1000000) : AC Tryz.prog 142 ⟨[.agg ⟨t.c la lc pa pc⟩, St lot, I q, I v]⟩ (stars [RL]) (Outs (fun _ : Option Addr × Nat => True) (fun x => .agg ⟨SC t x.1 (addL t.layers lot q v).length x.2 pa t.past.length pc⟩) (fun x => [own 64 4 x.1 (addL t.layers lot q v).length x.2 ((addL t.layers lot q v).flatMap Ly.c), RL])) := by
 refine AC.go Tryz.func142 rfl (Nat.le_of_ble_eq_true rfl) fun β => ?_
 refine sr ?_
 refine RunL.op rfl rfl (OpJ.boxA rfl fun b4 => ?_)
 refine RunL.op rfl rfl (OpJ.alloc Z28 fun b8 => ?_)
 refine kp [1, 2, 3, 4, 8] rfl ?_
 refine Run.seq ?_
 refine regionD HM ?_
 first | refine RunD.takeW 0 rfl rfl kr T28 rfl pk (by rfl) ?_ | refine RunD.takeP 0 rfl rfl kr T28 rfl pk (by simp) ?_ | refine RunD.takeE 0 rfl rfl kr T28 rfl pk (by assumption) (by exact fun _ => rfl) rfl (by decide) ?_
 refine tk 1 rfl rfl rfl (DetJ.move rfl) ?_
 first | refine RunD.takeW 2 rfl rfl kr T28 rfl pk (by rfl) ?_ | refine RunD.takeP 2 rfl rfl kr T28 rfl pk (by simp) ?_ | refine RunD.takeE 2 rfl rfl kr T28 rfl pk (by assumption) (by exact fun _ => rfl) rfl (by decide) ?_
 refine tk 3 rfl rfl rfl (DetJ.move rfl) ?_
 refine tk 5 rfl rfl rfl (DetJ.move rfl) ?_
 first | refine RunD.takeW 7 rfl rfl kr T28 rfl pk (by rfl) ?_ | refine RunD.takeP 7 rfl rfl kr T28 rfl pk (by simp) ?_ | refine RunD.takeE 7 rfl rfl kr T28 rfl pk (by assumption) (by exact fun _ => rfl) rfl (by decide) ?_
 refine tk 8 rfl rfl rfl (DetJ.move rfl) ?_
 refine tk 10 rfl rfl rfl (DetJ.move rfl) ?_
 refine RunD.op 4 [true, true, true, true, false, false, true, true] rfl rfl rfl kr kr (OpJ.callRet C172 rfl rfl (ac172 t la lc pa pc RL lot hRL hnl) tks ⟨po, ?_⟩)
 refine tk 6 rfl rfl rfl (DetJ.add rfl rfl) ?_
 refine RunD.op 9 [true, true, false, false, true, true, true] rfl rfl rfl kr kr (OpJ.callRet C173 rfl rfl (ac173 t la lc pa pc RL lot hRL hnl) tks ⟨po, ?_⟩)
 refine tk 11 rfl rfl rfl (DetJ.add rfl rfl) ?_
 refine RunD.op 12 [false, false, false, false, false, false] rfl rfl rfl kr kr (OpJ.callOuts C171 rfl rfl (ac171 t la lc pa pc RL lot _ _ hRL hnl) tks fun ⟨a21, c21⟩ _ => ⟨po, ?_⟩)
 refine RunD.op 13 [] rfl rfl rfl kr kr (OpJ.storeW T28 rfl rfl rfl rfl (by simp [Value.oneCell', Pa.c, Ly.c, Mv.c, Co.c]) up ⟨po, ?_⟩)
 refine kd [8] rfl ?_
 refine Run.ret ?_
 unfold addL; exact ret_out (a21, c21) (.cellA T28 rfl pk (by rfl) .nil) trivial rfl gv
-- accountingref37.issue
theorem ac143 (t : Sk) (m : Mv) (la : Option Addr) (lc : Nat) (pa : Option Addr) (pc : Nat) (ht : t.ok 999999) (hm : m.ok) : AC Tryz.prog 143 ⟨[.agg ⟨t.c la lc pa pc⟩, .agg ⟨m.c⟩]⟩ (stars [own 64 4 la (t.layers).length lc ((t.layers).flatMap Ly.c), own 66 7 pa (t.past).length pc ((t.past).flatMap Pa.c)]) (Outs (fun _ : Option Addr × Nat × Option Addr × Nat => True) (fun x => RmV t la lc pa pc (rlIssue t m) x) (fun x => StB 64 66 (rlIssue t m) x)) := by
 have hn : t.layers.length ≤ 1000000 ∧ t.past.length ≤ 1000000 := ⟨Nat.le_trans ht.nl (by decide), Nat.le_trans ht.np (by decide)⟩
 have hnl := ht.nl; have hnp := ht.np
 obtain ⟨hm1, hm2⟩ := hm
 refine AC.go Tryz.func143 rfl (Nat.le_of_ble_eq_true rfl) fun β => ?_
 refine sr ?_
 refine RunL.op rfl rfl (OpJ.boxA rfl fun b2 => ?_)
 refine RunL.op rfl rfl (OpJ.boxA rfl fun b3 => ?_)
 refine RunL.op rfl rfl (OpJ.alloc Z28 fun b4 => ?_)
 refine RunL.op rfl rfl (OpJ.alloc Z43 fun b5 => ?_)
 refine asg rfl rfl ?_
 refine kp [2, 3, 4, 5] rfl ?_
 refine Run.seq ?_
 refine sr ?_
 refine sx 4 ?_
 first | refine RunL.splitP (t := 11) rfl (fun g1 => ?_) (fun g1 => ?_) | refine RunL.split (t := 11) rfl (fun g1 => ?_) (fun g1 => ?_)
 refine sx 6 ?_
 refine kp [2, 3, 4, 5, 17] rfl ?_
 refine Run.true rfl ?_
 refine sr ?_
 refine sx 5 ?_
 refine kp [4, 5, 6] rfl ?_
 refine Run.ret ?_
 have hres : rlIssue t m = .error 22 := (by unfold rlIssue; rw [if_pos (by assumption)]); refine ret_out (none, 0, none, 0) (.cellA T28 rfl pk (by rfl) (.cellA T43 rfl pk (by rfl) (.tmp rfl .nil))) trivial (by rw [hres]; rfl) ?_; rw [hres]; exact gv
 refine sx 3 ?_
 refine RunL.callG C174 rfl rfl rfl rfl rfl (ac174 t la lc pa pc (own 64 4 la (t.layers).length lc ((t.layers).flatMap Ly.c)) m.lot own.rds hn.1) tks ?_
 refine sx 2 ?_
 refine kp [2, 3, 4, 5, 17] rfl ?_
 first | refine Run.if rfl (fun h2 => ?_) (fun h2 => ?_) | refine Run.cond rfl (fun h2 => ?_) (fun h2 => ?_)
 refine sr ?_
 refine sx 5 ?_
 refine kp [4, 5, 6] rfl ?_
 refine Run.ret ?_
 have hres : rlIssue t m = .error 22 := (by unfold rlIssue; rw [if_neg (by assumption), if_pos (by assumption)]); refine ret_out (none, 0, none, 0) (.cellA T28 rfl pk (by rfl) (.cellA T43 rfl pk (by rfl) (.tmp rfl .nil))) trivial (by rw [hres]; rfl) ?_; rw [hres]; exact gv
 refine Run.skip ?_
 refine Run.seq ?_
 refine Run.seq ?_
 refine regionD HM ?_
 first | refine RunD.takeW 0 rfl rfl kr T28 rfl pk (by rfl) ?_ | refine RunD.takeP 0 rfl rfl kr T28 rfl pk (by simp) ?_ | refine RunD.takeE 0 rfl rfl kr T28 rfl pk (by assumption) (by exact fun _ => rfl) rfl (by decide) ?_
 refine tk 1 rfl rfl rfl (DetJ.fieldAddr F47_6 rfl) ?_
 first | refine RunD.takeF 2 rfl rfl kr T9 rfl pk (by rfl) ?_ | refine RunD.takeO 2 rfl rfl kr T9 rfl pk (by assumption) (by rfl) (by exact fun _ => rfl) ?_
 refine tk 4 rfl rfl rfl (DetJ.fieldAddr F47_4 rfl) ?_
 first | refine RunD.takeF 5 rfl rfl kr T3 rfl pk (by rfl) ?_ | refine RunD.takeO 5 rfl rfl kr T3 rfl pk (by assumption) (by rfl) (by exact fun _ => rfl) ?_
 refine RunD.op 3 [true, true, false, false, false] rfl rfl rfl kr kr (OpJ.callRet C172 rfl rfl (ac172 t la lc _ pc (own 64 4 la (t.layers).length lc ((t.layers).flatMap Ly.c)) m.lot own.rds hn.1) tks ⟨po, ?_⟩)
 refine tk 6 rfl rfl rfl (DetJ.lss rfl rfl) ?_
 refine kd [2, 3, 4, 5, 26] rfl ?_
 first | refine Run.if rfl (fun h3 => ?_) (fun h3 => ?_) | refine Run.cond rfl (fun h3 => ?_) (fun h3 => ?_)
 refine sr ?_
 refine sx 5 ?_
 refine kp [4, 5, 6] rfl ?_
 refine Run.ret ?_
 have hres : rlIssue t m = .error 21 := (by unfold rlIssue; rw [if_neg (by assumption), if_neg (by assumption), if_pos (by assumption)]); refine ret_out (none, 0, none, 0) (.cellA T28 rfl pk (by rfl) (.cellA T43 rfl pk (by rfl) (.tmp rfl .nil))) trivial (by rw [hres]; rfl) ?_; rw [hres]; exact gv
 refine Run.skip ?_
 refine Run.seq ?_
 refine regionD HM ?_
 first | refine RunD.takeW 0 rfl rfl kr T28 rfl pk (by rfl) ?_ | refine RunD.takeP 0 rfl rfl kr T28 rfl pk (by simp) ?_ | refine RunD.takeE 0 rfl rfl kr T28 rfl pk (by assumption) (by exact fun _ => rfl) rfl (by decide) ?_
 refine tk 1 rfl rfl rfl (DetJ.fieldAddr F47_6 rfl) ?_
 first | refine RunD.takeF 2 rfl rfl kr T9 rfl pk (by rfl) ?_ | refine RunD.takeO 2 rfl rfl kr T9 rfl pk (by assumption) (by rfl) (by exact fun _ => rfl) ?_
 refine tk 4 rfl rfl rfl (DetJ.fieldAddr F47_4 rfl) ?_
 first | refine RunD.takeF 5 rfl rfl kr T3 rfl pk (by rfl) ?_ | refine RunD.takeO 5 rfl rfl kr T3 rfl pk (by assumption) (by rfl) (by exact fun _ => rfl) ?_
 first | refine RunD.takeW 6 rfl rfl kr T28 rfl pk (by rfl) ?_ | refine RunD.takeP 6 rfl rfl kr T28 rfl pk (by simp) ?_ | refine RunD.takeE 6 rfl rfl kr T28 rfl pk (by assumption) (by exact fun _ => rfl) rfl (by decide) ?_
 refine tk 7 rfl rfl rfl (DetJ.fieldAddr F47_6 rfl) ?_
 first | refine RunD.takeF 8 rfl rfl kr T9 rfl pk (by rfl) ?_ | refine RunD.takeO 8 rfl rfl kr T9 rfl pk (by assumption) (by rfl) (by exact fun _ => rfl) ?_
 refine RunD.op 3 [true, true, true, true, true, false, false, false] rfl rfl rfl kr kr (OpJ.callRet C173 rfl rfl (ac173 t la lc _ pc (own 64 4 la (t.layers).length lc ((t.layers).flatMap Ly.c)) m.lot own.rds hn.1) tks ⟨po, ?_⟩)
 refine RunD.op 9 [false, false, false, true, true] rfl rfl rfl kr kr (OpJ.callRet C172 rfl rfl (ac172 t la lc _ pc (own 64 4 la (t.layers).length lc ((t.layers).flatMap Ly.c)) m.lot own.rds hn.1) tks ⟨po, ?_⟩)
 refine RunD.op 10 [false, false] rfl rfl rfl kr kr (OpJ.callRet C165 rfl rfl (ac165 _ _ _ (rl_i64 ht.ly m.lot).2 hm1 (rl_i64 ht.ly m.lot).1) .nil ⟨po, ?_⟩)
 refine tk 11 rfl rfl rfl (DetJ.assign rfl) ?_
 refine kd [2, 3, 4, 5, 7] rfl ?_
 refine sr ?_
 refine sx 8 ?_
 refine RunL.callX C142 rfl rfl rfl (ac142 t la lc _ pc (own 64 4 la (t.layers).length lc ((t.layers).flatMap Ly.c)) m.lot _ _ own.rds hn.1) tks fun ⟨la2, lc2⟩ _ => ?_
 refine sx 1 ?_
 refine kp [2, 3, 4, 5, 7] rfl ?_
 refine sr ?_
 refine sx 10 ?_
 refine RunL.op rfl rfl (OpJ.buildSlice1 S26 rfl rfl rfl (by decide) (by decide) Z66 rfl fun b59 => ?_)
 refine RunL.op rfl rfl (OpJ.append1 (⟨m.seq, 2, m.lot, m.qty, rlP t.layers m.lot m.qty, 0, 0⟩ : Pa) S26 M66 rfl rfl pk pk rfl rfl (by simp [Value.oneCell', Pa.c, Ly.c, Mv.c, Co.c]) rfl (by omega) (by omega) fun a60 c60 => ?_)
 refine sx 2 ?_
 refine kp [2, 3, 4, 5, 7] rfl ?_
 refine Run.seq ?_
 refine regionD HM ?_
 first | refine RunD.takeW 0 rfl rfl kr T28 rfl pk (by rfl) ?_ | refine RunD.takeP 0 rfl rfl kr T28 rfl pk (by simp) ?_ | refine RunD.takeE 0 rfl rfl kr T28 rfl pk (by assumption) (by exact fun _ => rfl) rfl (by decide) ?_
 refine tk 1 rfl rfl rfl (DetJ.fieldAddr F47_4 rfl) ?_
 first | refine RunD.takeF 2 rfl rfl kr T3 rfl pk (by rfl) ?_ | refine RunD.takeO 2 rfl rfl kr T3 rfl pk (by assumption) (by rfl) (by exact fun _ => rfl) ?_
 refine tk 3 rfl rfl rfl (DetJ.neg rfl) ?_
 refine tk 4 rfl rfl rfl (DetJ.move rfl) ?_
 refine tk 5 rfl rfl rfl (DetJ.neg rfl) ?_
 refine RunD.takeB 6 rfl rfl kr B43 rfl rfl fun cs hcs => ?_
 simp only [Sk.c, Mv.c, Co.c, bldL, bldA, Value.cells, bs, Nat.reduceAdd, Nat.reduceLeDiff, Nat.reduceLT] at hcs; subst hcs
 refine RunD.op 7 [true, true, true, true, true, true, false] rfl rfl rfl kr kr (OpJ.storeW T28 rfl rfl rfl rfl (by simp [Value.oneCell', Pa.c, Ly.c, Mv.c, Co.c]) up ⟨po, ?_⟩)
 refine RunD.op 8 [false, false, false, false, false, false] rfl rfl rfl kr kr (OpJ.storeW T43 rfl rfl rfl rfl (by simp [Value.oneCell', Pa.c, Ly.c, Mv.c, Co.c]) up ⟨po, ?_⟩)
 refine tk 9 rfl rfl rfl (DetJ.assign rfl) ?_
 refine kd [4, 5, 6] rfl ?_
 refine Run.ret ?_
 have hres : rlIssue t m = .ok _ := (by unfold rlIssue; rw [if_neg (by assumption), if_neg (by assumption), if_neg (by assumption)]); refine ret_out (la2, lc2, a60, c60) (.cellA T28 rfl pk (by rfl) (.cellA T43 rfl pk (by rfl) (.tmp rfl .nil))) trivial (by rw [hres]; simp only [RmV, RmS, Sk.c, List.length_set]; rfl) ?_; rw [hres]; simp only [StB, List.length_set, List.length_append]; exact gv
-- accountingref37.back
theorem ac144 (t : Sk) (m : Mv) (la : Option Addr) (lc : Nat) (pa : Option Addr) (pc : Nat) (ht : t.ok 999999) (hm : m.ok) (hk : m.kind = 3) : AC Tryz.prog 144 ⟨[.agg ⟨t.c la lc pa pc⟩, .agg ⟨m.c⟩]⟩ (stars [own 64 4 la (t.layers).length lc ((t.layers).flatMap Ly.c), own 66 7 pa (t.past).length pc ((t.past).flatMap Pa.c)]) (Outs (fun _ : Option Addr × Nat × Option Addr × Nat => True) (fun x => RmV t la lc pa pc (rlBack t m) x) (fun x => StB 64 66 (rlBack t m) x)) := by
 have hn : t.layers.length ≤ 1000000 ∧ t.past.length ≤ 1000000 := ⟨Nat.le_trans ht.nl (by decide), Nat.le_trans ht.np (by decide)⟩
 have hnl := ht.nl; have hnp := ht.np
 obtain ⟨hm1, hm2⟩ := hm
 refine AC.go Tryz.func144 rfl (Nat.le_of_ble_eq_true rfl) fun β => ?_
 refine sr ?_
 refine RunL.op rfl rfl (OpJ.boxA rfl fun b2 => ?_)
 refine RunL.op rfl rfl (OpJ.boxA rfl fun b3 => ?_)
 refine RunL.op rfl rfl (OpJ.alloc Z28 fun b4 => ?_)
 refine RunL.op rfl rfl (OpJ.alloc Z43 fun b5 => ?_)
 refine asg rfl rfl ?_
 refine kp [2, 3, 4, 5] rfl ?_
 refine sr ?_
 refine sx 2 ?_
 refine RunL.call C162 rfl rfl rfl (ac162k t la lc pa pc (own 66 7 pa (t.past).length pc ((t.past).flatMap Pa.c)) m 2 (by rw [hk]; decide) own.rds hn.2) tks ?_
 refine sx 5 ?_
 refine kp [2, 3, 4, 5, 7, 8] rfl ?_
 refine Run.seq ?_
 refine sr ?_
 refine sx 2 ?_
 refine kp [2, 3, 4, 5, 7, 8, 17] rfl ?_
 first | refine Run.if rfl (fun h1 => ?_) (fun h1 => ?_) | refine Run.cond rfl (fun h1 => ?_) (fun h1 => ?_)
 refine sr ?_
 obtain ⟨e, he⟩ := errOf_ne h1
 refine sx 6 ?_
 refine kp [4, 5, 6] rfl ?_
 refine Run.ret ?_
 have hres : rlBack t m = .error e := (by unfold rlBack; rw [he]); rw [he]; refine ret_out (none, 0, none, 0) (.cellA T28 rfl pk (by rfl) (.cellA T43 rfl pk (by rfl) (.tmp rfl .nil))) trivial (by rw [hres]; rfl) ?_; rw [hres]; exact gv
 refine Run.skip ?_
 refine Run.seq ?_
 refine regionD HM ?_
 obtain ⟨i, p, hr, hx⟩ := refd_ok (Decidable.not_not.1 h1)
 rw [hr]
 have hi := (List.getElem?_eq_some_iff.1 hx).1
 obtain ⟨hp1, hp2, hp3, hp4⟩ := ht.pa i p hx
 refine RunD.ownAddr pk (flat_ne (k := 7) (fun _ => rfl) (by decide) hx) fun b e hcap => ?_
 subst e
 simp only [okIdx]
 refine tk 0 rfl rfl rfl (DetJ.fieldAddr F28_4 rfl) ?_
 first | refine RunD.takeF 1 rfl rfl kr T26 rfl pk (by rfl) ?_ | refine RunD.takeO 1 rfl rfl kr T26 rfl pk (by assumption) (by rfl) (by exact fun _ => rfl) ?_
 refine tk 2 rfl rfl rfl (DetJ.move rfl) ?_
 refine tk 3 rfl rfl rfl (DetJ.indexAddr S26 rfl rfl (by omega)) ?_
 first | refine RunD.takeW 4 rfl rfl kr T66 rfl pk (by rfl) ?_ | refine RunD.takeP 4 rfl rfl kr T66 rfl pk (by simp) ?_ | refine RunD.takeE 4 rfl rfl kr T66 rfl pk (by assumption) (by exact fun _ => rfl) rfl (by decide) ?_
 refine tk 5 rfl rfl rfl (DetJ.fieldAddr F47_4 rfl) ?_
 first | refine RunD.takeF 6 rfl rfl kr T3 rfl pk (by rfl) ?_ | refine RunD.takeO 6 rfl rfl kr T3 rfl pk (by assumption) (by rfl) (by exact fun _ => rfl) ?_
 refine RunD.op 7 [false, false, false, false, false, false, true] rfl rfl rfl kr kr (OpJ.callRet C163 rfl rfl (ac163 p m hm1) .nil ⟨po, ?_⟩)
 refine tk 8 rfl rfl rfl (DetJ.assign rfl) ?_
 refine kd [2, 3, 4, 5, 7, 9] rfl ?_
 refine Run.seq ?_
 refine regionD HM ?_
 refine tk 0 rfl rfl rfl (DetJ.fieldAddr F28_4 rfl) ?_
 first | refine RunD.takeF 1 rfl rfl kr T26 rfl pk (by rfl) ?_ | refine RunD.takeO 1 rfl rfl kr T26 rfl pk (by assumption) (by rfl) (by exact fun _ => rfl) ?_
 refine tk 2 rfl rfl rfl (DetJ.move rfl) ?_
 refine tk 3 rfl rfl rfl (DetJ.fieldAddr F28_4 rfl) ?_
 first | refine RunD.takeF 4 rfl rfl kr T26 rfl pk (by rfl) ?_ | refine RunD.takeO 4 rfl rfl kr T26 rfl pk (by assumption) (by rfl) (by exact fun _ => rfl) ?_
 refine tk 5 rfl rfl rfl (DetJ.move rfl) ?_
 refine tk 6 rfl rfl rfl (DetJ.indexAddr S26 rfl rfl (by omega)) ?_
 refine tk 7 rfl rfl rfl (DetJ.fieldAddr F66_5 rfl) ?_
 first | refine RunD.takeF 8 rfl rfl kr T3 rfl pk (by rfl) ?_ | refine RunD.takeO 8 rfl rfl kr T3 rfl pk (by assumption) (by rfl) (by exact fun _ => rfl) ?_
 refine tk 9 rfl rfl rfl (DetJ.fieldAddr F47_4 rfl) ?_
 first | refine RunD.takeF 10 rfl rfl kr T3 rfl pk (by rfl) ?_ | refine RunD.takeO 10 rfl rfl kr T3 rfl pk (by assumption) (by rfl) (by exact fun _ => rfl) ?_
 refine tk 11 rfl rfl rfl (DetJ.add rfl rfl) ?_
 refine tk 12 rfl rfl rfl (DetJ.indexAddr S26 rfl rfl (by omega)) ?_
 refine tk 13 rfl rfl rfl (DetJ.fieldAddr F66_5 rfl) ?_
 refine RunD.op 14 [false, false, false, false, false, false, false, false, false, false, false, false, false, false] rfl rfl rfl kr kr (OpJ.storeO (i := i) (u' := sendP p m) T3 rfl rfl rfl hx (fun _ => rfl) (by decide) rfl up ⟨po, ?_⟩)
 refine kd [2, 3, 4, 5, 7, 9] rfl ?_
 refine Run.seq ?_
 refine regionD HM ?_
 have hx1 := set_get hx (sendP p m)
 refine tk 0 rfl rfl rfl (DetJ.fieldAddr F28_4 rfl) ?_
 first | refine RunD.takeF 1 rfl rfl kr T26 rfl pk (by rfl) ?_ | refine RunD.takeO 1 rfl rfl kr T26 rfl pk (by assumption) (by rfl) (by exact fun _ => rfl) ?_
 refine tk 2 rfl rfl rfl (DetJ.move rfl) ?_
 refine tk 3 rfl rfl rfl (DetJ.fieldAddr F28_4 rfl) ?_
 first | refine RunD.takeF 4 rfl rfl kr T26 rfl pk (by rfl) ?_ | refine RunD.takeO 4 rfl rfl kr T26 rfl pk (by assumption) (by rfl) (by exact fun _ => rfl) ?_
 refine tk 5 rfl rfl rfl (DetJ.move rfl) ?_
 refine tk 6 rfl rfl rfl (DetJ.indexAddr S26 rfl rfl (by omega)) ?_
 refine tk 7 rfl rfl rfl (DetJ.fieldAddr F66_6 rfl) ?_
 first | refine RunD.takeF 8 rfl rfl kr T3 rfl pk (by rfl) ?_ | refine RunD.takeO 8 rfl rfl kr T3 rfl pk (by assumption) (by rfl) (by exact fun _ => rfl) ?_
 refine tk 9 rfl rfl rfl (DetJ.move rfl) ?_
 refine tk 10 rfl rfl rfl (DetJ.add rfl rfl) ?_
 refine tk 11 rfl rfl rfl (DetJ.indexAddr S26 rfl rfl (by omega)) ?_
 refine tk 12 rfl rfl rfl (DetJ.fieldAddr F66_6 rfl) ?_
 refine RunD.op 13 [false, false, false, false, false, false, false, false, false, false, false, false, false] rfl rfl rfl kr kr (OpJ.storeO (i := i) (u' := backP p m) T3 rfl rfl rfl hx1 (fun _ => rfl) (by decide) rfl up ⟨po, ?_⟩)
 rw [List.set_set]
 refine kd [2, 3, 4, 5, 7, 9] rfl ?_
 refine Run.seq ?_
 refine regionD HM ?_
 have hx2 := set_get hx (backP p m)
 first | refine RunD.takeW 0 rfl rfl kr T28 rfl pk (by rfl) ?_ | refine RunD.takeP 0 rfl rfl kr T28 rfl pk (by simp) ?_ | refine RunD.takeE 0 rfl rfl kr T28 rfl pk (by assumption) (by exact fun _ => rfl) rfl (by decide) ?_
 refine tk 1 rfl rfl rfl (DetJ.fieldAddr F28_4 rfl) ?_
 first | refine RunD.takeF 2 rfl rfl kr T26 rfl pk (by rfl) ?_ | refine RunD.takeO 2 rfl rfl kr T26 rfl pk (by assumption) (by rfl) (by exact fun _ => rfl) ?_
 refine tk 3 rfl rfl rfl (DetJ.move rfl) ?_
 refine tk 4 rfl rfl rfl (DetJ.indexAddr S26 rfl rfl (by omega)) ?_
 refine tk 5 rfl rfl rfl (DetJ.fieldAddr F66_2 rfl) ?_
 first | refine RunD.takeF 6 rfl rfl kr T9 rfl pk (by rfl) ?_ | refine RunD.takeO 6 rfl rfl kr T9 rfl pk (by assumption) (by rfl) (by exact fun _ => rfl) ?_
 refine tk 7 rfl rfl rfl (DetJ.fieldAddr F47_4 rfl) ?_
 first | refine RunD.takeF 8 rfl rfl kr T3 rfl pk (by rfl) ?_ | refine RunD.takeO 8 rfl rfl kr T3 rfl pk (by assumption) (by rfl) (by exact fun _ => rfl) ?_
 refine tk 9 rfl rfl rfl (DetJ.move rfl) ?_
 refine tk 11 rfl rfl rfl (DetJ.fieldAddr F47_4 rfl) ?_
 first | refine RunD.takeF 12 rfl rfl kr T3 rfl pk (by rfl) ?_ | refine RunD.takeO 12 rfl rfl kr T3 rfl pk (by assumption) (by rfl) (by exact fun _ => rfl) ?_
 refine tk 13 rfl rfl rfl (DetJ.move rfl) ?_
 refine RunD.takeB 14 rfl rfl kr B43 rfl rfl fun cs hcs => ?_
 simp only [Sk.c, Mv.c, Co.c, bldL, bldA, Value.cells, bs, Nat.reduceAdd, Nat.reduceLeDiff, Nat.reduceLT] at hcs; subst hcs
 refine RunD.op 10 [true, true, true, true, false, false, false, false, false, false, true, true, true, false] rfl rfl rfl kr kr (OpJ.callOuts C142 rfl rfl (ac142 t la lc _ pc (own 64 4 la (t.layers).length lc ((t.layers).flatMap Ly.c)) p.lot m.qty (backV p m) own.rds hn.1) tks fun ⟨la2, lc2⟩ _ => ⟨po, ?_⟩)
 refine RunD.op 15 [true, true, true, true, false, false, false] rfl rfl rfl kr kr (OpJ.storeW T28 rfl rfl rfl rfl (by simp [Value.oneCell', Pa.c, Ly.c, Mv.c, Co.c]) up ⟨po, ?_⟩)
 refine RunD.op 16 [false, false, false, false] rfl rfl rfl kr kr (OpJ.storeW T43 rfl rfl rfl rfl (by simp [Value.oneCell', Pa.c, Ly.c, Mv.c, Co.c]) up ⟨po, ?_⟩)
 refine tk 17 rfl rfl rfl (DetJ.assign rfl) ?_
 refine kd [4, 5, 6] rfl ?_
 refine Run.ret ?_
 have hres : rlBack t m = .ok _ := (by unfold rlBack; rw [hr]); refine ret_out (la2, lc2, (some ⟨b, 0, none⟩), pc) (.cellA T28 rfl pk (by rfl) (.cellA T43 rfl pk (by rfl) (.tmp rfl .nil))) trivial (by rw [hres]; simp only [RmV, RmS, Sk.c, List.length_set]; rfl) ?_; rw [hres]; simp only [StB, List.length_set, List.length_append]; exact gv
-- accountingref37.send
theorem ac145 (t : Sk) (m : Mv) (la : Option Addr) (lc : Nat) (pa : Option Addr) (pc : Nat) (ht : t.ok 999999) (hm : m.ok) (hk : m.kind = 4) : AC Tryz.prog 145 ⟨[.agg ⟨t.c la lc pa pc⟩, .agg ⟨m.c⟩]⟩ (stars [own 64 4 la (t.layers).length lc ((t.layers).flatMap Ly.c), own 66 7 pa (t.past).length pc ((t.past).flatMap Pa.c)]) (Outs (fun _ : Option Addr × Nat × Option Addr × Nat => True) (fun x => RmV t la lc pa pc (rlSend t m) x) (fun x => StB 64 66 (rlSend t m) x)) := by
 have hn : t.layers.length ≤ 1000000 ∧ t.past.length ≤ 1000000 := ⟨Nat.le_trans ht.nl (by decide), Nat.le_trans ht.np (by decide)⟩
 have hnl := ht.nl; have hnp := ht.np
 obtain ⟨hm1, hm2⟩ := hm
 refine AC.go Tryz.func145 rfl (Nat.le_of_ble_eq_true rfl) fun β => ?_
 refine sr ?_
 refine RunL.op rfl rfl (OpJ.boxA rfl fun b2 => ?_)
 refine RunL.op rfl rfl (OpJ.boxA rfl fun b3 => ?_)
 refine RunL.op rfl rfl (OpJ.alloc Z28 fun b4 => ?_)
 refine RunL.op rfl rfl (OpJ.alloc Z43 fun b5 => ?_)
 refine asg rfl rfl ?_
 refine kp [2, 3, 4, 5] rfl ?_
 refine sr ?_
 refine sx 2 ?_
 refine RunL.call C162 rfl rfl rfl (ac162k t la lc pa pc (own 66 7 pa (t.past).length pc ((t.past).flatMap Pa.c)) m 1 (by rw [hk]; decide) own.rds hn.2) tks ?_
 refine sx 5 ?_
 refine kp [2, 3, 4, 5, 7, 8] rfl ?_
 refine Run.seq ?_
 refine sr ?_
 refine sx 2 ?_
 refine kp [2, 3, 4, 5, 7, 8, 18] rfl ?_
 first | refine Run.if rfl (fun h1 => ?_) (fun h1 => ?_) | refine Run.cond rfl (fun h1 => ?_) (fun h1 => ?_)
 refine sr ?_
 obtain ⟨e, he⟩ := errOf_ne h1
 refine sx 6 ?_
 refine kp [4, 5, 6] rfl ?_
 refine Run.ret ?_
 have hres : rlSend t m = .error e := (by unfold rlSend; rw [he]); rw [he]; refine ret_out (none, 0, none, 0) (.cellA T28 rfl pk (by rfl) (.cellA T43 rfl pk (by rfl) (.tmp rfl .nil))) trivial (by rw [hres]; rfl) ?_; rw [hres]; exact gv
 refine Run.skip ?_
 refine sr ?_
 obtain ⟨i, p, hr, hx⟩ := refd_ok (Decidable.not_not.1 h1)
 rw [hr]
 have hi := (List.getElem?_eq_some_iff.1 hx).1
 obtain ⟨hp1, hp2, hp3, hp4⟩ := ht.pa i p hx
 refine RunL.ownAddr pk (flat_ne (k := 7) (fun _ => rfl) (by decide) hx) fun b e hcap => ?_
 subst e
 simp only [okIdx]
 refine sx 7 ?_
 refine kp [2, 3, 4, 5, 7, 9] rfl ?_
 refine Run.seq ?_
 refine Run.seq ?_
 refine regionD HM ?_
 first | refine RunD.takeW 0 rfl rfl kr T28 rfl pk (by rfl) ?_ | refine RunD.takeP 0 rfl rfl kr T28 rfl pk (by simp) ?_ | refine RunD.takeE 0 rfl rfl kr T28 rfl pk (by assumption) (by exact fun _ => rfl) rfl (by decide) ?_
 refine tk 1 rfl rfl rfl (DetJ.move rfl) ?_
 refine tk 3 rfl rfl rfl (DetJ.fieldAddr F47_4 rfl) ?_
 first | refine RunD.takeF 4 rfl rfl kr T3 rfl pk (by rfl) ?_ | refine RunD.takeO 4 rfl rfl kr T3 rfl pk (by assumption) (by rfl) (by exact fun _ => rfl) ?_
 refine RunD.op 2 [true, true, false, false] rfl rfl rfl kr kr (OpJ.callRet C172 rfl rfl (ac172 t la lc _ pc (own 64 4 la (t.layers).length lc ((t.layers).flatMap Ly.c)) p.lot own.rds hn.1) tks ⟨po, ?_⟩)
 refine tk 5 rfl rfl rfl (DetJ.lss rfl rfl) ?_
 refine kd [2, 3, 4, 5, 7, 9, 33] rfl ?_
 first | refine Run.if rfl (fun h2 => ?_) (fun h2 => ?_) | refine Run.cond rfl (fun h2 => ?_) (fun h2 => ?_)
 refine sr ?_
 refine sx 5 ?_
 refine kp [4, 5, 6] rfl ?_
 refine Run.ret ?_
 have hres : rlSend t m = .error 21 := (by unfold rlSend; rw [hr]; simp only; rw [if_pos (by assumption)]); refine ret_out (none, 0, none, 0) (.cellA T28 rfl pk (by rfl) (.cellA T43 rfl pk (by rfl) (.tmp rfl .nil))) trivial (by rw [hres]; rfl) ?_; rw [hres]; exact gv
 refine Run.skip ?_
 refine Run.seq ?_
 refine regionD HM ?_
 first | refine RunD.takeW 0 rfl rfl kr T28 rfl pk (by rfl) ?_ | refine RunD.takeP 0 rfl rfl kr T28 rfl pk (by simp) ?_ | refine RunD.takeE 0 rfl rfl kr T28 rfl pk (by assumption) (by exact fun _ => rfl) rfl (by decide) ?_
 refine tk 1 rfl rfl rfl (DetJ.move rfl) ?_
 refine tk 3 rfl rfl rfl (DetJ.fieldAddr F47_4 rfl) ?_
 first | refine RunD.takeF 4 rfl rfl kr T3 rfl pk (by rfl) ?_ | refine RunD.takeO 4 rfl rfl kr T3 rfl pk (by assumption) (by rfl) (by exact fun _ => rfl) ?_
 first | refine RunD.takeW 5 rfl rfl kr T28 rfl pk (by rfl) ?_ | refine RunD.takeP 5 rfl rfl kr T28 rfl pk (by simp) ?_ | refine RunD.takeE 5 rfl rfl kr T28 rfl pk (by assumption) (by exact fun _ => rfl) rfl (by decide) ?_
 refine tk 6 rfl rfl rfl (DetJ.move rfl) ?_
 refine RunD.op 2 [true, true, true, true, false, false] rfl rfl rfl kr kr (OpJ.callRet C173 rfl rfl (ac173 t la lc _ pc (own 64 4 la (t.layers).length lc ((t.layers).flatMap Ly.c)) p.lot own.rds hn.1) tks ⟨po, ?_⟩)
 refine RunD.op 7 [false, false, true, true] rfl rfl rfl kr kr (OpJ.callRet C172 rfl rfl (ac172 t la lc _ pc (own 64 4 la (t.layers).length lc ((t.layers).flatMap Ly.c)) p.lot own.rds hn.1) tks ⟨po, ?_⟩)
 refine RunD.op 8 [false, false] rfl rfl rfl kr kr (OpJ.callRet C165 rfl rfl (ac165 _ _ _ (rl_i64 ht.ly p.lot).2 hm1 (rl_i64 ht.ly p.lot).1) .nil ⟨po, ?_⟩)
 refine tk 9 rfl rfl rfl (DetJ.assign rfl) ?_
 refine kd [2, 3, 4, 5, 7, 9, 10] rfl ?_
 refine Run.seq ?_
 refine regionD HM ?_
 refine tk 0 rfl rfl rfl (DetJ.fieldAddr F28_4 rfl) ?_
 first | refine RunD.takeF 1 rfl rfl kr T26 rfl pk (by rfl) ?_ | refine RunD.takeO 1 rfl rfl kr T26 rfl pk (by assumption) (by rfl) (by exact fun _ => rfl) ?_
 refine tk 2 rfl rfl rfl (DetJ.move rfl) ?_
 refine tk 3 rfl rfl rfl (DetJ.fieldAddr F28_4 rfl) ?_
 first | refine RunD.takeF 4 rfl rfl kr T26 rfl pk (by rfl) ?_ | refine RunD.takeO 4 rfl rfl kr T26 rfl pk (by assumption) (by rfl) (by exact fun _ => rfl) ?_
 refine tk 5 rfl rfl rfl (DetJ.move rfl) ?_
 refine tk 6 rfl rfl rfl (DetJ.indexAddr S26 rfl rfl (by omega)) ?_
 refine tk 7 rfl rfl rfl (DetJ.fieldAddr F66_5 rfl) ?_
 first | refine RunD.takeF 8 rfl rfl kr T3 rfl pk (by rfl) ?_ | refine RunD.takeO 8 rfl rfl kr T3 rfl pk (by assumption) (by rfl) (by exact fun _ => rfl) ?_
 refine tk 9 rfl rfl rfl (DetJ.fieldAddr F47_4 rfl) ?_
 first | refine RunD.takeF 10 rfl rfl kr T3 rfl pk (by rfl) ?_ | refine RunD.takeO 10 rfl rfl kr T3 rfl pk (by assumption) (by rfl) (by exact fun _ => rfl) ?_
 refine tk 11 rfl rfl rfl (DetJ.add rfl rfl) ?_
 refine tk 12 rfl rfl rfl (DetJ.indexAddr S26 rfl rfl (by omega)) ?_
 refine tk 13 rfl rfl rfl (DetJ.fieldAddr F66_5 rfl) ?_
 refine RunD.op 14 [false, false, false, false, false, false, false, false, false, false, false, false, false, false] rfl rfl rfl kr kr (OpJ.storeO (i := i) (u' := sendP p m) T3 rfl rfl rfl hx (fun _ => rfl) (by decide) rfl up ⟨po, ?_⟩)
 refine kd [2, 3, 4, 5, 9, 10] rfl ?_
 refine Run.seq ?_
 refine regionD HM ?_
 first | refine RunD.takeW 0 rfl rfl kr T28 rfl pk (by rfl) ?_ | refine RunD.takeP 0 rfl rfl kr T28 rfl pk (by simp) ?_ | refine RunD.takeE 0 rfl rfl kr T28 rfl pk (by assumption) (by exact fun _ => rfl) rfl (by decide) ?_
 refine tk 1 rfl rfl rfl (DetJ.move rfl) ?_
 refine tk 2 rfl rfl rfl (DetJ.fieldAddr F47_4 rfl) ?_
 first | refine RunD.takeF 3 rfl rfl kr T3 rfl pk (by rfl) ?_ | refine RunD.takeO 3 rfl rfl kr T3 rfl pk (by assumption) (by rfl) (by exact fun _ => rfl) ?_
 refine tk 4 rfl rfl rfl (DetJ.neg rfl) ?_
 refine tk 5 rfl rfl rfl (DetJ.move rfl) ?_
 refine tk 6 rfl rfl rfl (DetJ.neg rfl) ?_
 refine tk 8 rfl rfl rfl (DetJ.fieldAddr F47_4 rfl) ?_
 first | refine RunD.takeF 9 rfl rfl kr T3 rfl pk (by rfl) ?_ | refine RunD.takeO 9 rfl rfl kr T3 rfl pk (by assumption) (by rfl) (by exact fun _ => rfl) ?_
 refine tk 10 rfl rfl rfl (DetJ.neg rfl) ?_
 refine tk 11 rfl rfl rfl (DetJ.move rfl) ?_
 refine tk 12 rfl rfl rfl (DetJ.neg rfl) ?_
 refine tk 13 rfl rfl rfl (DetJ.move rfl) ?_
 refine tk 14 rfl rfl rfl (DetJ.fieldAddr F47_5 rfl) ?_
 first | refine RunD.takeF 15 rfl rfl kr T3 rfl pk (by rfl) ?_ | refine RunD.takeO 15 rfl rfl kr T3 rfl pk (by assumption) (by rfl) (by exact fun _ => rfl) ?_
 refine tk 16 rfl rfl rfl (DetJ.sub rfl rfl) ?_
 refine RunD.takeB 17 rfl rfl kr B43 rfl rfl fun cs hcs => ?_
 simp only [Sk.c, Mv.c, Co.c, bldL, bldA, Value.cells, bs, Nat.reduceAdd, Nat.reduceLeDiff, Nat.reduceLT] at hcs; subst hcs
 refine RunD.op 7 [true, true, true, true, true, true, true, true, true, true, false, false, false, false, false, false, false] rfl rfl rfl kr kr (OpJ.callOuts C142 rfl rfl (ac142 t la lc _ pc (own 64 4 la (t.layers).length lc ((t.layers).flatMap Ly.c)) p.lot _ _ own.rds hn.1) tks fun ⟨la2, lc2⟩ _ => ⟨po, ?_⟩)
 refine RunD.op 18 [true, true, true, true, true, true, true, true, true, true] rfl rfl rfl kr kr (OpJ.storeW T28 rfl rfl rfl rfl (by simp [Value.oneCell', Pa.c, Ly.c, Mv.c, Co.c]) up ⟨po, ?_⟩)
 refine RunD.op 19 [false, false, false, false, false, false, false, false, false, false] rfl rfl rfl kr kr (OpJ.storeW T43 rfl rfl rfl rfl (by simp [Value.oneCell', Pa.c, Ly.c, Mv.c, Co.c]) up ⟨po, ?_⟩)
 refine tk 20 rfl rfl rfl (DetJ.assign rfl) ?_
 refine kd [4, 5, 6] rfl ?_
 refine Run.ret ?_
 have hres : rlSend t m = .ok _ := (by unfold rlSend; rw [hr]; simp only; rw [if_neg (by assumption)]); refine ret_out (la2, lc2, (some ⟨b, 0, none⟩), pc) (.cellA T28 rfl pk (by rfl) (.cellA T43 rfl pk (by rfl) (.tmp rfl .nil))) trivial (by rw [hres]; simp only [RmV, RmS, Sk.c, List.length_set]; rfl) ?_; rw [hres]; simp only [StB, List.length_set, List.length_append]; exact gv
-- accountingref37.landed
theorem ac146 (t : Sk) (m : Mv) (la : Option Addr) (lc : Nat) (pa : Option Addr) (pc : Nat) (ht : t.ok 999999) (hm : m.ok) : AC Tryz.prog 146 ⟨[.agg ⟨t.c la lc pa pc⟩, .agg ⟨m.c⟩]⟩ (stars [own 64 4 la (t.layers).length lc ((t.layers).flatMap Ly.c), own 66 7 pa (t.past).length pc ((t.past).flatMap Pa.c)]) (Outs (fun _ : Option Addr × Nat × Option Addr × Nat => True) (fun x => RmV t la lc pa pc (rlLand t m) x) (fun x => StB 64 66 (rlLand t m) x)) := by
 have hn : t.layers.length ≤ 1000000 ∧ t.past.length ≤ 1000000 := ⟨Nat.le_trans ht.nl (by decide), Nat.le_trans ht.np (by decide)⟩
 have hnl := ht.nl; have hnp := ht.np
 obtain ⟨hm1, hm2⟩ := hm
 refine AC.go Tryz.func146 rfl (Nat.le_of_ble_eq_true rfl) fun β => ?_
 refine sr ?_
 refine RunL.op rfl rfl (OpJ.boxA rfl fun b2 => ?_)
 refine RunL.op rfl rfl (OpJ.boxA rfl fun b3 => ?_)
 refine RunL.op rfl rfl (OpJ.alloc Z28 fun b4 => ?_)
 refine RunL.op rfl rfl (OpJ.alloc Z43 fun b5 => ?_)
 refine asg rfl rfl ?_
 refine kp [2, 3, 4, 5] rfl ?_
 refine sr ?_
 refine sx 3 ?_
 refine RunL.call C132 rfl rfl rfl (ac132 t la lc pa pc (own 66 7 pa (t.past).length pc ((t.past).flatMap Pa.c)) 1 m.ref (by decide) own.rds hn.2) tks ?_
 refine asg rfl rfl ?_
 rcases hf1 : findI (isPast 1 m.ref) t.past with _ | ⟨i, p⟩
 refine kp [2, 3, 4, 5, 7] rfl ?_
 refine Run.seq ?_
 refine sr ?_
 refine sx 2 ?_
 first | refine RunL.set (congrArg Value.bool (decide_eq_false (show ¬ ((i : Int) < 0) by omega))) ?_ | skip
 refine kp [2, 3, 4, 5, 7, 17] rfl ?_
 refine Run.true rfl ?_
 refine sr ?_
 refine sx 5 ?_
 refine kp [4, 5, 6] rfl ?_
 refine Run.ret ?_
 have hres : rlLand t m = .error 28 := (by unfold rlLand; rw [hf1]); refine ret_out (none, 0, none, 0) (.cellA T28 rfl pk (by rfl) (.cellA T43 rfl pk (by rfl) (.tmp rfl .nil))) trivial (by rw [hres]; rfl) ?_; rw [hres]; exact gv
 obtain ⟨hx, _⟩ := findI_some hf1
 have hi := (List.getElem?_eq_some_iff.1 hx).1
 obtain ⟨hp1, hp2, hp3, hp4⟩ := ht.pa i p hx
 refine RunL.ownAddr pk (flat_ne (k := 7) (fun _ => rfl) (by decide) hx) fun b e hcap => ?_
 subst e
 simp only [idxOf]
 refine kp [2, 3, 4, 5, 7] rfl ?_
 refine Run.seq ?_
 refine sr ?_
 refine sx 2 ?_
 first | refine RunL.set (congrArg Value.bool (decide_eq_false (show ¬ ((i : Int) < 0) by omega))) ?_ | skip
 refine kp [2, 3, 4, 5, 7, 17] rfl ?_
 refine Run.false rfl ?_
 refine Run.skip ?_
 refine Run.seq ?_
 refine regionD HM ?_
 refine tk 0 rfl rfl rfl (DetJ.fieldAddr F28_4 rfl) ?_
 first | refine RunD.takeF 1 rfl rfl kr T26 rfl pk (by rfl) ?_ | refine RunD.takeO 1 rfl rfl kr T26 rfl pk (by assumption) (by rfl) (by exact fun _ => rfl) ?_
 refine tk 2 rfl rfl rfl (DetJ.move rfl) ?_
 refine tk 3 rfl rfl rfl (DetJ.indexAddr S26 rfl rfl (by omega)) ?_
 refine tk 4 rfl rfl rfl (DetJ.fieldAddr F66_2 rfl) ?_
 first | refine RunD.takeF 5 rfl rfl kr T9 rfl pk (by rfl) ?_ | refine RunD.takeO 5 rfl rfl kr T9 rfl pk (by assumption) (by rfl) (by exact fun _ => rfl) ?_
 refine tk 6 rfl rfl rfl (DetJ.fieldAddr F28_4 rfl) ?_
 first | refine RunD.takeF 7 rfl rfl kr T26 rfl pk (by rfl) ?_ | refine RunD.takeO 7 rfl rfl kr T26 rfl pk (by assumption) (by rfl) (by exact fun _ => rfl) ?_
 refine tk 8 rfl rfl rfl (DetJ.move rfl) ?_
 refine tk 9 rfl rfl rfl (DetJ.indexAddr S26 rfl rfl (by omega)) ?_
 refine tk 10 rfl rfl rfl (DetJ.fieldAddr F66_3 rfl) ?_
 first | refine RunD.takeF 11 rfl rfl kr T3 rfl pk (by rfl) ?_ | refine RunD.takeO 11 rfl rfl kr T3 rfl pk (by assumption) (by rfl) (by exact fun _ => rfl) ?_
 refine tk 12 rfl rfl rfl (DetJ.assign rfl) ?_
 refine tk 13 rfl rfl rfl (DetJ.assign rfl) ?_
 refine kd [2, 3, 4, 5, 8, 9] rfl ?_
 refine sr ?_
 refine sx 3 ?_
 refine RunL.call C172 rfl rfl rfl (ac172 t la lc _ pc (own 64 4 la (t.layers).length lc ((t.layers).flatMap Ly.c)) p.lot own.rds hn.1) tks ?_
 refine sx 1 ?_
 refine RunL.set (show _ = I (rlMin t p) from rfl) ?_
 refine asg rfl rfl ?_
 refine kp [2, 3, 4, 5, 8, 9, 10] rfl ?_
 refine Run.seq ?_
 refine sr ?_
 refine sx 2 ?_
 refine kp [2, 3, 4, 5, 8, 9, 10, 38] rfl ?_
 first | refine Run.if rfl (fun h1 => ?_) (fun h1 => ?_) | refine Run.cond rfl (fun h1 => ?_) (fun h1 => ?_)
 refine Run.seq ?_
 refine regionD HM ?_
 first | refine RunD.takeW 0 rfl rfl kr T28 rfl pk (by rfl) ?_ | refine RunD.takeP 0 rfl rfl kr T28 rfl pk (by simp) ?_ | refine RunD.takeE 0 rfl rfl kr T28 rfl pk (by assumption) (by exact fun _ => rfl) rfl (by decide) ?_
 refine tk 1 rfl rfl rfl (DetJ.fieldAddr F47_5 rfl) ?_
 first | refine RunD.takeF 2 rfl rfl kr T3 rfl pk (by rfl) ?_ | refine RunD.takeO 2 rfl rfl kr T3 rfl pk (by assumption) (by rfl) (by exact fun _ => rfl) ?_
 refine RunD.takeB 3 rfl rfl kr B43 rfl rfl fun cs hcs => ?_
 simp only [Sk.c, Mv.c, Co.c, bldL, bldA, Value.cells, bs, Nat.reduceAdd, Nat.reduceLeDiff, Nat.reduceLT] at hcs; subst hcs
 refine RunD.op 4 [true, true, true, false] rfl rfl rfl kr kr (OpJ.storeW T28 rfl rfl rfl rfl (by simp [Value.oneCell', Pa.c, Ly.c, Mv.c, Co.c]) up ⟨po, ?_⟩)
 refine RunD.op 5 [false, false, false] rfl rfl rfl kr kr (OpJ.storeW T43 rfl rfl rfl rfl (by simp [Value.oneCell', Pa.c, Ly.c, Mv.c, Co.c]) up ⟨po, ?_⟩)
 refine tk 6 rfl rfl rfl (DetJ.assign rfl) ?_
 refine kd [4, 5, 6] rfl ?_
 refine Run.ret ?_
 have hres : rlLand t m = .ok _ := (by unfold rlLand; rw [hf1]; simp only; rw [if_pos (by assumption)]); refine ret_out (la, lc, (some ⟨b, 0, none⟩), pc) (.cellA T28 rfl pk (by rfl) (.cellA T43 rfl pk (by rfl) (.tmp rfl .nil))) trivial (by rw [hres]; simp only [RmV, RmS, Sk.c, List.length_set]; rfl) ?_; rw [hres]; simp only [StB, List.length_set, List.length_append]; exact gv
 refine Run.skip ?_
 refine sr ?_
 refine sx 4 ?_
 refine RunL.call C165 rfl rfl rfl (ac165 _ _ _ hm2 (rlMin_i64 ht.ly hp1) hp1) .nil ?_
 refine asg rfl rfl ?_
 refine kp [2, 3, 4, 5, 8, 11] rfl ?_
 refine Run.seq ?_
 refine regionD HM ?_
 first | refine RunD.takeW 0 rfl rfl kr T28 rfl pk (by rfl) ?_ | refine RunD.takeP 0 rfl rfl kr T28 rfl pk (by simp) ?_ | refine RunD.takeE 0 rfl rfl kr T28 rfl pk (by assumption) (by exact fun _ => rfl) rfl (by decide) ?_
 refine tk 1 rfl rfl rfl (DetJ.move rfl) ?_
 refine tk 2 rfl rfl rfl (DetJ.move rfl) ?_
 refine tk 4 rfl rfl rfl (DetJ.move rfl) ?_
 refine tk 5 rfl rfl rfl (DetJ.fieldAddr F47_5 rfl) ?_
 first | refine RunD.takeF 6 rfl rfl kr T3 rfl pk (by rfl) ?_ | refine RunD.takeO 6 rfl rfl kr T3 rfl pk (by assumption) (by rfl) (by exact fun _ => rfl) ?_
 refine tk 7 rfl rfl rfl (DetJ.move rfl) ?_
 refine tk 8 rfl rfl rfl (DetJ.sub rfl rfl) ?_
 refine RunD.takeB 9 rfl rfl kr B43 rfl rfl fun cs hcs => ?_
 simp only [Sk.c, Mv.c, Co.c, bldL, bldA, Value.cells, bs, Nat.reduceAdd, Nat.reduceLeDiff, Nat.reduceLT] at hcs; subst hcs
 refine RunD.op 3 [true, true, true, true, true, true, false, false, false] rfl rfl rfl kr kr (OpJ.callOuts C142 rfl rfl (ac142 t la lc _ pc (own 64 4 la (t.layers).length lc ((t.layers).flatMap Ly.c)) p.lot 0 _ own.rds hn.1) tks fun ⟨la2, lc2⟩ _ => ⟨po, ?_⟩)
 refine RunD.op 10 [true, true, true, true, true, true] rfl rfl rfl kr kr (OpJ.storeW T28 rfl rfl rfl rfl (by simp [Value.oneCell', Pa.c, Ly.c, Mv.c, Co.c]) up ⟨po, ?_⟩)
 refine RunD.op 11 [false, false, false, false, false, false] rfl rfl rfl kr kr (OpJ.storeW T43 rfl rfl rfl rfl (by simp [Value.oneCell', Pa.c, Ly.c, Mv.c, Co.c]) up ⟨po, ?_⟩)
 refine tk 12 rfl rfl rfl (DetJ.assign rfl) ?_
 refine kd [4, 5, 6] rfl ?_
 refine Run.ret ?_
 have hres : rlLand t m = .ok _ := (by unfold rlLand; rw [hf1]; simp only; rw [if_neg (by assumption)]); refine ret_out (la2, lc2, (some ⟨b, 0, none⟩), pc) (.cellA T28 rfl pk (by rfl) (.cellA T43 rfl pk (by rfl) (.tmp rfl .nil))) trivial (by rw [hres]; simp only [RmV, RmS, Sk.c, List.length_set]; rfl) ?_; rw [hres]; simp only [StB, List.length_set, List.length_append]; exact gv
end
end Go.Proofs.YtdcchollplhioaaGreatDoor

namespace Go.Proofs.YtdcchollplhioaaGreatDoor
open Go Go.SL Go.Proofs
section
attribute [local irreducible] OpJ RunL Run RunD DetJ pt own star Rd RdS
end
theorem acl2 (t : Sk) (m : Mv) (la : Option Addr) (lc : Nat) (pa : Option Addr) (pc : Nat) (ht : t.ok 999999) (hm : m.ok) (hk : m.kind = 2) : AC Tryz.prog 143 ⟨[.agg ⟨t.c la lc pa pc⟩, .agg ⟨m.c⟩]⟩ (stars [own 64 4 la (t.layers).length lc ((t.layers).flatMap Ly.c), own 66 7 pa (t.past).length pc ((t.past).flatMap Pa.c)]) (Outs (fun _ : Option Addr × Nat × Option Addr × Nat => True) (fun x => RmV t la lc pa pc (rlDo t m) x) (fun x => StB 64 66 (rlDo t m) x)) := by
  rw [rlDo_2 hk]; exact ac143 t m la lc pa pc ht hm 
section
attribute [local irreducible] OpJ RunL Run RunD DetJ pt own star Rd RdS
end
theorem acl3 (t : Sk) (m : Mv) (la : Option Addr) (lc : Nat) (pa : Option Addr) (pc : Nat) (ht : t.ok 999999) (hm : m.ok) (hk : m.kind = 3) : AC Tryz.prog 144 ⟨[.agg ⟨t.c la lc pa pc⟩, .agg ⟨m.c⟩]⟩ (stars [own 64 4 la (t.layers).length lc ((t.layers).flatMap Ly.c), own 66 7 pa (t.past).length pc ((t.past).flatMap Pa.c)]) (Outs (fun _ : Option Addr × Nat × Option Addr × Nat => True) (fun x => RmV t la lc pa pc (rlDo t m) x) (fun x => StB 64 66 (rlDo t m) x)) := by
  rw [rlDo_3 hk]; exact ac144 t m la lc pa pc ht hm hk
section
attribute [local irreducible] OpJ RunL Run RunD DetJ pt own star Rd RdS
end
theorem acl4 (t : Sk) (m : Mv) (la : Option Addr) (lc : Nat) (pa : Option Addr) (pc : Nat) (ht : t.ok 999999) (hm : m.ok) (hk : m.kind = 4) : AC Tryz.prog 145 ⟨[.agg ⟨t.c la lc pa pc⟩, .agg ⟨m.c⟩]⟩ (stars [own 64 4 la (t.layers).length lc ((t.layers).flatMap Ly.c), own 66 7 pa (t.past).length pc ((t.past).flatMap Pa.c)]) (Outs (fun _ : Option Addr × Nat × Option Addr × Nat => True) (fun x => RmV t la lc pa pc (rlDo t m) x) (fun x => StB 64 66 (rlDo t m) x)) := by
  rw [rlDo_4 hk]; exact ac145 t m la lc pa pc ht hm hk
section
attribute [local irreducible] OpJ RunL Run RunD DetJ pt own star Rd RdS
end
theorem acl5 (t : Sk) (m : Mv) (la : Option Addr) (lc : Nat) (pa : Option Addr) (pc : Nat) (ht : t.ok 999999) (hm : m.ok) (hk : m.kind = 5) : AC Tryz.prog 146 ⟨[.agg ⟨t.c la lc pa pc⟩, .agg ⟨m.c⟩]⟩ (stars [own 64 4 la (t.layers).length lc ((t.layers).flatMap Ly.c), own 66 7 pa (t.past).length pc ((t.past).flatMap Pa.c)]) (Outs (fun _ : Option Addr × Nat × Option Addr × Nat => True) (fun x => RmV t la lc pa pc (rlDo t m) x) (fun x => StB 64 66 (rlDo t m) x)) := by
  rw [rlDo_5 hk]; exact ac146 t m la lc pa pc ht hm 
section
attribute [local irreducible] OpJ RunL Run RunD DetJ pt own star Rd RdS
-- accountingref37.move
theorem ac104 (t : Sk) (m : Mv) (la : Option Addr) (lc : Nat) (pa : Option Addr) (pc : Nat) (ht : t.ok 999999) (hm : m.ok) : AC Tryz.prog 104 ⟨[.agg ⟨t.c la lc pa pc⟩, .agg ⟨m.c⟩]⟩ (stars [own 64 4 la (t.layers).length lc ((t.layers).flatMap Ly.c), own 66 7 pa (t.past).length pc ((t.past).flatMap Pa.c)]) (Outs (fun _ : Option Addr × Nat × Option Addr × Nat => True) (fun x => RmV t la lc pa pc (rlDo t m) x) (fun x => StB 64 66 (rlDo t m) x)) := by
 have hn : t.layers.length ≤ 1000000 ∧ t.past.length ≤ 1000000 := ⟨Nat.le_trans ht.nl (by decide), Nat.le_trans ht.np (by decide)⟩
 have hnl := ht.nl; have hnp := ht.np
 obtain ⟨hm1, hm2⟩ := hm
 refine AC.go Tryz.func104 rfl (Nat.le_of_ble_eq_true rfl) fun β => ?_
 refine sr ?_
 refine RunL.op rfl rfl (OpJ.boxA rfl fun b2 => ?_)
 refine RunL.op rfl rfl (OpJ.boxA rfl fun b3 => ?_)
 refine RunL.op rfl rfl (OpJ.alloc Z28 fun b4 => ?_)
 refine RunL.op rfl rfl (OpJ.alloc Z43 fun b5 => ?_)
 refine asg rfl rfl ?_
 refine kp [2, 3, 4, 5] rfl ?_
 refine Run.seq ?_
 refine sr ?_
 refine sx 2 ?_
 refine kp [2, 3, 4, 5, 8] rfl ?_
 refine Run.block ?_
 refine sr ?_
 refine sx 2 ?_
 refine kp [2, 3, 4, 5, 8, 9] rfl ?_
 first | refine Run.if rfl (fun h1 => ?_) (fun h1 => ?_) | refine Run.cond rfl (fun h1 => ?_) (fun h1 => ?_)
 refine Run.seq ?_
 refine sr ?_
 refine sx 3 ?_
 refine kp [2, 3, 4, 5, 13] rfl ?_
 first | refine Run.if rfl (fun h2 => ?_) (fun h2 => ?_) | refine Run.cond rfl (fun h2 => ?_) (fun h2 => ?_)
 refine sr ?_
 refine sx 5 ?_
 refine kp [4, 5, 6] rfl ?_
 refine Run.ret ?_
 have hres : rlDo t m = .error 22 := (by rw [rlDo_1 (by assumption)]; exact if_pos (by assumption)); refine ret_out (none, 0, none, 0) (.cellA T28 rfl pk (by rfl) (.cellA T43 rfl pk (by rfl) (.tmp rfl .nil))) trivial (by rw [hres]; rfl) ?_; rw [hres]; exact gv
 refine Run.skip ?_
 refine sr ?_
 refine sx 11 ?_
 refine RunL.op rfl rfl (OpJ.buildSlice1 S26 rfl rfl rfl (by decide) (by decide) Z66 rfl fun b27 => ?_)
 refine RunL.op rfl rfl (OpJ.append1 (⟨m.seq, 1, m.lot, m.qty, m.cost, 0, 0⟩ : Pa) S26 M66 rfl rfl pk pk rfl rfl (by simp [Value.oneCell', Pa.c, Ly.c, Mv.c, Co.c]) rfl (by omega) (by omega) fun a28 c28 => ?_)
 refine sx 2 ?_
 refine kp [2, 3, 4, 5] rfl ?_
 refine Run.seq ?_
 refine regionD HM ?_
 first | refine RunD.takeW 0 rfl rfl kr T28 rfl pk (by rfl) ?_ | refine RunD.takeP 0 rfl rfl kr T28 rfl pk (by simp) ?_ | refine RunD.takeE 0 rfl rfl kr T28 rfl pk (by assumption) (by exact fun _ => rfl) rfl (by decide) ?_
 refine tk 1 rfl rfl rfl (DetJ.fieldAddr F47_6 rfl) ?_
 first | refine RunD.takeF 2 rfl rfl kr T9 rfl pk (by rfl) ?_ | refine RunD.takeO 2 rfl rfl kr T9 rfl pk (by assumption) (by rfl) (by exact fun _ => rfl) ?_
 refine tk 3 rfl rfl rfl (DetJ.fieldAddr F47_4 rfl) ?_
 first | refine RunD.takeF 4 rfl rfl kr T3 rfl pk (by rfl) ?_ | refine RunD.takeO 4 rfl rfl kr T3 rfl pk (by assumption) (by rfl) (by exact fun _ => rfl) ?_
 refine tk 5 rfl rfl rfl (DetJ.fieldAddr F47_5 rfl) ?_
 first | refine RunD.takeF 6 rfl rfl kr T3 rfl pk (by rfl) ?_ | refine RunD.takeO 6 rfl rfl kr T3 rfl pk (by assumption) (by rfl) (by exact fun _ => rfl) ?_
 refine tk 8 rfl rfl rfl (DetJ.fieldAddr F47_4 rfl) ?_
 first | refine RunD.takeF 9 rfl rfl kr T3 rfl pk (by rfl) ?_ | refine RunD.takeO 9 rfl rfl kr T3 rfl pk (by assumption) (by rfl) (by exact fun _ => rfl) ?_
 refine tk 10 rfl rfl rfl (DetJ.fieldAddr F47_5 rfl) ?_
 first | refine RunD.takeF 11 rfl rfl kr T3 rfl pk (by rfl) ?_ | refine RunD.takeO 11 rfl rfl kr T3 rfl pk (by assumption) (by rfl) (by exact fun _ => rfl) ?_
 refine RunD.takeB 12 rfl rfl kr B43 rfl rfl fun cs hcs => ?_
 simp only [Sk.c, Mv.c, Co.c, bldL, bldA, Value.cells, bs, Nat.reduceAdd, Nat.reduceLeDiff, Nat.reduceLT] at hcs; subst hcs
 refine RunD.op 7 [true, true, true, true, true, false, false, false, false, false, false, false] rfl rfl rfl kr kr (OpJ.callOuts C142 rfl rfl (ac142 { t with past := t.past ++ [(⟨m.seq, 1, m.lot, m.qty, m.cost, 0, 0⟩ : Pa)] } la lc _ _ (own 64 4 la (t.layers).length lc ((t.layers).flatMap Ly.c)) m.lot m.qty m.cost own.rds hn.1) tks fun ⟨la2, lc2⟩ _ => ⟨po, ?_⟩)
 refine RunD.op 13 [true, true, true, true, true] rfl rfl rfl kr kr (OpJ.storeW T28 rfl rfl rfl rfl (by simp [Value.oneCell', Pa.c, Ly.c, Mv.c, Co.c]) up ⟨po, ?_⟩)
 refine RunD.op 14 [false, false, false, false, false] rfl rfl rfl kr kr (OpJ.storeW T43 rfl rfl rfl rfl (by simp [Value.oneCell', Pa.c, Ly.c, Mv.c, Co.c]) up ⟨po, ?_⟩)
 refine tk 15 rfl rfl rfl (DetJ.assign rfl) ?_
 refine kd [4, 5, 6] rfl ?_
 refine Run.ret ?_
 have hres : rlDo t m = .ok _ := (by rw [rlDo_1 (by assumption)]; exact if_neg (by assumption)); refine ret_out (la2, lc2, a28, c28) (.cellA T28 rfl pk (by rfl) (.cellA T43 rfl pk (by rfl) (.tmp rfl .nil))) trivial (by rw [hres]; simp only [RmV, RmS, Sk.c, List.length_set]; rfl) ?_; rw [hres]; simp only [StB, List.length_set, List.length_append]; exact gv
 refine sr ?_
 refine sx 2 ?_
 refine kp [2, 3, 4, 5, 8, 43] rfl ?_
 first | refine Run.if rfl (fun h3 => ?_) (fun h3 => ?_) | refine Run.cond rfl (fun h3 => ?_) (fun h3 => ?_)
 refine sr ?_
 refine sx 2 ?_
 refine RunL.callX C143 rfl rfl rfl (acl2 t m la lc pa pc ht ⟨hm1, hm2⟩ (by assumption)) tks fun x _ => ?_
 rcases hres : rlDo t m with e | ⟨t2, c2⟩
 refine sx 3 ?_
 refine RunL.op rfl rfl (OpJ.storeW T28 rfl rfl RmS_len rfl RmS_one up ?_)
 refine sx 2 ?_
 refine kp [4, 5, 6] rfl ?_
 refine Run.ret ?_
 refine ret_out x (.cellA T28 rfl pk (by rfl) (.cellA T43 rfl pk (by rfl) (.tmp rfl .nil))) trivial rfl ?_; exact gv
 refine sx 3 ?_
 refine RunL.op rfl rfl (OpJ.storeW T28 rfl rfl RmS_len rfl RmS_one up ?_)
 refine sx 2 ?_
 refine kp [4, 5, 6] rfl ?_
 refine Run.ret ?_
 refine ret_out x (.cellA T28 rfl pk (by rfl) (.cellA T43 rfl pk (by rfl) (.tmp rfl .nil))) trivial rfl ?_; exact gv
 refine sr ?_
 refine sx 2 ?_
 refine kp [2, 3, 4, 5, 8, 51] rfl ?_
 first | refine Run.if rfl (fun h4 => ?_) (fun h4 => ?_) | refine Run.cond rfl (fun h4 => ?_) (fun h4 => ?_)
 refine sr ?_
 refine sx 2 ?_
 refine RunL.callX C144 rfl rfl rfl (acl3 t m la lc pa pc ht ⟨hm1, hm2⟩ (by assumption)) tks fun x _ => ?_
 rcases hres : rlDo t m with e | ⟨t2, c2⟩
 refine sx 3 ?_
 refine RunL.op rfl rfl (OpJ.storeW T28 rfl rfl RmS_len rfl RmS_one up ?_)
 refine sx 2 ?_
 refine kp [4, 5, 6] rfl ?_
 refine Run.ret ?_
 refine ret_out x (.cellA T28 rfl pk (by rfl) (.cellA T43 rfl pk (by rfl) (.tmp rfl .nil))) trivial rfl ?_; exact gv
 refine sx 3 ?_
 refine RunL.op rfl rfl (OpJ.storeW T28 rfl rfl RmS_len rfl RmS_one up ?_)
 refine sx 2 ?_
 refine kp [4, 5, 6] rfl ?_
 refine Run.ret ?_
 refine ret_out x (.cellA T28 rfl pk (by rfl) (.cellA T43 rfl pk (by rfl) (.tmp rfl .nil))) trivial rfl ?_; exact gv
 refine sr ?_
 refine sx 2 ?_
 refine kp [2, 3, 4, 5, 8, 59] rfl ?_
 first | refine Run.if rfl (fun h5 => ?_) (fun h5 => ?_) | refine Run.cond rfl (fun h5 => ?_) (fun h5 => ?_)
 refine sr ?_
 refine sx 2 ?_
 refine RunL.callX C145 rfl rfl rfl (acl4 t m la lc pa pc ht ⟨hm1, hm2⟩ (by assumption)) tks fun x _ => ?_
 rcases hres : rlDo t m with e | ⟨t2, c2⟩
 refine sx 3 ?_
 refine RunL.op rfl rfl (OpJ.storeW T28 rfl rfl RmS_len rfl RmS_one up ?_)
 refine sx 2 ?_
 refine kp [4, 5, 6] rfl ?_
 refine Run.ret ?_
 refine ret_out x (.cellA T28 rfl pk (by rfl) (.cellA T43 rfl pk (by rfl) (.tmp rfl .nil))) trivial rfl ?_; exact gv
 refine sx 3 ?_
 refine RunL.op rfl rfl (OpJ.storeW T28 rfl rfl RmS_len rfl RmS_one up ?_)
 refine sx 2 ?_
 refine kp [4, 5, 6] rfl ?_
 refine Run.ret ?_
 refine ret_out x (.cellA T28 rfl pk (by rfl) (.cellA T43 rfl pk (by rfl) (.tmp rfl .nil))) trivial rfl ?_; exact gv
 refine sr ?_
 refine sx 2 ?_
 refine kp [2, 3, 4, 5, 67] rfl ?_
 first | refine Run.if rfl (fun h6 => ?_) (fun h6 => ?_) | refine Run.cond rfl (fun h6 => ?_) (fun h6 => ?_)
 refine sr ?_
 refine sx 2 ?_
 refine RunL.callX C146 rfl rfl rfl (acl5 t m la lc pa pc ht ⟨hm1, hm2⟩ (by assumption)) tks fun x _ => ?_
 rcases hres : rlDo t m with e | ⟨t2, c2⟩
 refine sx 3 ?_
 refine RunL.op rfl rfl (OpJ.storeW T28 rfl rfl RmS_len rfl RmS_one up ?_)
 refine sx 2 ?_
 refine kp [4, 5, 6] rfl ?_
 refine Run.ret ?_
 refine ret_out x (.cellA T28 rfl pk (by rfl) (.cellA T43 rfl pk (by rfl) (.tmp rfl .nil))) trivial rfl ?_; exact gv
 refine sx 3 ?_
 refine RunL.op rfl rfl (OpJ.storeW T28 rfl rfl RmS_len rfl RmS_one up ?_)
 refine sx 2 ?_
 refine kp [4, 5, 6] rfl ?_
 refine Run.ret ?_
 refine ret_out x (.cellA T28 rfl pk (by rfl) (.cellA T43 rfl pk (by rfl) (.tmp rfl .nil))) trivial rfl ?_; exact gv
 refine Run.skip ?_
 refine sr ?_
 refine sx 5 ?_
 refine kp [4, 5, 6] rfl ?_
 refine Run.ret ?_
 have hres := rlDo_0 (t := t) (m := m) (by refine ⟨?_, ?_, ?_, ?_, ?_⟩ <;> assumption); refine ret_out (none, 0, none, 0) (.cellA T28 rfl pk (by rfl) (.cellA T43 rfl pk (by rfl) (.tmp rfl .nil))) trivial (by rw [hres]; rfl) ?_; rw [hres]; exact gv
end
theorem ac104f (t : Sk) (m : Mv) (la : Option Addr) (lc : Nat) (pa : Option Addr) (pc : Nat) (ht : t.ok 999999) (hm : m.ok) : AC Tryz.prog 104 ⟨[.agg ⟨t.c la lc pa pc⟩, .agg ⟨m.c⟩]⟩ (stars [own 64 4 la (t.layers).length lc ((t.layers).flatMap Ly.c), own 66 7 pa (t.past).length pc ((t.past).flatMap Pa.c)]) (Outs (fun _ : Option Addr × Nat × Option Addr × Nat => True) (fun x => RmV t la lc pa pc (rlDo t m) x) (fun x => [stars (StB 64 66 (rlDo t m) x)])) := by
  refine AC.mono (ac104 t m la lc pa pc ht hm) (fun _ h => h) ?_
  rintro r h ⟨x, ⟨_, hr⟩, hh⟩
  exact ⟨x, ⟨trivial, hr⟩, stars_un (As := StB 64 66 _ x) (M := []) (by rw [List.append_nil]; exact hh)⟩
section
attribute [local irreducible] OpJ RunL Run RunD DetJ pt own star Rd RdS
-- accountingref37.Step
theorem ac57 (s : Sk) (m : Mv) (la : Option Addr) (lc : Nat) (pa : Option Addr) (pc : Nat) (RL RP : HP) (hs : s.ok 999999) (hm : m.ok) (hRL : RdS RL la (s.layers.flatMap Ly.c)) (hRP : RdS RP pa (s.past.flatMap Pa.c)) (hsz : (m.item.size : Int) ≤ 9223372036854775807 ∧ (m.lot.size : Int) ≤ 9223372036854775807) (hf0 : s.fine) : AC Tryz.prog 57 ⟨[.agg ⟨s.c la lc pa pc⟩, .agg ⟨m.c⟩]⟩ (stars [RL, RP]) (Outs (fun _ : Option Addr × Nat × Option Addr × Nat => True) (fun x => StV (rlStep s m) x) (fun x => StB 64 66 (rlStep s m) x ++ [RL, RP])) := by
 have hn : s.layers.length ≤ 1000000 ∧ s.past.length ≤ 1000000 := ⟨Nat.le_trans hs.nl (by decide), Nat.le_trans hs.np (by decide)⟩
 have hnl := hn.1; have hnp := hn.2
 refine AC.go Tryz.func57 rfl (Nat.le_of_ble_eq_true rfl) fun β => ?_
 refine sr ?_
 refine RunL.op rfl rfl (OpJ.boxA rfl fun b2 => ?_)
 refine RunL.op rfl rfl (OpJ.boxA rfl fun b3 => ?_)
 refine RunL.op rfl rfl (OpJ.alloc Z28 fun b4 => ?_)
 refine RunL.op rfl rfl (OpJ.alloc Z43 fun b5 => ?_)
 refine asg rfl rfl ?_
 refine kp [2, 3, 4, 5] rfl ?_
 refine Run.seq ?_
 refine sr ?_
 refine sx 1 ?_
 refine RunL.call C91 rfl rfl rfl (ac91 m hsz.1 hsz.2) .nil ?_
 refine asg rfl rfl ?_
 refine kp [2, 3, 4, 5, 7] rfl ?_
 refine sr ?_
 refine sx 2 ?_
 refine kp [2, 3, 4, 5, 7, 14] rfl ?_
 first | refine Run.if rfl (fun h1 => ?_) (fun h1 => ?_) | refine Run.cond rfl (fun h1 => ?_) (fun h1 => ?_)
 refine sr ?_
 refine sx 6 ?_
 refine kp [4, 5, 6] rfl ?_
 refine Run.ret ?_
 have hres2 : rlStep s m = .error m.one := (by unfold rlStep; rw [if_pos h1]); refine ret_out (none, 0, none, 0) (.cellA T28 rfl pk (by rfl) (.cellA T43 rfl pk (by rfl) (.tmp rfl .nil))) trivial (by rw [hres2]; rfl) ?_; rw [hres2]; exact gv
 refine Run.skip ?_
 refine Run.seq ?_
 refine sr ?_
 refine sx 3 ?_
 refine RunL.call C92 rfl rfl rfl (ac92 s la lc pa pc RP m.seq hRP hnp) tks ?_
 rw [known_eq hf0]
 refine kp [2, 3, 4, 5, 21] rfl ?_
 first | refine Run.if rfl (fun h2 => ?_) (fun h2 => ?_) | refine Run.cond rfl (fun h2 => ?_) (fun h2 => ?_)
 refine sr ?_
 refine sx 5 ?_
 refine kp [4, 5, 6] rfl ?_
 refine Run.ret ?_
 have hres2 : rlStep s m = .error 8 := (by unfold rlStep; rw [if_neg h1, if_pos (by assumption)]); refine ret_out (none, 0, none, 0) (.cellA T28 rfl pk (by rfl) (.cellA T43 rfl pk (by rfl) (.tmp rfl .nil))) trivial (by rw [hres2]; rfl) ?_; rw [hres2]; exact gv
 refine Run.skip ?_
 refine Run.seq ?_
 refine regionD HM ?_
 refine RunD.mono (K' := fun E' L' => ∃ la2 : Option Addr, ∃ lc2 : Nat, ∃ pa2 : Option Addr, ∃ pc2 : Nat, ∃ x : Option Addr × Nat × Option Addr × Nat, ∃ b8 : Nat, ∃ b9 : Nat, E' = [(3, .pointer (some ⟨b3, 0, none⟩)), (4, .pointer (some ⟨b4, 0, none⟩)), (5, .pointer (some ⟨b5, 0, none⟩)), (8, .pointer (some ⟨b8, 0, none⟩)), (9, .pointer (some ⟨b9, 0, none⟩)), (10, I (errOf (rlDo s m)))] ∧ L' = [pt b8 (blk (RmS s la2 lc2 pa2 pc2 (rlDo s m) x) 28), pt b9 (blk (avC (rlDo s m)).c 43), stars (StB 64 66 (rlDo s m) x), pt b3 (blk m.c 47), pt b4 (blk [I 0, I 0, I 0, .slice none 0 0, .slice none 0 0] 28), pt b5 (blk [I 0, I 0, I 0, I 0] 43), RL, RP]) ?_ ?_
 first | refine RunD.takeW 0 rfl rfl kr T28 rfl pk (by rfl) ?_ | refine RunD.takeP 0 rfl rfl kr T28 rfl pk (by simp) ?_ | refine RunD.takeE 0 rfl rfl kr T28 rfl pk (by assumption) (by exact fun _ => rfl) rfl (by decide) ?_
 first | refine RunD.takeW 2 rfl rfl kr T47 rfl pk (by rfl) ?_ | refine RunD.takeP 2 rfl rfl kr T47 rfl pk (by simp) ?_ | refine RunD.takeE 2 rfl rfl kr T47 rfl pk (by assumption) (by exact fun _ => rfl) rfl (by decide) ?_
 refine RunD.three 1 8 9 [true, false] [true, true] [true, true] rfl rfl rfl rfl rfl rfl rfl rfl rfl kr kr kr kr (OpJ.callOuts C94 rfl rfl (ac94 s la lc pa pc RL RP hn hRL hRP) tks fun ⟨la2, lc2, pa2, pc2⟩ _ => ⟨po, ?_⟩) (OpJ.alloc Z28 fun b8 => ⟨po, ?_⟩) (OpJ.alloc Z43 fun b9 => ⟨po, ?_⟩)
 refine RunD.three 3 8 9 [false] [true] [true] rfl rfl rfl rfl rfl rfl rfl rfl rfl kr kr kr kr (OpJ.callOuts C104 rfl rfl (ac104f s m la2 lc2 pa2 pc2 hs hm) tks fun x _ => ⟨po, ?_⟩) (OpJ.alloc Z28 fun b8 => ⟨po, ?_⟩) (OpJ.alloc Z43 fun b9 => ⟨po, ?_⟩)
 refine tk 4 rfl rfl rfl (DetJ.move rfl) ?_
 refine tk 5 rfl rfl rfl (DetJ.extract rfl rfl) ?_
 refine tk 6 rfl rfl rfl (DetJ.extract rfl rfl) ?_
 refine tk 7 rfl rfl rfl (DetJ.extract rfl rfl) ?_
 refine RunD.two 8 9 [true, true, true, true] [true, true, true, true] rfl rfl rfl rfl rfl rfl kr kr kr (OpJ.alloc Z28 fun b8 => ⟨po, ?_⟩) (OpJ.alloc Z43 fun b9 => ⟨po, ?_⟩)
 refine RunD.op 9 [true, true, true, true] rfl rfl rfl kr kr (OpJ.alloc Z43 fun b9 => ⟨po, ?_⟩)
 refine RunD.op 10 [true, true, false, false] rfl rfl rfl kr kr (OpJ.storeW T28 rfl rfl RmS_len rfl RmS_one up ⟨po, ?_⟩)
 refine RunD.op 11 [true, false] rfl rfl rfl kr kr (OpJ.storeW T43 rfl rfl rfl rfl (by simp [Value.oneCell', Pa.c, Ly.c, Mv.c, Co.c]) up ⟨po, ?_⟩)
 refine tk 12 rfl rfl rfl (DetJ.assign rfl) ?_
 exact RunD.weak (E' := [(3, .pointer (some ⟨b3, 0, none⟩)), (4, .pointer (some ⟨b4, 0, none⟩)), (5, .pointer (some ⟨b5, 0, none⟩)), (8, .pointer (some ⟨b8, 0, none⟩)), (9, .pointer (some ⟨b9, 0, none⟩)), (10, I (errOf (rlDo s m)))]) (L' := [pt b8 (blk (RmS s la2 lc2 pa2 pc2 (rlDo s m) x) 28), pt b9 (blk (avC (rlDo s m)).c 43), stars (StB 64 66 (rlDo s m) x), pt b3 (blk m.c 47), pt b4 (blk [I 0, I 0, I 0, .slice none 0 0, .slice none 0 0] 28), pt b5 (blk [I 0, I 0, I 0, I 0] 43), RL, RP]) (Keep.sub (kt (ks := [3, 4, 5, 8, 9, 10]) rfl)) gv (RunD.done kr ⟨_, _, _, _, _, _, _, rfl, rfl⟩)
 refine RunD.op 8 [true, true, true, true] rfl rfl rfl kr kr (OpJ.alloc Z28 fun b8 => ⟨po, ?_⟩)
 refine RunD.op 10 [true, true, false, false] rfl rfl rfl kr kr (OpJ.storeW T28 rfl rfl RmS_len rfl RmS_one up ⟨po, ?_⟩)
 refine RunD.op 11 [true, false] rfl rfl rfl kr kr (OpJ.storeW T43 rfl rfl rfl rfl (by simp [Value.oneCell', Pa.c, Ly.c, Mv.c, Co.c]) up ⟨po, ?_⟩)
 refine tk 12 rfl rfl rfl (DetJ.assign rfl) ?_
 exact RunD.weak (E' := [(3, .pointer (some ⟨b3, 0, none⟩)), (4, .pointer (some ⟨b4, 0, none⟩)), (5, .pointer (some ⟨b5, 0, none⟩)), (8, .pointer (some ⟨b8, 0, none⟩)), (9, .pointer (some ⟨b9, 0, none⟩)), (10, I (errOf (rlDo s m)))]) (L' := [pt b8 (blk (RmS s la2 lc2 pa2 pc2 (rlDo s m) x) 28), pt b9 (blk (avC (rlDo s m)).c 43), stars (StB 64 66 (rlDo s m) x), pt b3 (blk m.c 47), pt b4 (blk [I 0, I 0, I 0, .slice none 0 0, .slice none 0 0] 28), pt b5 (blk [I 0, I 0, I 0, I 0] 43), RL, RP]) (Keep.sub (kt (ks := [3, 4, 5, 8, 9, 10]) rfl)) gv (RunD.done kr ⟨_, _, _, _, _, _, _, rfl, rfl⟩)
 refine RunD.two 3 9 [false] [true] rfl rfl rfl rfl rfl rfl kr kr kr (OpJ.callOuts C104 rfl rfl (ac104f s m la2 lc2 pa2 pc2 hs hm) tks fun x _ => ⟨po, ?_⟩) (OpJ.alloc Z43 fun b9 => ⟨po, ?_⟩)
 refine tk 4 rfl rfl rfl (DetJ.move rfl) ?_
 refine tk 5 rfl rfl rfl (DetJ.extract rfl rfl) ?_
 refine tk 6 rfl rfl rfl (DetJ.extract rfl rfl) ?_
 refine tk 7 rfl rfl rfl (DetJ.extract rfl rfl) ?_
 refine RunD.op 9 [true, true, true, true] rfl rfl rfl kr kr (OpJ.alloc Z43 fun b9 => ⟨po, ?_⟩)
 refine RunD.op 10 [true, true, false, false] rfl rfl rfl kr kr (OpJ.storeW T28 rfl rfl RmS_len rfl RmS_one up ⟨po, ?_⟩)
 refine RunD.op 11 [true, false] rfl rfl rfl kr kr (OpJ.storeW T43 rfl rfl rfl rfl (by simp [Value.oneCell', Pa.c, Ly.c, Mv.c, Co.c]) up ⟨po, ?_⟩)
 refine tk 12 rfl rfl rfl (DetJ.assign rfl) ?_
 exact RunD.weak (E' := [(3, .pointer (some ⟨b3, 0, none⟩)), (4, .pointer (some ⟨b4, 0, none⟩)), (5, .pointer (some ⟨b5, 0, none⟩)), (8, .pointer (some ⟨b8, 0, none⟩)), (9, .pointer (some ⟨b9, 0, none⟩)), (10, I (errOf (rlDo s m)))]) (L' := [pt b8 (blk (RmS s la2 lc2 pa2 pc2 (rlDo s m) x) 28), pt b9 (blk (avC (rlDo s m)).c 43), stars (StB 64 66 (rlDo s m) x), pt b3 (blk m.c 47), pt b4 (blk [I 0, I 0, I 0, .slice none 0 0, .slice none 0 0] 28), pt b5 (blk [I 0, I 0, I 0, I 0] 43), RL, RP]) (Keep.sub (kt (ks := [3, 4, 5, 8, 9, 10]) rfl)) gv (RunD.done kr ⟨_, _, _, _, _, _, _, rfl, rfl⟩)
 refine RunD.op 3 [false] rfl rfl rfl kr kr (OpJ.callOuts C104 rfl rfl (ac104f s m la2 lc2 pa2 pc2 hs hm) tks fun x _ => ⟨po, ?_⟩)
 refine tk 4 rfl rfl rfl (DetJ.move rfl) ?_
 refine tk 5 rfl rfl rfl (DetJ.extract rfl rfl) ?_
 refine tk 6 rfl rfl rfl (DetJ.extract rfl rfl) ?_
 refine tk 7 rfl rfl rfl (DetJ.extract rfl rfl) ?_
 refine RunD.op 10 [true, true, false, false] rfl rfl rfl kr kr (OpJ.storeW T28 rfl rfl RmS_len rfl RmS_one up ⟨po, ?_⟩)
 refine RunD.op 11 [true, false] rfl rfl rfl kr kr (OpJ.storeW T43 rfl rfl rfl rfl (by simp [Value.oneCell', Pa.c, Ly.c, Mv.c, Co.c]) up ⟨po, ?_⟩)
 refine tk 12 rfl rfl rfl (DetJ.assign rfl) ?_
 exact RunD.weak (E' := [(3, .pointer (some ⟨b3, 0, none⟩)), (4, .pointer (some ⟨b4, 0, none⟩)), (5, .pointer (some ⟨b5, 0, none⟩)), (8, .pointer (some ⟨b8, 0, none⟩)), (9, .pointer (some ⟨b9, 0, none⟩)), (10, I (errOf (rlDo s m)))]) (L' := [pt b8 (blk (RmS s la2 lc2 pa2 pc2 (rlDo s m) x) 28), pt b9 (blk (avC (rlDo s m)).c 43), stars (StB 64 66 (rlDo s m) x), pt b3 (blk m.c 47), pt b4 (blk [I 0, I 0, I 0, .slice none 0 0, .slice none 0 0] 28), pt b5 (blk [I 0, I 0, I 0, I 0] 43), RL, RP]) (Keep.sub (kt (ks := [3, 4, 5, 8, 9, 10]) rfl)) gv (RunD.done kr ⟨_, _, _, _, _, _, _, rfl, rfl⟩)
 refine RunD.two 3 8 [false] [true] rfl rfl rfl rfl rfl rfl kr kr kr (OpJ.callOuts C104 rfl rfl (ac104f s m la2 lc2 pa2 pc2 hs hm) tks fun x _ => ⟨po, ?_⟩) (OpJ.alloc Z28 fun b8 => ⟨po, ?_⟩)
 refine tk 4 rfl rfl rfl (DetJ.move rfl) ?_
 refine tk 5 rfl rfl rfl (DetJ.extract rfl rfl) ?_
 refine tk 6 rfl rfl rfl (DetJ.extract rfl rfl) ?_
 refine tk 7 rfl rfl rfl (DetJ.extract rfl rfl) ?_
 refine RunD.op 8 [true, true, true, true] rfl rfl rfl kr kr (OpJ.alloc Z28 fun b8 => ⟨po, ?_⟩)
 refine RunD.op 10 [true, true, false, false] rfl rfl rfl kr kr (OpJ.storeW T28 rfl rfl RmS_len rfl RmS_one up ⟨po, ?_⟩)
 refine RunD.op 11 [true, false] rfl rfl rfl kr kr (OpJ.storeW T43 rfl rfl rfl rfl (by simp [Value.oneCell', Pa.c, Ly.c, Mv.c, Co.c]) up ⟨po, ?_⟩)
 refine tk 12 rfl rfl rfl (DetJ.assign rfl) ?_
 exact RunD.weak (E' := [(3, .pointer (some ⟨b3, 0, none⟩)), (4, .pointer (some ⟨b4, 0, none⟩)), (5, .pointer (some ⟨b5, 0, none⟩)), (8, .pointer (some ⟨b8, 0, none⟩)), (9, .pointer (some ⟨b9, 0, none⟩)), (10, I (errOf (rlDo s m)))]) (L' := [pt b8 (blk (RmS s la2 lc2 pa2 pc2 (rlDo s m) x) 28), pt b9 (blk (avC (rlDo s m)).c 43), stars (StB 64 66 (rlDo s m) x), pt b3 (blk m.c 47), pt b4 (blk [I 0, I 0, I 0, .slice none 0 0, .slice none 0 0] 28), pt b5 (blk [I 0, I 0, I 0, I 0] 43), RL, RP]) (Keep.sub (kt (ks := [3, 4, 5, 8, 9, 10]) rfl)) gv (RunD.done kr ⟨_, _, _, _, _, _, _, rfl, rfl⟩)
 refine RunD.op 3 [false] rfl rfl rfl kr kr (OpJ.callOuts C104 rfl rfl (ac104f s m la2 lc2 pa2 pc2 hs hm) tks fun x _ => ⟨po, ?_⟩)
 refine tk 4 rfl rfl rfl (DetJ.move rfl) ?_
 refine tk 5 rfl rfl rfl (DetJ.extract rfl rfl) ?_
 refine tk 6 rfl rfl rfl (DetJ.extract rfl rfl) ?_
 refine tk 7 rfl rfl rfl (DetJ.extract rfl rfl) ?_
 refine RunD.op 10 [true, true, false, false] rfl rfl rfl kr kr (OpJ.storeW T28 rfl rfl RmS_len rfl RmS_one up ⟨po, ?_⟩)
 refine RunD.op 11 [true, false] rfl rfl rfl kr kr (OpJ.storeW T43 rfl rfl rfl rfl (by simp [Value.oneCell', Pa.c, Ly.c, Mv.c, Co.c]) up ⟨po, ?_⟩)
 refine tk 12 rfl rfl rfl (DetJ.assign rfl) ?_
 exact RunD.weak (E' := [(3, .pointer (some ⟨b3, 0, none⟩)), (4, .pointer (some ⟨b4, 0, none⟩)), (5, .pointer (some ⟨b5, 0, none⟩)), (8, .pointer (some ⟨b8, 0, none⟩)), (9, .pointer (some ⟨b9, 0, none⟩)), (10, I (errOf (rlDo s m)))]) (L' := [pt b8 (blk (RmS s la2 lc2 pa2 pc2 (rlDo s m) x) 28), pt b9 (blk (avC (rlDo s m)).c 43), stars (StB 64 66 (rlDo s m) x), pt b3 (blk m.c 47), pt b4 (blk [I 0, I 0, I 0, .slice none 0 0, .slice none 0 0] 28), pt b5 (blk [I 0, I 0, I 0, I 0] 43), RL, RP]) (Keep.sub (kt (ks := [3, 4, 5, 8, 9, 10]) rfl)) gv (RunD.done kr ⟨_, _, _, _, _, _, _, rfl, rfl⟩)
 refine RunD.two 1 9 [true, false] [true, true] rfl rfl rfl rfl rfl rfl kr kr kr (OpJ.callOuts C94 rfl rfl (ac94 s la lc pa pc RL RP hn hRL hRP) tks fun ⟨la2, lc2, pa2, pc2⟩ _ => ⟨po, ?_⟩) (OpJ.alloc Z43 fun b9 => ⟨po, ?_⟩)
 refine RunD.two 3 9 [false] [true] rfl rfl rfl rfl rfl rfl kr kr kr (OpJ.callOuts C104 rfl rfl (ac104f s m la2 lc2 pa2 pc2 hs hm) tks fun x _ => ⟨po, ?_⟩) (OpJ.alloc Z43 fun b9 => ⟨po, ?_⟩)
 refine tk 4 rfl rfl rfl (DetJ.move rfl) ?_
 refine tk 5 rfl rfl rfl (DetJ.extract rfl rfl) ?_
 refine tk 6 rfl rfl rfl (DetJ.extract rfl rfl) ?_
 refine tk 7 rfl rfl rfl (DetJ.extract rfl rfl) ?_
 refine RunD.op 9 [true, true, true, true] rfl rfl rfl kr kr (OpJ.alloc Z43 fun b9 => ⟨po, ?_⟩)
 refine RunD.op 10 [true, true, false, false] rfl rfl rfl kr kr (OpJ.storeW T28 rfl rfl RmS_len rfl RmS_one up ⟨po, ?_⟩)
 refine RunD.op 11 [true, false] rfl rfl rfl kr kr (OpJ.storeW T43 rfl rfl rfl rfl (by simp [Value.oneCell', Pa.c, Ly.c, Mv.c, Co.c]) up ⟨po, ?_⟩)
 refine tk 12 rfl rfl rfl (DetJ.assign rfl) ?_
 exact RunD.weak (E' := [(3, .pointer (some ⟨b3, 0, none⟩)), (4, .pointer (some ⟨b4, 0, none⟩)), (5, .pointer (some ⟨b5, 0, none⟩)), (8, .pointer (some ⟨b8, 0, none⟩)), (9, .pointer (some ⟨b9, 0, none⟩)), (10, I (errOf (rlDo s m)))]) (L' := [pt b8 (blk (RmS s la2 lc2 pa2 pc2 (rlDo s m) x) 28), pt b9 (blk (avC (rlDo s m)).c 43), stars (StB 64 66 (rlDo s m) x), pt b3 (blk m.c 47), pt b4 (blk [I 0, I 0, I 0, .slice none 0 0, .slice none 0 0] 28), pt b5 (blk [I 0, I 0, I 0, I 0] 43), RL, RP]) (Keep.sub (kt (ks := [3, 4, 5, 8, 9, 10]) rfl)) gv (RunD.done kr ⟨_, _, _, _, _, _, _, rfl, rfl⟩)
 refine RunD.op 3 [false] rfl rfl rfl kr kr (OpJ.callOuts C104 rfl rfl (ac104f s m la2 lc2 pa2 pc2 hs hm) tks fun x _ => ⟨po, ?_⟩)
 refine tk 4 rfl rfl rfl (DetJ.move rfl) ?_
 refine tk 5 rfl rfl rfl (DetJ.extract rfl rfl) ?_
 refine tk 6 rfl rfl rfl (DetJ.extract rfl rfl) ?_
 refine tk 7 rfl rfl rfl (DetJ.extract rfl rfl) ?_
 refine RunD.op 10 [true, true, false, false] rfl rfl rfl kr kr (OpJ.storeW T28 rfl rfl RmS_len rfl RmS_one up ⟨po, ?_⟩)
 refine RunD.op 11 [true, false] rfl rfl rfl kr kr (OpJ.storeW T43 rfl rfl rfl rfl (by simp [Value.oneCell', Pa.c, Ly.c, Mv.c, Co.c]) up ⟨po, ?_⟩)
 refine tk 12 rfl rfl rfl (DetJ.assign rfl) ?_
 exact RunD.weak (E' := [(3, .pointer (some ⟨b3, 0, none⟩)), (4, .pointer (some ⟨b4, 0, none⟩)), (5, .pointer (some ⟨b5, 0, none⟩)), (8, .pointer (some ⟨b8, 0, none⟩)), (9, .pointer (some ⟨b9, 0, none⟩)), (10, I (errOf (rlDo s m)))]) (L' := [pt b8 (blk (RmS s la2 lc2 pa2 pc2 (rlDo s m) x) 28), pt b9 (blk (avC (rlDo s m)).c 43), stars (StB 64 66 (rlDo s m) x), pt b3 (blk m.c 47), pt b4 (blk [I 0, I 0, I 0, .slice none 0 0, .slice none 0 0] 28), pt b5 (blk [I 0, I 0, I 0, I 0] 43), RL, RP]) (Keep.sub (kt (ks := [3, 4, 5, 8, 9, 10]) rfl)) gv (RunD.done kr ⟨_, _, _, _, _, _, _, rfl, rfl⟩)
 refine RunD.op 1 [true, false] rfl rfl rfl kr kr (OpJ.callOuts C94 rfl rfl (ac94 s la lc pa pc RL RP hn hRL hRP) tks fun ⟨la2, lc2, pa2, pc2⟩ _ => ⟨po, ?_⟩)
 refine RunD.op 3 [false] rfl rfl rfl kr kr (OpJ.callOuts C104 rfl rfl (ac104f s m la2 lc2 pa2 pc2 hs hm) tks fun x _ => ⟨po, ?_⟩)
 refine tk 4 rfl rfl rfl (DetJ.move rfl) ?_
 refine tk 5 rfl rfl rfl (DetJ.extract rfl rfl) ?_
 refine tk 6 rfl rfl rfl (DetJ.extract rfl rfl) ?_
 refine tk 7 rfl rfl rfl (DetJ.extract rfl rfl) ?_
 refine RunD.op 10 [true, true, false, false] rfl rfl rfl kr kr (OpJ.storeW T28 rfl rfl RmS_len rfl RmS_one up ⟨po, ?_⟩)
 refine RunD.op 11 [true, false] rfl rfl rfl kr kr (OpJ.storeW T43 rfl rfl rfl rfl (by simp [Value.oneCell', Pa.c, Ly.c, Mv.c, Co.c]) up ⟨po, ?_⟩)
 refine tk 12 rfl rfl rfl (DetJ.assign rfl) ?_
 exact RunD.weak (E' := [(3, .pointer (some ⟨b3, 0, none⟩)), (4, .pointer (some ⟨b4, 0, none⟩)), (5, .pointer (some ⟨b5, 0, none⟩)), (8, .pointer (some ⟨b8, 0, none⟩)), (9, .pointer (some ⟨b9, 0, none⟩)), (10, I (errOf (rlDo s m)))]) (L' := [pt b8 (blk (RmS s la2 lc2 pa2 pc2 (rlDo s m) x) 28), pt b9 (blk (avC (rlDo s m)).c 43), stars (StB 64 66 (rlDo s m) x), pt b3 (blk m.c 47), pt b4 (blk [I 0, I 0, I 0, .slice none 0 0, .slice none 0 0] 28), pt b5 (blk [I 0, I 0, I 0, I 0] 43), RL, RP]) (Keep.sub (kt (ks := [3, 4, 5, 8, 9, 10]) rfl)) gv (RunD.done kr ⟨_, _, _, _, _, _, _, rfl, rfl⟩)
 refine RunD.two 1 8 [true, false] [true, true] rfl rfl rfl rfl rfl rfl kr kr kr (OpJ.callOuts C94 rfl rfl (ac94 s la lc pa pc RL RP hn hRL hRP) tks fun ⟨la2, lc2, pa2, pc2⟩ _ => ⟨po, ?_⟩) (OpJ.alloc Z28 fun b8 => ⟨po, ?_⟩)
 refine RunD.two 3 8 [false] [true] rfl rfl rfl rfl rfl rfl kr kr kr (OpJ.callOuts C104 rfl rfl (ac104f s m la2 lc2 pa2 pc2 hs hm) tks fun x _ => ⟨po, ?_⟩) (OpJ.alloc Z28 fun b8 => ⟨po, ?_⟩)
 refine tk 4 rfl rfl rfl (DetJ.move rfl) ?_
 refine tk 5 rfl rfl rfl (DetJ.extract rfl rfl) ?_
 refine tk 6 rfl rfl rfl (DetJ.extract rfl rfl) ?_
 refine tk 7 rfl rfl rfl (DetJ.extract rfl rfl) ?_
 refine RunD.op 8 [true, true, true, true] rfl rfl rfl kr kr (OpJ.alloc Z28 fun b8 => ⟨po, ?_⟩)
 refine RunD.op 10 [true, true, false, false] rfl rfl rfl kr kr (OpJ.storeW T28 rfl rfl RmS_len rfl RmS_one up ⟨po, ?_⟩)
 refine RunD.op 11 [true, false] rfl rfl rfl kr kr (OpJ.storeW T43 rfl rfl rfl rfl (by simp [Value.oneCell', Pa.c, Ly.c, Mv.c, Co.c]) up ⟨po, ?_⟩)
 refine tk 12 rfl rfl rfl (DetJ.assign rfl) ?_
 exact RunD.weak (E' := [(3, .pointer (some ⟨b3, 0, none⟩)), (4, .pointer (some ⟨b4, 0, none⟩)), (5, .pointer (some ⟨b5, 0, none⟩)), (8, .pointer (some ⟨b8, 0, none⟩)), (9, .pointer (some ⟨b9, 0, none⟩)), (10, I (errOf (rlDo s m)))]) (L' := [pt b8 (blk (RmS s la2 lc2 pa2 pc2 (rlDo s m) x) 28), pt b9 (blk (avC (rlDo s m)).c 43), stars (StB 64 66 (rlDo s m) x), pt b3 (blk m.c 47), pt b4 (blk [I 0, I 0, I 0, .slice none 0 0, .slice none 0 0] 28), pt b5 (blk [I 0, I 0, I 0, I 0] 43), RL, RP]) (Keep.sub (kt (ks := [3, 4, 5, 8, 9, 10]) rfl)) gv (RunD.done kr ⟨_, _, _, _, _, _, _, rfl, rfl⟩)
 refine RunD.op 3 [false] rfl rfl rfl kr kr (OpJ.callOuts C104 rfl rfl (ac104f s m la2 lc2 pa2 pc2 hs hm) tks fun x _ => ⟨po, ?_⟩)
 refine tk 4 rfl rfl rfl (DetJ.move rfl) ?_
 refine tk 5 rfl rfl rfl (DetJ.extract rfl rfl) ?_
 refine tk 6 rfl rfl rfl (DetJ.extract rfl rfl) ?_
 refine tk 7 rfl rfl rfl (DetJ.extract rfl rfl) ?_
 refine RunD.op 10 [true, true, false, false] rfl rfl rfl kr kr (OpJ.storeW T28 rfl rfl RmS_len rfl RmS_one up ⟨po, ?_⟩)
 refine RunD.op 11 [true, false] rfl rfl rfl kr kr (OpJ.storeW T43 rfl rfl rfl rfl (by simp [Value.oneCell', Pa.c, Ly.c, Mv.c, Co.c]) up ⟨po, ?_⟩)
 refine tk 12 rfl rfl rfl (DetJ.assign rfl) ?_
 exact RunD.weak (E' := [(3, .pointer (some ⟨b3, 0, none⟩)), (4, .pointer (some ⟨b4, 0, none⟩)), (5, .pointer (some ⟨b5, 0, none⟩)), (8, .pointer (some ⟨b8, 0, none⟩)), (9, .pointer (some ⟨b9, 0, none⟩)), (10, I (errOf (rlDo s m)))]) (L' := [pt b8 (blk (RmS s la2 lc2 pa2 pc2 (rlDo s m) x) 28), pt b9 (blk (avC (rlDo s m)).c 43), stars (StB 64 66 (rlDo s m) x), pt b3 (blk m.c 47), pt b4 (blk [I 0, I 0, I 0, .slice none 0 0, .slice none 0 0] 28), pt b5 (blk [I 0, I 0, I 0, I 0] 43), RL, RP]) (Keep.sub (kt (ks := [3, 4, 5, 8, 9, 10]) rfl)) gv (RunD.done kr ⟨_, _, _, _, _, _, _, rfl, rfl⟩)
 refine RunD.op 1 [true, false] rfl rfl rfl kr kr (OpJ.callOuts C94 rfl rfl (ac94 s la lc pa pc RL RP hn hRL hRP) tks fun ⟨la2, lc2, pa2, pc2⟩ _ => ⟨po, ?_⟩)
 refine RunD.op 3 [false] rfl rfl rfl kr kr (OpJ.callOuts C104 rfl rfl (ac104f s m la2 lc2 pa2 pc2 hs hm) tks fun x _ => ⟨po, ?_⟩)
 refine tk 4 rfl rfl rfl (DetJ.move rfl) ?_
 refine tk 5 rfl rfl rfl (DetJ.extract rfl rfl) ?_
 refine tk 6 rfl rfl rfl (DetJ.extract rfl rfl) ?_
 refine tk 7 rfl rfl rfl (DetJ.extract rfl rfl) ?_
 refine RunD.op 10 [true, true, false, false] rfl rfl rfl kr kr (OpJ.storeW T28 rfl rfl RmS_len rfl RmS_one up ⟨po, ?_⟩)
 refine RunD.op 11 [true, false] rfl rfl rfl kr kr (OpJ.storeW T43 rfl rfl rfl rfl (by simp [Value.oneCell', Pa.c, Ly.c, Mv.c, Co.c]) up ⟨po, ?_⟩)
 refine tk 12 rfl rfl rfl (DetJ.assign rfl) ?_
 exact RunD.weak (E' := [(3, .pointer (some ⟨b3, 0, none⟩)), (4, .pointer (some ⟨b4, 0, none⟩)), (5, .pointer (some ⟨b5, 0, none⟩)), (8, .pointer (some ⟨b8, 0, none⟩)), (9, .pointer (some ⟨b9, 0, none⟩)), (10, I (errOf (rlDo s m)))]) (L' := [pt b8 (blk (RmS s la2 lc2 pa2 pc2 (rlDo s m) x) 28), pt b9 (blk (avC (rlDo s m)).c 43), stars (StB 64 66 (rlDo s m) x), pt b3 (blk m.c 47), pt b4 (blk [I 0, I 0, I 0, .slice none 0 0, .slice none 0 0] 28), pt b5 (blk [I 0, I 0, I 0, I 0] 43), RL, RP]) (Keep.sub (kt (ks := [3, 4, 5, 8, 9, 10]) rfl)) gv (RunD.done kr ⟨_, _, _, _, _, _, _, rfl, rfl⟩)
 rintro _ _ ⟨la2, lc2, pa2, pc2, x, b8, b9, rfl, rfl⟩
 refine Run.seq ?_
 refine sr ?_
 refine mvo rfl rfl ?_
 rcases hres : rlDo s m with e | ⟨t, c⟩
 refine sx 1 ?_
 first | refine RunL.set (congrArg Value.bool (decide_eq_true (show errOf (Except.error _) ≠ 0 from rlDo_err hres))) ?_ | skip
 refine kp [3, 4, 5, 8, 9, 10, 33] rfl ?_
 refine Run.true rfl ?_
 refine sr ?_
 refine sx 6 ?_
 refine kp [4, 5, 6] rfl ?_
 refine Run.ret ?_
 have hres2 : rlStep s m = .error e := (by unfold rlStep; rw [if_neg h1, if_neg (by simp_all), hres]); refine ret_out (none, 0, none, 0) (.cellA T28 rfl pk (by rfl) (.cellA T43 rfl pk (by rfl) (.tmp rfl .nil))) trivial (by rw [hres2]; rfl) ?_; rw [hres2]; exact gv
 have hnt0 := rlDo_len hres; have hnl9 := hs.nl
 have hnt : (summed t c).layers.length ≤ 1000000 := (show t.layers.length ≤ 1000000 by omega)
 refine RunL.unstar (As := StB 64 66 (Except.ok (t, c)) x) pk ?_
 rw [show RmS s la2 lc2 pa2 pc2 (Except.ok (t, c)) x = t.c x.1 x.2.1 x.2.2.1 x.2.2.2 from rfl, show avC (Except.ok (t, c)) = c from rfl]
 refine sx 1 ?_
 first | refine RunL.set (congrArg Value.bool (decide_eq_true (show errOf (Except.error _) ≠ 0 from rlDo_err hres))) ?_ | skip
 refine kp [3, 4, 5, 8, 9, 10, 33] rfl ?_
 refine Run.false rfl ?_
 refine Run.skip ?_
 refine sr ?_
 refine sx 4 ?_
 refine RunL.op rfl rfl (OpJ.add rfl rfl ?_)
 refine sx 2 ?_
 refine kp [3, 4, 5, 8, 9] rfl ?_
 refine sr ?_
 refine sx 4 ?_
 refine RunL.op rfl rfl (OpJ.add rfl rfl ?_)
 refine sx 2 ?_
 refine kp [3, 4, 5, 8, 9] rfl ?_
 refine Run.seq ?_
 refine sr ?_
 refine sx 3 ?_
 refine RunL.call C95 rfl rfl rfl (ac95 (summed t c) x.1 x.2.1 x.2.2.1 x.2.2.2 (own 64 4 x.1 (t.layers).length x.2.1 ((t.layers).flatMap Ly.c)) c.var own.rds hnt) tks ?_
 rw [fits_over]
 refine RunL.op rfl rfl (OpJ.not rfl ?_)
 refine kp [3, 4, 5, 8, 9, 53] rfl ?_
 first | refine Run.if rfl (fun h3 => ?_) (fun h3 => ?_) | refine Run.cond rfl (fun h3 => ?_) (fun h3 => ?_)
 refine sr ?_
 refine sx 5 ?_
 refine kp [4, 5, 6] rfl ?_
 refine Run.ret ?_
 have hres2 : rlStep s m = .error 4 := (by unfold rlStep; rw [if_neg h1, if_neg (by simp_all), hres]; exact if_pos (show overB (summed t c) c = true from by simpa using h3)); refine ret_out (none, 0, none, 0) (.cellA T28 rfl pk (by rfl) (.cellA T43 rfl pk (by rfl) (.tmp rfl .nil))) trivial (by rw [hres2]; rfl) ?_; rw [hres2]; exact gv
 refine Run.skip ?_
 refine sr ?_
 refine sx 3 ?_
 refine RunL.op rfl rfl (OpJ.store1 T3 rfl rfl rfl up (by show 0 < 4; decide) ?_)
 refine kp [4, 5, 8, 9] rfl ?_
 refine Run.seq ?_
 refine regionD HM ?_
 first | refine RunD.takeW 0 rfl rfl kr T28 rfl pk (by rfl) ?_ | refine RunD.takeP 0 rfl rfl kr T28 rfl pk (by simp) ?_ | refine RunD.takeE 0 rfl rfl kr T28 rfl pk (by assumption) (by exact fun _ => rfl) rfl (by decide) ?_
 first | refine RunD.takeW 1 rfl rfl kr T43 rfl pk (by rfl) ?_ | refine RunD.takeP 1 rfl rfl kr T43 rfl pk (by simp) ?_ | refine RunD.takeE 1 rfl rfl kr T43 rfl pk (by assumption) (by exact fun _ => rfl) rfl (by decide) ?_
 refine RunD.op 2 [true, false] rfl rfl rfl kr kr (OpJ.storeW T28 rfl rfl rfl rfl (by simp [Value.oneCell', Pa.c, Ly.c, Mv.c, Co.c]) up ⟨po, ?_⟩)
 refine RunD.op 3 [false] rfl rfl rfl kr kr (OpJ.storeW T43 rfl rfl rfl rfl (by simp [Value.oneCell', Pa.c, Ly.c, Mv.c, Co.c]) up ⟨po, ?_⟩)
 refine tk 4 rfl rfl rfl (DetJ.assign rfl) ?_
 refine kd [4, 5, 6] rfl ?_
 refine Run.ret ?_
 have hres2 : rlStep s m = .ok (summed t c, { c with seq := m.seq }) := (by unfold rlStep; rw [if_neg h1, if_neg (by simp_all), hres]; exact if_neg (show ¬ overB (summed t c) c = true from by simpa using h3)); refine ret_out x (.cellA T28 rfl pk (by rfl) (.cellA T43 rfl pk (by rfl) (.tmp rfl .nil))) trivial (by rw [hres2]; rfl) ?_; rw [hres2]; exact gv
end
end Go.Proofs.YtdcchollplhioaaGreatDoor

namespace Go.Proofs.YtdcchollplhioaaGreatDoor
open Go Go.SL Go.Proofs
section
attribute [local irreducible] OpJ RunL Run RunD DetJ pt own star Rd RdS
-- accountingref38.Start
theorem ac14 (k p : Int) : AC Tryz.prog 14 ⟨[I k, I p]⟩ (stars []) (Ret (.tuple ⟨[.agg ⟨(start0 k p).c none 0 none 0⟩, I (startE k p)]⟩) []) := by
 refine AC.go Tryz.func14 rfl (Nat.le_of_ble_eq_true rfl) fun β => ?_
 refine sr ?_
 refine RunL.op rfl rfl (OpJ.alloc Z28 fun b4 => ?_)
 refine asg rfl rfl ?_
 refine kp [0, 1, 4] rfl ?_
 refine Run.seq ?_
 refine sr ?_
 refine sx 3 ?_
 first | refine RunL.splitP (t := 8) rfl (fun g1 => ?_) (fun g1 => ?_) | refine RunL.split (t := 8) rfl (fun g1 => ?_) (fun g1 => ?_)
 refine sx 3 ?_
 refine kp [0, 1, 4, 11] rfl ?_
 refine Run.true rfl ?_
 refine sr ?_
 refine sx 3 ?_
 refine kp [4, 5] rfl ?_
 refine Run.ret ?_
 exact ret_one (.cellA T28 rfl pk (by rfl) (.tmp rfl .nil)) (by rw [start0_c]; first | (simp [tup, startE, *]; done) | (exfalso; simp_all; done) | (simp [tup, startE, *]; omega)) gv
 refine sx 3 ?_
 refine kp [0, 1, 4, 11] rfl ?_
 first | refine Run.if rfl (fun h2 => ?_) (fun h2 => ?_) | refine Run.cond rfl (fun h2 => ?_) (fun h2 => ?_)
 refine sr ?_
 refine sx 3 ?_
 refine kp [4, 5] rfl ?_
 refine Run.ret ?_
 exact ret_one (.cellA T28 rfl pk (by rfl) (.tmp rfl .nil)) (by rw [start0_c]; first | (simp [tup, startE, *]; done) | (exfalso; simp_all; done) | (simp [tup, startE, *]; omega)) gv
 refine Run.skip ?_
 refine Run.seq ?_
 refine sr ?_
 refine sx 3 ?_
 first | refine RunL.splitP (t := 15) rfl (fun g3 => ?_) (fun g3 => ?_) | refine RunL.split (t := 15) rfl (fun g3 => ?_) (fun g3 => ?_)
 refine sx 3 ?_
 refine kp [0, 1, 4, 18] rfl ?_
 refine Run.true rfl ?_
 refine sr ?_
 refine sx 3 ?_
 refine kp [4, 5] rfl ?_
 refine Run.ret ?_
 exact ret_one (.cellA T28 rfl pk (by rfl) (.tmp rfl .nil)) (by rw [start0_c]; first | (simp [tup, startE, *]; done) | (exfalso; simp_all; done) | (simp [tup, startE, *]; omega)) gv
 refine sx 3 ?_
 refine kp [0, 1, 4, 18] rfl ?_
 first | refine Run.if rfl (fun h4 => ?_) (fun h4 => ?_) | refine Run.cond rfl (fun h4 => ?_) (fun h4 => ?_)
 refine sr ?_
 refine sx 3 ?_
 refine kp [4, 5] rfl ?_
 refine Run.ret ?_
 exact ret_one (.cellA T28 rfl pk (by rfl) (.tmp rfl .nil)) (by rw [start0_c]; first | (simp [tup, startE, *]; done) | (exfalso; simp_all; done) | (simp [tup, startE, *]; omega)) gv
 refine Run.skip ?_
 refine Run.seq ?_
 refine sr ?_
 refine sx 2 ?_
 refine kp [1, 4, 21] rfl ?_
 first | refine Run.if rfl (fun h5 => ?_) (fun h5 => ?_) | refine Run.cond rfl (fun h5 => ?_) (fun h5 => ?_)
 refine sr ?_
 refine sx 4 ?_
 refine kp [4, 5] rfl ?_
 refine Run.ret ?_
 exact ret_one (.cellA T28 rfl pk (by rfl) (.tmp rfl .nil)) (by rw [start0_c]; first | (simp [tup, startE, *]; done) | (exfalso; simp_all; done) | (simp [tup, startE, *]; omega)) gv
 refine Run.skip ?_
 refine sr ?_
 refine sx 3 ?_
 refine kp [4, 5] rfl ?_
 refine Run.ret ?_
 exact ret_one (.cellA T28 rfl pk (by rfl) (.tmp rfl .nil)) (by rw [start0_c]; first | (simp [tup, startE, *]; done) | (exfalso; simp_all; done) | (simp [tup, startE, *]; omega)) gv
-- accountingref38.Step
theorem ac28 (k : Int) (s : Sk) (m : Mv) (la : Option Addr) (lc : Nat) (pa : Option Addr) (pc : Nat) (RL RP : HP) (hs : s.ok 999999) (hm : m.ok) (hRL : RdS RL la (s.layers.flatMap Ly.c)) (hRP : RdS RP pa (s.past.flatMap Pa.c)) (hsz : (m.item.size : Int) ≤ 9223372036854775807 ∧ (m.lot.size : Int) ≤ 9223372036854775807) (hf0 : s.fine) (hl0 : k = 2 → s.layers = []) : AC Tryz.prog 28 ⟨[I k, .agg ⟨s.c la lc pa pc⟩, .agg ⟨m.c⟩]⟩ (stars [RL, RP]) (Outs (fun _ : Option Addr × Nat × Option Addr × Nat => True) (fun x => StV (rStepM k s m) x) (fun x => StB 64 66 (rStepM k s m) x ++ [RL, RP])) := by
 refine AC.go Tryz.func28 rfl (Nat.le_of_ble_eq_true rfl) fun β => ?_
 refine sr ?_
 refine RunL.op rfl rfl (OpJ.boxA rfl fun b4 => ?_)
 refine RunL.op rfl rfl (OpJ.boxA rfl fun b5 => ?_)
 refine RunL.op rfl rfl (OpJ.alloc Z28 fun b6 => ?_)
 refine RunL.op rfl rfl (OpJ.alloc Z43 fun b7 => ?_)
 refine asg rfl rfl ?_
 refine kp [0, 4, 5, 6, 7] rfl ?_
 refine Run.seq ?_
 refine sr ?_
 refine mvo rfl rfl ?_
 refine kp [4, 5, 6, 7, 9] rfl ?_
 refine Run.block ?_
 refine sr ?_
 refine sx 2 ?_
 refine kp [4, 5, 6, 7, 9, 10] rfl ?_
 first | refine Run.if rfl (fun h1 => ?_) (fun h1 => ?_) | refine Run.cond rfl (fun h1 => ?_) (fun h1 => ?_)
 refine sr ?_
 refine sx 2 ?_
 refine RunL.callX C54 rfl rfl rfl (ac54 s m la lc pa pc RL RP hs hm hRL hRP hsz hf0) tks fun x _ => ?_
 rcases hres : fStep s m with e | ⟨t, c⟩
 refine sx 6 ?_
 refine kp [6, 7, 8] rfl ?_
 refine Run.ret ?_
 refine ret_out x (.cellA T28 rfl pk (by rfl) (.cellA T43 rfl pk (by rfl) (.tmp rfl .nil))) trivial (by rw [rStepM_1 (by assumption), hres]; rfl) ?_; rw [rStepM_1 (by assumption), hres]; exact gv
 refine sx 6 ?_
 refine kp [6, 7, 8] rfl ?_
 refine Run.ret ?_
 refine ret_out x (.cellA T28 rfl pk (by rfl) (.cellA T43 rfl pk (by rfl) (.tmp rfl .nil))) trivial (by rw [rStepM_1 (by assumption), hres]; rfl) ?_; rw [rStepM_1 (by assumption), hres]; exact gv
 refine sr ?_
 refine sx 2 ?_
 refine kp [4, 5, 6, 7, 9, 18] rfl ?_
 first | refine Run.if rfl (fun h2 => ?_) (fun h2 => ?_) | refine Run.cond rfl (fun h2 => ?_) (fun h2 => ?_)
 refine sr ?_
 refine sx 2 ?_
 refine RunL.callX C55 rfl rfl rfl (ac55 s m la lc pa pc RL RP hs hm hRL hRP hsz hf0 (hl0 (by assumption))) tks fun x _ => ?_
 rcases hres : aStep s m with e | ⟨t, c⟩
 refine sx 6 ?_
 refine kp [6, 7, 8] rfl ?_
 refine Run.ret ?_
 refine ret_out x (.cellA T28 rfl pk (by rfl) (.cellA T43 rfl pk (by rfl) (.tmp rfl .nil))) trivial (by rw [rStepM_2 (by assumption), hres]; rfl) ?_; rw [rStepM_2 (by assumption), hres]; exact gv
 refine sx 6 ?_
 refine kp [6, 7, 8] rfl ?_
 refine Run.ret ?_
 refine ret_out x (.cellA T28 rfl pk (by rfl) (.cellA T43 rfl pk (by rfl) (.tmp rfl .nil))) trivial (by rw [rStepM_2 (by assumption), hres]; rfl) ?_; rw [rStepM_2 (by assumption), hres]; exact gv
 refine sr ?_
 refine sx 2 ?_
 refine kp [4, 5, 6, 7, 9, 26] rfl ?_
 first | refine Run.if rfl (fun h3 => ?_) (fun h3 => ?_) | refine Run.cond rfl (fun h3 => ?_) (fun h3 => ?_)
 refine sr ?_
 refine sx 2 ?_
 refine RunL.callX C56 rfl rfl rfl (ac56 s m la lc pa pc RL RP hs hm hRL hRP hsz hf0) tks fun x _ => ?_
 rcases hres : rsStep s m with e | ⟨t, c⟩
 refine sx 6 ?_
 refine kp [6, 7, 8] rfl ?_
 refine Run.ret ?_
 refine ret_out x (.cellA T28 rfl pk (by rfl) (.cellA T43 rfl pk (by rfl) (.tmp rfl .nil))) trivial (by rw [rStepM_3 (by assumption), hres]; rfl) ?_; rw [rStepM_3 (by assumption), hres]; exact gv
 refine sx 6 ?_
 refine kp [6, 7, 8] rfl ?_
 refine Run.ret ?_
 refine ret_out x (.cellA T28 rfl pk (by rfl) (.cellA T43 rfl pk (by rfl) (.tmp rfl .nil))) trivial (by rw [rStepM_3 (by assumption), hres]; rfl) ?_; rw [rStepM_3 (by assumption), hres]; exact gv
 refine sr ?_
 refine sx 2 ?_
 refine kp [4, 5, 6, 7, 34] rfl ?_
 first | refine Run.if rfl (fun h4 => ?_) (fun h4 => ?_) | refine Run.cond rfl (fun h4 => ?_) (fun h4 => ?_)
 refine sr ?_
 refine sx 2 ?_
 refine RunL.callX C57 rfl rfl rfl (ac57 s m la lc pa pc RL RP hs hm hRL hRP hsz hf0) tks fun x _ => ?_
 rcases hres : rlStep s m with e | ⟨t, c⟩
 refine sx 6 ?_
 refine kp [6, 7, 8] rfl ?_
 refine Run.ret ?_
 refine ret_out x (.cellA T28 rfl pk (by rfl) (.cellA T43 rfl pk (by rfl) (.tmp rfl .nil))) trivial (by rw [rStepM_4 (by assumption), hres]; rfl) ?_; rw [rStepM_4 (by assumption), hres]; exact gv
 refine sx 6 ?_
 refine kp [6, 7, 8] rfl ?_
 refine Run.ret ?_
 refine ret_out x (.cellA T28 rfl pk (by rfl) (.cellA T43 rfl pk (by rfl) (.tmp rfl .nil))) trivial (by rw [rStepM_4 (by assumption), hres]; rfl) ?_; rw [rStepM_4 (by assumption), hres]; exact gv
 refine Run.skip ?_
 refine sr ?_
 refine sx 5 ?_
 refine kp [6, 7, 8] rfl ?_
 refine Run.ret ?_
 have hres := rStepM_0 (k := k) (s := s) (m := m) (by refine ⟨?_, ?_, ?_, ?_⟩ <;> assumption); refine ret_out (none, 0, none, 0) (.cellA T28 rfl pk (by rfl) (.cellA T43 rfl pk (by rfl) (.tmp rfl .nil))) trivial (by rw [hres]; rfl) ?_; rw [hres]; exact gv
end
theorem ac28f (k : Int) (s : Sk) (m : Mv) (la : Option Addr) (lc : Nat) (pa : Option Addr) (pc : Nat) (RL RP : HP) (hs : s.ok 999999) (hm : m.ok) (hRL : RdS RL la (s.layers.flatMap Ly.c)) (hRP : RdS RP pa (s.past.flatMap Pa.c)) (hsz : (m.item.size : Int) ≤ 9223372036854775807 ∧ (m.lot.size : Int) ≤ 9223372036854775807) (hf0 : s.fine) (hl0 : k = 2 → s.layers = []) : AC Tryz.prog 28 ⟨[I k, .agg ⟨s.c la lc pa pc⟩, .agg ⟨m.c⟩]⟩ (stars [RL, RP]) (Outs (fun _ : Option Addr × Nat × Option Addr × Nat => True) (fun x => .tuple ⟨[.agg ⟨StS (rStepM k s m) x⟩, .agg ⟨(avC (rStepM k s m)).c⟩, I (errOf (rStepM k s m))]⟩) (fun x => [stars (StB 64 66 (rStepM k s m) x), RL, RP])) := by
  refine AC.mono (ac28 k s m la lc pa pc RL RP hs hm hRL hRP hsz hf0 hl0) (fun _ h => h) ?_
  rintro r h ⟨x, ⟨_, hr⟩, hh⟩
  exact ⟨x, ⟨trivial, hr.trans StV_eq⟩, stars_un hh⟩
section
attribute [local irreducible] OpJ RunL Run RunD DetJ pt own star Rd RdS
end
end Go.Proofs.YtdcchollplhioaaGreatDoor

namespace Go.Proofs.YtdcchollplhioaaGreatDoor
open Go Go.SL Go.Proofs
section
attribute [local irreducible] OpJ RunL Run RunD DetJ pt own star Rd RdS
end
theorem ac28i (k : Int) (s : Sk) (m : Mv) (la : Option Addr) (lc : Nat) (pa : Option Addr) (pc : Nat) (RL RP : HP) (hs : s.ok 999999) (hm : m.ok) (hRL : RdS RL la (s.layers.flatMap Ly.c)) (hRP : RdS RP pa (s.past.flatMap Pa.c)) (hsz : (m.item.size : Int) ≤ 9223372036854775807 ∧ (m.lot.size : Int) ≤ 9223372036854775807) (hi : RInv k s) : AC Tryz.prog 28 ⟨[I k, .agg ⟨s.c la lc pa pc⟩, .agg ⟨m.c⟩]⟩ (stars [RL, RP]) (Outs (fun _ : Option Addr × Nat × Option Addr × Nat => True) (fun x => .tuple ⟨[.agg ⟨StS (stepM k s m) x⟩, .agg ⟨(avC (stepM k s m)).c⟩, I (errOf (stepM k s m))]⟩) (fun x => [stars (StB 64 66 (stepM k s m) x), RL, RP])) := by
  rw [← rStepM_eq hi]; exact ac28f k s m la lc pa pc RL RP hs hm hRL hRP hsz hi.fine hi.l2
section
attribute [local irreducible] OpJ RunL Run RunD DetJ pt own star Rd RdS
-- accountingref38.Run
theorem ac16 (k p : Int) (R : HP) (oa : Option Addr) (cap : Nat) (ms : List Mv) (hR : RdS R oa (ms.flatMap Mv.c)) (hlen : ms.length ≤ 1000) (hms : ∀ m ∈ ms, m.ok) (hsz : ∀ m ∈ ms, (m.item.size : Int) ≤ 9223372036854775807 ∧ (m.lot.size : Int) ≤ 9223372036854775807) : AC Tryz.prog 16 ⟨[I k, I p, .slice oa ms.length cap]⟩ (stars [R]) (Outs (fun _ : Option Addr × Nat × Option Addr × Nat × Option Addr × Nat => True) (fun x => RunV (runM k p ms) x) (fun x => RunB 64 66 43 (runM k p ms) x ++ [R])) := by
 refine AC.go Tryz.func16 rfl (Nat.le_of_ble_eq_true rfl) fun β => ?_
 refine sr ?_
 refine RunL.op rfl rfl (OpJ.alloc Z28 fun b6 => ?_)
 refine sx 3 ?_
 refine kp [0, 1, 2, 6] rfl ?_
 refine sr ?_
 refine sx 2 ?_
 refine RunL.call C14 rfl rfl rfl (ac14 k p) .nil ?_
 refine sx 3 ?_
 refine RunL.op rfl rfl (OpJ.alloc Z28 fun b10 => ?_)
 refine sx 2 ?_
 refine kp [0, 2, 6, 10, 11] rfl ?_
 refine Run.seq ?_
 refine sr ?_
 refine sx 2 ?_
 refine kp [0, 2, 6, 10, 11, 24] rfl ?_
 first | refine Run.if rfl (fun h1 => ?_) (fun h1 => ?_) | refine Run.cond rfl (fun h1 => ?_) (fun h1 => ?_)
 refine sr ?_
 refine sx 6 ?_
 refine kp [6, 7, 8, 9] rfl ?_
 refine Run.ret ?_
 have hf := runM_no (ms := ms) h1; refine ret_out (none, 0, none, 0, none, 0) (.cellA T28 rfl pk (by rfl) (.tmp rfl (.tmp rfl (.tmp rfl .nil)))) trivial (by rw [hf]; rfl) ?_; rw [hf]; exact gv
 refine Run.skip ?_
 refine sr ?_
 have h0 : startE k p = 0 := Decidable.not_not.1 h1
 refine RunL.ownNilX (enc := Ly.c) 64 4 (start0_l k p) ?_
 refine RunL.ownNilX (enc := Pa.c) 66 7 (start0_p k p) ?_
 refine RunL.op rfl rfl (OpJ.buildSlice0 S34 fun b27 => ?_)
 refine asg rfl rfl ?_
 refine kp [0, 2, 6, 10, 12] rfl ?_
 refine Run.seq ?_
 refine sr ?_
 refine asg rfl rfl ?_
 refine kp [0, 2, 6, 10, 12, 13] rfl ?_
 refine Run.block ?_
 refine Run.weak (L' := [pt b10 (blk ((start0 k p).c none 0 none 0) 28), pt b6 (blk [I 0, I 0, I 0, .slice none 0 0, .slice none 0 0] 28), own 64 4 none (start0 k p).layers.length 0 ((start0 k p).layers.flatMap Ly.c), own 66 7 none (start0 k p).past.length 0 ((start0 k p).past.flatMap Pa.c), own 43 4 (some ⟨b27, 0, none⟩) 0 0 [], R]) (fun _ _ h => h) gv ?_
 refine Run.loop (fun mm E L => ∃ (i : Nat) (s : Sk) (cs : List Co) (la : Option Addr) (lc : Nat) (pa : Option Addr) (pc : Nat) (ca : Option Addr) (cc : Nat), mm = ms.length - i ∧ i ≤ ms.length ∧ runL (stepM k) (start0 k p) (ms.take i) = .ok (s, cs) ∧ RInv k s ∧ E = [(0, I k), (2, .slice oa ms.length cap), (6, .pointer (some ⟨b6, 0, none⟩)), (10, .pointer (some ⟨b10, 0, none⟩)), (12, .slice ca cs.length cc), (13, I i)] ∧ L = [pt b10 (blk (s.c la lc pa pc) 28), pt b6 (blk [I 0, I 0, I 0, .slice none 0 0, .slice none 0 0] 28), own 64 4 la s.layers.length lc (s.layers.flatMap Ly.c), own 66 7 pa s.past.length pc (s.past.flatMap Pa.c), own 43 4 ca (cs).length cc ((cs).flatMap Co.c), R]) ⟨_, 0, start0 k p, [], none, 0, none, 0, some ⟨b27, 0, none⟩, 0, rfl, Nat.zero_le _, rfl, start_rinv, rfl, rfl⟩ ?_
 rintro _ _ _ ⟨i, s, cs, la, lc, pa, pc, ca, cc, rfl, hi, hrun, hri, rfl, rfl⟩
 have hcl := runL_len hrun
 have hti : (ms.take i).length ≤ 1000 := by rw [List.length_take]; omega
 have hso := (runL_ok (fun m hm => hms m (List.mem_of_mem_take hm)) (start0_ok 0) hrun).mono (show 0 + (ms.take i).length ≤ 999999 by omega)
 refine Run.seq ?_
 refine sr ?_
 refine sx 4 ?_
 refine kp [0, 2, 6, 10, 12, 13, 31] rfl ?_
 first | refine Run.if rfl (fun h2 => ?_) (fun h2 => ?_) | refine Run.cond rfl (fun h2 => ?_) (fun h2 => ?_)
 refine Run.skip ?_
 refine Run.seq ?_
 refine Run.block ?_
 refine Run.seq ?_
 obtain ⟨m, hx⟩ := get_ex (xs := ms) (i := i) (by omega)
 refine Run.rdOpen (R := R) pk hR (flat_ne (k := 8) (fun _ => rfl) (by decide) hx) fun b0 o0 e hrd => ?_
 subst e
 refine regionD HM ?_
 refine RunD.mono (K' := fun E' L' => ∃ x : Option Addr × Nat × Option Addr × Nat, ∃ b14 : Nat, ∃ b15 : Nat, E' = [(0, I k), (2, .slice (some ⟨b0, o0, none⟩) ms.length cap), (6, .pointer (some ⟨b6, 0, none⟩)), (10, .pointer (some ⟨b10, 0, none⟩)), (12, .slice ca cs.length cc), (13, I i), (14, .pointer (some ⟨b14, 0, none⟩)), (15, .pointer (some ⟨b15, 0, none⟩)), (16, I (errOf (stepM k s m)))] ∧ L' = [pt b14 (blk (StS (stepM k s m) x) 28), pt b15 (blk (avC (stepM k s m)).c 43), stars (StB 64 66 (stepM k s m) x), pt b10 (blk (s.c la lc pa pc) 28), pt b6 (blk [I 0, I 0, I 0, .slice none 0 0, .slice none 0 0] 28), own 43 4 ca (cs).length cc ((cs).flatMap Co.c), R]) ?_ ?_
 refine tk 0 rfl rfl rfl (DetJ.move rfl) ?_
 first | refine RunD.takeW 1 rfl rfl kr T28 rfl pk (by rfl) ?_ | refine RunD.takeP 1 rfl rfl kr T28 rfl pk (by simp) ?_ | refine RunD.takeE 1 rfl rfl kr T28 rfl pk (by assumption) (by exact fun _ => rfl) rfl (by decide) ?_
 refine tk 2 rfl rfl rfl (DetJ.move rfl) ?_
 refine tk 3 rfl rfl rfl (DetJ.move rfl) ?_
 refine tk 4 rfl rfl rfl (DetJ.indexAddr S22 rfl rfl (by omega)) ?_
 refine RunD.takeR 5 rfl rfl kr T47 rfl pk (hrd.elem (fun _ => rfl) hx) rfl ?_
 refine RunD.three 6 11 12 [false, false, false, false, false, false] [true, true, true, true, true, true] [true, true, true, true, true, true] rfl rfl rfl rfl rfl rfl rfl rfl rfl kr kr kr kr (OpJ.callOuts C28 rfl rfl (ac28i k s m la lc pa pc (own 64 4 la s.layers.length lc (s.layers.flatMap Ly.c)) (own 66 7 pa s.past.length pc (s.past.flatMap Pa.c)) hso (hms m (List.mem_of_getElem? hx)) own.rds own.rds (hsz m (List.mem_of_getElem? hx)) hri) tks fun x _ => ⟨po, ?_⟩) (OpJ.alloc Z28 fun b14 => ⟨po, ?_⟩) (OpJ.alloc Z43 fun b15 => ⟨po, ?_⟩)
 refine tk 7 rfl rfl rfl (DetJ.move rfl) ?_
 refine tk 8 rfl rfl rfl (DetJ.extract rfl rfl) ?_
 refine tk 9 rfl rfl rfl (DetJ.extract rfl rfl) ?_
 refine tk 10 rfl rfl rfl (DetJ.extract rfl rfl) ?_
 refine RunD.two 11 12 [true, true, true, true] [true, true, true, true] rfl rfl rfl rfl rfl rfl kr kr kr (OpJ.alloc Z28 fun b14 => ⟨po, ?_⟩) (OpJ.alloc Z43 fun b15 => ⟨po, ?_⟩)
 refine RunD.op 12 [true, true, true, true] rfl rfl rfl kr kr (OpJ.alloc Z43 fun b15 => ⟨po, ?_⟩)
 refine RunD.op 13 [true, true, false, false] rfl rfl rfl kr kr (OpJ.storeW T28 rfl rfl StS_len rfl StS_one up ⟨po, ?_⟩)
 refine RunD.op 14 [true, false] rfl rfl rfl kr kr (OpJ.storeW T43 rfl rfl rfl rfl (by simp [Value.oneCell', Pa.c, Ly.c, Mv.c, Co.c]) up ⟨po, ?_⟩)
 refine tk 15 rfl rfl rfl (DetJ.assign rfl) ?_
 exact RunD.weak (E' := [(0, I k), (2, .slice (some ⟨b0, o0, none⟩) ms.length cap), (6, .pointer (some ⟨b6, 0, none⟩)), (10, .pointer (some ⟨b10, 0, none⟩)), (12, .slice ca cs.length cc), (13, I i), (14, .pointer (some ⟨b14, 0, none⟩)), (15, .pointer (some ⟨b15, 0, none⟩)), (16, I (errOf (stepM k s m)))]) (L' := [pt b14 (blk (StS (stepM k s m) x) 28), pt b15 (blk (avC (stepM k s m)).c 43), stars (StB 64 66 (stepM k s m) x), pt b10 (blk (s.c la lc pa pc) 28), pt b6 (blk [I 0, I 0, I 0, .slice none 0 0, .slice none 0 0] 28), own 43 4 ca (cs).length cc ((cs).flatMap Co.c), R]) (Keep.sub (kt (ks := [0, 2, 6, 10, 12, 13, 14, 15, 16]) rfl)) gv (RunD.done kr ⟨_, _, _, rfl, rfl⟩)
 refine RunD.op 11 [true, true, true, true] rfl rfl rfl kr kr (OpJ.alloc Z28 fun b14 => ⟨po, ?_⟩)
 refine RunD.op 13 [true, true, false, false] rfl rfl rfl kr kr (OpJ.storeW T28 rfl rfl StS_len rfl StS_one up ⟨po, ?_⟩)
 refine RunD.op 14 [true, false] rfl rfl rfl kr kr (OpJ.storeW T43 rfl rfl rfl rfl (by simp [Value.oneCell', Pa.c, Ly.c, Mv.c, Co.c]) up ⟨po, ?_⟩)
 refine tk 15 rfl rfl rfl (DetJ.assign rfl) ?_
 exact RunD.weak (E' := [(0, I k), (2, .slice (some ⟨b0, o0, none⟩) ms.length cap), (6, .pointer (some ⟨b6, 0, none⟩)), (10, .pointer (some ⟨b10, 0, none⟩)), (12, .slice ca cs.length cc), (13, I i), (14, .pointer (some ⟨b14, 0, none⟩)), (15, .pointer (some ⟨b15, 0, none⟩)), (16, I (errOf (stepM k s m)))]) (L' := [pt b14 (blk (StS (stepM k s m) x) 28), pt b15 (blk (avC (stepM k s m)).c 43), stars (StB 64 66 (stepM k s m) x), pt b10 (blk (s.c la lc pa pc) 28), pt b6 (blk [I 0, I 0, I 0, .slice none 0 0, .slice none 0 0] 28), own 43 4 ca (cs).length cc ((cs).flatMap Co.c), R]) (Keep.sub (kt (ks := [0, 2, 6, 10, 12, 13, 14, 15, 16]) rfl)) gv (RunD.done kr ⟨_, _, _, rfl, rfl⟩)
 refine RunD.two 6 12 [false, false, false, false, false, false] [true, true, true, true, true, true] rfl rfl rfl rfl rfl rfl kr kr kr (OpJ.callOuts C28 rfl rfl (ac28i k s m la lc pa pc (own 64 4 la s.layers.length lc (s.layers.flatMap Ly.c)) (own 66 7 pa s.past.length pc (s.past.flatMap Pa.c)) hso (hms m (List.mem_of_getElem? hx)) own.rds own.rds (hsz m (List.mem_of_getElem? hx)) hri) tks fun x _ => ⟨po, ?_⟩) (OpJ.alloc Z43 fun b15 => ⟨po, ?_⟩)
 refine tk 7 rfl rfl rfl (DetJ.move rfl) ?_
 refine tk 8 rfl rfl rfl (DetJ.extract rfl rfl) ?_
 refine tk 9 rfl rfl rfl (DetJ.extract rfl rfl) ?_
 refine tk 10 rfl rfl rfl (DetJ.extract rfl rfl) ?_
 refine RunD.op 12 [true, true, true, true] rfl rfl rfl kr kr (OpJ.alloc Z43 fun b15 => ⟨po, ?_⟩)
 refine RunD.op 13 [true, true, false, false] rfl rfl rfl kr kr (OpJ.storeW T28 rfl rfl StS_len rfl StS_one up ⟨po, ?_⟩)
 refine RunD.op 14 [true, false] rfl rfl rfl kr kr (OpJ.storeW T43 rfl rfl rfl rfl (by simp [Value.oneCell', Pa.c, Ly.c, Mv.c, Co.c]) up ⟨po, ?_⟩)
 refine tk 15 rfl rfl rfl (DetJ.assign rfl) ?_
 exact RunD.weak (E' := [(0, I k), (2, .slice (some ⟨b0, o0, none⟩) ms.length cap), (6, .pointer (some ⟨b6, 0, none⟩)), (10, .pointer (some ⟨b10, 0, none⟩)), (12, .slice ca cs.length cc), (13, I i), (14, .pointer (some ⟨b14, 0, none⟩)), (15, .pointer (some ⟨b15, 0, none⟩)), (16, I (errOf (stepM k s m)))]) (L' := [pt b14 (blk (StS (stepM k s m) x) 28), pt b15 (blk (avC (stepM k s m)).c 43), stars (StB 64 66 (stepM k s m) x), pt b10 (blk (s.c la lc pa pc) 28), pt b6 (blk [I 0, I 0, I 0, .slice none 0 0, .slice none 0 0] 28), own 43 4 ca (cs).length cc ((cs).flatMap Co.c), R]) (Keep.sub (kt (ks := [0, 2, 6, 10, 12, 13, 14, 15, 16]) rfl)) gv (RunD.done kr ⟨_, _, _, rfl, rfl⟩)
 refine RunD.op 6 [false, false, false, false, false, false] rfl rfl rfl kr kr (OpJ.callOuts C28 rfl rfl (ac28i k s m la lc pa pc (own 64 4 la s.layers.length lc (s.layers.flatMap Ly.c)) (own 66 7 pa s.past.length pc (s.past.flatMap Pa.c)) hso (hms m (List.mem_of_getElem? hx)) own.rds own.rds (hsz m (List.mem_of_getElem? hx)) hri) tks fun x _ => ⟨po, ?_⟩)
 refine tk 7 rfl rfl rfl (DetJ.move rfl) ?_
 refine tk 8 rfl rfl rfl (DetJ.extract rfl rfl) ?_
 refine tk 9 rfl rfl rfl (DetJ.extract rfl rfl) ?_
 refine tk 10 rfl rfl rfl (DetJ.extract rfl rfl) ?_
 refine RunD.op 13 [true, true, false, false] rfl rfl rfl kr kr (OpJ.storeW T28 rfl rfl StS_len rfl StS_one up ⟨po, ?_⟩)
 refine RunD.op 14 [true, false] rfl rfl rfl kr kr (OpJ.storeW T43 rfl rfl rfl rfl (by simp [Value.oneCell', Pa.c, Ly.c, Mv.c, Co.c]) up ⟨po, ?_⟩)
 refine tk 15 rfl rfl rfl (DetJ.assign rfl) ?_
 exact RunD.weak (E' := [(0, I k), (2, .slice (some ⟨b0, o0, none⟩) ms.length cap), (6, .pointer (some ⟨b6, 0, none⟩)), (10, .pointer (some ⟨b10, 0, none⟩)), (12, .slice ca cs.length cc), (13, I i), (14, .pointer (some ⟨b14, 0, none⟩)), (15, .pointer (some ⟨b15, 0, none⟩)), (16, I (errOf (stepM k s m)))]) (L' := [pt b14 (blk (StS (stepM k s m) x) 28), pt b15 (blk (avC (stepM k s m)).c 43), stars (StB 64 66 (stepM k s m) x), pt b10 (blk (s.c la lc pa pc) 28), pt b6 (blk [I 0, I 0, I 0, .slice none 0 0, .slice none 0 0] 28), own 43 4 ca (cs).length cc ((cs).flatMap Co.c), R]) (Keep.sub (kt (ks := [0, 2, 6, 10, 12, 13, 14, 15, 16]) rfl)) gv (RunD.done kr ⟨_, _, _, rfl, rfl⟩)
 refine RunD.two 6 11 [false, false, false, false, false, false] [true, true, true, true, true, true] rfl rfl rfl rfl rfl rfl kr kr kr (OpJ.callOuts C28 rfl rfl (ac28i k s m la lc pa pc (own 64 4 la s.layers.length lc (s.layers.flatMap Ly.c)) (own 66 7 pa s.past.length pc (s.past.flatMap Pa.c)) hso (hms m (List.mem_of_getElem? hx)) own.rds own.rds (hsz m (List.mem_of_getElem? hx)) hri) tks fun x _ => ⟨po, ?_⟩) (OpJ.alloc Z28 fun b14 => ⟨po, ?_⟩)
 refine tk 7 rfl rfl rfl (DetJ.move rfl) ?_
 refine tk 8 rfl rfl rfl (DetJ.extract rfl rfl) ?_
 refine tk 9 rfl rfl rfl (DetJ.extract rfl rfl) ?_
 refine tk 10 rfl rfl rfl (DetJ.extract rfl rfl) ?_
 refine RunD.op 11 [true, true, true, true] rfl rfl rfl kr kr (OpJ.alloc Z28 fun b14 => ⟨po, ?_⟩)
 refine RunD.op 13 [true, true, false, false] rfl rfl rfl kr kr (OpJ.storeW T28 rfl rfl StS_len rfl StS_one up ⟨po, ?_⟩)
 refine RunD.op 14 [true, false] rfl rfl rfl kr kr (OpJ.storeW T43 rfl rfl rfl rfl (by simp [Value.oneCell', Pa.c, Ly.c, Mv.c, Co.c]) up ⟨po, ?_⟩)
 refine tk 15 rfl rfl rfl (DetJ.assign rfl) ?_
 exact RunD.weak (E' := [(0, I k), (2, .slice (some ⟨b0, o0, none⟩) ms.length cap), (6, .pointer (some ⟨b6, 0, none⟩)), (10, .pointer (some ⟨b10, 0, none⟩)), (12, .slice ca cs.length cc), (13, I i), (14, .pointer (some ⟨b14, 0, none⟩)), (15, .pointer (some ⟨b15, 0, none⟩)), (16, I (errOf (stepM k s m)))]) (L' := [pt b14 (blk (StS (stepM k s m) x) 28), pt b15 (blk (avC (stepM k s m)).c 43), stars (StB 64 66 (stepM k s m) x), pt b10 (blk (s.c la lc pa pc) 28), pt b6 (blk [I 0, I 0, I 0, .slice none 0 0, .slice none 0 0] 28), own 43 4 ca (cs).length cc ((cs).flatMap Co.c), R]) (Keep.sub (kt (ks := [0, 2, 6, 10, 12, 13, 14, 15, 16]) rfl)) gv (RunD.done kr ⟨_, _, _, rfl, rfl⟩)
 refine RunD.op 6 [false, false, false, false, false, false] rfl rfl rfl kr kr (OpJ.callOuts C28 rfl rfl (ac28i k s m la lc pa pc (own 64 4 la s.layers.length lc (s.layers.flatMap Ly.c)) (own 66 7 pa s.past.length pc (s.past.flatMap Pa.c)) hso (hms m (List.mem_of_getElem? hx)) own.rds own.rds (hsz m (List.mem_of_getElem? hx)) hri) tks fun x _ => ⟨po, ?_⟩)
 refine tk 7 rfl rfl rfl (DetJ.move rfl) ?_
 refine tk 8 rfl rfl rfl (DetJ.extract rfl rfl) ?_
 refine tk 9 rfl rfl rfl (DetJ.extract rfl rfl) ?_
 refine tk 10 rfl rfl rfl (DetJ.extract rfl rfl) ?_
 refine RunD.op 13 [true, true, false, false] rfl rfl rfl kr kr (OpJ.storeW T28 rfl rfl StS_len rfl StS_one up ⟨po, ?_⟩)
 refine RunD.op 14 [true, false] rfl rfl rfl kr kr (OpJ.storeW T43 rfl rfl rfl rfl (by simp [Value.oneCell', Pa.c, Ly.c, Mv.c, Co.c]) up ⟨po, ?_⟩)
 refine tk 15 rfl rfl rfl (DetJ.assign rfl) ?_
 exact RunD.weak (E' := [(0, I k), (2, .slice (some ⟨b0, o0, none⟩) ms.length cap), (6, .pointer (some ⟨b6, 0, none⟩)), (10, .pointer (some ⟨b10, 0, none⟩)), (12, .slice ca cs.length cc), (13, I i), (14, .pointer (some ⟨b14, 0, none⟩)), (15, .pointer (some ⟨b15, 0, none⟩)), (16, I (errOf (stepM k s m)))]) (L' := [pt b14 (blk (StS (stepM k s m) x) 28), pt b15 (blk (avC (stepM k s m)).c 43), stars (StB 64 66 (stepM k s m) x), pt b10 (blk (s.c la lc pa pc) 28), pt b6 (blk [I 0, I 0, I 0, .slice none 0 0, .slice none 0 0] 28), own 43 4 ca (cs).length cc ((cs).flatMap Co.c), R]) (Keep.sub (kt (ks := [0, 2, 6, 10, 12, 13, 14, 15, 16]) rfl)) gv (RunD.done kr ⟨_, _, _, rfl, rfl⟩)
 rintro _ _ ⟨x, b14, b15, rfl, rfl⟩
 refine Run.seq ?_
 refine sr ?_
 refine mvo rfl rfl ?_
 rcases hst : stepM k s m with e | ⟨t, c⟩
 refine sx 1 ?_
 first | refine RunL.set (congrArg Value.bool (decide_eq_true (show errOf (Except.error _) ≠ 0 from stepM_err hst))) ?_ | skip
 refine kp [0, 2, 6, 10, 12, 13, 14, 15, 16, 46] rfl ?_
 refine Run.true rfl ?_
 refine sr ?_
 refine sx 7 ?_
 refine kp [6, 7, 8, 9] rfl ?_
 refine Run.ret ?_
 have hf := runM_er h0 (runL_fail hrun hx hst); refine ret_out (none, 0, none, 0, none, 0) (.cellA T28 rfl pk (by rfl) (.tmp rfl (.tmp rfl (.tmp rfl .nil)))) trivial (by rw [hf]; rfl) ?_; rw [hf]; exact gv
 refine RunL.unstar (As := StB 64 66 (Except.ok (t, c)) x) pk ?_
 rw [show StS (Except.ok (t, c)) x = t.c x.1 x.2.1 x.2.2.1 x.2.2.2 from rfl, show avC (Except.ok (t, c)) = c from rfl]
 refine sx 1 ?_
 first | refine RunL.set (congrArg Value.bool (decide_eq_true (show errOf (Except.error _) ≠ 0 from stepM_err hst))) ?_ | skip
 refine kp [0, 2, 6, 10, 12, 13, 14, 15, 16, 46] rfl ?_
 refine Run.false rfl ?_
 refine Run.skip ?_
 refine sr ?_
 refine sx 2 ?_
 refine kp [0, 2, 6, 10, 12, 13, 15] rfl ?_
 refine Run.region ?_
 refine sx 2 ?_
 refine RunL.op rfl rfl (OpJ.buildSlice1 S34 rfl rfl rfl (by decide) (by decide) Z43 rfl fun b53 => ?_)
 refine RunL.op rfl rfl (OpJ.append1 (c : Co) S34 M43 rfl rfl pk pk rfl rfl (by simp [Value.oneCell', Pa.c, Ly.c, Mv.c, Co.c]) rfl (by omega) (by omega) fun a54 c54 => ?_)
 refine asg rfl rfl ?_
 refine kp [0, 2, 6, 10, 12, 13] rfl ?_
 refine Run.region ?_
 refine sx 3 ?_
 exact RunL.next (Keep.sub (kt (ks := [0, 2, 6, 10, 12, 13]) rfl)) _ ⟨_, by omega, i + 1, t, cs ++ [c], x.1, x.2.1, x.2.2.1, x.2.2.2, _, _, rfl, by omega, runL_snoc hrun hx hst, hri.step hst, rfl, rfl⟩ gv
 refine Run.exit ?_
 refine sr ?_
 refine sx 6 ?_
 refine kp [6, 7, 8, 9] rfl ?_
 refine Run.ret ?_
 have hf := runM_ok h0 ((runL_all (by omega)).trans hrun); refine ret_out (la, lc, pa, pc, ca, cc) (.cellA T28 rfl pk (by rfl) (.tmp rfl (.tmp rfl (.tmp rfl .nil)))) trivial (by rw [hf]; rfl) ?_; rw [hf]; exact gv
end
end Go.Proofs.YtdcchollplhioaaGreatDoor

namespace Go.Proofs.YtdcchollplhioaaGreatDoor
open Go Go.SL Go.Proofs
section
attribute [local irreducible] OpJ RunL Run RunD DetJ pt own star Rd RdS
end
theorem ep {A : HP} {h : Hp} (hs : star emp A h) : A h := by
  obtain ⟨h1, h2, hd, rfl, ha, hb⟩ := hs
  rw [Hp.add_none ha]; exact hb
theorem ep' {A : HP} {h : Hp} (hs : A h) : star emp A h := ⟨fun _ => none, h, fun b => .inl rfl, by funext b; simp [Hp.add], fun _ => rfl, hs⟩
theorem ac17s (s : Sk) (h1 : s.layers = []) (h2 : s.past = []) : AC Tryz.prog 17 ⟨[.agg ⟨s.c none 0 none 0⟩, .agg ⟨s.c none 0 none 0⟩]⟩ (stars []) (Ret (Bo true) []) :=
  AC.mono (ac17 s none 0 none 0 none 0 none 0 emp emp emp emp (by rw [h1]; exact RdS.nil) (by rw [h2]; exact RdS.nil) (by rw [h1]; exact RdS.nil) (by rw [h2]; exact RdS.nil) (by rw [h1, h2]; decide)) (fun h hh => ep' (ep' (ep' (ep' hh)))) (fun r h hh => ⟨hh.1, ep (ep (ep (ep hh.2)))⟩)
theorem ac18z : AC Tryz.prog 18 ⟨[.slice none 0 0, .slice none 0 0]⟩ (stars []) (Ret (Bo true) []) :=
  AC.mono (ac18 [] none 0 none 0 emp emp RdS.nil RdS.nil (by decide)) (fun h hh => ep' (ep' hh)) (fun r h hh => ⟨hh.1, ep (ep hh.2)⟩)
section
attribute [local irreducible] OpJ RunL Run RunD DetJ pt own star Rd RdS
-- accountinglaw38.CostingRuns
theorem ac3 (k p : Int) (R : HP) (oa : Option Addr) (cap : Nat) (ms : List Mv) (hR : RdS R oa (ms.flatMap Mv.c)) (hlen : (ms.length : Int) ≤ 9223372036854775807) (hms : ∀ m ∈ ms, m.ok) (R0 : HP) (hR0 : Rd R0 ⟨0, 0, none⟩ lensC) (hsz : ∀ m ∈ ms, (m.item.size : Int) ≤ 9223372036854775807 ∧ (m.lot.size : Int) ≤ 9223372036854775807) : AC Tryz.prog 3 ⟨[I k, I p, .slice oa ms.length cap]⟩ (stars [R, R0]) (Ret (Bo true) [R, R0]) := by
 refine AC.go Tryz.func3 rfl (Nat.le_of_ble_eq_true rfl) fun β => ?_
 refine sr ?_
 refine asg rfl rfl ?_
 refine kp [0, 1, 2] rfl ?_
 refine Run.seq ?_
 refine sr ?_
 refine mvo rfl rfl ?_
 refine RunL.call C11 rfl rfl rfl (ac11 R oa cap ms hR hlen) tks ?_
 refine kp [0, 1, 2, 20] rfl ?_
 first | refine Run.if rfl (fun h1 => ?_) (fun h1 => ?_) | refine Run.cond rfl (fun h1 => ?_) (fun h1 => ?_)
 refine sr ?_
 refine RunL.call C12 rfl rfl rfl (ac12 R0 hR0) tks ?_
 refine asg rfl rfl ?_
 refine kp [6] rfl ?_
 refine Run.ret ?_
 exact ret_one (.tmp rfl .nil) (rfl) gv
 refine Run.skip ?_
 refine sr ?_
 have h40 := largeMs_len (show largeMs ms = false by simpa using h1)
 refine sx 2 ?_
 refine RunL.call C13 rfl rfl rfl (ac13 k p) .nil ?_
 refine sx 3 ?_
 refine RunL.op rfl rfl (OpJ.alloc Z28 fun b7 => ?_)
 refine sx 2 ?_
 refine kp [0, 1, 2, 7, 8] rfl ?_
 refine sr ?_
 refine sx 2 ?_
 refine RunL.call C14 rfl rfl rfl (ac14 k p) .nil ?_
 refine sx 3 ?_
 refine RunL.op rfl rfl (OpJ.alloc Z28 fun b9 => ?_)
 refine sx 2 ?_
 refine kp [0, 1, 2, 7, 8, 9, 10] rfl ?_
 refine sr ?_
 refine sx 3 ?_
 refine RunL.callX C15 rfl rfl rfl (ac15 k p R oa cap ms hR (by omega) hms R0 hR0) tks fun ⟨l1, lc1, p1, pc1, ca, cc⟩ _ => ?_
 rcases runM_cases k p ms with ⟨h0, hres⟩ | ⟨h0, i0, e, hres, hL⟩ | ⟨h0, t, cs, hres, hL⟩
 rw [hres]
 refine sx 5 ?_
 refine RunL.op rfl rfl (OpJ.alloc Z28 fun b11 => ?_)
 refine sx 4 ?_
 refine kp [0, 1, 2, 7, 8, 9, 10, 11, 12, 13, 14] rfl ?_
 refine sr ?_
 refine sx 3 ?_
 refine RunL.callX C16 rfl rfl rfl (ac16 k p R oa cap ms hR (by omega) hms hsz) tks fun ⟨l2, lc2, p2, pc2, ca2, cc2⟩ _ => ?_
 rw [hres]
 refine sx 5 ?_
 refine RunL.op rfl rfl (OpJ.alloc Z28 fun b15 => ?_)
 refine sx 4 ?_
 refine kp [7, 8, 9, 10, 11, 12, 13, 14, 15, 16, 17, 18] rfl ?_
 refine Run.seq ?_
 refine sr ?_
 refine sx 3 ?_
 refine RunL.set (v := Bo false) (congrArg Value.bool (decide_eq_false (fun h => h rfl))) ?_
 refine sx 3 ?_
 refine RunL.callG C17 rfl rfl rfl rfl rfl (ac17s (start0 k p) (start0_l k p) (start0_p k p)) .nil ?_
 refine sx 6 ?_
 refine RunL.set (v := Bo false) (congrArg Value.bool (decide_eq_false (fun h => h rfl))) ?_
 refine sx 5 ?_
 refine RunL.set (v := Bo false) (congrArg Value.bool (decide_eq_false (fun h => h rfl))) ?_
 refine sx 1 ?_
 refine kp [11, 12, 15, 16, 70] rfl ?_
 refine Run.false rfl ?_
 refine Run.skip ?_
 refine sr ?_
 refine sx 2 ?_
 refine RunL.call C17 rfl rfl rfl (ac17s sk0 rfl rfl) .nil ?_
 refine sx 3 ?_
 refine RunL.callG C18 rfl rfl rfl rfl rfl ac18z .nil ?_
 refine sx 2 ?_
 refine RunL.callG C12 rfl rfl rfl rfl rfl (ac12 R0 hR0) tks ?_
 refine sx 2 ?_
 refine kp [6] rfl ?_
 refine Run.ret ?_
 exact ret_one (.tmp rfl .nil) (rfl) gv
 rw [hres]
 refine sx 5 ?_
 refine RunL.op rfl rfl (OpJ.alloc Z28 fun b11 => ?_)
 refine sx 4 ?_
 refine kp [0, 1, 2, 7, 8, 9, 10, 11, 12, 13, 14] rfl ?_
 refine sr ?_
 refine sx 3 ?_
 refine RunL.callX C16 rfl rfl rfl (ac16 k p R oa cap ms hR (by omega) hms hsz) tks fun ⟨l2, lc2, p2, pc2, ca2, cc2⟩ _ => ?_
 rw [hres]
 refine sx 5 ?_
 refine RunL.op rfl rfl (OpJ.alloc Z28 fun b15 => ?_)
 refine sx 4 ?_
 refine kp [7, 8, 9, 10, 11, 12, 13, 14, 15, 16, 17, 18] rfl ?_
 refine Run.seq ?_
 refine sr ?_
 refine sx 3 ?_
 refine RunL.set (v := Bo false) (congrArg Value.bool (decide_eq_false (fun h => h rfl))) ?_
 refine sx 3 ?_
 refine RunL.callG C17 rfl rfl rfl rfl rfl (ac17s (start0 k p) (start0_l k p) (start0_p k p)) .nil ?_
 refine sx 6 ?_
 refine RunL.set (v := Bo false) (congrArg Value.bool (decide_eq_false (fun h => h rfl))) ?_
 refine sx 5 ?_
 refine RunL.set (v := Bo false) (congrArg Value.bool (decide_eq_false (fun h => h rfl))) ?_
 refine sx 1 ?_
 refine kp [11, 12, 15, 16, 70] rfl ?_
 refine Run.false rfl ?_
 refine Run.skip ?_
 refine sr ?_
 refine sx 2 ?_
 refine RunL.call C17 rfl rfl rfl (ac17s sk0 rfl rfl) .nil ?_
 refine sx 3 ?_
 refine RunL.callG C18 rfl rfl rfl rfl rfl ac18z .nil ?_
 refine sx 2 ?_
 refine RunL.callG C12 rfl rfl rfl rfl rfl (ac12 R0 hR0) tks ?_
 refine sx 2 ?_
 refine kp [6] rfl ?_
 refine Run.ret ?_
 exact ret_one (.tmp rfl .nil) (rfl) gv
 rw [hres]
 have hcl := runL_len hL
 have hst := (runL_ok hms (start0_ok 0) hL).mono (show 0 + ms.length ≤ 999999 by omega)
 refine sx 5 ?_
 refine RunL.op rfl rfl (OpJ.alloc Z28 fun b11 => ?_)
 refine sx 4 ?_
 refine kp [0, 1, 2, 7, 8, 9, 10, 11, 12, 13, 14] rfl ?_
 refine sr ?_
 refine sx 3 ?_
 refine RunL.callX C16 rfl rfl rfl (ac16 k p R oa cap ms hR (by omega) hms hsz) tks fun ⟨l2, lc2, p2, pc2, ca2, cc2⟩ _ => ?_
 rw [hres]
 refine sx 5 ?_
 refine RunL.op rfl rfl (OpJ.alloc Z28 fun b15 => ?_)
 refine sx 4 ?_
 refine kp [7, 8, 9, 10, 11, 12, 13, 14, 15, 16, 17, 18] rfl ?_
 refine Run.seq ?_
 refine sr ?_
 refine sx 3 ?_
 refine RunL.set (v := Bo false) (congrArg Value.bool (decide_eq_false (fun h => h rfl))) ?_
 refine sx 3 ?_
 refine RunL.callG C17 rfl rfl rfl rfl rfl (ac17s (start0 k p) (start0_l k p) (start0_p k p)) .nil ?_
 refine sx 6 ?_
 refine RunL.set (v := Bo false) (congrArg Value.bool (decide_eq_false (fun h => h rfl))) ?_
 refine sx 5 ?_
 refine RunL.set (v := Bo false) (congrArg Value.bool (decide_eq_false (fun h => h rfl))) ?_
 refine sx 1 ?_
 refine kp [11, 12, 15, 16, 70] rfl ?_
 refine Run.false rfl ?_
 refine Run.skip ?_
 refine sr ?_
 refine sx 2 ?_
 refine RunL.call C17 rfl rfl rfl (ac17 t l1 lc1 p1 pc1 l2 lc2 p2 pc2 (own 64 4 l1 t.layers.length lc1 (t.layers.flatMap Ly.c)) (own 66 7 p1 t.past.length pc1 (t.past.flatMap Pa.c)) (own 64 4 l2 t.layers.length lc2 (t.layers.flatMap Ly.c)) (own 66 7 p2 t.past.length pc2 (t.past.flatMap Pa.c)) own.rds own.rds own.rds own.rds (by have := hst.nl; have := hst.np; omega)) tks ?_
 refine sx 3 ?_
 refine RunL.callG C18 rfl rfl rfl rfl rfl (ac18 cs ca cc ca2 cc2 (own 43 4 ca (cs).length cc ((cs).flatMap Co.c)) (own 43 4 ca2 (cs).length cc2 ((cs).flatMap Co.c)) own.rds own.rds (by omega)) tks ?_
 refine sx 2 ?_
 refine RunL.callG C12 rfl rfl rfl rfl rfl (ac12 R0 hR0) tks ?_
 refine sx 2 ?_
 refine kp [6] rfl ?_
 refine Run.ret ?_
 exact ret_one (.tmp rfl .nil) (rfl) gv
end
end Go.Proofs.YtdcchollplhioaaGreatDoor

namespace Go.Proofs.YtdcchollplhioaaGreatDoor
open Go Go.SL Go.ChangeShapes Go.WideShapes Go.ChangeAt Go.WideElems Go.RowKit Go.Deep
section
variable {H : Type} {enc : TypeId × Value → H} {W : World} {sp : Nat → Bool} {held : Bool}
theorem cof3 : Tryz.prog.cellsOf 3 = 1 := by kernel_rfl
theorem cof9 : Tryz.prog.cellsOf 9 = 1 := by kernel_rfl
theorem cof47 : Tryz.prog.cellsOf 47 = 8 := by kernel_rfl
theorem i64_of {n : Int} (h : (Lit.int .i64 n).wf = true) : i64 n := by
  have h1 : IntKind.i64.min = -9223372036854775808 := by rfl
  have h2 : IntKind.i64.max = 9223372036854775807 := by rfl
  simp only [Lit.wf, Bool.and_eq_true, decide_eq_true_eq] at h
  rw [h1, h2] at h
  exact h
theorem int_at {fuel : Nat} {cs : List Value} {x : DataW H × List MemPlace} (h : DataW.trod enc Tryz.prog W 0 sp held fuel 3 cs = some x) : ∃ n, cs = [I n] ∧ i64 n := by
  obtain ⟨n, h1, _, h2⟩ := DataW.trod_int Tryz.underlying3 h
  exact ⟨n, h1, i64_of h2⟩
theorem str_at {fuel : Nat} {cs : List Value} {x : DataW H × List MemPlace} (h : DataW.trod enc Tryz.prog W 0 sp held fuel 9 cs = some x) : ∃ s, cs = [St s] ∧ (s.size : Int) ≤ 9223372036854775807 := by
  obtain ⟨s, h1, _, hs⟩ := DataW.trod_string Tryz.underlying9 h
  have hmax : (maxLen : Nat) ≤ 9223372036854775807 := by decide
  exact ⟨s, h1, by omega⟩
/-- The sizes of a movement's strings. -/
def _root_.Go.SL.Mv.sz (m : Mv) : Prop := (m.item.size : Int) ≤ 9223372036854775807 ∧ (m.lot.size : Int) ≤ 9223372036854775807
theorem mv_of {fuel : Nat} {cs : List Value} {x : DataW H × List MemPlace} (h : DataW.trod enc Tryz.prog W 0 sp held fuel 47 cs = some x) : ∃ m : Mv, cs = m.c ∧ m.ok ∧ m.sz := by
  obtain ⟨xs, n, _, _, hl, hxl, hf⟩ := DataW.trod_struct Tryz.underlying47 h
  rw [cof47] at hl
  have hsz : xs.length = 8 := hxl
  have get : ∀ i, i < 8 → ∃ y, xs[i]? = some y := fun i hi => ⟨_, List.getElem?_eq_getElem (by omega)⟩
  have f0 : DataW.trod enc Tryz.prog W 0 sp held n 3 ((cs.drop 0).take (Tryz.prog.cellsOf 3)) = xs[0]? := hf 0 _ rfl
  have f1 : DataW.trod enc Tryz.prog W 0 sp held n 3 ((cs.drop 1).take (Tryz.prog.cellsOf 3)) = xs[1]? := hf 1 _ rfl
  have f2 : DataW.trod enc Tryz.prog W 0 sp held n 9 ((cs.drop 2).take (Tryz.prog.cellsOf 9)) = xs[2]? := hf 2 _ rfl
  have f3 : DataW.trod enc Tryz.prog W 0 sp held n 3 ((cs.drop 3).take (Tryz.prog.cellsOf 3)) = xs[3]? := hf 3 _ rfl
  have f4 : DataW.trod enc Tryz.prog W 0 sp held n 3 ((cs.drop 4).take (Tryz.prog.cellsOf 3)) = xs[4]? := hf 4 _ rfl
  have f5 : DataW.trod enc Tryz.prog W 0 sp held n 3 ((cs.drop 5).take (Tryz.prog.cellsOf 3)) = xs[5]? := hf 5 _ rfl
  have f6 : DataW.trod enc Tryz.prog W 0 sp held n 9 ((cs.drop 6).take (Tryz.prog.cellsOf 9)) = xs[6]? := hf 6 _ rfl
  have f7 : DataW.trod enc Tryz.prog W 0 sp held n 3 ((cs.drop 7).take (Tryz.prog.cellsOf 3)) = xs[7]? := hf 7 _ rfl
  rw [cof3] at f0 f1 f3 f4 f5 f7
  rw [cof9] at f2 f6
  obtain ⟨y0, e0⟩ := get 0 (by decide); obtain ⟨y1, e1⟩ := get 1 (by decide); obtain ⟨y2, e2⟩ := get 2 (by decide); obtain ⟨y3, e3⟩ := get 3 (by decide)
  obtain ⟨y4, e4⟩ := get 4 (by decide); obtain ⟨y5, e5⟩ := get 5 (by decide); obtain ⟨y6, e6⟩ := get 6 (by decide); obtain ⟨y7, e7⟩ := get 7 (by decide)
  obtain ⟨n0, h0, _⟩ := int_at (f0.trans e0); obtain ⟨n1, h1, _⟩ := int_at (f1.trans e1); obtain ⟨s2, h2, z2⟩ := str_at (f2.trans e2); obtain ⟨n3, h3, _⟩ := int_at (f3.trans e3)
  obtain ⟨n4, h4, w4⟩ := int_at (f4.trans e4); obtain ⟨n5, h5, w5⟩ := int_at (f5.trans e5); obtain ⟨s6, h6, z6⟩ := str_at (f6.trans e6); obtain ⟨n7, h7, _⟩ := int_at (f7.trans e7)
  clear f0 f1 f2 f3 f4 f5 f6 f7 hf get
  match cs, hl with
  | [c0, c1, c2, c3, c4, c5, c6, c7], _ =>
    simp at h0 h1 h2 h3 h4 h5 h6 h7
    subst h0 h1 h2 h3 h4 h5 h6 h7
    exact ⟨⟨n0, n1, s2, n3, n4, n5, s6, n7⟩, rfl, ⟨w4, w5⟩, z2, z6⟩
theorem add_add' (a : Addr) (x y : Nat) : (a.add x).add y = a.add (x + y) := by
  unfold Addr.add
  by_cases hx : x = 0
  · subst hx; simp
  · by_cases hy : y = 0
    · subst hy; simp
    · have : x + y ≠ 0 := by omega
      simp [hx, hy, Nat.add_assoc]
theorem cells_at {a : Addr} {n : Nat} {cs : List Value} (h : W.cells? 0 a n = some cs) : ∀ j v, cs[j]? = some v → W.cell? (a.add j) = some v := fun j v hj => by
  unfold World.cells? at h
  rw [if_pos (Nat.zero_le _)] at h
  have hl := mapM_some_length h
  have hjl := (List.getElem?_eq_some_iff.1 hj).1
  rw [List.length_range] at hl
  have := mapM_some_get h j j (List.getElem?_range (by omega))
  rw [this]; exact hj
/-- The movements that a slice holds. -/
theorem moves_of {fuel : Nat} {oa : Option Addr} {len cap : Nat} {x : DataW H × List MemPlace} (h : DataW.trod enc Tryz.prog W 0 (fun _ => true) held fuel 22 [.slice oa len cap] = some x) :
    ∃ ms : List Mv, ms.length = len ∧ (∀ m ∈ ms, m.ok ∧ m.sz) ∧ (len : Int) ≤ 9223372036854775807 ∧ len ≤ cap ∧ (ms = [] ∨ ∃ a, oa = some a ∧ ∀ j v, (ms.flatMap Mv.c)[j]? = some v → W.cell? (a.add j) = some v) := by
  rcases open_slice Tryz.underlying22 h with ⟨h1, _⟩ | ⟨a, l, c, m, n, D, Pl, h1, _, hlc, hcm, hm, _, hel⟩
  · simp at h1; obtain ⟨rfl, rfl, rfl⟩ := h1; exact ⟨[], rfl, (fun m hm => by cases hm), by decide, Nat.le_refl _, Or.inl rfl⟩
  · simp at h1; obtain ⟨rfl, rfl, rfl⟩ := h1
    simp only [if_true] at hm
    subst hm
    have hmax : (maxLen : Nat) ≤ 9223372036854775807 := by decide
    have key : ∀ i, ∃ mv : Mv, i < len → (W.cells? 0 (a.add (i * 8)) 8 = some mv.c ∧ mv.ok ∧ mv.sz) := fun i => by
      by_cases hi : i < len
      · obtain ⟨cs', hc, ht⟩ := hel i (by omega)
        rw [cof47] at hc
        obtain ⟨mv, rfl, hok⟩ := mv_of ht
        exact ⟨mv, fun _ => ⟨hc, hok⟩⟩
      · exact ⟨⟨0, 0, ⟨#[]⟩, 0, 0, 0, ⟨#[]⟩, 0⟩, fun h => absurd h hi⟩
    let f : Nat → Mv := fun i => Classical.choose (key i)
    have hfs : ∀ i, i < len → (W.cells? 0 (a.add (i * 8)) 8 = some (f i).c ∧ (f i).ok ∧ (f i).sz) := fun i => Classical.choose_spec (key i)
    refine ⟨(List.range len).map f, by simp, fun mv hmv => ?_, by omega, hlc, .inr ⟨a, rfl, fun j v hj => ?_⟩⟩
    · obtain ⟨i, hi, rfl⟩ := List.mem_map.1 hmv
      exact (hfs i (by simpa using hi)).2
    · have hjl := (List.getElem?_eq_some_iff.1 hj).1
      rw [flat_len (enc := Mv.c) (k := 8) (fun _ => rfl), List.length_map, List.length_range] at hjl
      have hi : j / 8 < len := by omega
      have hx : ((List.range len).map f)[j / 8]? = some (f (j / 8)) := by simp [hi]
      obtain ⟨v', hv'⟩ : ∃ v', (f (j / 8)).c[j % 8]? = some v' := ⟨_, List.getElem?_eq_getElem (show j % 8 < 8 by omega)⟩
      have := flat_get (enc := Mv.c) (k := 8) (fun _ => rfl) _ _ _ hx _ _ hv'
      rw [show j / 8 * 8 + j % 8 = j by omega, hj] at this
      cases this
      have hc := cells_at (hfs _ hi).1 _ _ hv'
      rw [← hc]
      rw [add_add', show j / 8 * 8 + j % 8 = j by omega]
end
theorem gLen : Tryz.prog.globalNamed "accounting/days.lengths" = some 0 := by kernel_rfl
def laid1 : List (String × DataW Unit) := [("accounting/days.lengths", Rows.laid_accounting_days_lengths)]
/-- What the condition gives: the block of the months' lengths. -/
theorem of_laid {W : World} (h : laidMetH Tryz.prog laid1 W) : ∃ t fr, W.heap[0]? = some (.cells ⟨lensC⟩ t fr) := by
  rw [MakeChecks.laidMetH_plain _ _ _ (by kernel_rfl)] at h
  obtain ⟨ps, ⟨g0, t0, cs0, f0, p0, q0, hg0, ht0, hv0, hd0, _, _⟩, _, hfr⟩ := h
  obtain rfl := Option.some.inj (gLen.symm.trans hg0)
  have tl : (Tryz.prog.globals[0]?).map (·.type) = some 149 := by kernel_rfl
  obtain rfl := Option.some.inj (tl.symm.trans ht0)
  obtain ⟨xs, m1, rfl, hx1, hlen, hn, hel⟩ := DataW.trod_array Tryz.underlying149 hd0
  have c149 : Tryz.prog.cellsOf 149 = 12 := by kernel_rfl
  rw [c149] at hlen
  simp only [cof3, Nat.mul_one] at hel
  have hcs : cs0.toList = lensC := by
    simp only [Rows.laid_accounting_days_lengths, Prod.mk.injEq, DataW.agg.injEq] at hx1
    obtain ⟨l⟩ := cs0
    (try simp only at hlen)
    (try simp only at hel)
    (try simp only)
    have get : ∀ i, i < 12 → ∃ (n : Int) (y : DataW Unit × List MemPlace), (l.drop i).take 1 = [.int .i64 n] ∧ xs[i]? = some y ∧ y.1 = .lit (.int .i64 n) := fun i hi => by
      obtain ⟨y, hy⟩ : ∃ y, xs[i]? = some y := ⟨_, List.getElem?_eq_getElem (by omega)⟩
      obtain ⟨n, h1, h2, _⟩ := DataW.trod_int Tryz.underlying3 ((hel i hi).trans hy)
      exact ⟨n, y, h1, hy, by rw [h2]⟩
    have val : ∀ i, i < 12 → ∀ n : Int, ([31, 28, 31, 30, 31, 30, 31, 31, 30, 31, 30, 31] : List Int)[i]? = some n → l[i]? = some (.int .i64 n) := fun i hi n hn' => by
      obtain ⟨n', y, h1, h2, h3⟩ := get i hi
      have h4 : (xs.map (·.1))[i]? = some (.lit (.int .i64 n')) := by rw [List.getElem?_map, h2]; simp [h3]
      rw [← hx1.1] at h4
      have h5 : l[i]? = some (.int .i64 n') := by
        have := congrArg (·[0]?) h1
        simpa [List.getElem?_take] using this
      rw [h5]
      have : i = 0 ∨ i = 1 ∨ i = 2 ∨ i = 3 ∨ i = 4 ∨ i = 5 ∨ i = 6 ∨ i = 7 ∨ i = 8 ∨ i = 9 ∨ i = 10 ∨ i = 11 := by omega
      rcases this with rfl | rfl | rfl | rfl | rfl | rfl | rfl | rfl | rfl | rfl | rfl | rfl <;> (simp at h4 hn'; subst h4; subst hn'; rfl)
    have hll : l.length = 12 := hlen
    show l = lensC
    apply List.ext_getElem?
    intro i
    by_cases hi : i < 12
    · obtain ⟨n, hn'⟩ : ∃ n, lensL[i]? = some n := ⟨_, List.getElem?_eq_getElem (show i < lensL.length from hi)⟩
      rw [val i hi n hn', lensC, List.getElem?_map, hn']; rfl
    · rw [List.getElem?_eq_none (by omega), List.getElem?_eq_none (show lensC.length ≤ i from (by omega : 12 ≤ i))]
  unfold World.var? at hv0
  rw [gLen] at hv0
  simp only [Option.bind_some] at hv0
  split at hv0
  · rename_i cs t fr hh
    cases hv0
    obtain ⟨l⟩ := cs0
    (try simp only at hcs)
    subst hcs
    exact ⟨t, fr, hh⟩
  · cases hv0

/-! from a contract to the row -/
def at1 (b : Nat) (o : Obj) : Hp := fun c => if c = b then some o else none
theorem pt_at1 (b : Nat) (o : Obj) : pt b o (at1 b o) := fun _ => rfl
theorem pt_eq {b : Nat} {o : Obj} {h : Hp} (hp : pt b o h) : h = at1 b o := funext hp
theorem emp_eq {h : Hp} (hp : emp h) : h = fun _ => none := funext hp
/-- A call that only reads what it owns leaves all that was there. -/
theorem ac_below {P : Program} {f : FuncId} {args : Array Value} {R R0 : HP} {hr h0 : Hp} {v : Value} {w : World} (eR : ∀ h, R h → h = hr) (mR : R hr) (e0 : ∀ h, R0 h → h = h0) (m0 : R0 h0) (hd : Hp.disj hr h0) (sR : hr.sub w) (s0 : h0.sub w)
    (h : AC P f args (stars [R, R0]) (Ret v [R, R0])) : Calls P f args w fun e w' => e = .returned v ∧ Below w.heap.size w w' := by
  have hA : stars [R, R0] (Hp.add hr h0) := by
    refine ⟨hr, h0, hd, rfl, mR, h0, fun _ => none, fun b => .inr rfl, ?_, m0, fun _ => rfl⟩
    exact (Hp.add_none' fun _ => rfl).symm
  have hsub : (Hp.add hr h0).sub w := fun b o hb => by
    simp only [Hp.add] at hb
    cases hrb : hr b with
    | some o' => rw [hrb] at hb; cases hb; exact sR b _ hrb
    | none => rw [hrb] at hb; exact s0 b o hb
  refine (h w _ hA hsub).mono ?_
  rintro e w' ⟨r, rfl, ⟨⟨h', hQ, hsub', _⟩, hrest⟩⟩
  obtain ⟨rfl, h1, h23, hd', rfl, hR1, h2, h3, hd2, rfl, hR2, h3e⟩ := hQ
  obtain rfl := eR _ hR1
  obtain rfl := e0 _ hR2
  refine ⟨rfl, hrest.os, hrest.tape, hrest.output, hrest.size, fun k hk => ?_⟩
  have hk2 : Hp.add h1 (Hp.add h2 h3) k = Hp.add h1 h2 k := by rw [Hp.add_none' h3e]
  cases hb : Hp.add h1 h2 k with
  | none => exact hrest.frame k hk hb
  | some o => rw [hsub' k o (hk2.trans hb), hsub k o hb]
theorem lens_rd {t : TypeId} {fr : Nat × Nat} : Rd (pt 0 (.cells ⟨lensC⟩ t fr)) ⟨0, 0, none⟩ lensC := fun h hp => ⟨⟨lensC⟩, t, fr, by rw [hp]; simp, rfl, fun j v hj => by simpa using hj⟩
/-- A law over values and a list of movements: what its contract gives the row. -/
theorem law_gen {f : FuncId} {xs ys : List Value} {oa : Option Addr} {len cap : Nat} (hac : ∀ (R : HP) (ms : List Mv), ms.length = len → RdS R oa (ms.flatMap Mv.c) → (ms.length : Int) ≤ 9223372036854775807 → (∀ m ∈ ms, m.ok ∧ m.sz) → ms.length ≤ cap → ∀ R0 : HP, Rd R0 ⟨0, 0, none⟩ lensC → AC Tryz.prog f ⟨xs ++ [.slice oa len cap] ++ ys⟩ (stars [R, R0]) (Ret (Bo true) [R, R0]))
    {H : Type} {enc : TypeId × Value → H} {W : World} {held : Bool} {fuel : Nat} {x : DataW H × List MemPlace} (h : DataW.trod enc Tryz.prog W 0 (fun _ => true) held fuel 22 [.slice oa len cap] = some x) (hL : laidMetH Tryz.prog laid1 W) :
    Calls Tryz.prog f ⟨xs ++ [.slice oa len cap] ++ ys⟩ W fun e w' => e = .returned (.bool true) ∧ Below W.heap.size W w' := by
  obtain ⟨t, fr, h0⟩ := of_laid hL
  obtain ⟨ms, rfl, hok, hlen, hcap, hms⟩ := moves_of h
  have s0 : (at1 0 (.cells ⟨lensC⟩ t fr)).sub W := fun b o hb => by
    unfold at1 at hb
    split at hb
    · rename_i hb0; cases hb; rw [hb0]; exact h0
    · cases hb
  rcases hms with rfl | ⟨a, rfl, hcell⟩
  · exact ac_below (R := emp) (hr := fun _ => none) (fun _ => emp_eq) (fun _ => rfl) (fun _ => pt_eq) (pt_at1 _ _) (fun _ => .inl rfl) (fun _ _ hb => by cases hb) s0 (hac emp [] rfl RdS.nil hlen hok hcap _ lens_rd)
  · by_cases hnil : ms = []
    · subst hnil
      exact ac_below (R := emp) (hr := fun _ => none) (fun _ => emp_eq) (fun _ => rfl) (fun _ => pt_eq) (pt_at1 _ _) (fun _ => .inl rfl) (fun _ _ hb => by cases hb) s0 (hac emp [] rfl RdS.nil hlen hok hcap _ lens_rd)
    · obtain ⟨m, ms', rfl⟩ : ∃ m ms', ms = m :: ms' := by
        cases ms with
        | nil => exact absurd rfl hnil
        | cons m ms' => exact ⟨m, ms', rfl⟩
      have c0 := hcell 0 (I m.seq) rfl
      have c2 := hcell 2 (St m.item) rfl
      obtain ⟨blk0, off, spot⟩ := a
      have hspot : spot = none := by
        unfold World.cell? at c0
        split at c0
        · split at c0
          · cases c0
          · rename_i hs; cases spot with
            | none => rfl
            | some s => simp [Addr.add] at hs
        · cases c0
      subst hspot
      obtain ⟨o, ho⟩ : ∃ o, W.heap[blk0]? = some o := by
        unfold World.cell? at c0
        split at c0
        · rename_i c t' fr' hh; exact ⟨_, hh⟩
        · cases c0
      have hb0 : blk0 ≠ 0 := by
        rintro rfl
        rw [h0] at ho
        rw [Addr.add_eq rfl] at c2
        simp only [World.cell?, h0, Option.isSome_none, Bool.false_eq_true, if_false, List.getElem?_toArray] at c2
        have hall : ∀ v ∈ lensC, ∃ n, v = Value.int .i64 n := by
          intro v hv
          obtain ⟨n, _, rfl⟩ := List.mem_map.1 hv
          exact ⟨n, rfl⟩
        obtain ⟨n, hn⟩ := hall _ (List.mem_of_getElem? c2)
        cases hn
      refine ac_below (R := pt blk0 o) (hr := at1 blk0 o) (fun _ => pt_eq) (pt_at1 _ _) (fun _ => pt_eq) (pt_at1 _ _) (fun b => ?_) (fun b o' hb => ?_) s0 (hac (pt blk0 o) _ rfl (Rd.rds ?_) hlen hok hcap _ lens_rd)
      · by_cases e : b = 0
        · left; subst e; simp [at1, Ne.symm hb0]
        · right; simp [at1, e]
      · unfold at1 at hb
        split at hb
        · rename_i e; cases hb; rw [e]; exact ho
        · cases hb
      · intro h hp
        have c0' := c0
        unfold World.cell? at c0'
        rw [show ((⟨blk0, off, none⟩ : Addr).add 0).block = blk0 by rw [Addr.add_eq rfl], ho] at c0'
        match o, ho with
        | .cells cs t' fr', ho =>
          refine ⟨cs, t', fr', by rw [hp]; simp, rfl, fun j v hj => ?_⟩
          have := hcell j v hj
          rw [Addr.add_eq rfl] at this
          simpa only [World.cell?, ho, Option.isSome_none, Bool.false_eq_true, if_false] using this
        | .map es c, ho => cases c0'
theorem law_calls {f : FuncId} (hac : ∀ (k p : Int) (R : HP) (oa : Option Addr) (cap : Nat) (ms : List Mv), RdS R oa (ms.flatMap Mv.c) → (ms.length : Int) ≤ 9223372036854775807 → (∀ m ∈ ms, m.ok) → ms.length ≤ cap → ∀ R0 : HP, Rd R0 ⟨0, 0, none⟩ lensC → AC Tryz.prog f ⟨[I k, I p, .slice oa ms.length cap]⟩ (stars [R, R0]) (Ret (Bo true) [R, R0]))
    {H : Type} {enc : TypeId × Value → H} {W : World} {held : Bool} {fuel : Nat} {oa : Option Addr} {len cap : Nat} {x : DataW H × List MemPlace} (k p : Int) (h : DataW.trod enc Tryz.prog W 0 (fun _ => true) held fuel 22 [.slice oa len cap] = some x) (hL : laidMetH Tryz.prog laid1 W) :
    Calls Tryz.prog f #[I k, I p, .slice oa len cap] W fun e w' => e = .returned (.bool true) ∧ Below W.heap.size W w' :=
  law_gen (xs := [I k, I p]) (ys := []) (fun R ms hl hR hlen hms hcap R0 hR0 => by subst hl; exact hac k p R oa cap ms hR hlen (fun m h => (hms m h).1) hcap R0 hR0) h hL
theorem law_callsS {f : FuncId} (hac : ∀ (k p : Int) (R : HP) (oa : Option Addr) (cap : Nat) (ms : List Mv), RdS R oa (ms.flatMap Mv.c) → (ms.length : Int) ≤ 9223372036854775807 → (∀ m ∈ ms, m.ok ∧ m.sz) → ms.length ≤ cap → ∀ R0 : HP, Rd R0 ⟨0, 0, none⟩ lensC → AC Tryz.prog f ⟨[I k, I p, .slice oa ms.length cap]⟩ (stars [R, R0]) (Ret (Bo true) [R, R0]))
    {H : Type} {enc : TypeId × Value → H} {W : World} {held : Bool} {fuel : Nat} {oa : Option Addr} {len cap : Nat} {x : DataW H × List MemPlace} (k p : Int) (h : DataW.trod enc Tryz.prog W 0 (fun _ => true) held fuel 22 [.slice oa len cap] = some x) (hL : laidMetH Tryz.prog laid1 W) :
    Calls Tryz.prog f #[I k, I p, .slice oa len cap] W fun e w' => e = .returned (.bool true) ∧ Below W.heap.size W w' :=
  law_gen (xs := [I k, I p]) (ys := []) (fun R ms hl hR hlen hms hcap R0 hR0 => by subst hl; exact hac k p R oa cap ms hR hlen hms hcap R0 hR0) h hL
theorem knob0 : ownKnob Tryz.prog.godebug = none := by kernel_rfl
theorem laidOut : laidOutB Tryz.prog = true := by kernel_rfl
theorem door_met (os : Os) (args : Array Value) : laidMetH Tryz.prog laid1 ((World.doorLaid Tryz.prog 400 os).forCall (fun _ _ => 0) ⟨#[], args, []⟩).memory :=
  laidMetH_of_parts3 (fuel := 8) (laidMet_of_run' 8 (by kernel_rfl) (by kernel_rfl)) (by kernel_rfl) (by kernel_rfl)
end Go.Proofs.YtdcchollplhioaaGreatDoor
