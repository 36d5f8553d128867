/- Laws of the walks and of the models, part 6. Merged by program out of: ZP ZO Jo. -/
import Derived.Test.YtcpghpifbgpkjaaGreatDoorA5
import Derived.Test.YtcpghpifbgpkjaaGreatDoorRows
import Derived.Test.YtcpghpifbgpkjaaGreatDoorTie
import Derived.Test.YtcpghpifbgpkjaaGreatDoorCards
import Derived.ProofKit
import Derived.WalkKit
import Derived.LaidMore
import Derived.OpenShut
import Derived.Below
import Derived.ChangeOld
import Derived.SizedLaws
import Derived.Deep.Slices
import Derived.Stop.Joined
set_option linter.unusedVariables false
set_option linter.unusedSimpArgs false
set_option maxRecDepth 20000
set_option maxHeartbeats 4000000
namespace Go.Proofs.YtcpghpifbgpkjaaGreatDoor
open Go Go.SL Go.Proofs
section
attribute [local irreducible] OpJ RunL Run RunD DetJ pt own star Rd RdS EN fillM addMs addErr csOf skOf addC addD kept kept1
-- accountinglaw39.RecostAdjust
theorem ac3z (k p : Int) (R : HP) (oa : Option Addr) (cap : Nat) (ms : List Mv) (hR : RdS R oa (ms.flatMap Mv.c)) (hlen : (ms.length : Int) ≤ 9223372036854775807) (R0 : HP) (hR0 : Rd R0 ⟨0, 0, none⟩ lensC) (h0 : startE k p ≠ 0) : AC Tryz.prog 3 ⟨[.agg ⟨[I k, I p]⟩, .slice oa ms.length cap]⟩ (stars [R, R0]) (Ret (Bo true) [R, R0]) := by
 refine AC.go Tryz.func3 rfl (Nat.le_of_ble_eq_true rfl) fun β => ?_
 refine sr ?_
 refine RunL.op rfl rfl (OpJ.boxA rfl fun b2 => ?_)
 refine asg rfl rfl ?_
 refine kp [1, 2] rfl ?_
 refine sr ?_
 refine sx 4 ?_
 refine RunL.callX nC10 rfl rfl rfl (newZ k p h0) .nil fun _ _ => ?_
 refine sx 5 ?_
 refine kp [1, 5, 6] rfl ?_
 refine Run.seq ?_
 refine sr ?_
 refine mvo rfl rfl ?_
 refine RunL.call nC11 rfl rfl rfl (ac11n R oa cap ms hR hlen) tks ?_
 rcases hl : lightMs ms with _ | _
 refine sx 9 ?_
 refine kp [1, 5, 35] rfl ?_
 refine Run.true rfl ?_
 refine sr ?_
 refine RunL.call nC12 rfl rfl rfl (ac12n R0 hR0) tks ?_
 refine asg rfl rfl ?_
 refine kp [4] rfl ?_
 refine Run.ret ?_
 exact ret_one (.tmp rfl .nil) (rfl) gv
 refine sx 4 ?_
 refine RunL.set (v := Bo true) (congrArg Value.bool (decide_eq_true h0)) ?_
 refine sx 5 ?_
 refine kp [1, 5, 35] rfl ?_
 refine Run.true rfl ?_
 refine sr ?_
 refine RunL.call nC12 rfl rfl rfl (ac12n R0 hR0) tks ?_
 refine asg rfl rfl ?_
 refine kp [4] rfl ?_
 refine Run.ret ?_
 exact ret_one (.tmp rfl .nil) (rfl) gv
-- accountinglaw39.RecostAdjust
theorem ac3y (k p : Int) (R : HP) (oa : Option Addr) (cap : Nat) (ms : List Mv) (hR : RdS R oa (ms.flatMap Mv.c)) (hlen : (ms.length : Int) ≤ 9223372036854775807) (R0 : HP) (hR0 : Rd R0 ⟨0, 0, none⟩ lensC) (h0 : startE k p = 0) : AC Tryz.prog 3 ⟨[.agg ⟨[I k, I p]⟩, .slice oa ms.length cap]⟩ (stars [R, R0]) (Ret (Bo true) [R, R0]) := by
 have hGf := fill_good h0 ms
 have hnf := hGf.n
 have hkl := kept_len hGf
 refine AC.go Tryz.func3 rfl (Nat.le_of_ble_eq_true rfl) fun β => ?_
 refine sr ?_
 refine RunL.op rfl rfl (OpJ.boxA rfl fun b2 => ?_)
 refine asg rfl rfl ?_
 refine kp [1, 2] rfl ?_
 refine sr ?_
 refine sx 4 ?_
 refine RunL.callX nC10 rfl rfl rfl (newY k p h0) .nil fun g _ => ?_
 refine sx 5 ?_
 refine kp [1, 5, 6] rfl ?_
 refine Run.seq ?_
 refine sr ?_
 refine mvo rfl rfl ?_
 refine RunL.call nC11 rfl rfl rfl (ac11n R oa cap ms hR hlen) tks ?_
 rcases hl : lightMs ms with _ | _
 refine sx 9 ?_
 refine kp [1, 5, 35] rfl ?_
 refine Run.true rfl ?_
 refine sr ?_
 refine RunL.call nC12 rfl rfl rfl (ac12n R0 hR0) tks ?_
 refine asg rfl rfl ?_
 refine kp [4] rfl ?_
 refine Run.ret ?_
 exact ret_one (.tmp rfl .nil) (rfl) gv
 refine sx 4 ?_
 refine RunL.set (v := Bo false) (congrArg Value.bool (decide_eq_false (fun h => h h0))) ?_
 refine sx 5 ?_
 refine kp [1, 5, 35] rfl ?_
 refine Run.false rfl ?_
 refine Run.skip ?_
 refine sr ?_
 refine sx 1 ?_
 refine RunL.op rfl rfl (OpJ.buildSlice1 nS33 rfl rfl rfl (by decide) (by decide) nZ32 rfl fun b38 => ?_)
 refine RunL.imp (pt b38 (blk _ 32)) (own 32 4 (some ⟨b38, 0, none⟩) ([] : List Mv).length.succ 1 ((kept k p []).flatMap Co.c)) up (fun h hh => by rw [kept_nil h0]; exact own.of_pt (show pt b38 (blk ([Co0].flatMap Co.c) 32) h from hh) rfl) ?_
 refine asg rfl rfl ?_
 refine kp [1, 5, 7] rfl ?_
 refine Run.seq ?_
 refine sr ?_
 refine asg rfl rfl ?_
 refine kp [1, 5, 7, 8] rfl ?_
 refine Run.block ?_
 refine Run.weak (L' := [EN g k p (fillM k p (ms.take 0)), own 32 4 (some ⟨b38, 0, none⟩) ((fillM k p (ms.take 0)).length + 1) 1 ((kept k p (fillM k p (ms.take 0))).flatMap Co.c), R, R0]) (fun _ _ h => h) (by rw [fillM_0]; exact gv) ?_
 refine Run.loop (fun mm E L => ∃ (i : Nat) (oc : Option Addr) (cc : Nat), mm = ms.length - i ∧ i ≤ ms.length ∧ E = [(1, .slice oa ms.length cap), (5, Pt g), (7, .slice oc ((fillM k p (ms.take i)).length + 1) cc), (8, I i)] ∧ L = [EN g k p (fillM k p (ms.take i)), own 32 4 oc ((fillM k p (ms.take i)).length + 1) cc ((kept k p (fillM k p (ms.take i))).flatMap Co.c), R, R0]) ⟨_, 0, some ⟨b38, 0, none⟩, 1, rfl, Nat.zero_le _, by rw [fillM_0]; rfl, rfl⟩ ?_
 rintro _ _ _ ⟨i, oc, cc, rfl, hi, rfl, rfl⟩
 refine Run.seq ?_
 refine sr ?_
 refine sx 4 ?_
 refine kp [1, 5, 7, 8, 42] rfl ?_
 first | refine Run.if rfl (fun h1 => ?_) (fun h1 => ?_) | refine Run.cond rfl (fun h1 => ?_) (fun h1 => ?_)
 refine Run.skip ?_
 refine Run.seq ?_
 refine Run.block ?_
 refine sr ?_
 obtain ⟨x, hx⟩ := get_ex (xs := ms) (by omega)
 refine RunL.rdOpen pk hR (flat_ne (k := 8) (fun _ => rfl) (by decide) hx) fun b o e hrd => ?_
 subst e
 refine sx 3 ?_
 refine RunL.op rfl rfl (OpJ.loadA inferInstance rfl pk (hrd.elem (fun _ => rfl) hx) rfl ?_)
 refine RunL.op rfl rfl (OpJ.alloc nZ35 fun b9 => ?_)
 refine sx 1 ?_
 refine kp [1, 5, 7, 8, 9] rfl ?_
 refine sr ?_
 have hGi := fill_good h0 (ms.take i)
 have hni := hGi.n
 refine mvo rfl rfl ?_
 refine RunL.call nC13 rfl rfl rfl (enLen g k p (fillM k p (ms.take i))) tks ?_
 refine sx 2 ?_
 refine RunL.op rfl rfl (OpJ.store1 inferInstance rfl rfl rfl up (by show 0 < 8; decide) ?_)
 refine kp [1, 5, 7, 8, 9] rfl ?_
 refine sr ?_
 refine sx 2 ?_
 refine RunL.callX nC14 rfl rfl rfl (enAdd g k p (fillM k p (ms.take i)) { x with seq := ((fillM k p (ms.take i)).length : Int) + 1 } R0 hR0) tks fun ⟨ja, jc⟩ _ => ?_
 by_cases he : addErr k p (fillM k p (ms.take i)) { x with seq := ((fillM k p (ms.take i)).length : Int) + 1 } = 0
 have hDl := addD_len (m := { x with seq := ((fillM k p (ms.take i)).length : Int) + 1 }) hGi
 rw [addMs_ok he]
 refine sx 4 ?_
 refine RunL.op rfl rfl (OpJ.alloc nZ32 fun b10 => ?_)
 refine sx 3 ?_
 refine kp [1, 5, 7, 8, 10, 11, 12] rfl ?_
 refine Run.seq ?_
 refine sr ?_
 refine sx 2 ?_
 refine RunL.set (v := Bo false) (congrArg Value.bool (decide_eq_false (fun h => h he))) ?_
 refine kp [1, 5, 7, 8, 10, 11, 61] rfl ?_
 refine Run.false rfl ?_
 refine Run.skip ?_
 refine Run.seq ?_
 refine sr ?_
 refine asg rfl rfl ?_
 refine kp [1, 5, 7, 8, 10, 11, 13] rfl ?_
 refine Run.block ?_
 refine Run.weak (L' := [EN g k p ((fillM k p (ms.take i)) ++ [{ x with seq := ((fillM k p (ms.take i)).length : Int) + 1 }]), own 32 4 oc ((fillM k p (ms.take i)).length + 1) cc ((kept1 k p (fillM k p (ms.take i)) { x with seq := ((fillM k p (ms.take i)).length : Int) + 1 } 0).flatMap Co.c), own 41 3 ja (addD k p (fillM k p (ms.take i)) { x with seq := ((fillM k p (ms.take i)).length : Int) + 1 }).length jc ((addD k p (fillM k p (ms.take i)) { x with seq := ((fillM k p (ms.take i)).length : Int) + 1 }).flatMap Aj.c), pt b10 (blk (addC k p (fillM k p (ms.take i)) { x with seq := ((fillM k p (ms.take i)).length : Int) + 1 }).c 32), R, R0]) (fun _ _ h => h) (by rw [kept1_0]; exact gv) ?_
 refine Run.loop (fun mm E L => ∃ (q : Nat) (oc : Option Addr) (ja : Option Addr), mm = (addD k p (fillM k p (ms.take i)) { x with seq := ((fillM k p (ms.take i)).length : Int) + 1 }).length - q ∧ q ≤ (addD k p (fillM k p (ms.take i)) { x with seq := ((fillM k p (ms.take i)).length : Int) + 1 }).length ∧ E = [(1, .slice (some ⟨b, o, none⟩) ms.length cap), (5, Pt g), (7, .slice oc ((fillM k p (ms.take i)).length + 1) cc), (8, I i), (10, .pointer (some ⟨b10, 0, none⟩)), (11, .slice ja (addD k p (fillM k p (ms.take i)) { x with seq := ((fillM k p (ms.take i)).length : Int) + 1 }).length jc), (13, I q)] ∧ L = [EN g k p ((fillM k p (ms.take i)) ++ [{ x with seq := ((fillM k p (ms.take i)).length : Int) + 1 }]), own 32 4 oc ((fillM k p (ms.take i)).length + 1) cc ((kept1 k p (fillM k p (ms.take i)) { x with seq := ((fillM k p (ms.take i)).length : Int) + 1 } q).flatMap Co.c), own 41 3 ja (addD k p (fillM k p (ms.take i)) { x with seq := ((fillM k p (ms.take i)).length : Int) + 1 }).length jc ((addD k p (fillM k p (ms.take i)) { x with seq := ((fillM k p (ms.take i)).length : Int) + 1 }).flatMap Aj.c), pt b10 (blk (addC k p (fillM k p (ms.take i)) { x with seq := ((fillM k p (ms.take i)).length : Int) + 1 }).c 32), R, R0]) ⟨_, 0, oc, ja, rfl, Nat.zero_le _, rfl, rfl⟩ ?_
 clear oc ja
 rintro _ _ _ ⟨q, oc, ja, rfl, hq, rfl, rfl⟩
 refine Run.seq ?_
 refine sr ?_
 refine sx 4 ?_
 refine kp [1, 5, 7, 8, 10, 11, 13, 65] rfl ?_
 first | refine Run.if rfl (fun h2 => ?_) (fun h2 => ?_) | refine Run.cond rfl (fun h2 => ?_) (fun h2 => ?_)
 refine Run.skip ?_
 refine Run.seq ?_
 refine Run.block ?_
 refine Run.seq ?_
 refine Run.seq ?_
 refine regionD HM ?_
 obtain ⟨d, hd⟩ := get_ex (xs := (addD k p (fillM k p (ms.take i)) { x with seq := ((fillM k p (ms.take i)).length : Int) + 1 })) (i := q) (by omega)
 have hsr := srt_add (m := { x with seq := ((fillM k p (ms.take i)).length : Int) + 1 }) hGi
 have hd1 := hsr.one d (List.mem_of_getElem? hd)
 obtain ⟨s, hs⟩ : ∃ s : Nat, d.seq = s := ⟨d.seq.toNat, by omega⟩
 refine RunD.ownAddr (T := 41) (k := 3) (oa := ja) (m := (addD k p (fillM k p (ms.take i)) { x with seq := ((fillM k p (ms.take i)).length : Int) + 1 }).length) (cap := jc) (cs := (addD k p (fillM k p (ms.take i)) { x with seq := ((fillM k p (ms.take i)).length : Int) + 1 }).flatMap Aj.c) pk (flat_ne (k := 3) (fun _ => rfl) (by decide) hd) fun bj e hcapj => ?_
 subst e
 obtain ⟨o, ho⟩ := get_ex (xs := (kept1 k p (fillM k p (ms.take i)) { x with seq := ((fillM k p (ms.take i)).length : Int) + 1 } q)) (i := s) (by rw [kept1_len hGi]; omega)
 refine RunD.ownAddr (T := 32) (k := 4) (oa := oc) (m := (fillM k p (ms.take i)).length + 1) (cap := cc) (cs := (kept1 k p (fillM k p (ms.take i)) { x with seq := ((fillM k p (ms.take i)).length : Int) + 1 } q).flatMap Co.c) pk (flat_ne (k := 4) (fun _ => rfl) (by decide) ho) fun bc e hcapc => ?_
 subst e
 refine tk 0 rfl rfl rfl (DetJ.move rfl) ?_
 refine tk 1 rfl rfl rfl (DetJ.move rfl) ?_
 refine tk 2 rfl rfl rfl (DetJ.indexAddr nS37 rfl rfl (by omega)) ?_
 refine tk 3 rfl rfl rfl (DetJ.fieldAddr nF41_0 rfl) ?_
 first | refine RunD.takeF 4 rfl rfl kr nT3 rfl pk (by rfl) ?_ | refine RunD.takeO 4 rfl rfl kr nT3 rfl pk (by assumption) (by rfl) (by exact fun _ => rfl) ?_
 refine tk 5 rfl rfl rfl (DetJ.lss rfl rfl) ?_
 refine RunD.set (v := Bo false) (congrArg Value.bool (decide_eq_false (by omega))) ?_
 refine tk 6 rfl rfl rfl (DetJ.move rfl) ?_
 refine RunD.takeG 7 rfl rfl rfl rfl rfl kr (DetJ.move rfl) .nil ?_
 refine RunD.takeG 8 rfl rfl rfl rfl rfl kr (DetJ.move rfl) .nil ?_
 refine RunD.takeG 9 rfl rfl rfl rfl rfl kr (DetJ.indexAddr nS37 rfl rfl (by omega)) .nil ?_
 refine RunD.takeG 10 rfl rfl rfl rfl rfl kr (DetJ.fieldAddr nF41_0 rfl) .nil ?_
 first | refine RunD.takeGF 11 rfl rfl rfl rfl kr nT3 rfl pk (by rfl) ?_ | refine RunD.takeGO 11 rfl rfl rfl rfl kr nT3 rfl pk (by assumption) (by rfl) (by exact fun _ => rfl) ?_
 refine RunD.takeG 12 rfl rfl rfl rfl rfl kr (DetJ.move rfl) .nil ?_
 refine RunD.takeG 13 rfl rfl rfl rfl rfl kr (DetJ.len nS33 rfl) .nil ?_
 refine RunD.takeG 14 rfl rfl rfl rfl rfl kr (DetJ.geq rfl rfl) .nil ?_
 refine RunD.set (v := Bo false) (congrArg Value.bool (decide_eq_false (by omega))) ?_
 refine tk 15 rfl rfl rfl (DetJ.pickF rfl rfl) ?_
 refine tk 16 rfl rfl rfl (DetJ.move rfl) ?_
 refine RunD.takeG 17 rfl rfl rfl rfl rfl kr (DetJ.move rfl) .nil ?_
 refine RunD.takeG 18 rfl rfl rfl rfl rfl kr (DetJ.gtr rfl rfl) .nil ?_
 rcases Nat.eq_zero_or_pos q with hq0 | hq0
 refine RunD.set (v := Bo false) (congrArg Value.bool (decide_eq_false (by omega))) ?_
 refine RunD.takeG 19 rfl rfl rfl rfl rfl kr (DetJ.move rfl) .nil ?_
 refine RunD.takeN 20 rfl rfl rfl rfl rfl kr ?_
 refine RunD.takeN 21 rfl rfl rfl rfl rfl kr ?_
 refine RunD.takeN 22 rfl rfl rfl rfl rfl kr ?_
 refine RunD.takeN 23 rfl rfl rfl rfl rfl kr ?_
 refine RunD.takeN 24 rfl rfl rfl rfl rfl kr ?_
 refine RunD.takeN 25 rfl rfl rfl rfl rfl kr ?_
 refine RunD.takeN 26 rfl rfl rfl rfl rfl kr ?_
 refine RunD.takeN 27 rfl rfl rfl rfl rfl kr ?_
 refine RunD.takeN 28 rfl rfl rfl rfl rfl kr ?_
 refine RunD.takeN 29 rfl rfl rfl rfl rfl kr ?_
 refine RunD.takeN 30 rfl rfl rfl rfl rfl kr ?_
 refine RunD.takeN 31 rfl rfl rfl rfl rfl kr ?_
 refine RunD.takeG 32 rfl rfl rfl rfl rfl kr (DetJ.pickF rfl rfl) .nil ?_
 refine tk 33 rfl rfl rfl (DetJ.pickF rfl rfl) ?_
 refine tk 34 rfl rfl rfl (DetJ.move rfl) ?_
 refine RunD.takeG 35 rfl rfl rfl rfl rfl kr (DetJ.move rfl) .nil ?_
 refine RunD.takeG 36 rfl rfl rfl rfl rfl kr (DetJ.move rfl) .nil ?_
 refine RunD.takeG 37 rfl rfl rfl rfl rfl kr (DetJ.indexAddr nS37 rfl rfl (by omega)) .nil ?_
 refine RunD.takeG 38 rfl rfl rfl rfl rfl kr (DetJ.fieldAddr nF41_1 rfl) .nil ?_
 first | refine RunD.takeGF 39 rfl rfl rfl rfl kr nT3 rfl pk (by rfl) ?_ | refine RunD.takeGO 39 rfl rfl rfl rfl kr nT3 rfl pk (by assumption) (by rfl) (by exact fun _ => rfl) ?_
 refine RunD.takeG 40 rfl rfl rfl rfl rfl kr (DetJ.eql rfl rfl) .nil ?_
 by_cases hv0 : d.value = 0
 refine RunD.set (v := Bo true) (congrArg Value.bool (decide_eq_true hv0)) ?_
 refine RunD.takeG 41 rfl rfl rfl rfl rfl kr (DetJ.move rfl) .nil ?_
 refine RunD.takeG 42 rfl rfl rfl rfl rfl kr (DetJ.move rfl) .nil ?_
 refine RunD.takeG 43 rfl rfl rfl rfl rfl kr (DetJ.move rfl) .nil ?_
 refine RunD.takeG 44 rfl rfl rfl rfl rfl kr (DetJ.indexAddr nS37 rfl rfl (by omega)) .nil ?_
 refine RunD.takeG 45 rfl rfl rfl rfl rfl kr (DetJ.fieldAddr nF41_2 rfl) .nil ?_
 first | refine RunD.takeGF 46 rfl rfl rfl rfl kr nT3 rfl pk (by rfl) ?_ | refine RunD.takeGO 46 rfl rfl rfl rfl kr nT3 rfl pk (by assumption) (by rfl) (by exact fun _ => rfl) ?_
 refine RunD.takeG 47 rfl rfl rfl rfl rfl kr (DetJ.eql rfl rfl) .nil ?_
 refine RunD.set (v := Bo false) (congrArg Value.bool (decide_eq_false (by omega))) ?_
 refine RunD.takeG 48 rfl rfl rfl rfl rfl kr (DetJ.pickT rfl rfl) .nil ?_
 refine tk 49 rfl rfl rfl (DetJ.pickF rfl rfl) ?_
 refine kd [1, 5, 7, 8, 10, 11, 13, 117] rfl ?_
 refine Run.false rfl ?_
 refine Run.skip ?_
 refine Run.seq ?_
 refine regionD HM ?_
 refine tk 0 rfl rfl rfl (DetJ.move rfl) ?_
 refine tk 1 rfl rfl rfl (DetJ.move rfl) ?_
 refine tk 2 rfl rfl rfl (DetJ.move rfl) ?_
 refine tk 3 rfl rfl rfl (DetJ.indexAddr nS37 rfl rfl (by omega)) ?_
 refine tk 4 rfl rfl rfl (DetJ.fieldAddr nF41_0 rfl) ?_
 first | refine RunD.takeF 5 rfl rfl kr nT3 rfl pk (by rfl) ?_ | refine RunD.takeO 5 rfl rfl kr nT3 rfl pk (by assumption) (by rfl) (by exact fun _ => rfl) ?_
 refine RunD.set (v := I (s : Int)) (congrArg I hs) ?_
 refine tk 6 rfl rfl rfl (DetJ.indexAddr nS33 rfl rfl (by omega)) ?_
 refine tk 7 rfl rfl rfl (DetJ.fieldAddr nF32_2 rfl) ?_
 first | refine RunD.takeF 8 rfl rfl kr nT3 rfl pk (by rfl) ?_ | refine RunD.takeO 8 rfl rfl kr nT3 rfl pk (by assumption) (by rfl) (by exact fun _ => rfl) ?_
 refine tk 9 rfl rfl rfl (DetJ.move rfl) ?_
 refine tk 10 rfl rfl rfl (DetJ.move rfl) ?_
 refine tk 11 rfl rfl rfl (DetJ.indexAddr nS37 rfl rfl (by omega)) ?_
 refine tk 12 rfl rfl rfl (DetJ.fieldAddr nF41_1 rfl) ?_
 first | refine RunD.takeF 13 rfl rfl kr nT3 rfl pk (by rfl) ?_ | refine RunD.takeO 13 rfl rfl kr nT3 rfl pk (by assumption) (by rfl) (by exact fun _ => rfl) ?_
 refine tk 14 rfl rfl rfl (DetJ.add rfl rfl) ?_
 refine tk 15 rfl rfl rfl (DetJ.indexAddr nS33 rfl rfl (by omega)) ?_
 refine tk 16 rfl rfl rfl (DetJ.fieldAddr nF32_2 rfl) ?_
 refine RunD.op 17 [false, false, false, false, false, false, false, false, false, false, false, false, false, false, false, false, false] rfl rfl rfl kr kr (OpJ.storeO (u' := { o with value := IntKind.i64.wrap (o.value + d.value) }) inferInstance rfl rfl rfl ho (fun _ => rfl) (by decide) rfl up ⟨po, ?_⟩)
 refine kd [1, 5, 7, 8, 10, 11, 13] rfl ?_
 refine regionD HM ?_
 have ho2 : ((kept1 k p (fillM k p (ms.take i)) { x with seq := ((fillM k p (ms.take i)).length : Int) + 1 } q).set s { o with value := IntKind.i64.wrap (o.value + d.value) })[s]? = some { o with value := IntKind.i64.wrap (o.value + d.value) } := List.getElem?_set_self (List.getElem?_eq_some_iff.1 ho).1
 refine tk 0 rfl rfl rfl (DetJ.move rfl) ?_
 refine tk 1 rfl rfl rfl (DetJ.move rfl) ?_
 refine tk 2 rfl rfl rfl (DetJ.move rfl) ?_
 refine tk 3 rfl rfl rfl (DetJ.indexAddr nS37 rfl rfl (by omega)) ?_
 refine tk 4 rfl rfl rfl (DetJ.fieldAddr nF41_0 rfl) ?_
 first | refine RunD.takeF 5 rfl rfl kr nT3 rfl pk (by rfl) ?_ | refine RunD.takeO 5 rfl rfl kr nT3 rfl pk (by assumption) (by rfl) (by exact fun _ => rfl) ?_
 refine RunD.set (v := I (s : Int)) (congrArg I hs) ?_
 refine tk 6 rfl rfl rfl (DetJ.indexAddr nS33 rfl rfl (by omega)) ?_
 refine tk 7 rfl rfl rfl (DetJ.fieldAddr nF32_3 rfl) ?_
 first | refine RunD.takeF 8 rfl rfl kr nT3 rfl pk (by rfl) ?_ | refine RunD.takeO 8 rfl rfl kr nT3 rfl pk (by assumption) (by rfl) (by exact fun _ => rfl) ?_
 refine tk 9 rfl rfl rfl (DetJ.move rfl) ?_
 refine tk 10 rfl rfl rfl (DetJ.move rfl) ?_
 refine tk 11 rfl rfl rfl (DetJ.indexAddr nS37 rfl rfl (by omega)) ?_
 refine tk 12 rfl rfl rfl (DetJ.fieldAddr nF41_2 rfl) ?_
 first | refine RunD.takeF 13 rfl rfl kr nT3 rfl pk (by rfl) ?_ | refine RunD.takeO 13 rfl rfl kr nT3 rfl pk (by assumption) (by rfl) (by exact fun _ => rfl) ?_
 refine tk 14 rfl rfl rfl (DetJ.add rfl rfl) ?_
 refine tk 15 rfl rfl rfl (DetJ.indexAddr nS33 rfl rfl (by omega)) ?_
 refine tk 16 rfl rfl rfl (DetJ.fieldAddr nF32_3 rfl) ?_
 refine RunD.op 17 [false, false, false, false, false, false, false, false, false, false, false, false, false, false, false, false, false] rfl rfl rfl kr kr (OpJ.storeO (u' := { o with value := IntKind.i64.wrap (o.value + d.value), var := IntKind.i64.wrap (o.var + d.var) }) inferInstance rfl rfl rfl ho2 (fun _ => rfl) (by decide) rfl up ⟨po, ?_⟩)
 refine kd [1, 5, 7, 8, 10, 11, 13] rfl ?_
 refine Run.region ?_
 refine sx 3 ?_
 rw [show ((s : Int)).toNat = s from rfl, kept1_put hd hs ho]
 exact RunL.next (Keep.sub (kt (ks := [1, 5, 7, 8, 10, 11, 13]) rfl)) _ ⟨_, by omega, q + 1, _, _, rfl, by omega, rfl, rfl⟩ gv
 refine RunD.set (v := Bo false) (congrArg Value.bool (decide_eq_false hv0)) ?_
 refine RunD.takeG 41 rfl rfl rfl rfl rfl kr (DetJ.move rfl) .nil ?_
 refine RunD.takeN 42 rfl rfl rfl rfl rfl kr ?_
 refine RunD.takeN 43 rfl rfl rfl rfl rfl kr ?_
 refine RunD.takeN 44 rfl rfl rfl rfl rfl kr ?_
 refine RunD.takeN 45 rfl rfl rfl rfl rfl kr ?_
 refine RunD.takeN 46 rfl rfl rfl rfl rfl kr ?_
 refine RunD.takeN 47 rfl rfl rfl rfl rfl kr ?_
 refine RunD.takeG 48 rfl rfl rfl rfl rfl kr (DetJ.pickF rfl rfl) .nil ?_
 refine tk 49 rfl rfl rfl (DetJ.pickF rfl rfl) ?_
 refine kd [1, 5, 7, 8, 10, 11, 13, 117] rfl ?_
 refine Run.false rfl ?_
 refine Run.skip ?_
 refine Run.seq ?_
 refine regionD HM ?_
 refine tk 0 rfl rfl rfl (DetJ.move rfl) ?_
 refine tk 1 rfl rfl rfl (DetJ.move rfl) ?_
 refine tk 2 rfl rfl rfl (DetJ.move rfl) ?_
 refine tk 3 rfl rfl rfl (DetJ.indexAddr nS37 rfl rfl (by omega)) ?_
 refine tk 4 rfl rfl rfl (DetJ.fieldAddr nF41_0 rfl) ?_
 first | refine RunD.takeF 5 rfl rfl kr nT3 rfl pk (by rfl) ?_ | refine RunD.takeO 5 rfl rfl kr nT3 rfl pk (by assumption) (by rfl) (by exact fun _ => rfl) ?_
 refine RunD.set (v := I (s : Int)) (congrArg I hs) ?_
 refine tk 6 rfl rfl rfl (DetJ.indexAddr nS33 rfl rfl (by omega)) ?_
 refine tk 7 rfl rfl rfl (DetJ.fieldAddr nF32_2 rfl) ?_
 first | refine RunD.takeF 8 rfl rfl kr nT3 rfl pk (by rfl) ?_ | refine RunD.takeO 8 rfl rfl kr nT3 rfl pk (by assumption) (by rfl) (by exact fun _ => rfl) ?_
 refine tk 9 rfl rfl rfl (DetJ.move rfl) ?_
 refine tk 10 rfl rfl rfl (DetJ.move rfl) ?_
 refine tk 11 rfl rfl rfl (DetJ.indexAddr nS37 rfl rfl (by omega)) ?_
 refine tk 12 rfl rfl rfl (DetJ.fieldAddr nF41_1 rfl) ?_
 first | refine RunD.takeF 13 rfl rfl kr nT3 rfl pk (by rfl) ?_ | refine RunD.takeO 13 rfl rfl kr nT3 rfl pk (by assumption) (by rfl) (by exact fun _ => rfl) ?_
 refine tk 14 rfl rfl rfl (DetJ.add rfl rfl) ?_
 refine tk 15 rfl rfl rfl (DetJ.indexAddr nS33 rfl rfl (by omega)) ?_
 refine tk 16 rfl rfl rfl (DetJ.fieldAddr nF32_2 rfl) ?_
 refine RunD.op 17 [false, false, false, false, false, false, false, false, false, false, false, false, false, false, false, false, false] rfl rfl rfl kr kr (OpJ.storeO (u' := { o with value := IntKind.i64.wrap (o.value + d.value) }) inferInstance rfl rfl rfl ho (fun _ => rfl) (by decide) rfl up ⟨po, ?_⟩)
 refine kd [1, 5, 7, 8, 10, 11, 13] rfl ?_
 refine regionD HM ?_
 have ho2 : ((kept1 k p (fillM k p (ms.take i)) { x with seq := ((fillM k p (ms.take i)).length : Int) + 1 } q).set s { o with value := IntKind.i64.wrap (o.value + d.value) })[s]? = some { o with value := IntKind.i64.wrap (o.value + d.value) } := List.getElem?_set_self (List.getElem?_eq_some_iff.1 ho).1
 refine tk 0 rfl rfl rfl (DetJ.move rfl) ?_
 refine tk 1 rfl rfl rfl (DetJ.move rfl) ?_
 refine tk 2 rfl rfl rfl (DetJ.move rfl) ?_
 refine tk 3 rfl rfl rfl (DetJ.indexAddr nS37 rfl rfl (by omega)) ?_
 refine tk 4 rfl rfl rfl (DetJ.fieldAddr nF41_0 rfl) ?_
 first | refine RunD.takeF 5 rfl rfl kr nT3 rfl pk (by rfl) ?_ | refine RunD.takeO 5 rfl rfl kr nT3 rfl pk (by assumption) (by rfl) (by exact fun _ => rfl) ?_
 refine RunD.set (v := I (s : Int)) (congrArg I hs) ?_
 refine tk 6 rfl rfl rfl (DetJ.indexAddr nS33 rfl rfl (by omega)) ?_
 refine tk 7 rfl rfl rfl (DetJ.fieldAddr nF32_3 rfl) ?_
 first | refine RunD.takeF 8 rfl rfl kr nT3 rfl pk (by rfl) ?_ | refine RunD.takeO 8 rfl rfl kr nT3 rfl pk (by assumption) (by rfl) (by exact fun _ => rfl) ?_
 refine tk 9 rfl rfl rfl (DetJ.move rfl) ?_
 refine tk 10 rfl rfl rfl (DetJ.move rfl) ?_
 refine tk 11 rfl rfl rfl (DetJ.indexAddr nS37 rfl rfl (by omega)) ?_
 refine tk 12 rfl rfl rfl (DetJ.fieldAddr nF41_2 rfl) ?_
 first | refine RunD.takeF 13 rfl rfl kr nT3 rfl pk (by rfl) ?_ | refine RunD.takeO 13 rfl rfl kr nT3 rfl pk (by assumption) (by rfl) (by exact fun _ => rfl) ?_
 refine tk 14 rfl rfl rfl (DetJ.add rfl rfl) ?_
 refine tk 15 rfl rfl rfl (DetJ.indexAddr nS33 rfl rfl (by omega)) ?_
 refine tk 16 rfl rfl rfl (DetJ.fieldAddr nF32_3 rfl) ?_
 refine RunD.op 17 [false, false, false, false, false, false, false, false, false, false, false, false, false, false, false, false, false] rfl rfl rfl kr kr (OpJ.storeO (u' := { o with value := IntKind.i64.wrap (o.value + d.value), var := IntKind.i64.wrap (o.var + d.var) }) inferInstance rfl rfl rfl ho2 (fun _ => rfl) (by decide) rfl up ⟨po, ?_⟩)
 refine kd [1, 5, 7, 8, 10, 11, 13] rfl ?_
 refine Run.region ?_
 refine sx 3 ?_
 rw [show ((s : Int)).toNat = s from rfl, kept1_put hd hs ho]
 exact RunL.next (Keep.sub (kt (ks := [1, 5, 7, 8, 10, 11, 13]) rfl)) _ ⟨_, by omega, q + 1, _, _, rfl, by omega, rfl, rfl⟩ gv
 refine RunD.set (v := Bo true) (congrArg Value.bool (decide_eq_true (by omega))) ?_
 obtain ⟨d0, hd0⟩ := get_ex (xs := (addD k p (fillM k p (ms.take i)) { x with seq := ((fillM k p (ms.take i)).length : Int) + 1 })) (i := q - 1) (by omega)
 have hlt := hsr.prev hd0 (by rw [show q - 1 + 1 = q by omega]; exact hd)
 refine RunD.takeG 19 rfl rfl rfl rfl rfl kr (DetJ.move rfl) .nil ?_
 refine RunD.takeG 20 rfl rfl rfl rfl rfl kr (DetJ.move rfl) .nil ?_
 refine RunD.takeG 21 rfl rfl rfl rfl rfl kr (DetJ.move rfl) .nil ?_
 refine RunD.takeG 22 rfl rfl rfl rfl rfl kr (DetJ.indexAddr nS37 rfl rfl (by omega)) .nil ?_
 refine RunD.takeG 23 rfl rfl rfl rfl rfl kr (DetJ.fieldAddr nF41_0 rfl) .nil ?_
 first | refine RunD.takeGF 24 rfl rfl rfl rfl kr nT3 rfl pk (by rfl) ?_ | refine RunD.takeGO 24 rfl rfl rfl rfl kr nT3 rfl pk (by assumption) (by rfl) (by exact fun _ => rfl) ?_
 refine RunD.takeG 25 rfl rfl rfl rfl rfl kr (DetJ.move rfl) .nil ?_
 refine RunD.takeG 26 rfl rfl rfl rfl rfl kr (DetJ.move rfl) .nil ?_
 refine RunD.takeG 27 rfl rfl rfl rfl rfl kr (DetJ.subI rfl rfl (by omega)) .nil ?_
 refine RunD.set (v := I ((q - 1 : Nat) : Int)) (congrArg I (by omega)) ?_
 refine RunD.takeG 28 rfl rfl rfl rfl rfl kr (DetJ.indexAddr nS37 rfl rfl (by omega)) .nil ?_
 refine RunD.takeG 29 rfl rfl rfl rfl rfl kr (DetJ.fieldAddr nF41_0 rfl) .nil ?_
 first | refine RunD.takeGF 30 rfl rfl rfl rfl kr nT3 rfl pk (by rfl) ?_ | refine RunD.takeGO 30 rfl rfl rfl rfl kr nT3 rfl pk (by assumption) (by rfl) (by exact fun _ => rfl) ?_
 refine RunD.takeG 31 rfl rfl rfl rfl rfl kr (DetJ.leq rfl rfl) .nil ?_
 refine RunD.set (v := Bo false) (congrArg Value.bool (decide_eq_false (by omega))) ?_
 refine RunD.takeG 32 rfl rfl rfl rfl rfl kr (DetJ.pickT rfl rfl) .nil ?_
 refine tk 33 rfl rfl rfl (DetJ.pickF rfl rfl) ?_
 refine tk 34 rfl rfl rfl (DetJ.move rfl) ?_
 refine RunD.takeG 35 rfl rfl rfl rfl rfl kr (DetJ.move rfl) .nil ?_
 refine RunD.takeG 36 rfl rfl rfl rfl rfl kr (DetJ.move rfl) .nil ?_
 refine RunD.takeG 37 rfl rfl rfl rfl rfl kr (DetJ.indexAddr nS37 rfl rfl (by omega)) .nil ?_
 refine RunD.takeG 38 rfl rfl rfl rfl rfl kr (DetJ.fieldAddr nF41_1 rfl) .nil ?_
 first | refine RunD.takeGF 39 rfl rfl rfl rfl kr nT3 rfl pk (by rfl) ?_ | refine RunD.takeGO 39 rfl rfl rfl rfl kr nT3 rfl pk (by assumption) (by rfl) (by exact fun _ => rfl) ?_
 refine RunD.takeG 40 rfl rfl rfl rfl rfl kr (DetJ.eql rfl rfl) .nil ?_
 by_cases hv0 : d.value = 0
 refine RunD.set (v := Bo true) (congrArg Value.bool (decide_eq_true hv0)) ?_
 refine RunD.takeG 41 rfl rfl rfl rfl rfl kr (DetJ.move rfl) .nil ?_
 refine RunD.takeG 42 rfl rfl rfl rfl rfl kr (DetJ.move rfl) .nil ?_
 refine RunD.takeG 43 rfl rfl rfl rfl rfl kr (DetJ.move rfl) .nil ?_
 refine RunD.takeG 44 rfl rfl rfl rfl rfl kr (DetJ.indexAddr nS37 rfl rfl (by omega)) .nil ?_
 refine RunD.takeG 45 rfl rfl rfl rfl rfl kr (DetJ.fieldAddr nF41_2 rfl) .nil ?_
 first | refine RunD.takeGF 46 rfl rfl rfl rfl kr nT3 rfl pk (by rfl) ?_ | refine RunD.takeGO 46 rfl rfl rfl rfl kr nT3 rfl pk (by assumption) (by rfl) (by exact fun _ => rfl) ?_
 refine RunD.takeG 47 rfl rfl rfl rfl rfl kr (DetJ.eql rfl rfl) .nil ?_
 refine RunD.set (v := Bo false) (congrArg Value.bool (decide_eq_false (by omega))) ?_
 refine RunD.takeG 48 rfl rfl rfl rfl rfl kr (DetJ.pickT rfl rfl) .nil ?_
 refine tk 49 rfl rfl rfl (DetJ.pickF rfl rfl) ?_
 refine kd [1, 5, 7, 8, 10, 11, 13, 117] rfl ?_
 refine Run.false rfl ?_
 refine Run.skip ?_
 refine Run.seq ?_
 refine regionD HM ?_
 refine tk 0 rfl rfl rfl (DetJ.move rfl) ?_
 refine tk 1 rfl rfl rfl (DetJ.move rfl) ?_
 refine tk 2 rfl rfl rfl (DetJ.move rfl) ?_
 refine tk 3 rfl rfl rfl (DetJ.indexAddr nS37 rfl rfl (by omega)) ?_
 refine tk 4 rfl rfl rfl (DetJ.fieldAddr nF41_0 rfl) ?_
 first | refine RunD.takeF 5 rfl rfl kr nT3 rfl pk (by rfl) ?_ | refine RunD.takeO 5 rfl rfl kr nT3 rfl pk (by assumption) (by rfl) (by exact fun _ => rfl) ?_
 refine RunD.set (v := I (s : Int)) (congrArg I hs) ?_
 refine tk 6 rfl rfl rfl (DetJ.indexAddr nS33 rfl rfl (by omega)) ?_
 refine tk 7 rfl rfl rfl (DetJ.fieldAddr nF32_2 rfl) ?_
 first | refine RunD.takeF 8 rfl rfl kr nT3 rfl pk (by rfl) ?_ | refine RunD.takeO 8 rfl rfl kr nT3 rfl pk (by assumption) (by rfl) (by exact fun _ => rfl) ?_
 refine tk 9 rfl rfl rfl (DetJ.move rfl) ?_
 refine tk 10 rfl rfl rfl (DetJ.move rfl) ?_
 refine tk 11 rfl rfl rfl (DetJ.indexAddr nS37 rfl rfl (by omega)) ?_
 refine tk 12 rfl rfl rfl (DetJ.fieldAddr nF41_1 rfl) ?_
 first | refine RunD.takeF 13 rfl rfl kr nT3 rfl pk (by rfl) ?_ | refine RunD.takeO 13 rfl rfl kr nT3 rfl pk (by assumption) (by rfl) (by exact fun _ => rfl) ?_
 refine tk 14 rfl rfl rfl (DetJ.add rfl rfl) ?_
 refine tk 15 rfl rfl rfl (DetJ.indexAddr nS33 rfl rfl (by omega)) ?_
 refine tk 16 rfl rfl rfl (DetJ.fieldAddr nF32_2 rfl) ?_
 refine RunD.op 17 [false, false, false, false, false, false, false, false, false, false, false, false, false, false, false, false, false] rfl rfl rfl kr kr (OpJ.storeO (u' := { o with value := IntKind.i64.wrap (o.value + d.value) }) inferInstance rfl rfl rfl ho (fun _ => rfl) (by decide) rfl up ⟨po, ?_⟩)
 refine kd [1, 5, 7, 8, 10, 11, 13] rfl ?_
 refine regionD HM ?_
 have ho2 : ((kept1 k p (fillM k p (ms.take i)) { x with seq := ((fillM k p (ms.take i)).length : Int) + 1 } q).set s { o with value := IntKind.i64.wrap (o.value + d.value) })[s]? = some { o with value := IntKind.i64.wrap (o.value + d.value) } := List.getElem?_set_self (List.getElem?_eq_some_iff.1 ho).1
 refine tk 0 rfl rfl rfl (DetJ.move rfl) ?_
 refine tk 1 rfl rfl rfl (DetJ.move rfl) ?_
 refine tk 2 rfl rfl rfl (DetJ.move rfl) ?_
 refine tk 3 rfl rfl rfl (DetJ.indexAddr nS37 rfl rfl (by omega)) ?_
 refine tk 4 rfl rfl rfl (DetJ.fieldAddr nF41_0 rfl) ?_
 first | refine RunD.takeF 5 rfl rfl kr nT3 rfl pk (by rfl) ?_ | refine RunD.takeO 5 rfl rfl kr nT3 rfl pk (by assumption) (by rfl) (by exact fun _ => rfl) ?_
 refine RunD.set (v := I (s : Int)) (congrArg I hs) ?_
 refine tk 6 rfl rfl rfl (DetJ.indexAddr nS33 rfl rfl (by omega)) ?_
 refine tk 7 rfl rfl rfl (DetJ.fieldAddr nF32_3 rfl) ?_
 first | refine RunD.takeF 8 rfl rfl kr nT3 rfl pk (by rfl) ?_ | refine RunD.takeO 8 rfl rfl kr nT3 rfl pk (by assumption) (by rfl) (by exact fun _ => rfl) ?_
 refine tk 9 rfl rfl rfl (DetJ.move rfl) ?_
 refine tk 10 rfl rfl rfl (DetJ.move rfl) ?_
 refine tk 11 rfl rfl rfl (DetJ.indexAddr nS37 rfl rfl (by omega)) ?_
 refine tk 12 rfl rfl rfl (DetJ.fieldAddr nF41_2 rfl) ?_
 first | refine RunD.takeF 13 rfl rfl kr nT3 rfl pk (by rfl) ?_ | refine RunD.takeO 13 rfl rfl kr nT3 rfl pk (by assumption) (by rfl) (by exact fun _ => rfl) ?_
 refine tk 14 rfl rfl rfl (DetJ.add rfl rfl) ?_
 refine tk 15 rfl rfl rfl (DetJ.indexAddr nS33 rfl rfl (by omega)) ?_
 refine tk 16 rfl rfl rfl (DetJ.fieldAddr nF32_3 rfl) ?_
 refine RunD.op 17 [false, false, false, false, false, false, false, false, false, false, false, false, false, false, false, false, false] rfl rfl rfl kr kr (OpJ.storeO (u' := { o with value := IntKind.i64.wrap (o.value + d.value), var := IntKind.i64.wrap (o.var + d.var) }) inferInstance rfl rfl rfl ho2 (fun _ => rfl) (by decide) rfl up ⟨po, ?_⟩)
 refine kd [1, 5, 7, 8, 10, 11, 13] rfl ?_
 refine Run.region ?_
 refine sx 3 ?_
 rw [show ((s : Int)).toNat = s from rfl, kept1_put hd hs ho]
 exact RunL.next (Keep.sub (kt (ks := [1, 5, 7, 8, 10, 11, 13]) rfl)) _ ⟨_, by omega, q + 1, _, _, rfl, by omega, rfl, rfl⟩ gv
 refine RunD.set (v := Bo false) (congrArg Value.bool (decide_eq_false hv0)) ?_
 refine RunD.takeG 41 rfl rfl rfl rfl rfl kr (DetJ.move rfl) .nil ?_
 refine RunD.takeN 42 rfl rfl rfl rfl rfl kr ?_
 refine RunD.takeN 43 rfl rfl rfl rfl rfl kr ?_
 refine RunD.takeN 44 rfl rfl rfl rfl rfl kr ?_
 refine RunD.takeN 45 rfl rfl rfl rfl rfl kr ?_
 refine RunD.takeN 46 rfl rfl rfl rfl rfl kr ?_
 refine RunD.takeN 47 rfl rfl rfl rfl rfl kr ?_
 refine RunD.takeG 48 rfl rfl rfl rfl rfl kr (DetJ.pickF rfl rfl) .nil ?_
 refine tk 49 rfl rfl rfl (DetJ.pickF rfl rfl) ?_
 refine kd [1, 5, 7, 8, 10, 11, 13, 117] rfl ?_
 refine Run.false rfl ?_
 refine Run.skip ?_
 refine Run.seq ?_
 refine regionD HM ?_
 refine tk 0 rfl rfl rfl (DetJ.move rfl) ?_
 refine tk 1 rfl rfl rfl (DetJ.move rfl) ?_
 refine tk 2 rfl rfl rfl (DetJ.move rfl) ?_
 refine tk 3 rfl rfl rfl (DetJ.indexAddr nS37 rfl rfl (by omega)) ?_
 refine tk 4 rfl rfl rfl (DetJ.fieldAddr nF41_0 rfl) ?_
 first | refine RunD.takeF 5 rfl rfl kr nT3 rfl pk (by rfl) ?_ | refine RunD.takeO 5 rfl rfl kr nT3 rfl pk (by assumption) (by rfl) (by exact fun _ => rfl) ?_
 refine RunD.set (v := I (s : Int)) (congrArg I hs) ?_
 refine tk 6 rfl rfl rfl (DetJ.indexAddr nS33 rfl rfl (by omega)) ?_
 refine tk 7 rfl rfl rfl (DetJ.fieldAddr nF32_2 rfl) ?_
 first | refine RunD.takeF 8 rfl rfl kr nT3 rfl pk (by rfl) ?_ | refine RunD.takeO 8 rfl rfl kr nT3 rfl pk (by assumption) (by rfl) (by exact fun _ => rfl) ?_
 refine tk 9 rfl rfl rfl (DetJ.move rfl) ?_
 refine tk 10 rfl rfl rfl (DetJ.move rfl) ?_
 refine tk 11 rfl rfl rfl (DetJ.indexAddr nS37 rfl rfl (by omega)) ?_
 refine tk 12 rfl rfl rfl (DetJ.fieldAddr nF41_1 rfl) ?_
 first | refine RunD.takeF 13 rfl rfl kr nT3 rfl pk (by rfl) ?_ | refine RunD.takeO 13 rfl rfl kr nT3 rfl pk (by assumption) (by rfl) (by exact fun _ => rfl) ?_
 refine tk 14 rfl rfl rfl (DetJ.add rfl rfl) ?_
 refine tk 15 rfl rfl rfl (DetJ.indexAddr nS33 rfl rfl (by omega)) ?_
 refine tk 16 rfl rfl rfl (DetJ.fieldAddr nF32_2 rfl) ?_
 refine RunD.op 17 [false, false, false, false, false, false, false, false, false, false, false, false, false, false, false, false, false] rfl rfl rfl kr kr (OpJ.storeO (u' := { o with value := IntKind.i64.wrap (o.value + d.value) }) inferInstance rfl rfl rfl ho (fun _ => rfl) (by decide) rfl up ⟨po, ?_⟩)
 refine kd [1, 5, 7, 8, 10, 11, 13] rfl ?_
 refine regionD HM ?_
 have ho2 : ((kept1 k p (fillM k p (ms.take i)) { x with seq := ((fillM k p (ms.take i)).length : Int) + 1 } q).set s { o with value := IntKind.i64.wrap (o.value + d.value) })[s]? = some { o with value := IntKind.i64.wrap (o.value + d.value) } := List.getElem?_set_self (List.getElem?_eq_some_iff.1 ho).1
 refine tk 0 rfl rfl rfl (DetJ.move rfl) ?_
 refine tk 1 rfl rfl rfl (DetJ.move rfl) ?_
 refine tk 2 rfl rfl rfl (DetJ.move rfl) ?_
 refine tk 3 rfl rfl rfl (DetJ.indexAddr nS37 rfl rfl (by omega)) ?_
 refine tk 4 rfl rfl rfl (DetJ.fieldAddr nF41_0 rfl) ?_
 first | refine RunD.takeF 5 rfl rfl kr nT3 rfl pk (by rfl) ?_ | refine RunD.takeO 5 rfl rfl kr nT3 rfl pk (by assumption) (by rfl) (by exact fun _ => rfl) ?_
 refine RunD.set (v := I (s : Int)) (congrArg I hs) ?_
 refine tk 6 rfl rfl rfl (DetJ.indexAddr nS33 rfl rfl (by omega)) ?_
 refine tk 7 rfl rfl rfl (DetJ.fieldAddr nF32_3 rfl) ?_
 first | refine RunD.takeF 8 rfl rfl kr nT3 rfl pk (by rfl) ?_ | refine RunD.takeO 8 rfl rfl kr nT3 rfl pk (by assumption) (by rfl) (by exact fun _ => rfl) ?_
 refine tk 9 rfl rfl rfl (DetJ.move rfl) ?_
 refine tk 10 rfl rfl rfl (DetJ.move rfl) ?_
 refine tk 11 rfl rfl rfl (DetJ.indexAddr nS37 rfl rfl (by omega)) ?_
 refine tk 12 rfl rfl rfl (DetJ.fieldAddr nF41_2 rfl) ?_
 first | refine RunD.takeF 13 rfl rfl kr nT3 rfl pk (by rfl) ?_ | refine RunD.takeO 13 rfl rfl kr nT3 rfl pk (by assumption) (by rfl) (by exact fun _ => rfl) ?_
 refine tk 14 rfl rfl rfl (DetJ.add rfl rfl) ?_
 refine tk 15 rfl rfl rfl (DetJ.indexAddr nS33 rfl rfl (by omega)) ?_
 refine tk 16 rfl rfl rfl (DetJ.fieldAddr nF32_3 rfl) ?_
 refine RunD.op 17 [false, false, false, false, false, false, false, false, false, false, false, false, false, false, false, false, false] rfl rfl rfl kr kr (OpJ.storeO (u' := { o with value := IntKind.i64.wrap (o.value + d.value), var := IntKind.i64.wrap (o.var + d.var) }) inferInstance rfl rfl rfl ho2 (fun _ => rfl) (by decide) rfl up ⟨po, ?_⟩)
 refine kd [1, 5, 7, 8, 10, 11, 13] rfl ?_
 refine Run.region ?_
 refine sx 3 ?_
 rw [show ((s : Int)).toNat = s from rfl, kept1_put hd hs ho]
 exact RunL.next (Keep.sub (kt (ks := [1, 5, 7, 8, 10, 11, 13]) rfl)) _ ⟨_, by omega, q + 1, _, _, rfl, by omega, rfl, rfl⟩ gv
 refine Run.exit ?_
 refine Run.region ?_
 obtain rfl : q = (addD k p (fillM k p (ms.take i)) { x with seq := ((fillM k p (ms.take i)).length : Int) + 1 }).length := by omega
 have hk1 : (kept1 k p (fillM k p (ms.take i)) { x with seq := ((fillM k p (ms.take i)).length : Int) + 1 } (addD k p (fillM k p (ms.take i)) { x with seq := ((fillM k p (ms.take i)).length : Int) + 1 }).length).length = (fillM k p (ms.take i)).length + 1 := kept1_len hGi
 rw [← hk1]
 refine sx 2 ?_
 refine RunL.op rfl rfl (OpJ.buildSlice1 nS33 rfl rfl rfl (by decide) (by decide) nZ32 rfl fun b154 => ?_)
 refine RunL.op rfl rfl (OpJ.append1 (addC k p (fillM k p (ms.take i)) { x with seq := ((fillM k p (ms.take i)).length : Int) + 1 }) nS33 nM32 rfl rfl pk pk rfl rfl (by simp [Value.oneCell', Pa.c, Ly.c, Mv.c, Co.c, Aj.c, Ks.c, Iv]) rfl (by omega) (by omega) fun a155 c155 => ?_)
 refine asg rfl rfl ?_
 refine kp [1, 5, 7, 8] rfl ?_
 refine Run.region ?_
 refine sx 3 ?_
 have hfn := fill_new (k := k) (p := p) hx
 rw [addMs_ok he] at hfn
 have hl2 : (kept k p (fillM k p (ms.take (i + 1)))).length = _ := kept_len (fill_good h0 _)
 rw [kept_fin hGi he, ← hfn, hl2]
 exact RunL.next (Keep.sub (kt (ks := [1, 5, 7, 8]) rfl)) _ ⟨_, by omega, i + 1, a155, c155, rfl, by omega, rfl, rfl⟩ gv
 rw [addMs_no he]
 refine sx 4 ?_
 refine RunL.op rfl rfl (OpJ.alloc nZ32 fun b10 => ?_)
 refine sx 3 ?_
 refine kp [1, 5, 7, 8, 10, 11, 12] rfl ?_
 refine Run.seq ?_
 refine sr ?_
 refine sx 2 ?_
 refine RunL.set (v := Bo true) (congrArg Value.bool (decide_eq_true he)) ?_
 refine kp [1, 5, 7, 8, 10, 11, 61] rfl ?_
 refine Run.true rfl ?_
 refine Run.exit ?_
 refine Run.region ?_
 refine sx 3 ?_
 have hfn := fill_new (k := k) (p := p) hx
 rw [addMs_no he] at hfn
 rw [← hfn]
 exact RunL.next (Keep.sub (kt (ks := [1, 5, 7, 8]) rfl)) _ ⟨_, by omega, i + 1, oc, cc, rfl, by omega, rfl, rfl⟩ gv
 refine Run.exit ?_
 refine Run.seq ?_
 refine sr ?_
 refine asg rfl rfl ?_
 refine kp [5, 7, 14] rfl ?_
 refine Run.block ?_
 have hfin : ms.take i = ms := List.take_of_length_le (by omega)
 rw [hfin]
 refine Run.weak (L' := [EN g k p (fillM k p ms), own 32 4 oc ((fillM k p ms).length + 1) cc ((kept k p (fillM k p ms)).flatMap Co.c), R, R0]) (fun _ _ h => h) gv ?_
 refine Run.loop (fun mm E L => ∃ (i : Nat) (oc : Option Addr), mm = (fillM k p ms).length + 1 - i ∧ 1 ≤ i ∧ i ≤ (fillM k p ms).length + 1 ∧ E = [(5, Pt g), (7, .slice oc ((fillM k p ms).length + 1) cc), (14, I i)] ∧ L = [EN g k p (fillM k p ms), own 32 4 oc ((fillM k p ms).length + 1) cc ((kept k p (fillM k p ms)).flatMap Co.c), R, R0]) ⟨_, 1, oc, rfl, by decide, by omega, rfl, rfl⟩ ?_
 clear hfin
 rintro _ _ _ ⟨i, oc, rfl, h1i, hi, rfl, rfl⟩
 refine Run.seq ?_
 refine sr ?_
 refine sx 4 ?_
 refine kp [5, 7, 14, 159] rfl ?_
 first | refine Run.if rfl (fun h3 => ?_) (fun h3 => ?_) | refine Run.cond rfl (fun h3 => ?_) (fun h3 => ?_)
 refine Run.skip ?_
 refine Run.seq ?_
 refine Run.block ?_
 refine sr ?_
 obtain ⟨c, hc⟩ := get_ex (xs := kept k p (fillM k p ms)) (i := i) (by omega)
 have hcost := kept_at hGf hc h1i
 have hcost1 := congrArg Prod.fst hcost
 have hcost2 := congrArg Prod.snd hcost
 dsimp only at hcost1 hcost2
 refine RunL.ownAddr (T := 32) (k := 4) (oa := oc) (m := (fillM k p ms).length + 1) (cap := cc) (cs := (kept k p (fillM k p ms)).flatMap Co.c) pk (flat_ne (k := 4) (fun _ => rfl) (by decide) hc) fun bc e hcapc => ?_
 subst e
 refine sx 2 ?_
 refine RunL.call nC15 rfl rfl rfl (enCost g k p (fillM k p ms) (i : Int) (by omega)) tks ?_
 rw [hcost1, hcost2]
 refine sx 3 ?_
 refine RunL.op rfl rfl (OpJ.alloc nZ32 fun b15 => ?_)
 refine sx 2 ?_
 refine kp [5, 7, 14, 15, 16] rfl ?_
 refine Run.seq ?_
 refine regionD HM ?_
 refine tk 0 rfl rfl rfl (DetJ.move rfl) ?_
 refine tk 1 rfl rfl rfl (DetJ.not rfl) ?_
 refine tk 2 rfl rfl rfl (DetJ.move rfl) ?_
 first | refine RunD.takeGW 3 rfl rfl rfl rfl kr nT32 rfl pk (by rfl) ?_ | refine RunD.takeGE 3 rfl rfl rfl rfl kr nT32 rfl pk (by assumption) (by exact fun _ => rfl) rfl (by decide) ?_
 refine RunD.takeG 4 rfl rfl rfl rfl rfl kr (DetJ.move rfl) .nil ?_
 refine RunD.takeG 5 rfl rfl rfl rfl rfl kr (DetJ.move rfl) .nil ?_
 refine RunD.takeG 6 rfl rfl rfl rfl rfl kr (DetJ.indexAddr nS33 rfl rfl (by omega)) .nil ?_
 first | refine RunD.takeGW 7 rfl rfl rfl rfl kr nT32 rfl pk (by rfl) ?_ | refine RunD.takeGE 7 rfl rfl rfl rfl kr nT32 rfl pk (by assumption) (by exact fun _ => rfl) rfl (by decide) ?_
 refine RunD.takeG 8 rfl rfl rfl rfl rfl kr (DetJ.neqA nEI32 rfl rfl (by rfl)) .nil ?_
 refine RunD.set (v := Bo false) (congrArg Value.bool (by simp)) ?_
 refine tk 9 rfl rfl rfl (DetJ.pickF rfl rfl) ?_
 refine kd [5, 7, 14, 177] rfl ?_
 refine Run.false rfl ?_
 refine Run.skip ?_
 refine Run.region ?_
 refine sx 3 ?_
 exact RunL.next (Keep.sub (kt (ks := [5, 7, 14]) rfl)) _ ⟨_, by omega, i + 1, _, rfl, by omega, by omega, rfl, rfl⟩ gv
 refine Run.exit ?_
 refine sr ?_
 refine sx 3 ?_
 refine RunL.call nC13 rfl rfl rfl (enLen g k p (fillM k p ms)) tks ?_
 refine sx 2 ?_
 refine RunL.set (v := Bo true) (congrArg Value.bool (decide_eq_true (by omega))) ?_
 refine mvo rfl rfl ?_
 refine RunL.callG nC12 rfl rfl rfl rfl rfl (ac12n R0 hR0) tks ?_
 refine sx 2 ?_
 refine kp [4] rfl ?_
 refine Run.ret ?_
 exact ret_one (.tmp rfl .nil) (rfl) gv
end
theorem ac3n (k p : Int) (R : HP) (oa : Option Addr) (cap : Nat) (ms : List Mv) (hR : RdS R oa (ms.flatMap Mv.c)) (hlen : (ms.length : Int) ≤ 9223372036854775807) (R0 : HP) (hR0 : Rd R0 ⟨0, 0, none⟩ lensC)  : AC Tryz.prog 3 ⟨[.agg ⟨[I k, I p]⟩, .slice oa ms.length cap]⟩ (stars [R, R0]) (Ret (Bo true) [R, R0]) := by
  by_cases h0 : startE k p = 0
  · exact ac3y k p R oa cap ms hR hlen R0 hR0  h0
  · exact ac3z k p R oa cap ms hR hlen R0 hR0  h0
section
attribute [local irreducible] OpJ RunL Run RunD DetJ pt own star Rd RdS EN fillM addMs addErr csOf skOf addC addD kept kept1
end
end Go.Proofs.YtcpghpifbgpkjaaGreatDoor

namespace Go.Proofs.YtcpghpifbgpkjaaGreatDoor
open Go Go.SL Go.Proofs
section
attribute [local irreducible] OpJ RunL Run RunD DetJ pt own star Rd RdS EN fillM addMs addErr csOf skOf addC addD
-- accountinglaw39.RecostAt
theorem ac6z (k p : Int) (R : HP) (oa : Option Addr) (cap : Nat) (ms : List Mv) (hR : RdS R oa (ms.flatMap Mv.c)) (hlen : (ms.length : Int) ≤ 9223372036854775807) (R0 : HP) (hR0 : Rd R0 ⟨0, 0, none⟩ lensC) (from_ to_ : Int) (h0 : startE k p ≠ 0) : AC Tryz.prog 6 ⟨[.agg ⟨[I k, I p]⟩, .slice oa ms.length cap, I from_, I to_]⟩ (stars [R, R0]) (Ret (Bo true) [R, R0]) := by
 refine AC.go Tryz.func6 rfl (Nat.le_of_ble_eq_true rfl) fun β => ?_
 refine sr ?_
 refine RunL.op rfl rfl (OpJ.boxA rfl fun b4 => ?_)
 refine asg rfl rfl ?_
 refine kp [1, 2, 3, 4] rfl ?_
 refine Run.seq ?_
 refine sr ?_
 refine mvo rfl rfl ?_
 refine RunL.call nC11 rfl rfl rfl (ac11n R oa cap ms hR hlen) tks ?_
 rcases hl : lightMs ms with _ | _
 refine sx 6 ?_
 refine kp [1, 2, 3, 4, 28] rfl ?_
 refine Run.true rfl ?_
 refine sr ?_
 refine RunL.call nC12 rfl rfl rfl (ac12n R0 hR0) tks ?_
 refine asg rfl rfl ?_
 refine kp [8] rfl ?_
 refine Run.ret ?_
 exact ret_one (.tmp rfl .nil) (rfl) gv
 refine sx 5 ?_
 by_cases hft : to_ < from_
 refine RunL.set (v := Bo true) (congrArg Value.bool (decide_eq_true hft)) ?_
 refine sx 1 ?_
 refine kp [1, 2, 3, 4, 28] rfl ?_
 refine Run.true rfl ?_
 refine sr ?_
 refine RunL.call nC12 rfl rfl rfl (ac12n R0 hR0) tks ?_
 refine asg rfl rfl ?_
 refine kp [8] rfl ?_
 refine Run.ret ?_
 exact ret_one (.tmp rfl .nil) (rfl) gv
 refine RunL.set (v := Bo false) (congrArg Value.bool (decide_eq_false hft)) ?_
 refine sx 1 ?_
 refine kp [1, 2, 3, 4, 28] rfl ?_
 refine Run.false rfl ?_
 refine Run.skip ?_
 refine sr ?_
 refine sx 2 ?_
 refine RunL.callX nC27 rfl rfl rfl (fillZ k p h0 R oa cap ms hR hlen R0 hR0) tks fun _ _ => ?_
 refine asg rfl rfl ?_
 refine kp [2, 3, 9] rfl ?_
 refine Run.seq ?_
 refine sr ?_
 refine sx 2 ?_
 refine kp [2, 3, 9, 34] rfl ?_
 refine Run.true rfl ?_
 refine sr ?_
 refine RunL.call nC12 rfl rfl rfl (ac12n R0 hR0) tks ?_
 refine asg rfl rfl ?_
 refine kp [8] rfl ?_
 refine Run.ret ?_
 exact ret_one (.tmp rfl .nil) (rfl) gv
-- accountinglaw39.RecostAt
theorem ac6y (k p : Int) (R : HP) (oa : Option Addr) (cap : Nat) (ms : List Mv) (hR : RdS R oa (ms.flatMap Mv.c)) (hlen : (ms.length : Int) ≤ 9223372036854775807) (R0 : HP) (hR0 : Rd R0 ⟨0, 0, none⟩ lensC) (from_ to_ : Int) (h0 : startE k p = 0) : AC Tryz.prog 6 ⟨[.agg ⟨[I k, I p]⟩, .slice oa ms.length cap, I from_, I to_]⟩ (stars [R, R0]) (Ret (Bo true) [R, R0]) := by
 have hG := fill_good h0 ms
 have hn := hG.n
 have hat := at_last hG
 obtain ⟨t0, cs0, hrep⟩ := hG.rep
 have hcl := csOf_len hrep
 refine AC.go Tryz.func6 rfl (Nat.le_of_ble_eq_true rfl) fun β => ?_
 refine sr ?_
 refine RunL.op rfl rfl (OpJ.boxA rfl fun b4 => ?_)
 refine asg rfl rfl ?_
 refine kp [1, 2, 3, 4] rfl ?_
 refine Run.seq ?_
 refine sr ?_
 refine mvo rfl rfl ?_
 refine RunL.call nC11 rfl rfl rfl (ac11n R oa cap ms hR hlen) tks ?_
 rcases hl : lightMs ms with _ | _
 refine sx 6 ?_
 refine kp [1, 2, 3, 4, 28] rfl ?_
 refine Run.true rfl ?_
 refine sr ?_
 refine RunL.call nC12 rfl rfl rfl (ac12n R0 hR0) tks ?_
 refine asg rfl rfl ?_
 refine kp [8] rfl ?_
 refine Run.ret ?_
 exact ret_one (.tmp rfl .nil) (rfl) gv
 refine sx 5 ?_
 by_cases hft : to_ < from_
 refine RunL.set (v := Bo true) (congrArg Value.bool (decide_eq_true hft)) ?_
 refine sx 1 ?_
 refine kp [1, 2, 3, 4, 28] rfl ?_
 refine Run.true rfl ?_
 refine sr ?_
 refine RunL.call nC12 rfl rfl rfl (ac12n R0 hR0) tks ?_
 refine asg rfl rfl ?_
 refine kp [8] rfl ?_
 refine Run.ret ?_
 exact ret_one (.tmp rfl .nil) (rfl) gv
 refine RunL.set (v := Bo false) (congrArg Value.bool (decide_eq_false hft)) ?_
 refine sx 1 ?_
 refine kp [1, 2, 3, 4, 28] rfl ?_
 refine Run.false rfl ?_
 refine Run.skip ?_
 refine sr ?_
 refine sx 2 ?_
 refine RunL.callX nC27 rfl rfl rfl (fillY k p h0 R oa cap ms hR hlen R0 hR0) tks fun g _ => ?_
 refine asg rfl rfl ?_
 refine kp [2, 3, 9] rfl ?_
 refine Run.seq ?_
 refine sr ?_
 refine sx 2 ?_
 refine kp [2, 3, 9, 34] rfl ?_
 refine Run.false rfl ?_
 refine Run.skip ?_
 refine sr ?_
 refine mvo rfl rfl ?_
 refine RunL.call nC20 rfl rfl rfl (enAt g k p (fillM k p ms) 109572) tks ?_
 refine sx 5 ?_
 refine kp [2, 3, 9, 10, 11] rfl ?_
 refine sr ?_
 refine mvo rfl rfl ?_
 refine RunL.callX nC25 rfl rfl rfl (enStock g k p (fillM k p ms)) tks fun ⟨l1, lc1, p1, pc1⟩ _ => ?_
 refine RunL.op rfl rfl (OpJ.alloc nZ61 fun b12 => ?_)
 refine sx 1 ?_
 refine kp [2, 3, 9, 10, 11, 12] rfl ?_
 refine Run.seq ?_
 refine sr ?_
 refine sx 4 ?_
 refine RunL.set (v := Bo false) (congrArg Value.bool (decide_eq_false (by rw [hat.1]; exact fun h => h rfl))) ?_
 refine sx 5 ?_
 refine RunL.set (v := Bo false) (congrArg Value.bool (decide_eq_false (by rw [hat.2]; exact fun h => h rfl))) ?_
 refine sx 1 ?_
 refine kp [2, 3, 9, 52] rfl ?_
 refine Run.false rfl ?_
 refine Run.skip ?_
 refine sr ?_
 refine sx 2 ?_
 refine RunL.call nC20 rfl rfl rfl (enAt g k p (fillM k p ms) from_) tks ?_
 refine sx 5 ?_
 refine kp [2, 3, 9, 13, 14] rfl ?_
 refine sr ?_
 refine sx 2 ?_
 refine RunL.call nC20 rfl rfl rfl (enAt g k p (fillM k p ms) to_) tks ?_
 refine sx 5 ?_
 refine kp [2, 3, 9, 13, 14, 15, 16] rfl ?_
 refine sr ?_
 refine mvo rfl rfl ?_
 refine RunL.callX nC23 rfl rfl rfl (enMoves g k p (fillM k p ms)) tks fun y _ => ?_
 refine asg rfl rfl ?_
 refine kp [2, 3, 9, 13, 14, 15, 16, 17] rfl ?_
 refine Run.seq ?_
 refine sr ?_
 refine asg rfl rfl ?_
 refine kp [2, 3, 9, 13, 14, 15, 16, 17, 18] rfl ?_
 refine Run.block ?_
 refine Run.weak (L' := [own 35 8 (some ⟨y, 0, none⟩) (fillM k p ms).length (fillM k p ms).length ((fillM k p ms).flatMap Mv.c), EN g k p (fillM k p ms), R, R0]) (fun _ _ h => h) gv ?_
 refine Run.loop (fun mm E L => ∃ i : Nat, mm = (fillM k p ms).length - i ∧ i ≤ (fillM k p ms).length ∧ E = [(2, I from_), (3, I to_), (9, Pt g), (13, I (accW (btw from_ to_) Co.qty (atW Co.qty from_ ((fillM k p ms).zip (csOf k p (fillM k p ms)))) (((fillM k p ms).zip (csOf k p (fillM k p ms))).take i))), (14, I (accW (btw from_ to_) Co.value (atW Co.value from_ ((fillM k p ms).zip (csOf k p (fillM k p ms)))) (((fillM k p ms).zip (csOf k p (fillM k p ms))).take i))), (15, I (atW Co.qty to_ ((fillM k p ms).zip (csOf k p (fillM k p ms))))), (16, I (atW Co.value to_ ((fillM k p ms).zip (csOf k p (fillM k p ms))))), (17, .slice (some ⟨y, 0, none⟩) (fillM k p ms).length (fillM k p ms).length), (18, I i)] ∧ L = [own 35 8 (some ⟨y, 0, none⟩) (fillM k p ms).length (fillM k p ms).length ((fillM k p ms).flatMap Mv.c), EN g k p (fillM k p ms), R, R0]) ⟨_, 0, rfl, Nat.zero_le _, rfl, rfl⟩ ?_
 rintro _ _ _ ⟨i, rfl, hi, rfl, rfl⟩
 refine Run.seq ?_
 refine sr ?_
 refine sx 4 ?_
 refine kp [2, 3, 9, 13, 14, 15, 16, 17, 18, 70] rfl ?_
 first | refine Run.if rfl (fun h1 => ?_) (fun h1 => ?_) | refine Run.cond rfl (fun h1 => ?_) (fun h1 => ?_)
 refine Run.skip ?_
 refine Run.seq ?_
 refine Run.block ?_
 refine sr ?_
 obtain ⟨x, hx⟩ := get_ex (xs := (fillM k p ms)) (i := i) (by omega)
 have hsq := seq_of hG.fine hx
 obtain ⟨c, hc⟩ := get_ex (xs := (csOf k p (fillM k p ms))) (i := i) (by omega)
 have hz := zip_get2 hx hc
 have hcost : costAt (csOf k p (fillM k p ms)) x.seq = (c, true) := by rw [hsq]; exact costAt_ok hc
 have hcost1 := congrArg Prod.fst hcost
 have hcost2 := congrArg Prod.snd hcost
 dsimp only at hcost1 hcost2
 refine sx 7 ?_
 by_cases hb1 : from_ < x.value
 refine RunL.set (v := Bo true) (congrArg Value.bool (decide_eq_true hb1)) ?_
 refine sx 8 ?_
 by_cases hb2 : x.value ≤ to_
 refine RunL.set (v := Bo true) (congrArg Value.bool (decide_eq_true hb2)) ?_
 have hb : btw from_ to_ x = true := decide_eq_true ⟨hb1, hb2⟩
 refine sx 1 ?_
 refine kp [2, 3, 9, 13, 14, 15, 16, 17, 18, 88] rfl ?_
 refine Run.true rfl ?_
 refine sr ?_
 refine sx 6 ?_
 refine RunL.call nC15 rfl rfl rfl (enCost g k p (fillM k p ms) x.seq (by omega)) tks ?_
 rw [hcost1, hcost2]
 refine sx 3 ?_
 refine RunL.op rfl rfl (OpJ.alloc nZ32 fun b19 => ?_)
 refine sx 2 ?_
 refine kp [2, 3, 9, 13, 14, 15, 16, 17, 18, 19] rfl ?_
 refine sr ?_
 refine sx 3 ?_
 refine RunL.op rfl rfl (OpJ.add rfl rfl ?_)
 refine asg rfl rfl ?_
 refine kp [2, 3, 9, 13, 14, 15, 16, 17, 18, 19] rfl ?_
 refine Run.region ?_
 refine sx 3 ?_
 refine RunL.op rfl rfl (OpJ.add rfl rfl ?_)
 refine asg rfl rfl ?_
 refine kp [2, 3, 9, 13, 14, 15, 16, 17, 18] rfl ?_
 refine Run.region ?_
 refine sx 3 ?_
 have e1 := accW_succ (q := btw from_ to_) (f := Co.qty) (a := (atW Co.qty from_ ((fillM k p ms).zip (csOf k p (fillM k p ms))))) hz
 have e2 := accW_succ (q := btw from_ to_) (f := Co.value) (a := (atW Co.value from_ ((fillM k p ms).zip (csOf k p (fillM k p ms))))) hz
 rw [if_pos hb] at e1 e2
 rw [← e1, ← e2]
 exact RunL.next (Keep.sub (kt (ks := [2, 3, 9, 13, 14, 15, 16, 17, 18]) rfl)) _ ⟨_, by omega, i + 1, rfl, by omega, rfl, rfl⟩ gv
 refine RunL.set (v := Bo false) (congrArg Value.bool (decide_eq_false hb2)) ?_
 have hb : ¬ btw from_ to_ x = true := by unfold btw; simp; omega
 refine sx 1 ?_
 refine kp [2, 3, 9, 13, 14, 15, 16, 17, 18, 88] rfl ?_
 refine Run.false rfl ?_
 refine Run.skip ?_
 refine Run.region ?_
 refine sx 3 ?_
 have e1 := accW_succ (q := btw from_ to_) (f := Co.qty) (a := (atW Co.qty from_ ((fillM k p ms).zip (csOf k p (fillM k p ms))))) hz
 have e2 := accW_succ (q := btw from_ to_) (f := Co.value) (a := (atW Co.value from_ ((fillM k p ms).zip (csOf k p (fillM k p ms))))) hz
 rw [if_neg hb] at e1 e2
 rw [← e1, ← e2]
 exact RunL.next (Keep.sub (kt (ks := [2, 3, 9, 13, 14, 15, 16, 17, 18]) rfl)) _ ⟨_, by omega, i + 1, rfl, by omega, rfl, rfl⟩ gv
 refine RunL.set (v := Bo false) (congrArg Value.bool (decide_eq_false hb1)) ?_
 have hb : ¬ btw from_ to_ x = true := by unfold btw; simp; omega
 refine sx 9 ?_
 refine kp [2, 3, 9, 13, 14, 15, 16, 17, 18, 88] rfl ?_
 refine Run.false rfl ?_
 refine Run.skip ?_
 refine Run.region ?_
 refine sx 3 ?_
 have e1 := accW_succ (q := btw from_ to_) (f := Co.qty) (a := (atW Co.qty from_ ((fillM k p ms).zip (csOf k p (fillM k p ms))))) hz
 have e2 := accW_succ (q := btw from_ to_) (f := Co.value) (a := (atW Co.value from_ ((fillM k p ms).zip (csOf k p (fillM k p ms))))) hz
 rw [if_neg hb] at e1 e2
 rw [← e1, ← e2]
 exact RunL.next (Keep.sub (kt (ks := [2, 3, 9, 13, 14, 15, 16, 17, 18]) rfl)) _ ⟨_, by omega, i + 1, rfl, by omega, rfl, rfl⟩ gv
 refine Run.exit ?_
 refine sr ?_
 refine sx 3 ?_
 refine RunL.set (v := Bo true) (congrArg Value.bool (decide_eq_true (by rw [List.take_of_length_le (by rw [List.length_zip]; omega)]; exact at_btw (by omega)))) ?_
 refine sx 4 ?_
 refine RunL.set (v := Bo true) (congrArg Value.bool (decide_eq_true (by rw [List.take_of_length_le (by rw [List.length_zip]; omega)]; exact at_btw (by omega)))) ?_
 refine sx 2 ?_
 refine RunL.callG nC12 rfl rfl rfl rfl rfl (ac12n R0 hR0) tks ?_
 refine sx 2 ?_
 refine kp [8] rfl ?_
 refine Run.ret ?_
 exact ret_one (.tmp rfl .nil) (rfl) gv
end
theorem ac6n (k p : Int) (R : HP) (oa : Option Addr) (cap : Nat) (ms : List Mv) (hR : RdS R oa (ms.flatMap Mv.c)) (hlen : (ms.length : Int) ≤ 9223372036854775807) (R0 : HP) (hR0 : Rd R0 ⟨0, 0, none⟩ lensC) (from_ to_ : Int) : AC Tryz.prog 6 ⟨[.agg ⟨[I k, I p]⟩, .slice oa ms.length cap, I from_, I to_]⟩ (stars [R, R0]) (Ret (Bo true) [R, R0]) := by
  by_cases h0 : startE k p = 0
  · exact ac6y k p R oa cap ms hR hlen R0 hR0 from_ to_ h0
  · exact ac6z k p R oa cap ms hR hlen R0 hR0 from_ to_ h0
section
attribute [local irreducible] OpJ RunL Run RunD DetJ pt own star Rd RdS EN fillM addMs addErr csOf skOf addC addD
-- accountinglaw39.RecostReplay
theorem ac9z (k p : Int) (R : HP) (oa : Option Addr) (cap : Nat) (ms : List Mv) (hR : RdS R oa (ms.flatMap Mv.c)) (hlen : (ms.length : Int) ≤ 9223372036854775807) (R0 : HP) (hR0 : Rd R0 ⟨0, 0, none⟩ lensC) (h0 : startE k p ≠ 0) : AC Tryz.prog 9 ⟨[.agg ⟨[I k, I p]⟩, .slice oa ms.length cap]⟩ (stars [R, R0]) (Ret (Bo true) [R, R0]) := by
 refine AC.go Tryz.func9 rfl (Nat.le_of_ble_eq_true rfl) fun β => ?_
 refine sr ?_
 refine RunL.op rfl rfl (OpJ.boxA rfl fun b2 => ?_)
 refine asg rfl rfl ?_
 refine kp [1, 2] rfl ?_
 refine Run.seq ?_
 refine sr ?_
 refine mvo rfl rfl ?_
 refine RunL.call nC11 rfl rfl rfl (ac11n R oa cap ms hR hlen) tks ?_
 rcases hl : lightMs ms with _ | _
 refine RunL.op rfl rfl (OpJ.not rfl ?_)
 refine kp [1, 2, 15] rfl ?_
 refine Run.true rfl ?_
 refine sr ?_
 refine RunL.call nC12 rfl rfl rfl (ac12n R0 hR0) tks ?_
 refine asg rfl rfl ?_
 refine kp [4] rfl ?_
 refine Run.ret ?_
 exact ret_one (.tmp rfl .nil) (rfl) gv
 refine RunL.op rfl rfl (OpJ.not rfl ?_)
 refine kp [1, 2, 15] rfl ?_
 refine Run.false rfl ?_
 refine Run.skip ?_
 refine sr ?_
 refine sx 2 ?_
 refine RunL.callX nC27 rfl rfl rfl (fillZ k p h0 R oa cap ms hR hlen R0 hR0) tks fun _ _ => ?_
 refine asg rfl rfl ?_
 refine kp [2, 5] rfl ?_
 refine Run.seq ?_
 refine sr ?_
 refine sx 2 ?_
 refine kp [2, 5, 21] rfl ?_
 refine Run.true rfl ?_
 refine sr ?_
 refine RunL.call nC12 rfl rfl rfl (ac12n R0 hR0) tks ?_
 refine asg rfl rfl ?_
 refine kp [4] rfl ?_
 refine Run.ret ?_
 exact ret_one (.tmp rfl .nil) (rfl) gv
-- accountinglaw39.RecostReplay
theorem ac9y (k p : Int) (R : HP) (oa : Option Addr) (cap : Nat) (ms : List Mv) (hR : RdS R oa (ms.flatMap Mv.c)) (hlen : (ms.length : Int) ≤ 9223372036854775807) (R0 : HP) (hR0 : Rd R0 ⟨0, 0, none⟩ lensC) (h0 : startE k p = 0) : AC Tryz.prog 9 ⟨[.agg ⟨[I k, I p]⟩, .slice oa ms.length cap]⟩ (stars [R, R0]) (Ret (Bo true) [R, R0]) := by
 have hG := fill_good h0 ms
 have hn := hG.n
 obtain ⟨t0, cs0, hrep⟩ := hG.rep
 have hsk := hG.sk
 rw [skOf_ok hrep] at hsk
 have hcl := runM_len hrep
 rw [ordM_len] at hcl
 have hfl := fill_len (k := k) (p := p) (l := ms)
 refine AC.go Tryz.func9 rfl (Nat.le_of_ble_eq_true rfl) fun β => ?_
 refine sr ?_
 refine RunL.op rfl rfl (OpJ.boxA rfl fun b2 => ?_)
 refine asg rfl rfl ?_
 refine kp [1, 2] rfl ?_
 refine Run.seq ?_
 refine sr ?_
 refine mvo rfl rfl ?_
 refine RunL.call nC11 rfl rfl rfl (ac11n R oa cap ms hR hlen) tks ?_
 rcases hl : lightMs ms with _ | _
 refine RunL.op rfl rfl (OpJ.not rfl ?_)
 refine kp [1, 2, 15] rfl ?_
 refine Run.true rfl ?_
 refine sr ?_
 refine RunL.call nC12 rfl rfl rfl (ac12n R0 hR0) tks ?_
 refine asg rfl rfl ?_
 refine kp [4] rfl ?_
 refine Run.ret ?_
 exact ret_one (.tmp rfl .nil) (rfl) gv
 refine RunL.op rfl rfl (OpJ.not rfl ?_)
 refine kp [1, 2, 15] rfl ?_
 refine Run.false rfl ?_
 refine Run.skip ?_
 refine sr ?_
 refine sx 2 ?_
 refine RunL.callX nC27 rfl rfl rfl (fillY k p h0 R oa cap ms hR hlen R0 hR0) tks fun g _ => ?_
 refine asg rfl rfl ?_
 refine kp [2, 5] rfl ?_
 refine Run.seq ?_
 refine sr ?_
 refine sx 2 ?_
 refine kp [2, 5, 21] rfl ?_
 refine Run.false rfl ?_
 refine Run.skip ?_
 refine Run.seq ?_
 refine regionD HM ?_
 refine RunD.mono (K' := fun E' L' => ∃ l1 : Option Addr, ∃ lc1 : Nat, ∃ p1 : Option Addr, ∃ pc1 : Nat, ∃ ca : Option Addr, ∃ cc : Nat, ∃ b6 : Nat, E' = [(5, Pt g), (6, .pointer (some ⟨b6, 0, none⟩)), (7, .slice ca cs0.length cc), (8, I (-1)), (9, I 0)] ∧ L' = [pt b6 (blk (t0.c l1 lc1 p1 pc1) 61), own 96 4 l1 t0.layers.length lc1 (t0.layers.flatMap Ly.c), own 98 7 p1 t0.past.length pc1 (t0.past.flatMap Pa.c), own 32 4 ca cs0.length cc (cs0.flatMap Co.c), EN g k p (fillM k p ms), R, R0]) ?_ ?_
 refine tk 0 rfl rfl rfl (DetJ.fieldAddr nF23_0 rfl) ?_
 first | refine RunD.takeF 1 rfl rfl kr nT3 rfl pk (by rfl) ?_ | refine RunD.takeO 1 rfl rfl kr nT3 rfl pk (by assumption) (by rfl) (by exact fun _ => rfl) ?_
 refine tk 2 rfl rfl rfl (DetJ.fieldAddr nF23_1 rfl) ?_
 first | refine RunD.takeF 3 rfl rfl kr nT3 rfl pk (by rfl) ?_ | refine RunD.takeO 3 rfl rfl kr nT3 rfl pk (by assumption) (by rfl) (by exact fun _ => rfl) ?_
 refine tk 4 rfl rfl rfl (DetJ.move rfl) ?_
 refine RunD.two 5 13 [false, true, true, true, true] [true, true, true, true, true] rfl rfl rfl rfl rfl rfl kr kr kr (OpJ.callOuts nC23 rfl rfl (enMoves g k p (fillM k p ms)) tks fun y _ => ⟨po, ?_⟩) (OpJ.alloc nZ61 fun b6 => ⟨po, ?_⟩)
 refine RunD.two 6 13 [true, true, true, true] [true, true, true, true] rfl rfl rfl rfl rfl rfl kr kr kr (OpJ.callOuts nC29 rfl rfl (ac29n (own 35 8 (some ⟨y, 0, none⟩) (fillM k p ms).length (fillM k p ms).length ((fillM k p ms).flatMap Mv.c)) (some ⟨y, 0, none⟩) (fillM k p ms).length (fillM k p ms) own.rds hG.fine (by omega)) tks fun ⟨oo, oc⟩ _ => ⟨po, ?_⟩) (OpJ.alloc nZ61 fun b6 => ⟨po, ?_⟩)
 refine RunD.two 7 13 [false, false, false, false] [true, true, true, true] rfl rfl rfl rfl rfl rfl kr kr kr (OpJ.callOuts nC30 rfl rfl (runY k p t0 cs0 (own 35 8 oo (ordM (fillM k p ms)).length oc ((ordM (fillM k p ms)).flatMap Mv.c)) oo oc (ordM (fillM k p ms)) own.rds hrep (by rw [ordM_len]; have := light_len hl; omega) hG.oks R0 hR0) tks fun ⟨l1, lc1, p1, pc1, ca, cc⟩ _ => ⟨po, ?_⟩) (OpJ.alloc nZ61 fun b6 => ⟨po, ?_⟩)
 refine tk 8 rfl rfl rfl (DetJ.move rfl) ?_
 refine tk 9 rfl rfl rfl (DetJ.extract rfl rfl) ?_
 refine tk 10 rfl rfl rfl (DetJ.extract rfl rfl) ?_
 refine tk 11 rfl rfl rfl (DetJ.extract rfl rfl) ?_
 refine tk 12 rfl rfl rfl (DetJ.extract rfl rfl) ?_
 refine RunD.op 13 [true, true, true, true, true] rfl rfl rfl kr kr (OpJ.alloc nZ61 fun b6 => ⟨po, ?_⟩)
 refine RunD.op 14 [true, true, true, false, false] rfl rfl rfl kr kr (OpJ.storeW nT61 rfl rfl rfl rfl (by simp [Value.oneCell', Pa.c, Ly.c, Mv.c, Co.c]) up ⟨po, ?_⟩)
 refine tk 15 rfl rfl rfl (DetJ.assign rfl) ?_
 refine tk 16 rfl rfl rfl (DetJ.assign rfl) ?_
 refine tk 17 rfl rfl rfl (DetJ.assign rfl) ?_
 exact RunD.weak (E' := [(5, Pt g), (6, .pointer (some ⟨b6, 0, none⟩)), (7, .slice ca cs0.length cc), (8, I (-1)), (9, I 0)]) (L' := [pt b6 (blk (t0.c l1 lc1 p1 pc1) 61), own 96 4 l1 t0.layers.length lc1 (t0.layers.flatMap Ly.c), own 98 7 p1 t0.past.length pc1 (t0.past.flatMap Pa.c), own 32 4 ca cs0.length cc (cs0.flatMap Co.c), EN g k p (fillM k p ms), R, R0]) (Keep.sub (kt (ks := [5, 6, 7, 8, 9]) rfl)) gv (RunD.done kr ⟨_, _, _, _, _, _, _, rfl, rfl⟩)
 refine RunD.op 7 [false, false, false, false] rfl rfl rfl kr kr (OpJ.callOuts nC30 rfl rfl (runY k p t0 cs0 (own 35 8 oo (ordM (fillM k p ms)).length oc ((ordM (fillM k p ms)).flatMap Mv.c)) oo oc (ordM (fillM k p ms)) own.rds hrep (by rw [ordM_len]; have := light_len hl; omega) hG.oks R0 hR0) tks fun ⟨l1, lc1, p1, pc1, ca, cc⟩ _ => ⟨po, ?_⟩)
 refine tk 8 rfl rfl rfl (DetJ.move rfl) ?_
 refine tk 9 rfl rfl rfl (DetJ.extract rfl rfl) ?_
 refine tk 10 rfl rfl rfl (DetJ.extract rfl rfl) ?_
 refine tk 11 rfl rfl rfl (DetJ.extract rfl rfl) ?_
 refine tk 12 rfl rfl rfl (DetJ.extract rfl rfl) ?_
 refine RunD.op 14 [true, true, true, false, false] rfl rfl rfl kr kr (OpJ.storeW nT61 rfl rfl rfl rfl (by simp [Value.oneCell', Pa.c, Ly.c, Mv.c, Co.c]) up ⟨po, ?_⟩)
 refine tk 15 rfl rfl rfl (DetJ.assign rfl) ?_
 refine tk 16 rfl rfl rfl (DetJ.assign rfl) ?_
 refine tk 17 rfl rfl rfl (DetJ.assign rfl) ?_
 exact RunD.weak (E' := [(5, Pt g), (6, .pointer (some ⟨b6, 0, none⟩)), (7, .slice ca cs0.length cc), (8, I (-1)), (9, I 0)]) (L' := [pt b6 (blk (t0.c l1 lc1 p1 pc1) 61), own 96 4 l1 t0.layers.length lc1 (t0.layers.flatMap Ly.c), own 98 7 p1 t0.past.length pc1 (t0.past.flatMap Pa.c), own 32 4 ca cs0.length cc (cs0.flatMap Co.c), EN g k p (fillM k p ms), R, R0]) (Keep.sub (kt (ks := [5, 6, 7, 8, 9]) rfl)) gv (RunD.done kr ⟨_, _, _, _, _, _, _, rfl, rfl⟩)
 refine RunD.op 6 [true, true, true, true] rfl rfl rfl kr kr (OpJ.callOuts nC29 rfl rfl (ac29n (own 35 8 (some ⟨y, 0, none⟩) (fillM k p ms).length (fillM k p ms).length ((fillM k p ms).flatMap Mv.c)) (some ⟨y, 0, none⟩) (fillM k p ms).length (fillM k p ms) own.rds hG.fine (by omega)) tks fun ⟨oo, oc⟩ _ => ⟨po, ?_⟩)
 refine RunD.op 7 [false, false, false, false] rfl rfl rfl kr kr (OpJ.callOuts nC30 rfl rfl (runY k p t0 cs0 (own 35 8 oo (ordM (fillM k p ms)).length oc ((ordM (fillM k p ms)).flatMap Mv.c)) oo oc (ordM (fillM k p ms)) own.rds hrep (by rw [ordM_len]; have := light_len hl; omega) hG.oks R0 hR0) tks fun ⟨l1, lc1, p1, pc1, ca, cc⟩ _ => ⟨po, ?_⟩)
 refine tk 8 rfl rfl rfl (DetJ.move rfl) ?_
 refine tk 9 rfl rfl rfl (DetJ.extract rfl rfl) ?_
 refine tk 10 rfl rfl rfl (DetJ.extract rfl rfl) ?_
 refine tk 11 rfl rfl rfl (DetJ.extract rfl rfl) ?_
 refine tk 12 rfl rfl rfl (DetJ.extract rfl rfl) ?_
 refine RunD.op 14 [true, true, true, false, false] rfl rfl rfl kr kr (OpJ.storeW nT61 rfl rfl rfl rfl (by simp [Value.oneCell', Pa.c, Ly.c, Mv.c, Co.c]) up ⟨po, ?_⟩)
 refine tk 15 rfl rfl rfl (DetJ.assign rfl) ?_
 refine tk 16 rfl rfl rfl (DetJ.assign rfl) ?_
 refine tk 17 rfl rfl rfl (DetJ.assign rfl) ?_
 exact RunD.weak (E' := [(5, Pt g), (6, .pointer (some ⟨b6, 0, none⟩)), (7, .slice ca cs0.length cc), (8, I (-1)), (9, I 0)]) (L' := [pt b6 (blk (t0.c l1 lc1 p1 pc1) 61), own 96 4 l1 t0.layers.length lc1 (t0.layers.flatMap Ly.c), own 98 7 p1 t0.past.length pc1 (t0.past.flatMap Pa.c), own 32 4 ca cs0.length cc (cs0.flatMap Co.c), EN g k p (fillM k p ms), R, R0]) (Keep.sub (kt (ks := [5, 6, 7, 8, 9]) rfl)) gv (RunD.done kr ⟨_, _, _, _, _, _, _, rfl, rfl⟩)
 refine RunD.op 5 [false, true, true, true, true] rfl rfl rfl kr kr (OpJ.callOuts nC23 rfl rfl (enMoves g k p (fillM k p ms)) tks fun y _ => ⟨po, ?_⟩)
 refine RunD.op 6 [true, true, true, true] rfl rfl rfl kr kr (OpJ.callOuts nC29 rfl rfl (ac29n (own 35 8 (some ⟨y, 0, none⟩) (fillM k p ms).length (fillM k p ms).length ((fillM k p ms).flatMap Mv.c)) (some ⟨y, 0, none⟩) (fillM k p ms).length (fillM k p ms) own.rds hG.fine (by omega)) tks fun ⟨oo, oc⟩ _ => ⟨po, ?_⟩)
 refine RunD.op 7 [false, false, false, false] rfl rfl rfl kr kr (OpJ.callOuts nC30 rfl rfl (runY k p t0 cs0 (own 35 8 oo (ordM (fillM k p ms)).length oc ((ordM (fillM k p ms)).flatMap Mv.c)) oo oc (ordM (fillM k p ms)) own.rds hrep (by rw [ordM_len]; have := light_len hl; omega) hG.oks R0 hR0) tks fun ⟨l1, lc1, p1, pc1, ca, cc⟩ _ => ⟨po, ?_⟩)
 refine tk 8 rfl rfl rfl (DetJ.move rfl) ?_
 refine tk 9 rfl rfl rfl (DetJ.extract rfl rfl) ?_
 refine tk 10 rfl rfl rfl (DetJ.extract rfl rfl) ?_
 refine tk 11 rfl rfl rfl (DetJ.extract rfl rfl) ?_
 refine tk 12 rfl rfl rfl (DetJ.extract rfl rfl) ?_
 refine RunD.op 14 [true, true, true, false, false] rfl rfl rfl kr kr (OpJ.storeW nT61 rfl rfl rfl rfl (by simp [Value.oneCell', Pa.c, Ly.c, Mv.c, Co.c]) up ⟨po, ?_⟩)
 refine tk 15 rfl rfl rfl (DetJ.assign rfl) ?_
 refine tk 16 rfl rfl rfl (DetJ.assign rfl) ?_
 refine tk 17 rfl rfl rfl (DetJ.assign rfl) ?_
 exact RunD.weak (E' := [(5, Pt g), (6, .pointer (some ⟨b6, 0, none⟩)), (7, .slice ca cs0.length cc), (8, I (-1)), (9, I 0)]) (L' := [pt b6 (blk (t0.c l1 lc1 p1 pc1) 61), own 96 4 l1 t0.layers.length lc1 (t0.layers.flatMap Ly.c), own 98 7 p1 t0.past.length pc1 (t0.past.flatMap Pa.c), own 32 4 ca cs0.length cc (cs0.flatMap Co.c), EN g k p (fillM k p ms), R, R0]) (Keep.sub (kt (ks := [5, 6, 7, 8, 9]) rfl)) gv (RunD.done kr ⟨_, _, _, _, _, _, _, rfl, rfl⟩)
 rintro _ _ ⟨l1, lc1, p1, pc1, ca, cc, b6, rfl, rfl⟩
 refine Run.seq ?_
 refine Run.seq ?_
 refine regionD HM ?_
 refine tk 0 rfl rfl rfl (DetJ.move rfl) ?_
 refine tk 1 rfl rfl rfl (DetJ.neq rfl rfl) ?_
 refine RunD.set (v := Bo false) (congrArg Value.bool (decide_eq_false (fun h => h rfl))) ?_
 refine tk 2 rfl rfl rfl (DetJ.move rfl) ?_
 refine RunD.takeG 3 rfl rfl rfl rfl rfl kr (DetJ.move rfl) .nil ?_
 refine RunD.takeG 4 rfl rfl rfl rfl rfl kr (DetJ.neq rfl rfl) .nil ?_
 refine RunD.set (v := Bo false) (congrArg Value.bool (decide_eq_false (fun h => h rfl))) ?_
 refine tk 5 rfl rfl rfl (DetJ.pickF rfl rfl) ?_
 refine tk 6 rfl rfl rfl (DetJ.move rfl) ?_
 refine RunD.takeG 7 rfl rfl rfl rfl rfl kr (DetJ.move rfl) .nil ?_
 refine RunD.takeG 8 rfl rfl rfl rfl rfl kr (DetJ.len nS33 rfl) .nil ?_
 refine RunD.takeG 9 rfl rfl rfl rfl rfl kr (DetJ.move rfl) .nil ?_
 refine RunD.opG 10 [false, true, true, false, false, false, true, false, false, true] rfl rfl rfl rfl rfl kr kr (OpJ.callRet nC13 rfl rfl (enLen g k p (fillM k p ms)) tks ⟨po, ?_⟩)
 refine RunD.takeG 11 rfl rfl rfl rfl rfl kr (DetJ.neq rfl rfl) .nil ?_
 refine RunD.set (v := Bo false) (congrArg Value.bool (decide_eq_false (by omega))) ?_
 refine tk 12 rfl rfl rfl (DetJ.pickF rfl rfl) ?_
 refine tk 13 rfl rfl rfl (DetJ.move rfl) ?_
 first | refine RunD.takeGW 14 rfl rfl rfl rfl kr nT61 rfl pk (by rfl) ?_ | refine RunD.takeGE 14 rfl rfl rfl rfl kr nT61 rfl pk (by assumption) (by exact fun _ => rfl) rfl (by decide) ?_
 refine RunD.takeG 15 rfl rfl rfl rfl rfl kr (DetJ.move rfl) .nil ?_
 refine RunD.opG 16 [false, true, false, false, false, true, true, true, true] rfl rfl rfl rfl rfl kr kr (OpJ.callOuts nC25 rfl rfl (enStock g k p (fillM k p ms)) tks fun ⟨l2, lc2, p2, pc2⟩ _ => ⟨po, ?_⟩)
 rw [skOf_ok hrep]
 refine RunD.opG 17 [false, true, true, true, true] rfl rfl rfl rfl rfl kr kr (OpJ.callRet nC24 rfl rfl (ac17 t0 l1 lc1 p1 pc1 l2 lc2 p2 pc2 _ _ _ _ own.rds own.rds own.rds own.rds hsk) tks ⟨po, ?_⟩)
 refine RunD.takeG 18 rfl rfl rfl rfl rfl kr (DetJ.not rfl) .nil ?_
 refine tk 19 rfl rfl rfl (DetJ.pickF rfl rfl) ?_
 refine kd [5, 7, 55] rfl ?_
 refine Run.false rfl ?_
 refine Run.skip ?_
 refine Run.seq ?_
 refine sr ?_
 refine asg rfl rfl ?_
 refine kp [5, 7, 10] rfl ?_
 refine Run.block ?_
 refine Run.weak (L' := [own 32 4 ca cs0.length cc (cs0.flatMap Co.c), EN g k p (fillM k p ms), R, R0]) (fun _ _ h => h) gv ?_
 refine Run.loop (fun mm E L => ∃ i : Nat, mm = cs0.length - i ∧ i ≤ cs0.length ∧ E = [(5, Pt g), (7, .slice ca cs0.length cc), (10, I i)] ∧ L = [own 32 4 ca cs0.length cc (cs0.flatMap Co.c), EN g k p (fillM k p ms), R, R0]) ⟨_, 0, rfl, Nat.zero_le _, rfl, rfl⟩ ?_
 rintro _ _ _ ⟨i, rfl, hi, rfl, rfl⟩
 refine Run.seq ?_
 refine sr ?_
 refine sx 4 ?_
 refine kp [5, 7, 10, 59] rfl ?_
 first | refine Run.if rfl (fun h1 => ?_) (fun h1 => ?_) | refine Run.cond rfl (fun h1 => ?_) (fun h1 => ?_)
 refine Run.skip ?_
 refine Run.seq ?_
 refine Run.block ?_
 refine sr ?_
 obtain ⟨c, hc⟩ := get_ex (xs := cs0) (i := i) (by omega)
 have hcost := cost_rep hG.fine hrep hc
 have hcost1 := congrArg Prod.fst hcost
 have hcost2 := congrArg Prod.snd hcost
 dsimp only at hcost1 hcost2
 refine RunL.ownAddr pk (flat_ne (k := 4) (fun _ => rfl) (by decide) hc) fun bc e hcapbc => ?_
 subst e
 refine sx 6 ?_
 refine RunL.call nC15 rfl rfl rfl (enCost g k p (fillM k p ms) c.seq (by have := cost_seq hG.fine hrep hc; omega)) tks ?_
 rw [hcost1, hcost2]
 refine sx 3 ?_
 refine RunL.op rfl rfl (OpJ.alloc nZ32 fun b11 => ?_)
 refine sx 2 ?_
 refine kp [5, 7, 10, 11, 12] rfl ?_
 refine Run.seq ?_
 refine regionD HM ?_
 refine tk 0 rfl rfl rfl (DetJ.move rfl) ?_
 refine tk 1 rfl rfl rfl (DetJ.not rfl) ?_
 refine tk 2 rfl rfl rfl (DetJ.move rfl) ?_
 first | refine RunD.takeGW 3 rfl rfl rfl rfl kr nT32 rfl pk (by rfl) ?_ | refine RunD.takeGE 3 rfl rfl rfl rfl kr nT32 rfl pk (by assumption) (by exact fun _ => rfl) rfl (by decide) ?_
 refine RunD.takeG 4 rfl rfl rfl rfl rfl kr (DetJ.move rfl) .nil ?_
 refine RunD.takeG 5 rfl rfl rfl rfl rfl kr (DetJ.move rfl) .nil ?_
 refine RunD.takeG 6 rfl rfl rfl rfl rfl kr (DetJ.indexAddr nS33 rfl rfl (by omega)) .nil ?_
 first | refine RunD.takeGW 7 rfl rfl rfl rfl kr nT32 rfl pk (by rfl) ?_ | refine RunD.takeGE 7 rfl rfl rfl rfl kr nT32 rfl pk (by assumption) (by exact fun _ => rfl) rfl (by decide) ?_
 refine RunD.takeG 8 rfl rfl rfl rfl rfl kr (DetJ.neqA nEI32 rfl rfl (by rfl)) .nil ?_
 refine RunD.set (v := Bo false) (congrArg Value.bool (by simp)) ?_
 refine tk 9 rfl rfl rfl (DetJ.pickF rfl rfl) ?_
 refine kd [5, 7, 10, 81] rfl ?_
 refine Run.false rfl ?_
 refine Run.skip ?_
 refine Run.region ?_
 refine sx 3 ?_
 exact RunL.next (Keep.sub (kt (ks := [5, 7, 10]) rfl)) _ ⟨_, by omega, i + 1, rfl, by omega, rfl, rfl⟩ gv
 refine Run.exit ?_
 refine sr ?_
 refine RunL.call nC12 rfl rfl rfl (ac12n R0 hR0) tks ?_
 refine asg rfl rfl ?_
 refine kp [4] rfl ?_
 refine Run.ret ?_
 exact ret_one (.tmp rfl .nil) (rfl) gv
end
theorem ac9n (k p : Int) (R : HP) (oa : Option Addr) (cap : Nat) (ms : List Mv) (hR : RdS R oa (ms.flatMap Mv.c)) (hlen : (ms.length : Int) ≤ 9223372036854775807) (R0 : HP) (hR0 : Rd R0 ⟨0, 0, none⟩ lensC)  : AC Tryz.prog 9 ⟨[.agg ⟨[I k, I p]⟩, .slice oa ms.length cap]⟩ (stars [R, R0]) (Ret (Bo true) [R, R0]) := by
  by_cases h0 : startE k p = 0
  · exact ac9y k p R oa cap ms hR hlen R0 hR0  h0
  · exact ac9z k p R oa cap ms hR hlen R0 hR0  h0
section
attribute [local irreducible] OpJ RunL Run RunD DetJ pt own star Rd RdS EN fillM addMs addErr csOf skOf addC addD
end
end Go.Proofs.YtcpghpifbgpkjaaGreatDoor

namespace Go.Proofs.YtcpghpifbgpkjaaGreatDoor
open Go Go.SL Go.ChangeShapes Go.WideShapes Go.ChangeAt Go.WideElems Go.RowKit Go.Deep
section
variable {H : Type} {enc : TypeId × Value → H} {W : World} {sp : Nat → Bool} {held : Bool}
theorem cof3 : Tryz.prog.cellsOf 3 = 1 := by kernel_rfl
theorem cof9 : Tryz.prog.cellsOf 9 = 1 := by kernel_rfl
theorem cof35 : Tryz.prog.cellsOf 35 = 8 := by kernel_rfl
theorem i64_of {n : Int} (h : (Lit.int .i64 n).wf = true) : i64 n := by
  have h1 : IntKind.i64.min = -9223372036854775808 := by rfl
  have h2 : IntKind.i64.max = 9223372036854775807 := by rfl
  simp only [Lit.wf, Bool.and_eq_true, decide_eq_true_eq] at h
  rw [h1, h2] at h
  exact h
theorem int_at {fuel : Nat} {cs : List Value} {x : DataW H × List MemPlace} (h : DataW.trod enc Tryz.prog W 0 sp held fuel 3 cs = some x) : ∃ n, cs = [I n] ∧ i64 n := by
  obtain ⟨n, h1, _, h2⟩ := DataW.trod_int Tryz.underlying3 h
  exact ⟨n, h1, i64_of h2⟩
theorem str_at {fuel : Nat} {cs : List Value} {x : DataW H × List MemPlace} (h : DataW.trod enc Tryz.prog W 0 sp held fuel 9 cs = some x) : ∃ s, cs = [St s] ∧ (s.size : Int) ≤ 9223372036854775807 := by
  obtain ⟨s, h1, _, hs⟩ := DataW.trod_string Tryz.underlying9 h
  have hmax : (maxLen : Nat) ≤ 9223372036854775807 := by decide
  exact ⟨s, h1, by omega⟩
/-- The sizes of a movement's strings. -/
def _root_.Go.SL.Mv.sz (m : Mv) : Prop := (m.item.size : Int) ≤ 9223372036854775807 ∧ (m.lot.size : Int) ≤ 9223372036854775807
theorem mv_of {fuel : Nat} {cs : List Value} {x : DataW H × List MemPlace} (h : DataW.trod enc Tryz.prog W 0 sp held fuel 35 cs = some x) : ∃ m : Mv, cs = m.c ∧ m.ok ∧ m.sz := by
  obtain ⟨xs, n, _, _, hl, hxl, hf⟩ := DataW.trod_struct Tryz.underlying35 h
  rw [cof35] at hl
  have hsz : xs.length = 8 := hxl
  have get : ∀ i, i < 8 → ∃ y, xs[i]? = some y := fun i hi => ⟨_, List.getElem?_eq_getElem (by omega)⟩
  have f0 : DataW.trod enc Tryz.prog W 0 sp held n 3 ((cs.drop 0).take (Tryz.prog.cellsOf 3)) = xs[0]? := hf 0 _ rfl
  have f1 : DataW.trod enc Tryz.prog W 0 sp held n 3 ((cs.drop 1).take (Tryz.prog.cellsOf 3)) = xs[1]? := hf 1 _ rfl
  have f2 : DataW.trod enc Tryz.prog W 0 sp held n 9 ((cs.drop 2).take (Tryz.prog.cellsOf 9)) = xs[2]? := hf 2 _ rfl
  have f3 : DataW.trod enc Tryz.prog W 0 sp held n 3 ((cs.drop 3).take (Tryz.prog.cellsOf 3)) = xs[3]? := hf 3 _ rfl
  have f4 : DataW.trod enc Tryz.prog W 0 sp held n 3 ((cs.drop 4).take (Tryz.prog.cellsOf 3)) = xs[4]? := hf 4 _ rfl
  have f5 : DataW.trod enc Tryz.prog W 0 sp held n 3 ((cs.drop 5).take (Tryz.prog.cellsOf 3)) = xs[5]? := hf 5 _ rfl
  have f6 : DataW.trod enc Tryz.prog W 0 sp held n 9 ((cs.drop 6).take (Tryz.prog.cellsOf 9)) = xs[6]? := hf 6 _ rfl
  have f7 : DataW.trod enc Tryz.prog W 0 sp held n 3 ((cs.drop 7).take (Tryz.prog.cellsOf 3)) = xs[7]? := hf 7 _ rfl
  rw [cof3] at f0 f1 f3 f4 f5 f7
  rw [cof9] at f2 f6
  obtain ⟨y0, e0⟩ := get 0 (by decide); obtain ⟨y1, e1⟩ := get 1 (by decide); obtain ⟨y2, e2⟩ := get 2 (by decide); obtain ⟨y3, e3⟩ := get 3 (by decide)
  obtain ⟨y4, e4⟩ := get 4 (by decide); obtain ⟨y5, e5⟩ := get 5 (by decide); obtain ⟨y6, e6⟩ := get 6 (by decide); obtain ⟨y7, e7⟩ := get 7 (by decide)
  obtain ⟨n0, h0, _⟩ := int_at (f0.trans e0); obtain ⟨n1, h1, _⟩ := int_at (f1.trans e1); obtain ⟨s2, h2, z2⟩ := str_at (f2.trans e2); obtain ⟨n3, h3, _⟩ := int_at (f3.trans e3)
  obtain ⟨n4, h4, w4⟩ := int_at (f4.trans e4); obtain ⟨n5, h5, w5⟩ := int_at (f5.trans e5); obtain ⟨s6, h6, z6⟩ := str_at (f6.trans e6); obtain ⟨n7, h7, _⟩ := int_at (f7.trans e7)
  clear f0 f1 f2 f3 f4 f5 f6 f7 hf get
  match cs, hl with
  | [c0, c1, c2, c3, c4, c5, c6, c7], _ =>
    simp at h0 h1 h2 h3 h4 h5 h6 h7
    subst h0 h1 h2 h3 h4 h5 h6 h7
    exact ⟨⟨n0, n1, s2, n3, n4, n5, s6, n7⟩, rfl, ⟨w4, w5⟩, z2, z6⟩
theorem add_add' (a : Addr) (x y : Nat) : (a.add x).add y = a.add (x + y) := by
  unfold Addr.add
  by_cases hx : x = 0
  · subst hx; simp
  · by_cases hy : y = 0
    · subst hy; simp
    · have : x + y ≠ 0 := by omega
      simp [hx, hy, Nat.add_assoc]
theorem cells_at {a : Addr} {n : Nat} {cs : List Value} (h : W.cells? 0 a n = some cs) : ∀ j v, cs[j]? = some v → W.cell? (a.add j) = some v := fun j v hj => by
  unfold World.cells? at h
  rw [if_pos (Nat.zero_le _)] at h
  have hl := mapM_some_length h
  have hjl := (List.getElem?_eq_some_iff.1 hj).1
  rw [List.length_range] at hl
  have := mapM_some_get h j j (List.getElem?_range (by omega))
  rw [this]; exact hj
/-- The movements that a slice holds. -/
theorem moves_of {fuel : Nat} {oa : Option Addr} {len cap : Nat} {x : DataW H × List MemPlace} (h : DataW.trod enc Tryz.prog W 0 (fun _ => true) held fuel 24 [.slice oa len cap] = some x) :
    ∃ ms : List Mv, ms.length = len ∧ (∀ m ∈ ms, m.ok ∧ m.sz) ∧ (len : Int) ≤ 9223372036854775807 ∧ len ≤ cap ∧ (ms = [] ∨ ∃ a, oa = some a ∧ ∀ j v, (ms.flatMap Mv.c)[j]? = some v → W.cell? (a.add j) = some v) := by
  rcases open_slice Tryz.underlying24 h with ⟨h1, _⟩ | ⟨a, l, c, m, n, D, Pl, h1, _, hlc, hcm, hm, _, hel⟩
  · simp at h1; obtain ⟨rfl, rfl, rfl⟩ := h1; exact ⟨[], rfl, (fun m hm => by cases hm), by decide, Nat.le_refl _, Or.inl rfl⟩
  · simp at h1; obtain ⟨rfl, rfl, rfl⟩ := h1
    simp only [if_true] at hm
    subst hm
    have hmax : (maxLen : Nat) ≤ 9223372036854775807 := by decide
    have key : ∀ i, ∃ mv : Mv, i < len → (W.cells? 0 (a.add (i * 8)) 8 = some mv.c ∧ mv.ok ∧ mv.sz) := fun i => by
      by_cases hi : i < len
      · obtain ⟨cs', hc, ht⟩ := hel i (by omega)
        rw [cof35] at hc
        obtain ⟨mv, rfl, hok⟩ := mv_of ht
        exact ⟨mv, fun _ => ⟨hc, hok⟩⟩
      · exact ⟨⟨0, 0, ⟨#[]⟩, 0, 0, 0, ⟨#[]⟩, 0⟩, fun h => absurd h hi⟩
    let f : Nat → Mv := fun i => Classical.choose (key i)
    have hfs : ∀ i, i < len → (W.cells? 0 (a.add (i * 8)) 8 = some (f i).c ∧ (f i).ok ∧ (f i).sz) := fun i => Classical.choose_spec (key i)
    refine ⟨(List.range len).map f, by simp, fun mv hmv => ?_, by omega, hlc, .inr ⟨a, rfl, fun j v hj => ?_⟩⟩
    · obtain ⟨i, hi, rfl⟩ := List.mem_map.1 hmv
      exact (hfs i (by simpa using hi)).2
    · have hjl := (List.getElem?_eq_some_iff.1 hj).1
      rw [flat_len (enc := Mv.c) (k := 8) (fun _ => rfl), List.length_map, List.length_range] at hjl
      have hi : j / 8 < len := by omega
      have hx : ((List.range len).map f)[j / 8]? = some (f (j / 8)) := by simp [hi]
      obtain ⟨v', hv'⟩ : ∃ v', (f (j / 8)).c[j % 8]? = some v' := ⟨_, List.getElem?_eq_getElem (show j % 8 < 8 by omega)⟩
      have := flat_get (enc := Mv.c) (k := 8) (fun _ => rfl) _ _ _ hx _ _ hv'
      rw [show j / 8 * 8 + j % 8 = j by omega, hj] at this
      cases this
      have hc := cells_at (hfs _ hi).1 _ _ hv'
      rw [← hc]
      rw [add_add', show j / 8 * 8 + j % 8 = j by omega]
end
theorem gLen : Tryz.prog.globalNamed "accounting/days.lengths" = some 0 := by kernel_rfl
def laid1 : List (String × DataW Unit) := [("accounting/days.lengths", Rows.laid_accounting_days_lengths)]
/-- What the condition gives: the block of the months' lengths. -/
theorem of_laid {W : World} (h : laidMetH Tryz.prog laid1 W) : ∃ t fr, W.heap[0]? = some (.cells ⟨lensC⟩ t fr) := by
  rw [MakeChecks.laidMetH_plain _ _ _ (by kernel_rfl)] at h
  obtain ⟨ps, ⟨g0, t0, cs0, f0, p0, q0, hg0, ht0, hv0, hd0, _, _⟩, _, hfr⟩ := h
  obtain rfl := Option.some.inj (gLen.symm.trans hg0)
  have tl : (Tryz.prog.globals[0]?).map (·.type) = some 176 := by kernel_rfl
  obtain rfl := Option.some.inj (tl.symm.trans ht0)
  obtain ⟨xs, m1, rfl, hx1, hlen, hn, hel⟩ := DataW.trod_array Tryz.underlying176 hd0
  have c176 : Tryz.prog.cellsOf 176 = 12 := by kernel_rfl
  rw [c176] at hlen
  simp only [cof3, Nat.mul_one] at hel
  have hcs : cs0.toList = lensC := by
    simp only [Rows.laid_accounting_days_lengths, Prod.mk.injEq, DataW.agg.injEq] at hx1
    obtain ⟨l⟩ := cs0
    (try simp only at hlen)
    (try simp only at hel)
    (try simp only)
    have get : ∀ i, i < 12 → ∃ (n : Int) (y : DataW Unit × List MemPlace), (l.drop i).take 1 = [.int .i64 n] ∧ xs[i]? = some y ∧ y.1 = .lit (.int .i64 n) := fun i hi => by
      obtain ⟨y, hy⟩ : ∃ y, xs[i]? = some y := ⟨_, List.getElem?_eq_getElem (by omega)⟩
      obtain ⟨n, h1, h2, _⟩ := DataW.trod_int Tryz.underlying3 ((hel i hi).trans hy)
      exact ⟨n, y, h1, hy, by rw [h2]⟩
    have val : ∀ i, i < 12 → ∀ n : Int, ([31, 28, 31, 30, 31, 30, 31, 31, 30, 31, 30, 31] : List Int)[i]? = some n → l[i]? = some (.int .i64 n) := fun i hi n hn' => by
      obtain ⟨n', y, h1, h2, h3⟩ := get i hi
      have h4 : (xs.map (·.1))[i]? = some (.lit (.int .i64 n')) := by rw [List.getElem?_map, h2]; simp [h3]
      rw [← hx1.1] at h4
      have h5 : l[i]? = some (.int .i64 n') := by
        have := congrArg (·[0]?) h1
        simpa [List.getElem?_take] using this
      rw [h5]
      have : i = 0 ∨ i = 1 ∨ i = 2 ∨ i = 3 ∨ i = 4 ∨ i = 5 ∨ i = 6 ∨ i = 7 ∨ i = 8 ∨ i = 9 ∨ i = 10 ∨ i = 11 := by omega
      rcases this with rfl | rfl | rfl | rfl | rfl | rfl | rfl | rfl | rfl | rfl | rfl | rfl <;> (simp at h4 hn'; subst h4; subst hn'; rfl)
    have hll : l.length = 12 := hlen
    show l = lensC
    apply List.ext_getElem?
    intro i
    by_cases hi : i < 12
    · obtain ⟨n, hn'⟩ : ∃ n, lensL[i]? = some n := ⟨_, List.getElem?_eq_getElem (show i < lensL.length from hi)⟩
      rw [val i hi n hn', lensC, List.getElem?_map, hn']; rfl
    · rw [List.getElem?_eq_none (by omega), List.getElem?_eq_none (show lensC.length ≤ i from (by omega : 12 ≤ i))]
  unfold World.var? at hv0
  rw [gLen] at hv0
  simp only [Option.bind_some] at hv0
  split at hv0
  · rename_i cs t fr hh
    cases hv0
    obtain ⟨l⟩ := cs0
    (try simp only at hcs)
    subst hcs
    exact ⟨t, fr, hh⟩
  · cases hv0

/-! from a contract to the row -/
def at1 (b : Nat) (o : Obj) : Hp := fun c => if c = b then some o else none
theorem pt_at1 (b : Nat) (o : Obj) : pt b o (at1 b o) := fun _ => rfl
theorem pt_eq {b : Nat} {o : Obj} {h : Hp} (hp : pt b o h) : h = at1 b o := funext hp
theorem emp_eq {h : Hp} (hp : emp h) : h = fun _ => none := funext hp
/-- A call that only reads what it owns leaves all that was there. -/
theorem ac_below {P : Program} {f : FuncId} {args : Array Value} {R R0 : HP} {hr h0 : Hp} {v : Value} {w : World} (eR : ∀ h, R h → h = hr) (mR : R hr) (e0 : ∀ h, R0 h → h = h0) (m0 : R0 h0) (hd : Hp.disj hr h0) (sR : hr.sub w) (s0 : h0.sub w)
    (h : AC P f args (stars [R, R0]) (Ret v [R, R0])) : Calls P f args w fun e w' => e = .returned v ∧ Below w.heap.size w w' := by
  have hA : stars [R, R0] (Hp.add hr h0) := by
    refine ⟨hr, h0, hd, rfl, mR, h0, fun _ => none, fun b => .inr rfl, ?_, m0, fun _ => rfl⟩
    exact (Hp.add_none' fun _ => rfl).symm
  have hsub : (Hp.add hr h0).sub w := fun b o hb => by
    simp only [Hp.add] at hb
    cases hrb : hr b with
    | some o' => rw [hrb] at hb; cases hb; exact sR b _ hrb
    | none => rw [hrb] at hb; exact s0 b o hb
  refine (h w _ hA hsub).mono ?_
  rintro e w' ⟨r, rfl, ⟨⟨h', hQ, hsub', _⟩, hrest⟩⟩
  obtain ⟨rfl, h1, h23, hd', rfl, hR1, h2, h3, hd2, rfl, hR2, h3e⟩ := hQ
  obtain rfl := eR _ hR1
  obtain rfl := e0 _ hR2
  refine ⟨rfl, hrest.os, hrest.tape, hrest.output, hrest.size, fun k hk => ?_⟩
  have hk2 : Hp.add h1 (Hp.add h2 h3) k = Hp.add h1 h2 k := by rw [Hp.add_none' h3e]
  cases hb : Hp.add h1 h2 k with
  | none => exact hrest.frame k hk hb
  | some o => rw [hsub' k o (hk2.trans hb), hsub k o hb]
theorem lens_rd {t : TypeId} {fr : Nat × Nat} : Rd (pt 0 (.cells ⟨lensC⟩ t fr)) ⟨0, 0, none⟩ lensC := fun h hp => ⟨⟨lensC⟩, t, fr, by rw [hp]; simp, rfl, fun j v hj => by simpa using hj⟩
/-- A law over values and a list of movements: what its contract gives the row. -/
theorem law_gen {f : FuncId} {xs ys : List Value} {oa : Option Addr} {len cap : Nat} (hac : ∀ (R : HP) (ms : List Mv), ms.length = len → RdS R oa (ms.flatMap Mv.c) → (ms.length : Int) ≤ 9223372036854775807 → (∀ m ∈ ms, m.ok ∧ m.sz) → ms.length ≤ cap → ∀ R0 : HP, Rd R0 ⟨0, 0, none⟩ lensC → AC Tryz.prog f ⟨xs ++ [.slice oa len cap] ++ ys⟩ (stars [R, R0]) (Ret (Bo true) [R, R0]))
    {H : Type} {enc : TypeId × Value → H} {W : World} {held : Bool} {fuel : Nat} {x : DataW H × List MemPlace} (h : DataW.trod enc Tryz.prog W 0 (fun _ => true) held fuel 24 [.slice oa len cap] = some x) (hL : laidMetH Tryz.prog laid1 W) :
    Calls Tryz.prog f ⟨xs ++ [.slice oa len cap] ++ ys⟩ W fun e w' => e = .returned (.bool true) ∧ Below W.heap.size W w' := by
  obtain ⟨t, fr, h0⟩ := of_laid hL
  obtain ⟨ms, rfl, hok, hlen, hcap, hms⟩ := moves_of h
  have s0 : (at1 0 (.cells ⟨lensC⟩ t fr)).sub W := fun b o hb => by
    unfold at1 at hb
    split at hb
    · rename_i hb0; cases hb; rw [hb0]; exact h0
    · cases hb
  rcases hms with rfl | ⟨a, rfl, hcell⟩
  · exact ac_below (R := emp) (hr := fun _ => none) (fun _ => emp_eq) (fun _ => rfl) (fun _ => pt_eq) (pt_at1 _ _) (fun _ => .inl rfl) (fun _ _ hb => by cases hb) s0 (hac emp [] rfl RdS.nil hlen hok hcap _ lens_rd)
  · by_cases hnil : ms = []
    · subst hnil
      exact ac_below (R := emp) (hr := fun _ => none) (fun _ => emp_eq) (fun _ => rfl) (fun _ => pt_eq) (pt_at1 _ _) (fun _ => .inl rfl) (fun _ _ hb => by cases hb) s0 (hac emp [] rfl RdS.nil hlen hok hcap _ lens_rd)
    · obtain ⟨m, ms', rfl⟩ : ∃ m ms', ms = m :: ms' := by
        cases ms with
        | nil => exact absurd rfl hnil
        | cons m ms' => exact ⟨m, ms', rfl⟩
      have c0 := hcell 0 (I m.seq) rfl
      have c2 := hcell 2 (St m.item) rfl
      obtain ⟨blk0, off, spot⟩ := a
      have hspot : spot = none := by
        unfold World.cell? at c0
        split at c0
        · split at c0
          · cases c0
          · rename_i hs; cases spot with
            | none => rfl
            | some s => simp [Addr.add] at hs
        · cases c0
      subst hspot
      obtain ⟨o, ho⟩ : ∃ o, W.heap[blk0]? = some o := by
        unfold World.cell? at c0
        split at c0
        · rename_i c t' fr' hh; exact ⟨_, hh⟩
        · cases c0
      have hb0 : blk0 ≠ 0 := by
        rintro rfl
        rw [h0] at ho
        rw [Addr.add_eq rfl] at c2
        simp only [World.cell?, h0, Option.isSome_none, Bool.false_eq_true, if_false, List.getElem?_toArray] at c2
        have hall : ∀ v ∈ lensC, ∃ n, v = Value.int .i64 n := by
          intro v hv
          obtain ⟨n, _, rfl⟩ := List.mem_map.1 hv
          exact ⟨n, rfl⟩
        obtain ⟨n, hn⟩ := hall _ (List.mem_of_getElem? c2)
        cases hn
      refine ac_below (R := pt blk0 o) (hr := at1 blk0 o) (fun _ => pt_eq) (pt_at1 _ _) (fun _ => pt_eq) (pt_at1 _ _) (fun b => ?_) (fun b o' hb => ?_) s0 (hac (pt blk0 o) _ rfl (Rd.rds ?_) hlen hok hcap _ lens_rd)
      · by_cases e : b = 0
        · left; subst e; simp [at1, Ne.symm hb0]
        · right; simp [at1, e]
      · unfold at1 at hb
        split at hb
        · rename_i e; cases hb; rw [e]; exact ho
        · cases hb
      · intro h hp
        have c0' := c0
        unfold World.cell? at c0'
        rw [show ((⟨blk0, off, none⟩ : Addr).add 0).block = blk0 by rw [Addr.add_eq rfl], ho] at c0'
        match o, ho with
        | .cells cs t' fr', ho =>
          refine ⟨cs, t', fr', by rw [hp]; simp, rfl, fun j v hj => ?_⟩
          have := hcell j v hj
          rw [Addr.add_eq rfl] at this
          simpa only [World.cell?, ho, Option.isSome_none, Bool.false_eq_true, if_false] using this
        | .map es c, ho => cases c0'
theorem ep0 {A : HP} {h : Hp} (hs : star emp A h) : A h := by
  obtain ⟨h1, h2, hd, rfl, ha, hb⟩ := hs
  rw [Hp.add_none ha]; exact hb
theorem ep1 {A : HP} {h : Hp} (hs : A h) : star emp A h := ⟨fun _ => none, h, fun b => .inl rfl, by funext b; simp [Hp.add], fun _ => rfl, hs⟩
theorem cof23 : Tryz.prog.cellsOf 23 = 2 := by kernel_rfl
/-- The method and the price. -/
theorem way_of {H : Type} {enc : TypeId × Value → H} {W : World} {sp : Nat → Bool} {held : Bool} {fuel : Nat} {cs : List Value} {x : DataW H × List MemPlace} (h : DataW.trod enc Tryz.prog W 0 sp held fuel 23 cs = some x) : ∃ k p : Int, cs = [I k, I p] := by
  obtain ⟨xs, n, _, _, hl, hxl, hf⟩ := DataW.trod_struct Tryz.underlying23 h
  rw [cof23] at hl
  have hsz : xs.length = 2 := hxl
  have get : ∀ i, i < 2 → ∃ y, xs[i]? = some y := fun i hi => ⟨_, List.getElem?_eq_getElem (by omega)⟩
  have f0 : DataW.trod enc Tryz.prog W 0 sp held n 3 ((cs.drop 0).take (Tryz.prog.cellsOf 3)) = xs[0]? := hf 0 _ rfl
  have f1 : DataW.trod enc Tryz.prog W 0 sp held n 3 ((cs.drop 1).take (Tryz.prog.cellsOf 3)) = xs[1]? := hf 1 _ rfl
  rw [cof3] at f0 f1
  obtain ⟨y0, e0⟩ := get 0 (by decide); obtain ⟨y1, e1⟩ := get 1 (by decide)
  obtain ⟨n0, h0, _⟩ := int_at (f0.trans e0); obtain ⟨n1, h1, _⟩ := int_at (f1.trans e1)
  clear f0 f1 hf get
  match cs, hl with
  | [c0, c1], _ =>
    simp at h0 h1
    subst h0 h1
    exact ⟨n0, n1, rfl⟩
/-- A law over values alone. -/
theorem law_gen0 {f : FuncId} {xs : List Value} (hac : ∀ R0 : HP, Rd R0 ⟨0, 0, none⟩ lensC → AC Tryz.prog f ⟨xs⟩ (stars [R0]) (Ret (Bo true) [R0])) {W : World} (hL : laidMetH Tryz.prog laid1 W) :
    Calls Tryz.prog f ⟨xs⟩ W fun e w' => e = .returned (.bool true) ∧ Below W.heap.size W w' := by
  obtain ⟨t, fr, h0⟩ := of_laid hL
  have s0 : (at1 0 (.cells ⟨lensC⟩ t fr)).sub W := fun b o hb => by
    unfold at1 at hb
    split at hb
    · rename_i hb0; cases hb; rw [hb0]; exact h0
    · cases hb
  exact ac_below (R := emp) (hr := fun _ => none) (fun _ => emp_eq) (fun _ => rfl) (fun _ => pt_eq) (pt_at1 _ _) (fun _ => .inl rfl) (fun _ _ hb => by cases hb) s0
    (AC.mono (hac _ lens_rd) (fun h hh => ep0 hh) (fun r h hh => ⟨hh.1, ep1 hh.2⟩))
theorem knob0 : ownKnob Tryz.prog.godebug = none := by kernel_rfl
theorem laidOut : laidOutB Tryz.prog = true := by kernel_rfl
theorem door_met (os : Os) (args : Array Value) : laidMetH Tryz.prog laid1 ((World.doorLaid Tryz.prog 400 os).forCall (fun _ _ => 0) ⟨#[], args, []⟩).memory :=
  laidMetH_of_parts3 (fuel := 8) (laidMet_of_run' 8 (by kernel_rfl) (by kernel_rfl)) (by kernel_rfl) (by kernel_rfl)
end Go.Proofs.YtcpghpifbgpkjaaGreatDoor
