/- Laws of the walks and of the models, part 6 (merged by program). -/
import Derived.Test.YtncidoakeflboaaGreatDoorB5
import Derived.Test.YtncidoakeflboaaGreatDoorRows
import Derived.Test.YtncidoakeflboaaGreatDoorTie
import Derived.Test.YtncidoakeflboaaGreatDoorCards
import Derived.ProofKit
import Derived.WalkKit
import Derived.LaidMore
import Derived.OpenShut
import Derived.Below
import Derived.ChangeOld
import Derived.SizedLaws
import Derived.Deep.Slices
import Derived.Stop.Joined
import Derived.Shelf.Vars
set_option linter.unusedVariables false
set_option linter.unusedSimpArgs false
set_option maxRecDepth 20000
set_option maxHeartbeats 4000000
namespace Go.Proofs.YtncidoakeflboaaGreatDoor
open Go Go.SL Go.Proofs
section
attribute [local irreducible] OpJ RunL Run RunD DetJ pt own star Rd RdS
theorem c_rR19 (R : HP) (oa : Option Addr) (cap : Nat) (s : List Cl) (hR : RdS R oa (s.flatMap Cl.c)) (hl : s.length ≤ 140737488355328) : AC Tryz.prog 21 ⟨[.slice oa s.length cap]⟩ (stars [R]) (Ret (Bo (shB s)) [R]) := by
 refine AC.go Tryz.func21 rfl (Nat.le_of_ble_eq_true rfl) fun β => ?_
 refine sr ?_
 refine asg rfl rfl ?_
 refine kp [0] rfl ?_
 refine Run.seq ?_
 refine sr ?_
 refine asg rfl rfl ?_
 refine kp [0, 3] rfl ?_
 refine Run.block ?_
 refine Run.loop (fun mm E L => ∃ i : Nat, mm = s.length - i ∧ i ≤ s.length ∧ shTo s i ∧ E = [(0, .slice oa s.length cap), (3, I i)] ∧ L = [R]) ⟨_, 0, rfl, Nat.zero_le _, shTo.zero, rfl, rfl⟩ ?_
 rintro _ _ _ ⟨i, rfl, hi, hI, rfl, rfl⟩
 refine Run.seq ?_
 refine sr ?_
 refine sx 4 ?_
 refine kp [0, 3, 7] rfl ?_
 first | refine Run.if rfl (fun h1 => ?_) (fun h1 => ?_) | refine Run.cond rfl (fun h1 => ?_) (fun h1 => ?_)
 refine Run.skip ?_
 refine Run.seq ?_
 refine Run.block ?_
 refine Run.seq ?_
 refine regionD HM ?_
 obtain ⟨x, hx⟩ := get_ex (xs := s) (i := i) (by omega)
 refine RunD.rdOpen pk hR (flat_ne (k := 7) (fun _ => rfl) (by decide) hx) fun bo oo ebo hrd => ?_
 subst ebo
 refine tk 0 rfl rfl rfl (DetJ.move rfl) ?_
 refine tk 1 rfl rfl rfl (DetJ.move rfl) ?_
 refine tk 2 rfl rfl rfl (DetJ.indexAddr S24 rfl rfl (by omega)) ?_
 refine tk 3 rfl rfl rfl (DetJ.fieldAddr F48_1 rfl) ?_
 refine RunD.takeR1 4 rfl rfl kr T3 rfl pk (hrd.at (enc := Cl.c) 7 (fun _ => rfl) hx 5 (I x.amt) rfl) ?_
 refine tk 5 rfl rfl rfl (DetJ.eql rfl rfl) ?_
 refine tk 6 rfl rfl rfl (DetJ.move rfl) ?_
 by_cases hz : x.amt = 0
 refine RunD.set (congrArg Bo (decide_eq_true hz)) ?_
 refine RunD.takeG 7 rfl rfl rfl rfl rfl kr (DetJ.move rfl) .nil ?_
 refine RunD.takeG 8 rfl rfl rfl rfl rfl kr (DetJ.move rfl) .nil ?_
 refine RunD.takeG 9 rfl rfl rfl rfl rfl kr (DetJ.indexAddr S24 rfl rfl (by omega)) .nil ?_
 refine RunD.takeG 10 rfl rfl rfl rfl rfl kr (DetJ.fieldAddr F48_2 rfl) .nil ?_
 refine RunD.takeGR1 11 rfl rfl rfl rfl kr T3 rfl pk (hrd.at (enc := Cl.c) 7 (fun _ => rfl) hx 6 (I x.base) rfl) ?_
 refine RunD.takeG 12 rfl rfl rfl rfl rfl kr (DetJ.eql rfl rfl) .nil ?_
 refine tk 13 rfl rfl rfl (DetJ.pickT rfl rfl) ?_
 refine tk 14 rfl rfl rfl (DetJ.move rfl) ?_
 by_cases hz2 : x.base = 0
 refine RunD.set (congrArg Bo (decide_eq_true hz2)) ?_
 refine RunD.takeN 15 rfl rfl rfl rfl rfl kr ?_
 refine RunD.takeN 16 rfl rfl rfl rfl rfl kr ?_
 refine RunD.takeN 17 rfl rfl rfl rfl rfl kr ?_
 refine RunD.takeN 18 rfl rfl rfl rfl rfl kr ?_
 refine RunD.takeN 19 rfl rfl rfl rfl rfl kr ?_
 refine RunD.takeN 20 rfl rfl rfl rfl rfl kr ?_
 refine RunD.takeN 21 rfl rfl rfl rfl rfl kr ?_
 refine tk 22 rfl rfl rfl (DetJ.pickT rfl rfl) ?_
 refine tk 23 rfl rfl rfl (DetJ.move rfl) ?_
 refine RunD.takeN 24 rfl rfl rfl rfl rfl kr ?_
 refine RunD.takeN 25 rfl rfl rfl rfl rfl kr ?_
 refine RunD.takeN 26 rfl rfl rfl rfl rfl kr ?_
 refine RunD.takeN 27 rfl rfl rfl rfl rfl kr ?_
 refine RunD.takeN 28 rfl rfl rfl rfl rfl kr ?_
 refine RunD.takeN 29 rfl rfl rfl rfl rfl kr ?_
 refine RunD.takeN 30 rfl rfl rfl rfl rfl kr ?_
 refine tk 31 rfl rfl rfl (DetJ.pickT rfl rfl) ?_
 refine tk 32 rfl rfl rfl (DetJ.move rfl) ?_
 refine RunD.takeN 33 rfl rfl rfl rfl rfl kr ?_
 refine RunD.takeN 34 rfl rfl rfl rfl rfl kr ?_
 refine RunD.takeN 35 rfl rfl rfl rfl rfl kr ?_
 refine RunD.takeU 36 rfl rfl rfl rfl rfl ?_
 refine RunD.takeU 37 rfl rfl rfl rfl rfl ?_
 refine RunD.takeU 38 rfl rfl rfl rfl rfl ?_
 refine RunD.takeU 39 rfl rfl rfl rfl rfl ?_
 refine RunD.takeU 40 rfl rfl rfl rfl rfl ?_
 refine RunD.takeU 41 rfl rfl rfl rfl rfl ?_
 refine RunD.takeU 42 rfl rfl rfl rfl rfl ?_
 refine RunD.takeU 43 rfl rfl rfl rfl rfl ?_
 refine RunD.takeU 44 rfl rfl rfl rfl rfl ?_
 refine RunD.takeU 45 rfl rfl rfl rfl rfl ?_
 refine RunD.takeU 46 rfl rfl rfl rfl rfl ?_
 refine RunD.takeU 47 rfl rfl rfl rfl rfl ?_
 refine RunD.takeU 48 rfl rfl rfl rfl rfl ?_
 refine RunD.takeN 49 rfl rfl rfl rfl rfl kr ?_
 refine tk 50 rfl rfl rfl (DetJ.pickT rfl rfl) ?_
 refine kd [0, 3, 60] rfl ?_
 refine Run.true rfl ?_
 refine sr ?_
 refine asg rfl rfl ?_
 refine kp [2] rfl ?_
 refine Run.ret ?_
 exact ret_one (.tmp rfl .nil) (by first | (rw [sh_bad hx (cel_zero hz hz2)]; rfl) | (rw [sh_bad hx (cel_wa hfa)]; rfl) | (rw [sh_bad hx (cel_wb hfb)]; rfl) | (rw [sh_fall hx hy hlt]; rfl) | (rw [hI.all (by omega)]; rfl)) gv
 refine RunD.set (congrArg Bo (decide_eq_false hz2)) ?_
 have hz3 : ¬ (x.amt = 0 ∧ x.base = 0) := fun h => hz2 h.2
 refine RunD.takeG 15 rfl rfl rfl rfl rfl kr (DetJ.move rfl) .nil ?_
 refine RunD.takeG 16 rfl rfl rfl rfl rfl kr (DetJ.move rfl) .nil ?_
 refine RunD.takeG 17 rfl rfl rfl rfl rfl kr (DetJ.indexAddr S24 rfl rfl (by omega)) .nil ?_
 refine RunD.takeG 18 rfl rfl rfl rfl rfl kr (DetJ.fieldAddr F48_1 rfl) .nil ?_
 refine RunD.takeGR1 19 rfl rfl rfl rfl kr T3 rfl pk (hrd.at (enc := Cl.c) 7 (fun _ => rfl) hx 5 (I x.amt) rfl) ?_
 refine RunD.opG 20 [false, false, false, true, true, false, false, false, true, true, true, true, true, false, false, true, true, true, true, true] rfl rfl rfl rfl rfl kr kr (OpJ.callRet C39 rfl rfl (c_rfits _) .nil ⟨po, ?_⟩)
 refine RunD.takeG 21 rfl rfl rfl rfl rfl kr (DetJ.not rfl) .nil ?_
 refine tk 22 rfl rfl rfl (DetJ.pickF rfl rfl) ?_
 refine tk 23 rfl rfl rfl (DetJ.move rfl) ?_
 rcases Bool.eq_false_or_eq_true (withinB x.amt) with hfa | hfa
 refine RunD.set (v := Bo false) (by rw [hfa]; rfl) ?_
 refine RunD.takeG 24 rfl rfl rfl rfl rfl kr (DetJ.move rfl) .nil ?_
 refine RunD.takeG 25 rfl rfl rfl rfl rfl kr (DetJ.move rfl) .nil ?_
 refine RunD.takeG 26 rfl rfl rfl rfl rfl kr (DetJ.indexAddr S24 rfl rfl (by omega)) .nil ?_
 refine RunD.takeG 27 rfl rfl rfl rfl rfl kr (DetJ.fieldAddr F48_2 rfl) .nil ?_
 refine RunD.takeGR1 28 rfl rfl rfl rfl kr T3 rfl pk (hrd.at (enc := Cl.c) 7 (fun _ => rfl) hx 6 (I x.base) rfl) ?_
 refine RunD.opG 29 [false, false, false, true, true, false, false, false, true, true, true, true, true, true, true, true, true, true, true, true] rfl rfl rfl rfl rfl kr kr (OpJ.callRet C39 rfl rfl (c_rfits _) .nil ⟨po, ?_⟩)
 refine RunD.takeG 30 rfl rfl rfl rfl rfl kr (DetJ.not rfl) .nil ?_
 refine tk 31 rfl rfl rfl (DetJ.pickF rfl rfl) ?_
 refine tk 32 rfl rfl rfl (DetJ.move rfl) ?_
 rcases Bool.eq_false_or_eq_true (withinB x.base) with hfb | hfb
 refine RunD.set (v := Bo false) (by rw [hfb]; rfl) ?_
 refine RunD.takeG 33 rfl rfl rfl rfl rfl kr (DetJ.move rfl) .nil ?_
 refine RunD.takeG 34 rfl rfl rfl rfl rfl kr (DetJ.gtr rfl rfl) .nil ?_
 refine RunD.takeG 35 rfl rfl rfl rfl rfl kr (DetJ.move rfl) .nil ?_
 by_cases hp : 0 < i
 obtain ⟨j, rfl⟩ : ∃ j, i = j + 1 := ⟨i - 1, by omega⟩
 obtain ⟨y, hy⟩ := get_ex (xs := s) (i := j) (by omega)
 have hkx : Rd R ⟨bo, oo + (j + 1) * 7 + 0, none⟩ x.k.c := Rd.pre (vs := [I x.amt, I x.base]) (Rd.elem (enc := Cl.c) (k := 7) (fun _ => rfl) hrd hx)
 have hkey : Rd R ⟨bo, oo + j * 7 + 0, none⟩ y.k.c := Rd.pre (vs := [I y.amt, I y.base]) (Rd.elem (enc := Cl.c) (k := 7) (fun _ => rfl) hrd hy)
 refine RunD.set (congrArg Bo (decide_eq_true (by omega))) ?_
 refine RunD.takeG 36 rfl rfl rfl rfl rfl kr (DetJ.move rfl) .nil ?_
 refine RunD.takeG 37 rfl rfl rfl rfl rfl kr (DetJ.move rfl) .nil ?_
 first | refine RunD.takeG 38 rfl rfl rfl rfl rfl kr (DetJ.subI rfl rfl (by omega)) .nil ?_ | refine RunD.takeG 38 rfl rfl rfl rfl rfl kr (DetJ.sub rfl rfl) .nil ?_
 refine RunD.set (v := I (j : Int)) (congrArg I (by omega)) ?_
 refine RunD.takeG 39 rfl rfl rfl rfl rfl kr (DetJ.indexAddr S24 rfl rfl (by omega)) .nil ?_
 refine RunD.takeG 40 rfl rfl rfl rfl rfl kr (DetJ.fieldAddr F48_0 rfl) .nil ?_
 refine RunD.takeGR 41 rfl rfl rfl rfl kr T46 rfl pk hkey rfl ?_
 refine RunD.takeG 42 rfl rfl rfl rfl rfl kr (DetJ.move rfl) .nil ?_
 refine RunD.takeG 43 rfl rfl rfl rfl rfl kr (DetJ.move rfl) .nil ?_
 refine RunD.takeG 44 rfl rfl rfl rfl rfl kr (DetJ.indexAddr S24 rfl rfl (by omega)) .nil ?_
 refine RunD.takeG 45 rfl rfl rfl rfl rfl kr (DetJ.fieldAddr F48_0 rfl) .nil ?_
 refine RunD.takeGR 46 rfl rfl rfl rfl kr T46 rfl pk hkx rfl ?_
 refine RunD.opG 47 [false, false, false, true, true, false, false, false, true, true, true, false, false, false, false, false, true, true, true, true, true, true, true, true, true, true, true, true, true, true, true] rfl rfl rfl rfl rfl kr kr (OpJ.callRet C42 rfl rfl (c_rCmp y.k x.k) .nil ⟨po, ?_⟩)
 refine RunD.takeG 48 rfl rfl rfl rfl rfl kr (DetJ.geq rfl rfl) .nil ?_
 refine RunD.takeG 49 rfl rfl rfl rfl rfl kr (DetJ.pickT rfl rfl) .nil ?_
 refine tk 50 rfl rfl rfl (DetJ.pickF rfl rfl) ?_
 by_cases hlt : cmpK y.k x.k < 0
 refine RunD.set (congrArg Bo (decide_eq_false (by omega))) ?_
 refine kd [0, 3, 60] rfl ?_
 refine Run.false rfl ?_
 refine Run.skip ?_
 refine Run.region ?_
 refine sx 3 ?_
 have hcel := cel_ok (x := x) hz3 (by simpa [lw_eq] using hfa) (by simpa [lw_eq] using hfb)
 exact RunL.next (Keep.sub (kt (ks := [0, 3]) rfl)) _ ⟨_, by omega, j + 2, rfl, by omega, (hI.step hx hcel fun j2 y2 e h2 => by { obtain rfl : j2 = j := (by omega); rw [hy] at h2; cases h2; exact hlt }), rfl, rfl⟩ gv
 refine RunD.set (congrArg Bo (decide_eq_true (by omega))) ?_
 refine kd [0, 3, 60] rfl ?_
 refine Run.true rfl ?_
 refine sr ?_
 refine asg rfl rfl ?_
 refine kp [2] rfl ?_
 refine Run.ret ?_
 exact ret_one (.tmp rfl .nil) (by first | (rw [sh_bad hx (cel_zero hz hz2)]; rfl) | (rw [sh_bad hx (cel_wa hfa)]; rfl) | (rw [sh_bad hx (cel_wb hfb)]; rfl) | (rw [sh_fall hx hy hlt]; rfl) | (rw [hI.all (by omega)]; rfl)) gv
 refine RunD.set (congrArg Bo (decide_eq_false (by omega))) ?_
 refine RunD.takeN 36 rfl rfl rfl rfl rfl kr ?_
 refine RunD.takeN 37 rfl rfl rfl rfl rfl kr ?_
 refine RunD.takeN 38 rfl rfl rfl rfl rfl kr ?_
 refine RunD.takeN 39 rfl rfl rfl rfl rfl kr ?_
 refine RunD.takeN 40 rfl rfl rfl rfl rfl kr ?_
 refine RunD.takeN 41 rfl rfl rfl rfl rfl kr ?_
 refine RunD.takeN 42 rfl rfl rfl rfl rfl kr ?_
 refine RunD.takeN 43 rfl rfl rfl rfl rfl kr ?_
 refine RunD.takeN 44 rfl rfl rfl rfl rfl kr ?_
 refine RunD.takeN 45 rfl rfl rfl rfl rfl kr ?_
 refine RunD.takeN 46 rfl rfl rfl rfl rfl kr ?_
 refine RunD.takeN 47 rfl rfl rfl rfl rfl kr ?_
 refine RunD.takeN 48 rfl rfl rfl rfl rfl kr ?_
 refine RunD.takeG 49 rfl rfl rfl rfl rfl kr (DetJ.pickF rfl rfl) .nil ?_
 refine tk 50 rfl rfl rfl (DetJ.pickF rfl rfl) ?_
 skip
 refine RunD.set (v := Bo false) rfl ?_
 refine kd [0, 3, 60] rfl ?_
 refine Run.false rfl ?_
 refine Run.skip ?_
 refine Run.region ?_
 refine sx 3 ?_
 have hcel := cel_ok (x := x) hz3 (by simpa [lw_eq] using hfa) (by simpa [lw_eq] using hfb)
 exact RunL.next (Keep.sub (kt (ks := [0, 3]) rfl)) _ ⟨_, by omega, i + 1, rfl, by omega, (hI.step hx hcel fun j2 y2 e h2 => absurd e (by omega)), rfl, rfl⟩ gv
 refine RunD.set (v := Bo true) (by rw [hfb]; rfl) ?_
 refine RunD.takeN 33 rfl rfl rfl rfl rfl kr ?_
 refine RunD.takeN 34 rfl rfl rfl rfl rfl kr ?_
 refine RunD.takeN 35 rfl rfl rfl rfl rfl kr ?_
 refine RunD.takeU 36 rfl rfl rfl rfl rfl ?_
 refine RunD.takeU 37 rfl rfl rfl rfl rfl ?_
 refine RunD.takeU 38 rfl rfl rfl rfl rfl ?_
 refine RunD.takeU 39 rfl rfl rfl rfl rfl ?_
 refine RunD.takeU 40 rfl rfl rfl rfl rfl ?_
 refine RunD.takeU 41 rfl rfl rfl rfl rfl ?_
 refine RunD.takeU 42 rfl rfl rfl rfl rfl ?_
 refine RunD.takeU 43 rfl rfl rfl rfl rfl ?_
 refine RunD.takeU 44 rfl rfl rfl rfl rfl ?_
 refine RunD.takeU 45 rfl rfl rfl rfl rfl ?_
 refine RunD.takeU 46 rfl rfl rfl rfl rfl ?_
 refine RunD.takeU 47 rfl rfl rfl rfl rfl ?_
 refine RunD.takeU 48 rfl rfl rfl rfl rfl ?_
 refine RunD.takeN 49 rfl rfl rfl rfl rfl kr ?_
 refine tk 50 rfl rfl rfl (DetJ.pickT rfl rfl) ?_
 refine kd [0, 3, 60] rfl ?_
 refine Run.true rfl ?_
 refine sr ?_
 refine asg rfl rfl ?_
 refine kp [2] rfl ?_
 refine Run.ret ?_
 exact ret_one (.tmp rfl .nil) (by first | (rw [sh_bad hx (cel_zero hz hz2)]; rfl) | (rw [sh_bad hx (cel_wa hfa)]; rfl) | (rw [sh_bad hx (cel_wb hfb)]; rfl) | (rw [sh_fall hx hy hlt]; rfl) | (rw [hI.all (by omega)]; rfl)) gv
 refine RunD.set (v := Bo true) (by rw [hfa]; rfl) ?_
 refine RunD.takeN 24 rfl rfl rfl rfl rfl kr ?_
 refine RunD.takeN 25 rfl rfl rfl rfl rfl kr ?_
 refine RunD.takeN 26 rfl rfl rfl rfl rfl kr ?_
 refine RunD.takeN 27 rfl rfl rfl rfl rfl kr ?_
 refine RunD.takeN 28 rfl rfl rfl rfl rfl kr ?_
 refine RunD.takeN 29 rfl rfl rfl rfl rfl kr ?_
 refine RunD.takeN 30 rfl rfl rfl rfl rfl kr ?_
 refine tk 31 rfl rfl rfl (DetJ.pickT rfl rfl) ?_
 refine tk 32 rfl rfl rfl (DetJ.move rfl) ?_
 refine RunD.takeN 33 rfl rfl rfl rfl rfl kr ?_
 refine RunD.takeN 34 rfl rfl rfl rfl rfl kr ?_
 refine RunD.takeN 35 rfl rfl rfl rfl rfl kr ?_
 refine RunD.takeU 36 rfl rfl rfl rfl rfl ?_
 refine RunD.takeU 37 rfl rfl rfl rfl rfl ?_
 refine RunD.takeU 38 rfl rfl rfl rfl rfl ?_
 refine RunD.takeU 39 rfl rfl rfl rfl rfl ?_
 refine RunD.takeU 40 rfl rfl rfl rfl rfl ?_
 refine RunD.takeU 41 rfl rfl rfl rfl rfl ?_
 refine RunD.takeU 42 rfl rfl rfl rfl rfl ?_
 refine RunD.takeU 43 rfl rfl rfl rfl rfl ?_
 refine RunD.takeU 44 rfl rfl rfl rfl rfl ?_
 refine RunD.takeU 45 rfl rfl rfl rfl rfl ?_
 refine RunD.takeU 46 rfl rfl rfl rfl rfl ?_
 refine RunD.takeU 47 rfl rfl rfl rfl rfl ?_
 refine RunD.takeU 48 rfl rfl rfl rfl rfl ?_
 refine RunD.takeN 49 rfl rfl rfl rfl rfl kr ?_
 refine tk 50 rfl rfl rfl (DetJ.pickT rfl rfl) ?_
 refine kd [0, 3, 60] rfl ?_
 refine Run.true rfl ?_
 refine sr ?_
 refine asg rfl rfl ?_
 refine kp [2] rfl ?_
 refine Run.ret ?_
 exact ret_one (.tmp rfl .nil) (by first | (rw [sh_bad hx (cel_zero hz hz2)]; rfl) | (rw [sh_bad hx (cel_wa hfa)]; rfl) | (rw [sh_bad hx (cel_wb hfb)]; rfl) | (rw [sh_fall hx hy hlt]; rfl) | (rw [hI.all (by omega)]; rfl)) gv
 refine RunD.set (congrArg Bo (decide_eq_false hz)) ?_
 refine RunD.takeN 7 rfl rfl rfl rfl rfl kr ?_
 refine RunD.takeN 8 rfl rfl rfl rfl rfl kr ?_
 refine RunD.takeN 9 rfl rfl rfl rfl rfl kr ?_
 refine RunD.takeN 10 rfl rfl rfl rfl rfl kr ?_
 refine RunD.takeN 11 rfl rfl rfl rfl rfl kr ?_
 refine RunD.takeN 12 rfl rfl rfl rfl rfl kr ?_
 refine tk 13 rfl rfl rfl (DetJ.pickF rfl rfl) ?_
 refine tk 14 rfl rfl rfl (DetJ.move rfl) ?_
 skip
 refine RunD.set (v := Bo false) rfl ?_
 have hz3 : ¬ (x.amt = 0 ∧ x.base = 0) := fun h => hz h.1
 refine RunD.takeG 15 rfl rfl rfl rfl rfl kr (DetJ.move rfl) .nil ?_
 refine RunD.takeG 16 rfl rfl rfl rfl rfl kr (DetJ.move rfl) .nil ?_
 refine RunD.takeG 17 rfl rfl rfl rfl rfl kr (DetJ.indexAddr S24 rfl rfl (by omega)) .nil ?_
 refine RunD.takeG 18 rfl rfl rfl rfl rfl kr (DetJ.fieldAddr F48_1 rfl) .nil ?_
 refine RunD.takeGR1 19 rfl rfl rfl rfl kr T3 rfl pk (hrd.at (enc := Cl.c) 7 (fun _ => rfl) hx 5 (I x.amt) rfl) ?_
 refine RunD.opG 20 [false, false, false, true, true, false, false, false, true, true, true, true, true, false, false, true, true, true, true, true] rfl rfl rfl rfl rfl kr kr (OpJ.callRet C39 rfl rfl (c_rfits _) .nil ⟨po, ?_⟩)
 refine RunD.takeG 21 rfl rfl rfl rfl rfl kr (DetJ.not rfl) .nil ?_
 refine tk 22 rfl rfl rfl (DetJ.pickF rfl rfl) ?_
 refine tk 23 rfl rfl rfl (DetJ.move rfl) ?_
 rcases Bool.eq_false_or_eq_true (withinB x.amt) with hfa | hfa
 refine RunD.set (v := Bo false) (by rw [hfa]; rfl) ?_
 refine RunD.takeG 24 rfl rfl rfl rfl rfl kr (DetJ.move rfl) .nil ?_
 refine RunD.takeG 25 rfl rfl rfl rfl rfl kr (DetJ.move rfl) .nil ?_
 refine RunD.takeG 26 rfl rfl rfl rfl rfl kr (DetJ.indexAddr S24 rfl rfl (by omega)) .nil ?_
 refine RunD.takeG 27 rfl rfl rfl rfl rfl kr (DetJ.fieldAddr F48_2 rfl) .nil ?_
 refine RunD.takeGR1 28 rfl rfl rfl rfl kr T3 rfl pk (hrd.at (enc := Cl.c) 7 (fun _ => rfl) hx 6 (I x.base) rfl) ?_
 refine RunD.opG 29 [false, false, false, true, true, false, false, false, true, true, true, true, true, true, true, true, true, true, true, true] rfl rfl rfl rfl rfl kr kr (OpJ.callRet C39 rfl rfl (c_rfits _) .nil ⟨po, ?_⟩)
 refine RunD.takeG 30 rfl rfl rfl rfl rfl kr (DetJ.not rfl) .nil ?_
 refine tk 31 rfl rfl rfl (DetJ.pickF rfl rfl) ?_
 refine tk 32 rfl rfl rfl (DetJ.move rfl) ?_
 rcases Bool.eq_false_or_eq_true (withinB x.base) with hfb | hfb
 refine RunD.set (v := Bo false) (by rw [hfb]; rfl) ?_
 refine RunD.takeG 33 rfl rfl rfl rfl rfl kr (DetJ.move rfl) .nil ?_
 refine RunD.takeG 34 rfl rfl rfl rfl rfl kr (DetJ.gtr rfl rfl) .nil ?_
 refine RunD.takeG 35 rfl rfl rfl rfl rfl kr (DetJ.move rfl) .nil ?_
 by_cases hp : 0 < i
 obtain ⟨j, rfl⟩ : ∃ j, i = j + 1 := ⟨i - 1, by omega⟩
 obtain ⟨y, hy⟩ := get_ex (xs := s) (i := j) (by omega)
 have hkx : Rd R ⟨bo, oo + (j + 1) * 7 + 0, none⟩ x.k.c := Rd.pre (vs := [I x.amt, I x.base]) (Rd.elem (enc := Cl.c) (k := 7) (fun _ => rfl) hrd hx)
 have hkey : Rd R ⟨bo, oo + j * 7 + 0, none⟩ y.k.c := Rd.pre (vs := [I y.amt, I y.base]) (Rd.elem (enc := Cl.c) (k := 7) (fun _ => rfl) hrd hy)
 refine RunD.set (congrArg Bo (decide_eq_true (by omega))) ?_
 refine RunD.takeG 36 rfl rfl rfl rfl rfl kr (DetJ.move rfl) .nil ?_
 refine RunD.takeG 37 rfl rfl rfl rfl rfl kr (DetJ.move rfl) .nil ?_
 first | refine RunD.takeG 38 rfl rfl rfl rfl rfl kr (DetJ.subI rfl rfl (by omega)) .nil ?_ | refine RunD.takeG 38 rfl rfl rfl rfl rfl kr (DetJ.sub rfl rfl) .nil ?_
 refine RunD.set (v := I (j : Int)) (congrArg I (by omega)) ?_
 refine RunD.takeG 39 rfl rfl rfl rfl rfl kr (DetJ.indexAddr S24 rfl rfl (by omega)) .nil ?_
 refine RunD.takeG 40 rfl rfl rfl rfl rfl kr (DetJ.fieldAddr F48_0 rfl) .nil ?_
 refine RunD.takeGR 41 rfl rfl rfl rfl kr T46 rfl pk hkey rfl ?_
 refine RunD.takeG 42 rfl rfl rfl rfl rfl kr (DetJ.move rfl) .nil ?_
 refine RunD.takeG 43 rfl rfl rfl rfl rfl kr (DetJ.move rfl) .nil ?_
 refine RunD.takeG 44 rfl rfl rfl rfl rfl kr (DetJ.indexAddr S24 rfl rfl (by omega)) .nil ?_
 refine RunD.takeG 45 rfl rfl rfl rfl rfl kr (DetJ.fieldAddr F48_0 rfl) .nil ?_
 refine RunD.takeGR 46 rfl rfl rfl rfl kr T46 rfl pk hkx rfl ?_
 refine RunD.opG 47 [false, false, false, true, true, false, false, false, true, true, true, false, false, false, false, false, true, true, true, true, true, true, true, true, true, true, true, true, true, true, true] rfl rfl rfl rfl rfl kr kr (OpJ.callRet C42 rfl rfl (c_rCmp y.k x.k) .nil ⟨po, ?_⟩)
 refine RunD.takeG 48 rfl rfl rfl rfl rfl kr (DetJ.geq rfl rfl) .nil ?_
 refine RunD.takeG 49 rfl rfl rfl rfl rfl kr (DetJ.pickT rfl rfl) .nil ?_
 refine tk 50 rfl rfl rfl (DetJ.pickF rfl rfl) ?_
 by_cases hlt : cmpK y.k x.k < 0
 refine RunD.set (congrArg Bo (decide_eq_false (by omega))) ?_
 refine kd [0, 3, 60] rfl ?_
 refine Run.false rfl ?_
 refine Run.skip ?_
 refine Run.region ?_
 refine sx 3 ?_
 have hcel := cel_ok (x := x) hz3 (by simpa [lw_eq] using hfa) (by simpa [lw_eq] using hfb)
 exact RunL.next (Keep.sub (kt (ks := [0, 3]) rfl)) _ ⟨_, by omega, j + 2, rfl, by omega, (hI.step hx hcel fun j2 y2 e h2 => by { obtain rfl : j2 = j := (by omega); rw [hy] at h2; cases h2; exact hlt }), rfl, rfl⟩ gv
 refine RunD.set (congrArg Bo (decide_eq_true (by omega))) ?_
 refine kd [0, 3, 60] rfl ?_
 refine Run.true rfl ?_
 refine sr ?_
 refine asg rfl rfl ?_
 refine kp [2] rfl ?_
 refine Run.ret ?_
 exact ret_one (.tmp rfl .nil) (by first | (rw [sh_bad hx (cel_zero hz hz2)]; rfl) | (rw [sh_bad hx (cel_wa hfa)]; rfl) | (rw [sh_bad hx (cel_wb hfb)]; rfl) | (rw [sh_fall hx hy hlt]; rfl) | (rw [hI.all (by omega)]; rfl)) gv
 refine RunD.set (congrArg Bo (decide_eq_false (by omega))) ?_
 refine RunD.takeN 36 rfl rfl rfl rfl rfl kr ?_
 refine RunD.takeN 37 rfl rfl rfl rfl rfl kr ?_
 refine RunD.takeN 38 rfl rfl rfl rfl rfl kr ?_
 refine RunD.takeN 39 rfl rfl rfl rfl rfl kr ?_
 refine RunD.takeN 40 rfl rfl rfl rfl rfl kr ?_
 refine RunD.takeN 41 rfl rfl rfl rfl rfl kr ?_
 refine RunD.takeN 42 rfl rfl rfl rfl rfl kr ?_
 refine RunD.takeN 43 rfl rfl rfl rfl rfl kr ?_
 refine RunD.takeN 44 rfl rfl rfl rfl rfl kr ?_
 refine RunD.takeN 45 rfl rfl rfl rfl rfl kr ?_
 refine RunD.takeN 46 rfl rfl rfl rfl rfl kr ?_
 refine RunD.takeN 47 rfl rfl rfl rfl rfl kr ?_
 refine RunD.takeN 48 rfl rfl rfl rfl rfl kr ?_
 refine RunD.takeG 49 rfl rfl rfl rfl rfl kr (DetJ.pickF rfl rfl) .nil ?_
 refine tk 50 rfl rfl rfl (DetJ.pickF rfl rfl) ?_
 skip
 refine RunD.set (v := Bo false) rfl ?_
 refine kd [0, 3, 60] rfl ?_
 refine Run.false rfl ?_
 refine Run.skip ?_
 refine Run.region ?_
 refine sx 3 ?_
 have hcel := cel_ok (x := x) hz3 (by simpa [lw_eq] using hfa) (by simpa [lw_eq] using hfb)
 exact RunL.next (Keep.sub (kt (ks := [0, 3]) rfl)) _ ⟨_, by omega, i + 1, rfl, by omega, (hI.step hx hcel fun j2 y2 e h2 => absurd e (by omega)), rfl, rfl⟩ gv
 refine RunD.set (v := Bo true) (by rw [hfb]; rfl) ?_
 refine RunD.takeN 33 rfl rfl rfl rfl rfl kr ?_
 refine RunD.takeN 34 rfl rfl rfl rfl rfl kr ?_
 refine RunD.takeN 35 rfl rfl rfl rfl rfl kr ?_
 refine RunD.takeU 36 rfl rfl rfl rfl rfl ?_
 refine RunD.takeU 37 rfl rfl rfl rfl rfl ?_
 refine RunD.takeU 38 rfl rfl rfl rfl rfl ?_
 refine RunD.takeU 39 rfl rfl rfl rfl rfl ?_
 refine RunD.takeU 40 rfl rfl rfl rfl rfl ?_
 refine RunD.takeU 41 rfl rfl rfl rfl rfl ?_
 refine RunD.takeU 42 rfl rfl rfl rfl rfl ?_
 refine RunD.takeU 43 rfl rfl rfl rfl rfl ?_
 refine RunD.takeU 44 rfl rfl rfl rfl rfl ?_
 refine RunD.takeU 45 rfl rfl rfl rfl rfl ?_
 refine RunD.takeU 46 rfl rfl rfl rfl rfl ?_
 refine RunD.takeU 47 rfl rfl rfl rfl rfl ?_
 refine RunD.takeU 48 rfl rfl rfl rfl rfl ?_
 refine RunD.takeN 49 rfl rfl rfl rfl rfl kr ?_
 refine tk 50 rfl rfl rfl (DetJ.pickT rfl rfl) ?_
 refine kd [0, 3, 60] rfl ?_
 refine Run.true rfl ?_
 refine sr ?_
 refine asg rfl rfl ?_
 refine kp [2] rfl ?_
 refine Run.ret ?_
 exact ret_one (.tmp rfl .nil) (by first | (rw [sh_bad hx (cel_zero hz hz2)]; rfl) | (rw [sh_bad hx (cel_wa hfa)]; rfl) | (rw [sh_bad hx (cel_wb hfb)]; rfl) | (rw [sh_fall hx hy hlt]; rfl) | (rw [hI.all (by omega)]; rfl)) gv
 refine RunD.set (v := Bo true) (by rw [hfa]; rfl) ?_
 refine RunD.takeN 24 rfl rfl rfl rfl rfl kr ?_
 refine RunD.takeN 25 rfl rfl rfl rfl rfl kr ?_
 refine RunD.takeN 26 rfl rfl rfl rfl rfl kr ?_
 refine RunD.takeN 27 rfl rfl rfl rfl rfl kr ?_
 refine RunD.takeN 28 rfl rfl rfl rfl rfl kr ?_
 refine RunD.takeN 29 rfl rfl rfl rfl rfl kr ?_
 refine RunD.takeN 30 rfl rfl rfl rfl rfl kr ?_
 refine tk 31 rfl rfl rfl (DetJ.pickT rfl rfl) ?_
 refine tk 32 rfl rfl rfl (DetJ.move rfl) ?_
 refine RunD.takeN 33 rfl rfl rfl rfl rfl kr ?_
 refine RunD.takeN 34 rfl rfl rfl rfl rfl kr ?_
 refine RunD.takeN 35 rfl rfl rfl rfl rfl kr ?_
 refine RunD.takeU 36 rfl rfl rfl rfl rfl ?_
 refine RunD.takeU 37 rfl rfl rfl rfl rfl ?_
 refine RunD.takeU 38 rfl rfl rfl rfl rfl ?_
 refine RunD.takeU 39 rfl rfl rfl rfl rfl ?_
 refine RunD.takeU 40 rfl rfl rfl rfl rfl ?_
 refine RunD.takeU 41 rfl rfl rfl rfl rfl ?_
 refine RunD.takeU 42 rfl rfl rfl rfl rfl ?_
 refine RunD.takeU 43 rfl rfl rfl rfl rfl ?_
 refine RunD.takeU 44 rfl rfl rfl rfl rfl ?_
 refine RunD.takeU 45 rfl rfl rfl rfl rfl ?_
 refine RunD.takeU 46 rfl rfl rfl rfl rfl ?_
 refine RunD.takeU 47 rfl rfl rfl rfl rfl ?_
 refine RunD.takeU 48 rfl rfl rfl rfl rfl ?_
 refine RunD.takeN 49 rfl rfl rfl rfl rfl kr ?_
 refine tk 50 rfl rfl rfl (DetJ.pickT rfl rfl) ?_
 refine kd [0, 3, 60] rfl ?_
 refine Run.true rfl ?_
 refine sr ?_
 refine asg rfl rfl ?_
 refine kp [2] rfl ?_
 refine Run.ret ?_
 exact ret_one (.tmp rfl .nil) (by first | (rw [sh_bad hx (cel_zero hz hz2)]; rfl) | (rw [sh_bad hx (cel_wa hfa)]; rfl) | (rw [sh_bad hx (cel_wb hfb)]; rfl) | (rw [sh_fall hx hy hlt]; rfl) | (rw [hI.all (by omega)]; rfl)) gv
 refine Run.exit ?_
 refine sr ?_
 refine asg rfl rfl ?_
 refine kp [2] rfl ?_
 refine Run.ret ?_
 exact ret_one (.tmp rfl .nil) (by first | (rw [sh_bad hx (cel_zero hz hz2)]; rfl) | (rw [sh_bad hx (cel_wa hfa)]; rfl) | (rw [sh_bad hx (cel_wb hfb)]; rfl) | (rw [sh_fall hx hy hlt]; rfl) | (rw [hI.all (by omega)]; rfl)) gv
theorem c_law6 (R : HP) (x : Rk) (m0 : Int) (hR0 : Rd R ⟨0, 0, none⟩ lensC) (hM : Rd R ⟨1, 0, none⟩ [I m0]) (hx : x.rd R) : AC Tryz.prog 6 ⟨[.agg ⟨x.c⟩]⟩ (stars [R]) (Ret (Bo true) [R]) := by
 have hx2 := hx
 obtain ⟨hxr, hxe, hxl, hrr, hre, hrl, hcr, hce, hcl, hid, hib, him, hzs⟩ := hx2
 refine AC.go Tryz.func6 rfl (Nat.le_of_ble_eq_true rfl) fun β => ?_
 refine sr ?_
 refine RunL.op rfl rfl (OpJ.boxA rfl fun b1 => ?_)
 refine asg rfl rfl ?_
 refine kp [1] rfl ?_
 refine Run.seq ?_
 refine sr ?_
 refine sx 1 ?_
 refine RunL.callX C8 rfl rfl rfl (c_large41 x R hx) tks fun bl hbl => ?_
 refine mvo rfl rfl ?_
 rcases Bool.eq_false_or_eq_true bl with hb | hb
 subst hb
 refine sx 5 ?_
 refine kp [1, 16] rfl ?_
 refine Run.true rfl ?_
 refine sr ?_
 refine asg rfl rfl ?_
 refine kp [2] rfl ?_
 refine Run.ret ?_
 exact ret_one (.tmp rfl .nil) (rfl) gv
 subst hb
 have hf := hbl rfl
 refine sx 2 ?_
 refine RunL.callG C21 rfl rfl rfl rfl rfl (c_rR19 R _ _ x.cs hcr hcl) tks ?_
 refine sx 2 ?_
 refine kp [1, 16] rfl ?_
 first | refine Run.if rfl (fun h1 => ?_) (fun h1 => ?_) | refine Run.cond rfl (fun h1 => ?_) (fun h1 => ?_)
 refine sr ?_
 refine asg rfl rfl ?_
 refine kp [2] rfl ?_
 refine Run.ret ?_
 exact ret_one (.tmp rfl .nil) (rfl) gv
 refine Run.skip ?_
 refine sr ?_
 have hsh : shB x.cs = true := by cases hq : shB x.cs <;> simp_all
 refine sx 1 ?_
 refine RunL.op rfl rfl (OpJ.alloc Z26 fun b3 => ?_)
 refine RunL.op rfl rfl (OpJ.storeW T26 rfl rfl rfl rfl (by simp [Value.oneCell', Tg.c, Ln.c, En.c, Ac.c, Cl.c, Ky.c, Qy.c, Sb, Iv, Cs.c, Rt.c, Rk.c]) up ?_)
 refine kp [1, 3] rfl ?_
 refine sr ?_
 refine sx 1 ?_
 refine RunL.op rfl rfl (OpJ.store1 T24 rfl rfl rfl up (by simp [Rk.c]) ?_)
 refine kp [1, 3] rfl ?_
 refine Run.seq ?_
 refine sr ?_
 refine RunL.ownNil 48 7 ?_
 refine asg rfl rfl ?_
 refine kp [1, 3, 4] rfl ?_
 refine Run.block ?_
 refine Run.weak (L' := [pt b3 (blk (x.wc none 0 ([] : List Cl)).c 26), own 48 7 none ([] : List Cl).length 0 (([] : List Cl).flatMap Cl.c), pt b1 (blk x.c 26), R]) (fun _ _ h => h) gv ?_
 refine Run.loop (fun mm E L => ∃ (i : Nat) (acc : List Cl) (ca : Option Addr) (cc : Nat), mm = x.cs.length - i ∧ i ≤ x.cs.length ∧ acc = ofE x.ent (x.cs.take i) ∧ E = [(1, .pointer (some ⟨b1, 0, none⟩)), (3, .pointer (some ⟨b3, 0, none⟩)), (4, I i)] ∧ L = [pt b3 (blk (x.wc ca cc acc).c 26), own 48 7 ca acc.length cc (acc.flatMap Cl.c), pt b1 (blk x.c 26), R]) ⟨_, 0, [], none, 0, rfl, Nat.zero_le _, rfl, rfl, rfl⟩ ?_
 rintro _ _ _ ⟨i, acc, ca, cc, rfl, hi, hA, rfl, rfl⟩
 refine Run.seq ?_
 refine sr ?_
 refine sx 5 ?_
 refine kp [1, 3, 4, 23] rfl ?_
 first | refine Run.if rfl (fun h2 => ?_) (fun h2 => ?_) | refine Run.cond rfl (fun h2 => ?_) (fun h2 => ?_)
 refine Run.skip ?_
 refine Run.seq ?_
 refine Run.block ?_
 refine Run.seq ?_
 refine regionD HM ?_
 obtain ⟨y, hy⟩ := get_ex (xs := x.cs) (i := i) (by omega)
 refine RunD.rdOpen pk hcr (flat_ne (k := 7) (fun _ => rfl) (by decide) hy) fun bo oo ebo hrd => ?_
 have hcf := hf.cs
 have hal : (x.wc ca cc acc).cs.length ≤ 60 := by { show acc.length ≤ 60; rw [hA]; exact Nat.le_trans (List.length_filter_le ..) (by rw [List.length_take]; omega) }
 have hst := ofE_step (ent := x.ent) hy
 refine tk 0 rfl rfl rfl (DetJ.fieldAddr F26_3 rfl) ?_
 first | refine RunD.takeF 1 rfl rfl kr T24 rfl pk (by rfl) ?_ | refine RunD.takeO 1 rfl rfl kr T24 rfl pk (by assumption) (by rfl) (by exact fun _ => rfl) ?_
 rw [ebo]
 refine tk 2 rfl rfl rfl (DetJ.move rfl) ?_
 refine tk 3 rfl rfl rfl (DetJ.indexAddr S24 rfl rfl (by omega)) ?_
 refine tk 4 rfl rfl rfl (DetJ.fieldAddr F48_0 rfl) ?_
 refine tk 5 rfl rfl rfl (DetJ.fieldAddr F46_0 rfl) ?_
 refine RunD.takeR1 6 rfl rfl kr T9 rfl pk (hrd.at (enc := Cl.c) 7 (fun _ => rfl) hy 0 (St y.k.ent) rfl) ?_
 refine tk 7 rfl rfl rfl (DetJ.fieldAddr F26_4 rfl) ?_
 first | refine RunD.takeF 8 rfl rfl kr T9 rfl pk (by rfl) ?_ | refine RunD.takeO 8 rfl rfl kr T9 rfl pk (by assumption) (by rfl) (by exact fun _ => rfl) ?_
 refine tk 9 rfl rfl rfl (DetJ.eqlS rfl rfl) ?_
 refine kd [1, 3, 4, 35] rfl ?_
 first | refine Run.if rfl (fun h3 => ?_) (fun h3 => ?_) | refine Run.cond rfl (fun h3 => ?_) (fun h3 => ?_)
 refine regionD HM ?_
 refine tk 0 rfl rfl rfl (DetJ.fieldAddr F26_3 rfl) ?_
 first | refine RunD.takeF 1 rfl rfl kr T24 rfl pk (by rfl) ?_ | refine RunD.takeO 1 rfl rfl kr T24 rfl pk (by assumption) (by rfl) (by exact fun _ => rfl) ?_
 refine tk 2 rfl rfl rfl (DetJ.fieldAddr F26_3 rfl) ?_
 first | refine RunD.takeF 3 rfl rfl kr T24 rfl pk (by rfl) ?_ | refine RunD.takeO 3 rfl rfl kr T24 rfl pk (by assumption) (by rfl) (by exact fun _ => rfl) ?_
 rw [ebo]
 refine tk 4 rfl rfl rfl (DetJ.move rfl) ?_
 refine tk 5 rfl rfl rfl (DetJ.indexAddr S24 rfl rfl (by omega)) ?_
 refine RunD.takeR 6 rfl rfl kr T48 rfl pk (hrd.elem (fun _ => rfl) hy) rfl ?_
 refine RunD.op 7 [false, false, false, false, true, true, true] rfl rfl rfl kr kr (OpJ.buildSlice1 S24 rfl rfl rfl (by decide) (by decide) Z48 rfl fun b43 => ⟨po, ?_⟩)
 refine RunD.op 8 [true, false, false] rfl rfl rfl kr kr (OpJ.append1 y S24 M48 rfl rfl pk pk rfl rfl (by simp [Value.oneCell', Tg.c, Ln.c, En.c, Ac.c, Cl.c, Ky.c, Qy.c, Sb, Iv, Cs.c, Rt.c, Rk.c]) rfl (by omega) (by omega) fun a44 c44 => ⟨po, ?_⟩)
 refine tk 9 rfl rfl rfl (DetJ.fieldAddr F26_3 rfl) ?_
 refine RunD.op 10 [false, false] rfl rfl rfl kr kr (OpJ.store1 T24 rfl rfl rfl up (by simp [Rk.c]) ⟨po, ?_⟩)
 refine kd [1, 3, 4] rfl ?_
 refine Run.region ?_
 refine sx 3 ?_
 first
 | have hq : y.k.ent = x.ent := (by assumption)
   rw [if_pos hq] at hst
   exact RunL.next (Keep.sub (kt (ks := [1, 3, 4]) rfl)) _ ⟨_, by omega, i + 1, acc ++ [y], a44, c44, rfl, by omega, (by rw [hst, hA]; try rfl), rfl, rfl⟩ gv
 | have hq : ¬ y.k.ent = x.ent := (by assumption)
   rw [if_neg hq, List.append_nil] at hst
   exact RunL.next (Keep.sub (kt (ks := [1, 3, 4]) rfl)) _ ⟨_, by omega, i + 1, acc, ca, cc, rfl, by omega, (by rw [hst, hA]), rfl, rfl⟩ gv
 refine Run.skip ?_
 refine Run.region ?_
 refine sx 3 ?_
 first
 | have hq : y.k.ent = x.ent := (by assumption)
   rw [if_pos hq] at hst
   exact RunL.next (Keep.sub (kt (ks := [1, 3, 4]) rfl)) _ ⟨_, by omega, i + 1, acc ++ [y], a44, c44, rfl, by omega, (by rw [hst, hA]; try rfl), rfl, rfl⟩ gv
 | have hq : ¬ y.k.ent = x.ent := (by assumption)
   rw [if_neg hq, List.append_nil] at hst
   exact RunL.next (Keep.sub (kt (ks := [1, 3, 4]) rfl)) _ ⟨_, by omega, i + 1, acc, ca, cc, rfl, by omega, (by rw [hst, hA]), rfl, rfl⟩ gv
 refine Run.exit ?_
 refine sr ?_
 obtain rfl : i = x.cs.length := by omega
 rw [List.take_length] at hA
 subst hA
 refine sx 1 ?_
 refine RunL.packs [own 48 7 ca (ofE x.ent x.cs).length cc ((ofE x.ent x.cs).flatMap Cl.c), R] tks ?_
 refine RunL.callX C9 rfl rfl rfl (c_run41 x (stars [own 48 7 ca (ofE x.ent x.cs).length cc ((ofE x.ent x.cs).flatMap Cl.c), R]) m0 (rd_in0 hR0) (rd_in1 hM) (Rk.rd_in hx) hf) tks fun y hye => ?_
 refine sx 3 ?_
 refine RunL.op rfl rfl (OpJ.alloc Z30 fun b5 => ?_)
 refine RunL.op rfl rfl (OpJ.storeW T30 rfl rfl rfl rfl (by simp [Value.oneCell', Tg.c, Ln.c, En.c, Ac.c, Cl.c, Ky.c, Qy.c, Sb, Iv, Cs.c, Rt.c, Rk.c]) up ?_)
 refine asg rfl rfl ?_
 refine kp [3, 5, 6] rfl ?_
 refine sr ?_
 refine sx 1 ?_
 refine RunL.callX C9 rfl rfl rfl (c_run41 (x.wc ca cc (ofE x.ent x.cs)) (stars [own 48 7 ca (ofE x.ent x.cs).length cc ((ofE x.ent x.cs).flatMap Cl.c), R]) m0 (rd_in0 hR0) (rd_in1 hM) (Rk.rd_wc hx own.rds (fun c hc => hce c (List.mem_filter.1 hc).1) (Nat.le_trans (List.length_filter_le ..) hcl)) (hf.wc (List.length_filter_le ..))) tks fun y2 hye2 => ?_
 rw [apart_run hsh]
 rw [apart_run hsh] at hye2
 refine RunL.unstar (As := [own 48 7 ca (ofE x.ent x.cs).length cc ((ofE x.ent x.cs).flatMap Cl.c), R]) pk ?_
 refine sx 3 ?_
 refine RunL.op rfl rfl (OpJ.alloc Z30 fun b7 => ?_)
 refine RunL.op rfl rfl (OpJ.storeW T30 rfl rfl rfl rfl (by simp [Value.oneCell', Tg.c, Ln.c, En.c, Ac.c, Cl.c, Ky.c, Qy.c, Sb, Iv, Cs.c, Rt.c, Rk.c]) up ?_)
 refine asg rfl rfl ?_
 refine kp [5, 6, 7, 8] rfl ?_
 refine sr ?_
 obtain ⟨hyl, hyt⟩ := run_sz hye
 refine sx 2 ?_
 refine RunL.packs [own 40 7 y.la y.lines.length y.lc (y.lines.flatMap Ln.c), big (tagH 83) y.lines] tks ?_
 refine RunL.packs [own 40 7 y2.la y2.lines.length y2.lc (y2.lines.flatMap Ln.c), big (tagH 83) y2.lines] tks ?_
 refine RunL.call C11 rfl rfl rfl (c_r12Same (stars [own 40 7 y.la y.lines.length y.lc (y.lines.flatMap Ln.c), big (tagH 83) y.lines]) (stars [own 40 7 y2.la y2.lines.length y2.lc (y2.lines.flatMap Ln.c), big (tagH 83) y2.lines]) y y2 (hye.trans hye2.symm) (RdS.inl own.rds) (RdS.inl own.rds) (fun z hz => RdS.inr (RdS.inl (big_rds (f := tagH 83) hz own.rds))) (fun z hz => RdS.inr (RdS.inl (big_rds (f := tagH 83) hz own.rds))) hyl hyt) tks ?_
 refine sx 4 ?_
 refine RunL.set (v := Bo true) (congrArg Bo (decide_eq_true rfl)) ?_
 refine sx 2 ?_
 refine RunL.callG C12 rfl rfl rfl rfl rfl (c_lives41 R m0 hR0 hM) tks ?_
 refine sx 2 ?_
 refine kp [2] rfl ?_
 refine Run.ret ?_
 exact ret_one (.tmp rfl .nil) (rfl) gv
end
end Go.Proofs.YtncidoakeflboaaGreatDoor

namespace Go.Proofs.YtncidoakeflboaaGreatDoor
open Go Go.SL Go.ChangeShapes Go.WideShapes Go.ChangeAt Go.WideElems Go.RowKit Go.Deep
def whole (W : World) : HP := fun h => h = fun b => W.heap[b]?
section
variable {H : Type} {enc : TypeId × Value → H} {W : World} {held : Bool}
abbrev Sz (t : TypeId) (d : DataW H) : Prop := ∀ n ∈ d.weights Tryz.prog t, n ≤ reachBytes
theorem i64_of {n : Int} (h : (Lit.int .i64 n).wf = true) : i64 n := by
  have h1 : IntKind.i64.min = -9223372036854775808 := by rfl
  have h2 : IntKind.i64.max = 9223372036854775807 := by rfl
  simp only [Lit.wf, Bool.and_eq_true, decide_eq_true_eq] at h
  rw [h1, h2] at h
  exact h
theorem cof3 : Tryz.prog.cellsOf 3 = 1 := by kernel_rfl
theorem cof9 : Tryz.prog.cellsOf 9 = 1 := by kernel_rfl
theorem cof4 : Tryz.prog.cellsOf 4 = 1 := by kernel_rfl
theorem cof78 : Tryz.prog.cellsOf 78 = 8 := by kernel_rfl
theorem cof107 : Tryz.prog.cellsOf 107 = 5 := by kernel_rfl
theorem cof105 : Tryz.prog.cellsOf 105 = 2 := by kernel_rfl
theorem cof48 : Tryz.prog.cellsOf 48 = 7 := by kernel_rfl
theorem cof46 : Tryz.prog.cellsOf 46 = 5 := by kernel_rfl
theorem cof26 : Tryz.prog.cellsOf 26 = 11 := by kernel_rfl
theorem cof22 : Tryz.prog.cellsOf 22 = 1 := by kernel_rfl
theorem cof23 : Tryz.prog.cellsOf 23 = 1 := by kernel_rfl
theorem cof24 : Tryz.prog.cellsOf 24 = 1 := by kernel_rfl
theorem cof73 : Tryz.prog.cellsOf 73 = 1 := by kernel_rfl
theorem int_at {fuel : Nat} {cs : List Value} {x : DataW H × List MemPlace} (h : DataW.trod enc Tryz.prog W 0 (fun _ => true) held fuel 3 cs = some x) : ∃ n, cs = [I n] ∧ i64 n := by
  obtain ⟨n, h1, _, h2⟩ := DataW.trod_int Tryz.underlying3 h
  exact ⟨n, h1, i64_of h2⟩
theorem bool_at {fuel : Nat} {cs : List Value} {x : DataW H × List MemPlace} (h : DataW.trod enc Tryz.prog W 0 (fun _ => true) held fuel 4 cs = some x) : ∃ b, cs = [Bo b] := by
  obtain ⟨b, h1, _⟩ := DataW.trod_bool Tryz.underlying4 h
  exact ⟨b, h1⟩
theorem str_at {fuel : Nat} {cs : List Value} {x : DataW H × List MemPlace} (h : DataW.trod enc Tryz.prog W 0 (fun _ => true) held fuel 9 cs = some x) : ∃ s, cs = [St s] ∧ (s.size : Int) ≤ 9223372036854775807 := by
  obtain ⟨s, h1, _, hs⟩ := DataW.trod_string Tryz.underlying9 h
  have hmax : (maxLen : Nat) ≤ 9223372036854775807 := by decide
  exact ⟨s, h1, by omega⟩
theorem name_at {fuel : Nat} {cs : List Value} {x : DataW H × List MemPlace} (h : DataW.trod enc Tryz.prog W 0 (fun _ => true) held fuel 9 cs = some x) (_ : Sz 9 x.1) : ∃ s, cs = Sb s ∧ szS s := by
  obtain ⟨s, h1, h2⟩ := str_at h
  exact ⟨s, h1, h2⟩
theorem weightsAll_mem {P : Program} {e : TypeId} {n : Nat} : ∀ {ds : List (DataW H)} {d : DataW H}, d ∈ ds → n ∈ d.weights P e → n ∈ DataW.weightsAll P e ds
  | [], _, h, _ => by cases h
  | c :: r, d, h, hn => by
    simp only [DataW.weightsAll, List.mem_append]
    rcases List.mem_cons.1 h with rfl | h
    · exact .inl hn
    · exact .inr (weightsAll_mem h hn)
theorem fld {t : TypeId} {fs : Array Field} (U : Tryz.prog.underlying t = some (.struct fs)) {fuel : Nat} {cs : List Value} {x : DataW H × List MemPlace} (h : DataW.trod enc Tryz.prog W 0 (fun _ => true) held fuel t cs = some x) (hz : Sz t x.1) :
    ∃ n, cs.length = Tryz.prog.cellsOf t ∧ ∀ (i : Nat) (f : Field), fs[i]? = some f → ∃ y, DataW.trod enc Tryz.prog W 0 (fun _ => true) held n f.type ((cs.drop f.offset).take (Tryz.prog.cellsOf f.type)) = some y ∧ Sz f.type y.1 := by
  obtain ⟨xs, n, _, rfl, hl, hxl, hf⟩ := DataW.trod_struct U h
  refine ⟨n, hl, fun i f hi => ?_⟩
  have hil := (Array.getElem?_eq_some_iff.1 hi).1
  obtain ⟨y, hy⟩ : ∃ y, xs[i]? = some y := ⟨_, List.getElem?_eq_getElem (by omega)⟩
  refine ⟨y, (hf i f hi).trans hy, fun k hk => hz k ?_⟩
  simp only [DataW.weights, U]
  exact DataW.weights_mem_each (j := i) (t := f.type) (d := y.1) (by rw [List.getElem?_map, Array.getElem?_toList, hi]; rfl) (by rw [List.getElem?_map, hy]; rfl) k hk
theorem add_add' (a : Addr) (x y : Nat) : (a.add x).add y = a.add (x + y) := by
  unfold Addr.add
  by_cases hx : x = 0
  · subst hx; simp
  · by_cases hy : y = 0
    · subst hy; simp
    · have : x + y ≠ 0 := by omega
      simp [hx, hy, Nat.add_assoc]
theorem cells_at {a : Addr} {n : Nat} {cs : List Value} (h : W.cells? 0 a n = some cs) : ∀ j v, cs[j]? = some v → W.cell? (a.add j) = some v := fun j v hj => by
  unfold World.cells? at h
  rw [if_pos (Nat.zero_le _)] at h
  have hl := mapM_some_length h
  have hjl := (List.getElem?_eq_some_iff.1 hj).1
  rw [List.length_range] at hl
  have := mapM_some_get h j j (List.getElem?_range (by omega))
  rw [this]; exact hj
theorem whole_rds {a : Addr} {cs : List Value} (h : ∀ j v, cs[j]? = some v → W.cell? (a.add j) = some v) : RdS (whole W) (some a) cs := by
  cases cs with
  | nil => exact RdS.nil
  | cons v0 r =>
    have c0 := h 0 v0 rfl
    obtain ⟨b, o, spot⟩ := a
    have hspot : spot = none := by
      unfold World.cell? at c0
      split at c0
      · split at c0
        · cases c0
        · rename_i hs
          cases spot with
          | none => rfl
          | some s => simp [Addr.add] at hs
      · cases c0
    subst hspot
    have c0' := c0
    unfold World.cell? at c0'
    rw [show ((⟨b, o, none⟩ : Addr).add 0).block = b by rw [Addr.add_eq rfl]] at c0'
    split at c0'
    · rename_i c t fr hh
      intro hp hr
      refine .inr ⟨b, o, rfl, c, t, fr, by rw [hr]; exact hh, fun j v hj => ?_⟩
      have := h j v hj
      rw [Addr.add_eq rfl] at this
      simpa only [World.cell?, hh, Option.isSome_none, Bool.false_eq_true, if_false] using this
    · cases c0'
theorem slice_of {α : Type} {ec : α → List Value} {k : Nat} {Pα : α → Prop} {T ET : TypeId} (U : Tryz.prog.underlying T = some (.slice ET)) (ck : Tryz.prog.cellsOf ET = k) (hk : ∀ x, (ec x).length = k) (k0 : 0 < k) (bb : 1 ≤ Tryz.prog.bytesOf ET)
    (hr : ∀ {fuel : Nat} {cs : List Value} {x : DataW H × List MemPlace}, DataW.trod enc Tryz.prog W 0 (fun _ => true) held fuel ET cs = some x → Sz ET x.1 → ∃ m : α, cs = ec m ∧ Pα m)
    {fuel : Nat} {cs : List Value} {x : DataW H × List MemPlace} (h : DataW.trod enc Tryz.prog W 0 (fun _ => true) held fuel T cs = some x) (hz : Sz T x.1) :
    ∃ (oa : Option Addr) (cap : Nat) (ms : List α), cs = [.slice oa ms.length cap] ∧ (∀ m ∈ ms, Pα m) ∧ ms.length ≤ 140737488355328 ∧ RdS (whole W) oa (ms.flatMap ec) := by
  rcases open_slice U h with ⟨rfl, _⟩ | ⟨a, len, cap, m, n, D, Pl, rfl, _, hlc, hcm, hm, rfl, hel⟩
  · exact ⟨none, 0, [], rfl, (fun m hm => by cases hm), Nat.zero_le _, RdS.nil⟩
  · simp only [if_true] at hm
    subst hm
    have hw : ∀ i, i < len → Sz ET (D i) := fun i hi k hk => hz k (by
      simp only [DataW.weights, U, List.mem_cons, List.mem_append]
      exact .inr (.inl (weightsAll_mem (List.mem_map_of_mem (List.mem_range.2 hi)) hk)))
    have hlen : len ≤ 140737488355328 := by
      have h1 := hz ((((List.range len).map D).length + ((List.range (m - len)).map fun j => D (len + j)).length) * Tryz.prog.bytesOf ET) (by simp only [DataW.weights, U, List.mem_cons, true_or])
      rw [List.length_map, List.length_map, List.length_range, List.length_range] at h1
      have h2 := reachBytes_lt
      have h3 : (len + (m - len)) * 1 ≤ (len + (m - len)) * Tryz.prog.bytesOf ET := Nat.mul_le_mul_left _ bb
      omega
    have key : ∀ i : Fin len, ∃ mv : α, W.cells? 0 (a.add (i * k)) k = some (ec mv) ∧ Pα mv := fun i => by
      obtain ⟨cs', hc, ht⟩ := hel i (by omega)
      rw [ck] at hc
      obtain ⟨mv, rfl, hp⟩ := hr ht (hw i i.2)
      exact ⟨mv, hc, hp⟩
    let f : Fin len → α := fun i => Classical.choose (key i)
    have hfs : ∀ i : Fin len, W.cells? 0 (a.add (i * k)) k = some (ec (f i)) ∧ Pα (f i) := fun i => Classical.choose_spec (key i)
    refine ⟨some a, m, List.ofFn f, by rw [List.length_ofFn], fun mv hmv => ?_, by rw [List.length_ofFn]; exact hlen, whole_rds fun j v hj => ?_⟩
    · obtain ⟨i, rfl⟩ := List.mem_ofFn.1 hmv
      exact (hfs i).2
    · have hjl := (List.getElem?_eq_some_iff.1 hj).1
      rw [flat_len (enc := ec) (k := k) hk, List.length_ofFn] at hjl
      have hi : j / k < len := Nat.div_lt_of_lt_mul (by rw [Nat.mul_comm]; exact hjl)
      have hx : (List.ofFn f)[j / k]? = some (f ⟨j / k, hi⟩) := by rw [List.getElem?_ofFn]; simp [hi]
      have hmod : j % k < k := Nat.mod_lt _ k0
      obtain ⟨v', hv'⟩ : ∃ v', (ec (f ⟨j / k, hi⟩))[j % k]? = some v' := ⟨_, List.getElem?_eq_getElem (by rw [hk]; exact hmod)⟩
      have := flat_get (enc := ec) (k := k) hk _ _ _ hx _ _ hv'
      have hdm : j / k * k + j % k = j := by rw [Nat.mul_comm]; exact Nat.div_add_mod j k
      rw [hdm, hj] at this
      cases this
      have hc := cells_at (hfs ⟨j / k, hi⟩).1 _ _ hv'
      rw [← hc]
      show _ = W.cell? ((a.add (j / k * k)).add (j % k))
      rw [add_add', hdm]
structure KyZ (k : Ky) : Prop where
  ent : szS k.ent
  acc : szS k.acc
  cur : szS k.cur
  partner : szS k.partner
  tags : szS k.tags
structure Fr where
  n : Int
  d : Int
def Fr.c (f : Fr) : List Value := [I f.n, I f.d]
theorem key_of {fuel : Nat} {cs : List Value} {x : DataW H × List MemPlace} (h : DataW.trod enc Tryz.prog W 0 (fun _ => true) held fuel 46 cs = some x) (hz : Sz 46 x.1) : ∃ m : Ky, cs = m.c ∧ KyZ m := by
  obtain ⟨n, hl, hf⟩ := fld Tryz.underlying46 h hz
  rw [cof46] at hl
  have f0 : ∃ y, DataW.trod enc Tryz.prog W 0 (fun _ => true) held n 9 ((cs.drop 0).take (Tryz.prog.cellsOf 9)) = some y ∧ Sz 9 y.1 := hf 0 _ rfl
  rw [cof9] at f0
  obtain ⟨y0, e0, z0⟩ := f0
  obtain ⟨v0, h0, w0⟩ := str_at e0
  have f1 : ∃ y, DataW.trod enc Tryz.prog W 0 (fun _ => true) held n 9 ((cs.drop 1).take (Tryz.prog.cellsOf 9)) = some y ∧ Sz 9 y.1 := hf 1 _ rfl
  rw [cof9] at f1
  obtain ⟨y1, e1, z1⟩ := f1
  obtain ⟨v1, h1, w1⟩ := str_at e1
  have f2 : ∃ y, DataW.trod enc Tryz.prog W 0 (fun _ => true) held n 9 ((cs.drop 2).take (Tryz.prog.cellsOf 9)) = some y ∧ Sz 9 y.1 := hf 2 _ rfl
  rw [cof9] at f2
  obtain ⟨y2, e2, z2⟩ := f2
  obtain ⟨v2, h2, w2⟩ := str_at e2
  have f3 : ∃ y, DataW.trod enc Tryz.prog W 0 (fun _ => true) held n 9 ((cs.drop 3).take (Tryz.prog.cellsOf 9)) = some y ∧ Sz 9 y.1 := hf 3 _ rfl
  rw [cof9] at f3
  obtain ⟨y3, e3, z3⟩ := f3
  obtain ⟨v3, h3, w3⟩ := str_at e3
  have f4 : ∃ y, DataW.trod enc Tryz.prog W 0 (fun _ => true) held n 9 ((cs.drop 4).take (Tryz.prog.cellsOf 9)) = some y ∧ Sz 9 y.1 := hf 4 _ rfl
  rw [cof9] at f4
  obtain ⟨y4, e4, z4⟩ := f4
  obtain ⟨v4, h4, w4⟩ := str_at e4
  clear hf
  match cs, hl with
  | [c0, c1, c2, c3, c4], _ =>
    simp at h0 h1 h2 h3 h4
    subst h0 h1 h2 h3 h4
    exact ⟨⟨v0, v1, v2, v3, v4⟩, rfl, ⟨w0, w1, w2, w3, w4⟩⟩
theorem cell_of {fuel : Nat} {cs : List Value} {x : DataW H × List MemPlace} (h : DataW.trod enc Tryz.prog W 0 (fun _ => true) held fuel 48 cs = some x) (hz : Sz 48 x.1) : ∃ m : Cl, cs = m.c ∧ m.sz := by
  obtain ⟨n, hl, hf⟩ := fld Tryz.underlying48 h hz
  rw [cof48] at hl
  have f0 : ∃ y, DataW.trod enc Tryz.prog W 0 (fun _ => true) held n 46 ((cs.drop 0).take (Tryz.prog.cellsOf 46)) = some y ∧ Sz 46 y.1 := hf 0 _ rfl
  rw [cof46] at f0
  obtain ⟨y0, e0, z0⟩ := f0
  obtain ⟨v0, h0, w0⟩ := key_of e0 z0
  have f1 : ∃ y, DataW.trod enc Tryz.prog W 0 (fun _ => true) held n 3 ((cs.drop 5).take (Tryz.prog.cellsOf 3)) = some y ∧ Sz 3 y.1 := hf 1 _ rfl
  rw [cof3] at f1
  obtain ⟨y1, e1, z1⟩ := f1
  obtain ⟨v1, h1, w1⟩ := int_at e1
  have f2 : ∃ y, DataW.trod enc Tryz.prog W 0 (fun _ => true) held n 3 ((cs.drop 6).take (Tryz.prog.cellsOf 3)) = some y ∧ Sz 3 y.1 := hf 2 _ rfl
  rw [cof3] at f2
  obtain ⟨y2, e2, z2⟩ := f2
  obtain ⟨v2, h2, w2⟩ := int_at e2
  clear hf
  match cs, hl with
  | [c0, c1, c2, c3, c4, c5, c6], _ =>
    simp at h1 h2
    subst h1 h2
    simp [Ky.c] at h0
    obtain ⟨rfl, rfl, rfl, rfl, rfl⟩ := h0
    exact ⟨⟨v0, v1, v2⟩, rfl, ⟨⟨w1, w2, (by have h9 : (v0.tags.size : Int) ≤ _ := w0.tags; show v0.tags.size < _; omega), w0.cur⟩, w0.ent, w0.acc, w0.partner⟩⟩
theorem frac_of {fuel : Nat} {cs : List Value} {x : DataW H × List MemPlace} (h : DataW.trod enc Tryz.prog W 0 (fun _ => true) held fuel 105 cs = some x) (hz : Sz 105 x.1) : ∃ m : Fr, cs = m.c ∧ (i64 m.n ∧ i64 m.d) := by
  obtain ⟨n, hl, hf⟩ := fld Tryz.underlying105 h hz
  rw [cof105] at hl
  have f0 : ∃ y, DataW.trod enc Tryz.prog W 0 (fun _ => true) held n 3 ((cs.drop 0).take (Tryz.prog.cellsOf 3)) = some y ∧ Sz 3 y.1 := hf 0 _ rfl
  rw [cof3] at f0
  obtain ⟨y0, e0, z0⟩ := f0
  obtain ⟨v0, h0, w0⟩ := int_at e0
  have f1 : ∃ y, DataW.trod enc Tryz.prog W 0 (fun _ => true) held n 3 ((cs.drop 1).take (Tryz.prog.cellsOf 3)) = some y ∧ Sz 3 y.1 := hf 1 _ rfl
  rw [cof3] at f1
  obtain ⟨y1, e1, z1⟩ := f1
  obtain ⟨v1, h1, w1⟩ := int_at e1
  clear hf
  match cs, hl with
  | [c0, c1], _ =>
    simp at h0 h1
    subst h0 h1
    exact ⟨⟨v0, v1⟩, rfl, ⟨w0, w1⟩⟩
theorem rate_of {fuel : Nat} {cs : List Value} {x : DataW H × List MemPlace} (h : DataW.trod enc Tryz.prog W 0 (fun _ => true) held fuel 107 cs = some x) (hz : Sz 107 x.1) : ∃ m : Rt, cs = m.c ∧ m.sz := by
  obtain ⟨n, hl, hf⟩ := fld Tryz.underlying107 h hz
  rw [cof107] at hl
  have f0 : ∃ y, DataW.trod enc Tryz.prog W 0 (fun _ => true) held n 9 ((cs.drop 0).take (Tryz.prog.cellsOf 9)) = some y ∧ Sz 9 y.1 := hf 0 _ rfl
  rw [cof9] at f0
  obtain ⟨y0, e0, z0⟩ := f0
  obtain ⟨v0, h0, w0⟩ := str_at e0
  have f1 : ∃ y, DataW.trod enc Tryz.prog W 0 (fun _ => true) held n 3 ((cs.drop 1).take (Tryz.prog.cellsOf 3)) = some y ∧ Sz 3 y.1 := hf 1 _ rfl
  rw [cof3] at f1
  obtain ⟨y1, e1, z1⟩ := f1
  obtain ⟨v1, h1, w1⟩ := int_at e1
  have f2 : ∃ y, DataW.trod enc Tryz.prog W 0 (fun _ => true) held n 3 ((cs.drop 2).take (Tryz.prog.cellsOf 3)) = some y ∧ Sz 3 y.1 := hf 2 _ rfl
  rw [cof3] at f2
  obtain ⟨y2, e2, z2⟩ := f2
  obtain ⟨v2, h2, w2⟩ := int_at e2
  have f3 : ∃ y, DataW.trod enc Tryz.prog W 0 (fun _ => true) held n 105 ((cs.drop 3).take (Tryz.prog.cellsOf 105)) = some y ∧ Sz 105 y.1 := hf 3 _ rfl
  rw [cof105] at f3
  obtain ⟨y3, e3, z3⟩ := f3
  obtain ⟨v3, h3, w3⟩ := frac_of e3 z3
  clear hf
  match cs, hl with
  | [c0, c1, c2, c3, c4], _ =>
    simp at h0 h1 h2
    subst h0 h1 h2
    simp [Fr.c] at h3
    obtain ⟨rfl, rfl⟩ := h3
    exact ⟨⟨v0, v1, v2, v3.n, v3.d⟩, rfl, ⟨w0, w3.1, w3.2, w1, w2⟩⟩
theorem acct_of {fuel : Nat} {cs : List Value} {x : DataW H × List MemPlace} (h : DataW.trod enc Tryz.prog W 0 (fun _ => true) held fuel 78 cs = some x) (hz : Sz 78 x.1) : ∃ m : Ac, cs = m.c ∧ m.rd (whole W) ∧ m.sz := by
  obtain ⟨n, hl, hf⟩ := fld Tryz.underlying78 h hz
  rw [cof78] at hl
  have f0 : ∃ y, DataW.trod enc Tryz.prog W 0 (fun _ => true) held n 9 ((cs.drop 0).take (Tryz.prog.cellsOf 9)) = some y ∧ Sz 9 y.1 := hf 0 _ rfl
  rw [cof9] at f0
  obtain ⟨y0, e0, z0⟩ := f0
  obtain ⟨v0, h0, w0⟩ := str_at e0
  have f1 : ∃ y, DataW.trod enc Tryz.prog W 0 (fun _ => true) held n 9 ((cs.drop 1).take (Tryz.prog.cellsOf 9)) = some y ∧ Sz 9 y.1 := hf 1 _ rfl
  rw [cof9] at f1
  obtain ⟨y1, e1, z1⟩ := f1
  obtain ⟨v1, h1, w1⟩ := str_at e1
  have f2 : ∃ y, DataW.trod enc Tryz.prog W 0 (fun _ => true) held n 3 ((cs.drop 2).take (Tryz.prog.cellsOf 3)) = some y ∧ Sz 3 y.1 := hf 2 _ rfl
  rw [cof3] at f2
  obtain ⟨y2, e2, z2⟩ := f2
  obtain ⟨v2, h2, w2⟩ := int_at e2
  have f3 : ∃ y, DataW.trod enc Tryz.prog W 0 (fun _ => true) held n 4 ((cs.drop 3).take (Tryz.prog.cellsOf 4)) = some y ∧ Sz 4 y.1 := hf 3 _ rfl
  rw [cof4] at f3
  obtain ⟨y3, e3, z3⟩ := f3
  obtain ⟨v3, h3⟩ := bool_at e3
  have f4 : ∃ y, DataW.trod enc Tryz.prog W 0 (fun _ => true) held n 9 ((cs.drop 4).take (Tryz.prog.cellsOf 9)) = some y ∧ Sz 9 y.1 := hf 4 _ rfl
  rw [cof9] at f4
  obtain ⟨y4, e4, z4⟩ := f4
  obtain ⟨v4, h4, w4⟩ := str_at e4
  have f5 : ∃ y, DataW.trod enc Tryz.prog W 0 (fun _ => true) held n 4 ((cs.drop 5).take (Tryz.prog.cellsOf 4)) = some y ∧ Sz 4 y.1 := hf 5 _ rfl
  rw [cof4] at f5
  obtain ⟨y5, e5, z5⟩ := f5
  obtain ⟨v5, h5⟩ := bool_at e5
  have f6 : ∃ y, DataW.trod enc Tryz.prog W 0 (fun _ => true) held n 4 ((cs.drop 6).take (Tryz.prog.cellsOf 4)) = some y ∧ Sz 4 y.1 := hf 6 _ rfl
  rw [cof4] at f6
  obtain ⟨y6, e6, z6⟩ := f6
  obtain ⟨v6, h6⟩ := bool_at e6
  have f7 : ∃ y, DataW.trod enc Tryz.prog W 0 (fun _ => true) held n 73 ((cs.drop 7).take (Tryz.prog.cellsOf 73)) = some y ∧ Sz 73 y.1 := hf 7 _ rfl
  rw [cof73] at f7
  obtain ⟨y7, e7, z7⟩ := f7
  obtain ⟨oa7, cap7, v7, h7, p7, w7, r7⟩ := slice_of (ec := Sb) (k := 1) Tryz.underlying73 cof9 (fun _ => rfl) (by decide) (by decide +kernel) (fun h z => name_at h z) e7 z7
  clear hf
  match cs, hl with
  | [c0, c1, c2, c3, c4, c5, c6, c7], _ =>
    simp at h0 h1 h2 h3 h4 h5 h6 h7
    subst h0 h1 h2 h3 h4 h5 h6 h7
    exact ⟨⟨v0, v1, v2, v3, v4, v5, v6, oa7, cap7, v7⟩, rfl, ⟨r7, w7, w4⟩, w0, w1, w4, p7⟩
theorem case_of {fuel : Nat} {cs : List Value} {x : DataW H × List MemPlace} (h : DataW.trod enc Tryz.prog W 0 (fun _ => true) held fuel 26 cs = some x) (hz : Sz 26 x.1) : ∃ m : Rk, cs = m.c ∧ m.rd (whole W) := by
  obtain ⟨n, hl, hf⟩ := fld Tryz.underlying26 h hz
  rw [cof26] at hl
  have f0 : ∃ y, DataW.trod enc Tryz.prog W 0 (fun _ => true) held n 22 ((cs.drop 0).take (Tryz.prog.cellsOf 22)) = some y ∧ Sz 22 y.1 := hf 0 _ rfl
  rw [cof22] at f0
  obtain ⟨y0, e0, z0⟩ := f0
  obtain ⟨oa0, cap0, v0, h0, p0, w0, r0⟩ := slice_of (ec := Ac.c) (k := 8) Tryz.underlying22 cof78 (fun _ => rfl) (by decide) (by decide +kernel) (fun h z => acct_of h z) e0 z0
  have f1 : ∃ y, DataW.trod enc Tryz.prog W 0 (fun _ => true) held n 9 ((cs.drop 1).take (Tryz.prog.cellsOf 9)) = some y ∧ Sz 9 y.1 := hf 1 _ rfl
  rw [cof9] at f1
  obtain ⟨y1, e1, z1⟩ := f1
  obtain ⟨v1, h1, w1⟩ := str_at e1
  have f2 : ∃ y, DataW.trod enc Tryz.prog W 0 (fun _ => true) held n 23 ((cs.drop 2).take (Tryz.prog.cellsOf 23)) = some y ∧ Sz 23 y.1 := hf 2 _ rfl
  rw [cof23] at f2
  obtain ⟨y2, e2, z2⟩ := f2
  obtain ⟨oa2, cap2, v2, h2, p2, w2, r2⟩ := slice_of (ec := Rt.c) (k := 5) Tryz.underlying23 cof107 (fun _ => rfl) (by decide) (by decide +kernel) (fun h z => rate_of h z) e2 z2
  have f3 : ∃ y, DataW.trod enc Tryz.prog W 0 (fun _ => true) held n 24 ((cs.drop 3).take (Tryz.prog.cellsOf 24)) = some y ∧ Sz 24 y.1 := hf 3 _ rfl
  rw [cof24] at f3
  obtain ⟨y3, e3, z3⟩ := f3
  obtain ⟨oa3, cap3, v3, h3, p3, w3, r3⟩ := slice_of (ec := Cl.c) (k := 7) Tryz.underlying24 cof48 (fun _ => rfl) (by decide) (by decide +kernel) (fun h z => cell_of h z) e3 z3
  have f4 : ∃ y, DataW.trod enc Tryz.prog W 0 (fun _ => true) held n 9 ((cs.drop 4).take (Tryz.prog.cellsOf 9)) = some y ∧ Sz 9 y.1 := hf 4 _ rfl
  rw [cof9] at f4
  obtain ⟨y4, e4, z4⟩ := f4
  obtain ⟨v4, h4, w4⟩ := str_at e4
  have f5 : ∃ y, DataW.trod enc Tryz.prog W 0 (fun _ => true) held n 3 ((cs.drop 5).take (Tryz.prog.cellsOf 3)) = some y ∧ Sz 3 y.1 := hf 5 _ rfl
  rw [cof3] at f5
  obtain ⟨y5, e5, z5⟩ := f5
  obtain ⟨v5, h5, w5⟩ := int_at e5
  have f6 : ∃ y, DataW.trod enc Tryz.prog W 0 (fun _ => true) held n 3 ((cs.drop 6).take (Tryz.prog.cellsOf 3)) = some y ∧ Sz 3 y.1 := hf 6 _ rfl
  rw [cof3] at f6
  obtain ⟨y6, e6, z6⟩ := f6
  obtain ⟨v6, h6, w6⟩ := int_at e6
  have f7 : ∃ y, DataW.trod enc Tryz.prog W 0 (fun _ => true) held n 3 ((cs.drop 7).take (Tryz.prog.cellsOf 3)) = some y ∧ Sz 3 y.1 := hf 7 _ rfl
  rw [cof3] at f7
  obtain ⟨y7, e7, z7⟩ := f7
  obtain ⟨v7, h7, w7⟩ := int_at e7
  have f8 : ∃ y, DataW.trod enc Tryz.prog W 0 (fun _ => true) held n 9 ((cs.drop 8).take (Tryz.prog.cellsOf 9)) = some y ∧ Sz 9 y.1 := hf 8 _ rfl
  rw [cof9] at f8
  obtain ⟨y8, e8, z8⟩ := f8
  obtain ⟨v8, h8, w8⟩ := str_at e8
  have f9 : ∃ y, DataW.trod enc Tryz.prog W 0 (fun _ => true) held n 9 ((cs.drop 9).take (Tryz.prog.cellsOf 9)) = some y ∧ Sz 9 y.1 := hf 9 _ rfl
  rw [cof9] at f9
  obtain ⟨y9, e9, z9⟩ := f9
  obtain ⟨v9, h9, w9⟩ := str_at e9
  have f10 : ∃ y, DataW.trod enc Tryz.prog W 0 (fun _ => true) held n 9 ((cs.drop 10).take (Tryz.prog.cellsOf 9)) = some y ∧ Sz 9 y.1 := hf 10 _ rfl
  rw [cof9] at f10
  obtain ⟨y10, e10, z10⟩ := f10
  obtain ⟨v10, h10, w10⟩ := str_at e10
  clear hf
  match cs, hl with
  | [c0, c1, c2, c3, c4, c5, c6, c7, c8, c9, c10], _ =>
    simp at h0 h1 h2 h3 h4 h5 h6 h7 h8 h9 h10
    subst h0 h1 h2 h3 h4 h5 h6 h7 h8 h9 h10
    exact ⟨⟨oa0, cap0, v0, v1, oa2, cap2, v2, oa3, cap3, v3, v4, v5, v6, v7, v8, v9, v10⟩, rfl, ⟨r0, p0, w0, r2, p2, w2, r3, p3, w3, w5, w6, w7, ⟨w1, w4, w8, w9, w10⟩⟩⟩
end
theorem gLen : Tryz.prog.globalNamed "accounting/days.lengths" = some 0 := by kernel_rfl
def laid1 : List (String × DataW Unit) := [("accounting/days.lengths", Rows.laid_accounting_days_lengths)]
theorem of_laid {W : World} (h : laidMetH Tryz.prog laid1 W) : ∃ t fr, W.heap[0]? = some (.cells ⟨lensC⟩ t fr) := by
  rw [MakeChecks.laidMetH_plain _ _ _ (by kernel_rfl)] at h
  obtain ⟨ps, ⟨g0, t0, cs0, f0, p0, q0, hg0, ht0, hv0, hd0, _, _⟩, _, hfr⟩ := h
  obtain rfl := Option.some.inj (gLen.symm.trans hg0)
  have tl : (Tryz.prog.globals[0]?).map (·.type) = some 237 := by kernel_rfl
  obtain rfl := Option.some.inj (tl.symm.trans ht0)
  obtain ⟨xs, m1, rfl, hx1, hlen, hn, hel⟩ := DataW.trod_array Tryz.underlying237 hd0
  have c176 : Tryz.prog.cellsOf 237 = 12 := by kernel_rfl
  rw [c176] at hlen
  simp only [cof3, Nat.mul_one] at hel
  have hcs : cs0.toList = lensC := by
    simp only [Rows.laid_accounting_days_lengths, Prod.mk.injEq, DataW.agg.injEq] at hx1
    obtain ⟨l⟩ := cs0
    (try simp only at hlen)
    (try simp only at hel)
    (try simp only)
    have get : ∀ i, i < 12 → ∃ (n : Int) (y : DataW Unit × List MemPlace), (l.drop i).take 1 = [.int .i64 n] ∧ xs[i]? = some y ∧ y.1 = .lit (.int .i64 n) := fun i hi => by
      obtain ⟨y, hy⟩ : ∃ y, xs[i]? = some y := ⟨_, List.getElem?_eq_getElem (by omega)⟩
      obtain ⟨n, h1, h2, _⟩ := DataW.trod_int Tryz.underlying3 ((hel i hi).trans hy)
      exact ⟨n, y, h1, hy, by rw [h2]⟩
    have val : ∀ i, i < 12 → ∀ n : Int, ([31, 28, 31, 30, 31, 30, 31, 31, 30, 31, 30, 31] : List Int)[i]? = some n → l[i]? = some (.int .i64 n) := fun i hi n hn' => by
      obtain ⟨n', y, h1, h2, h3⟩ := get i hi
      have h4 : (xs.map (·.1))[i]? = some (.lit (.int .i64 n')) := by rw [List.getElem?_map, h2]; simp [h3]
      rw [← hx1.1] at h4
      have h5 : l[i]? = some (.int .i64 n') := by
        have := congrArg (·[0]?) h1
        simpa [List.getElem?_take] using this
      rw [h5]
      have : i = 0 ∨ i = 1 ∨ i = 2 ∨ i = 3 ∨ i = 4 ∨ i = 5 ∨ i = 6 ∨ i = 7 ∨ i = 8 ∨ i = 9 ∨ i = 10 ∨ i = 11 := by omega
      rcases this with rfl | rfl | rfl | rfl | rfl | rfl | rfl | rfl | rfl | rfl | rfl | rfl <;> (simp at h4 hn'; subst h4; subst hn'; rfl)
    have hll : l.length = 12 := hlen
    show l = lensC
    apply List.ext_getElem?
    intro i
    by_cases hi : i < 12
    · obtain ⟨n, hn'⟩ : ∃ n, lensL[i]? = some n := ⟨_, List.getElem?_eq_getElem (show i < lensL.length from hi)⟩
      rw [val i hi n hn', lensC, List.getElem?_map, hn']; rfl
    · rw [List.getElem?_eq_none (by omega), List.getElem?_eq_none (show lensC.length ≤ i from (by omega : 12 ≤ i))]
  unfold World.var? at hv0
  rw [gLen] at hv0
  simp only [Option.bind_some] at hv0
  split at hv0
  · rename_i cs t fr hh
    cases hv0
    obtain ⟨l⟩ := cs0
    (try simp only at hcs)
    subst hcs
    exact ⟨t, fr, hh⟩
  · cases hv0


theorem ac_whole {P : Program} {f : FuncId} {args : Array Value} {v : Value} {w : World} (h : AC P f args (stars [whole w]) (Ret v [whole w])) : Calls P f args w fun e w' => e = .returned v ∧ Below w.heap.size w w' := by
  have hA : stars [whole w] (fun b => w.heap[b]?) := ⟨fun b => w.heap[b]?, fun _ => none, fun b => .inr rfl, (Hp.add_none' fun _ => rfl).symm, rfl, fun _ => rfl⟩
  have hsub : Hp.sub (fun b => w.heap[b]?) w := fun b o hb => hb
  refine (h w _ hA hsub).mono ?_
  rintro e w' ⟨r, rfl, ⟨⟨h', hQ, hsub', _⟩, hrest⟩⟩
  obtain ⟨rfl, h1, h2, hd', rfl, hR1, h2e⟩ := hQ
  obtain rfl : h1 = fun b => w.heap[b]? := hR1
  refine ⟨rfl, hrest.os, hrest.tape, hrest.output, hrest.size, fun k hk => ?_⟩
  obtain ⟨o, ho⟩ : ∃ o, w.heap[k]? = some o := ⟨_, Array.getElem?_eq_getElem hk⟩
  rw [hsub' k o (by rw [Hp.add_none' h2e]; exact ho), ho]
theorem handed_both {H : Type} {enc : TypeId × Value → H} {a : Assume} {C : Checked} {os : Os} {f : FuncId} {fn : Func} {s : ChangeSpec} {conds : List PathCond} {apart fresh handsOn again : Bool} {X : World → Array Value → Prop}
    (hX : ∀ (w w' : World) (args : Array Value), w.heap = w'.heap → X w args → X w' args)
    (own : ownKnob C.prog.godebug = none) (started : os.Started) (noInit : C.prog.inits.idxOf? f = none) (hfn : C.prog.funcs[f]? = some fn)
    (witness : ∃ (w : World) (tape : Tape) (i : Input), w.os = os ∧ (w.forCall tape i).Shaped C.prog ∧ i.vars = [] ∧ Input.okWide C.prog (w.forCall tape i) .any w.heap.size f i ∧
      ((s.pre enc C.prog fn conds apart (w.forCall tape i).memory i.args ∧ X (w.forCall tape i).memory i.args) ∧ sizedMet enc C.prog fn (OpenSpec.ofChange s) apart (w.forCall tape i).memory i.args) ∧ a.holds C.prog (lone (Frame.enter C.prog f i.args .normal) [] (w.forCall tape i)))
    (contract : ∀ (W : World) (base : Nat) (args : Array Value) (ds gs : List (DataW H)) (before : List MemPlace),
      (∀ (j : Nat) t v, fn.params[j]? = some t → args[j]? = some v → Value.okWide C.prog W .any base t v) →
      DataW.Whole enc C.prog fn.params.toList s.vars apart W args.toList ds gs before →
      (DataW.weightsEach C.prog (fn.params.toList ++ s.plain.varTypes C.prog) (ds ++ gs)).all (· ≤ reachBytes) = true → X W args → W.ShapedOpen C.prog →
      Calls C.prog f args W fun e W' => ∃ v, e = .returned v ∧ s.post enc C.prog fn apart fresh handsOn again W args v W') :
    ReturnsInHanded a C os f .any (fun w args => (s.pre enc C.prog fn conds apart w args ∧ X w args) ∧ sizedMet enc C.prog fn (OpenSpec.ofChange s) apart w args) (s.post enc C.prog fn apart fresh handsOn again) := by
  refine returnsInHanded_of_calls own started noInit witness ?_
  intro w tape i _ hsh _ hok hpre _
  obtain ⟨_, _, _, fn', hfn', _, _, _, _, hval⟩ := hok
  obtain rfl : fn' = fn := Option.some.inj (hfn'.symm.trans hfn)
  obtain ⟨⟨⟨ds, gs, before, hw, _⟩, hx⟩, hz⟩ := hpre
  refine (contract (w.forCall tape i) w.heap.size i.args ds gs before hval (DataW.Whole.of_heap (w' := w.forCall tape i) (by rfl) hw) (hz.weights hw) (hX _ _ _ (by rfl) hx) hsh).mono fun e W' ⟨v, he, hp⟩ => ?_
  subst he
  exact ChangeSpec.post_blind hp
theorem max_of {W : World} (h : W.ShapedOpen Tryz.prog) : ∃ m0, Rd (whole W) ⟨1, 0, none⟩ [I m0] := by
  obtain ⟨m0, h1⟩ := cell_of_shapedOpen_int (g := 1) (t := 3) (zero := #[.int .i64 0]) (k := .i64) h (of_decide_eq_true (by kernel_rfl)) (by kernel_rfl) rfl (by kernel_rfl) (by kernel_rfl) Tryz.underlying3
  refine ⟨m0, (whole_rds (a := ⟨1, 0, none⟩) (cs := [I m0]) fun j v hj => ?_).rd (by simp)⟩
  cases j with
  | zero => simp at hj; subst hj; rw [Addr.add_zero]; exact h1
  | succ j => simp at hj
theorem len_of {W : World} (h : laidMetH Tryz.prog laid1 W) : Rd (whole W) ⟨0, 0, none⟩ lensC := by
  obtain ⟨t, fr, h0⟩ := of_laid h
  exact fun hp hr => ⟨⟨lensC⟩, t, fr, by rw [hr]; exact h0, rfl, fun j v hj => by simpa using hj⟩
theorem law_case {f : FuncId} (hac : ∀ (R : HP) (x : Rk) (m0 : Int), Rd R ⟨0, 0, none⟩ lensC → Rd R ⟨1, 0, none⟩ [I m0] → x.rd R → AC Tryz.prog f ⟨[.agg ⟨x.c⟩]⟩ (stars [R]) (Ret (Bo true) [R]))
    {W : World} {x : Rk} (hx : x.rd (whole W)) (hL : laidMetH Tryz.prog laid1 W) (hS : W.ShapedOpen Tryz.prog) : Calls Tryz.prog f ⟨[.agg ⟨x.c⟩]⟩ W fun e w' => e = .returned (.bool true) ∧ Below W.heap.size W w' := by
  obtain ⟨m0, hM⟩ := max_of hS
  exact ac_whole (hac _ x m0 (len_of hL) hM hx)
theorem knob0 : ownKnob Tryz.prog.godebug = none := by kernel_rfl
theorem laidOut : laidOutB Tryz.prog = true := by kernel_rfl
theorem door_met (os : Os) (args : Array Value) : laidMetH Tryz.prog laid1 ((World.doorLaid Tryz.prog 400 os).forCall (fun _ _ => 0) ⟨#[], args, []⟩).memory :=
  laidMetH_of_parts3 (fuel := 8) (laidMet_of_run' 8 (by kernel_rfl) (by kernel_rfl)) (by kernel_rfl) (by kernel_rfl)
end Go.Proofs.YtncidoakeflboaaGreatDoor
