/- Laws of the walks and of the models, part 6. Merged by program out of: ZL ZM VI VJ ZN ZP ZQ ZO Jo. -/
import Derived.Test.YtcpghpifbgpkjaaGreatDoorB5
import Derived.Test.YtcpghpifbgpkjaaGreatDoorRows
import Derived.Test.YtcpghpifbgpkjaaGreatDoorTie
import Derived.Test.YtcpghpifbgpkjaaGreatDoorCards
import Derived.ProofKit
import Derived.WalkKit
import Derived.LaidMore
import Derived.OpenShut
import Derived.Below
import Derived.ChangeOld
import Derived.SizedLaws
import Derived.Deep.Slices
import Derived.Stop.Joined
set_option linter.unusedVariables false
set_option linter.unusedSimpArgs false
set_option maxRecDepth 20000
set_option maxHeartbeats 4000000
namespace Go.Proofs.YtcpghpifbgpkjaaGreatDoor
open Go Go.SL Go.Proofs
section
attribute [local irreducible] OpJ RunL Run RunD DetJ pt own star Rd RdS EN fillM addMs addErr csOf skOf addC addD
-- accountinglaw39.light
theorem ac11n (R : HP) (oa : Option Addr) (cap : Nat) (ms : List Mv) (hR : RdS R oa (ms.flatMap Mv.c)) (hlen : (ms.length : Int) ≤ 9223372036854775807) : AC Tryz.prog 11 ⟨[.slice oa ms.length cap]⟩ (stars [R]) (Ret (Bo (lightMs ms)) [R]) := by
 refine AC.go Tryz.func11 rfl (Nat.le_of_ble_eq_true rfl) fun β => ?_
 refine sr ?_
 refine asg rfl rfl ?_
 refine kp [0] rfl ?_
 refine Run.seq ?_
 refine sr ?_
 refine sx 3 ?_
 refine kp [0, 6] rfl ?_
 refine cnd rfl (fun h1 => ?_) fun h1 => ?_
 refine sr ?_
 refine asg rfl rfl ?_
 refine kp [2] rfl ?_
 refine Run.ret ?_
 exact ret_one (.tmp rfl .nil) (by rw [light_1 (by assumption)]; rfl) gv
 refine Run.skip ?_
 refine Run.seq ?_
 refine sr ?_
 refine asg rfl rfl ?_
 refine kp [0, 3] rfl ?_
 refine Run.block ?_
 refine Run.weak (L' := [R]) (fun _ _ h => h) gv ?_
 refine Run.loop (fun mm E L => ∃ i : Nat, mm = ms.length - i ∧ i ≤ ms.length ∧ (∀ (j : Nat) (y : Mv), j < i → ms[j]? = some y → heavyM y = false) ∧ E = [(0, .slice oa ms.length cap), (3, I i)] ∧ L = [R]) ⟨_, 0, rfl, Nat.zero_le _, fun _ _ h => by omega, rfl, rfl⟩ ?_
 rintro _ _ _ ⟨i, rfl, hi, hI0, rfl, rfl⟩
 refine Run.seq ?_
 refine sr ?_
 refine sx 4 ?_
 refine kp [0, 3, 10] rfl ?_
 refine cnd rfl (fun h2 => ?_) fun h2 => ?_
 refine Run.skip ?_
 refine Run.seq ?_
 refine Run.block ?_
 refine sr ?_
 obtain ⟨x, hx⟩ := get_ex (xs := ms) (by omega)
 refine RunL.rdOpen pk hR (flat_ne (k := 8) (fun _ => rfl) (by decide) hx) fun b o e hrd => ?_
 subst e
 refine sx 4 ?_
 refine RunL.op rfl rfl (OpJ.load1 inferInstance rfl pk (hrd.mv hx 2 (St x.item) rfl) ?_)
 refine sx 3 ?_
 first | refine RunL.splitP (t := 20) rfl (fun g3 => ?_) (fun g3 => ?_) | refine RunL.split (t := 20) rfl (fun g3 => ?_) (fun g3 => ?_)
 refine sx 8 ?_
 refine kp [0, 3, 28] rfl ?_
 refine Run.true rfl ?_
 refine sr ?_
 refine asg rfl rfl ?_
 refine kp [2] rfl ?_
 refine Run.ret ?_
 exact ret_one (.tmp rfl .nil) (by rw [light_2 hx (.inl (by assumption))]; rfl) gv
 refine sx 4 ?_
 refine RunL.yes rfl rfl rfl rfl (OpJ.load1 inferInstance rfl pk (hrd.mv hx 6 (St x.lot) rfl) ?_)
 refine sx 3 ?_
 refine kp [0, 3, 28] rfl ?_
 refine cnd rfl (fun h4 => ?_) fun h4 => ?_
 refine sr ?_
 refine asg rfl rfl ?_
 refine kp [2] rfl ?_
 refine Run.ret ?_
 exact ret_one (.tmp rfl .nil) (by rw [light_2 hx (.inr (by assumption))]; rfl) gv
 refine Run.skip ?_
 refine Run.region ?_
 refine sx 3 ?_
 exact RunL.next (Keep.sub (kt (ks := [0, 3]) rfl)) _ ⟨_, by omega, i + 1, rfl, by omega, notYetM hx (heavy_no (by assumption) (by assumption)) hI0, rfl, rfl⟩ gv
 refine Run.exit ?_
 refine sr ?_
 refine asg rfl rfl ?_
 refine kp [2] rfl ?_
 refine Run.ret ?_
 exact ret_one (.tmp rfl .nil) (by rw [light_3 (by assumption) (by omega) hI0]; rfl) gv
-- accountinglaw39.move
theorem ac32n (a b c d e : Int) : AC Tryz.prog 32 ⟨[I a, I b, I c, I d, I e]⟩ (stars []) (Ret (.agg ⟨(mvX a b c d e).c⟩) []) := by
 refine AC.go Tryz.func32 rfl (Nat.le_of_ble_eq_true rfl) fun β => ?_
 refine sr ?_
 refine RunL.op rfl rfl (OpJ.alloc nZ35 fun b10 => ?_)
 refine kp [0, 1, 2, 3, 4, 10] rfl ?_
 refine sr ?_
 refine sx 7 ?_
 refine kp [10] rfl ?_
 refine Run.ret ?_
 exact ret_one (.cellA nT35 rfl pk (by rfl) .nil) (rfl) gv
-- accountingref39.SameAdj
theorem ac18n (ls : List Aj) (ca : Option Addr) (cc : Nat) (ca2 : Option Addr) (cc2 : Nat) (R1 R2 : HP) (hR1 : RdS R1 ca (ls.flatMap Aj.c)) (hR2 : RdS R2 ca2 (ls.flatMap Aj.c)) (hn : ls.length ≤ 1000000) : AC Tryz.prog 18 ⟨[.slice ca ls.length cc, .slice ca2 ls.length cc2]⟩ (stars [R1, R2]) (Ret (Bo true) [R1, R2]) := by
 refine AC.go Tryz.func18 rfl (Nat.le_of_ble_eq_true rfl) fun β => ?_
 refine sr ?_
 refine asg rfl rfl ?_
 refine kp [0, 1] rfl ?_
 refine Run.seq ?_
 refine sr ?_
 refine sx 5 ?_
 refine RunL.set (congrArg Value.bool (decide_eq_false (fun h => h rfl))) ?_
 refine kp [0, 1, 10] rfl ?_
 refine Run.false rfl ?_
 refine Run.skip ?_
 refine Run.seq ?_
 refine sr ?_
 refine asg rfl rfl ?_
 refine kp [0, 1, 5] rfl ?_
 refine Run.block ?_
 refine Run.weak (L' := [R1, R2]) (fun _ _ h => h) gv ?_
 refine Run.loop (fun mm E L => ∃ i : Nat, mm = ls.length - i ∧ i ≤ ls.length ∧ E = [(0, .slice ca ls.length cc), (1, .slice ca2 ls.length cc2), (5, I i)] ∧ L = [R1, R2]) ⟨_, 0, rfl, Nat.zero_le _, rfl, rfl⟩ ?_
 rintro _ _ _ ⟨i, rfl, hi, rfl, rfl⟩
 refine Run.seq ?_
 refine sr ?_
 refine sx 4 ?_
 refine kp [0, 1, 5, 14] rfl ?_
 refine cnd rfl (fun h1 => ?_) fun h1 => ?_
 refine Run.skip ?_
 refine Run.seq ?_
 refine Run.block ?_
 refine Run.seq ?_
 refine regionD HM ?_
 obtain ⟨x, hx⟩ := get_ex (xs := ls) (by omega)
 refine RunD.rdOpen (R := R1) pk hR1 (flat_ne (k := 3) (fun _ => rfl) (by decide) hx) fun b1 o1 e hrd1 => ?_
 subst e
 refine RunD.rdOpen (R := R2) pk hR2 (flat_ne (k := 3) (fun _ => rfl) (by decide) hx) fun b2 o2 e hrd2 => ?_
 subst e
 refine dx [0, 1, 2] ?_
 refine RunD.takeR (R := R1) 3 rfl rfl kr nT41 rfl pk (hrd1.elem (fun _ => rfl) hx) rfl ?_
 refine dx [4, 5, 6] ?_
 refine RunD.takeR (R := R2) 7 rfl rfl kr nT41 rfl pk (hrd2.elem (fun _ => rfl) hx) rfl ?_
 refine dx [8] ?_
 refine RunD.set (v := Bo false) (congrArg Value.bool (by simp)) ?_
 refine kd [0, 1, 5, 25] rfl ?_
 refine Run.false rfl ?_
 refine Run.skip ?_
 refine Run.region ?_
 refine sx 3 ?_
 exact RunL.next (Keep.sub (kt (ks := [0, 1, 5]) rfl)) _ ⟨_, by omega, i + 1, rfl, by omega, rfl, rfl⟩ gv
 refine Run.exit ?_
 refine sr ?_
 refine asg rfl rfl ?_
 refine kp [4] rfl ?_
 refine Run.ret ?_
 exact ret_one (.tmp rfl .nil) (rfl) gv
-- accountingref33.Same
theorem ac22n (ls : List Mv) (ca : Option Addr) (cc : Nat) (ca2 : Option Addr) (cc2 : Nat) (R1 R2 : HP) (hR1 : RdS R1 ca (ls.flatMap Mv.c)) (hR2 : RdS R2 ca2 (ls.flatMap Mv.c)) (hn : ls.length ≤ 1000000) : AC Tryz.prog 22 ⟨[.slice ca ls.length cc, .slice ca2 ls.length cc2]⟩ (stars [R1, R2]) (Ret (Bo true) [R1, R2]) := by
 refine AC.go Tryz.func22 rfl (Nat.le_of_ble_eq_true rfl) fun β => ?_
 refine sr ?_
 refine asg rfl rfl ?_
 refine kp [0, 1] rfl ?_
 refine Run.seq ?_
 refine sr ?_
 refine sx 5 ?_
 refine RunL.set (congrArg Value.bool (decide_eq_false (fun h => h rfl))) ?_
 refine kp [0, 1, 10] rfl ?_
 refine Run.false rfl ?_
 refine Run.skip ?_
 refine Run.seq ?_
 refine sr ?_
 refine asg rfl rfl ?_
 refine kp [0, 1, 5] rfl ?_
 refine Run.block ?_
 refine Run.weak (L' := [R1, R2]) (fun _ _ h => h) gv ?_
 refine Run.loop (fun mm E L => ∃ i : Nat, mm = ls.length - i ∧ i ≤ ls.length ∧ E = [(0, .slice ca ls.length cc), (1, .slice ca2 ls.length cc2), (5, I i)] ∧ L = [R1, R2]) ⟨_, 0, rfl, Nat.zero_le _, rfl, rfl⟩ ?_
 rintro _ _ _ ⟨i, rfl, hi, rfl, rfl⟩
 refine Run.seq ?_
 refine sr ?_
 refine sx 4 ?_
 refine kp [0, 1, 5, 14] rfl ?_
 refine cnd rfl (fun h1 => ?_) fun h1 => ?_
 refine Run.skip ?_
 refine Run.seq ?_
 refine Run.block ?_
 refine Run.seq ?_
 refine regionD HM ?_
 obtain ⟨x, hx⟩ := get_ex (xs := ls) (by omega)
 refine RunD.rdOpen (R := R1) pk hR1 (flat_ne (k := 8) (fun _ => rfl) (by decide) hx) fun b1 o1 e hrd1 => ?_
 subst e
 refine RunD.rdOpen (R := R2) pk hR2 (flat_ne (k := 8) (fun _ => rfl) (by decide) hx) fun b2 o2 e hrd2 => ?_
 subst e
 refine dx [0, 1, 2] ?_
 refine RunD.takeR (R := R1) 3 rfl rfl kr nT35 rfl pk (hrd1.elem (fun _ => rfl) hx) rfl ?_
 refine dx [4, 5, 6] ?_
 refine RunD.takeR (R := R2) 7 rfl rfl kr nT35 rfl pk (hrd2.elem (fun _ => rfl) hx) rfl ?_
 refine dx [8] ?_
 refine RunD.set (v := Bo false) (congrArg Value.bool (by simp)) ?_
 refine kd [0, 1, 5, 25] rfl ?_
 refine Run.false rfl ?_
 refine Run.skip ?_
 refine Run.region ?_
 refine sx 3 ?_
 exact RunL.next (Keep.sub (kt (ks := [0, 1, 5]) rfl)) _ ⟨_, by omega, i + 1, rfl, by omega, rfl, rfl⟩ gv
 refine Run.exit ?_
 refine sr ?_
 refine asg rfl rfl ?_
 refine kp [4] rfl ?_
 refine Run.ret ?_
 exact ret_one (.tmp rfl .nil) (rfl) gv
-- accountinglaw39.fill
theorem ac27n (k p : Int) (R : HP) (oa : Option Addr) (cap : Nat) (ms : List Mv) (hR : RdS R oa (ms.flatMap Mv.c)) (hlen : (ms.length : Int) ≤ 9223372036854775807) (R0 : HP) (hR0 : Rd R0 ⟨0, 0, none⟩ lensC) : AC Tryz.prog 27 ⟨[.agg ⟨[I k, I p]⟩, .slice oa ms.length cap]⟩ (stars [R, R0]) (Outs (fun _ : Nat => True) (fun b => .pointer (if startE k p = 0 then some ⟨b, 0, none⟩ else none)) (fun b => if startE k p = 0 then [EN b k p (fillM k p ms), R, R0] else [R, R0])) := by
 refine AC.go Tryz.func27 rfl (Nat.le_of_ble_eq_true rfl) fun β => ?_
 refine sr ?_
 refine RunL.op rfl rfl (OpJ.boxA rfl fun b2 => ?_)
 refine asg rfl rfl ?_
 refine kp [1, 2] rfl ?_
 refine sr ?_
 refine sx 4 ?_
 refine RunL.callX nC10 rfl rfl rfl (enNew k p) .nil fun bg _ => ?_
 by_cases h0 : startE k p = 0
 simp only [if_pos h0, List.cons_append, List.nil_append]
 refine sx 5 ?_
 refine kp [1, 5, 6] rfl ?_
 refine Run.seq ?_
 refine sr ?_
 refine sx 2 ?_
 refine RunL.set (v := Bo false) (congrArg Value.bool (decide_eq_false (fun h => h h0))) ?_
 refine sx 4 ?_
 refine kp [1, 5, 22] rfl ?_
 refine Run.false rfl ?_
 refine Run.skip ?_
 refine Run.seq ?_
 refine sr ?_
 refine asg rfl rfl ?_
 refine kp [1, 5, 7] rfl ?_
 refine Run.block ?_
 rw [← fillM_0 (k := k) (p := p) (ms := ms)]
 refine Run.weak (L' := [EN bg k p (fillM k p (ms.take 0)), R, R0]) (fun _ _ h => h) gv ?_
 refine Run.loop (fun mm E L => ∃ i : Nat, mm = ms.length - i ∧ i ≤ ms.length ∧ E = [(1, .slice oa ms.length cap), (5, Pt bg), (7, I i)] ∧ L = [EN bg k p (fillM k p (ms.take i)), R, R0]) ⟨_, 0, rfl, Nat.zero_le _, rfl, rfl⟩ ?_
 rintro _ _ _ ⟨i, rfl, hi, rfl, rfl⟩
 refine Run.seq ?_
 refine sr ?_
 refine sx 4 ?_
 refine kp [1, 5, 7, 26] rfl ?_
 refine cnd rfl (fun h1 => ?_) fun h1 => ?_
 refine Run.skip ?_
 refine Run.seq ?_
 refine Run.block ?_
 refine sr ?_
 obtain ⟨x, hx⟩ := get_ex (xs := ms) (by omega)
 refine RunL.rdOpen pk hR (flat_ne (k := 8) (fun _ => rfl) (by decide) hx) fun b o e hrd => ?_
 subst e
 have hfl := (fill_good h0 (ms.take i)).n
 refine sx 3 ?_
 refine RunL.op rfl rfl (OpJ.loadA inferInstance rfl pk (hrd.elem (fun _ => rfl) hx) rfl ?_)
 refine RunL.op rfl rfl (OpJ.alloc nZ35 fun b8 => ?_)
 refine sx 1 ?_
 refine kp [1, 5, 7, 8] rfl ?_
 refine sr ?_
 refine mvo rfl rfl ?_
 refine RunL.call nC13 rfl rfl rfl (enLen bg k p (fillM k p (ms.take i))) tks ?_
 refine sx 2 ?_
 refine RunL.op rfl rfl (OpJ.store1 inferInstance rfl rfl rfl up (by show 0 < 8; decide) ?_)
 refine kp [1, 5, 7, 8] rfl ?_
 refine Run.region ?_
 refine sx 2 ?_
 refine RunL.callX nC14 rfl rfl rfl (enAdd bg k p (fillM k p (ms.take i)) { x with seq := ((fillM k p (ms.take i)).length : Int) + 1 } R0 hR0) tks fun ⟨ja, jc⟩ _ => ?_
 refine kp [1, 5, 7] rfl ?_
 refine Run.region ?_
 refine sx 3 ?_
 rw [← fillM_succ hx]
 exact RunL.next (Keep.sub (kt (ks := [1, 5, 7]) rfl)) _ ⟨_, by omega, i + 1, rfl, by omega, rfl, rfl⟩ gv
 refine Run.exit ?_
 refine sr ?_
 refine sx 2 ?_
 refine kp [4] rfl ?_
 refine Run.ret ?_
 have hfin : ms.take i = ms := List.take_of_length_le (by omega); rw [hfin]; exact ret_out bg (.tmp rfl .nil) trivial rfl gv
 simp only [if_neg h0, List.nil_append]
 refine sx 5 ?_
 refine kp [1, 5, 6] rfl ?_
 refine Run.seq ?_
 refine sr ?_
 refine sx 2 ?_
 refine RunL.set (v := Bo true) (congrArg Value.bool (decide_eq_true h0)) ?_
 refine sx 4 ?_
 refine kp [1, 5, 22] rfl ?_
 refine Run.true rfl ?_
 refine sr ?_
 refine asg rfl rfl ?_
 refine kp [4] rfl ?_
 refine Run.ret ?_
 exact ret_out 0 (.tmp rfl .nil) trivial rfl gv
-- accountinglaw39.alone
theorem ac28n (R : HP) (oa : Option Addr) (cap : Nat) (ms : List Mv) (hR : RdS R oa (ms.flatMap Mv.c)) (hlen : (ms.length : Int) ≤ 9223372036854775807) : AC Tryz.prog 28 ⟨[.slice oa ms.length cap]⟩ (stars [R]) (Outs (fun b : Bool => b = true → Alone ms) (fun b => Bo b) (fun _ => [R])) := by
 refine AC.go Tryz.func28 rfl (Nat.le_of_ble_eq_true rfl) fun β => ?_
 refine sr ?_
 refine asg rfl rfl ?_
 refine kp [0] rfl ?_
 refine Run.seq ?_
 refine sr ?_
 refine asg rfl rfl ?_
 refine kp [0, 3] rfl ?_
 refine Run.block ?_
 refine Run.weak (L' := [R]) (fun _ _ h => h) gv ?_
 refine Run.loop (fun mm E L => ∃ i : Nat, mm = ms.length - i ∧ i ≤ ms.length ∧ AloneTo ms i ∧ E = [(0, .slice oa ms.length cap), (3, I i)] ∧ L = [R]) ⟨_, 0, rfl, Nat.zero_le _, fun a x h => by omega, rfl, rfl⟩ ?_
 rintro _ _ _ ⟨i, rfl, hi, hI0, rfl, rfl⟩
 refine Run.seq ?_
 refine sr ?_
 refine sx 4 ?_
 refine kp [0, 3, 8] rfl ?_
 refine cnd rfl (fun h1 => ?_) fun h1 => ?_
 refine Run.skip ?_
 refine Run.seq ?_
 refine Run.block ?_
 refine Run.seq ?_
 refine sr ?_
 obtain ⟨x, hx⟩ := get_ex (xs := ms) (by omega)
 refine RunL.rdOpen pk hR (flat_ne (k := 8) (fun _ => rfl) (by decide) hx) fun b o e hrd => ?_
 subst e
 refine sx 4 ?_
 refine RunL.op rfl rfl (OpJ.load1 inferInstance rfl pk (hrd.mv hx 3 (I x.kind) rfl) ?_)
 refine sx 1 ?_
 refine kp [0, 3, 16] rfl ?_
 refine cnd rfl (fun h2 => ?_) fun h2 => ?_
 refine sr ?_
 refine asg rfl rfl ?_
 refine kp [2] rfl ?_
 refine Run.ret ?_
 exact ret_out false (.tmp rfl .nil) (fun h => by cases h) rfl gv
 refine Run.skip ?_
 refine sr ?_
 refine asg rfl rfl ?_
 refine kp [0, 3, 4] rfl ?_
 refine Run.block ?_
 refine Run.loop (fun mm E L => ∃ q : Nat, mm = i - q ∧ q ≤ i ∧ (∀ (b : Nat) (y : Mv), b < q → ms[b]? = some y → y.value ≠ x.value) ∧ E = [(0, .slice (some ⟨b, o, none⟩) ms.length cap), (3, I i), (4, I q)] ∧ L = [R]) ⟨_, 0, rfl, Nat.zero_le _, fun bb y h => by omega, rfl, rfl⟩ ?_
 rintro _ _ _ ⟨q, rfl, hq, hJ, rfl, rfl⟩
 refine Run.seq ?_
 refine sr ?_
 refine sx 3 ?_
 refine kp [0, 3, 4, 19] rfl ?_
 refine cnd rfl (fun h3 => ?_) fun h3 => ?_
 refine Run.skip ?_
 refine Run.seq ?_
 refine Run.block ?_
 refine Run.seq ?_
 refine regionD HM ?_
 obtain ⟨y, hy⟩ := get_ex (xs := ms) (i := q) (by omega)
 refine dx [0, 1, 2, 3] ?_
 refine RunD.takeR1 4 rfl rfl kr nT3 rfl pk (hrd.mv hy 1 (I y.value) rfl) ?_
 refine dx [5, 6, 7, 8] ?_
 refine RunD.takeR1 9 rfl rfl kr nT3 rfl pk (hrd.mv hx 1 (I x.value) rfl) ?_
 refine dx [10] ?_
 refine kd [0, 3, 4, 32] rfl ?_
 refine cnd rfl (fun h4 => ?_) fun h4 => ?_
 refine sr ?_
 refine asg rfl rfl ?_
 refine kp [2] rfl ?_
 refine Run.ret ?_
 exact ret_out false (.tmp rfl .nil) (fun h => by cases h) rfl gv
 refine Run.skip ?_
 refine Run.region ?_
 refine sx 3 ?_
 exact RunL.next (Keep.sub (kt (ks := [0, 3, 4]) rfl)) _ ⟨_, by omega, q + 1, rfl, by omega, val_next hy (by assumption) hJ, rfl, rfl⟩ gv
 refine Run.exit ?_
 refine Run.region ?_
 refine sx 3 ?_
 exact RunL.next (Keep.sub (kt (ks := [0, 3]) rfl)) _ ⟨_, by omega, i + 1, rfl, by omega, hI0.next hx (by omega) (by intro bb yy hb hy; exact hJ bb yy (by omega) hy), rfl, rfl⟩ gv
 refine Run.exit ?_
 refine sr ?_
 refine asg rfl rfl ?_
 refine kp [2] rfl ?_
 refine Run.ret ?_
 exact ret_out true (.tmp rfl .nil) (fun _ => by obtain rfl : i = ms.length := (by omega); exact hI0) rfl gv
-- moves.Order$1
theorem ac47n (bx : Nat) (m y : Mv) : AC Tryz.prog 47 ⟨[.agg ⟨y.c⟩, .pointer (some ⟨bx, 0, none⟩)]⟩ (stars [pt bx (blk m.c 35)]) (Ret (Bo (ordP m y)) [pt bx (blk m.c 35)]) := by
 refine AC.go Tryz.func47 rfl (Nat.le_of_ble_eq_true rfl) fun β => ?_
 refine sr ?_
 refine RunL.op rfl rfl (OpJ.boxA rfl fun b2 => ?_)
 refine asg rfl rfl ?_
 refine kp [1, 2] rfl ?_
 refine sr ?_
 refine sx 6 ?_
 first | refine RunL.splitP (t := 9) rfl (fun g1 => ?_) (fun g1 => ?_) | refine RunL.split (t := 9) rfl (fun g1 => ?_) (fun g1 => ?_)
 refine sx 14 ?_
 refine kp [3] rfl ?_
 refine Run.ret ?_
 exact ret_one (.tmp rfl .nil) (congrArg Bo (by unfold ordP; first | (simp_all; done) | (simp_all; omega))) gv
 refine sx 6 ?_
 first | refine RunL.splitP (t := 15) rfl (fun g2 => ?_) (fun g2 => ?_) | refine RunL.split (t := 15) rfl (fun g2 => ?_) (fun g2 => ?_)
 refine sx 8 ?_
 refine kp [3] rfl ?_
 refine Run.ret ?_
 exact ret_one (.tmp rfl .nil) (congrArg Bo (by unfold ordP; first | (simp_all; done) | (simp_all; omega))) gv
 refine sx 8 ?_
 refine kp [3] rfl ?_
 refine Run.ret ?_
 exact ret_one (.tmp rfl .nil) (congrArg Bo (by unfold ordP; first | (simp_all; done) | (simp_all; omega))) gv
-- moves.insert[api.Move]
theorem ac46n (R F : HP) (cp : List Value) (fid : Nat) (p : Mv → Bool) (oa : Option Addr) (cap : Nat) (os : List Mv) (m : Mv) (hR : RdS R oa (os.flatMap Mv.c)) (hlen : os.length ≤ 1000000) (hcap : os.length ≤ cap) (hC : CI Tryz.prog fid) (hm : Mono p os) (hf : ∀ y ∈ os, AC Tryz.prog fid ⟨[.agg ⟨y.c⟩] ++ cp⟩ (stars [F]) (Ret (Bo (p y)) [F])) : AC Tryz.prog 46 ⟨[.slice oa os.length cap, .agg ⟨m.c⟩, .func (.func fid) ⟨[]⟩ ⟨cp⟩]⟩ (stars [R, F]) (Outs (fun _ : Option Addr × Nat => True) (fun x => .slice x.1 (insB p m os).length x.2) (fun x => [own 35 8 x.1 (insB p m os).length x.2 ((insB p m os).flatMap Mv.c), R, F])) := by
 refine AC.go Tryz.func46 rfl (Nat.le_of_ble_eq_true rfl) fun β => ?_
 refine sr ?_
 refine RunL.op rfl rfl (OpJ.boxA rfl fun b4 => ?_)
 refine asg rfl rfl ?_
 refine kp [0, 2, 4] rfl ?_
 refine sr ?_
 refine sx 4 ?_
 refine kp [0, 2, 4, 7, 8] rfl ?_
 refine Run.seq ?_
 refine Run.block ?_
 refine Run.loop (fun mm E L => ∃ (i j : Nat), mm = j - i ∧ i ≤ j ∧ j ≤ os.length ∧ (∀ (k : Nat) (y : Mv), k < i → os[k]? = some y → p y = false) ∧ (∀ (k : Nat) (y : Mv), j ≤ k → os[k]? = some y → p y = true) ∧ E = [(0, .slice oa os.length cap), (2, .func (.func fid) ⟨[]⟩ ⟨cp⟩), (4, .pointer (some ⟨b4, 0, none⟩)), (7, I (i : Nat)), (8, I (j : Nat))] ∧ L = [pt b4 (blk m.c 35), R, F]) ⟨_, 0, os.length, rfl, Nat.zero_le _, Nat.le_refl _, fun k y h => by omega, fun k y h hy => by have := (List.getElem?_eq_some_iff.1 hy).1; omega, rfl, rfl⟩ ?_
 rintro _ _ _ ⟨i, j, rfl, hij, hj, hI0, hI1, rfl, rfl⟩
 refine Run.seq ?_
 refine sr ?_
 refine sx 3 ?_
 refine kp [0, 2, 4, 7, 8, 14] rfl ?_
 refine cnd rfl (fun h1 => ?_) fun h1 => ?_
 refine Run.skip ?_
 refine Run.block ?_
 refine sr ?_
 refine sx 4 ?_
 refine RunL.set (v := I (((i + j) / 2 : Nat) : Int)) (congrArg I (by rw [Int.tdiv_eq_ediv_of_nonneg (by omega), wrap_i64_in (by omega)]; omega)) ?_
 refine asg rfl rfl ?_
 refine kp [0, 2, 4, 7, 8, 9] rfl ?_
 refine sr ?_
 obtain ⟨y, hmid⟩ := get_ex (xs := os) (i := (i + j) / 2) (by omega)
 refine RunL.rdOpen pk hR (flat_ne (k := 8) (fun _ => rfl) (by decide) hmid) fun b o e hrd => ?_
 subst e
 refine sx 4 ?_
 refine RunL.op rfl rfl (OpJ.loadA inferInstance rfl pk (hrd.elem (fun _ => rfl) hmid) rfl ?_)
 refine RunL.call hC rfl rfl rfl (hf y (List.mem_of_getElem? hmid)) tks ?_
 refine kp [0, 2, 4, 7, 8, 9, 24] rfl ?_
 refine cnd rfl (fun h2 => ?_) fun h2 => ?_
 refine Run.region ?_
 refine sx 2 ?_
 exact RunL.next (Keep.sub (kt (ks := [0, 2, 4, 7, 8]) rfl)) _ ⟨_, by omega, i, (i + j) / 2, rfl, by omega, by omega, hI0, fun k y hk hy => hm _ _ _ _ hk hmid hy (by assumption), rfl, rfl⟩ gv
 refine Run.region ?_
 refine sx 3 ?_
 exact RunL.next (Keep.sub (kt (ks := [0, 2, 4, 7, 8]) rfl)) _ ⟨_, by omega, (i + j) / 2 + 1, j, rfl, by omega, hj, fun k y hk hy => hm.down hmid (by simpa using ‹_›) (show k ≤ (i + j) / 2 by omega) hy, hI1, rfl, rfl⟩ gv
 refine Run.exit ?_
 refine Run.seq ?_
 refine regionD HM ?_
 obtain rfl : i = j := by omega
 have hcut := cutN_mid (p := p) (o := os) (n := i) (by omega) hI0 (fun y hy => hI1 i y (Nat.le_refl _) hy)
 have hins := insB_eq p m os
 rw [hcut] at hins
 refine dx [0, 1, 2] ?_
 refine tk 3 rfl rfl rfl (DetJ.sliceHiMax nS24 rfl rfl rfl (by omega)) ?_
 refine dx [4, 7, 8] ?_
 refine tk 9 rfl rfl rfl (DetJ.sliceLoA nS24 rfl rfl (by omega)) ?_
 refine RunD.op 5 [true, true, true, false, true, true, true, true] rfl rfl rfl kr kr (OpJ.buildSlice1 nS24 rfl rfl rfl (by decide) (by decide) nZ35 rfl fun b33 => ⟨po, ?_⟩)
 refine RunD.op 6 [true, true, true, false, false, false, false] rfl rfl rfl kr kr (OpJ.appendFull1 (os.take i) m nS24 nM35 rfl rfl pk (hR.lo (k := 8) (fun _ => rfl) i) (fun _ => rfl) (by decide) pk rfl (by rw [List.length_take]; omega) (by rw [List.length_take]; omega) (by rw [List.length_take]; omega) fun a34 c34 => ⟨po, ?_⟩)
 refine RunD.op 10 [false, false, false] rfl rfl rfl kr kr (OpJ.appendL (os.take i ++ [m]) (os.drop i) nS24 nM35 rfl rfl pk pk (hR.cut (fun _ => rfl) i hcap) (by rw [List.length_drop]) (fun _ => rfl) (by decide) mv1 (by simp; omega) (by simp; omega) fun a38 c38 => ⟨po, ?_⟩)
 refine dx [11] ?_
 refine kd [6] rfl ?_
 refine Run.ret ?_
 have hins2 : os.take i ++ [m] ++ os.drop i = insB p m os := (by rw [hins]; simp); rw [hins2]; exact ret_out (a38, c38) (.tmp rfl .nil) trivial rfl gv
end
end Go.Proofs.YtcpghpifbgpkjaaGreatDoor

namespace Go.Proofs.YtcpghpifbgpkjaaGreatDoor
open Go Go.SL Go.Proofs
section
attribute [local irreducible] OpJ RunL Run RunD DetJ pt own star Rd RdS EN fillM addMs addErr csOf skOf addC addD
-- (*recost.Engine).Len
theorem nil13 : AC Tryz.prog 13 ⟨[.pointer none]⟩ (stars []) (Ret (I 0) []) := by
 refine AC.go Tryz.func13 rfl (Nat.le_of_ble_eq_true rfl) fun β => ?_
 refine sr ?_
 refine asg rfl rfl ?_
 refine kp [0] rfl ?_
 refine Run.seq ?_
 refine sr ?_
 refine sx 2 ?_
 refine kp [0, 4] rfl ?_
 refine Run.true rfl ?_
 refine sr ?_
 refine asg rfl rfl ?_
 refine kp [2] rfl ?_
 refine Run.ret ?_
 exact ret_one (.tmp rfl .nil) (rfl) gv
-- (*recost.Engine).Cost
theorem nil15 (seq : Int) : AC Tryz.prog 15 ⟨[.pointer none, I seq]⟩ (stars []) (Ret (.tuple ⟨[.agg ⟨Co0.c⟩, .bool false]⟩) []) := by
 refine AC.go Tryz.func15 rfl (Nat.le_of_ble_eq_true rfl) fun β => ?_
 refine sr ?_
 refine RunL.op rfl rfl (OpJ.alloc nZ32 fun b4 => ?_)
 refine asg rfl rfl ?_
 refine kp [0, 1, 4] rfl ?_
 refine Run.seq ?_
 refine sr ?_
 refine sx 15 ?_
 refine kp [0, 1, 4, 20] rfl ?_
 refine Run.true rfl ?_
 refine sr ?_
 refine sx 3 ?_
 refine kp [4, 5] rfl ?_
 refine Run.ret ?_
 exact ret_one (.cellA nT32 rfl pk (by rfl) (.tmp rfl .nil)) (rfl) gv
-- (*recost.Engine).At
theorem nil20 (day : Int) : AC Tryz.prog 20 ⟨[.pointer none, I day]⟩ (stars []) (Ret (.tuple ⟨[I 0, I 0]⟩) []) := by
 refine AC.go Tryz.func20 rfl (Nat.le_of_ble_eq_true rfl) fun β => ?_
 refine sr ?_
 refine sx 2 ?_
 refine kp [0, 1, 4, 5] rfl ?_
 refine Run.seq ?_
 refine sr ?_
 refine sx 2 ?_
 refine kp [0, 1, 4, 5, 9] rfl ?_
 refine Run.true rfl ?_
 refine sr ?_
 refine sx 2 ?_
 refine kp [4, 5] rfl ?_
 refine Run.ret ?_
 exact ret_one (.tmp rfl (.tmp rfl .nil)) (rfl) gv
-- (*recost.Engine).Moves
theorem nil23 : AC Tryz.prog 23 ⟨[.pointer none]⟩ (stars []) (Ret (.slice none 0 0) []) := by
 refine AC.go Tryz.func23 rfl (Nat.le_of_ble_eq_true rfl) fun β => ?_
 refine sr ?_
 refine asg rfl rfl ?_
 refine kp [0] rfl ?_
 refine Run.seq ?_
 refine sr ?_
 refine sx 2 ?_
 refine kp [0, 4] rfl ?_
 refine Run.true rfl ?_
 refine sr ?_
 refine asg rfl rfl ?_
 refine kp [2] rfl ?_
 refine Run.ret ?_
 exact ret_one (.tmp rfl .nil) (rfl) gv
-- (*recost.Engine).Stock
theorem nil25 : AC Tryz.prog 25 ⟨[.pointer none]⟩ (stars []) (Ret (.agg ⟨sk0.c none 0 none 0⟩) []) := by
 refine AC.go Tryz.func25 rfl (Nat.le_of_ble_eq_true rfl) fun β => ?_
 refine sr ?_
 refine RunL.op rfl rfl (OpJ.alloc nZ61 fun b2 => ?_)
 refine kp [0, 2] rfl ?_
 refine Run.seq ?_
 refine sr ?_
 refine sx 2 ?_
 refine kp [0, 2, 4] rfl ?_
 refine Run.true rfl ?_
 refine sr ?_
 refine sx 2 ?_
 refine kp [2] rfl ?_
 refine Run.ret ?_
 exact ret_one (.cellA nT61 rfl pk (by rfl) .nil) (rfl) gv
-- (*recost.Engine).Add
theorem nil14 (m : Mv) : AC Tryz.prog 14 ⟨[.pointer none, .agg ⟨m.c⟩]⟩ (stars []) (Ret (.tuple ⟨[.agg ⟨Co0.c⟩, .slice none 0 0, I 1]⟩) []) := by
 refine AC.go Tryz.func14 rfl (Nat.le_of_ble_eq_true rfl) fun β => ?_
 refine sr ?_
 refine RunL.op rfl rfl (OpJ.boxA rfl fun b3 => ?_)
 refine RunL.op rfl rfl (OpJ.alloc nZ32 fun b4 => ?_)
 refine sx 2 ?_
 refine kp [0, 3, 4] rfl ?_
 refine Run.seq ?_
 refine sr ?_
 refine sx 2 ?_
 refine kp [0, 3, 4, 16] rfl ?_
 refine Run.true rfl ?_
 refine sr ?_
 refine sx 4 ?_
 refine kp [4, 5, 6] rfl ?_
 refine Run.ret ?_
 exact ret_one (.cellA nT32 rfl pk (by rfl) (.tmp rfl (.tmp rfl .nil))) (rfl) gv
-- moves.Order
theorem ac29n (R : HP) (oa : Option Addr) (cap : Nat) (ms : List Mv) (hR : RdS R oa (ms.flatMap Mv.c)) (hf : Fine ms) (hlen : ms.length ≤ 1000000) : AC Tryz.prog 29 ⟨[.slice oa ms.length cap]⟩ (stars [R]) (Outs (fun _ : Option Addr × Nat => True) (fun x => .slice x.1 (ordM ms).length x.2) (fun x => [own 35 8 x.1 (ordM ms).length x.2 ((ordM ms).flatMap Mv.c), R])) := by
 refine AC.go Tryz.func29 rfl (Nat.le_of_ble_eq_true rfl) fun β => ?_
 refine sr ?_
 refine asg rfl rfl ?_
 refine kp [0, 2] rfl ?_
 refine Run.seq ?_
 refine sr ?_
 refine RunL.ownNil 35 8 ?_
 refine sx 3 ?_
 refine kp [2, 5, 6, 7] rfl ?_
 refine Run.block ?_
 refine Run.weak (L' := [own 35 8 none (ordM (ms.take 0)).length 0 ((ordM (ms.take 0)).flatMap Mv.c), R]) (fun _ _ h => h) gv ?_
 refine Run.loop (fun mm E L => ∃ (i : Nat) (ob : Option Addr) (cb : Nat), mm = ms.length - i ∧ i ≤ ms.length ∧ E = [(2, .slice ob (ordM (ms.take i)).length cb), (5, .slice oa ms.length cap), (6, I ms.length), (7, I i)] ∧ L = [own 35 8 ob (ordM (ms.take i)).length cb ((ordM (ms.take i)).flatMap Mv.c), R]) ⟨_, 0, none, 0, rfl, Nat.zero_le _, rfl, rfl⟩ ?_
 rintro _ _ _ ⟨i, ob, cb, rfl, hi, rfl, rfl⟩
 refine sr ?_
 refine sx 1 ?_
 refine kp [2, 5, 6, 7, 8] rfl ?_
 refine Run.seq ?_
 refine cnd rfl (fun h1 => ?_) fun h1 => ?_
 refine Run.skip ?_
 refine Run.seq ?_
 refine Run.block ?_
 refine sr ?_
 obtain ⟨x, hx⟩ := get_ex (xs := ms) (by omega)
 refine RunL.rdOpen pk hR (flat_ne (k := 8) (fun _ => rfl) (by decide) hx) fun b o e hrd => ?_
 subst e
 refine sx 1 ?_
 refine RunL.op rfl rfl (OpJ.loadA inferInstance rfl pk (hrd.elem (fun _ => rfl) hx) rfl ?_)
 refine RunL.op rfl rfl (OpJ.alloc nZ35 fun b4 => ?_)
 refine sx 1 ?_
 refine kp [2, 4, 5, 6, 7] rfl ?_
 refine Run.region ?_
 refine RunL.ownCap (T := 35) (k := 8) (oa := ob) (m := (ordM (ms.take i)).length) (cap := cb) (cs := (ordM (ms.take i)).flatMap Mv.c) pk fun hcb => ?_
 refine sx 3 ?_
 refine RunL.callX nC46 rfl rfl rfl (ac46n (own 35 8 ob (ordM (ms.take i)).length cb ((ordM (ms.take i)).flatMap Mv.c)) (pt b4 (blk x.c 35)) [.pointer (some ⟨b4, 0, none⟩)] 47 (laterB x.value) ob cb (ordM (ms.take i)) x own.rds (by rw [ordM_len, List.length_take]; omega) hcb nC47 ((ordM_sort _).mono _) (fun y hy => by rw [← ordP_later (hf.lt hx y hy)]; exact ac47n b4 x y)) tks fun ⟨ob2, cb2⟩ _ => ?_
 refine asg rfl rfl ?_
 refine kp [2, 5, 6, 7] rfl ?_
 refine Run.region ?_
 refine sx 2 ?_
 rw [← ordM_succ hx]
 exact RunL.next (Keep.sub (kt (ks := [2, 5, 6, 7]) rfl)) _ ⟨_, by omega, i + 1, ob2, cb2, rfl, by omega, rfl, rfl⟩ gv
 refine Run.exit ?_
 refine sr ?_
 refine sx 2 ?_
 refine kp [2] rfl ?_
 refine Run.ret ?_
 have hfin : ms.take i = ms := List.take_of_length_le (by omega); rw [hfin]; exact ret_out (ob, cb) (.tmp rfl .nil) trivial rfl gv
end
theorem lv1n (b : Nat) (R0 : HP) (hR0 : Rd R0 ⟨0, 0, none⟩ lensC) : AC Tryz.prog 14 ⟨[Pt b, .agg ⟨x1.c⟩]⟩ (stars [EN b 1 0 [], R0]) (Outs (fun _ : Option Addr × Nat => True) (fun x => .tuple ⟨[.agg ⟨[I 1, I 4, I 40, I 0]⟩, .slice x.1 0 x.2, I 0]⟩) (fun x => [own 41 3 x.1 0 x.2 ([]), EN b 1 0 [x1], R0])) := by
  have h := enAdd b 1 0 [] x1 R0 hR0
  rw [li1.1, li1.2.1, li1.2.2.1, li1.2.2.2] at h
  exact h
section
attribute [local irreducible] OpJ RunL Run RunD DetJ pt own star Rd RdS EN fillM addMs addErr csOf skOf addC addD
end
theorem lv2n (b : Nat) (R0 : HP) (hR0 : Rd R0 ⟨0, 0, none⟩ lensC) : AC Tryz.prog 14 ⟨[Pt b, .agg ⟨x2.c⟩]⟩ (stars [EN b 1 0 [x1], R0]) (Outs (fun _ : Option Addr × Nat => True) (fun x => .tuple ⟨[.agg ⟨[I 2, I (-3), I (-30), I 0]⟩, .slice x.1 0 x.2, I 0]⟩) (fun x => [own 41 3 x.1 0 x.2 ([]), EN b 1 0 [x1, x2], R0])) := by
  have h := enAdd b 1 0 [x1] x2 R0 hR0
  rw [li2.1, li2.2.1, li2.2.2.1, li2.2.2.2] at h
  exact h
section
attribute [local irreducible] OpJ RunL Run RunD DetJ pt own star Rd RdS EN fillM addMs addErr csOf skOf addC addD
end
theorem lv3n (b : Nat) (R0 : HP) (hR0 : Rd R0 ⟨0, 0, none⟩ lensC) : AC Tryz.prog 14 ⟨[Pt b, .agg ⟨x3.c⟩]⟩ (stars [EN b 1 0 [x1, x2], R0]) (Outs (fun _ : Option Addr × Nat => True) (fun x => .tuple ⟨[.agg ⟨[I 3, I 2, I 50, I 0]⟩, .slice x.1 1 x.2, I 0]⟩) (fun x => [own 41 3 x.1 1 x.2 ([I 2, I (-30), I 0]), EN b 1 0 [x1, x2, x3], R0])) := by
  have h := enAdd b 1 0 [x1, x2] x3 R0 hR0
  rw [li3.1, li3.2.1, li3.2.2.1, li3.2.2.2] at h
  exact h
section
attribute [local irreducible] OpJ RunL Run RunD DetJ pt own star Rd RdS EN fillM addMs addErr csOf skOf addC addD
end
theorem lv4n (b : Nat) (R0 : HP) (hR0 : Rd R0 ⟨0, 0, none⟩ lensC) : AC Tryz.prog 14 ⟨[Pt b, .agg ⟨x4.c⟩]⟩ (stars [EN b 1 0 [x1, x2, x3], R0]) (Outs (fun _ : Option Addr × Nat => True) (fun x => .tuple ⟨[.agg ⟨[I 0, I 0, I 0, I 0]⟩, .slice x.1 0 x.2, I 21]⟩) (fun x => [own 41 3 x.1 0 x.2 ([]), EN b 1 0 [x1, x2, x3], R0])) := by
  have h := enAdd b 1 0 [x1, x2, x3] x4 R0 hR0
  rw [show addC 1 0 [x1, x2, x3] x4 = Co0 from if_neg (by rw [li4.1]; decide), show addD 1 0 [x1, x2, x3] x4 = [] from if_neg (by rw [li4.1]; decide), li4.1, li4.2] at h
  exact h
section
attribute [local irreducible] OpJ RunL Run RunD DetJ pt own star Rd RdS EN fillM addMs addErr csOf skOf addC addD
end
theorem lvNew : AC Tryz.prog 10 ⟨[I 1, I 0]⟩ (stars []) (Outs (fun _ : Nat => True) (fun b => .tuple ⟨[Pt b, I 0]⟩) (fun b => [EN b 1 0 []])) := by
  have h := enNew 1 0
  simp only [li0, if_true] at h
  exact h
theorem lvCost (b : Nat) : AC Tryz.prog 15 ⟨[Pt b, I 2]⟩ (stars [EN b 1 0 [x1, x2, x3]]) (Ret (.tuple ⟨[.agg ⟨[I 2, I (-3), I (-60), I 0]⟩, .bool true]⟩) [EN b 1 0 [x1, x2, x3]]) := by
  have h := enCost b 1 0 [x1, x2, x3] 2 (by decide)
  rw [li5.1] at h
  exact h
theorem lvAt (b : Nat) : AC Tryz.prog 20 ⟨[Pt b, I 10]⟩ (stars [EN b 1 0 [x1, x2, x3]]) (Ret (.tuple ⟨[I 6, I 90]⟩) [EN b 1 0 [x1, x2, x3]]) := by
  have h := enAt b 1 0 [x1, x2, x3] 10
  rw [li5.2.1, li5.2.2.1] at h
  exact h
theorem lvStock (b : Nat) : AC Tryz.prog 25 ⟨[Pt b]⟩ (stars [EN b 1 0 [x1, x2, x3]]) (Outs (fun _ : Option Addr × Nat × Option Addr × Nat => True) (fun x => .agg ⟨[I 3, I 30, I lk.price, .slice x.1 lk.layers.length x.2.1, .slice x.2.2.1 lk.past.length x.2.2.2]⟩) (fun _ => [EN b 1 0 [x1, x2, x3]])) :=
  AC.outs (enStock b 1 0 [x1, x2, x3]) fun y hy => ⟨y, hy, by
    show Value.agg ⟨[I lk.qty, I lk.value, _, _, _]⟩ = _
    rw [li5.2.2.2.1, li5.2.2.2.2]; rfl, Imp.gv gv⟩
section
attribute [local irreducible] OpJ RunL Run RunD DetJ pt own star Rd RdS EN fillM addMs addErr csOf skOf addC addD
-- accountinglaw39.lives
theorem ac12n (R0 : HP) (hR0 : Rd R0 ⟨0, 0, none⟩ lensC) : AC Tryz.prog 12 ⟨[]⟩ (stars [R0]) (Ret (Bo true) [R0]) := by
 refine AC.go Tryz.func12 rfl (Nat.le_of_ble_eq_true rfl) fun β => ?_
 refine sr ?_
 refine asg rfl rfl ?_
 refine kp [] rfl ?_
 refine sr ?_
 refine RunL.callX nC10 rfl rfl rfl lvNew .nil fun b _ => ?_
 refine sy 5 ?_
 refine kp [1, 2] rfl ?_
 refine Run.seq ?_
 refine sr ?_
 refine sy 6 ?_
 refine kp [1, 29] rfl ?_
 refine Run.false rfl ?_
 refine Run.skip ?_
 refine sr ?_
 refine mvo rfl rfl ?_
 refine RunL.call nC32 rfl rfl rfl (ac32n 1 10 1 4 40) .nil ?_
 refine RunL.callX nC14 rfl rfl rfl (lv1n b R0 hR0) tks fun ⟨j1, jc1⟩ _ => ?_
 refine sy 4 ?_
 refine RunL.op rfl rfl (OpJ.alloc nZ32 fun b3 => ?_)
 refine sy 3 ?_
 refine kp [1, 3, 4, 5] rfl ?_
 refine sr ?_
 refine mvo rfl rfl ?_
 refine RunL.call nC32 rfl rfl rfl (ac32n 2 20 2 3 0) .nil ?_
 refine RunL.callX nC14 rfl rfl rfl (lv2n b R0 hR0) tks fun ⟨j2, jc2⟩ _ => ?_
 refine sy 4 ?_
 refine RunL.op rfl rfl (OpJ.alloc nZ32 fun b6 => ?_)
 refine sy 3 ?_
 refine kp [1, 3, 4, 5, 6, 7, 8] rfl ?_
 refine sr ?_
 refine mvo rfl rfl ?_
 refine RunL.call nC32 rfl rfl rfl (ac32n 3 5 1 2 50) .nil ?_
 refine RunL.callX nC14 rfl rfl rfl (lv3n b R0 hR0) tks fun ⟨j3, jc3⟩ _ => ?_
 refine sy 4 ?_
 refine RunL.op rfl rfl (OpJ.alloc nZ32 fun b9 => ?_)
 refine sy 3 ?_
 refine kp [1, 3, 4, 5, 6, 7, 8, 9, 10, 11] rfl ?_
 refine sr ?_
 refine mvo rfl rfl ?_
 refine RunL.call nC32 rfl rfl rfl (ac32n 4 1 2 1 0) .nil ?_
 refine RunL.callX nC14 rfl rfl rfl (lv4n b R0 hR0) tks fun ⟨j4, jc4⟩ _ => ?_
 refine sy 4 ?_
 refine RunL.op rfl rfl (OpJ.alloc nZ32 fun b12 => ?_)
 refine sy 3 ?_
 refine kp [1, 3, 4, 5, 6, 7, 8, 9, 10, 11, 14] rfl ?_
 refine sr ?_
 refine mvo rfl rfl ?_
 refine RunL.call nC15 rfl rfl rfl (lvCost b) tks ?_
 refine sy 3 ?_
 refine RunL.op rfl rfl (OpJ.alloc nZ32 fun b15 => ?_)
 refine sy 2 ?_
 refine kp [1, 3, 4, 5, 6, 7, 8, 9, 10, 11, 14, 15, 16] rfl ?_
 refine sr ?_
 refine mvo rfl rfl ?_
 refine RunL.call nC20 rfl rfl rfl (lvAt b) tks ?_
 refine sy 5 ?_
 refine kp [1, 3, 4, 5, 6, 7, 8, 9, 10, 11, 14, 15, 16, 17, 18] rfl ?_
 refine sr ?_
 refine mvo rfl rfl ?_
 refine RunL.callX nC25 rfl rfl rfl (lvStock b) tks fun ⟨l1, lc1, p1, pc1⟩ _ => ?_
 refine RunL.op rfl rfl (OpJ.alloc nZ61 fun b19 => ?_)
 refine sy 1 ?_
 refine kp [1, 3, 4, 5, 6, 7, 8, 9, 10, 11, 14, 15, 16, 17, 18, 19] rfl ?_
 refine sr ?_
 refine sy 38 ?_
 refine RunL.yes rfl rfl rfl rfl (OpJ.buildSlice1 nS37 rfl rfl rfl (by decide) (by decide) nZ41 rfl fun b108 => ?_)
 refine RunL.callG nC18 rfl rfl rfl rfl rfl (ac18n [⟨2, -30, 0⟩] j3 jc3 (some ⟨b108, 0, none⟩) 1 _ _ own.rds (Rd.rds Rd.whole) (by decide)) tks ?_
 refine sy 7 ?_
 refine RunL.callG nC13 rfl rfl rfl rfl rfl (enLen b 1 0 [x1, x2, x3]) tks ?_
 refine sy 29 ?_
 refine kp [0] rfl ?_
 refine Run.ret ?_
 exact ret_one (.tmp rfl .nil) (rfl) gv
end
end Go.Proofs.YtcpghpifbgpkjaaGreatDoor

namespace Go.Proofs.YtcpghpifbgpkjaaGreatDoor
open Go Go.SL Go.Proofs
section
attribute [local irreducible] OpJ RunL Run RunD DetJ pt own star Rd RdS
-- costing.each
theorem ac26 (br : Nat) (k : Int) (s0 : Sk) (la0 : Option Addr) (lc0 : Nat) (pa0 : Option Addr) (pc0 : Nat) (R : HP) (oa : Option Addr) (cap : Nat) (ms : List Mv) (hR : RdS R oa (ms.flatMap Mv.c)) (hlen : ms.length ≤ 1000) (hms : ∀ m ∈ ms, m.ok) (hs0 : s0.ok 0) (R0 : HP) (hR0 : Rd R0 ⟨0, 0, none⟩ lensC) : AC Tryz.prog 48 ⟨[.pointer (some ⟨br, 0, none⟩), .func (.func 49) ⟨[]⟩ ⟨[]⟩, .slice oa ms.length cap]⟩ (stars [pt br (blk (RC k s0 la0 lc0 pa0 pc0 none [] 0) 105), own 96 4 la0 s0.layers.length lc0 (s0.layers.flatMap Ly.c), own 98 7 pa0 s0.past.length pc0 (s0.past.flatMap Pa.c), own 32 4 none 0 0 [], R, R0]) (Outs (fun _ : Option Addr × Nat × Option Addr × Nat × Option Addr × Nat => True) (fun _ => .tuple ⟨[I (eachI (runL (stepM k) s0 ms)), I (eachE (runL (stepM k) s0 ms))]⟩) (fun x => EachB 105 96 98 32 br k (runL (stepM k) s0 ms) x ++ [R, R0])) := by
 refine AC.go Tryz.func48 rfl (Nat.le_of_ble_eq_true rfl) fun β => ?_
 refine sr ?_
 refine sx 2 ?_
 refine kp [0, 1, 2] rfl ?_
 refine Run.seq ?_
 refine sr ?_
 refine sx 3 ?_
 refine kp [0, 1, 11, 12, 13] rfl ?_
 refine Run.block ?_
 refine Run.loop (fun mm E L => ∃ (i : Nat) (s : Sk) (cs : List Co) (la : Option Addr) (lc : Nat) (pa : Option Addr) (pc : Nat) (ca : Option Addr) (cc : Nat), mm = ms.length - i ∧ i ≤ ms.length ∧ runL (stepM k) s0 (ms.take i) = .ok (s, cs) ∧ E = [(0, .pointer (some ⟨br, 0, none⟩)), (1, .func (.func 49) ⟨[]⟩ ⟨[]⟩), (11, .slice oa ms.length cap), (12, I ms.length), (13, I i)] ∧ L = [pt br (blk (RC k s la lc pa pc ca cs cc) 105), own 96 4 la s.layers.length lc (s.layers.flatMap Ly.c), own 98 7 pa s.past.length pc (s.past.flatMap Pa.c), own 32 4 ca (cs).length cc ((cs).flatMap Co.c), R, R0]) ⟨_, 0, s0, [], la0, lc0, pa0, pc0, none, 0, rfl, Nat.zero_le _, rfl, rfl, rfl⟩ ?_
 rintro _ _ _ ⟨i, s, cs, la, lc, pa, pc, ca, cc, rfl, hi, hrun, rfl, rfl⟩
 have hs := (runL_ok (fun x hx => hms x (List.mem_of_mem_take hx)) hs0 hrun).mono (show 0 + (ms.take i).length ≤ 999999 by rw [List.length_take]; omega)
 have hcl : cs.length = i := (runL_len hrun).trans (by rw [List.length_take]; omega)
 refine sr ?_
 refine sx 1 ?_
 refine kp [0, 1, 11, 12, 13, 14] rfl ?_
 refine Run.seq ?_
 refine cnd rfl (fun h1 => ?_) fun h1 => ?_
 refine Run.skip ?_
 refine Run.seq ?_
 refine Run.block ?_
 refine sr ?_
 obtain ⟨m, hx⟩ := get_ex (xs := ms) (by omega)
 refine RunL.rdOpen pk hR (flat_ne (k := 8) (fun _ => rfl) (by decide) hx) fun b o e hrd => ?_
 subst e
 refine sx 2 ?_
 refine RunL.op rfl rfl (OpJ.loadA T47 rfl pk (hrd.elem (fun _ => rfl) hx) rfl ?_)
 refine RunL.op rfl rfl (OpJ.alloc Z47 fun b9 => ?_)
 refine sx 2 ?_
 refine kp [0, 1, 8, 9, 11, 12, 13] rfl ?_
 refine sr ?_
 refine sx 3 ?_
 refine RunL.callX C27 rfl rfl rfl (ac27 br k s m la lc pa pc ca cs cc hs (hms m (List.mem_of_getElem? hx)) (by omega) R0 hR0) tks fun x _ => ?_
 rcases hres : stepM k s m with e | ⟨t, c⟩
 refine asg rfl rfl ?_
 refine kp [0, 1, 8, 10, 11, 12, 13] rfl ?_
 refine sr ?_
 refine sx 2 ?_
 first | refine RunL.set (congrArg Value.bool (decide_eq_true (show errOf (Except.error _) ≠ 0 from stepM_err hres))) ?_ | skip
 refine kp [0, 1, 8, 10, 11, 12, 13, 23] rfl ?_
 refine Run.true rfl ?_
 refine sr ?_
 refine sx 4 ?_
 refine kp [6, 7] rfl ?_
 refine Run.ret ?_
 have hf := runL_fail hrun hx hres; refine ret_out (none, 0, none, 0, none, 0) (.tmp rfl (.tmp rfl .nil)) trivial (by rw [hf]; rfl) ?_; rw [hf]; exact gv
 refine asg rfl rfl ?_
 refine kp [0, 1, 8, 10, 11, 12, 13] rfl ?_
 refine sr ?_
 refine sx 2 ?_
 first | refine RunL.set (congrArg Value.bool (decide_eq_true (show errOf (Except.error _) ≠ 0 from stepM_err hres))) ?_ | skip
 refine kp [0, 1, 8, 10, 11, 12, 13, 23] rfl ?_
 refine Run.false rfl ?_
 refine Run.skip ?_
 refine Run.region ?_
 refine sx 2 ?_
 exact RunL.next (Keep.sub (kt (ks := [0, 1, 11, 12, 13]) rfl)) _ ⟨_, by omega, i + 1, t, cs ++ [c], x.1, x.2.1, x.2.2.1, x.2.2.2.1, x.2.2.2.2.1, x.2.2.2.2.2, rfl, by omega, runL_snoc hrun hx hres, rfl, rfl⟩ gv
 refine Run.exit ?_
 refine sr ?_
 refine sx 2 ?_
 refine kp [6, 7] rfl ?_
 refine Run.ret ?_
 have hf : runL (stepM k) s0 ms = .ok (s, cs) := (runL_all (by omega)).trans hrun; refine ret_out (la, lc, pa, pc, ca, cc) (.tmp rfl (.tmp rfl .nil)) trivial (by rw [hf]; rfl) ?_; rw [hf]; exact gv
end
theorem ac26s (br : Nat) (k p : Int) (R : HP) (oa : Option Addr) (cap : Nat) (ms : List Mv) (hR : RdS R oa (ms.flatMap Mv.c)) (hlen : ms.length ≤ 1000) (hms : ∀ m ∈ ms, m.ok) (R0 : HP) (hR0 : Rd R0 ⟨0, 0, none⟩ lensC) : AC Tryz.prog 48 ⟨[.pointer (some ⟨br, 0, none⟩), .func (.func 49) ⟨[]⟩ ⟨[]⟩, .slice oa ms.length cap]⟩ (stars [pt br (blk [I k, I (start0 k p).qty, I (start0 k p).value, I (start0 k p).price, .slice none 0 0, .slice none 0 0, .slice none 0 0] 105), own 96 4 none 0 0 [], own 98 7 none 0 0 [], own 32 4 none 0 0 [], R, R0]) (Outs (fun _ : Option Addr × Nat × Option Addr × Nat × Option Addr × Nat => True) (fun _ => .tuple ⟨[I (eachI (runL (stepM k) (start0 k p) ms)), I (eachE (runL (stepM k) (start0 k p) ms))]⟩) (fun x => EachB 105 96 98 32 br k (runL (stepM k) (start0 k p) ms) x ++ [R, R0])) := by
  have h := ac26 br k (start0 k p) none 0 none 0 R oa cap ms hR hlen hms (start0_ok 0) R0 hR0
  simp only [RC, start0_l, start0_p, List.length_nil, List.flatMap_nil] at h
  exact h
section
attribute [local irreducible] OpJ RunL Run RunD DetJ pt own star Rd RdS
-- costing.Run
theorem ac15 (k p : Int) (R : HP) (oa : Option Addr) (cap : Nat) (ms : List Mv) (hR : RdS R oa (ms.flatMap Mv.c)) (hlen : ms.length ≤ 1000) (hms : ∀ m ∈ ms, m.ok) (R0 : HP) (hR0 : Rd R0 ⟨0, 0, none⟩ lensC) : AC Tryz.prog 30 ⟨[I k, I p, .slice oa ms.length cap]⟩ (stars [R, R0]) (Outs (fun _ : Option Addr × Nat × Option Addr × Nat × Option Addr × Nat => True) (fun x => RunV (runM k p ms) x) (fun x => RunB 96 98 32 (runM k p ms) x ++ [R, R0])) := by
 refine AC.go Tryz.func30 rfl (Nat.le_of_ble_eq_true rfl) fun β => ?_
 refine sr ?_
 refine RunL.op rfl rfl (OpJ.alloc Z28 fun b6 => ?_)
 refine sx 3 ?_
 refine kp [0, 1, 2, 6] rfl ?_
 refine sr ?_
 refine sx 2 ?_
 refine RunL.call C13 rfl rfl rfl (ac13 k p) .nil ?_
 refine sx 5 ?_
 refine kp [0, 2, 6, 9] rfl ?_
 refine Run.seq ?_
 refine sr ?_
 refine sx 2 ?_
 refine kp [0, 2, 6, 9, 18] rfl ?_
 refine cnd rfl (fun h1 => ?_) fun h1 => ?_
 refine sr ?_
 refine sx 6 ?_
 refine kp [6, 7, 8, 9] rfl ?_
 refine Run.ret ?_
 have hf := runM_no (ms := ms) h1; refine ret_out (none, 0, none, 0, none, 0) (.cellA T28 rfl pk (by rfl) (.tmp rfl (.tmp rfl (.tmp rfl .nil)))) trivial (by rw [hf]; rfl) ?_; rw [hf]; exact gv
 refine Run.skip ?_
 refine sr ?_
 have h0 : startE k p = 0 := Decidable.not_not.1 h1
 refine sx 3 ?_
 refine RunL.op rfl rfl (OpJ.boxA rfl fun b24 => ?_)
 simp only [start0_l, start0_p, List.length_nil]
 refine RunL.ownNil 96 4 ?_
 refine RunL.ownNil 98 7 ?_
 refine RunL.ownNil 32 4 ?_
 refine asg rfl rfl ?_
 refine kp [2, 6, 10] rfl ?_
 refine sr ?_
 refine sx 2 ?_
 refine RunL.callX C26 rfl rfl rfl (ac26s b24 k p R oa cap ms hR hlen hms R0 hR0) tks fun x _ => ?_
 rcases hres : runL (stepM k) (start0 k p) ms with ⟨i, e⟩ | ⟨t, cs⟩
 refine sx 5 ?_
 refine kp [6, 8, 9, 10] rfl ?_
 refine Run.seq ?_
 refine sr ?_
 refine sx 2 ?_
 first | refine RunL.set (congrArg Value.bool (decide_eq_true (show eachE (Except.error _) ≠ 0 from (runL_err hres).1))) ?_ | skip
 refine kp [6, 8, 9, 10, 32] rfl ?_
 refine Run.true rfl ?_
 refine sr ?_
 refine sx 7 ?_
 refine kp [6, 7, 8, 9] rfl ?_
 refine Run.ret ?_
 have hf := runM_er h0 hres; refine ret_out (none, 0, none, 0, none, 0) (.cellA T28 rfl pk (by rfl) (.tmp rfl (.tmp rfl (.tmp rfl .nil)))) trivial (by rw [hf]; rfl) ?_; rw [hf]; exact gv
 refine sx 5 ?_
 refine kp [6, 8, 9, 10] rfl ?_
 refine Run.seq ?_
 refine sr ?_
 refine sx 2 ?_
 first | refine RunL.set (congrArg Value.bool (decide_eq_true (show eachE (Except.error _) ≠ 0 from (runL_err hres).1))) ?_ | skip
 refine kp [6, 8, 9, 10, 32] rfl ?_
 refine Run.false rfl ?_
 refine Run.skip ?_
 refine Run.seq ?_
 refine regionD HM ?_
 refine dx [0, 1, 2, 3, 4, 5, 6, 7] ?_
 refine RunD.op 8 [true, true, true, true, false, false, false, false] rfl rfl rfl kr kr (OpJ.storeW T28 rfl rfl rfl rfl (by simp [Value.oneCell', Pa.c, Ly.c, Mv.c, Co.c]) up ⟨po, ?_⟩)
 refine dx [9, 10, 11] ?_
 refine kd [6, 7, 8, 9] rfl ?_
 refine Run.ret ?_
 have hf := runM_ok h0 hres; refine ret_out x (.cellA T28 rfl pk (by rfl) (.tmp rfl (.tmp rfl (.tmp rfl .nil)))) trivial (by rw [hf]; rfl) ?_; rw [hf]; exact gv
end
end Go.Proofs.YtcpghpifbgpkjaaGreatDoor

namespace Go.Proofs.YtcpghpifbgpkjaaGreatDoor
open Go Go.SL Go.Proofs
section
attribute [local irreducible] OpJ RunL Run RunD DetJ pt own star Rd RdS
-- accountingref34.SameStock
theorem ac17 (s : Sk) (la : Option Addr) (lc : Nat) (pa : Option Addr) (pc : Nat) (la2 : Option Addr) (lc2 : Nat) (pa2 : Option Addr) (pc2 : Nat) (R1 R2 R3 R4 : HP) (hR1 : RdS R1 la (s.layers.flatMap Ly.c)) (hR2 : RdS R2 pa (s.past.flatMap Pa.c)) (hR3 : RdS R3 la2 (s.layers.flatMap Ly.c)) (hR4 : RdS R4 pa2 (s.past.flatMap Pa.c)) (hn : s.layers.length ≤ 1000000 ∧ s.past.length ≤ 1000000) : AC Tryz.prog 24 ⟨[.agg ⟨s.c la lc pa pc⟩, .agg ⟨s.c la2 lc2 pa2 pc2⟩]⟩ (stars [R1, R2, R3, R4]) (Ret (Bo true) [R1, R2, R3, R4]) := by
 have hnl := hn.1; have hnp := hn.2
 refine AC.go Tryz.func24 rfl (Nat.le_of_ble_eq_true rfl) fun β => ?_
 refine sr ?_
 refine RunL.op rfl rfl (OpJ.boxA rfl fun b2 => ?_)
 refine RunL.op rfl rfl (OpJ.boxA rfl fun b3 => ?_)
 refine asg rfl rfl ?_
 refine kp [2, 3] rfl ?_
 refine Run.seq ?_
 refine sr ?_
 refine sx 5 ?_
 refine RunL.set (congrArg Value.bool (decide_eq_false (fun h => h rfl))) ?_
 refine sx 6 ?_
 refine RunL.set (congrArg Value.bool (decide_eq_false (fun h => h rfl))) ?_
 refine sx 7 ?_
 refine RunL.set (congrArg Value.bool (decide_eq_false (fun h => h rfl))) ?_
 refine sx 9 ?_
 refine RunL.set (congrArg Value.bool (decide_eq_false (fun h => h rfl))) ?_
 refine sx 9 ?_
 refine RunL.set (congrArg Value.bool (decide_eq_false (fun h => h rfl))) ?_
 refine sx 1 ?_
 refine kp [2, 3, 43] rfl ?_
 refine Run.false rfl ?_
 refine Run.skip ?_
 refine Run.seq ?_
 refine sr ?_
 refine asg rfl rfl ?_
 refine kp [2, 3, 5] rfl ?_
 refine Run.block ?_
 refine Run.loop (fun mm E L => ∃ i : Nat, mm = s.layers.length - i ∧ i ≤ s.layers.length ∧ E = [(2, .pointer (some ⟨b2, 0, none⟩)), (3, .pointer (some ⟨b3, 0, none⟩)), (5, I i)] ∧ L = [pt b3 (blk (s.c la2 lc2 pa2 pc2) 61), pt b2 (blk (s.c la lc pa pc) 61), R1, R2, R3, R4]) ⟨_, 0, rfl, Nat.zero_le _, rfl, rfl⟩ ?_
 rintro _ _ _ ⟨i, rfl, hi, rfl, rfl⟩
 refine Run.seq ?_
 refine sr ?_
 refine sx 5 ?_
 refine kp [2, 3, 5, 48] rfl ?_
 refine cnd rfl (fun h1 => ?_) fun h1 => ?_
 refine Run.skip ?_
 refine Run.seq ?_
 refine Run.block ?_
 refine Run.seq ?_
 refine regionD HM ?_
 obtain ⟨x, hx⟩ := get_ex (xs := s.layers) (by omega)
 refine RunD.rdOpen (R := R1) pk hR1 (flat_ne (k := 4) (fun _ => rfl) (by decide) hx) fun b1 o1 e hrd1 => ?_
 subst e
 refine RunD.rdOpen (R := R3) pk hR3 (flat_ne (k := 4) (fun _ => rfl) (by decide) hx) fun b3 o3 e hrd3 => ?_
 subst e
 refine dx [0, 1, 2, 3] ?_
 refine RunD.takeR (R := R1) 4 rfl rfl kr T64 rfl pk (hrd1.elem (fun _ => rfl) hx) rfl ?_
 refine dx [5, 6, 7, 8] ?_
 refine RunD.takeR (R := R3) 9 rfl rfl kr T64 rfl pk (hrd3.elem (fun _ => rfl) hx) rfl ?_
 refine dx [10] ?_
 refine RunD.set (v := Bo false) (congrArg Value.bool (by simp)) ?_
 refine kd [2, 3, 5, 61] rfl ?_
 refine Run.false rfl ?_
 refine Run.skip ?_
 refine Run.region ?_
 refine sx 3 ?_
 exact RunL.next (Keep.sub (kt (ks := [2, 3, 5]) rfl)) _ ⟨_, by omega, i + 1, rfl, by omega, rfl, rfl⟩ gv
 refine Run.exit ?_
 refine Run.seq ?_
 refine sr ?_
 refine asg rfl rfl ?_
 refine kp [2, 3, 6] rfl ?_
 refine Run.block ?_
 refine Run.loop (fun mm E L => ∃ i : Nat, mm = s.past.length - i ∧ i ≤ s.past.length ∧ E = [(2, .pointer (some ⟨b2, 0, none⟩)), (3, .pointer (some ⟨b3, 0, none⟩)), (6, I i)] ∧ L = [pt b3 (blk (s.c la2 lc2 pa2 pc2) 61), pt b2 (blk (s.c la lc pa pc) 61), R1, R2, R3, R4]) ⟨_, 0, rfl, Nat.zero_le _, rfl, rfl⟩ ?_
 rintro _ _ _ ⟨i, rfl, hi, rfl, rfl⟩
 refine Run.seq ?_
 refine sr ?_
 refine sx 5 ?_
 refine kp [2, 3, 6, 66] rfl ?_
 refine cnd rfl (fun h2 => ?_) fun h2 => ?_
 refine Run.skip ?_
 refine Run.seq ?_
 refine Run.block ?_
 refine Run.seq ?_
 refine regionD HM ?_
 obtain ⟨x, hx⟩ := get_ex (xs := s.past) (by omega)
 refine RunD.rdOpen (R := R2) pk hR2 (flat_ne (k := 7) (fun _ => rfl) (by decide) hx) fun b2 o2 e hrd2 => ?_
 subst e
 refine RunD.rdOpen (R := R4) pk hR4 (flat_ne (k := 7) (fun _ => rfl) (by decide) hx) fun b4 o4 e hrd4 => ?_
 subst e
 refine dx [0, 1, 2, 3] ?_
 refine RunD.takeR (R := R2) 4 rfl rfl kr T66 rfl pk (hrd2.elem (fun _ => rfl) hx) rfl ?_
 refine dx [5, 6, 7, 8] ?_
 refine RunD.takeR (R := R4) 9 rfl rfl kr T66 rfl pk (hrd4.elem (fun _ => rfl) hx) rfl ?_
 refine dx [10] ?_
 refine RunD.set (v := Bo false) (congrArg Value.bool (by simp)) ?_
 refine kd [2, 3, 6, 79] rfl ?_
 refine Run.false rfl ?_
 refine Run.skip ?_
 refine Run.region ?_
 refine sx 3 ?_
 exact RunL.next (Keep.sub (kt (ks := [2, 3, 6]) rfl)) _ ⟨_, by omega, i + 1, rfl, by omega, rfl, rfl⟩ gv
 refine Run.exit ?_
 refine sr ?_
 refine asg rfl rfl ?_
 refine kp [4] rfl ?_
 refine Run.ret ?_
 exact ret_one (.tmp rfl .nil) (rfl) gv
end
end Go.Proofs.YtcpghpifbgpkjaaGreatDoor

namespace Go.Proofs.YtcpghpifbgpkjaaGreatDoor
open Go Go.SL Go.Proofs
section
attribute [local irreducible] OpJ RunL Run RunD DetJ pt own star Rd RdS EN fillM addMs addErr csOf skOf addC addD
end
theorem fillY (k p : Int) (h0 : startE k p = 0) (R : HP) (oa : Option Addr) (cap : Nat) (ms : List Mv) (hR : RdS R oa (ms.flatMap Mv.c)) (hlen : (ms.length : Int) ≤ 9223372036854775807) (R0 : HP) (hR0 : Rd R0 ⟨0, 0, none⟩ lensC) : AC Tryz.prog 27 ⟨[.agg ⟨[I k, I p]⟩, .slice oa ms.length cap]⟩ (stars [R, R0]) (Outs (fun _ : Nat => True) (fun b => Pt b) (fun b => [EN b k p (fillM k p ms), R, R0])) := by
  have h := ac27n k p R oa cap ms hR hlen R0 hR0
  simp only [if_pos h0] at h
  exact h
theorem fillZ (k p : Int) (h0 : startE k p ≠ 0) (R : HP) (oa : Option Addr) (cap : Nat) (ms : List Mv) (hR : RdS R oa (ms.flatMap Mv.c)) (hlen : (ms.length : Int) ≤ 9223372036854775807) (R0 : HP) (hR0 : Rd R0 ⟨0, 0, none⟩ lensC) : AC Tryz.prog 27 ⟨[.agg ⟨[I k, I p]⟩, .slice oa ms.length cap]⟩ (stars [R, R0]) (Outs (fun _ : Nat => True) (fun _ => .pointer none) (fun _ => [R, R0])) := by
  have h := ac27n k p R oa cap ms hR hlen R0 hR0
  simp only [if_neg h0] at h
  exact h
theorem newY (k p : Int) (h0 : startE k p = 0) : AC Tryz.prog 10 ⟨[I k, I p]⟩ (stars []) (Outs (fun _ : Nat => True) (fun b => .tuple ⟨[Pt b, I (startE k p)]⟩) (fun b => [EN b k p []])) := by
  have h := enNew k p
  simp only [if_pos h0] at h
  exact h
theorem newZ (k p : Int) (h0 : startE k p ≠ 0) : AC Tryz.prog 10 ⟨[I k, I p]⟩ (stars []) (Outs (fun _ : Nat => True) (fun _ => .tuple ⟨[.pointer none, I (startE k p)]⟩) (fun _ => [])) := by
  have h := enNew k p
  simp only [if_neg h0] at h
  exact h
theorem sameZ : AC Tryz.prog 24 ⟨[.agg ⟨sk0.c none 0 none 0⟩, .agg ⟨sk0.c none 0 none 0⟩]⟩ (stars []) (Ret (Bo true) []) :=
  AC.give (ac17 sk0 none 0 none 0 none 0 none 0 emp emp emp emp RdS.nil RdS.nil RdS.nil RdS.nil (by decide))
theorem runY (k p : Int) (t : Sk) (cs : List Co) (R : HP) (oa : Option Addr) (cap : Nat) (ms : List Mv) (hR : RdS R oa (ms.flatMap Mv.c)) (hr : runM k p ms = .ok (t, cs)) (hlen : ms.length ≤ 1000) (hms : ∀ m ∈ ms, m.ok) (R0 : HP) (hR0 : Rd R0 ⟨0, 0, none⟩ lensC) : AC Tryz.prog 30 ⟨[I k, I p, .slice oa ms.length cap]⟩ (stars [R, R0]) (Outs (fun _ : Option Addr × Nat × Option Addr × Nat × Option Addr × Nat => True) (fun x => .tuple ⟨[.agg ⟨t.c x.1 x.2.1 x.2.2.1 x.2.2.2.1⟩, .slice x.2.2.2.2.1 cs.length x.2.2.2.2.2, I (-1), I 0]⟩) (fun x => [own 96 4 x.1 t.layers.length x.2.1 (t.layers.flatMap Ly.c), own 98 7 x.2.2.1 t.past.length x.2.2.2.1 (t.past.flatMap Pa.c), own 32 4 x.2.2.2.2.1 cs.length x.2.2.2.2.2 (cs.flatMap Co.c), R, R0])) := by
  have h := ac15 k p R oa cap ms hR hlen hms R0 hR0
  rw [hr] at h
  exact h
section
attribute [local irreducible] OpJ RunL Run RunD DetJ pt own star Rd RdS EN fillM addMs addErr csOf skOf addC addD
-- accountinglaw39.RecostNil
theorem ac7n (m : Mv) (day : Int) (R0 : HP) (hR0 : Rd R0 ⟨0, 0, none⟩ lensC) : AC Tryz.prog 7 ⟨[.agg ⟨m.c⟩, I day]⟩ (stars [R0]) (Ret (Bo true) [R0]) := by
 refine AC.go Tryz.func7 rfl (Nat.le_of_ble_eq_true rfl) fun β => ?_
 refine sr ?_
 refine RunL.op rfl rfl (OpJ.boxA rfl fun b2 => ?_)
 refine asg rfl rfl ?_
 refine kp [1, 2] rfl ?_
 refine Run.seq ?_
 refine sr ?_
 refine sy 1 ?_
 refine RunL.op rfl rfl (OpJ.buildSlice1 nS24 rfl rfl rfl (by decide) (by decide) nZ35 rfl fun b14 => ?_)
 refine RunL.call nC11 rfl rfl rfl (ac11n (pt b14 (blk m.c 35)) (some ⟨b14, 0, none⟩) 1 [m] (Rd.rds Rd.whole) (by show (1 : Int) ≤ _; decide)) tks ?_
 rcases hl : lightMs [m] with _ | _
 refine RunL.op rfl rfl (OpJ.not rfl ?_)
 refine kp [1, 2, 16] rfl ?_
 refine Run.true rfl ?_
 refine sr ?_
 refine RunL.call nC12 rfl rfl rfl (ac12n R0 hR0) tks ?_
 refine asg rfl rfl ?_
 refine kp [4] rfl ?_
 refine Run.ret ?_
 exact ret_one (.tmp rfl .nil) (rfl) gv
 refine RunL.op rfl rfl (OpJ.not rfl ?_)
 refine kp [1, 2, 16] rfl ?_
 refine Run.false rfl ?_
 refine Run.skip ?_
 refine sr ?_
 refine asg rfl rfl ?_
 refine kp [1, 2, 5] rfl ?_
 refine sr ?_
 refine sy 2 ?_
 refine RunL.call nC14 rfl rfl rfl (nil14 m) .nil ?_
 refine sy 4 ?_
 refine RunL.op rfl rfl (OpJ.alloc nZ32 fun b6 => ?_)
 refine sy 3 ?_
 refine kp [1, 2, 5, 6, 7, 8] rfl ?_
 refine sr ?_
 refine sy 3 ?_
 refine RunL.call nC15 rfl rfl rfl (nil15 m.seq) .nil ?_
 refine sy 3 ?_
 refine RunL.op rfl rfl (OpJ.alloc nZ32 fun b9 => ?_)
 refine sy 2 ?_
 refine kp [1, 5, 6, 7, 8, 9, 10] rfl ?_
 refine sr ?_
 refine sy 2 ?_
 refine RunL.call nC20 rfl rfl rfl (nil20 day) .nil ?_
 refine sy 5 ?_
 refine kp [5, 6, 7, 8, 9, 10, 11, 12] rfl ?_
 refine sr ?_
 refine sy 31 ?_
 refine RunL.callG nC13 rfl rfl rfl rfl rfl nil13 .nil ?_
 refine sy 4 ?_
 refine RunL.callG nC23 rfl rfl rfl rfl rfl nil23 .nil ?_
 refine sy 5 ?_
 refine RunL.callG nC25 rfl rfl rfl rfl rfl nil25 .nil ?_
 refine sy 1 ?_
 refine RunL.callG nC24 rfl rfl rfl rfl rfl sameZ .nil ?_
 refine sy 2 ?_
 refine RunL.callG nC12 rfl rfl rfl rfl rfl (ac12n R0 hR0) tks ?_
 refine sy 2 ?_
 refine kp [4] rfl ?_
 refine Run.ret ?_
 exact ret_one (.tmp rfl .nil) (rfl) gv
-- accountinglaw39.RecostFails
theorem ac5z (k p : Int) (R : HP) (oa : Option Addr) (cap : Nat) (ms : List Mv) (hR : RdS R oa (ms.flatMap Mv.c)) (hlen : (ms.length : Int) ≤ 9223372036854775807) (R0 : HP) (hR0 : Rd R0 ⟨0, 0, none⟩ lensC) (m : Mv) (h0 : startE k p ≠ 0) : AC Tryz.prog 5 ⟨[.agg ⟨[I k, I p]⟩, .slice oa ms.length cap, .agg ⟨m.c⟩]⟩ (stars [R, R0]) (Ret (Bo true) [R, R0]) := by
 refine AC.go Tryz.func5 rfl (Nat.le_of_ble_eq_true rfl) fun β => ?_
 refine sr ?_
 refine RunL.op rfl rfl (OpJ.boxA rfl fun b3 => ?_)
 refine RunL.op rfl rfl (OpJ.boxA rfl fun b5 => ?_)
 refine asg rfl rfl ?_
 refine kp [1, 3, 5] rfl ?_
 refine Run.seq ?_
 refine sr ?_
 refine mvo rfl rfl ?_
 refine RunL.call nC11 rfl rfl rfl (ac11n R oa cap ms hR hlen) tks ?_
 rcases hl : lightMs ms with _ | _
 refine sx 7 ?_
 refine kp [1, 3, 5, 25] rfl ?_
 refine Run.true rfl ?_
 refine sr ?_
 refine RunL.call nC12 rfl rfl rfl (ac12n R0 hR0) tks ?_
 refine asg rfl rfl ?_
 refine kp [6] rfl ?_
 refine Run.ret ?_
 exact ret_one (.tmp rfl .nil) (rfl) gv
 refine sx 3 ?_
 refine RunL.yes rfl rfl rfl rfl (OpJ.buildSlice1 nS24 rfl rfl rfl (by decide) (by decide) nZ35 rfl fun b22 => ?_)
 refine RunL.callG nC11 rfl rfl rfl rfl rfl (ac11n (pt b22 (blk m.c 35)) (some ⟨b22, 0, none⟩) 1 [m] (Rd.rds Rd.whole) (by show (1 : Int) ≤ _; decide)) tks ?_
 rcases hl2 : lightMs [m] with _ | _
 refine sx 2 ?_
 refine kp [1, 3, 5, 25] rfl ?_
 refine Run.true rfl ?_
 refine sr ?_
 refine RunL.call nC12 rfl rfl rfl (ac12n R0 hR0) tks ?_
 refine asg rfl rfl ?_
 refine kp [6] rfl ?_
 refine Run.ret ?_
 exact ret_one (.tmp rfl .nil) (rfl) gv
 refine sx 2 ?_
 refine kp [1, 3, 5, 25] rfl ?_
 refine Run.false rfl ?_
 refine Run.skip ?_
 refine Run.seq ?_
 refine regionD HM ?_
 refine RunD.mono (K' := fun E' L' => ∃ b5 : Nat, E' = [(5, .pointer (some ⟨b5, 0, none⟩)), (7, .pointer none), (8, .pointer none)] ∧ L' = [pt b5 (blk m.c 35), R, R0]) ?_ ?_
 refine dx [0, 1, 3, 4] ?_
 refine RunD.op 2 [true, true, false, false] rfl rfl rfl kr kr (OpJ.callOuts nC27 rfl rfl (fillZ k p h0 R oa cap ms hR hlen R0 hR0) tks fun _ _ => ⟨po, ?_⟩)
 refine RunD.op 5 [false, false] rfl rfl rfl kr kr (OpJ.callOuts nC27 rfl rfl (fillZ k p h0 R oa cap ms hR hlen R0 hR0) tks fun _ _ => ⟨po, ?_⟩)
 refine dx [6, 7] ?_
 exact dwk ⟨_, rfl, rfl⟩ rfl gv
 rintro _ _ ⟨b5, rfl, rfl⟩
 refine Run.seq ?_
 refine sr ?_
 refine sx 6 ?_
 refine kp [5, 7, 8, 38] rfl ?_
 refine Run.true rfl ?_
 refine sr ?_
 refine RunL.call nC12 rfl rfl rfl (ac12n R0 hR0) tks ?_
 refine asg rfl rfl ?_
 refine kp [6] rfl ?_
 refine Run.ret ?_
 exact ret_one (.tmp rfl .nil) (rfl) gv
-- accountinglaw39.RecostFails
theorem ac5y (k p : Int) (R : HP) (oa : Option Addr) (cap : Nat) (ms : List Mv) (hR : RdS R oa (ms.flatMap Mv.c)) (hlen : (ms.length : Int) ≤ 9223372036854775807) (R0 : HP) (hR0 : Rd R0 ⟨0, 0, none⟩ lensC) (m : Mv) (h0 : startE k p = 0) : AC Tryz.prog 5 ⟨[.agg ⟨[I k, I p]⟩, .slice oa ms.length cap, .agg ⟨m.c⟩]⟩ (stars [R, R0]) (Ret (Bo true) [R, R0]) := by
 have hG := fill_good h0 ms
 have hn := hG.n
 refine AC.go Tryz.func5 rfl (Nat.le_of_ble_eq_true rfl) fun β => ?_
 refine sr ?_
 refine RunL.op rfl rfl (OpJ.boxA rfl fun b3 => ?_)
 refine RunL.op rfl rfl (OpJ.boxA rfl fun b5 => ?_)
 refine asg rfl rfl ?_
 refine kp [1, 3, 5] rfl ?_
 refine Run.seq ?_
 refine sr ?_
 refine mvo rfl rfl ?_
 refine RunL.call nC11 rfl rfl rfl (ac11n R oa cap ms hR hlen) tks ?_
 rcases hl : lightMs ms with _ | _
 refine sx 7 ?_
 refine kp [1, 3, 5, 25] rfl ?_
 refine Run.true rfl ?_
 refine sr ?_
 refine RunL.call nC12 rfl rfl rfl (ac12n R0 hR0) tks ?_
 refine asg rfl rfl ?_
 refine kp [6] rfl ?_
 refine Run.ret ?_
 exact ret_one (.tmp rfl .nil) (rfl) gv
 refine sx 3 ?_
 refine RunL.yes rfl rfl rfl rfl (OpJ.buildSlice1 nS24 rfl rfl rfl (by decide) (by decide) nZ35 rfl fun b22 => ?_)
 refine RunL.callG nC11 rfl rfl rfl rfl rfl (ac11n (pt b22 (blk m.c 35)) (some ⟨b22, 0, none⟩) 1 [m] (Rd.rds Rd.whole) (by show (1 : Int) ≤ _; decide)) tks ?_
 rcases hl2 : lightMs [m] with _ | _
 refine sx 2 ?_
 refine kp [1, 3, 5, 25] rfl ?_
 refine Run.true rfl ?_
 refine sr ?_
 refine RunL.call nC12 rfl rfl rfl (ac12n R0 hR0) tks ?_
 refine asg rfl rfl ?_
 refine kp [6] rfl ?_
 refine Run.ret ?_
 exact ret_one (.tmp rfl .nil) (rfl) gv
 refine sx 2 ?_
 refine kp [1, 3, 5, 25] rfl ?_
 refine Run.false rfl ?_
 refine Run.skip ?_
 refine Run.seq ?_
 refine regionD HM ?_
 refine RunD.mono (K' := fun E' L' => ∃ g1 : Nat, ∃ g2 : Nat, ∃ b5 : Nat, E' = [(5, .pointer (some ⟨b5, 0, none⟩)), (7, Pt g1), (8, Pt g2)] ∧ L' = [EN g1 k p (fillM k p ms), EN g2 k p (fillM k p ms), pt b5 (blk m.c 35), R, R0]) ?_ ?_
 refine dx [0, 1, 3, 4] ?_
 refine RunD.op 2 [true, true, false, false] rfl rfl rfl kr kr (OpJ.callOuts nC27 rfl rfl (fillY k p h0 R oa cap ms hR hlen R0 hR0) tks fun g1 _ => ⟨po, ?_⟩)
 refine RunD.op 5 [false, false] rfl rfl rfl kr kr (OpJ.callOuts nC27 rfl rfl (fillY k p h0 R oa cap ms hR hlen R0 hR0) tks fun g2 _ => ⟨po, ?_⟩)
 refine dx [6, 7] ?_
 exact dwk ⟨_, _, _, rfl, rfl⟩ rfl gv
 rintro _ _ ⟨g1, g2, b5, rfl, rfl⟩
 refine Run.seq ?_
 refine sr ?_
 refine sx 6 ?_
 refine kp [5, 7, 8, 38] rfl ?_
 refine Run.false rfl ?_
 refine Run.skip ?_
 refine sr ?_
 refine sx 2 ?_
 refine RunL.callX nC14 rfl rfl rfl (enAdd g1 k p (fillM k p ms) m R0 hR0) tks fun ⟨ja, jc⟩ _ => ?_
 by_cases he : addErr k p (fillM k p ms) m = 0
 have hcs := addC_seq he
 rw [addMs_ok he]
 refine sx 4 ?_
 refine RunL.op rfl rfl (OpJ.alloc nZ32 fun b9 => ?_)
 refine sx 3 ?_
 refine kp [5, 7, 8, 9, 10, 11] rfl ?_
 refine Run.seq ?_
 refine sr ?_
 refine sx 2 ?_
 refine RunL.set (v := Bo true) (congrArg Value.bool (decide_eq_true he)) ?_
 refine kp [5, 7, 8, 9, 10, 48] rfl ?_
 refine Run.true rfl ?_
 refine sr ?_
 refine sx 5 ?_
 refine RunL.set (v := Bo true) (congrArg Value.bool (decide_eq_true hcs)) ?_
 refine sx 2 ?_
 refine RunL.callG nC13 rfl rfl rfl rfl rfl (enLen g1 k p ((fillM k p ms) ++ [m])) tks ?_
 refine sx 1 ?_
 refine RunL.callG nC13 rfl rfl rfl rfl rfl (enLen g2 k p (fillM k p ms)) tks ?_
 refine sx 2 ?_
 refine RunL.set (v := Bo true) (congrArg Value.bool (decide_eq_true (by rw [List.length_append, List.length_singleton]; omega))) ?_
 refine sx 2 ?_
 refine RunL.callG nC12 rfl rfl rfl rfl rfl (ac12n R0 hR0) tks ?_
 refine sx 2 ?_
 refine kp [6] rfl ?_
 refine Run.ret ?_
 exact ret_one (.tmp rfl .nil) (rfl) gv
 rw [addC_no he, addD_no he, addMs_no he]
 refine sx 4 ?_
 refine RunL.op rfl rfl (OpJ.alloc nZ32 fun b9 => ?_)
 refine sx 3 ?_
 refine kp [5, 7, 8, 9, 10, 11] rfl ?_
 refine Run.seq ?_
 refine sr ?_
 refine sx 2 ?_
 refine RunL.set (v := Bo false) (congrArg Value.bool (decide_eq_false he)) ?_
 refine kp [5, 7, 8, 9, 10, 48] rfl ?_
 refine Run.false rfl ?_
 refine Run.skip ?_
 refine Run.seq ?_
 refine sr ?_
 refine sx 3 ?_
 refine RunL.set (v := Bo false) (congrArg Value.bool (by simp [Co0])) ?_
 refine sx 4 ?_
 refine RunL.set (v := Bo false) (congrArg Value.bool (decide_eq_false (fun h => h rfl))) ?_
 refine sx 3 ?_
 refine RunL.callXG nC23 rfl rfl rfl rfl rfl (enMoves g1 k p (fillM k p ms)) tks fun y1 _ => ?_
 refine sx 1 ?_
 refine RunL.callXG nC23 rfl rfl rfl rfl rfl (enMoves g2 k p (fillM k p ms)) tks fun y2 _ => ?_
 refine RunL.callG nC22 rfl rfl rfl rfl rfl (ac22n (fillM k p ms) _ _ _ _ _ _ (own.rds (oa := some ⟨y1, 0, none⟩)) (own.rds (oa := some ⟨y2, 0, none⟩)) (by omega)) tks ?_
 refine sx 4 ?_
 refine RunL.callXG nC25 rfl rfl rfl rfl rfl (enStock g1 k p (fillM k p ms)) tks fun ⟨l1, lc1, p1, pc1⟩ _ => ?_
 refine sx 1 ?_
 refine RunL.callXG nC25 rfl rfl rfl rfl rfl (enStock g2 k p (fillM k p ms)) tks fun ⟨l2, lc2, p2, pc2⟩ _ => ?_
 refine RunL.callG nC24 rfl rfl rfl rfl rfl (ac17 (skOf k p (fillM k p ms)) l1 lc1 p1 pc1 l2 lc2 p2 pc2 _ _ _ _ own.rds own.rds own.rds own.rds hG.sk) tks ?_
 refine sx 2 ?_
 refine kp [7, 8, 88] rfl ?_
 refine Run.false rfl ?_
 refine Run.skip ?_
 refine Run.seq ?_
 refine sr ?_
 refine asg rfl rfl ?_
 refine kp [7, 8, 12] rfl ?_
 refine Run.block ?_
 refine Run.weak (L' := [EN g1 k p (fillM k p ms), EN g2 k p (fillM k p ms), R, R0]) (fun _ _ h => h) gv ?_
 refine Run.loop (fun mm E L => ∃ (q : Int), mm = ((fillM k p ms).length + 1 - q).toNat ∧ 1 ≤ q ∧ q ≤ (fillM k p ms).length + 1 ∧ E = [(7, Pt g1), (8, Pt g2), (12, I q)] ∧ L = [EN g1 k p (fillM k p ms), EN g2 k p (fillM k p ms), R, R0]) ⟨_, 1, rfl, by decide, by omega, rfl, rfl⟩ ?_
 rintro _ _ _ ⟨q, rfl, hq1, hq2, rfl, rfl⟩
 refine Run.seq ?_
 refine sr ?_
 refine sx 2 ?_
 refine RunL.call nC13 rfl rfl rfl (enLen g2 k p (fillM k p ms)) tks ?_
 refine sx 1 ?_
 refine kp [7, 8, 12, 92] rfl ?_
 refine cnd rfl (fun h1 => ?_) fun h1 => ?_
 refine Run.skip ?_
 refine Run.seq ?_
 refine Run.block ?_
 refine sr ?_
 refine sx 2 ?_
 refine RunL.call nC15 rfl rfl rfl (enCost g1 k p (fillM k p ms) q (by omega)) tks ?_
 refine sx 3 ?_
 refine RunL.op rfl rfl (OpJ.alloc nZ32 fun b13 => ?_)
 refine sx 2 ?_
 refine kp [7, 8, 12, 13] rfl ?_
 refine sr ?_
 refine sx 2 ?_
 refine RunL.call nC15 rfl rfl rfl (enCost g2 k p (fillM k p ms) q (by omega)) tks ?_
 refine sx 3 ?_
 refine RunL.op rfl rfl (OpJ.alloc nZ32 fun b15 => ?_)
 refine sx 2 ?_
 refine kp [7, 8, 12, 13, 15] rfl ?_
 refine sr ?_
 refine sx 3 ?_
 refine RunL.set (v := Bo false) (congrArg Value.bool (by simp)) ?_
 refine kp [7, 8, 12, 109] rfl ?_
 refine Run.false rfl ?_
 refine Run.skip ?_
 refine Run.region ?_
 refine sx 3 ?_
 exact RunL.next (Keep.sub (kt (ks := [7, 8, 12]) rfl)) _ ⟨_, by omega, q + 1, rfl, by omega, by omega, rfl, rfl⟩ gv
 refine Run.exit ?_
 refine sr ?_
 refine RunL.call nC12 rfl rfl rfl (ac12n R0 hR0) tks ?_
 refine asg rfl rfl ?_
 refine kp [6] rfl ?_
 refine Run.ret ?_
 exact ret_one (.tmp rfl .nil) (rfl) gv
end
theorem ac5n (k p : Int) (R : HP) (oa : Option Addr) (cap : Nat) (ms : List Mv) (hR : RdS R oa (ms.flatMap Mv.c)) (hlen : (ms.length : Int) ≤ 9223372036854775807) (R0 : HP) (hR0 : Rd R0 ⟨0, 0, none⟩ lensC) (m : Mv) : AC Tryz.prog 5 ⟨[.agg ⟨[I k, I p]⟩, .slice oa ms.length cap, .agg ⟨m.c⟩]⟩ (stars [R, R0]) (Ret (Bo true) [R, R0]) := by
  by_cases h0 : startE k p = 0
  · exact ac5y k p R oa cap ms hR hlen R0 hR0 m h0
  · exact ac5z k p R oa cap ms hR hlen R0 hR0 m h0
section
attribute [local irreducible] OpJ RunL Run RunD DetJ pt own star Rd RdS EN fillM addMs addErr csOf skOf addC addD
end
end Go.Proofs.YtcpghpifbgpkjaaGreatDoor

namespace Go.Proofs.YtcpghpifbgpkjaaGreatDoor
open Go Go.SL Go.Proofs
section
attribute [local irreducible] OpJ RunL Run RunD DetJ pt own star Rd RdS EN fillM addMs addErr csOf skOf addC addD kept kept1
-- accountinglaw39.RecostAdjust
theorem ac3z (k p : Int) (R : HP) (oa : Option Addr) (cap : Nat) (ms : List Mv) (hR : RdS R oa (ms.flatMap Mv.c)) (hlen : (ms.length : Int) ≤ 9223372036854775807) (R0 : HP) (hR0 : Rd R0 ⟨0, 0, none⟩ lensC) (h0 : startE k p ≠ 0) : AC Tryz.prog 3 ⟨[.agg ⟨[I k, I p]⟩, .slice oa ms.length cap]⟩ (stars [R, R0]) (Ret (Bo true) [R, R0]) := by
 refine AC.go Tryz.func3 rfl (Nat.le_of_ble_eq_true rfl) fun β => ?_
 refine sr ?_
 refine RunL.op rfl rfl (OpJ.boxA rfl fun b2 => ?_)
 refine asg rfl rfl ?_
 refine kp [1, 2] rfl ?_
 refine sr ?_
 refine sx 4 ?_
 refine RunL.callX nC10 rfl rfl rfl (newZ k p h0) .nil fun _ _ => ?_
 refine sx 5 ?_
 refine kp [1, 5, 6] rfl ?_
 refine Run.seq ?_
 refine sr ?_
 refine mvo rfl rfl ?_
 refine RunL.call nC11 rfl rfl rfl (ac11n R oa cap ms hR hlen) tks ?_
 rcases hl : lightMs ms with _ | _
 refine sx 9 ?_
 refine kp [1, 5, 35] rfl ?_
 refine Run.true rfl ?_
 refine sr ?_
 refine RunL.call nC12 rfl rfl rfl (ac12n R0 hR0) tks ?_
 refine asg rfl rfl ?_
 refine kp [4] rfl ?_
 refine Run.ret ?_
 exact ret_one (.tmp rfl .nil) (rfl) gv
 refine sx 4 ?_
 refine RunL.set (v := Bo true) (congrArg Value.bool (decide_eq_true h0)) ?_
 refine sx 5 ?_
 refine kp [1, 5, 35] rfl ?_
 refine Run.true rfl ?_
 refine sr ?_
 refine RunL.call nC12 rfl rfl rfl (ac12n R0 hR0) tks ?_
 refine asg rfl rfl ?_
 refine kp [4] rfl ?_
 refine Run.ret ?_
 exact ret_one (.tmp rfl .nil) (rfl) gv
-- accountinglaw39.RecostAdjust
theorem ac3y (k p : Int) (R : HP) (oa : Option Addr) (cap : Nat) (ms : List Mv) (hR : RdS R oa (ms.flatMap Mv.c)) (hlen : (ms.length : Int) ≤ 9223372036854775807) (R0 : HP) (hR0 : Rd R0 ⟨0, 0, none⟩ lensC) (h0 : startE k p = 0) : AC Tryz.prog 3 ⟨[.agg ⟨[I k, I p]⟩, .slice oa ms.length cap]⟩ (stars [R, R0]) (Ret (Bo true) [R, R0]) := by
 have hGf := fill_good h0 ms
 have hnf := hGf.n
 have hkl := kept_len hGf
 refine AC.go Tryz.func3 rfl (Nat.le_of_ble_eq_true rfl) fun β => ?_
 refine sr ?_
 refine RunL.op rfl rfl (OpJ.boxA rfl fun b2 => ?_)
 refine asg rfl rfl ?_
 refine kp [1, 2] rfl ?_
 refine sr ?_
 refine sx 4 ?_
 refine RunL.callX nC10 rfl rfl rfl (newY k p h0) .nil fun g _ => ?_
 refine sx 5 ?_
 refine kp [1, 5, 6] rfl ?_
 refine Run.seq ?_
 refine sr ?_
 refine mvo rfl rfl ?_
 refine RunL.call nC11 rfl rfl rfl (ac11n R oa cap ms hR hlen) tks ?_
 rcases hl : lightMs ms with _ | _
 refine sx 9 ?_
 refine kp [1, 5, 35] rfl ?_
 refine Run.true rfl ?_
 refine sr ?_
 refine RunL.call nC12 rfl rfl rfl (ac12n R0 hR0) tks ?_
 refine asg rfl rfl ?_
 refine kp [4] rfl ?_
 refine Run.ret ?_
 exact ret_one (.tmp rfl .nil) (rfl) gv
 refine sx 4 ?_
 refine RunL.set (v := Bo false) (congrArg Value.bool (decide_eq_false (fun h => h h0))) ?_
 refine sx 5 ?_
 refine kp [1, 5, 35] rfl ?_
 refine Run.false rfl ?_
 refine Run.skip ?_
 refine sr ?_
 refine sx 1 ?_
 refine RunL.op rfl rfl (OpJ.buildSlice1 nS33 rfl rfl rfl (by decide) (by decide) nZ32 rfl fun b38 => ?_)
 refine RunL.imp (pt b38 (blk _ 32)) (own 32 4 (some ⟨b38, 0, none⟩) ([] : List Mv).length.succ 1 ((kept k p []).flatMap Co.c)) up (fun h hh => by rw [kept_nil h0]; exact own.of_pt (show pt b38 (blk ([Co0].flatMap Co.c) 32) h from hh) rfl) ?_
 refine asg rfl rfl ?_
 refine kp [1, 5, 7] rfl ?_
 refine Run.seq ?_
 refine sr ?_
 refine asg rfl rfl ?_
 refine kp [1, 5, 7, 8] rfl ?_
 refine Run.block ?_
 refine Run.weak (L' := [EN g k p (fillM k p (ms.take 0)), own 32 4 (some ⟨b38, 0, none⟩) ((fillM k p (ms.take 0)).length + 1) 1 ((kept k p (fillM k p (ms.take 0))).flatMap Co.c), R, R0]) (fun _ _ h => h) (by rw [fillM_0]; exact gv) ?_
 refine Run.loop (fun mm E L => ∃ (i : Nat) (oc : Option Addr) (cc : Nat), mm = ms.length - i ∧ i ≤ ms.length ∧ E = [(1, .slice oa ms.length cap), (5, Pt g), (7, .slice oc ((fillM k p (ms.take i)).length + 1) cc), (8, I i)] ∧ L = [EN g k p (fillM k p (ms.take i)), own 32 4 oc ((fillM k p (ms.take i)).length + 1) cc ((kept k p (fillM k p (ms.take i))).flatMap Co.c), R, R0]) ⟨_, 0, some ⟨b38, 0, none⟩, 1, rfl, Nat.zero_le _, by rw [fillM_0]; rfl, rfl⟩ ?_
 rintro _ _ _ ⟨i, oc, cc, rfl, hi, rfl, rfl⟩
 refine Run.seq ?_
 refine sr ?_
 refine sx 4 ?_
 refine kp [1, 5, 7, 8, 42] rfl ?_
 refine cnd rfl (fun h1 => ?_) fun h1 => ?_
 refine Run.skip ?_
 refine Run.seq ?_
 refine Run.block ?_
 refine sr ?_
 obtain ⟨x, hx⟩ := get_ex (xs := ms) (by omega)
 refine RunL.rdOpen pk hR (flat_ne (k := 8) (fun _ => rfl) (by decide) hx) fun b o e hrd => ?_
 subst e
 refine sx 3 ?_
 refine RunL.op rfl rfl (OpJ.loadA inferInstance rfl pk (hrd.elem (fun _ => rfl) hx) rfl ?_)
 refine RunL.op rfl rfl (OpJ.alloc nZ35 fun b9 => ?_)
 refine sx 1 ?_
 refine kp [1, 5, 7, 8, 9] rfl ?_
 refine sr ?_
 have hGi := fill_good h0 (ms.take i)
 have hni := hGi.n
 refine mvo rfl rfl ?_
 refine RunL.call nC13 rfl rfl rfl (enLen g k p (fillM k p (ms.take i))) tks ?_
 refine sx 2 ?_
 refine RunL.op rfl rfl (OpJ.store1 inferInstance rfl rfl rfl up (by show 0 < 8; decide) ?_)
 refine kp [1, 5, 7, 8, 9] rfl ?_
 refine sr ?_
 refine sx 2 ?_
 refine RunL.callX nC14 rfl rfl rfl (enAdd g k p (fillM k p (ms.take i)) { x with seq := ((fillM k p (ms.take i)).length : Int) + 1 } R0 hR0) tks fun ⟨ja, jc⟩ _ => ?_
 by_cases he : addErr k p (fillM k p (ms.take i)) { x with seq := ((fillM k p (ms.take i)).length : Int) + 1 } = 0
 have hDl := addD_len (m := { x with seq := ((fillM k p (ms.take i)).length : Int) + 1 }) hGi
 rw [addMs_ok he]
 refine sx 4 ?_
 refine RunL.op rfl rfl (OpJ.alloc nZ32 fun b10 => ?_)
 refine sx 3 ?_
 refine kp [1, 5, 7, 8, 10, 11, 12] rfl ?_
 refine Run.seq ?_
 refine sr ?_
 refine sx 2 ?_
 refine RunL.set (v := Bo false) (congrArg Value.bool (decide_eq_false (fun h => h he))) ?_
 refine kp [1, 5, 7, 8, 10, 11, 61] rfl ?_
 refine Run.false rfl ?_
 refine Run.skip ?_
 refine Run.seq ?_
 refine sr ?_
 refine asg rfl rfl ?_
 refine kp [1, 5, 7, 8, 10, 11, 13] rfl ?_
 refine Run.block ?_
 refine Run.weak (L' := [EN g k p ((fillM k p (ms.take i)) ++ [{ x with seq := ((fillM k p (ms.take i)).length : Int) + 1 }]), own 32 4 oc ((fillM k p (ms.take i)).length + 1) cc ((kept1 k p (fillM k p (ms.take i)) { x with seq := ((fillM k p (ms.take i)).length : Int) + 1 } 0).flatMap Co.c), own 41 3 ja (addD k p (fillM k p (ms.take i)) { x with seq := ((fillM k p (ms.take i)).length : Int) + 1 }).length jc ((addD k p (fillM k p (ms.take i)) { x with seq := ((fillM k p (ms.take i)).length : Int) + 1 }).flatMap Aj.c), pt b10 (blk (addC k p (fillM k p (ms.take i)) { x with seq := ((fillM k p (ms.take i)).length : Int) + 1 }).c 32), R, R0]) (fun _ _ h => h) (by rw [kept1_0]; exact gv) ?_
 refine Run.loop (fun mm E L => ∃ (q : Nat) (oc : Option Addr) (ja : Option Addr), mm = (addD k p (fillM k p (ms.take i)) { x with seq := ((fillM k p (ms.take i)).length : Int) + 1 }).length - q ∧ q ≤ (addD k p (fillM k p (ms.take i)) { x with seq := ((fillM k p (ms.take i)).length : Int) + 1 }).length ∧ E = [(1, .slice (some ⟨b, o, none⟩) ms.length cap), (5, Pt g), (7, .slice oc ((fillM k p (ms.take i)).length + 1) cc), (8, I i), (10, .pointer (some ⟨b10, 0, none⟩)), (11, .slice ja (addD k p (fillM k p (ms.take i)) { x with seq := ((fillM k p (ms.take i)).length : Int) + 1 }).length jc), (13, I q)] ∧ L = [EN g k p ((fillM k p (ms.take i)) ++ [{ x with seq := ((fillM k p (ms.take i)).length : Int) + 1 }]), own 32 4 oc ((fillM k p (ms.take i)).length + 1) cc ((kept1 k p (fillM k p (ms.take i)) { x with seq := ((fillM k p (ms.take i)).length : Int) + 1 } q).flatMap Co.c), own 41 3 ja (addD k p (fillM k p (ms.take i)) { x with seq := ((fillM k p (ms.take i)).length : Int) + 1 }).length jc ((addD k p (fillM k p (ms.take i)) { x with seq := ((fillM k p (ms.take i)).length : Int) + 1 }).flatMap Aj.c), pt b10 (blk (addC k p (fillM k p (ms.take i)) { x with seq := ((fillM k p (ms.take i)).length : Int) + 1 }).c 32), R, R0]) ⟨_, 0, oc, ja, rfl, Nat.zero_le _, rfl, rfl⟩ ?_
 clear oc ja
 rintro _ _ _ ⟨q, oc, ja, rfl, hq, rfl, rfl⟩
 refine Run.seq ?_
 refine sr ?_
 refine sx 4 ?_
 refine kp [1, 5, 7, 8, 10, 11, 13, 65] rfl ?_
 refine cnd rfl (fun h2 => ?_) fun h2 => ?_
 refine Run.skip ?_
 refine Run.seq ?_
 refine Run.block ?_
 refine Run.seq ?_
 refine Run.seq ?_
 refine regionD HM ?_
 obtain ⟨d, hd⟩ := get_ex (xs := (addD k p (fillM k p (ms.take i)) { x with seq := ((fillM k p (ms.take i)).length : Int) + 1 })) (i := q) (by omega)
 have hsr := srt_add (m := { x with seq := ((fillM k p (ms.take i)).length : Int) + 1 }) hGi
 have hd1 := hsr.one d (List.mem_of_getElem? hd)
 obtain ⟨s, hs⟩ : ∃ s : Nat, d.seq = s := ⟨d.seq.toNat, by omega⟩
 refine RunD.ownAddr (T := 41) (k := 3) (oa := ja) (m := (addD k p (fillM k p (ms.take i)) { x with seq := ((fillM k p (ms.take i)).length : Int) + 1 }).length) (cap := jc) (cs := (addD k p (fillM k p (ms.take i)) { x with seq := ((fillM k p (ms.take i)).length : Int) + 1 }).flatMap Aj.c) pk (flat_ne (k := 3) (fun _ => rfl) (by decide) hd) fun bj e hcapj => ?_
 subst e
 obtain ⟨o, ho⟩ := get_ex (xs := (kept1 k p (fillM k p (ms.take i)) { x with seq := ((fillM k p (ms.take i)).length : Int) + 1 } q)) (i := s) (by rw [kept1_len hGi]; omega)
 refine RunD.ownAddr (T := 32) (k := 4) (oa := oc) (m := (fillM k p (ms.take i)).length + 1) (cap := cc) (cs := (kept1 k p (fillM k p (ms.take i)) { x with seq := ((fillM k p (ms.take i)).length : Int) + 1 } q).flatMap Co.c) pk (flat_ne (k := 4) (fun _ => rfl) (by decide) ho) fun bc e hcapc => ?_
 subst e
 refine dx [0, 1, 2, 3, 4, 5] ?_
 refine RunD.set (v := Bo false) (congrArg Value.bool (decide_eq_false (by omega))) ?_
 refine dx [6, 7, 8, 9, 10, 11, 12, 13, 14] ?_
 refine RunD.set (v := Bo false) (congrArg Value.bool (decide_eq_false (by omega))) ?_
 refine dx [15, 16, 17, 18] ?_
 rcases Nat.eq_zero_or_pos q with hq0 | hq0
 refine RunD.set (v := Bo false) (congrArg Value.bool (decide_eq_false (by omega))) ?_
 refine dx [19, 20, 21, 22, 23, 24, 25, 26, 27, 28, 29, 30, 31, 32, 33, 34, 35, 36, 37, 38, 39, 40] ?_
 by_cases hv0 : d.value = 0
 refine RunD.set (v := Bo true) (congrArg Value.bool (decide_eq_true hv0)) ?_
 refine dx [41, 42, 43, 44, 45, 46, 47] ?_
 refine RunD.set (v := Bo false) (congrArg Value.bool (decide_eq_false (by omega))) ?_
 refine dx [48, 49] ?_
 refine kd [1, 5, 7, 8, 10, 11, 13, 117] rfl ?_
 refine Run.false rfl ?_
 refine Run.skip ?_
 refine Run.seq ?_
 refine regionD HM ?_
 refine dx [0, 1, 2, 3, 4, 5] ?_
 refine RunD.set (v := I (s : Int)) (congrArg I hs) ?_
 refine dx [6, 7, 8, 9, 10, 11, 12, 13] ?_
 refine tk 14 rfl rfl rfl (DetJ.add rfl rfl) ?_
 refine dx [15, 16] ?_
 refine RunD.op 17 [false, false, false, false, false, false, false, false, false, false, false, false, false, false, false, false, false] rfl rfl rfl kr kr (OpJ.storeO (u' := { o with value := IntKind.i64.wrap (o.value + d.value) }) inferInstance rfl rfl rfl ho (fun _ => rfl) (by decide) rfl up ⟨po, ?_⟩)
 refine kd [1, 5, 7, 8, 10, 11, 13] rfl ?_
 refine regionD HM ?_
 have ho2 : ((kept1 k p (fillM k p (ms.take i)) { x with seq := ((fillM k p (ms.take i)).length : Int) + 1 } q).set s { o with value := IntKind.i64.wrap (o.value + d.value) })[s]? = some { o with value := IntKind.i64.wrap (o.value + d.value) } := List.getElem?_set_self (List.getElem?_eq_some_iff.1 ho).1
 refine dx [0, 1, 2, 3, 4, 5] ?_
 refine RunD.set (v := I (s : Int)) (congrArg I hs) ?_
 refine dx [6, 7, 8, 9, 10, 11, 12, 13] ?_
 refine tk 14 rfl rfl rfl (DetJ.add rfl rfl) ?_
 refine dx [15, 16] ?_
 refine RunD.op 17 [false, false, false, false, false, false, false, false, false, false, false, false, false, false, false, false, false] rfl rfl rfl kr kr (OpJ.storeO (u' := { o with value := IntKind.i64.wrap (o.value + d.value), var := IntKind.i64.wrap (o.var + d.var) }) inferInstance rfl rfl rfl ho2 (fun _ => rfl) (by decide) rfl up ⟨po, ?_⟩)
 refine kd [1, 5, 7, 8, 10, 11, 13] rfl ?_
 refine Run.region ?_
 refine sx 3 ?_
 rw [show ((s : Int)).toNat = s from rfl, kept1_put hd hs ho]
 exact RunL.next (Keep.sub (kt (ks := [1, 5, 7, 8, 10, 11, 13]) rfl)) _ ⟨_, by omega, q + 1, _, _, rfl, by omega, rfl, rfl⟩ gv
 refine RunD.set (v := Bo false) (congrArg Value.bool (decide_eq_false hv0)) ?_
 refine dx [41, 42, 43, 44, 45, 46, 47, 48, 49] ?_
 refine kd [1, 5, 7, 8, 10, 11, 13, 117] rfl ?_
 refine Run.false rfl ?_
 refine Run.skip ?_
 refine Run.seq ?_
 refine regionD HM ?_
 refine dx [0, 1, 2, 3, 4, 5] ?_
 refine RunD.set (v := I (s : Int)) (congrArg I hs) ?_
 refine dx [6, 7, 8, 9, 10, 11, 12, 13] ?_
 refine tk 14 rfl rfl rfl (DetJ.add rfl rfl) ?_
 refine dx [15, 16] ?_
 refine RunD.op 17 [false, false, false, false, false, false, false, false, false, false, false, false, false, false, false, false, false] rfl rfl rfl kr kr (OpJ.storeO (u' := { o with value := IntKind.i64.wrap (o.value + d.value) }) inferInstance rfl rfl rfl ho (fun _ => rfl) (by decide) rfl up ⟨po, ?_⟩)
 refine kd [1, 5, 7, 8, 10, 11, 13] rfl ?_
 refine regionD HM ?_
 have ho2 : ((kept1 k p (fillM k p (ms.take i)) { x with seq := ((fillM k p (ms.take i)).length : Int) + 1 } q).set s { o with value := IntKind.i64.wrap (o.value + d.value) })[s]? = some { o with value := IntKind.i64.wrap (o.value + d.value) } := List.getElem?_set_self (List.getElem?_eq_some_iff.1 ho).1
 refine dx [0, 1, 2, 3, 4, 5] ?_
 refine RunD.set (v := I (s : Int)) (congrArg I hs) ?_
 refine dx [6, 7, 8, 9, 10, 11, 12, 13] ?_
 refine tk 14 rfl rfl rfl (DetJ.add rfl rfl) ?_
 refine dx [15, 16] ?_
 refine RunD.op 17 [false, false, false, false, false, false, false, false, false, false, false, false, false, false, false, false, false] rfl rfl rfl kr kr (OpJ.storeO (u' := { o with value := IntKind.i64.wrap (o.value + d.value), var := IntKind.i64.wrap (o.var + d.var) }) inferInstance rfl rfl rfl ho2 (fun _ => rfl) (by decide) rfl up ⟨po, ?_⟩)
 refine kd [1, 5, 7, 8, 10, 11, 13] rfl ?_
 refine Run.region ?_
 refine sx 3 ?_
 rw [show ((s : Int)).toNat = s from rfl, kept1_put hd hs ho]
 exact RunL.next (Keep.sub (kt (ks := [1, 5, 7, 8, 10, 11, 13]) rfl)) _ ⟨_, by omega, q + 1, _, _, rfl, by omega, rfl, rfl⟩ gv
 refine RunD.set (v := Bo true) (congrArg Value.bool (decide_eq_true (by omega))) ?_
 obtain ⟨d0, hd0⟩ := get_ex (xs := (addD k p (fillM k p (ms.take i)) { x with seq := ((fillM k p (ms.take i)).length : Int) + 1 })) (i := q - 1) (by omega)
 have hlt := hsr.prev hd0 (by rw [show q - 1 + 1 = q by omega]; exact hd)
 refine dx [19, 20, 21, 22, 23, 24, 25, 26, 27] ?_
 refine RunD.set (v := I ((q - 1 : Nat) : Int)) (congrArg I (by omega)) ?_
 refine dx [28, 29, 30, 31] ?_
 refine RunD.set (v := Bo false) (congrArg Value.bool (decide_eq_false (by omega))) ?_
 refine dx [32, 33, 34, 35, 36, 37, 38, 39, 40] ?_
 by_cases hv0 : d.value = 0
 refine RunD.set (v := Bo true) (congrArg Value.bool (decide_eq_true hv0)) ?_
 refine dx [41, 42, 43, 44, 45, 46, 47] ?_
 refine RunD.set (v := Bo false) (congrArg Value.bool (decide_eq_false (by omega))) ?_
 refine dx [48, 49] ?_
 refine kd [1, 5, 7, 8, 10, 11, 13, 117] rfl ?_
 refine Run.false rfl ?_
 refine Run.skip ?_
 refine Run.seq ?_
 refine regionD HM ?_
 refine dx [0, 1, 2, 3, 4, 5] ?_
 refine RunD.set (v := I (s : Int)) (congrArg I hs) ?_
 refine dx [6, 7, 8, 9, 10, 11, 12, 13] ?_
 refine tk 14 rfl rfl rfl (DetJ.add rfl rfl) ?_
 refine dx [15, 16] ?_
 refine RunD.op 17 [false, false, false, false, false, false, false, false, false, false, false, false, false, false, false, false, false] rfl rfl rfl kr kr (OpJ.storeO (u' := { o with value := IntKind.i64.wrap (o.value + d.value) }) inferInstance rfl rfl rfl ho (fun _ => rfl) (by decide) rfl up ⟨po, ?_⟩)
 refine kd [1, 5, 7, 8, 10, 11, 13] rfl ?_
 refine regionD HM ?_
 have ho2 : ((kept1 k p (fillM k p (ms.take i)) { x with seq := ((fillM k p (ms.take i)).length : Int) + 1 } q).set s { o with value := IntKind.i64.wrap (o.value + d.value) })[s]? = some { o with value := IntKind.i64.wrap (o.value + d.value) } := List.getElem?_set_self (List.getElem?_eq_some_iff.1 ho).1
 refine dx [0, 1, 2, 3, 4, 5] ?_
 refine RunD.set (v := I (s : Int)) (congrArg I hs) ?_
 refine dx [6, 7, 8, 9, 10, 11, 12, 13] ?_
 refine tk 14 rfl rfl rfl (DetJ.add rfl rfl) ?_
 refine dx [15, 16] ?_
 refine RunD.op 17 [false, false, false, false, false, false, false, false, false, false, false, false, false, false, false, false, false] rfl rfl rfl kr kr (OpJ.storeO (u' := { o with value := IntKind.i64.wrap (o.value + d.value), var := IntKind.i64.wrap (o.var + d.var) }) inferInstance rfl rfl rfl ho2 (fun _ => rfl) (by decide) rfl up ⟨po, ?_⟩)
 refine kd [1, 5, 7, 8, 10, 11, 13] rfl ?_
 refine Run.region ?_
 refine sx 3 ?_
 rw [show ((s : Int)).toNat = s from rfl, kept1_put hd hs ho]
 exact RunL.next (Keep.sub (kt (ks := [1, 5, 7, 8, 10, 11, 13]) rfl)) _ ⟨_, by omega, q + 1, _, _, rfl, by omega, rfl, rfl⟩ gv
 refine RunD.set (v := Bo false) (congrArg Value.bool (decide_eq_false hv0)) ?_
 refine dx [41, 42, 43, 44, 45, 46, 47, 48, 49] ?_
 refine kd [1, 5, 7, 8, 10, 11, 13, 117] rfl ?_
 refine Run.false rfl ?_
 refine Run.skip ?_
 refine Run.seq ?_
 refine regionD HM ?_
 refine dx [0, 1, 2, 3, 4, 5] ?_
 refine RunD.set (v := I (s : Int)) (congrArg I hs) ?_
 refine dx [6, 7, 8, 9, 10, 11, 12, 13] ?_
 refine tk 14 rfl rfl rfl (DetJ.add rfl rfl) ?_
 refine dx [15, 16] ?_
 refine RunD.op 17 [false, false, false, false, false, false, false, false, false, false, false, false, false, false, false, false, false] rfl rfl rfl kr kr (OpJ.storeO (u' := { o with value := IntKind.i64.wrap (o.value + d.value) }) inferInstance rfl rfl rfl ho (fun _ => rfl) (by decide) rfl up ⟨po, ?_⟩)
 refine kd [1, 5, 7, 8, 10, 11, 13] rfl ?_
 refine regionD HM ?_
 have ho2 : ((kept1 k p (fillM k p (ms.take i)) { x with seq := ((fillM k p (ms.take i)).length : Int) + 1 } q).set s { o with value := IntKind.i64.wrap (o.value + d.value) })[s]? = some { o with value := IntKind.i64.wrap (o.value + d.value) } := List.getElem?_set_self (List.getElem?_eq_some_iff.1 ho).1
 refine dx [0, 1, 2, 3, 4, 5] ?_
 refine RunD.set (v := I (s : Int)) (congrArg I hs) ?_
 refine dx [6, 7, 8, 9, 10, 11, 12, 13] ?_
 refine tk 14 rfl rfl rfl (DetJ.add rfl rfl) ?_
 refine dx [15, 16] ?_
 refine RunD.op 17 [false, false, false, false, false, false, false, false, false, false, false, false, false, false, false, false, false] rfl rfl rfl kr kr (OpJ.storeO (u' := { o with value := IntKind.i64.wrap (o.value + d.value), var := IntKind.i64.wrap (o.var + d.var) }) inferInstance rfl rfl rfl ho2 (fun _ => rfl) (by decide) rfl up ⟨po, ?_⟩)
 refine kd [1, 5, 7, 8, 10, 11, 13] rfl ?_
 refine Run.region ?_
 refine sx 3 ?_
 rw [show ((s : Int)).toNat = s from rfl, kept1_put hd hs ho]
 exact RunL.next (Keep.sub (kt (ks := [1, 5, 7, 8, 10, 11, 13]) rfl)) _ ⟨_, by omega, q + 1, _, _, rfl, by omega, rfl, rfl⟩ gv
 refine Run.exit ?_
 refine Run.region ?_
 obtain rfl : q = (addD k p (fillM k p (ms.take i)) { x with seq := ((fillM k p (ms.take i)).length : Int) + 1 }).length := by omega
 have hk1 : (kept1 k p (fillM k p (ms.take i)) { x with seq := ((fillM k p (ms.take i)).length : Int) + 1 } (addD k p (fillM k p (ms.take i)) { x with seq := ((fillM k p (ms.take i)).length : Int) + 1 }).length).length = (fillM k p (ms.take i)).length + 1 := kept1_len hGi
 rw [← hk1]
 refine sx 2 ?_
 refine RunL.op rfl rfl (OpJ.buildSlice1 nS33 rfl rfl rfl (by decide) (by decide) nZ32 rfl fun b154 => ?_)
 refine RunL.op rfl rfl (OpJ.append1 (addC k p (fillM k p (ms.take i)) { x with seq := ((fillM k p (ms.take i)).length : Int) + 1 }) nS33 nM32 rfl rfl pk pk rfl rfl (by simp [Value.oneCell', Pa.c, Ly.c, Mv.c, Co.c, Aj.c, Ks.c, Iv]) rfl (by omega) (by omega) fun a155 c155 => ?_)
 refine asg rfl rfl ?_
 refine kp [1, 5, 7, 8] rfl ?_
 refine Run.region ?_
 refine sx 3 ?_
 have hfn := fill_new (k := k) (p := p) hx
 rw [addMs_ok he] at hfn
 have hl2 : (kept k p (fillM k p (ms.take (i + 1)))).length = _ := kept_len (fill_good h0 _)
 rw [kept_fin hGi he, ← hfn, hl2]
 exact RunL.next (Keep.sub (kt (ks := [1, 5, 7, 8]) rfl)) _ ⟨_, by omega, i + 1, a155, c155, rfl, by omega, rfl, rfl⟩ gv
 rw [addMs_no he]
 refine sx 4 ?_
 refine RunL.op rfl rfl (OpJ.alloc nZ32 fun b10 => ?_)
 refine sx 3 ?_
 refine kp [1, 5, 7, 8, 10, 11, 12] rfl ?_
 refine Run.seq ?_
 refine sr ?_
 refine sx 2 ?_
 refine RunL.set (v := Bo true) (congrArg Value.bool (decide_eq_true he)) ?_
 refine kp [1, 5, 7, 8, 10, 11, 61] rfl ?_
 refine Run.true rfl ?_
 refine Run.exit ?_
 refine Run.region ?_
 refine sx 3 ?_
 have hfn := fill_new (k := k) (p := p) hx
 rw [addMs_no he] at hfn
 rw [← hfn]
 exact RunL.next (Keep.sub (kt (ks := [1, 5, 7, 8]) rfl)) _ ⟨_, by omega, i + 1, oc, cc, rfl, by omega, rfl, rfl⟩ gv
 refine Run.exit ?_
 refine Run.seq ?_
 refine sr ?_
 refine asg rfl rfl ?_
 refine kp [5, 7, 14] rfl ?_
 refine Run.block ?_
 have hfin : ms.take i = ms := List.take_of_length_le (by omega)
 rw [hfin]
 refine Run.weak (L' := [EN g k p (fillM k p ms), own 32 4 oc ((fillM k p ms).length + 1) cc ((kept k p (fillM k p ms)).flatMap Co.c), R, R0]) (fun _ _ h => h) gv ?_
 refine Run.loop (fun mm E L => ∃ (i : Nat) (oc : Option Addr), mm = (fillM k p ms).length + 1 - i ∧ 1 ≤ i ∧ i ≤ (fillM k p ms).length + 1 ∧ E = [(5, Pt g), (7, .slice oc ((fillM k p ms).length + 1) cc), (14, I i)] ∧ L = [EN g k p (fillM k p ms), own 32 4 oc ((fillM k p ms).length + 1) cc ((kept k p (fillM k p ms)).flatMap Co.c), R, R0]) ⟨_, 1, oc, rfl, by decide, by omega, rfl, rfl⟩ ?_
 clear hfin
 rintro _ _ _ ⟨i, oc, rfl, h1i, hi, rfl, rfl⟩
 refine Run.seq ?_
 refine sr ?_
 refine sx 4 ?_
 refine kp [5, 7, 14, 159] rfl ?_
 refine cnd rfl (fun h3 => ?_) fun h3 => ?_
 refine Run.skip ?_
 refine Run.seq ?_
 refine Run.block ?_
 refine sr ?_
 obtain ⟨c, hc⟩ := get_ex (xs := kept k p (fillM k p ms)) (i := i) (by omega)
 have hcost := kept_at hGf hc h1i
 have hcost1 := congrArg Prod.fst hcost
 have hcost2 := congrArg Prod.snd hcost
 dsimp only at hcost1 hcost2
 refine RunL.ownAddr (T := 32) (k := 4) (oa := oc) (m := (fillM k p ms).length + 1) (cap := cc) (cs := (kept k p (fillM k p ms)).flatMap Co.c) pk (flat_ne (k := 4) (fun _ => rfl) (by decide) hc) fun bc e hcapc => ?_
 subst e
 refine sx 2 ?_
 refine RunL.call nC15 rfl rfl rfl (enCost g k p (fillM k p ms) (i : Int) (by omega)) tks ?_
 rw [hcost1, hcost2]
 refine sx 3 ?_
 refine RunL.op rfl rfl (OpJ.alloc nZ32 fun b15 => ?_)
 refine sx 2 ?_
 refine kp [5, 7, 14, 15, 16] rfl ?_
 refine Run.seq ?_
 refine regionD HM ?_
 refine dx [0, 1, 2, 3, 4, 5, 6, 7, 8] ?_
 refine RunD.set (v := Bo false) (congrArg Value.bool (by simp)) ?_
 refine dx [9] ?_
 refine kd [5, 7, 14, 177] rfl ?_
 refine Run.false rfl ?_
 refine Run.skip ?_
 refine Run.region ?_
 refine sx 3 ?_
 exact RunL.next (Keep.sub (kt (ks := [5, 7, 14]) rfl)) _ ⟨_, by omega, i + 1, _, rfl, by omega, by omega, rfl, rfl⟩ gv
 refine Run.exit ?_
 refine sr ?_
 refine sx 3 ?_
 refine RunL.call nC13 rfl rfl rfl (enLen g k p (fillM k p ms)) tks ?_
 refine sx 2 ?_
 refine RunL.set (v := Bo true) (congrArg Value.bool (decide_eq_true (by omega))) ?_
 refine mvo rfl rfl ?_
 refine RunL.callG nC12 rfl rfl rfl rfl rfl (ac12n R0 hR0) tks ?_
 refine sx 2 ?_
 refine kp [4] rfl ?_
 refine Run.ret ?_
 exact ret_one (.tmp rfl .nil) (rfl) gv
end
theorem ac3n (k p : Int) (R : HP) (oa : Option Addr) (cap : Nat) (ms : List Mv) (hR : RdS R oa (ms.flatMap Mv.c)) (hlen : (ms.length : Int) ≤ 9223372036854775807) (R0 : HP) (hR0 : Rd R0 ⟨0, 0, none⟩ lensC)  : AC Tryz.prog 3 ⟨[.agg ⟨[I k, I p]⟩, .slice oa ms.length cap]⟩ (stars [R, R0]) (Ret (Bo true) [R, R0]) := by
  by_cases h0 : startE k p = 0
  · exact ac3y k p R oa cap ms hR hlen R0 hR0  h0
  · exact ac3z k p R oa cap ms hR hlen R0 hR0  h0
section
attribute [local irreducible] OpJ RunL Run RunD DetJ pt own star Rd RdS EN fillM addMs addErr csOf skOf addC addD kept kept1
end
end Go.Proofs.YtcpghpifbgpkjaaGreatDoor

namespace Go.Proofs.YtcpghpifbgpkjaaGreatDoor
open Go Go.SL Go.Proofs
section
attribute [local irreducible] OpJ RunL Run RunD DetJ pt own star Rd RdS EN fillM addMs addErr csOf skOf addC addD ordM
-- accountinglaw39.RecostOrder
theorem ac8z (k p : Int) (R : HP) (oa : Option Addr) (cap : Nat) (ms : List Mv) (hR : RdS R oa (ms.flatMap Mv.c)) (hlen : (ms.length : Int) ≤ 9223372036854775807) (R0 : HP) (hR0 : Rd R0 ⟨0, 0, none⟩ lensC) (h0 : startE k p ≠ 0) : AC Tryz.prog 8 ⟨[.agg ⟨[I k, I p]⟩, .slice oa ms.length cap]⟩ (stars [R, R0]) (Ret (Bo true) [R, R0]) := by
 refine AC.go Tryz.func8 rfl (Nat.le_of_ble_eq_true rfl) fun β => ?_
 refine sr ?_
 refine RunL.op rfl rfl (OpJ.boxA rfl fun b2 => ?_)
 refine asg rfl rfl ?_
 refine kp [1, 2] rfl ?_
 refine Run.seq ?_
 refine sr ?_
 refine mvo rfl rfl ?_
 refine RunL.call nC11 rfl rfl rfl (ac11n R oa cap ms hR hlen) tks ?_
 rcases hl : lightMs ms with _ | _
 refine sx 6 ?_
 refine kp [1, 2, 26] rfl ?_
 refine Run.true rfl ?_
 refine sr ?_
 refine RunL.call nC12 rfl rfl rfl (ac12n R0 hR0) tks ?_
 refine asg rfl rfl ?_
 refine kp [4] rfl ?_
 refine Run.ret ?_
 exact ret_one (.tmp rfl .nil) (rfl) gv
 refine sx 3 ?_
 refine RunL.callXG nC28 rfl rfl rfl rfl rfl (ac28n R oa cap ms hR hlen) tks fun bal hal => ?_
 rcases bal with _ | _
 refine sx 2 ?_
 refine kp [1, 2, 26] rfl ?_
 refine Run.true rfl ?_
 refine sr ?_
 refine RunL.call nC12 rfl rfl rfl (ac12n R0 hR0) tks ?_
 refine asg rfl rfl ?_
 refine kp [4] rfl ?_
 refine Run.ret ?_
 exact ret_one (.tmp rfl .nil) (rfl) gv
 have hal := hal rfl
 have h50 := light_len hl
 refine sx 2 ?_
 refine kp [1, 2, 26] rfl ?_
 refine Run.false rfl ?_
 refine Run.skip ?_
 refine sr ?_
 refine asg rfl rfl ?_
 refine kp [1, 2, 5] rfl ?_
 refine Run.seq ?_
 refine sr ?_
 refine RunL.ownNil 35 8 ?_
 refine asg rfl rfl ?_
 refine kp [1, 2, 5, 6] rfl ?_
 refine Run.block ?_
 refine Run.weak (L' := [own 35 8 none (pickL ms 0 0).length 0 ((pickL ms 0 0).flatMap Mv.c), pt b2 (blk [I k, I p] 23), R, R0]) (fun _ _ h => h) gv ?_
 refine Run.loop (fun mm E L => ∃ (j : Nat) (ma : Option Addr) (mc : Nat) (oz : Option Addr), mm = ms.length - 2 * j ∧ RdS R oz (ms.flatMap Mv.c) ∧ 2 * j ≤ ms.length + 1 ∧ E = [(1, .slice oz ms.length cap), (2, .pointer (some ⟨b2, 0, none⟩)), (5, .slice ma (pickL ms 0 j).length mc), (6, I ((2 * j : Nat) : Int))] ∧ L = [own 35 8 ma (pickL ms 0 j).length mc ((pickL ms 0 j).flatMap Mv.c), pt b2 (blk [I k, I p] 23), R, R0]) ⟨_, 0, none, 0, oa, rfl, hR, Nat.zero_le _, rfl, rfl⟩ ?_
 rintro _ _ _ ⟨j, ma, mc, oz, rfl, hR, hj, rfl, rfl⟩
 have hjl := pickL_len (l := ms) (a := 0) (j := j)
 refine Run.seq ?_
 refine sr ?_
 refine sx 4 ?_
 refine kp [1, 2, 5, 6, 31] rfl ?_
 refine cnd rfl (fun h1 => ?_) fun h1 => ?_
 refine Run.skip ?_
 refine Run.seq ?_
 refine Run.block ?_
 refine Run.region ?_
 obtain ⟨x, hx⟩ := get_ex (xs := ms) (i := 2 * j) (by omega)
 refine RunL.rdOpen pk hR (flat_ne (k := 8) (fun _ => rfl) (by decide) hx) fun b o e hrd => ?_
 subst e
 refine sx 4 ?_
 refine RunL.op rfl rfl (OpJ.loadA inferInstance rfl pk (hrd.elem (fun _ => rfl) hx) rfl ?_)
 refine RunL.op rfl rfl (OpJ.buildSlice1 nS24 rfl rfl rfl (by decide) (by decide) nZ35 rfl fun b39 => ?_)
 refine RunL.op rfl rfl (OpJ.append1 (x : Mv) nS24 nM35 rfl rfl pk pk rfl rfl (by simp [Value.oneCell', Pa.c, Ly.c, Mv.c, Co.c, Aj.c, Ks.c, Iv]) rfl (by omega) (by omega) fun a40 c40 => ?_)
 refine asg rfl rfl ?_
 refine kp [1, 2, 5, 6] rfl ?_
 refine Run.region ?_
 refine sx 2 ?_
 refine RunL.set (v := I ((2 * (j + 1) : Nat) : Int)) (congrArg I (by omega)) ?_
 refine asg rfl rfl ?_
 rw [← pickL_succ (a := 0) (by rw [Nat.zero_add]; exact hx)]
 exact RunL.next (Keep.sub (kt (ks := [1, 2, 5, 6]) rfl)) _ ⟨_, by omega, j + 1, a40, c40, _, rfl, hR, by omega, rfl, rfl⟩ gv
 refine Run.exit ?_
 refine Run.seq ?_
 refine sr ?_
 refine asg rfl rfl ?_
 refine kp [1, 2, 5, 7] rfl ?_
 refine Run.block ?_
 have hj2 : ms.length ≤ 2 * j := by omega
 refine Run.weak (L' := [own 35 8 ma (pickL ms 0 j ++ pickL ms 1 0).length mc ((pickL ms 0 j ++ pickL ms 1 0).flatMap Mv.c), pt b2 (blk [I k, I p] 23), R, R0]) (fun _ _ h => h) (by rw [show (pickL ms 0 j ++ pickL ms 1 0) = (pickL ms 0 j) from List.append_nil _]; exact gv) ?_
 refine Run.loop (fun mm E L => ∃ (q : Nat) (ma : Option Addr) (mc : Nat) (oz : Option Addr), mm = ms.length - (1 + 2 * q) ∧ RdS R oz (ms.flatMap Mv.c) ∧ 2 * q ≤ ms.length + 1 ∧ E = [(1, .slice oz ms.length cap), (2, .pointer (some ⟨b2, 0, none⟩)), (5, .slice ma (pickL ms 0 j ++ pickL ms 1 q).length mc), (7, I ((1 + 2 * q : Nat) : Int))] ∧ L = [own 35 8 ma (pickL ms 0 j ++ pickL ms 1 q).length mc ((pickL ms 0 j ++ pickL ms 1 q).flatMap Mv.c), pt b2 (blk [I k, I p] 23), R, R0]) ⟨_, 0, ma, mc, _, rfl, hR, Nat.zero_le _, by rw [show (pickL ms 0 j ++ pickL ms 1 0) = (pickL ms 0 j) from List.append_nil _]; rfl, rfl⟩ ?_
 clear hR ma mc
 rintro _ _ _ ⟨q, ma, mc, oz, rfl, hR, hq, rfl, rfl⟩
 have hql := pickL_len (l := ms) (a := 1) (j := q)
 have hjq : (pickL ms 0 j ++ pickL ms 1 q).length = _ := List.length_append
 refine Run.seq ?_
 refine sr ?_
 refine sx 4 ?_
 refine kp [1, 2, 5, 7, 44] rfl ?_
 refine cnd rfl (fun h2 => ?_) fun h2 => ?_
 refine Run.skip ?_
 refine Run.seq ?_
 refine Run.block ?_
 refine Run.region ?_
 obtain ⟨x, hx⟩ := get_ex (xs := ms) (i := 1 + 2 * q) (by omega)
 refine RunL.rdOpen pk hR (flat_ne (k := 8) (fun _ => rfl) (by decide) hx) fun b o e hrd => ?_
 subst e
 refine sx 4 ?_
 refine RunL.op rfl rfl (OpJ.loadA inferInstance rfl pk (hrd.elem (fun _ => rfl) hx) rfl ?_)
 refine RunL.op rfl rfl (OpJ.buildSlice1 nS24 rfl rfl rfl (by decide) (by decide) nZ35 rfl fun b52 => ?_)
 refine RunL.op rfl rfl (OpJ.append1 (x : Mv) nS24 nM35 rfl rfl pk pk rfl rfl (by simp [Value.oneCell', Pa.c, Ly.c, Mv.c, Co.c, Aj.c, Ks.c, Iv]) rfl (by omega) (by omega) fun a53 c53 => ?_)
 refine asg rfl rfl ?_
 refine kp [1, 2, 5, 7] rfl ?_
 refine Run.region ?_
 refine sx 2 ?_
 refine RunL.set (v := I ((1 + 2 * (q + 1) : Nat) : Int)) (congrArg I (by omega)) ?_
 refine asg rfl rfl ?_
 rw [List.append_assoc, ← pickL_succ (a := 1) hx]
 exact RunL.next (Keep.sub (kt (ks := [1, 2, 5, 7]) rfl)) _ ⟨_, by omega, q + 1, a53, c53, _, rfl, hR, by omega, rfl, rfl⟩ gv
 refine Run.exit ?_
 refine Run.seq ?_
 have hq2 : ms.length ≤ 1 + 2 * q := by omega
 have hlM0 := pick_len hj2 hq2
 have hlM : ((pickL ms 0 j ++ pickL ms 1 q).length : Int) ≤ 9223372036854775807 := by omega
 refine regionD HM ?_
 refine RunD.mono (K' := fun E' L' => ∃ oz : Option Addr, E' = [(1, .slice oz ms.length cap), (8, .pointer none), (9, .pointer none)] ∧ L' = [R, R0]) ?_ ?_
 refine dx [0, 1, 3, 4] ?_
 refine RunD.op 2 [true, true, false, false] rfl rfl rfl kr kr (OpJ.callOuts nC27 rfl rfl (fillZ k p h0 R _ cap ms hR hlen R0 hR0) tks fun _ _ => ⟨po, ?_⟩)
 refine RunD.op 5 [false, false] rfl rfl rfl kr kr (OpJ.callOuts nC27 rfl rfl (fillZ k p h0 (own 35 8 ma (pickL ms 0 j ++ pickL ms 1 q).length mc ((pickL ms 0 j ++ pickL ms 1 q).flatMap Mv.c)) ma mc (pickL ms 0 j ++ pickL ms 1 q) own.rds hlM R0 hR0) tks fun _ _ => ⟨po, ?_⟩)
 refine dx [6, 7] ?_
 exact dwk ⟨_, rfl, rfl⟩ rfl gv
 rintro _ _ ⟨oz, rfl, rfl⟩
 refine Run.seq ?_
 refine sr ?_
 refine sx 20 ?_
 refine kp [8, 9, 79] rfl ?_
 refine Run.true rfl ?_
 refine sr ?_
 refine RunL.call nC12 rfl rfl rfl (ac12n R0 hR0) tks ?_
 refine asg rfl rfl ?_
 refine kp [4] rfl ?_
 refine Run.ret ?_
 exact ret_one (.tmp rfl .nil) (rfl) gv
-- accountinglaw39.RecostOrder
theorem ac8y (k p : Int) (R : HP) (oa : Option Addr) (cap : Nat) (ms : List Mv) (hR : RdS R oa (ms.flatMap Mv.c)) (hlen : (ms.length : Int) ≤ 9223372036854775807) (R0 : HP) (hR0 : Rd R0 ⟨0, 0, none⟩ lensC) (h0 : startE k p = 0) : AC Tryz.prog 8 ⟨[.agg ⟨[I k, I p]⟩, .slice oa ms.length cap]⟩ (stars [R, R0]) (Ret (Bo true) [R, R0]) := by
 refine AC.go Tryz.func8 rfl (Nat.le_of_ble_eq_true rfl) fun β => ?_
 refine sr ?_
 refine RunL.op rfl rfl (OpJ.boxA rfl fun b2 => ?_)
 refine asg rfl rfl ?_
 refine kp [1, 2] rfl ?_
 refine Run.seq ?_
 refine sr ?_
 refine mvo rfl rfl ?_
 refine RunL.call nC11 rfl rfl rfl (ac11n R oa cap ms hR hlen) tks ?_
 rcases hl : lightMs ms with _ | _
 refine sx 6 ?_
 refine kp [1, 2, 26] rfl ?_
 refine Run.true rfl ?_
 refine sr ?_
 refine RunL.call nC12 rfl rfl rfl (ac12n R0 hR0) tks ?_
 refine asg rfl rfl ?_
 refine kp [4] rfl ?_
 refine Run.ret ?_
 exact ret_one (.tmp rfl .nil) (rfl) gv
 refine sx 3 ?_
 refine RunL.callXG nC28 rfl rfl rfl rfl rfl (ac28n R oa cap ms hR hlen) tks fun bal hal => ?_
 rcases bal with _ | _
 refine sx 2 ?_
 refine kp [1, 2, 26] rfl ?_
 refine Run.true rfl ?_
 refine sr ?_
 refine RunL.call nC12 rfl rfl rfl (ac12n R0 hR0) tks ?_
 refine asg rfl rfl ?_
 refine kp [4] rfl ?_
 refine Run.ret ?_
 exact ret_one (.tmp rfl .nil) (rfl) gv
 have hal := hal rfl
 have h50 := light_len hl
 refine sx 2 ?_
 refine kp [1, 2, 26] rfl ?_
 refine Run.false rfl ?_
 refine Run.skip ?_
 refine sr ?_
 refine asg rfl rfl ?_
 refine kp [1, 2, 5] rfl ?_
 refine Run.seq ?_
 refine sr ?_
 refine RunL.ownNil 35 8 ?_
 refine asg rfl rfl ?_
 refine kp [1, 2, 5, 6] rfl ?_
 refine Run.block ?_
 refine Run.weak (L' := [own 35 8 none (pickL ms 0 0).length 0 ((pickL ms 0 0).flatMap Mv.c), pt b2 (blk [I k, I p] 23), R, R0]) (fun _ _ h => h) gv ?_
 refine Run.loop (fun mm E L => ∃ (j : Nat) (ma : Option Addr) (mc : Nat) (oz : Option Addr), mm = ms.length - 2 * j ∧ RdS R oz (ms.flatMap Mv.c) ∧ 2 * j ≤ ms.length + 1 ∧ E = [(1, .slice oz ms.length cap), (2, .pointer (some ⟨b2, 0, none⟩)), (5, .slice ma (pickL ms 0 j).length mc), (6, I ((2 * j : Nat) : Int))] ∧ L = [own 35 8 ma (pickL ms 0 j).length mc ((pickL ms 0 j).flatMap Mv.c), pt b2 (blk [I k, I p] 23), R, R0]) ⟨_, 0, none, 0, oa, rfl, hR, Nat.zero_le _, rfl, rfl⟩ ?_
 rintro _ _ _ ⟨j, ma, mc, oz, rfl, hR, hj, rfl, rfl⟩
 have hjl := pickL_len (l := ms) (a := 0) (j := j)
 refine Run.seq ?_
 refine sr ?_
 refine sx 4 ?_
 refine kp [1, 2, 5, 6, 31] rfl ?_
 refine cnd rfl (fun h1 => ?_) fun h1 => ?_
 refine Run.skip ?_
 refine Run.seq ?_
 refine Run.block ?_
 refine Run.region ?_
 obtain ⟨x, hx⟩ := get_ex (xs := ms) (i := 2 * j) (by omega)
 refine RunL.rdOpen pk hR (flat_ne (k := 8) (fun _ => rfl) (by decide) hx) fun b o e hrd => ?_
 subst e
 refine sx 4 ?_
 refine RunL.op rfl rfl (OpJ.loadA inferInstance rfl pk (hrd.elem (fun _ => rfl) hx) rfl ?_)
 refine RunL.op rfl rfl (OpJ.buildSlice1 nS24 rfl rfl rfl (by decide) (by decide) nZ35 rfl fun b39 => ?_)
 refine RunL.op rfl rfl (OpJ.append1 (x : Mv) nS24 nM35 rfl rfl pk pk rfl rfl (by simp [Value.oneCell', Pa.c, Ly.c, Mv.c, Co.c, Aj.c, Ks.c, Iv]) rfl (by omega) (by omega) fun a40 c40 => ?_)
 refine asg rfl rfl ?_
 refine kp [1, 2, 5, 6] rfl ?_
 refine Run.region ?_
 refine sx 2 ?_
 refine RunL.set (v := I ((2 * (j + 1) : Nat) : Int)) (congrArg I (by omega)) ?_
 refine asg rfl rfl ?_
 rw [← pickL_succ (a := 0) (by rw [Nat.zero_add]; exact hx)]
 exact RunL.next (Keep.sub (kt (ks := [1, 2, 5, 6]) rfl)) _ ⟨_, by omega, j + 1, a40, c40, _, rfl, hR, by omega, rfl, rfl⟩ gv
 refine Run.exit ?_
 refine Run.seq ?_
 refine sr ?_
 refine asg rfl rfl ?_
 refine kp [1, 2, 5, 7] rfl ?_
 refine Run.block ?_
 have hj2 : ms.length ≤ 2 * j := by omega
 refine Run.weak (L' := [own 35 8 ma (pickL ms 0 j ++ pickL ms 1 0).length mc ((pickL ms 0 j ++ pickL ms 1 0).flatMap Mv.c), pt b2 (blk [I k, I p] 23), R, R0]) (fun _ _ h => h) (by rw [show (pickL ms 0 j ++ pickL ms 1 0) = (pickL ms 0 j) from List.append_nil _]; exact gv) ?_
 refine Run.loop (fun mm E L => ∃ (q : Nat) (ma : Option Addr) (mc : Nat) (oz : Option Addr), mm = ms.length - (1 + 2 * q) ∧ RdS R oz (ms.flatMap Mv.c) ∧ 2 * q ≤ ms.length + 1 ∧ E = [(1, .slice oz ms.length cap), (2, .pointer (some ⟨b2, 0, none⟩)), (5, .slice ma (pickL ms 0 j ++ pickL ms 1 q).length mc), (7, I ((1 + 2 * q : Nat) : Int))] ∧ L = [own 35 8 ma (pickL ms 0 j ++ pickL ms 1 q).length mc ((pickL ms 0 j ++ pickL ms 1 q).flatMap Mv.c), pt b2 (blk [I k, I p] 23), R, R0]) ⟨_, 0, ma, mc, _, rfl, hR, Nat.zero_le _, by rw [show (pickL ms 0 j ++ pickL ms 1 0) = (pickL ms 0 j) from List.append_nil _]; rfl, rfl⟩ ?_
 clear hR ma mc
 rintro _ _ _ ⟨q, ma, mc, oz, rfl, hR, hq, rfl, rfl⟩
 have hql := pickL_len (l := ms) (a := 1) (j := q)
 have hjq : (pickL ms 0 j ++ pickL ms 1 q).length = _ := List.length_append
 refine Run.seq ?_
 refine sr ?_
 refine sx 4 ?_
 refine kp [1, 2, 5, 7, 44] rfl ?_
 refine cnd rfl (fun h2 => ?_) fun h2 => ?_
 refine Run.skip ?_
 refine Run.seq ?_
 refine Run.block ?_
 refine Run.region ?_
 obtain ⟨x, hx⟩ := get_ex (xs := ms) (i := 1 + 2 * q) (by omega)
 refine RunL.rdOpen pk hR (flat_ne (k := 8) (fun _ => rfl) (by decide) hx) fun b o e hrd => ?_
 subst e
 refine sx 4 ?_
 refine RunL.op rfl rfl (OpJ.loadA inferInstance rfl pk (hrd.elem (fun _ => rfl) hx) rfl ?_)
 refine RunL.op rfl rfl (OpJ.buildSlice1 nS24 rfl rfl rfl (by decide) (by decide) nZ35 rfl fun b52 => ?_)
 refine RunL.op rfl rfl (OpJ.append1 (x : Mv) nS24 nM35 rfl rfl pk pk rfl rfl (by simp [Value.oneCell', Pa.c, Ly.c, Mv.c, Co.c, Aj.c, Ks.c, Iv]) rfl (by omega) (by omega) fun a53 c53 => ?_)
 refine asg rfl rfl ?_
 refine kp [1, 2, 5, 7] rfl ?_
 refine Run.region ?_
 refine sx 2 ?_
 refine RunL.set (v := I ((1 + 2 * (q + 1) : Nat) : Int)) (congrArg I (by omega)) ?_
 refine asg rfl rfl ?_
 rw [List.append_assoc, ← pickL_succ (a := 1) hx]
 exact RunL.next (Keep.sub (kt (ks := [1, 2, 5, 7]) rfl)) _ ⟨_, by omega, q + 1, a53, c53, _, rfl, hR, by omega, rfl, rfl⟩ gv
 refine Run.exit ?_
 refine Run.seq ?_
 have hq2 : ms.length ≤ 1 + 2 * q := by omega
 have hlM0 := pick_len hj2 hq2
 have hlM : ((pickL ms 0 j ++ pickL ms 1 q).length : Int) ≤ 9223372036854775807 := by omega
 refine regionD HM ?_
 refine RunD.mono (K' := fun E' L' => ∃ g1 : Nat, ∃ g2 : Nat, ∃ oz : Option Addr, E' = [(1, .slice oz ms.length cap), (8, Pt g1), (9, Pt g2)] ∧ L' = [EN g1 k p (fillM k p ms), EN g2 k p (fillM k p (pickL ms 0 j ++ pickL ms 1 q)), R, R0]) ?_ ?_
 refine dx [0, 1, 3, 4] ?_
 refine RunD.op 2 [true, true, false, false] rfl rfl rfl kr kr (OpJ.callOuts nC27 rfl rfl (fillY k p h0 R _ cap ms hR hlen R0 hR0) tks fun g1 _ => ⟨po, ?_⟩)
 refine RunD.op 5 [false, false] rfl rfl rfl kr kr (OpJ.callOuts nC27 rfl rfl (fillY k p h0 (own 35 8 ma (pickL ms 0 j ++ pickL ms 1 q).length mc ((pickL ms 0 j ++ pickL ms 1 q).flatMap Mv.c)) ma mc (pickL ms 0 j ++ pickL ms 1 q) own.rds hlM R0 hR0) tks fun g2 _ => ⟨po, ?_⟩)
 refine dx [6, 7] ?_
 exact dwk ⟨_, _, _, rfl, rfl⟩ rfl gv
 rintro _ _ ⟨g1, g2, oz, rfl, rfl⟩
 refine Run.seq ?_
 refine sr ?_
 refine sx 8 ?_
 refine RunL.callG nC13 rfl rfl rfl rfl rfl (enLen g1 k p (fillM k p ms)) tks ?_
 refine sx 3 ?_
 by_cases hF : (fillM k p ms).length = ms.length
 refine RunL.set (v := Bo false) (congrArg Value.bool (decide_eq_false (by omega))) ?_
 refine sx 3 ?_
 refine RunL.callG nC13 rfl rfl rfl rfl rfl (enLen g2 k p (fillM k p (pickL ms 0 j ++ pickL ms 1 q))) tks ?_
 refine sx 3 ?_
 by_cases hH : (fillM k p (pickL ms 0 j ++ pickL ms 1 q)).length = ms.length
 refine RunL.set (v := Bo false) (congrArg Value.bool (decide_eq_false (by omega))) ?_
 refine sx 1 ?_
 refine kp [8, 9, 79] rfl ?_
 refine Run.false rfl ?_
 refine Run.skip ?_
 refine sr ?_
 have hB := both_of h0 hal (pickL_perm hj2 hq2) hF (by rw [hlM0]; exact hH)
 have hBl := hB.len
 have hOl := ordM_len (fillM k p ms)
 have hnF := hB.gF.n
 refine mvo rfl rfl ?_
 refine RunL.callX nC23 rfl rfl rfl (enMoves g1 k p (fillM k p ms)) tks fun y1 _ => ?_
 refine RunL.callX nC29 rfl rfl rfl (ac29n (own 35 8 (some ⟨y1, 0, none⟩) (fillM k p ms).length (fillM k p ms).length ((fillM k p ms).flatMap Mv.c)) (some ⟨y1, 0, none⟩) (fillM k p ms).length (fillM k p ms) own.rds hB.gF.fine (by have := hB.gF.n; omega)) tks fun ⟨o1, c1⟩ _ => ?_
 refine mvo rfl rfl ?_
 refine RunL.callX nC23 rfl rfl rfl (enMoves g2 k p (fillM k p (pickL ms 0 j ++ pickL ms 1 q))) tks fun y2 _ => ?_
 refine RunL.callX nC29 rfl rfl rfl (ac29n (own 35 8 (some ⟨y2, 0, none⟩) (fillM k p (pickL ms 0 j ++ pickL ms 1 q)).length (fillM k p (pickL ms 0 j ++ pickL ms 1 q)).length ((fillM k p (pickL ms 0 j ++ pickL ms 1 q)).flatMap Mv.c)) (some ⟨y2, 0, none⟩) (fillM k p (pickL ms 0 j ++ pickL ms 1 q)).length (fillM k p (pickL ms 0 j ++ pickL ms 1 q)) own.rds hB.gH.fine (by have := hB.gH.n; omega)) tks fun ⟨o2, c2⟩ _ => ?_
 refine sx 2 ?_
 refine kp [8, 9, 10, 11] rfl ?_
 refine Run.seq ?_
 refine sr ?_
 refine asg rfl rfl ?_
 refine kp [8, 9, 10, 11, 12] rfl ?_
 refine Run.block ?_
 refine Run.weak (L' := [EN g1 k p (fillM k p ms), EN g2 k p (fillM k p (pickL ms 0 j ++ pickL ms 1 q)), own 35 8 o1 (ordM (fillM k p ms)).length c1 ((ordM (fillM k p ms)).flatMap Mv.c), own 35 8 o2 (ordM (fillM k p (pickL ms 0 j ++ pickL ms 1 q))).length c2 ((ordM (fillM k p (pickL ms 0 j ++ pickL ms 1 q))).flatMap Mv.c), R, R0]) (fun _ _ h => h) gv ?_
 refine Run.loop (fun mm E L => ∃ (i : Nat) (o1 o2 : Option Addr), mm = (ordM (fillM k p ms)).length - i ∧ i ≤ (ordM (fillM k p ms)).length ∧ E = [(8, Pt g1), (9, Pt g2), (10, .slice o1 (ordM (fillM k p ms)).length c1), (11, .slice o2 (ordM (fillM k p (pickL ms 0 j ++ pickL ms 1 q))).length c2), (12, I i)] ∧ L = [EN g1 k p (fillM k p ms), EN g2 k p (fillM k p (pickL ms 0 j ++ pickL ms 1 q)), own 35 8 o1 (ordM (fillM k p ms)).length c1 ((ordM (fillM k p ms)).flatMap Mv.c), own 35 8 o2 (ordM (fillM k p (pickL ms 0 j ++ pickL ms 1 q))).length c2 ((ordM (fillM k p (pickL ms 0 j ++ pickL ms 1 q))).flatMap Mv.c), R, R0]) ⟨_, 0, o1, o2, rfl, Nat.zero_le _, rfl, rfl⟩ ?_
 clear o1 o2
 rintro _ _ _ ⟨i, o1, o2, rfl, hi, rfl, rfl⟩
 refine Run.seq ?_
 refine sr ?_
 refine sx 4 ?_
 refine kp [8, 9, 10, 11, 12, 90] rfl ?_
 refine cnd rfl (fun h3 => ?_) fun h3 => ?_
 refine Run.skip ?_
 refine Run.seq ?_
 refine Run.block ?_
 refine sr ?_
 obtain ⟨x, hx⟩ := get_ex (xs := ordM (fillM k p ms)) (i := i) (by omega)
 obtain ⟨y, hy⟩ := get_ex (xs := ordM (fillM k p (pickL ms 0 j ++ pickL ms 1 q))) (i := i) (by omega)
 obtain ⟨hv, ca, cb, hca, hcb, e1, e2, e3⟩ := hB.at_ hx hy
 have ha1 := congrArg Prod.fst hca
 have ha2 := congrArg Prod.snd hca
 have hb1 := congrArg Prod.fst hcb
 have hb2 := congrArg Prod.snd hcb
 dsimp only at ha1 ha2 hb1 hb2
 refine RunL.ownAddr (T := 35) (k := 8) (oa := o1) (m := (ordM (fillM k p ms)).length) (cap := c1) (cs := (ordM (fillM k p ms)).flatMap Mv.c) pk (flat_ne (k := 8) (fun _ => rfl) (by decide) hx) fun bo1 e hc1 => ?_
 subst e
 refine RunL.ownAddr (T := 35) (k := 8) (oa := o2) (m := (ordM (fillM k p (pickL ms 0 j ++ pickL ms 1 q))).length) (cap := c2) (cs := (ordM (fillM k p (pickL ms 0 j ++ pickL ms 1 q))).flatMap Mv.c) pk (flat_ne (k := 8) (fun _ => rfl) (by decide) hy) fun bo2 e hc2 => ?_
 subst e
 refine sx 6 ?_
 refine RunL.call nC15 rfl rfl rfl (enCost g1 k p (fillM k p ms) x.seq (hB.gF.seqs hx)) tks ?_
 rw [ha1, ha2]
 refine sx 3 ?_
 refine RunL.op rfl rfl (OpJ.alloc nZ32 fun b13 => ?_)
 refine sx 2 ?_
 refine kp [8, 9, 10, 11, 12, 13] rfl ?_
 refine sr ?_
 refine sx 6 ?_
 refine RunL.call nC15 rfl rfl rfl (enCost g2 k p (fillM k p (pickL ms 0 j ++ pickL ms 1 q)) y.seq (hB.gH.seqs hy)) tks ?_
 rw [hb1, hb2]
 refine sx 3 ?_
 refine RunL.op rfl rfl (OpJ.alloc nZ32 fun b15 => ?_)
 refine sx 2 ?_
 refine kp [8, 9, 10, 11, 12, 13, 15] rfl ?_
 refine Run.seq ?_
 refine regionD HM ?_
 refine dx [0, 1, 2, 3, 4, 5, 6, 7, 8, 9, 10] ?_
 refine RunD.set (v := Bo false) (congrArg Value.bool (decide_eq_false (fun h => h hv))) ?_
 refine dx [11, 12, 13, 14, 15, 16] ?_
 refine RunD.set (v := Bo false) (congrArg Value.bool (decide_eq_false (fun h => h e1))) ?_
 refine dx [17, 18, 19, 20, 21, 22, 23] ?_
 refine RunD.set (v := Bo false) (congrArg Value.bool (decide_eq_false (fun h => h e2))) ?_
 refine dx [24, 25, 26, 27, 28, 29, 30] ?_
 refine RunD.set (v := Bo false) (congrArg Value.bool (decide_eq_false (fun h => h e3))) ?_
 refine dx [31] ?_
 refine kd [8, 9, 10, 11, 12, 144] rfl ?_
 refine Run.false rfl ?_
 refine Run.skip ?_
 refine Run.region ?_
 refine sx 3 ?_
 exact RunL.next (Keep.sub (kt (ks := [8, 9, 10, 11, 12]) rfl)) _ ⟨_, by omega, i + 1, _, _, rfl, by omega, rfl, rfl⟩ gv
 refine Run.exit ?_
 refine sr ?_
 refine mvo rfl rfl ?_
 refine RunL.callX nC25 rfl rfl rfl (enStock g1 k p (fillM k p ms)) tks fun ⟨l1, lc1, p1, pc1⟩ _ => ?_
 refine mvo rfl rfl ?_
 refine RunL.callX nC25 rfl rfl rfl (enStock g2 k p (fillM k p (pickL ms 0 j ++ pickL ms 1 q))) tks fun ⟨l2, lc2, p2, pc2⟩ _ => ?_
 refine RunL.op rfl rfl (OpJ.alloc nZ61 fun b17 => ?_)
 refine RunL.op rfl rfl (OpJ.alloc nZ61 fun b18 => ?_)
 refine sx 2 ?_
 refine kp [17, 18] rfl ?_
 refine sr ?_
 refine sx 5 ?_
 refine RunL.set (v := Bo true) (congrArg Value.bool (decide_eq_true hB.sk.1)) ?_
 refine sx 6 ?_
 refine RunL.set (v := Bo true) (congrArg Value.bool (decide_eq_true hB.sk.2)) ?_
 refine sx 2 ?_
 refine RunL.callG nC12 rfl rfl rfl rfl rfl (ac12n R0 hR0) tks ?_
 refine sx 2 ?_
 refine kp [4] rfl ?_
 refine Run.ret ?_
 exact ret_one (.tmp rfl .nil) (rfl) gv
 refine RunL.set (v := Bo true) (congrArg Value.bool (decide_eq_true (by omega))) ?_
 refine sx 1 ?_
 refine kp [8, 9, 79] rfl ?_
 refine Run.true rfl ?_
 refine sr ?_
 refine RunL.call nC12 rfl rfl rfl (ac12n R0 hR0) tks ?_
 refine asg rfl rfl ?_
 refine kp [4] rfl ?_
 refine Run.ret ?_
 exact ret_one (.tmp rfl .nil) (rfl) gv
 refine RunL.set (v := Bo true) (congrArg Value.bool (decide_eq_true (by omega))) ?_
 refine sx 8 ?_
 refine kp [8, 9, 79] rfl ?_
 refine Run.true rfl ?_
 refine sr ?_
 refine RunL.call nC12 rfl rfl rfl (ac12n R0 hR0) tks ?_
 refine asg rfl rfl ?_
 refine kp [4] rfl ?_
 refine Run.ret ?_
 exact ret_one (.tmp rfl .nil) (rfl) gv
end
theorem ac8n (k p : Int) (R : HP) (oa : Option Addr) (cap : Nat) (ms : List Mv) (hR : RdS R oa (ms.flatMap Mv.c)) (hlen : (ms.length : Int) ≤ 9223372036854775807) (R0 : HP) (hR0 : Rd R0 ⟨0, 0, none⟩ lensC)  : AC Tryz.prog 8 ⟨[.agg ⟨[I k, I p]⟩, .slice oa ms.length cap]⟩ (stars [R, R0]) (Ret (Bo true) [R, R0]) := by
  by_cases h0 : startE k p = 0
  · exact ac8y k p R oa cap ms hR hlen R0 hR0  h0
  · exact ac8z k p R oa cap ms hR hlen R0 hR0  h0
section
attribute [local irreducible] OpJ RunL Run RunD DetJ pt own star Rd RdS EN fillM addMs addErr csOf skOf addC addD ordM
end
end Go.Proofs.YtcpghpifbgpkjaaGreatDoor

namespace Go.Proofs.YtcpghpifbgpkjaaGreatDoor
open Go Go.SL Go.Proofs
section
attribute [local irreducible] OpJ RunL Run RunD DetJ pt own star Rd RdS EN fillM addMs addErr csOf skOf addC addD
-- accountinglaw39.RecostAt
theorem ac6z (k p : Int) (R : HP) (oa : Option Addr) (cap : Nat) (ms : List Mv) (hR : RdS R oa (ms.flatMap Mv.c)) (hlen : (ms.length : Int) ≤ 9223372036854775807) (R0 : HP) (hR0 : Rd R0 ⟨0, 0, none⟩ lensC) (from_ to_ : Int) (h0 : startE k p ≠ 0) : AC Tryz.prog 6 ⟨[.agg ⟨[I k, I p]⟩, .slice oa ms.length cap, I from_, I to_]⟩ (stars [R, R0]) (Ret (Bo true) [R, R0]) := by
 refine AC.go Tryz.func6 rfl (Nat.le_of_ble_eq_true rfl) fun β => ?_
 refine sr ?_
 refine RunL.op rfl rfl (OpJ.boxA rfl fun b4 => ?_)
 refine asg rfl rfl ?_
 refine kp [1, 2, 3, 4] rfl ?_
 refine Run.seq ?_
 refine sr ?_
 refine mvo rfl rfl ?_
 refine RunL.call nC11 rfl rfl rfl (ac11n R oa cap ms hR hlen) tks ?_
 rcases hl : lightMs ms with _ | _
 refine sx 6 ?_
 refine kp [1, 2, 3, 4, 28] rfl ?_
 refine Run.true rfl ?_
 refine sr ?_
 refine RunL.call nC12 rfl rfl rfl (ac12n R0 hR0) tks ?_
 refine asg rfl rfl ?_
 refine kp [8] rfl ?_
 refine Run.ret ?_
 exact ret_one (.tmp rfl .nil) (rfl) gv
 refine sx 5 ?_
 by_cases hft : to_ < from_
 refine RunL.set (v := Bo true) (congrArg Value.bool (decide_eq_true hft)) ?_
 refine sx 1 ?_
 refine kp [1, 2, 3, 4, 28] rfl ?_
 refine Run.true rfl ?_
 refine sr ?_
 refine RunL.call nC12 rfl rfl rfl (ac12n R0 hR0) tks ?_
 refine asg rfl rfl ?_
 refine kp [8] rfl ?_
 refine Run.ret ?_
 exact ret_one (.tmp rfl .nil) (rfl) gv
 refine RunL.set (v := Bo false) (congrArg Value.bool (decide_eq_false hft)) ?_
 refine sx 1 ?_
 refine kp [1, 2, 3, 4, 28] rfl ?_
 refine Run.false rfl ?_
 refine Run.skip ?_
 refine sr ?_
 refine sx 2 ?_
 refine RunL.callX nC27 rfl rfl rfl (fillZ k p h0 R oa cap ms hR hlen R0 hR0) tks fun _ _ => ?_
 refine asg rfl rfl ?_
 refine kp [2, 3, 9] rfl ?_
 refine Run.seq ?_
 refine sr ?_
 refine sx 2 ?_
 refine kp [2, 3, 9, 34] rfl ?_
 refine Run.true rfl ?_
 refine sr ?_
 refine RunL.call nC12 rfl rfl rfl (ac12n R0 hR0) tks ?_
 refine asg rfl rfl ?_
 refine kp [8] rfl ?_
 refine Run.ret ?_
 exact ret_one (.tmp rfl .nil) (rfl) gv
-- accountinglaw39.RecostAt
theorem ac6y (k p : Int) (R : HP) (oa : Option Addr) (cap : Nat) (ms : List Mv) (hR : RdS R oa (ms.flatMap Mv.c)) (hlen : (ms.length : Int) ≤ 9223372036854775807) (R0 : HP) (hR0 : Rd R0 ⟨0, 0, none⟩ lensC) (from_ to_ : Int) (h0 : startE k p = 0) : AC Tryz.prog 6 ⟨[.agg ⟨[I k, I p]⟩, .slice oa ms.length cap, I from_, I to_]⟩ (stars [R, R0]) (Ret (Bo true) [R, R0]) := by
 have hG := fill_good h0 ms
 have hn := hG.n
 have hat := at_last hG
 obtain ⟨t0, cs0, hrep⟩ := hG.rep
 have hcl := csOf_len hrep
 refine AC.go Tryz.func6 rfl (Nat.le_of_ble_eq_true rfl) fun β => ?_
 refine sr ?_
 refine RunL.op rfl rfl (OpJ.boxA rfl fun b4 => ?_)
 refine asg rfl rfl ?_
 refine kp [1, 2, 3, 4] rfl ?_
 refine Run.seq ?_
 refine sr ?_
 refine mvo rfl rfl ?_
 refine RunL.call nC11 rfl rfl rfl (ac11n R oa cap ms hR hlen) tks ?_
 rcases hl : lightMs ms with _ | _
 refine sx 6 ?_
 refine kp [1, 2, 3, 4, 28] rfl ?_
 refine Run.true rfl ?_
 refine sr ?_
 refine RunL.call nC12 rfl rfl rfl (ac12n R0 hR0) tks ?_
 refine asg rfl rfl ?_
 refine kp [8] rfl ?_
 refine Run.ret ?_
 exact ret_one (.tmp rfl .nil) (rfl) gv
 refine sx 5 ?_
 by_cases hft : to_ < from_
 refine RunL.set (v := Bo true) (congrArg Value.bool (decide_eq_true hft)) ?_
 refine sx 1 ?_
 refine kp [1, 2, 3, 4, 28] rfl ?_
 refine Run.true rfl ?_
 refine sr ?_
 refine RunL.call nC12 rfl rfl rfl (ac12n R0 hR0) tks ?_
 refine asg rfl rfl ?_
 refine kp [8] rfl ?_
 refine Run.ret ?_
 exact ret_one (.tmp rfl .nil) (rfl) gv
 refine RunL.set (v := Bo false) (congrArg Value.bool (decide_eq_false hft)) ?_
 refine sx 1 ?_
 refine kp [1, 2, 3, 4, 28] rfl ?_
 refine Run.false rfl ?_
 refine Run.skip ?_
 refine sr ?_
 refine sx 2 ?_
 refine RunL.callX nC27 rfl rfl rfl (fillY k p h0 R oa cap ms hR hlen R0 hR0) tks fun g _ => ?_
 refine asg rfl rfl ?_
 refine kp [2, 3, 9] rfl ?_
 refine Run.seq ?_
 refine sr ?_
 refine sx 2 ?_
 refine kp [2, 3, 9, 34] rfl ?_
 refine Run.false rfl ?_
 refine Run.skip ?_
 refine sr ?_
 refine mvo rfl rfl ?_
 refine RunL.call nC20 rfl rfl rfl (enAt g k p (fillM k p ms) 109572) tks ?_
 refine sx 5 ?_
 refine kp [2, 3, 9, 10, 11] rfl ?_
 refine sr ?_
 refine mvo rfl rfl ?_
 refine RunL.callX nC25 rfl rfl rfl (enStock g k p (fillM k p ms)) tks fun ⟨l1, lc1, p1, pc1⟩ _ => ?_
 refine RunL.op rfl rfl (OpJ.alloc nZ61 fun b12 => ?_)
 refine sx 1 ?_
 refine kp [2, 3, 9, 10, 11, 12] rfl ?_
 refine Run.seq ?_
 refine sr ?_
 refine sx 4 ?_
 refine RunL.set (v := Bo false) (congrArg Value.bool (decide_eq_false (by rw [hat.1]; exact fun h => h rfl))) ?_
 refine sx 5 ?_
 refine RunL.set (v := Bo false) (congrArg Value.bool (decide_eq_false (by rw [hat.2]; exact fun h => h rfl))) ?_
 refine sx 1 ?_
 refine kp [2, 3, 9, 52] rfl ?_
 refine Run.false rfl ?_
 refine Run.skip ?_
 refine sr ?_
 refine sx 2 ?_
 refine RunL.call nC20 rfl rfl rfl (enAt g k p (fillM k p ms) from_) tks ?_
 refine sx 5 ?_
 refine kp [2, 3, 9, 13, 14] rfl ?_
 refine sr ?_
 refine sx 2 ?_
 refine RunL.call nC20 rfl rfl rfl (enAt g k p (fillM k p ms) to_) tks ?_
 refine sx 5 ?_
 refine kp [2, 3, 9, 13, 14, 15, 16] rfl ?_
 refine sr ?_
 refine mvo rfl rfl ?_
 refine RunL.callX nC23 rfl rfl rfl (enMoves g k p (fillM k p ms)) tks fun y _ => ?_
 refine asg rfl rfl ?_
 refine kp [2, 3, 9, 13, 14, 15, 16, 17] rfl ?_
 refine Run.seq ?_
 refine sr ?_
 refine asg rfl rfl ?_
 refine kp [2, 3, 9, 13, 14, 15, 16, 17, 18] rfl ?_
 refine Run.block ?_
 refine Run.weak (L' := [own 35 8 (some ⟨y, 0, none⟩) (fillM k p ms).length (fillM k p ms).length ((fillM k p ms).flatMap Mv.c), EN g k p (fillM k p ms), R, R0]) (fun _ _ h => h) gv ?_
 refine Run.loop (fun mm E L => ∃ i : Nat, mm = (fillM k p ms).length - i ∧ i ≤ (fillM k p ms).length ∧ E = [(2, I from_), (3, I to_), (9, Pt g), (13, I (accW (btw from_ to_) Co.qty (atW Co.qty from_ ((fillM k p ms).zip (csOf k p (fillM k p ms)))) (((fillM k p ms).zip (csOf k p (fillM k p ms))).take i))), (14, I (accW (btw from_ to_) Co.value (atW Co.value from_ ((fillM k p ms).zip (csOf k p (fillM k p ms)))) (((fillM k p ms).zip (csOf k p (fillM k p ms))).take i))), (15, I (atW Co.qty to_ ((fillM k p ms).zip (csOf k p (fillM k p ms))))), (16, I (atW Co.value to_ ((fillM k p ms).zip (csOf k p (fillM k p ms))))), (17, .slice (some ⟨y, 0, none⟩) (fillM k p ms).length (fillM k p ms).length), (18, I i)] ∧ L = [own 35 8 (some ⟨y, 0, none⟩) (fillM k p ms).length (fillM k p ms).length ((fillM k p ms).flatMap Mv.c), EN g k p (fillM k p ms), R, R0]) ⟨_, 0, rfl, Nat.zero_le _, rfl, rfl⟩ ?_
 rintro _ _ _ ⟨i, rfl, hi, rfl, rfl⟩
 refine Run.seq ?_
 refine sr ?_
 refine sx 4 ?_
 refine kp [2, 3, 9, 13, 14, 15, 16, 17, 18, 70] rfl ?_
 refine cnd rfl (fun h1 => ?_) fun h1 => ?_
 refine Run.skip ?_
 refine Run.seq ?_
 refine Run.block ?_
 refine sr ?_
 obtain ⟨x, hx⟩ := get_ex (xs := (fillM k p ms)) (i := i) (by omega)
 have hsq := seq_of hG.fine hx
 obtain ⟨c, hc⟩ := get_ex (xs := (csOf k p (fillM k p ms))) (i := i) (by omega)
 have hz := zip_get2 hx hc
 have hcost : costAt (csOf k p (fillM k p ms)) x.seq = (c, true) := by rw [hsq]; exact costAt_ok hc
 have hcost1 := congrArg Prod.fst hcost
 have hcost2 := congrArg Prod.snd hcost
 dsimp only at hcost1 hcost2
 refine sx 7 ?_
 by_cases hb1 : from_ < x.value
 refine RunL.set (v := Bo true) (congrArg Value.bool (decide_eq_true hb1)) ?_
 refine sx 8 ?_
 by_cases hb2 : x.value ≤ to_
 refine RunL.set (v := Bo true) (congrArg Value.bool (decide_eq_true hb2)) ?_
 have hb : btw from_ to_ x = true := decide_eq_true ⟨hb1, hb2⟩
 refine sx 1 ?_
 refine kp [2, 3, 9, 13, 14, 15, 16, 17, 18, 88] rfl ?_
 refine Run.true rfl ?_
 refine sr ?_
 refine sx 6 ?_
 refine RunL.call nC15 rfl rfl rfl (enCost g k p (fillM k p ms) x.seq (by omega)) tks ?_
 rw [hcost1, hcost2]
 refine sx 3 ?_
 refine RunL.op rfl rfl (OpJ.alloc nZ32 fun b19 => ?_)
 refine sx 2 ?_
 refine kp [2, 3, 9, 13, 14, 15, 16, 17, 18, 19] rfl ?_
 refine sr ?_
 refine sx 3 ?_
 refine RunL.op rfl rfl (OpJ.add rfl rfl ?_)
 refine asg rfl rfl ?_
 refine kp [2, 3, 9, 13, 14, 15, 16, 17, 18, 19] rfl ?_
 refine Run.region ?_
 refine sx 3 ?_
 refine RunL.op rfl rfl (OpJ.add rfl rfl ?_)
 refine asg rfl rfl ?_
 refine kp [2, 3, 9, 13, 14, 15, 16, 17, 18] rfl ?_
 refine Run.region ?_
 refine sx 3 ?_
 have e1 := accW_succ (q := btw from_ to_) (f := Co.qty) (a := (atW Co.qty from_ ((fillM k p ms).zip (csOf k p (fillM k p ms))))) hz
 have e2 := accW_succ (q := btw from_ to_) (f := Co.value) (a := (atW Co.value from_ ((fillM k p ms).zip (csOf k p (fillM k p ms))))) hz
 rw [if_pos hb] at e1 e2
 rw [← e1, ← e2]
 exact RunL.next (Keep.sub (kt (ks := [2, 3, 9, 13, 14, 15, 16, 17, 18]) rfl)) _ ⟨_, by omega, i + 1, rfl, by omega, rfl, rfl⟩ gv
 refine RunL.set (v := Bo false) (congrArg Value.bool (decide_eq_false hb2)) ?_
 have hb : ¬ btw from_ to_ x = true := by unfold btw; simp; omega
 refine sx 1 ?_
 refine kp [2, 3, 9, 13, 14, 15, 16, 17, 18, 88] rfl ?_
 refine Run.false rfl ?_
 refine Run.skip ?_
 refine Run.region ?_
 refine sx 3 ?_
 have e1 := accW_succ (q := btw from_ to_) (f := Co.qty) (a := (atW Co.qty from_ ((fillM k p ms).zip (csOf k p (fillM k p ms))))) hz
 have e2 := accW_succ (q := btw from_ to_) (f := Co.value) (a := (atW Co.value from_ ((fillM k p ms).zip (csOf k p (fillM k p ms))))) hz
 rw [if_neg hb] at e1 e2
 rw [← e1, ← e2]
 exact RunL.next (Keep.sub (kt (ks := [2, 3, 9, 13, 14, 15, 16, 17, 18]) rfl)) _ ⟨_, by omega, i + 1, rfl, by omega, rfl, rfl⟩ gv
 refine RunL.set (v := Bo false) (congrArg Value.bool (decide_eq_false hb1)) ?_
 have hb : ¬ btw from_ to_ x = true := by unfold btw; simp; omega
 refine sx 9 ?_
 refine kp [2, 3, 9, 13, 14, 15, 16, 17, 18, 88] rfl ?_
 refine Run.false rfl ?_
 refine Run.skip ?_
 refine Run.region ?_
 refine sx 3 ?_
 have e1 := accW_succ (q := btw from_ to_) (f := Co.qty) (a := (atW Co.qty from_ ((fillM k p ms).zip (csOf k p (fillM k p ms))))) hz
 have e2 := accW_succ (q := btw from_ to_) (f := Co.value) (a := (atW Co.value from_ ((fillM k p ms).zip (csOf k p (fillM k p ms))))) hz
 rw [if_neg hb] at e1 e2
 rw [← e1, ← e2]
 exact RunL.next (Keep.sub (kt (ks := [2, 3, 9, 13, 14, 15, 16, 17, 18]) rfl)) _ ⟨_, by omega, i + 1, rfl, by omega, rfl, rfl⟩ gv
 refine Run.exit ?_
 refine sr ?_
 refine sx 3 ?_
 refine RunL.set (v := Bo true) (congrArg Value.bool (decide_eq_true (by rw [List.take_of_length_le (by rw [List.length_zip]; omega)]; exact at_btw (by omega)))) ?_
 refine sx 4 ?_
 refine RunL.set (v := Bo true) (congrArg Value.bool (decide_eq_true (by rw [List.take_of_length_le (by rw [List.length_zip]; omega)]; exact at_btw (by omega)))) ?_
 refine sx 2 ?_
 refine RunL.callG nC12 rfl rfl rfl rfl rfl (ac12n R0 hR0) tks ?_
 refine sx 2 ?_
 refine kp [8] rfl ?_
 refine Run.ret ?_
 exact ret_one (.tmp rfl .nil) (rfl) gv
end
theorem ac6n (k p : Int) (R : HP) (oa : Option Addr) (cap : Nat) (ms : List Mv) (hR : RdS R oa (ms.flatMap Mv.c)) (hlen : (ms.length : Int) ≤ 9223372036854775807) (R0 : HP) (hR0 : Rd R0 ⟨0, 0, none⟩ lensC) (from_ to_ : Int) : AC Tryz.prog 6 ⟨[.agg ⟨[I k, I p]⟩, .slice oa ms.length cap, I from_, I to_]⟩ (stars [R, R0]) (Ret (Bo true) [R, R0]) := by
  by_cases h0 : startE k p = 0
  · exact ac6y k p R oa cap ms hR hlen R0 hR0 from_ to_ h0
  · exact ac6z k p R oa cap ms hR hlen R0 hR0 from_ to_ h0
section
attribute [local irreducible] OpJ RunL Run RunD DetJ pt own star Rd RdS EN fillM addMs addErr csOf skOf addC addD
-- accountinglaw39.RecostReplay
theorem ac9z (k p : Int) (R : HP) (oa : Option Addr) (cap : Nat) (ms : List Mv) (hR : RdS R oa (ms.flatMap Mv.c)) (hlen : (ms.length : Int) ≤ 9223372036854775807) (R0 : HP) (hR0 : Rd R0 ⟨0, 0, none⟩ lensC) (h0 : startE k p ≠ 0) : AC Tryz.prog 9 ⟨[.agg ⟨[I k, I p]⟩, .slice oa ms.length cap]⟩ (stars [R, R0]) (Ret (Bo true) [R, R0]) := by
 refine AC.go Tryz.func9 rfl (Nat.le_of_ble_eq_true rfl) fun β => ?_
 refine sr ?_
 refine RunL.op rfl rfl (OpJ.boxA rfl fun b2 => ?_)
 refine asg rfl rfl ?_
 refine kp [1, 2] rfl ?_
 refine Run.seq ?_
 refine sr ?_
 refine mvo rfl rfl ?_
 refine RunL.call nC11 rfl rfl rfl (ac11n R oa cap ms hR hlen) tks ?_
 rcases hl : lightMs ms with _ | _
 refine RunL.op rfl rfl (OpJ.not rfl ?_)
 refine kp [1, 2, 15] rfl ?_
 refine Run.true rfl ?_
 refine sr ?_
 refine RunL.call nC12 rfl rfl rfl (ac12n R0 hR0) tks ?_
 refine asg rfl rfl ?_
 refine kp [4] rfl ?_
 refine Run.ret ?_
 exact ret_one (.tmp rfl .nil) (rfl) gv
 refine RunL.op rfl rfl (OpJ.not rfl ?_)
 refine kp [1, 2, 15] rfl ?_
 refine Run.false rfl ?_
 refine Run.skip ?_
 refine sr ?_
 refine sx 2 ?_
 refine RunL.callX nC27 rfl rfl rfl (fillZ k p h0 R oa cap ms hR hlen R0 hR0) tks fun _ _ => ?_
 refine asg rfl rfl ?_
 refine kp [2, 5] rfl ?_
 refine Run.seq ?_
 refine sr ?_
 refine sx 2 ?_
 refine kp [2, 5, 21] rfl ?_
 refine Run.true rfl ?_
 refine sr ?_
 refine RunL.call nC12 rfl rfl rfl (ac12n R0 hR0) tks ?_
 refine asg rfl rfl ?_
 refine kp [4] rfl ?_
 refine Run.ret ?_
 exact ret_one (.tmp rfl .nil) (rfl) gv
-- accountinglaw39.RecostReplay
theorem ac9y (k p : Int) (R : HP) (oa : Option Addr) (cap : Nat) (ms : List Mv) (hR : RdS R oa (ms.flatMap Mv.c)) (hlen : (ms.length : Int) ≤ 9223372036854775807) (R0 : HP) (hR0 : Rd R0 ⟨0, 0, none⟩ lensC) (h0 : startE k p = 0) : AC Tryz.prog 9 ⟨[.agg ⟨[I k, I p]⟩, .slice oa ms.length cap]⟩ (stars [R, R0]) (Ret (Bo true) [R, R0]) := by
 have hG := fill_good h0 ms
 have hn := hG.n
 obtain ⟨t0, cs0, hrep⟩ := hG.rep
 have hsk := hG.sk
 rw [skOf_ok hrep] at hsk
 have hcl := runM_len hrep
 rw [ordM_len] at hcl
 have hfl := fill_len (k := k) (p := p) (l := ms)
 refine AC.go Tryz.func9 rfl (Nat.le_of_ble_eq_true rfl) fun β => ?_
 refine sr ?_
 refine RunL.op rfl rfl (OpJ.boxA rfl fun b2 => ?_)
 refine asg rfl rfl ?_
 refine kp [1, 2] rfl ?_
 refine Run.seq ?_
 refine sr ?_
 refine mvo rfl rfl ?_
 refine RunL.call nC11 rfl rfl rfl (ac11n R oa cap ms hR hlen) tks ?_
 rcases hl : lightMs ms with _ | _
 refine RunL.op rfl rfl (OpJ.not rfl ?_)
 refine kp [1, 2, 15] rfl ?_
 refine Run.true rfl ?_
 refine sr ?_
 refine RunL.call nC12 rfl rfl rfl (ac12n R0 hR0) tks ?_
 refine asg rfl rfl ?_
 refine kp [4] rfl ?_
 refine Run.ret ?_
 exact ret_one (.tmp rfl .nil) (rfl) gv
 refine RunL.op rfl rfl (OpJ.not rfl ?_)
 refine kp [1, 2, 15] rfl ?_
 refine Run.false rfl ?_
 refine Run.skip ?_
 refine sr ?_
 refine sx 2 ?_
 refine RunL.callX nC27 rfl rfl rfl (fillY k p h0 R oa cap ms hR hlen R0 hR0) tks fun g _ => ?_
 refine asg rfl rfl ?_
 refine kp [2, 5] rfl ?_
 refine Run.seq ?_
 refine sr ?_
 refine sx 2 ?_
 refine kp [2, 5, 21] rfl ?_
 refine Run.false rfl ?_
 refine Run.skip ?_
 refine Run.seq ?_
 refine regionD HM ?_
 refine RunD.mono (K' := fun E' L' => ∃ l1 : Option Addr, ∃ lc1 : Nat, ∃ p1 : Option Addr, ∃ pc1 : Nat, ∃ ca : Option Addr, ∃ cc : Nat, ∃ b6 : Nat, E' = [(5, Pt g), (6, .pointer (some ⟨b6, 0, none⟩)), (7, .slice ca cs0.length cc), (8, I (-1)), (9, I 0)] ∧ L' = [pt b6 (blk (t0.c l1 lc1 p1 pc1) 61), own 96 4 l1 t0.layers.length lc1 (t0.layers.flatMap Ly.c), own 98 7 p1 t0.past.length pc1 (t0.past.flatMap Pa.c), own 32 4 ca cs0.length cc (cs0.flatMap Co.c), EN g k p (fillM k p ms), R, R0]) ?_ ?_
 refine dx [0, 1, 2, 3, 4] ?_
 refine RunD.two 5 13 [false, true, true, true, true] [true, true, true, true, true] rfl rfl rfl rfl rfl rfl kr kr kr (OpJ.callOuts nC23 rfl rfl (enMoves g k p (fillM k p ms)) tks fun y _ => ⟨po, ?_⟩) (OpJ.alloc nZ61 fun b6 => ⟨po, ?_⟩)
 refine RunD.two 6 13 [true, true, true, true] [true, true, true, true] rfl rfl rfl rfl rfl rfl kr kr kr (OpJ.callOuts nC29 rfl rfl (ac29n (own 35 8 (some ⟨y, 0, none⟩) (fillM k p ms).length (fillM k p ms).length ((fillM k p ms).flatMap Mv.c)) (some ⟨y, 0, none⟩) (fillM k p ms).length (fillM k p ms) own.rds hG.fine (by omega)) tks fun ⟨oo, oc⟩ _ => ⟨po, ?_⟩) (OpJ.alloc nZ61 fun b6 => ⟨po, ?_⟩)
 refine RunD.two 7 13 [false, false, false, false] [true, true, true, true] rfl rfl rfl rfl rfl rfl kr kr kr (OpJ.callOuts nC30 rfl rfl (runY k p t0 cs0 (own 35 8 oo (ordM (fillM k p ms)).length oc ((ordM (fillM k p ms)).flatMap Mv.c)) oo oc (ordM (fillM k p ms)) own.rds hrep (by rw [ordM_len]; have := light_len hl; omega) hG.oks R0 hR0) tks fun ⟨l1, lc1, p1, pc1, ca, cc⟩ _ => ⟨po, ?_⟩) (OpJ.alloc nZ61 fun b6 => ⟨po, ?_⟩)
 refine dx [8, 9, 10, 11, 12] ?_
 refine RunD.op 13 [true, true, true, true, true] rfl rfl rfl kr kr (OpJ.alloc nZ61 fun b6 => ⟨po, ?_⟩)
 refine RunD.op 14 [true, true, true, false, false] rfl rfl rfl kr kr (OpJ.storeW nT61 rfl rfl rfl rfl (by simp [Value.oneCell', Pa.c, Ly.c, Mv.c, Co.c]) up ⟨po, ?_⟩)
 refine dx [15, 16, 17] ?_
 exact dwk ⟨_, _, _, _, _, _, _, rfl, rfl⟩ rfl gv
 refine RunD.op 7 [false, false, false, false] rfl rfl rfl kr kr (OpJ.callOuts nC30 rfl rfl (runY k p t0 cs0 (own 35 8 oo (ordM (fillM k p ms)).length oc ((ordM (fillM k p ms)).flatMap Mv.c)) oo oc (ordM (fillM k p ms)) own.rds hrep (by rw [ordM_len]; have := light_len hl; omega) hG.oks R0 hR0) tks fun ⟨l1, lc1, p1, pc1, ca, cc⟩ _ => ⟨po, ?_⟩)
 refine dx [8, 9, 10, 11, 12] ?_
 refine RunD.op 14 [true, true, true, false, false] rfl rfl rfl kr kr (OpJ.storeW nT61 rfl rfl rfl rfl (by simp [Value.oneCell', Pa.c, Ly.c, Mv.c, Co.c]) up ⟨po, ?_⟩)
 refine dx [15, 16, 17] ?_
 exact dwk ⟨_, _, _, _, _, _, _, rfl, rfl⟩ rfl gv
 refine RunD.op 6 [true, true, true, true] rfl rfl rfl kr kr (OpJ.callOuts nC29 rfl rfl (ac29n (own 35 8 (some ⟨y, 0, none⟩) (fillM k p ms).length (fillM k p ms).length ((fillM k p ms).flatMap Mv.c)) (some ⟨y, 0, none⟩) (fillM k p ms).length (fillM k p ms) own.rds hG.fine (by omega)) tks fun ⟨oo, oc⟩ _ => ⟨po, ?_⟩)
 refine RunD.op 7 [false, false, false, false] rfl rfl rfl kr kr (OpJ.callOuts nC30 rfl rfl (runY k p t0 cs0 (own 35 8 oo (ordM (fillM k p ms)).length oc ((ordM (fillM k p ms)).flatMap Mv.c)) oo oc (ordM (fillM k p ms)) own.rds hrep (by rw [ordM_len]; have := light_len hl; omega) hG.oks R0 hR0) tks fun ⟨l1, lc1, p1, pc1, ca, cc⟩ _ => ⟨po, ?_⟩)
 refine dx [8, 9, 10, 11, 12] ?_
 refine RunD.op 14 [true, true, true, false, false] rfl rfl rfl kr kr (OpJ.storeW nT61 rfl rfl rfl rfl (by simp [Value.oneCell', Pa.c, Ly.c, Mv.c, Co.c]) up ⟨po, ?_⟩)
 refine dx [15, 16, 17] ?_
 exact dwk ⟨_, _, _, _, _, _, _, rfl, rfl⟩ rfl gv
 refine RunD.op 5 [false, true, true, true, true] rfl rfl rfl kr kr (OpJ.callOuts nC23 rfl rfl (enMoves g k p (fillM k p ms)) tks fun y _ => ⟨po, ?_⟩)
 refine RunD.op 6 [true, true, true, true] rfl rfl rfl kr kr (OpJ.callOuts nC29 rfl rfl (ac29n (own 35 8 (some ⟨y, 0, none⟩) (fillM k p ms).length (fillM k p ms).length ((fillM k p ms).flatMap Mv.c)) (some ⟨y, 0, none⟩) (fillM k p ms).length (fillM k p ms) own.rds hG.fine (by omega)) tks fun ⟨oo, oc⟩ _ => ⟨po, ?_⟩)
 refine RunD.op 7 [false, false, false, false] rfl rfl rfl kr kr (OpJ.callOuts nC30 rfl rfl (runY k p t0 cs0 (own 35 8 oo (ordM (fillM k p ms)).length oc ((ordM (fillM k p ms)).flatMap Mv.c)) oo oc (ordM (fillM k p ms)) own.rds hrep (by rw [ordM_len]; have := light_len hl; omega) hG.oks R0 hR0) tks fun ⟨l1, lc1, p1, pc1, ca, cc⟩ _ => ⟨po, ?_⟩)
 refine dx [8, 9, 10, 11, 12] ?_
 refine RunD.op 14 [true, true, true, false, false] rfl rfl rfl kr kr (OpJ.storeW nT61 rfl rfl rfl rfl (by simp [Value.oneCell', Pa.c, Ly.c, Mv.c, Co.c]) up ⟨po, ?_⟩)
 refine dx [15, 16, 17] ?_
 exact dwk ⟨_, _, _, _, _, _, _, rfl, rfl⟩ rfl gv
 rintro _ _ ⟨l1, lc1, p1, pc1, ca, cc, b6, rfl, rfl⟩
 refine Run.seq ?_
 refine Run.seq ?_
 refine regionD HM ?_
 refine dx [0, 1] ?_
 refine RunD.set (v := Bo false) (congrArg Value.bool (decide_eq_false (fun h => h rfl))) ?_
 refine dx [2, 3, 4] ?_
 refine RunD.set (v := Bo false) (congrArg Value.bool (decide_eq_false (fun h => h rfl))) ?_
 refine dx [5, 6, 7, 8, 9] ?_
 refine RunD.opG 10 [false, true, true, false, false, false, true, false, false, true] rfl rfl rfl rfl rfl kr kr (OpJ.callRet nC13 rfl rfl (enLen g k p (fillM k p ms)) tks ⟨po, ?_⟩)
 refine dx [11] ?_
 refine RunD.set (v := Bo false) (congrArg Value.bool (decide_eq_false (by omega))) ?_
 refine dx [12, 13, 14, 15] ?_
 refine RunD.opG 16 [false, true, false, false, false, true, true, true, true] rfl rfl rfl rfl rfl kr kr (OpJ.callOuts nC25 rfl rfl (enStock g k p (fillM k p ms)) tks fun ⟨l2, lc2, p2, pc2⟩ _ => ⟨po, ?_⟩)
 rw [skOf_ok hrep]
 refine RunD.opG 17 [false, true, true, true, true] rfl rfl rfl rfl rfl kr kr (OpJ.callRet nC24 rfl rfl (ac17 t0 l1 lc1 p1 pc1 l2 lc2 p2 pc2 _ _ _ _ own.rds own.rds own.rds own.rds hsk) tks ⟨po, ?_⟩)
 refine dx [18, 19] ?_
 refine kd [5, 7, 55] rfl ?_
 refine Run.false rfl ?_
 refine Run.skip ?_
 refine Run.seq ?_
 refine sr ?_
 refine asg rfl rfl ?_
 refine kp [5, 7, 10] rfl ?_
 refine Run.block ?_
 refine Run.weak (L' := [own 32 4 ca cs0.length cc (cs0.flatMap Co.c), EN g k p (fillM k p ms), R, R0]) (fun _ _ h => h) gv ?_
 refine Run.loop (fun mm E L => ∃ i : Nat, mm = cs0.length - i ∧ i ≤ cs0.length ∧ E = [(5, Pt g), (7, .slice ca cs0.length cc), (10, I i)] ∧ L = [own 32 4 ca cs0.length cc (cs0.flatMap Co.c), EN g k p (fillM k p ms), R, R0]) ⟨_, 0, rfl, Nat.zero_le _, rfl, rfl⟩ ?_
 rintro _ _ _ ⟨i, rfl, hi, rfl, rfl⟩
 refine Run.seq ?_
 refine sr ?_
 refine sx 4 ?_
 refine kp [5, 7, 10, 59] rfl ?_
 refine cnd rfl (fun h1 => ?_) fun h1 => ?_
 refine Run.skip ?_
 refine Run.seq ?_
 refine Run.block ?_
 refine sr ?_
 obtain ⟨c, hc⟩ := get_ex (xs := cs0) (i := i) (by omega)
 have hcost := cost_rep hG.fine hrep hc
 have hcost1 := congrArg Prod.fst hcost
 have hcost2 := congrArg Prod.snd hcost
 dsimp only at hcost1 hcost2
 refine RunL.ownAddr pk (flat_ne (k := 4) (fun _ => rfl) (by decide) hc) fun bc e hcapbc => ?_
 subst e
 refine sx 6 ?_
 refine RunL.call nC15 rfl rfl rfl (enCost g k p (fillM k p ms) c.seq (by have := cost_seq hG.fine hrep hc; omega)) tks ?_
 rw [hcost1, hcost2]
 refine sx 3 ?_
 refine RunL.op rfl rfl (OpJ.alloc nZ32 fun b11 => ?_)
 refine sx 2 ?_
 refine kp [5, 7, 10, 11, 12] rfl ?_
 refine Run.seq ?_
 refine regionD HM ?_
 refine dx [0, 1, 2, 3, 4, 5, 6, 7, 8] ?_
 refine RunD.set (v := Bo false) (congrArg Value.bool (by simp)) ?_
 refine dx [9] ?_
 refine kd [5, 7, 10, 81] rfl ?_
 refine Run.false rfl ?_
 refine Run.skip ?_
 refine Run.region ?_
 refine sx 3 ?_
 exact RunL.next (Keep.sub (kt (ks := [5, 7, 10]) rfl)) _ ⟨_, by omega, i + 1, rfl, by omega, rfl, rfl⟩ gv
 refine Run.exit ?_
 refine sr ?_
 refine RunL.call nC12 rfl rfl rfl (ac12n R0 hR0) tks ?_
 refine asg rfl rfl ?_
 refine kp [4] rfl ?_
 refine Run.ret ?_
 exact ret_one (.tmp rfl .nil) (rfl) gv
end
theorem ac9n (k p : Int) (R : HP) (oa : Option Addr) (cap : Nat) (ms : List Mv) (hR : RdS R oa (ms.flatMap Mv.c)) (hlen : (ms.length : Int) ≤ 9223372036854775807) (R0 : HP) (hR0 : Rd R0 ⟨0, 0, none⟩ lensC)  : AC Tryz.prog 9 ⟨[.agg ⟨[I k, I p]⟩, .slice oa ms.length cap]⟩ (stars [R, R0]) (Ret (Bo true) [R, R0]) := by
  by_cases h0 : startE k p = 0
  · exact ac9y k p R oa cap ms hR hlen R0 hR0  h0
  · exact ac9z k p R oa cap ms hR hlen R0 hR0  h0
section
attribute [local irreducible] OpJ RunL Run RunD DetJ pt own star Rd RdS EN fillM addMs addErr csOf skOf addC addD
end
end Go.Proofs.YtcpghpifbgpkjaaGreatDoor

namespace Go.Proofs.YtcpghpifbgpkjaaGreatDoor
open Go Go.SL Go.ChangeShapes Go.WideShapes Go.ChangeAt Go.WideElems Go.RowKit Go.Deep
section
variable {H : Type} {enc : TypeId × Value → H} {W : World} {sp : Nat → Bool} {held : Bool}
theorem cof3 : Tryz.prog.cellsOf 3 = 1 := by kernel_rfl
theorem cof9 : Tryz.prog.cellsOf 9 = 1 := by kernel_rfl
theorem cof35 : Tryz.prog.cellsOf 35 = 8 := by kernel_rfl
theorem i64_of {n : Int} (h : (Lit.int .i64 n).wf = true) : i64 n := by
  have h1 : IntKind.i64.min = -9223372036854775808 := by rfl
  have h2 : IntKind.i64.max = 9223372036854775807 := by rfl
  simp only [Lit.wf, Bool.and_eq_true, decide_eq_true_eq] at h
  rw [h1, h2] at h
  exact h
theorem int_at {fuel : Nat} {cs : List Value} {x : DataW H × List MemPlace} (h : DataW.trod enc Tryz.prog W 0 sp held fuel 3 cs = some x) : ∃ n, cs = [I n] ∧ i64 n := by
  obtain ⟨n, h1, _, h2⟩ := DataW.trod_int Tryz.underlying3 h
  exact ⟨n, h1, i64_of h2⟩
theorem str_at {fuel : Nat} {cs : List Value} {x : DataW H × List MemPlace} (h : DataW.trod enc Tryz.prog W 0 sp held fuel 9 cs = some x) : ∃ s, cs = [St s] ∧ (s.size : Int) ≤ 9223372036854775807 := by
  obtain ⟨s, h1, _, hs⟩ := DataW.trod_string Tryz.underlying9 h
  have hmax : (maxLen : Nat) ≤ 9223372036854775807 := by decide
  exact ⟨s, h1, by omega⟩
/-- The sizes of a movement's strings. -/
def _root_.Go.SL.Mv.sz (m : Mv) : Prop := (m.item.size : Int) ≤ 9223372036854775807 ∧ (m.lot.size : Int) ≤ 9223372036854775807
theorem mv_of {fuel : Nat} {cs : List Value} {x : DataW H × List MemPlace} (h : DataW.trod enc Tryz.prog W 0 sp held fuel 35 cs = some x) : ∃ m : Mv, cs = m.c ∧ m.ok ∧ m.sz := by
  obtain ⟨xs, n, _, _, hl, hxl, hf⟩ := DataW.trod_struct Tryz.underlying35 h
  rw [cof35] at hl
  have hsz : xs.length = 8 := hxl
  have get : ∀ i, i < 8 → ∃ y, xs[i]? = some y := fun i hi => ⟨_, List.getElem?_eq_getElem (by omega)⟩
  have f0 : DataW.trod enc Tryz.prog W 0 sp held n 3 ((cs.drop 0).take (Tryz.prog.cellsOf 3)) = xs[0]? := hf 0 _ rfl
  have f1 : DataW.trod enc Tryz.prog W 0 sp held n 3 ((cs.drop 1).take (Tryz.prog.cellsOf 3)) = xs[1]? := hf 1 _ rfl
  have f2 : DataW.trod enc Tryz.prog W 0 sp held n 9 ((cs.drop 2).take (Tryz.prog.cellsOf 9)) = xs[2]? := hf 2 _ rfl
  have f3 : DataW.trod enc Tryz.prog W 0 sp held n 3 ((cs.drop 3).take (Tryz.prog.cellsOf 3)) = xs[3]? := hf 3 _ rfl
  have f4 : DataW.trod enc Tryz.prog W 0 sp held n 3 ((cs.drop 4).take (Tryz.prog.cellsOf 3)) = xs[4]? := hf 4 _ rfl
  have f5 : DataW.trod enc Tryz.prog W 0 sp held n 3 ((cs.drop 5).take (Tryz.prog.cellsOf 3)) = xs[5]? := hf 5 _ rfl
  have f6 : DataW.trod enc Tryz.prog W 0 sp held n 9 ((cs.drop 6).take (Tryz.prog.cellsOf 9)) = xs[6]? := hf 6 _ rfl
  have f7 : DataW.trod enc Tryz.prog W 0 sp held n 3 ((cs.drop 7).take (Tryz.prog.cellsOf 3)) = xs[7]? := hf 7 _ rfl
  rw [cof3] at f0 f1 f3 f4 f5 f7
  rw [cof9] at f2 f6
  obtain ⟨y0, e0⟩ := get 0 (by decide); obtain ⟨y1, e1⟩ := get 1 (by decide); obtain ⟨y2, e2⟩ := get 2 (by decide); obtain ⟨y3, e3⟩ := get 3 (by decide)
  obtain ⟨y4, e4⟩ := get 4 (by decide); obtain ⟨y5, e5⟩ := get 5 (by decide); obtain ⟨y6, e6⟩ := get 6 (by decide); obtain ⟨y7, e7⟩ := get 7 (by decide)
  obtain ⟨n0, h0, _⟩ := int_at (f0.trans e0); obtain ⟨n1, h1, _⟩ := int_at (f1.trans e1); obtain ⟨s2, h2, z2⟩ := str_at (f2.trans e2); obtain ⟨n3, h3, _⟩ := int_at (f3.trans e3)
  obtain ⟨n4, h4, w4⟩ := int_at (f4.trans e4); obtain ⟨n5, h5, w5⟩ := int_at (f5.trans e5); obtain ⟨s6, h6, z6⟩ := str_at (f6.trans e6); obtain ⟨n7, h7, _⟩ := int_at (f7.trans e7)
  clear f0 f1 f2 f3 f4 f5 f6 f7 hf get
  match cs, hl with
  | [c0, c1, c2, c3, c4, c5, c6, c7], _ =>
    simp at h0 h1 h2 h3 h4 h5 h6 h7
    subst h0 h1 h2 h3 h4 h5 h6 h7
    exact ⟨⟨n0, n1, s2, n3, n4, n5, s6, n7⟩, rfl, ⟨w4, w5⟩, z2, z6⟩
theorem add_add' (a : Addr) (x y : Nat) : (a.add x).add y = a.add (x + y) := by
  unfold Addr.add
  by_cases hx : x = 0
  · subst hx; simp
  · by_cases hy : y = 0
    · subst hy; simp
    · have : x + y ≠ 0 := by omega
      simp [hx, hy, Nat.add_assoc]
theorem cells_at {a : Addr} {n : Nat} {cs : List Value} (h : W.cells? 0 a n = some cs) : ∀ j v, cs[j]? = some v → W.cell? (a.add j) = some v := fun j v hj => by
  unfold World.cells? at h
  rw [if_pos (Nat.zero_le _)] at h
  have hl := mapM_some_length h
  have hjl := (List.getElem?_eq_some_iff.1 hj).1
  rw [List.length_range] at hl
  have := mapM_some_get h j j (List.getElem?_range (by omega))
  rw [this]; exact hj
/-- The movements that a slice holds. -/
theorem moves_of {fuel : Nat} {oa : Option Addr} {len cap : Nat} {x : DataW H × List MemPlace} (h : DataW.trod enc Tryz.prog W 0 (fun _ => true) held fuel 24 [.slice oa len cap] = some x) :
    ∃ ms : List Mv, ms.length = len ∧ (∀ m ∈ ms, m.ok ∧ m.sz) ∧ (len : Int) ≤ 9223372036854775807 ∧ len ≤ cap ∧ (ms = [] ∨ ∃ a, oa = some a ∧ ∀ j v, (ms.flatMap Mv.c)[j]? = some v → W.cell? (a.add j) = some v) := by
  rcases open_slice Tryz.underlying24 h with ⟨h1, _⟩ | ⟨a, l, c, m, n, D, Pl, h1, _, hlc, hcm, hm, _, hel⟩
  · simp at h1; obtain ⟨rfl, rfl, rfl⟩ := h1; exact ⟨[], rfl, (fun m hm => by cases hm), by decide, Nat.le_refl _, Or.inl rfl⟩
  · simp at h1; obtain ⟨rfl, rfl, rfl⟩ := h1
    simp only [if_true] at hm
    subst hm
    have hmax : (maxLen : Nat) ≤ 9223372036854775807 := by decide
    have key : ∀ i, ∃ mv : Mv, i < len → (W.cells? 0 (a.add (i * 8)) 8 = some mv.c ∧ mv.ok ∧ mv.sz) := fun i => by
      by_cases hi : i < len
      · obtain ⟨cs', hc, ht⟩ := hel i (by omega)
        rw [cof35] at hc
        obtain ⟨mv, rfl, hok⟩ := mv_of ht
        exact ⟨mv, fun _ => ⟨hc, hok⟩⟩
      · exact ⟨⟨0, 0, ⟨#[]⟩, 0, 0, 0, ⟨#[]⟩, 0⟩, fun h => absurd h hi⟩
    let f : Nat → Mv := fun i => Classical.choose (key i)
    have hfs : ∀ i, i < len → (W.cells? 0 (a.add (i * 8)) 8 = some (f i).c ∧ (f i).ok ∧ (f i).sz) := fun i => Classical.choose_spec (key i)
    refine ⟨(List.range len).map f, by simp, fun mv hmv => ?_, by omega, hlc, .inr ⟨a, rfl, fun j v hj => ?_⟩⟩
    · obtain ⟨i, hi, rfl⟩ := List.mem_map.1 hmv
      exact (hfs i (by simpa using hi)).2
    · have hjl := (List.getElem?_eq_some_iff.1 hj).1
      rw [flat_len (enc := Mv.c) (k := 8) (fun _ => rfl), List.length_map, List.length_range] at hjl
      have hi : j / 8 < len := by omega
      have hx : ((List.range len).map f)[j / 8]? = some (f (j / 8)) := by simp [hi]
      obtain ⟨v', hv'⟩ : ∃ v', (f (j / 8)).c[j % 8]? = some v' := ⟨_, List.getElem?_eq_getElem (show j % 8 < 8 by omega)⟩
      have := flat_get (enc := Mv.c) (k := 8) (fun _ => rfl) _ _ _ hx _ _ hv'
      rw [show j / 8 * 8 + j % 8 = j by omega, hj] at this
      cases this
      have hc := cells_at (hfs _ hi).1 _ _ hv'
      rw [← hc]
      rw [add_add', show j / 8 * 8 + j % 8 = j by omega]
end
theorem gLen : Tryz.prog.globalNamed "accounting/days.lengths" = some 0 := by kernel_rfl
def laid1 : List (String × DataW Unit) := [("accounting/days.lengths", Rows.laid_accounting_days_lengths)]
/-- What the condition gives: the block of the months' lengths. -/
theorem of_laid {W : World} (h : laidMetH Tryz.prog laid1 W) : ∃ t fr, W.heap[0]? = some (.cells ⟨lensC⟩ t fr) := by
  rw [MakeChecks.laidMetH_plain _ _ _ (by kernel_rfl)] at h
  obtain ⟨ps, ⟨g0, t0, cs0, f0, p0, q0, hg0, ht0, hv0, hd0, _, _⟩, _, hfr⟩ := h
  obtain rfl := Option.some.inj (gLen.symm.trans hg0)
  have tl : (Tryz.prog.globals[0]?).map (·.type) = some 176 := by kernel_rfl
  obtain rfl := Option.some.inj (tl.symm.trans ht0)
  obtain ⟨xs, m1, rfl, hx1, hlen, hn, hel⟩ := DataW.trod_array Tryz.underlying176 hd0
  have c176 : Tryz.prog.cellsOf 176 = 12 := by kernel_rfl
  rw [c176] at hlen
  simp only [cof3, Nat.mul_one] at hel
  have hcs : cs0.toList = lensC := by
    simp only [Rows.laid_accounting_days_lengths, Prod.mk.injEq, DataW.agg.injEq] at hx1
    obtain ⟨l⟩ := cs0
    (try simp only at hlen)
    (try simp only at hel)
    (try simp only)
    have get : ∀ i, i < 12 → ∃ (n : Int) (y : DataW Unit × List MemPlace), (l.drop i).take 1 = [.int .i64 n] ∧ xs[i]? = some y ∧ y.1 = .lit (.int .i64 n) := fun i hi => by
      obtain ⟨y, hy⟩ : ∃ y, xs[i]? = some y := ⟨_, List.getElem?_eq_getElem (by omega)⟩
      obtain ⟨n, h1, h2, _⟩ := DataW.trod_int Tryz.underlying3 ((hel i hi).trans hy)
      exact ⟨n, y, h1, hy, by rw [h2]⟩
    have val : ∀ i, i < 12 → ∀ n : Int, ([31, 28, 31, 30, 31, 30, 31, 31, 30, 31, 30, 31] : List Int)[i]? = some n → l[i]? = some (.int .i64 n) := fun i hi n hn' => by
      obtain ⟨n', y, h1, h2, h3⟩ := get i hi
      have h4 : (xs.map (·.1))[i]? = some (.lit (.int .i64 n')) := by rw [List.getElem?_map, h2]; simp [h3]
      rw [← hx1.1] at h4
      have h5 : l[i]? = some (.int .i64 n') := by
        have := congrArg (·[0]?) h1
        simpa [List.getElem?_take] using this
      rw [h5]
      have : i = 0 ∨ i = 1 ∨ i = 2 ∨ i = 3 ∨ i = 4 ∨ i = 5 ∨ i = 6 ∨ i = 7 ∨ i = 8 ∨ i = 9 ∨ i = 10 ∨ i = 11 := by omega
      rcases this with rfl | rfl | rfl | rfl | rfl | rfl | rfl | rfl | rfl | rfl | rfl | rfl <;> (simp at h4 hn'; subst h4; subst hn'; rfl)
    have hll : l.length = 12 := hlen
    show l = lensC
    apply List.ext_getElem?
    intro i
    by_cases hi : i < 12
    · obtain ⟨n, hn'⟩ : ∃ n, lensL[i]? = some n := ⟨_, List.getElem?_eq_getElem (show i < lensL.length from hi)⟩
      rw [val i hi n hn', lensC, List.getElem?_map, hn']; rfl
    · rw [List.getElem?_eq_none (by omega), List.getElem?_eq_none (show lensC.length ≤ i from (by omega : 12 ≤ i))]
  unfold World.var? at hv0
  rw [gLen] at hv0
  simp only [Option.bind_some] at hv0
  split at hv0
  · rename_i cs t fr hh
    cases hv0
    obtain ⟨l⟩ := cs0
    (try simp only at hcs)
    subst hcs
    exact ⟨t, fr, hh⟩
  · cases hv0

/-! from a contract to the row -/
def at1 (b : Nat) (o : Obj) : Hp := fun c => if c = b then some o else none
theorem pt_at1 (b : Nat) (o : Obj) : pt b o (at1 b o) := fun _ => rfl
theorem pt_eq {b : Nat} {o : Obj} {h : Hp} (hp : pt b o h) : h = at1 b o := funext hp
theorem emp_eq {h : Hp} (hp : emp h) : h = fun _ => none := funext hp
/-- A call that only reads what it owns leaves all that was there. -/
theorem ac_below {P : Program} {f : FuncId} {args : Array Value} {R R0 : HP} {hr h0 : Hp} {v : Value} {w : World} (eR : ∀ h, R h → h = hr) (mR : R hr) (e0 : ∀ h, R0 h → h = h0) (m0 : R0 h0) (hd : Hp.disj hr h0) (sR : hr.sub w) (s0 : h0.sub w)
    (h : AC P f args (stars [R, R0]) (Ret v [R, R0])) : Calls P f args w fun e w' => e = .returned v ∧ Below w.heap.size w w' := by
  have hA : stars [R, R0] (Hp.add hr h0) := by
    refine ⟨hr, h0, hd, rfl, mR, h0, fun _ => none, fun b => .inr rfl, ?_, m0, fun _ => rfl⟩
    exact (Hp.add_none' fun _ => rfl).symm
  have hsub : (Hp.add hr h0).sub w := fun b o hb => by
    simp only [Hp.add] at hb
    cases hrb : hr b with
    | some o' => rw [hrb] at hb; cases hb; exact sR b _ hrb
    | none => rw [hrb] at hb; exact s0 b o hb
  refine (h w _ hA hsub).mono ?_
  rintro e w' ⟨r, rfl, ⟨⟨h', hQ, hsub', _⟩, hrest⟩⟩
  obtain ⟨rfl, h1, h23, hd', rfl, hR1, h2, h3, hd2, rfl, hR2, h3e⟩ := hQ
  obtain rfl := eR _ hR1
  obtain rfl := e0 _ hR2
  refine ⟨rfl, hrest.os, hrest.tape, hrest.output, hrest.size, fun k hk => ?_⟩
  have hk2 : Hp.add h1 (Hp.add h2 h3) k = Hp.add h1 h2 k := by rw [Hp.add_none' h3e]
  cases hb : Hp.add h1 h2 k with
  | none => exact hrest.frame k hk hb
  | some o => rw [hsub' k o (hk2.trans hb), hsub k o hb]
theorem lens_rd {t : TypeId} {fr : Nat × Nat} : Rd (pt 0 (.cells ⟨lensC⟩ t fr)) ⟨0, 0, none⟩ lensC := fun h hp => ⟨⟨lensC⟩, t, fr, by rw [hp]; simp, rfl, fun j v hj => by simpa using hj⟩
/-- A law over values and a list of movements: what its contract gives the row. -/
theorem law_gen {f : FuncId} {xs ys : List Value} {oa : Option Addr} {len cap : Nat} (hac : ∀ (R : HP) (ms : List Mv), ms.length = len → RdS R oa (ms.flatMap Mv.c) → (ms.length : Int) ≤ 9223372036854775807 → (∀ m ∈ ms, m.ok ∧ m.sz) → ms.length ≤ cap → ∀ R0 : HP, Rd R0 ⟨0, 0, none⟩ lensC → AC Tryz.prog f ⟨xs ++ [.slice oa len cap] ++ ys⟩ (stars [R, R0]) (Ret (Bo true) [R, R0]))
    {H : Type} {enc : TypeId × Value → H} {W : World} {held : Bool} {fuel : Nat} {x : DataW H × List MemPlace} (h : DataW.trod enc Tryz.prog W 0 (fun _ => true) held fuel 24 [.slice oa len cap] = some x) (hL : laidMetH Tryz.prog laid1 W) :
    Calls Tryz.prog f ⟨xs ++ [.slice oa len cap] ++ ys⟩ W fun e w' => e = .returned (.bool true) ∧ Below W.heap.size W w' := by
  obtain ⟨t, fr, h0⟩ := of_laid hL
  obtain ⟨ms, rfl, hok, hlen, hcap, hms⟩ := moves_of h
  have s0 : (at1 0 (.cells ⟨lensC⟩ t fr)).sub W := fun b o hb => by
    unfold at1 at hb
    split at hb
    · rename_i hb0; cases hb; rw [hb0]; exact h0
    · cases hb
  rcases hms with rfl | ⟨a, rfl, hcell⟩
  · exact ac_below (R := emp) (hr := fun _ => none) (fun _ => emp_eq) (fun _ => rfl) (fun _ => pt_eq) (pt_at1 _ _) (fun _ => .inl rfl) (fun _ _ hb => by cases hb) s0 (hac emp [] rfl RdS.nil hlen hok hcap _ lens_rd)
  · by_cases hnil : ms = []
    · subst hnil
      exact ac_below (R := emp) (hr := fun _ => none) (fun _ => emp_eq) (fun _ => rfl) (fun _ => pt_eq) (pt_at1 _ _) (fun _ => .inl rfl) (fun _ _ hb => by cases hb) s0 (hac emp [] rfl RdS.nil hlen hok hcap _ lens_rd)
    · obtain ⟨m, ms', rfl⟩ : ∃ m ms', ms = m :: ms' := by
        cases ms with
        | nil => exact absurd rfl hnil
        | cons m ms' => exact ⟨m, ms', rfl⟩
      have c0 := hcell 0 (I m.seq) rfl
      have c2 := hcell 2 (St m.item) rfl
      obtain ⟨blk0, off, spot⟩ := a
      have hspot : spot = none := by
        unfold World.cell? at c0
        split at c0
        · split at c0
          · cases c0
          · rename_i hs; cases spot with
            | none => rfl
            | some s => simp [Addr.add] at hs
        · cases c0
      subst hspot
      obtain ⟨o, ho⟩ : ∃ o, W.heap[blk0]? = some o := by
        unfold World.cell? at c0
        split at c0
        · rename_i c t' fr' hh; exact ⟨_, hh⟩
        · cases c0
      have hb0 : blk0 ≠ 0 := by
        rintro rfl
        rw [h0] at ho
        rw [Addr.add_eq rfl] at c2
        simp only [World.cell?, h0, Option.isSome_none, Bool.false_eq_true, if_false, List.getElem?_toArray] at c2
        have hall : ∀ v ∈ lensC, ∃ n, v = Value.int .i64 n := by
          intro v hv
          obtain ⟨n, _, rfl⟩ := List.mem_map.1 hv
          exact ⟨n, rfl⟩
        obtain ⟨n, hn⟩ := hall _ (List.mem_of_getElem? c2)
        cases hn
      refine ac_below (R := pt blk0 o) (hr := at1 blk0 o) (fun _ => pt_eq) (pt_at1 _ _) (fun _ => pt_eq) (pt_at1 _ _) (fun b => ?_) (fun b o' hb => ?_) s0 (hac (pt blk0 o) _ rfl (Rd.rds ?_) hlen hok hcap _ lens_rd)
      · by_cases e : b = 0
        · left; subst e; simp [at1, Ne.symm hb0]
        · right; simp [at1, e]
      · unfold at1 at hb
        split at hb
        · rename_i e; cases hb; rw [e]; exact ho
        · cases hb
      · intro h hp
        have c0' := c0
        unfold World.cell? at c0'
        rw [show ((⟨blk0, off, none⟩ : Addr).add 0).block = blk0 by rw [Addr.add_eq rfl], ho] at c0'
        match o, ho with
        | .cells cs t' fr', ho =>
          refine ⟨cs, t', fr', by rw [hp]; simp, rfl, fun j v hj => ?_⟩
          have := hcell j v hj
          rw [Addr.add_eq rfl] at this
          simpa only [World.cell?, ho, Option.isSome_none, Bool.false_eq_true, if_false] using this
        | .map es c, ho => cases c0'
theorem ep0 {A : HP} {h : Hp} (hs : star emp A h) : A h := by
  obtain ⟨h1, h2, hd, rfl, ha, hb⟩ := hs
  rw [Hp.add_none ha]; exact hb
theorem ep1 {A : HP} {h : Hp} (hs : A h) : star emp A h := ⟨fun _ => none, h, fun b => .inl rfl, by funext b; simp [Hp.add], fun _ => rfl, hs⟩
theorem cof23 : Tryz.prog.cellsOf 23 = 2 := by kernel_rfl
/-- The method and the price. -/
theorem way_of {H : Type} {enc : TypeId × Value → H} {W : World} {sp : Nat → Bool} {held : Bool} {fuel : Nat} {cs : List Value} {x : DataW H × List MemPlace} (h : DataW.trod enc Tryz.prog W 0 sp held fuel 23 cs = some x) : ∃ k p : Int, cs = [I k, I p] := by
  obtain ⟨xs, n, _, _, hl, hxl, hf⟩ := DataW.trod_struct Tryz.underlying23 h
  rw [cof23] at hl
  have hsz : xs.length = 2 := hxl
  have get : ∀ i, i < 2 → ∃ y, xs[i]? = some y := fun i hi => ⟨_, List.getElem?_eq_getElem (by omega)⟩
  have f0 : DataW.trod enc Tryz.prog W 0 sp held n 3 ((cs.drop 0).take (Tryz.prog.cellsOf 3)) = xs[0]? := hf 0 _ rfl
  have f1 : DataW.trod enc Tryz.prog W 0 sp held n 3 ((cs.drop 1).take (Tryz.prog.cellsOf 3)) = xs[1]? := hf 1 _ rfl
  rw [cof3] at f0 f1
  obtain ⟨y0, e0⟩ := get 0 (by decide); obtain ⟨y1, e1⟩ := get 1 (by decide)
  obtain ⟨n0, h0, _⟩ := int_at (f0.trans e0); obtain ⟨n1, h1, _⟩ := int_at (f1.trans e1)
  clear f0 f1 hf get
  match cs, hl with
  | [c0, c1], _ =>
    simp at h0 h1
    subst h0 h1
    exact ⟨n0, n1, rfl⟩
/-- A law over values alone. -/
theorem law_gen0 {f : FuncId} {xs : List Value} (hac : ∀ R0 : HP, Rd R0 ⟨0, 0, none⟩ lensC → AC Tryz.prog f ⟨xs⟩ (stars [R0]) (Ret (Bo true) [R0])) {W : World} (hL : laidMetH Tryz.prog laid1 W) :
    Calls Tryz.prog f ⟨xs⟩ W fun e w' => e = .returned (.bool true) ∧ Below W.heap.size W w' := by
  obtain ⟨t, fr, h0⟩ := of_laid hL
  have s0 : (at1 0 (.cells ⟨lensC⟩ t fr)).sub W := fun b o hb => by
    unfold at1 at hb
    split at hb
    · rename_i hb0; cases hb; rw [hb0]; exact h0
    · cases hb
  exact ac_below (R := emp) (hr := fun _ => none) (fun _ => emp_eq) (fun _ => rfl) (fun _ => pt_eq) (pt_at1 _ _) (fun _ => .inl rfl) (fun _ _ hb => by cases hb) s0
    (AC.mono (hac _ lens_rd) (fun h hh => ep0 hh) (fun r h hh => ⟨hh.1, ep1 hh.2⟩))
theorem knob0 : ownKnob Tryz.prog.godebug = none := by kernel_rfl
theorem laidOut : laidOutB Tryz.prog = true := by kernel_rfl
theorem door_met (os : Os) (args : Array Value) : laidMetH Tryz.prog laid1 ((World.doorLaid Tryz.prog 400 os).forCall (fun _ _ => 0) ⟨#[], args, []⟩).memory :=
  laidMetH_of_parts3 (fuel := 8) (laidMet_of_run' 8 (by kernel_rfl) (by kernel_rfl)) (by kernel_rfl) (by kernel_rfl)
end Go.Proofs.YtcpghpifbgpkjaaGreatDoor
