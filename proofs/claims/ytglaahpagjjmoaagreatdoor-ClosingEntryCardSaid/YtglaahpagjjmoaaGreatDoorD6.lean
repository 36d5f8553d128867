/- Laws of the walks and of the models, part 6 (merged by program). -/
import Derived.Test.YtglaahpagjjmoaaGreatDoorD5
import Derived.Test.YtglaahpagjjmoaaGreatDoorRows
import Derived.Test.YtglaahpagjjmoaaGreatDoorTie
import Derived.Test.YtglaahpagjjmoaaGreatDoorCards
import Derived.ProofKit
import Derived.WalkKit
import Derived.LaidMore
import Derived.OpenShut
import Derived.Below
import Derived.ChangeOld
import Derived.SizedLaws
import Derived.Deep.Slices
import Derived.Stop.Joined
import Derived.Shelf.Vars
set_option linter.unusedVariables false
set_option linter.unusedSimpArgs false
set_option maxRecDepth 20000
set_option maxHeartbeats 4000000
namespace Go.Proofs.YtglaahpagjjmoaaGreatDoor
open Go Go.SL Go.Proofs
section
attribute [local irreducible] OpJ RunL Run RunD DetJ pt own star Rd RdS
theorem c_23curs (S : HP) (oa : Option Addr) (cap : Nat) (s : List Cl) (hR : RdS S oa (s.flatMap Cl.c)) (hl : s.length ≤ 100000) : AC Tryz.prog 41 ⟨[.slice oa s.length cap]⟩ (stars [S]) (Outs (fun _ : Option Addr × Nat => True) (fun y => .slice y.1 (curS s).length y.2) (fun y => [own 9 1 y.1 (curS s).length y.2 ((curS s).flatMap Sb), S])) := by
 refine AC.go Tryz.func41 rfl (Nat.le_of_ble_eq_true rfl) fun β => ?_
 refine sr ?_
 refine asg rfl rfl ?_
 refine kp [0] rfl ?_
 refine sr ?_
 refine RunL.op rfl rfl (OpJ.buildSlice0 S55 fun b7 => ?_)
 refine asg rfl rfl ?_
 refine kp [0, 3] rfl ?_
 refine Run.seq ?_
 refine sr ?_
 refine asg rfl rfl ?_
 refine kp [0, 3, 4] rfl ?_
 refine Run.block ?_
 refine Run.weak (L' := [own 9 1 (bpt b7) ([] : List ByteArray).length 0 (([] : List ByteArray).flatMap Sb), S]) (fun _ _ h => h) gv ?_
 refine Run.loop (fun mm E L => ∃ (i : Nat) (cs : List ByteArray) (ca : Option Addr) (cc : Nat), mm = s.length - i ∧ i ≤ s.length ∧ cs = curT (fun x : Cl => x.k.cur) s i ∧ E = [(0, .slice oa s.length cap), (3, .slice ca cs.length cc), (4, I i)] ∧ L = [own 9 1 ca cs.length cc (cs.flatMap Sb), S]) ⟨_, 0, [], bpt b7, 0, rfl, Nat.zero_le _, rfl, rfl, rfl⟩ ?_
 rintro _ _ _ ⟨i, cs, ca, cc, rfl, hi, hC, rfl, rfl⟩
 refine Run.seq ?_
 refine sr ?_
 refine sx 4 ?_
 refine kp [0, 3, 4, 11] rfl ?_
 first | refine Run.if rfl (fun h1 => ?_) (fun h1 => ?_) | refine Run.cond rfl (fun h1 => ?_) (fun h1 => ?_)
 refine Run.skip ?_
 refine Run.seq ?_
 refine Run.block ?_
 refine sr ?_
 obtain ⟨x, hx⟩ := get_ex (xs := s) (i := i) (by omega)
 refine RunL.rdOpen pk hR (flat_ne (k := 7) (fun _ => rfl) (by decide) hx) fun b o eb hrd => ?_
 subst eb
 refine RunL.ownLe (oa := ca) pk fun hcc => ?_
 have hcl := curT_len (f := fun x : Cl => x.k.cur) (ls := s) (i := i) hi
 rw [← hC] at hcl
 refine asg rfl rfl ?_
 refine kp [0, 3, 4, 5] rfl ?_
 refine Run.seq ?_
 refine Run.block ?_
 refine Run.loop (fun mm E L => ∃ k : Nat, mm = cs.length - k ∧ k ≤ cs.length ∧ (∀ j z, j < k → cs[j]? = some z → blt z x.k.cur = true) ∧ E = [(0, .slice (some ⟨b, o, none⟩) s.length cap), (3, .slice ca cs.length cc), (4, I i), (5, I k)] ∧ L = [own 9 1 ca cs.length cc (cs.flatMap Sb), S]) ⟨_, 0, rfl, Nat.zero_le _, (fun j z h => by omega), rfl, rfl⟩ ?_
 rintro _ _ _ ⟨k, rfl, hkl, hI1, rfl, rfl⟩
 refine Run.seq ?_
 refine Run.seq ?_
 refine regionD HM ?_
 refine tk 0 rfl rfl rfl (DetJ.move rfl) ?_
 refine tk 1 rfl rfl rfl (DetJ.move rfl) ?_
 refine tk 2 rfl rfl rfl (DetJ.len S55 rfl) ?_
 refine tk 3 rfl rfl rfl (DetJ.lss rfl rfl) ?_
 refine tk 4 rfl rfl rfl (DetJ.move rfl) ?_
 by_cases hk : k < cs.length
 obtain ⟨c, hc⟩ := get_ex (xs := cs) (i := k) (by omega)
 refine RunD.ownAddr (oa := ca) pk (flat_ne (k := 1) (fun _ => rfl) (by decide) hc) fun bq e1 hcap1 => ?_
 subst e1
 refine RunD.set (congrArg Bo (decide_eq_true (by omega))) ?_
 refine RunD.takeG 5 rfl rfl rfl rfl rfl kr (DetJ.move rfl) .nil ?_
 refine RunD.takeG 6 rfl rfl rfl rfl rfl kr (DetJ.move rfl) .nil ?_
 refine RunD.takeG 7 rfl rfl rfl rfl rfl kr (DetJ.indexAddr S55 rfl rfl (by omega)) .nil ?_
 refine RunD.takeGR1 8 rfl rfl rfl rfl kr T9 rfl pk (own.el (enc := Sb) hc (by decide) (fun _ => rfl)) ?_
 refine RunD.takeG 9 rfl rfl rfl rfl rfl kr (DetJ.move rfl) .nil ?_
 refine RunD.takeG 10 rfl rfl rfl rfl rfl kr (DetJ.move rfl) .nil ?_
 refine RunD.takeG 11 rfl rfl rfl rfl rfl kr (DetJ.indexAddr S32 rfl rfl (by omega)) .nil ?_
 refine RunD.takeG 12 rfl rfl rfl rfl rfl kr (DetJ.fieldAddr F63_0 rfl) .nil ?_
 refine RunD.takeG 13 rfl rfl rfl rfl rfl kr (DetJ.fieldAddr F61_2 rfl) .nil ?_
 refine RunD.takeGR1 14 rfl rfl rfl rfl kr T9 rfl pk (hrd.at (enc := Cl.c) 7 (fun _ => rfl) hx 2 (St x.k.cur) rfl) ?_
 refine RunD.takeG 15 rfl rfl rfl rfl rfl kr (DetJ.lssS rfl rfl) .nil ?_
 refine tk 16 rfl rfl rfl (DetJ.pickT rfl rfl) ?_
 refine kd [0, 3, 4, 5, 30] rfl ?_
 first | refine Run.if rfl (fun h2 => ?_) (fun h2 => ?_) | refine Run.cond rfl (fun h2 => ?_) (fun h2 => ?_)
 refine Run.skip ?_
 refine Run.block ?_
 refine Run.region ?_
 refine sx 3 ?_
 exact RunL.next (Keep.sub (kt (ks := [0, 3, 4, 5]) rfl)) _ ⟨_, by omega, k + 1, rfl, by omega, (fun j z hj hz => by { by_cases e : j = k; (subst e; rw [hc] at hz; cases hz; simp_all [blt]); exact hI1 j z (by omega) hz }), rfl, rfl⟩ gv
 refine Run.exit ?_
 refine Run.seq ?_
 refine Run.seq ?_
 refine regionD HM ?_
 refine tk 0 rfl rfl rfl (DetJ.move rfl) ?_
 refine tk 1 rfl rfl rfl (DetJ.move rfl) ?_
 refine tk 2 rfl rfl rfl (DetJ.len S55 rfl) ?_
 refine tk 3 rfl rfl rfl (DetJ.lss rfl rfl) ?_
 refine tk 4 rfl rfl rfl (DetJ.move rfl) ?_
 skip
 have hins := insS_at (c := x.k.cur) hkl hI1 (fun z hz => by rw [hc] at hz; cases hz; simp_all [blt])
 refine RunD.set (congrArg Bo (decide_eq_true (by omega))) ?_
 refine RunD.takeG 5 rfl rfl rfl rfl rfl kr (DetJ.move rfl) .nil ?_
 refine RunD.takeG 6 rfl rfl rfl rfl rfl kr (DetJ.move rfl) .nil ?_
 refine RunD.takeG 7 rfl rfl rfl rfl rfl kr (DetJ.indexAddr S55 rfl rfl (by omega)) .nil ?_
 refine RunD.takeGR1 8 rfl rfl rfl rfl kr T9 rfl pk (own.el (enc := Sb) hc (by decide) (fun _ => rfl)) ?_
 refine RunD.takeG 9 rfl rfl rfl rfl rfl kr (DetJ.move rfl) .nil ?_
 refine RunD.takeG 10 rfl rfl rfl rfl rfl kr (DetJ.move rfl) .nil ?_
 refine RunD.takeG 11 rfl rfl rfl rfl rfl kr (DetJ.indexAddr S32 rfl rfl (by omega)) .nil ?_
 refine RunD.takeG 12 rfl rfl rfl rfl rfl kr (DetJ.fieldAddr F63_0 rfl) .nil ?_
 refine RunD.takeG 13 rfl rfl rfl rfl rfl kr (DetJ.fieldAddr F61_2 rfl) .nil ?_
 refine RunD.takeGR1 14 rfl rfl rfl rfl kr T9 rfl pk (hrd.at (enc := Cl.c) 7 (fun _ => rfl) hx 2 (St x.k.cur) rfl) ?_
 refine RunD.takeG 15 rfl rfl rfl rfl rfl kr (DetJ.eqlS rfl rfl) .nil ?_
 refine tk 16 rfl rfl rfl (DetJ.pickT rfl rfl) ?_
 refine kd [0, 3, 4, 5, 49] rfl ?_
 first | refine Run.if rfl (fun h3 => ?_) (fun h3 => ?_) | refine Run.cond rfl (fun h3 => ?_) (fun h3 => ?_)
 refine Run.exit ?_
 refine Run.region ?_
 refine sx 3 ?_
 have hq : cs[k]? = some x.k.cur := (by rw [hc]; simp_all)
 have hin2 := hins
 rw [if_pos hq] at hin2
 exact RunL.next (Keep.sub (kt (ks := [0, 3, 4]) rfl)) _ ⟨_, by omega, i + 1, cs, _, cc, rfl, by omega, (by rw [curT_step hx, ← hC]; exact hin2.symm), rfl, rfl⟩ gv
 refine Run.skip ?_
 refine sr ?_
 refine RunL.op rfl rfl (OpJ.buildSlice0 S55 fun b50 => ?_)
 refine sx 2 ?_
 refine RunL.op rfl rfl (OpJ.sliceLoA S55 rfl rfl (by omega) ?_)
 refine RunL.op rfl rfl (OpJ.appendAll S55 M9 rfl rfl pk pk (own.rds.cut (enc := Sb) (fun _ => rfl) k (by omega)) (by rw [flat_len (k := 1) (fun _ => rfl), List.length_drop]) (by decide) (flat_one sb1 _) (by omega) (by omega) fun a54 c54 => ?_)
 simp only [Nat.zero_add, List.nil_append]
 refine asg rfl rfl ?_
 refine kp [0, 3, 4, 5, 6] rfl ?_
 refine regionD HM ?_
 refine tk 0 rfl rfl rfl (DetJ.move rfl) ?_
 refine tk 1 rfl rfl rfl (DetJ.move rfl) ?_
 refine tk 2 rfl rfl rfl (DetJ.move rfl) ?_
 refine tk 3 rfl rfl rfl (DetJ.sliceHiMax S55 rfl rfl rfl (by omega)) ?_
 refine tk 4 rfl rfl rfl (DetJ.move rfl) ?_
 refine tk 5 rfl rfl rfl (DetJ.move rfl) ?_
 refine tk 6 rfl rfl rfl (DetJ.indexAddr S32 rfl rfl (by omega)) ?_
 refine tk 7 rfl rfl rfl (DetJ.fieldAddr F63_0 rfl) ?_
 refine tk 8 rfl rfl rfl (DetJ.fieldAddr F61_2 rfl) ?_
 refine RunD.takeR1 9 rfl rfl kr T9 rfl pk (hrd.at (enc := Cl.c) 7 (fun _ => rfl) hx 2 (St x.k.cur) rfl) ?_
 refine tk 12 rfl rfl rfl (DetJ.move rfl) ?_
 refine RunD.op 10 [true, false, false, false, true, true, true, true, true, true, true] rfl rfl rfl kr kr (OpJ.buildSlice1 S55 rfl rfl rfl (by decide) (by decide) Z9 rfl fun b65 => ⟨po, ?_⟩)
 refine RunD.op 11 [true, true, true, true, false, false, false, false] rfl rfl rfl kr kr (OpJ.appendFull1 (cs.take k) x.k.cur S55 M9 rfl rfl pk (own.rds.lo (enc := Sb) (fun _ => rfl) k) (fun _ => rfl) (by decide) pk rfl (by rw [List.length_take]; omega) (by rw [List.length_take]; omega) (by rw [List.length_take]; omega) fun a66 c66 => ⟨po, ?_⟩)
 refine RunD.op 13 [false, true, true, true] rfl rfl rfl kr kr (OpJ.appendL (cs.take k ++ [x.k.cur]) (cs.drop k) S55 M9 rfl rfl pk pk own.rds (by rw [List.length_drop]) (fun _ => rfl) (by decide) sb1 (by simp; omega) (by simp; omega) fun a68 c68 => ⟨po, ?_⟩)
 have hqn : ¬ cs[k]? = some x.k.cur := (by rw [hc]; simp_all)
 have hins2 := hins
 rw [if_neg hqn] at hins2
 rw [show cs.take k ++ [x.k.cur] ++ cs.drop k = insS x.k.cur cs by rw [hins2, List.append_assoc]; rfl]
 refine tk 14 rfl rfl rfl (DetJ.assign rfl) ?_
 refine kd [0, 3, 4] rfl ?_
 refine Run.region ?_
 refine sx 3 ?_
 exact RunL.next (Keep.sub (kt (ks := [0, 3, 4]) rfl)) _ ⟨_, by omega, i + 1, insS x.k.cur cs, a68, c68, rfl, by omega, (by rw [curT_step hx, hC]), rfl, rfl⟩ gv
 refine RunD.set (congrArg Bo (decide_eq_false (by omega))) ?_
 refine RunD.takeN 5 rfl rfl rfl rfl rfl kr ?_
 refine RunD.takeN 6 rfl rfl rfl rfl rfl kr ?_
 refine RunD.takeN 7 rfl rfl rfl rfl rfl kr ?_
 refine RunD.takeN 8 rfl rfl rfl rfl rfl kr ?_
 refine RunD.takeN 9 rfl rfl rfl rfl rfl kr ?_
 refine RunD.takeN 10 rfl rfl rfl rfl rfl kr ?_
 refine RunD.takeN 11 rfl rfl rfl rfl rfl kr ?_
 refine RunD.takeN 12 rfl rfl rfl rfl rfl kr ?_
 refine RunD.takeN 13 rfl rfl rfl rfl rfl kr ?_
 refine RunD.takeN 14 rfl rfl rfl rfl rfl kr ?_
 refine RunD.takeN 15 rfl rfl rfl rfl rfl kr ?_
 refine tk 16 rfl rfl rfl (DetJ.pickF rfl rfl) ?_
 refine kd [0, 3, 4, 5, 30] rfl ?_
 refine Run.false rfl ?_
 refine Run.exit ?_
 refine Run.seq ?_
 refine Run.seq ?_
 refine regionD HM ?_
 refine tk 0 rfl rfl rfl (DetJ.move rfl) ?_
 refine tk 1 rfl rfl rfl (DetJ.move rfl) ?_
 refine tk 2 rfl rfl rfl (DetJ.len S55 rfl) ?_
 refine tk 3 rfl rfl rfl (DetJ.lss rfl rfl) ?_
 refine tk 4 rfl rfl rfl (DetJ.move rfl) ?_
 skip
 have hins := insS_at (c := x.k.cur) hkl hI1 (fun z hz => by rw [List.getElem?_eq_none (by omega)] at hz; cases hz)
 have hqn : ¬ cs[k]? = some x.k.cur := (by rw [List.getElem?_eq_none (by omega)]; simp)
 have hkl : k = cs.length := by omega
 refine RunD.set (congrArg Bo (decide_eq_false (by omega))) ?_
 refine RunD.takeN 5 rfl rfl rfl rfl rfl kr ?_
 refine RunD.takeN 6 rfl rfl rfl rfl rfl kr ?_
 refine RunD.takeN 7 rfl rfl rfl rfl rfl kr ?_
 refine RunD.takeN 8 rfl rfl rfl rfl rfl kr ?_
 refine RunD.takeN 9 rfl rfl rfl rfl rfl kr ?_
 refine RunD.takeN 10 rfl rfl rfl rfl rfl kr ?_
 refine RunD.takeN 11 rfl rfl rfl rfl rfl kr ?_
 refine RunD.takeN 12 rfl rfl rfl rfl rfl kr ?_
 refine RunD.takeN 13 rfl rfl rfl rfl rfl kr ?_
 refine RunD.takeN 14 rfl rfl rfl rfl rfl kr ?_
 refine RunD.takeN 15 rfl rfl rfl rfl rfl kr ?_
 refine tk 16 rfl rfl rfl (DetJ.pickF rfl rfl) ?_
 refine kd [0, 3, 4, 5, 49] rfl ?_
 refine Run.false rfl ?_
 refine Run.skip ?_
 refine sr ?_
 refine RunL.op rfl rfl (OpJ.buildSlice0 S55 fun b50 => ?_)
 refine sx 2 ?_
 refine RunL.op rfl rfl (OpJ.sliceLoA S55 rfl rfl (by omega) ?_)
 refine RunL.op rfl rfl (OpJ.appendAll S55 M9 rfl rfl pk pk (own.rds.cut (enc := Sb) (fun _ => rfl) k (by omega)) (by rw [flat_len (k := 1) (fun _ => rfl), List.length_drop]) (by decide) (flat_one sb1 _) (by omega) (by omega) fun a54 c54 => ?_)
 simp only [Nat.zero_add, List.nil_append]
 refine asg rfl rfl ?_
 refine kp [0, 3, 4, 5, 6] rfl ?_
 refine regionD HM ?_
 refine tk 0 rfl rfl rfl (DetJ.move rfl) ?_
 refine tk 1 rfl rfl rfl (DetJ.move rfl) ?_
 refine tk 2 rfl rfl rfl (DetJ.move rfl) ?_
 refine tk 3 rfl rfl rfl (DetJ.sliceHiMax S55 rfl rfl rfl (by omega)) ?_
 refine tk 4 rfl rfl rfl (DetJ.move rfl) ?_
 refine tk 5 rfl rfl rfl (DetJ.move rfl) ?_
 refine tk 6 rfl rfl rfl (DetJ.indexAddr S32 rfl rfl (by omega)) ?_
 refine tk 7 rfl rfl rfl (DetJ.fieldAddr F63_0 rfl) ?_
 refine tk 8 rfl rfl rfl (DetJ.fieldAddr F61_2 rfl) ?_
 refine RunD.takeR1 9 rfl rfl kr T9 rfl pk (hrd.at (enc := Cl.c) 7 (fun _ => rfl) hx 2 (St x.k.cur) rfl) ?_
 refine tk 12 rfl rfl rfl (DetJ.move rfl) ?_
 refine RunD.op 10 [true, false, false, false, true, true, true, true, true, true, true] rfl rfl rfl kr kr (OpJ.buildSlice1 S55 rfl rfl rfl (by decide) (by decide) Z9 rfl fun b65 => ⟨po, ?_⟩)
 refine RunD.op 11 [true, true, true, true, false, false, false, false] rfl rfl rfl kr kr (OpJ.appendFull1 (cs.take k) x.k.cur S55 M9 rfl rfl pk (own.rds.lo (enc := Sb) (fun _ => rfl) k) (fun _ => rfl) (by decide) pk rfl (by rw [List.length_take]; omega) (by rw [List.length_take]; omega) (by rw [List.length_take]; omega) fun a66 c66 => ⟨po, ?_⟩)
 refine RunD.op 13 [false, true, true, true] rfl rfl rfl kr kr (OpJ.appendL (cs.take k ++ [x.k.cur]) (cs.drop k) S55 M9 rfl rfl pk pk own.rds (by rw [List.length_drop]) (fun _ => rfl) (by decide) sb1 (by simp; omega) (by simp; omega) fun a68 c68 => ⟨po, ?_⟩)
 have hins2 := hins
 rw [if_neg hqn] at hins2
 rw [show cs.take k ++ [x.k.cur] ++ cs.drop k = insS x.k.cur cs by rw [hins2, List.append_assoc]; rfl]
 refine tk 14 rfl rfl rfl (DetJ.assign rfl) ?_
 refine kd [0, 3, 4] rfl ?_
 refine Run.region ?_
 refine sx 3 ?_
 exact RunL.next (Keep.sub (kt (ks := [0, 3, 4]) rfl)) _ ⟨_, by omega, i + 1, insS x.k.cur cs, a68, c68, rfl, by omega, (by rw [curT_step hx, hC]), rfl, rfl⟩ gv
 refine Run.exit ?_
 refine sr ?_
 refine sx 2 ?_
 refine kp [2] rfl ?_
 refine Run.ret ?_
 obtain rfl : i = s.length := by omega
 have hC2 : cs = curS s := (by rw [hC, curT_all (Nat.le_refl _)]; rfl)
 subst hC2
 exact ret_out (ca, cc) (.tmp rfl .nil) trivial rfl gv
theorem c_against (S : HP) (oa : Option Addr) (cap : Nat) (s : List Cl) (hR : RdS S oa (s.flatMap Cl.c)) (hl : s.length ≤ 100000) (to c : ByteArray) : AC Tryz.prog 42 ⟨[.slice oa s.length cap, St to, St c]⟩ (stars [S]) (Ret (.tuple ⟨[.agg ⟨(agL s to c).c⟩, Bo (agB s c)]⟩) [S]) := by
 refine AC.go Tryz.func42 rfl (Nat.le_of_ble_eq_true rfl) fun β => ?_
 refine sr ?_
 refine RunL.op rfl rfl (OpJ.alloc Z73 fun b6 => ?_)
 refine asg rfl rfl ?_
 refine kp [0, 1, 2, 6] rfl ?_
 refine sr ?_
 refine sx 3 ?_
 refine RunL.op rfl rfl (OpJ.alloc Z73 fun b8 => ?_)
 refine RunL.op rfl rfl (OpJ.storeW T73 rfl rfl rfl rfl (by simp [Value.oneCell', Tg.c, Ln.c, En.c, Ac.c, Cl.c, Ky.c, Qy.c, Sb, Iv, Cs.c]) up ?_)
 refine kp [0, 2, 6, 8] rfl ?_
 refine Run.seq ?_
 refine sr ?_
 refine asg rfl rfl ?_
 refine kp [0, 2, 6, 8, 9] rfl ?_
 refine Run.block ?_
 refine Run.weak (L' := [pt b8 (blk [St to, St c, I 0, I 0, St bs0, St bs0, .slice none 0 0] 73), pt b6 (blk [St bs0, St bs0, I 0, I 0, St bs0, St bs0, .slice none 0 0] 73), S]) (fun _ _ h => h) gv ?_
 refine Run.loop (fun mm E L => ∃ i : Nat, mm = s.length - i ∧ i ≤ s.length ∧ E = [(0, .slice oa s.length cap), (2, St c), (6, .pointer (some ⟨b6, 0, none⟩)), (8, .pointer (some ⟨b8, 0, none⟩)), (9, I i)] ∧ L = [pt b8 (blk [St to, St c, I (wr (sumA (byC c (s.take i)))), I (wr (sumB (byC c (s.take i)))), St bs0, St bs0, .slice none 0 0] 73), pt b6 (blk [St bs0, St bs0, I 0, I 0, St bs0, St bs0, .slice none 0 0] 73), S]) ⟨_, 0, rfl, Nat.zero_le _, rfl, rfl⟩ ?_
 rintro _ _ _ ⟨i, rfl, hi, rfl, rfl⟩
 refine Run.seq ?_
 refine sr ?_
 refine sx 4 ?_
 refine kp [0, 2, 6, 8, 9, 16] rfl ?_
 first | refine Run.if rfl (fun h1 => ?_) (fun h1 => ?_) | refine Run.cond rfl (fun h1 => ?_) (fun h1 => ?_)
 refine Run.skip ?_
 refine Run.seq ?_
 refine Run.block ?_
 refine sr ?_
 obtain ⟨x, hx⟩ := get_ex (xs := s) (i := i) (by omega)
 refine RunL.rdOpen pk hR (flat_ne (k := 7) (fun _ => rfl) (by decide) hx) fun b o eb hrd => ?_
 subst eb
 refine sx 5 ?_
 refine RunL.op rfl rfl (OpJ.load1 inferInstance rfl pk (hrd.at (enc := Cl.c) 7 (fun _ => rfl) hx 2 (St x.k.cur) rfl) ?_)
 refine sx 2 ?_
 refine kp [0, 2, 6, 8, 9, 26] rfl ?_
 first | refine Run.if rfl (fun h2 => ?_) (fun h2 => ?_) | refine Run.cond rfl (fun h2 => ?_) (fun h2 => ?_)
 refine Run.seq ?_
 refine regionD HM ?_
 refine tk 0 rfl rfl rfl (DetJ.fieldAddr F73_2 rfl) ?_
 first | refine RunD.takeF 1 rfl rfl kr T3 rfl pk (by rfl) ?_ | refine RunD.takeO 1 rfl rfl kr T3 rfl pk (by assumption) (by rfl) (by exact fun _ => rfl) ?_
 refine tk 2 rfl rfl rfl (DetJ.move rfl) ?_
 refine tk 3 rfl rfl rfl (DetJ.move rfl) ?_
 refine tk 4 rfl rfl rfl (DetJ.indexAddr S32 rfl rfl (by omega)) ?_
 refine tk 5 rfl rfl rfl (DetJ.fieldAddr F63_1 rfl) ?_
 refine RunD.takeR1 6 rfl rfl kr T3 rfl pk (hrd.at (enc := Cl.c) 7 (fun _ => rfl) hx 5 (I x.amt) rfl) ?_
 first | refine tk 7 rfl rfl rfl (DetJ.addI rfl rfl (by omega)) ?_ | refine tk 7 rfl rfl rfl (DetJ.add rfl rfl) ?_
 refine tk 8 rfl rfl rfl (DetJ.fieldAddr F73_2 rfl) ?_
 refine RunD.op 9 [false, false, false, false, false, false, false, false, false] rfl rfl rfl kr kr (OpJ.store1 T3 rfl rfl rfl up (by simp) ⟨po, ?_⟩)
 refine kd [0, 2, 6, 8, 9] rfl ?_
 refine regionD HM ?_
 refine tk 0 rfl rfl rfl (DetJ.fieldAddr F73_3 rfl) ?_
 first | refine RunD.takeF 1 rfl rfl kr T3 rfl pk (by rfl) ?_ | refine RunD.takeO 1 rfl rfl kr T3 rfl pk (by assumption) (by rfl) (by exact fun _ => rfl) ?_
 refine tk 2 rfl rfl rfl (DetJ.move rfl) ?_
 refine tk 3 rfl rfl rfl (DetJ.move rfl) ?_
 refine tk 4 rfl rfl rfl (DetJ.indexAddr S32 rfl rfl (by omega)) ?_
 refine tk 5 rfl rfl rfl (DetJ.fieldAddr F63_2 rfl) ?_
 refine RunD.takeR1 6 rfl rfl kr T3 rfl pk (hrd.at (enc := Cl.c) 7 (fun _ => rfl) hx 6 (I x.base) rfl) ?_
 first | refine tk 7 rfl rfl rfl (DetJ.addI rfl rfl (by omega)) ?_ | refine tk 7 rfl rfl rfl (DetJ.add rfl rfl) ?_
 refine tk 8 rfl rfl rfl (DetJ.fieldAddr F73_3 rfl) ?_
 refine RunD.op 9 [false, false, false, false, false, false, false, false, false] rfl rfl rfl kr kr (OpJ.store1 T3 rfl rfl rfl up (by simp) ⟨po, ?_⟩)
 refine kd [0, 2, 6, 8, 9] rfl ?_
 refine Run.region ?_
 refine sx 3 ?_
 have hA : IntKind.i64.wrap (wr (sumA (byC c (s.take i))) + x.amt) = wr (sumA (byC c (s.take (i + 1)))) := wrA_step hx (by assumption)
 have hB : IntKind.i64.wrap (wr (sumB (byC c (s.take i))) + x.base) = wr (sumB (byC c (s.take (i + 1)))) := wrB_step hx (by assumption)
 rw [hA, hB]
 exact RunL.next (Keep.sub (kt (ks := [0, 2, 6, 8, 9]) rfl)) _ ⟨_, by omega, i + 1, rfl, by omega, rfl, rfl⟩ gv
 refine Run.skip ?_
 refine Run.region ?_
 refine sx 3 ?_
 have hsk := by_skip (c := c) hx (by assumption)
 rw [← hsk]
 exact RunL.next (Keep.sub (kt (ks := [0, 2, 6, 8, 9]) rfl)) _ ⟨_, by omega, i + 1, rfl, by omega, rfl, rfl⟩ gv
 refine Run.exit ?_
 refine Run.seq ?_
 refine regionD HM ?_
 obtain rfl : i = s.length := by omega
 rw [List.take_length]
 first | refine RunD.takeW 0 rfl rfl kr T73 rfl pk (by rfl) ?_ | refine RunD.takeP 0 rfl rfl kr T73 rfl pk (by simp) ?_ | refine RunD.takeE 0 rfl rfl kr T73 rfl pk (by assumption) (by exact fun _ => rfl) rfl (by decide) ?_
 refine tk 1 rfl rfl rfl (DetJ.fieldAddr F73_2 rfl) ?_
 first | refine RunD.takeF 2 rfl rfl kr T3 rfl pk (by rfl) ?_ | refine RunD.takeO 2 rfl rfl kr T3 rfl pk (by assumption) (by rfl) (by exact fun _ => rfl) ?_
 refine tk 3 rfl rfl rfl (DetJ.neq rfl rfl) ?_
 refine tk 4 rfl rfl rfl (DetJ.move rfl) ?_
 by_cases hA0 : wr (sumA (byC c s)) = 0
 refine RunD.set (congrArg Bo (decide_eq_false (fun h => h hA0))) ?_
 refine RunD.takeG 5 rfl rfl rfl rfl rfl kr (DetJ.fieldAddr F73_3 rfl) .nil ?_
 first | refine RunD.takeGF 6 rfl rfl rfl rfl kr T3 rfl pk (by rfl) ?_ | refine RunD.takeGO 6 rfl rfl rfl rfl kr T3 rfl pk (by assumption) (by rfl) (by exact fun _ => rfl) ?_
 refine RunD.takeG 7 rfl rfl rfl rfl rfl kr (DetJ.neq rfl rfl) .nil ?_
 refine tk 8 rfl rfl rfl (DetJ.pickF rfl rfl) ?_
 refine RunD.op 9 [true, true, true, true, false, false, false, true, false] rfl rfl rfl kr kr (OpJ.storeW T73 rfl rfl rfl rfl (by simp [Value.oneCell', Tg.c, Ln.c, En.c, Ac.c, Cl.c, Ky.c, Qy.c, Sb, Iv, Cs.c]) up ⟨po, ?_⟩)
 refine tk 10 rfl rfl rfl (DetJ.assign rfl) ?_
 refine kd [6, 7] rfl ?_
 refine Run.ret ?_
 exact ret_one (.cellA T73 rfl pk (by rfl) (.tmp rfl .nil)) (by unfold agB agL; simp_all; rfl) gv
 refine RunD.set (congrArg Bo (decide_eq_true hA0)) ?_
 refine RunD.takeN 5 rfl rfl rfl rfl rfl kr ?_
 refine RunD.takeN 6 rfl rfl rfl rfl rfl kr ?_
 refine RunD.takeN 7 rfl rfl rfl rfl rfl kr ?_
 refine tk 8 rfl rfl rfl (DetJ.pickT rfl rfl) ?_
 refine RunD.op 9 [true, true, true, true, false, false, false, true, false] rfl rfl rfl kr kr (OpJ.storeW T73 rfl rfl rfl rfl (by simp [Value.oneCell', Tg.c, Ln.c, En.c, Ac.c, Cl.c, Ky.c, Qy.c, Sb, Iv, Cs.c]) up ⟨po, ?_⟩)
 refine tk 10 rfl rfl rfl (DetJ.assign rfl) ?_
 refine kd [6, 7] rfl ?_
 refine Run.ret ?_
 exact ret_one (.cellA T73 rfl pk (by rfl) (.tmp rfl .nil)) (by unfold agB agL; simp_all; rfl) gv
theorem c_rEntry (R : HP) (xa : Option Addr) (xc : Nat) (xs : List Ac) (hxr : RdS R xa (xs.flatMap Ac.c)) (hxl : xs.length ≤ 140737488355328) (oa : Option Addr) (cap : Nat) (l : List En) (hR : RdS R oa (l.flatMap En.c)) (hrd : ∀ e ∈ l, e.rd R) (hz : ∀ e ∈ l, e.sz) (hl : l.length ≤ 1000) (first : Int) (ent : ByteArray) (year book : Int) (to who : ByteArray) (hze : szS ent) (hzt : szS to) (hzw : szS who) : AC Tryz.prog 17 ⟨[.slice xa xs.length xc, .agg ⟨[I first]⟩, .slice oa l.length cap, St ent, I year, I book, St to, St who]⟩ (stars [R]) (Outs (fun y : En => y.e = (entM xs first l ent year book to who).1) (fun y => .tuple ⟨[.agg ⟨y.c⟩, I (entM xs first l ent year book to who).2]⟩) (fun y => [own 73 7 y.la y.lines.length y.lc (y.lines.flatMap Ln.c), big (tagH 151) y.lines, R])) := by
 refine AC.go Tryz.func17 rfl (Nat.le_of_ble_eq_true rfl) fun β => ?_
 refine sr ?_
 refine RunL.op rfl rfl (OpJ.boxA rfl fun b9 => ?_)
 refine RunL.op rfl rfl (OpJ.alloc Z42 fun b16 => ?_)
 refine asg rfl rfl ?_
 refine kp [0, 2, 3, 4, 5, 6, 7, 9, 16] rfl ?_
 refine sr ?_
 refine sx 6 ?_
 refine RunL.callX C14 rfl rfl rfl (c_rResult R xa xc xs hxr hxl oa cap l hR hrd hz hl first ent year book) tks fun ⟨sa, sc⟩ _ => ?_
 refine sx 5 ?_
 refine kp [0, 3, 4, 5, 6, 7, 9, 16, 18, 19] rfl ?_
 refine Run.seq ?_
 refine sr ?_
 refine sx 2 ?_
 refine kp [0, 3, 4, 5, 6, 7, 9, 16, 18, 19, 44] rfl ?_
 first | refine Run.if rfl (fun h1 => ?_) (fun h1 => ?_) | refine Run.cond rfl (fun h1 => ?_) (fun h1 => ?_)
 refine sr ?_
 refine RunL.ownNil 73 7 ?_
 refine RunL.bigNil (tagH 151) ?_
 refine sx 2 ?_
 refine RunL.op rfl rfl (OpJ.storeW T42 rfl rfl rfl rfl (by simp [Value.oneCell', Tg.c, Ln.c, En.c, Ac.c, Cl.c, Ky.c, Qy.c, Sb, Iv, Cs.c]) up ?_)
 refine asg rfl rfl ?_
 refine kp [16, 17] rfl ?_
 refine Run.ret ?_
 have hE := ent_err (to := to) (who := who) (by simpa using h1)
 rw [hE]
 exact ret_out en0 (.cellA T42 rfl pk (by rfl) (.tmp rfl .nil)) rfl rfl gv
 refine Run.skip ?_
 refine sr ?_
 have he0 : (resM xs first l ent year book).2 = 0 := (by simpa using h1)
 obtain ⟨all, hro⟩ := res_ok2 he0
 obtain ⟨hlr, -, -⟩ := last_res he0
 have hrl : (resM xs first l ent year book).1.length ≤ 100000 := res_len hl
 refine sx 2 ?_
 refine RunL.call C37 rfl rfl rfl (c_rGet R _ _ xs hxr hxl to) tks ?_
 rcases hg : getL xs to with _ | a
 rw [lk_none hg]
 refine sx 3 ?_
 refine RunL.op rfl rfl (OpJ.alloc Z57 fun b20 => ?_)
 refine RunL.op rfl rfl (OpJ.storeW T57 rfl rfl rfl rfl (by simp [Value.oneCell', Tg.c, Ln.c, En.c, Ac.c, Cl.c, Ky.c, Qy.c, Sb, Iv, Cs.c]) up ?_)
 refine asg rfl rfl ?_
 refine kp [3, 4, 5, 6, 7, 9, 16, 18, 20, 21] rfl ?_
 refine Run.seq ?_
 refine sr ?_
 refine sx 12 ?_
 refine kp [3, 4, 5, 6, 7, 9, 16, 18, 64] rfl ?_
 refine Run.true rfl ?_
 refine sr ?_
 refine RunL.ownNil 73 7 ?_
 refine RunL.bigNil (tagH 151) ?_
 refine sx 1 ?_
 refine RunL.op rfl rfl (OpJ.storeW T42 rfl rfl rfl rfl (by simp [Value.oneCell', Tg.c, Ln.c, En.c, Ac.c, Cl.c, Ky.c, Qy.c, Sb, Iv, Cs.c]) up ?_)
 refine asg rfl rfl ?_
 refine kp [16, 17] rfl ?_
 refine Run.ret ?_
 have hE := ent_no (who := who) (by simpa using h1) hg
 rw [hE]
 exact ret_out en0 (.cellA T42 rfl pk (by rfl) (.tmp rfl .nil)) rfl rfl gv
 rw [lk_some hg]
 refine sx 3 ?_
 refine RunL.op rfl rfl (OpJ.alloc Z57 fun b20 => ?_)
 refine RunL.op rfl rfl (OpJ.storeW T57 rfl rfl rfl rfl (by simp [Value.oneCell', Tg.c, Ln.c, En.c, Ac.c, Cl.c, Ky.c, Qy.c, Sb, Iv, Cs.c]) up ?_)
 refine asg rfl rfl ?_
 refine kp [3, 4, 5, 6, 7, 9, 16, 18, 20, 21] rfl ?_
 refine Run.seq ?_
 refine sr ?_
 refine sx 8 ?_
 first | refine RunL.splitP (t := 60) rfl (fun g2 => ?_) (fun g2 => ?_) | refine RunL.split (t := 60) rfl (fun g2 => ?_) (fun g2 => ?_)
 refine sx 4 ?_
 refine kp [3, 4, 5, 6, 7, 9, 16, 18, 64] rfl ?_
 refine Run.true rfl ?_
 refine sr ?_
 refine RunL.ownNil 73 7 ?_
 refine RunL.bigNil (tagH 151) ?_
 refine sx 1 ?_
 refine RunL.op rfl rfl (OpJ.storeW T42 rfl rfl rfl rfl (by simp [Value.oneCell', Tg.c, Ln.c, En.c, Ac.c, Cl.c, Ky.c, Qy.c, Sb, Iv, Cs.c]) up ?_)
 refine asg rfl rfl ?_
 refine kp [16, 17] rfl ?_
 refine Run.ret ?_
 have hE := ent_bad (who := who) he0 hg (by have hq : a.post = false := (by simp_all [Ac.c]); rw [hq]; rfl)
 rw [hE]
 exact ret_out en0 (.cellA T42 rfl pk (by rfl) (.tmp rfl .nil)) rfl rfl gv
 refine sx 4 ?_
 refine kp [3, 4, 5, 6, 7, 9, 16, 18, 64] rfl ?_
 first | refine Run.if rfl (fun h3 => ?_) (fun h3 => ?_) | refine Run.cond rfl (fun h3 => ?_) (fun h3 => ?_)
 refine sr ?_
 refine RunL.ownNil 73 7 ?_
 refine RunL.bigNil (tagH 151) ?_
 refine sx 1 ?_
 refine RunL.op rfl rfl (OpJ.storeW T42 rfl rfl rfl rfl (by simp [Value.oneCell', Tg.c, Ln.c, En.c, Ac.c, Cl.c, Ky.c, Qy.c, Sb, Iv, Cs.c]) up ?_)
 refine asg rfl rfl ?_
 refine kp [16, 17] rfl ?_
 refine Run.ret ?_
 have hE := ent_bad (who := who) he0 hg (by have hq : ¬ a.kind = 3 := (by simp_all [Ac.c]); rw [decide_eq_false hq, Bool.and_false])
 rw [hE]
 exact ret_out en0 (.cellA T42 rfl pk (by rfl) (.tmp rfl .nil)) rfl rfl gv
 refine Run.skip ?_
 refine Run.seq ?_
 refine sr ?_
 refine sx 3 ?_
 refine kp [3, 4, 5, 6, 7, 9, 16, 18, 68] rfl ?_
 first | refine Run.if rfl (fun h4 => ?_) (fun h4 => ?_) | refine Run.cond rfl (fun h4 => ?_) (fun h4 => ?_)
 refine sr ?_
 refine RunL.ownNil 73 7 ?_
 refine RunL.bigNil (tagH 151) ?_
 refine sx 1 ?_
 refine RunL.op rfl rfl (OpJ.storeW T42 rfl rfl rfl rfl (by simp [Value.oneCell', Tg.c, Ln.c, En.c, Ac.c, Cl.c, Ky.c, Qy.c, Sb, Iv, Cs.c]) up ?_)
 refine asg rfl rfl ?_
 refine kp [16, 17] rfl ?_
 refine Run.ret ?_
 have hE := ent_nil (who := who) he0 hg ⟨by simp_all [Ac.c], by simp_all [Ac.c]⟩ (by omega)
 rw [hE]
 exact ret_out en0 (.cellA T42 rfl pk (by rfl) (.tmp rfl .nil)) rfl rfl gv
 refine Run.skip ?_
 refine sr ?_
 have hne : ¬ (resM xs first l ent year book).1.length = 0 := (by omega)
 refine sx 3 ?_
 refine RunL.call C35 rfl rfl rfl (c_r5Span first year 13) .nil ?_
 rw [hro.span]
 dsimp only
 refine sx 7 ?_
 refine kp [3, 5, 6, 7, 16, 18, 23] rfl ?_
 refine sr ?_
 refine sx 5 ?_
 refine RunL.op rfl rfl (OpJ.alloc Z42 fun b25 => ?_)
 refine RunL.op rfl rfl (OpJ.storeW T42 rfl rfl rfl rfl (by simp [Value.oneCell', Tg.c, Ln.c, En.c, Ac.c, Cl.c, Ky.c, Qy.c, Sb, Iv, Cs.c]) up ?_)
 refine kp [6, 16, 18, 25] rfl ?_
 refine Run.seq ?_
 refine sr ?_
 refine RunL.ownNil 73 7 ?_
 refine RunL.bigNil (tagH 151) ?_
 refine asg rfl rfl ?_
 refine kp [6, 16, 18, 25, 26] rfl ?_
 refine Run.block ?_
 refine Run.weak (L' := [pt b25 (blk [I 0, St ent, I book, I (lastF first year), I 4, St bs0, St who, I 0, .slice none ([] : List Ln).length 0] 42), own 73 7 none ([] : List Ln).length 0 (([] : List Ln).flatMap Ln.c), big (tagH 151) [], own 63 7 sa (resM xs first l ent year book).1.length sc ((resM xs first l ent year book).1.flatMap Cl.c), pt b16 (blk [I 0, St bs0, I 0, I 0, I 0, St bs0, St bs0, I 0, .slice none 0 0] 42), R]) (fun _ _ h => h) gv ?_
 refine Run.loop (fun mm E L => ∃ (i : Nat) (ls : List Ln) (la : Option Addr) (lc : Nat) (sa : Option Addr), mm = (resM xs first l ent year book).1.length - i ∧ i ≤ (resM xs first l ent year book).1.length ∧ ls.map Ln.e = ((resM xs first l ent year book).1.take i).map negL ∧ E = [(6, St to), (16, .pointer (some ⟨b16, 0, none⟩)), (18, .slice sa (resM xs first l ent year book).1.length sc), (25, .pointer (some ⟨b25, 0, none⟩)), (26, I i)] ∧ L = [pt b25 (blk [I 0, St ent, I book, I (lastF first year), I 4, St bs0, St who, I 0, .slice la ls.length lc] 42), own 73 7 la ls.length lc (ls.flatMap Ln.c), big (tagH 151) ls, own 63 7 sa (resM xs first l ent year book).1.length sc ((resM xs first l ent year book).1.flatMap Cl.c), pt b16 (blk [I 0, St bs0, I 0, I 0, I 0, St bs0, St bs0, I 0, .slice none 0 0] 42), R]) ⟨_, 0, [], none, 0, sa, rfl, Nat.zero_le _, rfl, rfl, rfl⟩ ?_
 rintro _ _ _ ⟨i, ls, la, lc, sa, rfl, hi, hls, rfl, rfl⟩
 refine Run.seq ?_
 refine sr ?_
 refine sx 4 ?_
 refine kp [6, 16, 18, 25, 26, 86] rfl ?_
 first | refine Run.if rfl (fun h5 => ?_) (fun h5 => ?_) | refine Run.cond rfl (fun h5 => ?_) (fun h5 => ?_)
 refine Run.skip ?_
 refine Run.seq ?_
 refine Run.block ?_
 refine sr ?_
 obtain ⟨x, hx⟩ := get_ex (xs := (resM xs first l ent year book).1) (i := i) (by omega)
 refine RunL.ownAddr (oa := sa) pk (flat_ne (k := 7) (fun _ => rfl) (by decide) hx) fun bq e1 hcap1 => ?_
 subst e1
 have hzx := res_ok x (List.mem_of_getElem? hx)
 have hll := tr_len hls
 rw [List.length_take] at hll
 refine sx 5 ?_
 refine RunL.op rfl rfl (OpJ.load1 inferInstance rfl pk (own.fld (enc := Cl.c) (k := 7) (j := 4) hx rfl (fun _ => rfl)) ?_)
 refine RunL.callX C40 rfl rfl rfl (c_rParse x.k.tags hzx.1) .nil fun ⟨ta, tc⟩ _ => ?_
 refine sx 5 ?_
 refine kp [6, 16, 18, 25, 26, 27] rfl ?_
 refine regionD HM ?_
 refine tk 0 rfl rfl rfl (DetJ.fieldAddr F42_8 rfl) ?_
 first | refine RunD.takeF 1 rfl rfl kr T40 rfl pk (by rfl) ?_ | refine RunD.takeO 1 rfl rfl kr T40 rfl pk (by assumption) (by rfl) (by exact fun _ => rfl) ?_
 refine tk 2 rfl rfl rfl (DetJ.move rfl) ?_
 refine tk 3 rfl rfl rfl (DetJ.move rfl) ?_
 refine tk 4 rfl rfl rfl (DetJ.indexAddr S32 rfl rfl (by omega)) ?_
 refine tk 5 rfl rfl rfl (DetJ.fieldAddr F63_0 rfl) ?_
 refine tk 6 rfl rfl rfl (DetJ.fieldAddr F61_1 rfl) ?_
 refine RunD.takeR1 7 rfl rfl kr T9 rfl pk (own.fld (enc := Cl.c) (k := 7) (j := 1) hx rfl (fun _ => rfl)) ?_
 refine tk 8 rfl rfl rfl (DetJ.move rfl) ?_
 refine tk 9 rfl rfl rfl (DetJ.move rfl) ?_
 refine tk 10 rfl rfl rfl (DetJ.indexAddr S32 rfl rfl (by omega)) ?_
 refine tk 11 rfl rfl rfl (DetJ.fieldAddr F63_0 rfl) ?_
 refine tk 12 rfl rfl rfl (DetJ.fieldAddr F61_2 rfl) ?_
 refine RunD.takeR1 13 rfl rfl kr T9 rfl pk (own.fld (enc := Cl.c) (k := 7) (j := 2) hx rfl (fun _ => rfl)) ?_
 refine tk 14 rfl rfl rfl (DetJ.move rfl) ?_
 refine tk 15 rfl rfl rfl (DetJ.move rfl) ?_
 refine tk 16 rfl rfl rfl (DetJ.indexAddr S32 rfl rfl (by omega)) ?_
 refine tk 17 rfl rfl rfl (DetJ.fieldAddr F63_0 rfl) ?_
 refine tk 18 rfl rfl rfl (DetJ.fieldAddr F61_3 rfl) ?_
 refine RunD.takeR1 19 rfl rfl kr T9 rfl pk (own.fld (enc := Cl.c) (k := 7) (j := 3) hx rfl (fun _ => rfl)) ?_
 refine tk 20 rfl rfl rfl (DetJ.move rfl) ?_
 refine tk 21 rfl rfl rfl (DetJ.move rfl) ?_
 refine tk 22 rfl rfl rfl (DetJ.move rfl) ?_
 refine tk 23 rfl rfl rfl (DetJ.indexAddr S32 rfl rfl (by omega)) ?_
 refine tk 24 rfl rfl rfl (DetJ.fieldAddr F63_1 rfl) ?_
 refine RunD.takeR1 25 rfl rfl kr T3 rfl pk (own.fld (enc := Cl.c) (k := 7) (j := 5) hx rfl (fun _ => rfl)) ?_
 refine tk 26 rfl rfl rfl (DetJ.neg rfl) ?_
 refine RunD.set (v := I (-x.amt)) (congrArg I (by rw [wrap_i64_in (by omega)]; omega)) ?_
 refine tk 27 rfl rfl rfl (DetJ.move rfl) ?_
 refine tk 28 rfl rfl rfl (DetJ.move rfl) ?_
 refine tk 29 rfl rfl rfl (DetJ.indexAddr S32 rfl rfl (by omega)) ?_
 refine tk 30 rfl rfl rfl (DetJ.fieldAddr F63_2 rfl) ?_
 refine RunD.takeR1 31 rfl rfl kr T3 rfl pk (own.fld (enc := Cl.c) (k := 7) (j := 6) hx rfl (fun _ => rfl)) ?_
 refine tk 32 rfl rfl rfl (DetJ.neg rfl) ?_
 refine RunD.set (v := I (-x.base)) (congrArg I (by rw [wrap_i64_in (by omega)]; omega)) ?_
 refine RunD.takeB 33 rfl rfl kr B73 rfl rfl fun cs hcs => ?_
 simp only [Tg.c, Ln.c, En.c, Ac.c, Cl.c, Ky.c, Qy.c, Cs.c, bldL, bldA, Value.cells, bs, Nat.reduceAdd, Nat.reduceLeDiff, Nat.reduceLT] at hcs; subst hcs
 refine RunD.op 34 [false, false, false, true, true, true, true, false, false, true, true, true, true, false, false, false, true, true, true, true, false, false, true, true, true, true, false, false, true, true, true, true, true, true] rfl rfl rfl kr kr (OpJ.buildSlice1 S40 rfl rfl rfl (by decide) (by decide) Z73 rfl fun b133 => ⟨po, ?_⟩)
 refine RunD.op 35 [true, true, true, true, true, true, true, true, true, true, true, true, true, true, true, true, true, true, true, true, false, false] rfl rfl rfl kr kr (OpJ.append1 (⟨x.k.acc, x.k.cur, -x.amt, -x.base, x.k.partner, bs0, ta, tc, (parseT x.k.tags).getD []⟩ : Ln) S40 M73 rfl rfl pk pk rfl rfl (by simp [Value.oneCell', Tg.c, Ln.c, En.c, Ac.c, Cl.c, Ky.c, Qy.c, Sb, Iv, Cs.c]) rfl (by omega) (by omega) fun a134 c134 => ⟨po, ?_⟩)
 refine tk 36 rfl rfl rfl (DetJ.fieldAddr F42_8 rfl) ?_
 refine RunD.op 37 [false, false, false, false, false, false, false, false, false, false, false, false, false, false, false, false, false, false, false, false, false] rfl rfl rfl kr kr (OpJ.store1 T40 rfl rfl rfl up (by simp) ⟨po, ?_⟩)
 refine kd [6, 16, 18, 25, 26] rfl ?_
 refine Run.region ?_
 refine RunL.bigApp (tagH 151) ls (⟨x.k.acc, x.k.cur, -x.amt, -x.base, x.k.partner, bs0, ta, tc, (parseT x.k.tags).getD []⟩ : Ln) pk pk ?_
 refine sx 3 ?_
 exact RunL.next (Keep.sub (kt (ks := [6, 16, 18, 25, 26]) rfl)) _ ⟨_, by omega, i + 1, ls ++ [(⟨x.k.acc, x.k.cur, -x.amt, -x.base, x.k.partner, bs0, ta, tc, (parseT x.k.tags).getD []⟩ : Ln)], a134, c134, _, rfl, by omega, (by rw [take_step hx, List.map_append, List.map_append, hls]; rfl), rfl, rfl⟩ gv
 refine Run.exit ?_
 refine sr ?_
 obtain rfl : i = (resM xs first l ent year book).1.length := by omega
 rw [List.take_length] at hls
 have hcl : (curS (resM xs first l ent year book).1).length ≤ (resM xs first l ent year book).1.length := cur_len
 refine mvo rfl rfl ?_
 refine RunL.callX C41 rfl rfl rfl (c_23curs (own 63 7 sa (resM xs first l ent year book).1.length sc ((resM xs first l ent year book).1.flatMap Cl.c)) sa sc (resM xs first l ent year book).1 own.rds hrl) tks fun ⟨ka, kc⟩ _ => ?_
 refine asg rfl rfl ?_
 refine kp [6, 16, 18, 25, 29] rfl ?_
 refine Run.seq ?_
 refine sr ?_
 refine asg rfl rfl ?_
 refine kp [6, 16, 18, 25, 29, 30] rfl ?_
 refine Run.block ?_
 refine Run.weak (L' := [pt b25 (blk [I 0, St ent, I book, I (lastF first year), I 4, St bs0, St who, I 0, .slice la ls.length lc] 42), own 73 7 la ls.length lc (ls.flatMap Ln.c), big (tagH 151) ls, own 9 1 ka (curS (resM xs first l ent year book).1).length kc ((curS (resM xs first l ent year book).1).flatMap Sb), own 63 7 sa (resM xs first l ent year book).1.length sc ((resM xs first l ent year book).1.flatMap Cl.c), pt b16 (blk [I 0, St bs0, I 0, I 0, I 0, St bs0, St bs0, I 0, .slice none 0 0] 42), R]) (fun _ _ h => h) gv ?_
 refine Run.loop (fun mm E L => ∃ (i : Nat) (ls : List Ln) (la : Option Addr) (lc : Nat) (ka : Option Addr), mm = (curS (resM xs first l ent year book).1).length - i ∧ i ≤ (curS (resM xs first l ent year book).1).length ∧ ls.map Ln.e = (resM xs first l ent year book).1.map negL ++ ((curS (resM xs first l ent year book).1).take i).filterMap (againstW (resM xs first l ent year book).1 to) ∧ E = [(6, St to), (16, .pointer (some ⟨b16, 0, none⟩)), (18, .slice sa (resM xs first l ent year book).1.length sc), (25, .pointer (some ⟨b25, 0, none⟩)), (29, .slice ka (curS (resM xs first l ent year book).1).length kc), (30, I i)] ∧ L = [pt b25 (blk [I 0, St ent, I book, I (lastF first year), I 4, St bs0, St who, I 0, .slice la ls.length lc] 42), own 73 7 la ls.length lc (ls.flatMap Ln.c), big (tagH 151) ls, own 9 1 ka (curS (resM xs first l ent year book).1).length kc ((curS (resM xs first l ent year book).1).flatMap Sb), own 63 7 sa (resM xs first l ent year book).1.length sc ((resM xs first l ent year book).1.flatMap Cl.c), pt b16 (blk [I 0, St bs0, I 0, I 0, I 0, St bs0, St bs0, I 0, .slice none 0 0] 42), R]) ⟨_, 0, ls, la, lc, ka, rfl, Nat.zero_le _, (by rw [hls]; simp), rfl, rfl⟩ ?_
 rintro _ _ _ ⟨i, ls, la, lc, ka, rfl, hi, hlw, rfl, rfl⟩
 refine Run.seq ?_
 refine sr ?_
 refine sx 4 ?_
 refine kp [6, 16, 18, 25, 29, 30, 141] rfl ?_
 first | refine Run.if rfl (fun h6 => ?_) (fun h6 => ?_) | refine Run.cond rfl (fun h6 => ?_) (fun h6 => ?_)
 refine Run.skip ?_
 refine Run.seq ?_
 refine Run.block ?_
 refine sr ?_
 obtain ⟨c, hc⟩ := get_ex (xs := curS (resM xs first l ent year book).1) (i := i) (by omega)
 refine RunL.ownAddr (oa := ka) pk (flat_ne (k := 1) (fun _ => rfl) (by decide) hc) fun bq e1 hcap1 => ?_
 subst e1
 have hll := trw_len hlw
 refine sx 5 ?_
 refine RunL.op rfl rfl (OpJ.load1 inferInstance rfl pk (own.el (enc := Sb) hc (by decide) (fun _ => rfl)) ?_)
 refine RunL.call C42 rfl rfl rfl (c_against (own 63 7 sa (resM xs first l ent year book).1.length sc ((resM xs first l ent year book).1.flatMap Cl.c)) sa sc (resM xs first l ent year book).1 own.rds hrl to c) tks ?_
 refine sx 3 ?_
 refine RunL.op rfl rfl (OpJ.alloc Z73 fun b31 => ?_)
 refine RunL.op rfl rfl (OpJ.storeW T73 rfl rfl rfl rfl (by simp [Value.oneCell', Tg.c, Ln.c, En.c, Ac.c, Cl.c, Ky.c, Qy.c, Sb, Iv, Cs.c]) up ?_)
 refine asg rfl rfl ?_
 refine kp [6, 16, 18, 25, 29, 30, 31, 32] rfl ?_
 refine sr ?_
 refine mvo rfl rfl ?_
 refine kp [6, 16, 18, 25, 29, 30, 31, 154] rfl ?_
 first | refine Run.if rfl (fun h7 => ?_) (fun h7 => ?_) | refine Run.cond rfl (fun h7 => ?_) (fun h7 => ?_)
 refine Run.region ?_
 refine sx 3 ?_
 refine RunL.op rfl rfl (OpJ.buildSlice1 S40 rfl rfl rfl (by decide) (by decide) Z73 rfl fun b158 => ?_)
 refine RunL.op rfl rfl (OpJ.append1 (⟨to, c, wr (sumA (byC c (resM xs first l ent year book).1)), wr (sumB (byC c (resM xs first l ent year book).1)), bs0, bs0, none, 0, []⟩ : Ln) S40 M73 rfl rfl pk pk rfl rfl (by simp [Value.oneCell', Tg.c, Ln.c, En.c, Ac.c, Cl.c, Ky.c, Qy.c, Sb, Iv, Cs.c]) rfl (by omega) (by omega) fun a159 c159 => ?_)
 refine RunL.ownNil 151 2 ?_
 refine RunL.bigApp (tagH 151) ls (⟨to, c, wr (sumA (byC c (resM xs first l ent year book).1)), wr (sumB (byC c (resM xs first l ent year book).1)), bs0, bs0, none, 0, []⟩ : Ln) pk pk ?_
 refine sx 2 ?_
 refine kp [6, 16, 18, 25, 29, 30] rfl ?_
 refine Run.region ?_
 refine sx 3 ?_
 have hag := ag_yes (to := to) ‹agB (resM xs first l ent year book).1 c = true›
 exact RunL.next (Keep.sub (kt (ks := [6, 16, 18, 25, 29, 30]) rfl)) _ ⟨_, by omega, i + 1, ls ++ [(⟨to, c, wr (sumA (byC c (resM xs first l ent year book).1)), wr (sumB (byC c (resM xs first l ent year book).1)), bs0, bs0, none, 0, []⟩ : Ln)], a159, c159, _, rfl, by omega, (by rw [ag_step hc, hag, List.map_append, hlw, List.append_assoc]; rfl), rfl, rfl⟩ gv
 refine Run.skip ?_
 refine Run.region ?_
 refine sx 3 ?_
 have hag := ag_no (to := to) ‹agB (resM xs first l ent year book).1 c = false›
 exact RunL.next (Keep.sub (kt (ks := [6, 16, 18, 25, 29, 30]) rfl)) _ ⟨_, by omega, i + 1, ls, la, lc, _, rfl, by omega, (by rw [ag_step hc, hag, hlw]; simp), rfl, rfl⟩ gv
 refine Run.exit ?_
 refine sr ?_
 have hls : ls.map Ln.e = transW (resM xs first l ent year book).1 to := (by rw [hlw, List.take_of_length_le (by omega)]; rfl)
 refine sx 1 ?_
 refine RunL.packs [own 73 7 la ls.length lc (ls.flatMap Ln.c), big (tagH 151) ls, R] tks ?_
 refine RunL.call C43 rfl rfl rfl (c_r12Check (⟨0, ent, book, lastF first year, 4, bs0, who, 0, la, lc, ls⟩ : En) (stars [own 73 7 la ls.length lc (ls.flatMap Ln.c), big (tagH 151) ls, R]) (en_rd hls res_ok) ⟨hze, by show szS bs0; decide, hzw, tr_sz hls hzt res_from⟩) tks ?_
 refine RunL.unstar (As := [own 73 7 la ls.length lc (ls.flatMap Ln.c), big (tagH 151) ls, R]) pk ?_
 refine sx 4 ?_
 refine kp [16, 19, 25] rfl ?_
 refine Run.seq ?_
 refine sr ?_
 refine sx 2 ?_
 refine kp [16, 19, 25, 167] rfl ?_
 first | refine Run.if rfl (fun h8 => ?_) (fun h8 => ?_) | refine Run.cond rfl (fun h8 => ?_) (fun h8 => ?_)
 refine sr ?_
 refine RunL.ownNil 73 7 ?_
 refine RunL.bigNil (tagH 151) ?_
 refine sx 2 ?_
 refine RunL.op rfl rfl (OpJ.storeW T42 rfl rfl rfl rfl (by simp [Value.oneCell', Tg.c, Ln.c, En.c, Ac.c, Cl.c, Ky.c, Qy.c, Sb, Iv, Cs.c]) up ?_)
 refine asg rfl rfl ?_
 refine kp [16, 17] rfl ?_
 refine Run.ret ?_
 have hE := ent_fin (who := who) (la := la) (lc := lc) he0 hg ⟨by simp_all [Ac.c], by simp_all [Ac.c]⟩ hne hls res_ok
 rw [hlr] at hE
 rw [if_neg (by assumption)] at hE
 rw [hE]
 exact ret_out en0 (.cellA T42 rfl pk (by rfl) (.tmp rfl .nil)) rfl rfl gv
 refine Run.skip ?_
 refine sr ?_
 refine sx 1 ?_
 refine RunL.op rfl rfl (OpJ.storeW T42 rfl rfl rfl rfl (by simp [Value.oneCell', Tg.c, Ln.c, En.c, Ac.c, Cl.c, Ky.c, Qy.c, Sb, Iv, Cs.c]) up ?_)
 refine asg rfl rfl ?_
 refine kp [16, 17] rfl ?_
 refine Run.ret ?_
 have hE := ent_fin (who := who) (la := la) (lc := lc) he0 hg ⟨by simp_all [Ac.c], by simp_all [Ac.c]⟩ hne hls res_ok
 rw [hlr] at hE
 rw [if_pos (by simp_all)] at hE
 rw [hE]
 exact ret_out (⟨0, ent, book, lastF first year, 4, bs0, who, 0, la, lc, ls⟩ : En) (.cellA T42 rfl pk (by rfl) (.tmp rfl .nil)) rfl rfl gv
theorem c_r9Same (A B : HP) (oa ob : Option Addr) (ca cb : Nat) (ts : List Tg) (hA : RdS A oa (ts.flatMap Tg.c)) (hB : RdS B ob (ts.flatMap Tg.c)) (hl : ts.length ≤ 140737488355328) : AC Tryz.prog 168 ⟨[.slice oa ts.length ca, .slice ob ts.length cb]⟩ (stars [A, B]) (Ret (Bo true) [A, B]) := by
 refine AC.go Tryz.func168 rfl (Nat.le_of_ble_eq_true rfl) fun β => ?_
 refine sr ?_
 refine asg rfl rfl ?_
 refine kp [0, 1] rfl ?_
 refine Run.seq ?_
 refine sr ?_
 refine sx 5 ?_
 refine RunL.set (congrArg Bo (decide_eq_false (fun h => h rfl))) ?_
 refine kp [0, 1, 10] rfl ?_
 refine Run.false rfl ?_
 refine Run.skip ?_
 refine Run.seq ?_
 refine sr ?_
 refine asg rfl rfl ?_
 refine kp [0, 1, 5] rfl ?_
 refine Run.block ?_
 refine Run.loop (fun mm E L => ∃ i : Nat, mm = ts.length - i ∧ i ≤ ts.length ∧ E = [(0, .slice oa ts.length ca), (1, .slice ob ts.length cb), (5, I i)] ∧ L = [A, B]) ⟨_, 0, rfl, Nat.zero_le _, rfl, rfl⟩ ?_
 rintro _ _ _ ⟨i, rfl, hi, rfl, rfl⟩
 refine Run.seq ?_
 refine sr ?_
 refine sx 4 ?_
 refine kp [0, 1, 5, 14] rfl ?_
 first | refine Run.if rfl (fun h1 => ?_) (fun h1 => ?_) | refine Run.cond rfl (fun h1 => ?_) (fun h1 => ?_)
 refine Run.skip ?_
 refine Run.seq ?_
 refine Run.block ?_
 refine Run.seq ?_
 refine regionD HM ?_
 obtain ⟨t, ht⟩ := get_ex (xs := ts) (i := i) (by omega)
 refine RunD.rdOpen pk hA (flat_ne (k := 2) (fun _ => rfl) (by decide) ht) fun b o eb hra => ?_
 subst eb
 refine RunD.rdOpen pk hB (flat_ne (k := 2) (fun _ => rfl) (by decide) ht) fun b2 o2 eb2 hrb => ?_
 subst eb2
 refine tk 0 rfl rfl rfl (DetJ.move rfl) ?_
 refine tk 1 rfl rfl rfl (DetJ.move rfl) ?_
 refine tk 2 rfl rfl rfl (DetJ.indexAddr S71 rfl rfl (by omega)) ?_
 refine RunD.takeR 3 rfl rfl kr T151 rfl pk (hra.elem (enc := Tg.c) (fun _ => rfl) ht) rfl ?_
 refine tk 4 rfl rfl rfl (DetJ.move rfl) ?_
 refine tk 5 rfl rfl rfl (DetJ.move rfl) ?_
 refine tk 6 rfl rfl rfl (DetJ.indexAddr S71 rfl rfl (by omega)) ?_
 refine RunD.takeR 7 rfl rfl kr T151 rfl pk (hrb.elem (enc := Tg.c) (fun _ => rfl) ht) rfl ?_
 refine tk 8 rfl rfl rfl (DetJ.neqA EI151 rfl rfl (by rfl)) ?_
 refine RunD.set (v := Bo false) (by simp) ?_
 refine kd [0, 1, 5, 25] rfl ?_
 refine Run.false rfl ?_
 refine Run.skip ?_
 refine Run.region ?_
 refine sx 3 ?_
 exact RunL.next (Keep.sub (kt (ks := [0, 1, 5]) rfl)) _ ⟨_, by omega, i + 1, rfl, by omega, rfl, rfl⟩ gv
 refine Run.exit ?_
 refine sr ?_
 refine asg rfl rfl ?_
 refine kp [4] rfl ?_
 refine Run.ret ?_
 exact ret_one (.tmp rfl .nil) (rfl) gv
theorem c_r12alike (A B : HP) (x y : Ln) (h : x.e = y.e) (hA : RdS A x.ta (x.tags.flatMap Tg.c)) (hB : RdS B y.ta (y.tags.flatMap Tg.c)) (hl : x.tags.length ≤ 140737488355328) : AC Tryz.prog 141 ⟨[.agg ⟨x.c⟩, .agg ⟨y.c⟩]⟩ (stars [A, B]) (Ret (Bo true) [A, B]) := by
 obtain ⟨a1, c1, m1, n1, p1, q1, ta, tc, ts⟩ := x
 obtain ⟨a2, c2, m2, n2, p2, q2, tb, td, us⟩ := y
 simp only [Ln.e, Ln.mk.injEq, and_true, true_and] at h
 obtain ⟨rfl, rfl, rfl, rfl, rfl, rfl, rfl⟩ := h
 refine AC.go Tryz.func141 rfl (Nat.le_of_ble_eq_true rfl) fun β => ?_
 refine sr ?_
 refine RunL.op rfl rfl (OpJ.boxA rfl fun b2 => ?_)
 refine RunL.op rfl rfl (OpJ.boxA rfl fun b3 => ?_)
 refine asg rfl rfl ?_
 refine kp [2, 3] rfl ?_
 refine sr ?_
 refine RunL.op rfl rfl (OpJ.fieldAddr F73_0 rfl ?_)
 first | refine RunL.op rfl rfl (OpJ.loadF T9 rfl pk (by rfl) ?_) | refine RunL.op rfl rfl (OpJ.loadO T9 rfl pk (by assumption) (by rfl) (by exact fun _ => rfl) ?_)
 refine RunL.op rfl rfl (OpJ.fieldAddr F73_0 rfl ?_)
 first | refine RunL.op rfl rfl (OpJ.loadF T9 rfl pk (by rfl) ?_) | refine RunL.op rfl rfl (OpJ.loadO T9 rfl pk (by assumption) (by rfl) (by exact fun _ => rfl) ?_)
 refine RunL.op rfl rfl (OpJ.eqlS rfl rfl ?_)
 refine RunL.set (congrArg Bo (decide_eq_true rfl)) ?_
 refine mvo rfl rfl ?_
 refine RunL.yes rfl rfl rfl rfl (OpJ.fieldAddr F73_1 rfl ?_)
 first | refine RunL.yes rfl rfl rfl rfl (OpJ.loadF T9 rfl pk (by rfl) ?_) | refine RunL.yes rfl rfl rfl rfl (OpJ.loadO T9 rfl pk (by assumption) (by rfl) (by exact fun _ => rfl) ?_)
 refine RunL.yes rfl rfl rfl rfl (OpJ.fieldAddr F73_1 rfl ?_)
 first | refine RunL.yes rfl rfl rfl rfl (OpJ.loadF T9 rfl pk (by rfl) ?_) | refine RunL.yes rfl rfl rfl rfl (OpJ.loadO T9 rfl pk (by assumption) (by rfl) (by exact fun _ => rfl) ?_)
 refine RunL.yes rfl rfl rfl rfl (OpJ.eqlS rfl rfl ?_)
 refine RunL.set (congrArg Bo (decide_eq_true rfl)) ?_
 refine RunL.op rfl rfl (OpJ.pickT rfl rfl ?_)
 refine mvo rfl rfl ?_
 refine RunL.yes rfl rfl rfl rfl (OpJ.fieldAddr F73_4 rfl ?_)
 first | refine RunL.yes rfl rfl rfl rfl (OpJ.loadF T9 rfl pk (by rfl) ?_) | refine RunL.yes rfl rfl rfl rfl (OpJ.loadO T9 rfl pk (by assumption) (by rfl) (by exact fun _ => rfl) ?_)
 refine RunL.yes rfl rfl rfl rfl (OpJ.fieldAddr F73_4 rfl ?_)
 first | refine RunL.yes rfl rfl rfl rfl (OpJ.loadF T9 rfl pk (by rfl) ?_) | refine RunL.yes rfl rfl rfl rfl (OpJ.loadO T9 rfl pk (by assumption) (by rfl) (by exact fun _ => rfl) ?_)
 refine RunL.yes rfl rfl rfl rfl (OpJ.eqlS rfl rfl ?_)
 refine RunL.set (congrArg Bo (decide_eq_true rfl)) ?_
 refine RunL.op rfl rfl (OpJ.pickT rfl rfl ?_)
 refine mvo rfl rfl ?_
 refine RunL.yes rfl rfl rfl rfl (OpJ.fieldAddr F73_5 rfl ?_)
 first | refine RunL.yes rfl rfl rfl rfl (OpJ.loadF T9 rfl pk (by rfl) ?_) | refine RunL.yes rfl rfl rfl rfl (OpJ.loadO T9 rfl pk (by assumption) (by rfl) (by exact fun _ => rfl) ?_)
 refine RunL.yes rfl rfl rfl rfl (OpJ.fieldAddr F73_5 rfl ?_)
 first | refine RunL.yes rfl rfl rfl rfl (OpJ.loadF T9 rfl pk (by rfl) ?_) | refine RunL.yes rfl rfl rfl rfl (OpJ.loadO T9 rfl pk (by assumption) (by rfl) (by exact fun _ => rfl) ?_)
 refine RunL.yes rfl rfl rfl rfl (OpJ.eqlS rfl rfl ?_)
 refine RunL.set (congrArg Bo (decide_eq_true rfl)) ?_
 refine RunL.op rfl rfl (OpJ.pickT rfl rfl ?_)
 refine mvo rfl rfl ?_
 refine RunL.yes rfl rfl rfl rfl (OpJ.fieldAddr F73_6 rfl ?_)
 first | refine RunL.yes rfl rfl rfl rfl (OpJ.loadF T71 rfl pk (by rfl) ?_) | refine RunL.yes rfl rfl rfl rfl (OpJ.loadO T71 rfl pk (by assumption) (by rfl) (by exact fun _ => rfl) ?_)
 refine RunL.yes rfl rfl rfl rfl (OpJ.fieldAddr F73_6 rfl ?_)
 first | refine RunL.yes rfl rfl rfl rfl (OpJ.loadF T71 rfl pk (by rfl) ?_) | refine RunL.yes rfl rfl rfl rfl (OpJ.loadO T71 rfl pk (by assumption) (by rfl) (by exact fun _ => rfl) ?_)
 refine RunL.callG C168 rfl rfl rfl rfl rfl (c_r9Same A B _ _ _ _ ts hA hB hl) tks ?_
 refine RunL.op rfl rfl (OpJ.pickT rfl rfl ?_)
 refine asg rfl rfl ?_
 refine kp [4] rfl ?_
 refine Run.ret ?_
 exact ret_one (.tmp rfl .nil) (rfl) gv
theorem c_r12line (A B : HP) (x y : Ln) (h : x.e = y.e) (hA : RdS A x.ta (x.tags.flatMap Tg.c)) (hB : RdS B y.ta (y.tags.flatMap Tg.c)) (hl : x.tags.length ≤ 140737488355328) : AC Tryz.prog 88 ⟨[.agg ⟨x.c⟩, .agg ⟨y.c⟩]⟩ (stars [A, B]) (Ret (Bo true) [A, B]) := by
 have h0 := c_r12alike A B x y h hA hB hl
 obtain ⟨a1, c1, m1, n1, p1, q1, ta, tc, ts⟩ := x
 obtain ⟨a2, c2, m2, n2, p2, q2, tb, td, us⟩ := y
 simp only [Ln.e, Ln.mk.injEq, and_true, true_and] at h
 obtain ⟨rfl, rfl, rfl, rfl, rfl, rfl, rfl⟩ := h
 refine AC.go Tryz.func88 rfl (Nat.le_of_ble_eq_true rfl) fun β => ?_
 refine sr ?_
 refine RunL.op rfl rfl (OpJ.boxA rfl fun b2 => ?_)
 refine RunL.op rfl rfl (OpJ.boxA rfl fun b3 => ?_)
 refine asg rfl rfl ?_
 refine kp [2, 3] rfl ?_
 refine sr ?_
 first | refine RunL.op rfl rfl (OpJ.loadW T73 rfl pk (by rfl) ?_) | refine RunL.op rfl rfl (OpJ.loadP T73 rfl pk (by simp) ?_) | refine RunL.op rfl rfl (OpJ.loadE T73 rfl pk (by assumption) (by exact fun _ => rfl) rfl (by decide) ?_)
 first | refine RunL.op rfl rfl (OpJ.loadW T73 rfl pk (by rfl) ?_) | refine RunL.op rfl rfl (OpJ.loadP T73 rfl pk (by simp) ?_) | refine RunL.op rfl rfl (OpJ.loadE T73 rfl pk (by assumption) (by exact fun _ => rfl) rfl (by decide) ?_)
 refine RunL.call C141 rfl rfl rfl h0 tks ?_
 refine mvo rfl rfl ?_
 refine RunL.yes rfl rfl rfl rfl (OpJ.fieldAddr F73_2 rfl ?_)
 first | refine RunL.yes rfl rfl rfl rfl (OpJ.loadF T3 rfl pk (by rfl) ?_) | refine RunL.yes rfl rfl rfl rfl (OpJ.loadO T3 rfl pk (by assumption) (by rfl) (by exact fun _ => rfl) ?_)
 refine RunL.yes rfl rfl rfl rfl (OpJ.fieldAddr F73_2 rfl ?_)
 first | refine RunL.yes rfl rfl rfl rfl (OpJ.loadF T3 rfl pk (by rfl) ?_) | refine RunL.yes rfl rfl rfl rfl (OpJ.loadO T3 rfl pk (by assumption) (by rfl) (by exact fun _ => rfl) ?_)
 refine RunL.yes rfl rfl rfl rfl (OpJ.eql rfl rfl ?_)
 refine RunL.set (congrArg Bo (decide_eq_true rfl)) ?_
 refine RunL.op rfl rfl (OpJ.pickT rfl rfl ?_)
 refine mvo rfl rfl ?_
 refine RunL.yes rfl rfl rfl rfl (OpJ.fieldAddr F73_3 rfl ?_)
 first | refine RunL.yes rfl rfl rfl rfl (OpJ.loadF T3 rfl pk (by rfl) ?_) | refine RunL.yes rfl rfl rfl rfl (OpJ.loadO T3 rfl pk (by assumption) (by rfl) (by exact fun _ => rfl) ?_)
 refine RunL.yes rfl rfl rfl rfl (OpJ.fieldAddr F73_3 rfl ?_)
 first | refine RunL.yes rfl rfl rfl rfl (OpJ.loadF T3 rfl pk (by rfl) ?_) | refine RunL.yes rfl rfl rfl rfl (OpJ.loadO T3 rfl pk (by assumption) (by rfl) (by exact fun _ => rfl) ?_)
 refine RunL.yes rfl rfl rfl rfl (OpJ.eql rfl rfl ?_)
 refine RunL.set (congrArg Bo (decide_eq_true rfl)) ?_
 refine RunL.op rfl rfl (OpJ.pickT rfl rfl ?_)
 refine asg rfl rfl ?_
 refine kp [4] rfl ?_
 refine Run.ret ?_
 exact ret_one (.tmp rfl .nil) (rfl) gv
theorem c_r12lines (A B : HP) (oa ob : Option Addr) (ca cb : Nat) (xs ys : List Ln) (h : xs.map Ln.e = ys.map Ln.e) (hA : RdS A oa (xs.flatMap Ln.c)) (hB : RdS B ob (ys.flatMap Ln.c)) (hA2 : ∀ x ∈ xs, RdS A x.ta (x.tags.flatMap Tg.c)) (hB2 : ∀ y ∈ ys, RdS B y.ta (y.tags.flatMap Tg.c)) (hl : xs.length ≤ 140737488355328) (ht : ∀ x ∈ xs, x.tags.length ≤ 140737488355328) : AC Tryz.prog 44 ⟨[.slice oa xs.length ca, .slice ob ys.length cb]⟩ (stars [A, B]) (Ret (Bo true) [A, B]) := by
 have hxy := map_e_len h
 refine AC.go Tryz.func44 rfl (Nat.le_of_ble_eq_true rfl) fun β => ?_
 refine sr ?_
 refine asg rfl rfl ?_
 refine kp [0, 1] rfl ?_
 refine Run.seq ?_
 refine sr ?_
 refine sx 5 ?_
 refine RunL.set (congrArg Bo (decide_eq_false (fun hq => hq (by omega)))) ?_
 refine kp [0, 1, 10] rfl ?_
 refine Run.false rfl ?_
 refine Run.skip ?_
 refine Run.seq ?_
 refine sr ?_
 refine asg rfl rfl ?_
 refine kp [0, 1, 5] rfl ?_
 refine Run.block ?_
 refine Run.loop (fun mm E L => ∃ i : Nat, mm = xs.length - i ∧ i ≤ xs.length ∧ E = [(0, .slice oa xs.length ca), (1, .slice ob ys.length cb), (5, I i)] ∧ L = [A, B]) ⟨_, 0, rfl, Nat.zero_le _, rfl, rfl⟩ ?_
 rintro _ _ _ ⟨i, rfl, hi, rfl, rfl⟩
 refine Run.seq ?_
 refine sr ?_
 refine sx 4 ?_
 refine kp [0, 1, 5, 14] rfl ?_
 first | refine Run.if rfl (fun h1 => ?_) (fun h1 => ?_) | refine Run.cond rfl (fun h1 => ?_) (fun h1 => ?_)
 refine Run.skip ?_
 refine Run.seq ?_
 refine Run.block ?_
 refine Run.seq ?_
 refine regionD HM ?_
 obtain ⟨x, hx⟩ := get_ex (xs := xs) (i := i) (by omega)
 obtain ⟨y, hy⟩ := get_ex (xs := ys) (i := i) (by omega)
 have hxm := List.mem_of_getElem? hx
 have hym := List.mem_of_getElem? hy
 refine RunD.rdOpen pk hA (flat_ne (k := 7) (fun _ => rfl) (by decide) hx) fun b o eb hra => ?_
 subst eb
 refine RunD.rdOpen pk hB (flat_ne (k := 7) (fun _ => rfl) (by decide) hy) fun b2 o2 eb2 hrb => ?_
 subst eb2
 refine tk 0 rfl rfl rfl (DetJ.move rfl) ?_
 refine tk 1 rfl rfl rfl (DetJ.move rfl) ?_
 refine tk 2 rfl rfl rfl (DetJ.indexAddr S40 rfl rfl (by omega)) ?_
 refine RunD.takeR 3 rfl rfl kr T73 rfl pk (hra.elem (enc := Ln.c) (fun _ => rfl) hx) rfl ?_
 refine tk 4 rfl rfl rfl (DetJ.move rfl) ?_
 refine tk 5 rfl rfl rfl (DetJ.move rfl) ?_
 refine tk 6 rfl rfl rfl (DetJ.indexAddr S40 rfl rfl (by omega)) ?_
 refine RunD.takeR 7 rfl rfl kr T73 rfl pk (hrb.elem (enc := Ln.c) (fun _ => rfl) hy) rfl ?_
 refine RunD.op 8 [false, false, false, false, false, false, false, false] rfl rfl rfl kr kr (OpJ.callRet C88 rfl rfl (c_r12line A B x y (map_e_get h hx hy) (hA2 x hxm) (hB2 y hym) (ht x hxm)) tks ⟨po, ?_⟩)
 refine tk 9 rfl rfl rfl (DetJ.not rfl) ?_
 refine kd [0, 1, 5, 26] rfl ?_
 refine Run.false rfl ?_
 refine Run.skip ?_
 refine Run.region ?_
 refine sx 3 ?_
 exact RunL.next (Keep.sub (kt (ks := [0, 1, 5]) rfl)) _ ⟨_, by omega, i + 1, rfl, by omega, rfl, rfl⟩ gv
 refine Run.exit ?_
 refine sr ?_
 refine asg rfl rfl ?_
 refine kp [4] rfl ?_
 refine Run.ret ?_
 exact ret_one (.tmp rfl .nil) (rfl) gv
theorem c_r12Same (A B : HP) (x y : En) (h : x.e = y.e) (hA : RdS A x.la (x.lines.flatMap Ln.c)) (hB : RdS B y.la (y.lines.flatMap Ln.c)) (hA2 : ∀ z ∈ x.lines, RdS A z.ta (z.tags.flatMap Tg.c)) (hB2 : ∀ z ∈ y.lines, RdS B z.ta (z.tags.flatMap Tg.c)) (hl : x.lines.length ≤ 140737488355328) (ht : ∀ z ∈ x.lines, z.tags.length ≤ 140737488355328) : AC Tryz.prog 18 ⟨[.agg ⟨x.c⟩, .agg ⟨y.c⟩]⟩ (stars [A, B]) (Ret (Bo true) [A, B]) := by
 obtain ⟨n1, e1, k1, v1, d1, r1, w1, q1, la, lc, ls⟩ := x
 obtain ⟨n2, e2, k2, v2, d2, r2, w2, q2, lb, ld, ms⟩ := y
 simp only [En.e, En.mk.injEq, and_true, true_and] at h
 obtain ⟨rfl, rfl, rfl, rfl, rfl, rfl, rfl, rfl, h⟩ := h
 refine AC.go Tryz.func18 rfl (Nat.le_of_ble_eq_true rfl) fun β => ?_
 refine sr ?_
 refine RunL.op rfl rfl (OpJ.boxA rfl fun b2 => ?_)
 refine RunL.op rfl rfl (OpJ.boxA rfl fun b3 => ?_)
 refine asg rfl rfl ?_
 refine kp [2, 3] rfl ?_
 refine sr ?_
 refine RunL.op rfl rfl (OpJ.fieldAddr F42_0 rfl ?_)
 first | refine RunL.op rfl rfl (OpJ.loadF T3 rfl pk (by rfl) ?_) | refine RunL.op rfl rfl (OpJ.loadO T3 rfl pk (by assumption) (by rfl) (by exact fun _ => rfl) ?_)
 refine RunL.op rfl rfl (OpJ.fieldAddr F42_0 rfl ?_)
 first | refine RunL.op rfl rfl (OpJ.loadF T3 rfl pk (by rfl) ?_) | refine RunL.op rfl rfl (OpJ.loadO T3 rfl pk (by assumption) (by rfl) (by exact fun _ => rfl) ?_)
 refine RunL.op rfl rfl (OpJ.eql rfl rfl ?_)
 refine RunL.set (congrArg Bo (decide_eq_true rfl)) ?_
 refine mvo rfl rfl ?_
 refine RunL.yes rfl rfl rfl rfl (OpJ.fieldAddr F42_1 rfl ?_)
 first | refine RunL.yes rfl rfl rfl rfl (OpJ.loadF T9 rfl pk (by rfl) ?_) | refine RunL.yes rfl rfl rfl rfl (OpJ.loadO T9 rfl pk (by assumption) (by rfl) (by exact fun _ => rfl) ?_)
 refine RunL.yes rfl rfl rfl rfl (OpJ.fieldAddr F42_1 rfl ?_)
 first | refine RunL.yes rfl rfl rfl rfl (OpJ.loadF T9 rfl pk (by rfl) ?_) | refine RunL.yes rfl rfl rfl rfl (OpJ.loadO T9 rfl pk (by assumption) (by rfl) (by exact fun _ => rfl) ?_)
 refine RunL.yes rfl rfl rfl rfl (OpJ.eqlS rfl rfl ?_)
 refine RunL.set (congrArg Bo (decide_eq_true rfl)) ?_
 refine RunL.op rfl rfl (OpJ.pickT rfl rfl ?_)
 refine mvo rfl rfl ?_
 refine RunL.yes rfl rfl rfl rfl (OpJ.fieldAddr F42_2 rfl ?_)
 first | refine RunL.yes rfl rfl rfl rfl (OpJ.loadF T3 rfl pk (by rfl) ?_) | refine RunL.yes rfl rfl rfl rfl (OpJ.loadO T3 rfl pk (by assumption) (by rfl) (by exact fun _ => rfl) ?_)
 refine RunL.yes rfl rfl rfl rfl (OpJ.fieldAddr F42_2 rfl ?_)
 first | refine RunL.yes rfl rfl rfl rfl (OpJ.loadF T3 rfl pk (by rfl) ?_) | refine RunL.yes rfl rfl rfl rfl (OpJ.loadO T3 rfl pk (by assumption) (by rfl) (by exact fun _ => rfl) ?_)
 refine RunL.yes rfl rfl rfl rfl (OpJ.eql rfl rfl ?_)
 refine RunL.set (congrArg Bo (decide_eq_true rfl)) ?_
 refine RunL.op rfl rfl (OpJ.pickT rfl rfl ?_)
 refine mvo rfl rfl ?_
 refine RunL.yes rfl rfl rfl rfl (OpJ.fieldAddr F42_3 rfl ?_)
 first | refine RunL.yes rfl rfl rfl rfl (OpJ.loadF T3 rfl pk (by rfl) ?_) | refine RunL.yes rfl rfl rfl rfl (OpJ.loadO T3 rfl pk (by assumption) (by rfl) (by exact fun _ => rfl) ?_)
 refine RunL.yes rfl rfl rfl rfl (OpJ.fieldAddr F42_3 rfl ?_)
 first | refine RunL.yes rfl rfl rfl rfl (OpJ.loadF T3 rfl pk (by rfl) ?_) | refine RunL.yes rfl rfl rfl rfl (OpJ.loadO T3 rfl pk (by assumption) (by rfl) (by exact fun _ => rfl) ?_)
 refine RunL.yes rfl rfl rfl rfl (OpJ.eql rfl rfl ?_)
 refine RunL.set (congrArg Bo (decide_eq_true rfl)) ?_
 refine RunL.op rfl rfl (OpJ.pickT rfl rfl ?_)
 refine mvo rfl rfl ?_
 refine RunL.yes rfl rfl rfl rfl (OpJ.fieldAddr F42_4 rfl ?_)
 first | refine RunL.yes rfl rfl rfl rfl (OpJ.loadF T3 rfl pk (by rfl) ?_) | refine RunL.yes rfl rfl rfl rfl (OpJ.loadO T3 rfl pk (by assumption) (by rfl) (by exact fun _ => rfl) ?_)
 refine RunL.yes rfl rfl rfl rfl (OpJ.fieldAddr F42_4 rfl ?_)
 first | refine RunL.yes rfl rfl rfl rfl (OpJ.loadF T3 rfl pk (by rfl) ?_) | refine RunL.yes rfl rfl rfl rfl (OpJ.loadO T3 rfl pk (by assumption) (by rfl) (by exact fun _ => rfl) ?_)
 refine RunL.yes rfl rfl rfl rfl (OpJ.eql rfl rfl ?_)
 refine RunL.set (congrArg Bo (decide_eq_true rfl)) ?_
 refine RunL.op rfl rfl (OpJ.pickT rfl rfl ?_)
 refine mvo rfl rfl ?_
 refine RunL.yes rfl rfl rfl rfl (OpJ.fieldAddr F42_5 rfl ?_)
 first | refine RunL.yes rfl rfl rfl rfl (OpJ.loadF T9 rfl pk (by rfl) ?_) | refine RunL.yes rfl rfl rfl rfl (OpJ.loadO T9 rfl pk (by assumption) (by rfl) (by exact fun _ => rfl) ?_)
 refine RunL.yes rfl rfl rfl rfl (OpJ.fieldAddr F42_5 rfl ?_)
 first | refine RunL.yes rfl rfl rfl rfl (OpJ.loadF T9 rfl pk (by rfl) ?_) | refine RunL.yes rfl rfl rfl rfl (OpJ.loadO T9 rfl pk (by assumption) (by rfl) (by exact fun _ => rfl) ?_)
 refine RunL.yes rfl rfl rfl rfl (OpJ.eqlS rfl rfl ?_)
 refine RunL.set (congrArg Bo (decide_eq_true rfl)) ?_
 refine RunL.op rfl rfl (OpJ.pickT rfl rfl ?_)
 refine mvo rfl rfl ?_
 refine RunL.yes rfl rfl rfl rfl (OpJ.fieldAddr F42_6 rfl ?_)
 first | refine RunL.yes rfl rfl rfl rfl (OpJ.loadF T9 rfl pk (by rfl) ?_) | refine RunL.yes rfl rfl rfl rfl (OpJ.loadO T9 rfl pk (by assumption) (by rfl) (by exact fun _ => rfl) ?_)
 refine RunL.yes rfl rfl rfl rfl (OpJ.fieldAddr F42_6 rfl ?_)
 first | refine RunL.yes rfl rfl rfl rfl (OpJ.loadF T9 rfl pk (by rfl) ?_) | refine RunL.yes rfl rfl rfl rfl (OpJ.loadO T9 rfl pk (by assumption) (by rfl) (by exact fun _ => rfl) ?_)
 refine RunL.yes rfl rfl rfl rfl (OpJ.eqlS rfl rfl ?_)
 refine RunL.set (congrArg Bo (decide_eq_true rfl)) ?_
 refine RunL.op rfl rfl (OpJ.pickT rfl rfl ?_)
 refine mvo rfl rfl ?_
 refine RunL.yes rfl rfl rfl rfl (OpJ.fieldAddr F42_7 rfl ?_)
 first | refine RunL.yes rfl rfl rfl rfl (OpJ.loadF T3 rfl pk (by rfl) ?_) | refine RunL.yes rfl rfl rfl rfl (OpJ.loadO T3 rfl pk (by assumption) (by rfl) (by exact fun _ => rfl) ?_)
 refine RunL.yes rfl rfl rfl rfl (OpJ.fieldAddr F42_7 rfl ?_)
 first | refine RunL.yes rfl rfl rfl rfl (OpJ.loadF T3 rfl pk (by rfl) ?_) | refine RunL.yes rfl rfl rfl rfl (OpJ.loadO T3 rfl pk (by assumption) (by rfl) (by exact fun _ => rfl) ?_)
 refine RunL.yes rfl rfl rfl rfl (OpJ.eql rfl rfl ?_)
 refine RunL.set (congrArg Bo (decide_eq_true rfl)) ?_
 refine RunL.op rfl rfl (OpJ.pickT rfl rfl ?_)
 refine mvo rfl rfl ?_
 refine RunL.yes rfl rfl rfl rfl (OpJ.fieldAddr F42_8 rfl ?_)
 first | refine RunL.yes rfl rfl rfl rfl (OpJ.loadF T40 rfl pk (by rfl) ?_) | refine RunL.yes rfl rfl rfl rfl (OpJ.loadO T40 rfl pk (by assumption) (by rfl) (by exact fun _ => rfl) ?_)
 refine RunL.yes rfl rfl rfl rfl (OpJ.fieldAddr F42_8 rfl ?_)
 first | refine RunL.yes rfl rfl rfl rfl (OpJ.loadF T40 rfl pk (by rfl) ?_) | refine RunL.yes rfl rfl rfl rfl (OpJ.loadO T40 rfl pk (by assumption) (by rfl) (by exact fun _ => rfl) ?_)
 refine RunL.callG C44 rfl rfl rfl rfl rfl (c_r12lines A B _ _ _ _ ls ms h hA hB hA2 hB2 hl ht) tks ?_
 refine RunL.op rfl rfl (OpJ.pickT rfl rfl ?_)
 refine asg rfl rfl ?_
 refine kp [4] rfl ?_
 refine Run.ret ?_
 exact ret_one (.tmp rfl .nil) (rfl) gv
theorem c_lawEntry (R : HP) (x : Cs) (m0 : Int) (hR0 : Rd R ⟨0, 0, none⟩ lensC) (hM : Rd R ⟨1, 0, none⟩ [I m0]) (hx : x.rd R) : AC Tryz.prog 4 ⟨[.agg ⟨x.c⟩]⟩ (stars [R]) (Ret (Bo true) [R]) := by
 have hx2 := hx
 obtain ⟨hxr, hxe, hxl, hlr, hle, hls, hll, hiy, hib, hzw⟩ := hx
 refine AC.go Tryz.func4 rfl (Nat.le_of_ble_eq_true rfl) fun β => ?_
 refine sr ?_
 refine RunL.op rfl rfl (OpJ.boxA rfl fun b1 => ?_)
 refine asg rfl rfl ?_
 refine kp [1] rfl ?_
 refine sr ?_
 refine sx 1 ?_
 refine RunL.callX C11 rfl rfl rfl (c_whole x R hx2) tks fun ⟨o, ok⟩ ⟨ho, hfew, hok⟩ => ?_
 dsimp only at ho hfew hok
 refine sx 5 ?_
 refine kp [1, 3, 4] rfl ?_
 refine Run.seq ?_
 refine sr ?_
 refine sx 2 ?_
 refine kp [1, 3, 15] rfl ?_
 first | refine Run.if rfl (fun h1 => ?_) (fun h1 => ?_) | refine Run.cond rfl (fun h1 => ?_) (fun h1 => ?_)
 refine sr ?_
 refine RunL.call C12 rfl rfl rfl (c_lives R m0 hR0 hM) tks ?_
 refine asg rfl rfl ?_
 refine kp [2] rfl ?_
 refine Run.ret ?_
 exact ret_one (.tmp rfl .nil) (rfl) gv
 refine Run.skip ?_
 refine sr ?_
 have hk : ok = true := (by simpa using h1)
 have hse : o.isSome = true := hok hk
 have hr2 := entX_some hse x.xs x.first x.l x.ent x.year x.book x.to x.who
 have hs0 := hfew hse
 refine sx 2 ?_
 refine RunL.op rfl rfl (OpJ.loadP inferInstance rfl pk (by simp [Cs.c]) ?_)
 refine sx 12 ?_
 refine RunL.callX C16 rfl rfl rfl (c_EntO o x.xs ho R _ _ x.l hR0 hlr (fun e he => (hle e he).1) (fun h => by have := (hfew h).l; omega) x.first x.ent x.year x.book x.to x.who m0 hM) tks fun y hye => ?_
 have hye2 : y.e = (entM x.xs x.first x.l x.ent x.year x.book x.to x.who).1 := (by rw [hye, hr2])
 obtain ⟨hyl, hyt⟩ := ent_fin_sz hye2
 rw [hr2]
 refine sx 3 ?_
 refine RunL.op rfl rfl (OpJ.alloc Z42 fun b5 => ?_)
 refine RunL.op rfl rfl (OpJ.storeW T42 rfl rfl rfl rfl (by simp [Value.oneCell', Tg.c, Ln.c, En.c, Ac.c, Cl.c, Ky.c, Qy.c, Sb, Iv, Cs.c]) up ?_)
 refine asg rfl rfl ?_
 refine kp [1, 5, 6] rfl ?_
 refine sr ?_
 refine sx 3 ?_
 refine RunL.op rfl rfl (OpJ.loadP inferInstance rfl pk (by simp [Cs.c]) ?_)
 refine sx 12 ?_
 refine RunL.callX C17 rfl rfl rfl (c_rEntry R _ _ x.xs hxr hxl _ _ x.l hlr (fun e he => (hle e he).1) hls (by have := hs0.l; omega) x.first x.ent x.year x.book x.to x.who hzw.1 hzw.2.1 hzw.2.2) tks fun y2 hy2 => ?_
 refine sx 3 ?_
 refine RunL.op rfl rfl (OpJ.alloc Z42 fun b7 => ?_)
 refine RunL.op rfl rfl (OpJ.storeW T42 rfl rfl rfl rfl (by simp [Value.oneCell', Tg.c, Ln.c, En.c, Ac.c, Cl.c, Ky.c, Qy.c, Sb, Iv, Cs.c]) up ?_)
 refine asg rfl rfl ?_
 refine kp [5, 6, 7, 8] rfl ?_
 refine sr ?_
 refine sx 3 ?_
 refine RunL.set (congrArg Bo (decide_eq_true rfl)) ?_
 refine mvo rfl rfl ?_
 refine RunL.packs [own 73 7 y.la y.lines.length y.lc (y.lines.flatMap Ln.c), big (tagH 151) y.lines] tks ?_
 refine RunL.packs [own 73 7 y2.la y2.lines.length y2.lc (y2.lines.flatMap Ln.c), big (tagH 151) y2.lines] tks ?_
 refine sx 2 ?_
 refine RunL.callG C18 rfl rfl rfl rfl rfl (c_r12Same (stars [own 73 7 y.la y.lines.length y.lc (y.lines.flatMap Ln.c), big (tagH 151) y.lines]) (stars [own 73 7 y2.la y2.lines.length y2.lc (y2.lines.flatMap Ln.c), big (tagH 151) y2.lines]) y y2 (hye2.trans hy2.symm) (RdS.inl own.rds) (RdS.inl own.rds) (fun z hz => RdS.inr (RdS.inl (big_rds (f := tagH 151) hz own.rds))) (fun z hz => RdS.inr (RdS.inl (big_rds (f := tagH 151) hz own.rds))) hyl hyt) tks ?_
 refine sx 2 ?_
 refine RunL.callG C12 rfl rfl rfl rfl rfl (c_lives R m0 hR0 hM) tks ?_
 refine sx 2 ?_
 refine kp [2] rfl ?_
 refine Run.ret ?_
 exact ret_one (.tmp rfl .nil) (rfl) gv
end
end Go.Proofs.YtglaahpagjjmoaaGreatDoor

namespace Go.Proofs.YtglaahpagjjmoaaGreatDoor
open Go Go.SL Go.ChangeShapes Go.WideShapes Go.ChangeAt Go.WideElems Go.RowKit Go.Deep
def whole (W : World) : HP := fun h => h = fun b => W.heap[b]?
section
variable {H : Type} {enc : TypeId × Value → H} {W : World} {held : Bool}
abbrev Sz (t : TypeId) (d : DataW H) : Prop := ∀ n ∈ d.weights Tryz.prog t, n ≤ reachBytes
theorem i64_of {n : Int} (h : (Lit.int .i64 n).wf = true) : i64 n := by
  have h1 : IntKind.i64.min = -9223372036854775808 := by rfl
  have h2 : IntKind.i64.max = 9223372036854775807 := by rfl
  simp only [Lit.wf, Bool.and_eq_true, decide_eq_true_eq] at h
  rw [h1, h2] at h
  exact h
theorem cof3 : Tryz.prog.cellsOf 3 = 1 := by kernel_rfl
theorem cof9 : Tryz.prog.cellsOf 9 = 1 := by kernel_rfl
theorem cof4 : Tryz.prog.cellsOf 4 = 1 := by kernel_rfl
theorem cof151 : Tryz.prog.cellsOf 151 = 2 := by kernel_rfl
theorem cof73 : Tryz.prog.cellsOf 73 = 7 := by kernel_rfl
theorem cof42 : Tryz.prog.cellsOf 42 = 9 := by kernel_rfl
theorem cof57 : Tryz.prog.cellsOf 57 = 8 := by kernel_rfl
theorem cof24 : Tryz.prog.cellsOf 24 = 1 := by kernel_rfl
theorem cof27 : Tryz.prog.cellsOf 27 = 8 := by kernel_rfl
theorem cof71 : Tryz.prog.cellsOf 71 = 1 := by kernel_rfl
theorem cof40 : Tryz.prog.cellsOf 40 = 1 := by kernel_rfl
theorem cof25 : Tryz.prog.cellsOf 25 = 1 := by kernel_rfl
theorem cof22 : Tryz.prog.cellsOf 22 = 1 := by kernel_rfl
theorem cof55 : Tryz.prog.cellsOf 55 = 1 := by kernel_rfl
theorem int_at {fuel : Nat} {cs : List Value} {x : DataW H × List MemPlace} (h : DataW.trod enc Tryz.prog W 0 (fun _ => true) held fuel 3 cs = some x) : ∃ n, cs = [I n] ∧ i64 n := by
  obtain ⟨n, h1, _, h2⟩ := DataW.trod_int Tryz.underlying3 h
  exact ⟨n, h1, i64_of h2⟩
theorem bool_at {fuel : Nat} {cs : List Value} {x : DataW H × List MemPlace} (h : DataW.trod enc Tryz.prog W 0 (fun _ => true) held fuel 4 cs = some x) : ∃ b, cs = [Bo b] := by
  obtain ⟨b, h1, _⟩ := DataW.trod_bool Tryz.underlying4 h
  exact ⟨b, h1⟩
theorem str_at {fuel : Nat} {cs : List Value} {x : DataW H × List MemPlace} (h : DataW.trod enc Tryz.prog W 0 (fun _ => true) held fuel 9 cs = some x) : ∃ s, cs = [St s] ∧ (s.size : Int) ≤ 9223372036854775807 := by
  obtain ⟨s, h1, _, hs⟩ := DataW.trod_string Tryz.underlying9 h
  have hmax : (maxLen : Nat) ≤ 9223372036854775807 := by decide
  exact ⟨s, h1, by omega⟩
theorem name_at {fuel : Nat} {cs : List Value} {x : DataW H × List MemPlace} (h : DataW.trod enc Tryz.prog W 0 (fun _ => true) held fuel 9 cs = some x) (_ : Sz 9 x.1) : ∃ s, cs = Sb s ∧ szS s := by
  obtain ⟨s, h1, h2⟩ := str_at h
  exact ⟨s, h1, h2⟩
theorem cal_of {fuel : Nat} {cs : List Value} {x : DataW H × List MemPlace} (h : DataW.trod enc Tryz.prog W 0 (fun _ => true) held fuel 24 cs = some x) (_ : Sz 24 x.1) : ∃ n : Int, cs = [I n] := by
  obtain ⟨xs, n, _, _, hl, hxl, hf⟩ := DataW.trod_struct Tryz.underlying24 h
  rw [cof24] at hl
  have f0 : DataW.trod enc Tryz.prog W 0 (fun _ => true) held n 3 ((cs.drop 0).take (Tryz.prog.cellsOf 3)) = xs[0]? := hf 0 _ rfl
  rw [cof3] at f0
  have hsz : xs.length = 1 := hxl
  obtain ⟨y0, e0⟩ : ∃ y, xs[0]? = some y := ⟨_, List.getElem?_eq_getElem (by omega)⟩
  obtain ⟨n0, h0, _⟩ := int_at (f0.trans e0)
  match cs, hl with
  | [c0], _ =>
    simp at h0
    exact ⟨n0, by rw [h0]⟩
theorem weightsAll_mem {P : Program} {e : TypeId} {n : Nat} : ∀ {ds : List (DataW H)} {d : DataW H}, d ∈ ds → n ∈ d.weights P e → n ∈ DataW.weightsAll P e ds
  | [], _, h, _ => by cases h
  | c :: r, d, h, hn => by
    simp only [DataW.weightsAll, List.mem_append]
    rcases List.mem_cons.1 h with rfl | h
    · exact .inl hn
    · exact .inr (weightsAll_mem h hn)
theorem fld {t : TypeId} {fs : Array Field} (U : Tryz.prog.underlying t = some (.struct fs)) {fuel : Nat} {cs : List Value} {x : DataW H × List MemPlace} (h : DataW.trod enc Tryz.prog W 0 (fun _ => true) held fuel t cs = some x) (hz : Sz t x.1) :
    ∃ n, cs.length = Tryz.prog.cellsOf t ∧ ∀ (i : Nat) (f : Field), fs[i]? = some f → ∃ y, DataW.trod enc Tryz.prog W 0 (fun _ => true) held n f.type ((cs.drop f.offset).take (Tryz.prog.cellsOf f.type)) = some y ∧ Sz f.type y.1 := by
  obtain ⟨xs, n, _, rfl, hl, hxl, hf⟩ := DataW.trod_struct U h
  refine ⟨n, hl, fun i f hi => ?_⟩
  have hil := (Array.getElem?_eq_some_iff.1 hi).1
  obtain ⟨y, hy⟩ : ∃ y, xs[i]? = some y := ⟨_, List.getElem?_eq_getElem (by omega)⟩
  refine ⟨y, (hf i f hi).trans hy, fun k hk => hz k ?_⟩
  simp only [DataW.weights, U]
  exact DataW.weights_mem_each (j := i) (t := f.type) (d := y.1) (by rw [List.getElem?_map, Array.getElem?_toList, hi]; rfl) (by rw [List.getElem?_map, hy]; rfl) k hk
theorem add_add' (a : Addr) (x y : Nat) : (a.add x).add y = a.add (x + y) := by
  unfold Addr.add
  by_cases hx : x = 0
  · subst hx; simp
  · by_cases hy : y = 0
    · subst hy; simp
    · have : x + y ≠ 0 := by omega
      simp [hx, hy, Nat.add_assoc]
theorem cells_at {a : Addr} {n : Nat} {cs : List Value} (h : W.cells? 0 a n = some cs) : ∀ j v, cs[j]? = some v → W.cell? (a.add j) = some v := fun j v hj => by
  unfold World.cells? at h
  rw [if_pos (Nat.zero_le _)] at h
  have hl := mapM_some_length h
  have hjl := (List.getElem?_eq_some_iff.1 hj).1
  rw [List.length_range] at hl
  have := mapM_some_get h j j (List.getElem?_range (by omega))
  rw [this]; exact hj
theorem whole_rds {a : Addr} {cs : List Value} (h : ∀ j v, cs[j]? = some v → W.cell? (a.add j) = some v) : RdS (whole W) (some a) cs := by
  cases cs with
  | nil => exact RdS.nil
  | cons v0 r =>
    have c0 := h 0 v0 rfl
    obtain ⟨b, o, spot⟩ := a
    have hspot : spot = none := by
      unfold World.cell? at c0
      split at c0
      · split at c0
        · cases c0
        · rename_i hs
          cases spot with
          | none => rfl
          | some s => simp [Addr.add] at hs
      · cases c0
    subst hspot
    have c0' := c0
    unfold World.cell? at c0'
    rw [show ((⟨b, o, none⟩ : Addr).add 0).block = b by rw [Addr.add_eq rfl]] at c0'
    split at c0'
    · rename_i c t fr hh
      intro hp hr
      refine .inr ⟨b, o, rfl, c, t, fr, by rw [hr]; exact hh, fun j v hj => ?_⟩
      have := h j v hj
      rw [Addr.add_eq rfl] at this
      simpa only [World.cell?, hh, Option.isSome_none, Bool.false_eq_true, if_false] using this
    · cases c0'
theorem slice_of {α : Type} {ec : α → List Value} {k : Nat} {Pα : α → Prop} {T ET : TypeId} (U : Tryz.prog.underlying T = some (.slice ET)) (ck : Tryz.prog.cellsOf ET = k) (hk : ∀ x, (ec x).length = k) (k0 : 0 < k) (bb : 1 ≤ Tryz.prog.bytesOf ET)
    (hr : ∀ {fuel : Nat} {cs : List Value} {x : DataW H × List MemPlace}, DataW.trod enc Tryz.prog W 0 (fun _ => true) held fuel ET cs = some x → Sz ET x.1 → ∃ m : α, cs = ec m ∧ Pα m)
    {fuel : Nat} {cs : List Value} {x : DataW H × List MemPlace} (h : DataW.trod enc Tryz.prog W 0 (fun _ => true) held fuel T cs = some x) (hz : Sz T x.1) :
    ∃ (oa : Option Addr) (cap : Nat) (ms : List α), cs = [.slice oa ms.length cap] ∧ (∀ m ∈ ms, Pα m) ∧ ms.length ≤ 140737488355328 ∧ RdS (whole W) oa (ms.flatMap ec) := by
  rcases open_slice U h with ⟨rfl, _⟩ | ⟨a, len, cap, m, n, D, Pl, rfl, _, hlc, hcm, hm, rfl, hel⟩
  · exact ⟨none, 0, [], rfl, (fun m hm => by cases hm), Nat.zero_le _, RdS.nil⟩
  · simp only [if_true] at hm
    subst hm
    have hw : ∀ i, i < len → Sz ET (D i) := fun i hi k hk => hz k (by
      simp only [DataW.weights, U, List.mem_cons, List.mem_append]
      exact .inr (.inl (weightsAll_mem (List.mem_map_of_mem (List.mem_range.2 hi)) hk)))
    have hlen : len ≤ 140737488355328 := by
      have h1 := hz ((((List.range len).map D).length + ((List.range (m - len)).map fun j => D (len + j)).length) * Tryz.prog.bytesOf ET) (by simp only [DataW.weights, U, List.mem_cons, true_or])
      rw [List.length_map, List.length_map, List.length_range, List.length_range] at h1
      have h2 := reachBytes_lt
      have h3 : (len + (m - len)) * 1 ≤ (len + (m - len)) * Tryz.prog.bytesOf ET := Nat.mul_le_mul_left _ bb
      omega
    have key : ∀ i : Fin len, ∃ mv : α, W.cells? 0 (a.add (i * k)) k = some (ec mv) ∧ Pα mv := fun i => by
      obtain ⟨cs', hc, ht⟩ := hel i (by omega)
      rw [ck] at hc
      obtain ⟨mv, rfl, hp⟩ := hr ht (hw i i.2)
      exact ⟨mv, hc, hp⟩
    let f : Fin len → α := fun i => Classical.choose (key i)
    have hfs : ∀ i : Fin len, W.cells? 0 (a.add (i * k)) k = some (ec (f i)) ∧ Pα (f i) := fun i => Classical.choose_spec (key i)
    refine ⟨some a, m, List.ofFn f, by rw [List.length_ofFn], fun mv hmv => ?_, by rw [List.length_ofFn]; exact hlen, whole_rds fun j v hj => ?_⟩
    · obtain ⟨i, rfl⟩ := List.mem_ofFn.1 hmv
      exact (hfs i).2
    · have hjl := (List.getElem?_eq_some_iff.1 hj).1
      rw [flat_len (enc := ec) (k := k) hk, List.length_ofFn] at hjl
      have hi : j / k < len := Nat.div_lt_of_lt_mul (by rw [Nat.mul_comm]; exact hjl)
      have hx : (List.ofFn f)[j / k]? = some (f ⟨j / k, hi⟩) := by rw [List.getElem?_ofFn]; simp [hi]
      have hmod : j % k < k := Nat.mod_lt _ k0
      obtain ⟨v', hv'⟩ : ∃ v', (ec (f ⟨j / k, hi⟩))[j % k]? = some v' := ⟨_, List.getElem?_eq_getElem (by rw [hk]; exact hmod)⟩
      have := flat_get (enc := ec) (k := k) hk _ _ _ hx _ _ hv'
      have hdm : j / k * k + j % k = j := by rw [Nat.mul_comm]; exact Nat.div_add_mod j k
      rw [hdm, hj] at this
      cases this
      have hc := cells_at (hfs ⟨j / k, hi⟩).1 _ _ hv'
      rw [← hc]
      show _ = W.cell? ((a.add (j / k * k)).add (j % k))
      rw [add_add', hdm]
theorem tag_of {fuel : Nat} {cs : List Value} {x : DataW H × List MemPlace} (h : DataW.trod enc Tryz.prog W 0 (fun _ => true) held fuel 151 cs = some x) (hz : Sz 151 x.1) : ∃ m : Tg, cs = m.c ∧ szS m.name ∧ szS m.value := by
  obtain ⟨n, hl, hf⟩ := fld Tryz.underlying151 h hz
  rw [cof151] at hl
  have f0 : ∃ y, DataW.trod enc Tryz.prog W 0 (fun _ => true) held n 9 ((cs.drop 0).take (Tryz.prog.cellsOf 9)) = some y ∧ Sz 9 y.1 := hf 0 _ rfl
  rw [cof9] at f0
  obtain ⟨y0, e0, z0⟩ := f0
  obtain ⟨v0, h0, w0⟩ := str_at e0
  have f1 : ∃ y, DataW.trod enc Tryz.prog W 0 (fun _ => true) held n 9 ((cs.drop 1).take (Tryz.prog.cellsOf 9)) = some y ∧ Sz 9 y.1 := hf 1 _ rfl
  rw [cof9] at f1
  obtain ⟨y1, e1, z1⟩ := f1
  obtain ⟨v1, h1, w1⟩ := str_at e1
  clear hf
  match cs, hl with
  | [c0, c1], _ =>
    simp at h0 h1
    subst h0 h1
    exact ⟨⟨v0, v1⟩, rfl, w0, w1⟩
theorem line_of {fuel : Nat} {cs : List Value} {x : DataW H × List MemPlace} (h : DataW.trod enc Tryz.prog W 0 (fun _ => true) held fuel 73 cs = some x) (hz : Sz 73 x.1) : ∃ m : Ln, cs = m.c ∧ m.rd (whole W) ∧ m.sz := by
  obtain ⟨n, hl, hf⟩ := fld Tryz.underlying73 h hz
  rw [cof73] at hl
  have f0 : ∃ y, DataW.trod enc Tryz.prog W 0 (fun _ => true) held n 9 ((cs.drop 0).take (Tryz.prog.cellsOf 9)) = some y ∧ Sz 9 y.1 := hf 0 _ rfl
  rw [cof9] at f0
  obtain ⟨y0, e0, z0⟩ := f0
  obtain ⟨v0, h0, w0⟩ := str_at e0
  have f1 : ∃ y, DataW.trod enc Tryz.prog W 0 (fun _ => true) held n 9 ((cs.drop 1).take (Tryz.prog.cellsOf 9)) = some y ∧ Sz 9 y.1 := hf 1 _ rfl
  rw [cof9] at f1
  obtain ⟨y1, e1, z1⟩ := f1
  obtain ⟨v1, h1, w1⟩ := str_at e1
  have f2 : ∃ y, DataW.trod enc Tryz.prog W 0 (fun _ => true) held n 3 ((cs.drop 2).take (Tryz.prog.cellsOf 3)) = some y ∧ Sz 3 y.1 := hf 2 _ rfl
  rw [cof3] at f2
  obtain ⟨y2, e2, z2⟩ := f2
  obtain ⟨v2, h2, w2⟩ := int_at e2
  have f3 : ∃ y, DataW.trod enc Tryz.prog W 0 (fun _ => true) held n 3 ((cs.drop 3).take (Tryz.prog.cellsOf 3)) = some y ∧ Sz 3 y.1 := hf 3 _ rfl
  rw [cof3] at f3
  obtain ⟨y3, e3, z3⟩ := f3
  obtain ⟨v3, h3, w3⟩ := int_at e3
  have f4 : ∃ y, DataW.trod enc Tryz.prog W 0 (fun _ => true) held n 9 ((cs.drop 4).take (Tryz.prog.cellsOf 9)) = some y ∧ Sz 9 y.1 := hf 4 _ rfl
  rw [cof9] at f4
  obtain ⟨y4, e4, z4⟩ := f4
  obtain ⟨v4, h4, w4⟩ := str_at e4
  have f5 : ∃ y, DataW.trod enc Tryz.prog W 0 (fun _ => true) held n 9 ((cs.drop 5).take (Tryz.prog.cellsOf 9)) = some y ∧ Sz 9 y.1 := hf 5 _ rfl
  rw [cof9] at f5
  obtain ⟨y5, e5, z5⟩ := f5
  obtain ⟨v5, h5, w5⟩ := str_at e5
  have f6 : ∃ y, DataW.trod enc Tryz.prog W 0 (fun _ => true) held n 71 ((cs.drop 6).take (Tryz.prog.cellsOf 71)) = some y ∧ Sz 71 y.1 := hf 6 _ rfl
  rw [cof71] at f6
  obtain ⟨y6, e6, z6⟩ := f6
  obtain ⟨oa6, cap6, v6, h6, p6, w6, r6⟩ := slice_of (ec := Tg.c) (k := 2) Tryz.underlying71 cof151 (fun _ => rfl) (by decide) (by decide +kernel) (fun h z => tag_of h z) e6 z6
  clear hf
  match cs, hl with
  | [c0, c1, c2, c3, c4, c5, c6], _ =>
    simp at h0 h1 h2 h3 h4 h5 h6
    subst h0 h1 h2 h3 h4 h5 h6
    exact ⟨⟨v0, v1, v2, v3, v4, v5, oa6, cap6, v6⟩, rfl, ⟨r6, w1, w2, w3⟩, w0, w1, w4, w5, p6, w6⟩
theorem entry_of {fuel : Nat} {cs : List Value} {x : DataW H × List MemPlace} (h : DataW.trod enc Tryz.prog W 0 (fun _ => true) held fuel 42 cs = some x) (hz : Sz 42 x.1) : ∃ m : En, cs = m.c ∧ m.rd (whole W) ∧ m.lines.length ≤ 140737488355328 ∧ m.sz := by
  obtain ⟨n, hl, hf⟩ := fld Tryz.underlying42 h hz
  rw [cof42] at hl
  have f0 : ∃ y, DataW.trod enc Tryz.prog W 0 (fun _ => true) held n 3 ((cs.drop 0).take (Tryz.prog.cellsOf 3)) = some y ∧ Sz 3 y.1 := hf 0 _ rfl
  rw [cof3] at f0
  obtain ⟨y0, e0, z0⟩ := f0
  obtain ⟨v0, h0, w0⟩ := int_at e0
  have f1 : ∃ y, DataW.trod enc Tryz.prog W 0 (fun _ => true) held n 9 ((cs.drop 1).take (Tryz.prog.cellsOf 9)) = some y ∧ Sz 9 y.1 := hf 1 _ rfl
  rw [cof9] at f1
  obtain ⟨y1, e1, z1⟩ := f1
  obtain ⟨v1, h1, w1⟩ := str_at e1
  have f2 : ∃ y, DataW.trod enc Tryz.prog W 0 (fun _ => true) held n 3 ((cs.drop 2).take (Tryz.prog.cellsOf 3)) = some y ∧ Sz 3 y.1 := hf 2 _ rfl
  rw [cof3] at f2
  obtain ⟨y2, e2, z2⟩ := f2
  obtain ⟨v2, h2, w2⟩ := int_at e2
  have f3 : ∃ y, DataW.trod enc Tryz.prog W 0 (fun _ => true) held n 3 ((cs.drop 3).take (Tryz.prog.cellsOf 3)) = some y ∧ Sz 3 y.1 := hf 3 _ rfl
  rw [cof3] at f3
  obtain ⟨y3, e3, z3⟩ := f3
  obtain ⟨v3, h3, w3⟩ := int_at e3
  have f4 : ∃ y, DataW.trod enc Tryz.prog W 0 (fun _ => true) held n 3 ((cs.drop 4).take (Tryz.prog.cellsOf 3)) = some y ∧ Sz 3 y.1 := hf 4 _ rfl
  rw [cof3] at f4
  obtain ⟨y4, e4, z4⟩ := f4
  obtain ⟨v4, h4, w4⟩ := int_at e4
  have f5 : ∃ y, DataW.trod enc Tryz.prog W 0 (fun _ => true) held n 9 ((cs.drop 5).take (Tryz.prog.cellsOf 9)) = some y ∧ Sz 9 y.1 := hf 5 _ rfl
  rw [cof9] at f5
  obtain ⟨y5, e5, z5⟩ := f5
  obtain ⟨v5, h5, w5⟩ := str_at e5
  have f6 : ∃ y, DataW.trod enc Tryz.prog W 0 (fun _ => true) held n 9 ((cs.drop 6).take (Tryz.prog.cellsOf 9)) = some y ∧ Sz 9 y.1 := hf 6 _ rfl
  rw [cof9] at f6
  obtain ⟨y6, e6, z6⟩ := f6
  obtain ⟨v6, h6, w6⟩ := str_at e6
  have f7 : ∃ y, DataW.trod enc Tryz.prog W 0 (fun _ => true) held n 3 ((cs.drop 7).take (Tryz.prog.cellsOf 3)) = some y ∧ Sz 3 y.1 := hf 7 _ rfl
  rw [cof3] at f7
  obtain ⟨y7, e7, z7⟩ := f7
  obtain ⟨v7, h7, w7⟩ := int_at e7
  have f8 : ∃ y, DataW.trod enc Tryz.prog W 0 (fun _ => true) held n 40 ((cs.drop 8).take (Tryz.prog.cellsOf 40)) = some y ∧ Sz 40 y.1 := hf 8 _ rfl
  rw [cof40] at f8
  obtain ⟨y8, e8, z8⟩ := f8
  obtain ⟨oa8, cap8, v8, h8, p8, w8, r8⟩ := slice_of (ec := Ln.c) (k := 7) Tryz.underlying40 cof73 (fun _ => rfl) (by decide) (by decide +kernel) (fun h z => line_of h z) e8 z8
  clear hf
  match cs, hl with
  | [c0, c1, c2, c3, c4, c5, c6, c7, c8], _ =>
    simp at h0 h1 h2 h3 h4 h5 h6 h7 h8
    subst h0 h1 h2 h3 h4 h5 h6 h7 h8
    exact ⟨⟨v0, v1, v2, v3, v4, v5, v6, v7, oa8, cap8, v8⟩, rfl, ⟨r8, fun y hy => (p8 y hy).1⟩, w8, w1, w5, w6, fun y hy => (p8 y hy).2⟩
theorem acct_of {fuel : Nat} {cs : List Value} {x : DataW H × List MemPlace} (h : DataW.trod enc Tryz.prog W 0 (fun _ => true) held fuel 57 cs = some x) (hz : Sz 57 x.1) : ∃ m : Ac, cs = m.c ∧ m.rd (whole W) ∧ m.sz := by
  obtain ⟨n, hl, hf⟩ := fld Tryz.underlying57 h hz
  rw [cof57] at hl
  have f0 : ∃ y, DataW.trod enc Tryz.prog W 0 (fun _ => true) held n 9 ((cs.drop 0).take (Tryz.prog.cellsOf 9)) = some y ∧ Sz 9 y.1 := hf 0 _ rfl
  rw [cof9] at f0
  obtain ⟨y0, e0, z0⟩ := f0
  obtain ⟨v0, h0, w0⟩ := str_at e0
  have f1 : ∃ y, DataW.trod enc Tryz.prog W 0 (fun _ => true) held n 9 ((cs.drop 1).take (Tryz.prog.cellsOf 9)) = some y ∧ Sz 9 y.1 := hf 1 _ rfl
  rw [cof9] at f1
  obtain ⟨y1, e1, z1⟩ := f1
  obtain ⟨v1, h1, w1⟩ := str_at e1
  have f2 : ∃ y, DataW.trod enc Tryz.prog W 0 (fun _ => true) held n 3 ((cs.drop 2).take (Tryz.prog.cellsOf 3)) = some y ∧ Sz 3 y.1 := hf 2 _ rfl
  rw [cof3] at f2
  obtain ⟨y2, e2, z2⟩ := f2
  obtain ⟨v2, h2, w2⟩ := int_at e2
  have f3 : ∃ y, DataW.trod enc Tryz.prog W 0 (fun _ => true) held n 4 ((cs.drop 3).take (Tryz.prog.cellsOf 4)) = some y ∧ Sz 4 y.1 := hf 3 _ rfl
  rw [cof4] at f3
  obtain ⟨y3, e3, z3⟩ := f3
  obtain ⟨v3, h3⟩ := bool_at e3
  have f4 : ∃ y, DataW.trod enc Tryz.prog W 0 (fun _ => true) held n 9 ((cs.drop 4).take (Tryz.prog.cellsOf 9)) = some y ∧ Sz 9 y.1 := hf 4 _ rfl
  rw [cof9] at f4
  obtain ⟨y4, e4, z4⟩ := f4
  obtain ⟨v4, h4, w4⟩ := str_at e4
  have f5 : ∃ y, DataW.trod enc Tryz.prog W 0 (fun _ => true) held n 4 ((cs.drop 5).take (Tryz.prog.cellsOf 4)) = some y ∧ Sz 4 y.1 := hf 5 _ rfl
  rw [cof4] at f5
  obtain ⟨y5, e5, z5⟩ := f5
  obtain ⟨v5, h5⟩ := bool_at e5
  have f6 : ∃ y, DataW.trod enc Tryz.prog W 0 (fun _ => true) held n 4 ((cs.drop 6).take (Tryz.prog.cellsOf 4)) = some y ∧ Sz 4 y.1 := hf 6 _ rfl
  rw [cof4] at f6
  obtain ⟨y6, e6, z6⟩ := f6
  obtain ⟨v6, h6⟩ := bool_at e6
  have f7 : ∃ y, DataW.trod enc Tryz.prog W 0 (fun _ => true) held n 55 ((cs.drop 7).take (Tryz.prog.cellsOf 55)) = some y ∧ Sz 55 y.1 := hf 7 _ rfl
  rw [cof55] at f7
  obtain ⟨y7, e7, z7⟩ := f7
  obtain ⟨oa7, cap7, v7, h7, p7, w7, r7⟩ := slice_of (ec := Sb) (k := 1) Tryz.underlying55 cof9 (fun _ => rfl) (by decide) (by decide +kernel) (fun h z => name_at h z) e7 z7
  clear hf
  match cs, hl with
  | [c0, c1, c2, c3, c4, c5, c6, c7], _ =>
    simp at h0 h1 h2 h3 h4 h5 h6 h7
    subst h0 h1 h2 h3 h4 h5 h6 h7
    exact ⟨⟨v0, v1, v2, v3, v4, v5, v6, oa7, cap7, v7⟩, rfl, ⟨r7, w7, w4⟩, w0, w1, w4, p7⟩
theorem case_of {fuel : Nat} {cs : List Value} {x : DataW H × List MemPlace} (h : DataW.trod enc Tryz.prog W 0 (fun _ => true) held fuel 27 cs = some x) (hz : Sz 27 x.1) : ∃ m : Cs, cs = m.c ∧ m.rd (whole W) := by
  obtain ⟨n, hl, hf⟩ := fld Tryz.underlying27 h hz
  rw [cof27] at hl
  have f0 : ∃ y, DataW.trod enc Tryz.prog W 0 (fun _ => true) held n 22 ((cs.drop 0).take (Tryz.prog.cellsOf 22)) = some y ∧ Sz 22 y.1 := hf 0 _ rfl
  rw [cof22] at f0
  obtain ⟨y0, e0, z0⟩ := f0
  obtain ⟨oa0, cap0, v0, h0, p0, w0, r0⟩ := slice_of (ec := Ac.c) (k := 8) Tryz.underlying22 cof57 (fun _ => rfl) (by decide) (by decide +kernel) (fun h z => acct_of h z) e0 z0
  have f1 : ∃ y, DataW.trod enc Tryz.prog W 0 (fun _ => true) held n 24 ((cs.drop 1).take (Tryz.prog.cellsOf 24)) = some y ∧ Sz 24 y.1 := hf 1 _ rfl
  rw [cof24] at f1
  obtain ⟨y1, e1, z1⟩ := f1
  obtain ⟨v1, h1⟩ := cal_of e1 z1
  have f2 : ∃ y, DataW.trod enc Tryz.prog W 0 (fun _ => true) held n 25 ((cs.drop 2).take (Tryz.prog.cellsOf 25)) = some y ∧ Sz 25 y.1 := hf 2 _ rfl
  rw [cof25] at f2
  obtain ⟨y2, e2, z2⟩ := f2
  obtain ⟨oa2, cap2, v2, h2, p2, w2, r2⟩ := slice_of (ec := En.c) (k := 9) Tryz.underlying25 cof42 (fun _ => rfl) (by decide) (by decide +kernel) (fun h z => entry_of h z) e2 z2
  have f3 : ∃ y, DataW.trod enc Tryz.prog W 0 (fun _ => true) held n 9 ((cs.drop 3).take (Tryz.prog.cellsOf 9)) = some y ∧ Sz 9 y.1 := hf 3 _ rfl
  rw [cof9] at f3
  obtain ⟨y3, e3, z3⟩ := f3
  obtain ⟨v3, h3, w3⟩ := str_at e3
  have f4 : ∃ y, DataW.trod enc Tryz.prog W 0 (fun _ => true) held n 3 ((cs.drop 4).take (Tryz.prog.cellsOf 3)) = some y ∧ Sz 3 y.1 := hf 4 _ rfl
  rw [cof3] at f4
  obtain ⟨y4, e4, z4⟩ := f4
  obtain ⟨v4, h4, w4⟩ := int_at e4
  have f5 : ∃ y, DataW.trod enc Tryz.prog W 0 (fun _ => true) held n 3 ((cs.drop 5).take (Tryz.prog.cellsOf 3)) = some y ∧ Sz 3 y.1 := hf 5 _ rfl
  rw [cof3] at f5
  obtain ⟨y5, e5, z5⟩ := f5
  obtain ⟨v5, h5, w5⟩ := int_at e5
  have f6 : ∃ y, DataW.trod enc Tryz.prog W 0 (fun _ => true) held n 9 ((cs.drop 6).take (Tryz.prog.cellsOf 9)) = some y ∧ Sz 9 y.1 := hf 6 _ rfl
  rw [cof9] at f6
  obtain ⟨y6, e6, z6⟩ := f6
  obtain ⟨v6, h6, w6⟩ := str_at e6
  have f7 : ∃ y, DataW.trod enc Tryz.prog W 0 (fun _ => true) held n 9 ((cs.drop 7).take (Tryz.prog.cellsOf 9)) = some y ∧ Sz 9 y.1 := hf 7 _ rfl
  rw [cof9] at f7
  obtain ⟨y7, e7, z7⟩ := f7
  obtain ⟨v7, h7, w7⟩ := str_at e7
  clear hf
  match cs, hl with
  | [c0, c1, c2, c3, c4, c5, c6, c7], _ =>
    simp at h0 h1 h2 h3 h4 h5 h6 h7
    subst h0 h1 h2 h3 h4 h5 h6 h7
    exact ⟨⟨oa0, cap0, v0, v1, oa2, cap2, v2, v3, v4, v5, v6, v7⟩, rfl, r0, p0, w0, r2, fun e he => ⟨(p2 e he).1, (p2 e he).2.1⟩, fun e he => (p2 e he).2.2, w2, w4, w5, w3, w6, w7⟩
end
theorem gLen : Tryz.prog.globalNamed "accounting/days.lengths" = some 0 := by kernel_rfl
def laid1 : List (String × DataW Unit) := [("accounting/days.lengths", Rows.laid_accounting_days_lengths)]
theorem of_laid {W : World} (h : laidMetH Tryz.prog laid1 W) : ∃ t fr, W.heap[0]? = some (.cells ⟨lensC⟩ t fr) := by
  rw [MakeChecks.laidMetH_plain _ _ _ (by kernel_rfl)] at h
  obtain ⟨ps, ⟨g0, t0, cs0, f0, p0, q0, hg0, ht0, hv0, hd0, _, _⟩, _, hfr⟩ := h
  obtain rfl := Option.some.inj (gLen.symm.trans hg0)
  have tl : (Tryz.prog.globals[0]?).map (·.type) = some 200 := by kernel_rfl
  obtain rfl := Option.some.inj (tl.symm.trans ht0)
  obtain ⟨xs, m1, rfl, hx1, hlen, hn, hel⟩ := DataW.trod_array Tryz.underlying200 hd0
  have c176 : Tryz.prog.cellsOf 200 = 12 := by kernel_rfl
  rw [c176] at hlen
  simp only [cof3, Nat.mul_one] at hel
  have hcs : cs0.toList = lensC := by
    simp only [Rows.laid_accounting_days_lengths, Prod.mk.injEq, DataW.agg.injEq] at hx1
    obtain ⟨l⟩ := cs0
    (try simp only at hlen)
    (try simp only at hel)
    (try simp only)
    have get : ∀ i, i < 12 → ∃ (n : Int) (y : DataW Unit × List MemPlace), (l.drop i).take 1 = [.int .i64 n] ∧ xs[i]? = some y ∧ y.1 = .lit (.int .i64 n) := fun i hi => by
      obtain ⟨y, hy⟩ : ∃ y, xs[i]? = some y := ⟨_, List.getElem?_eq_getElem (by omega)⟩
      obtain ⟨n, h1, h2, _⟩ := DataW.trod_int Tryz.underlying3 ((hel i hi).trans hy)
      exact ⟨n, y, h1, hy, by rw [h2]⟩
    have val : ∀ i, i < 12 → ∀ n : Int, ([31, 28, 31, 30, 31, 30, 31, 31, 30, 31, 30, 31] : List Int)[i]? = some n → l[i]? = some (.int .i64 n) := fun i hi n hn' => by
      obtain ⟨n', y, h1, h2, h3⟩ := get i hi
      have h4 : (xs.map (·.1))[i]? = some (.lit (.int .i64 n')) := by rw [List.getElem?_map, h2]; simp [h3]
      rw [← hx1.1] at h4
      have h5 : l[i]? = some (.int .i64 n') := by
        have := congrArg (·[0]?) h1
        simpa [List.getElem?_take] using this
      rw [h5]
      have : i = 0 ∨ i = 1 ∨ i = 2 ∨ i = 3 ∨ i = 4 ∨ i = 5 ∨ i = 6 ∨ i = 7 ∨ i = 8 ∨ i = 9 ∨ i = 10 ∨ i = 11 := by omega
      rcases this with rfl | rfl | rfl | rfl | rfl | rfl | rfl | rfl | rfl | rfl | rfl | rfl <;> (simp at h4 hn'; subst h4; subst hn'; rfl)
    have hll : l.length = 12 := hlen
    show l = lensC
    apply List.ext_getElem?
    intro i
    by_cases hi : i < 12
    · obtain ⟨n, hn'⟩ : ∃ n, lensL[i]? = some n := ⟨_, List.getElem?_eq_getElem (show i < lensL.length from hi)⟩
      rw [val i hi n hn', lensC, List.getElem?_map, hn']; rfl
    · rw [List.getElem?_eq_none (by omega), List.getElem?_eq_none (show lensC.length ≤ i from (by omega : 12 ≤ i))]
  unfold World.var? at hv0
  rw [gLen] at hv0
  simp only [Option.bind_some] at hv0
  split at hv0
  · rename_i cs t fr hh
    cases hv0
    obtain ⟨l⟩ := cs0
    (try simp only at hcs)
    subst hcs
    exact ⟨t, fr, hh⟩
  · cases hv0


theorem ac_whole {P : Program} {f : FuncId} {args : Array Value} {v : Value} {w : World} (h : AC P f args (stars [whole w]) (Ret v [whole w])) : Calls P f args w fun e w' => e = .returned v ∧ Below w.heap.size w w' := by
  have hA : stars [whole w] (fun b => w.heap[b]?) := ⟨fun b => w.heap[b]?, fun _ => none, fun b => .inr rfl, (Hp.add_none' fun _ => rfl).symm, rfl, fun _ => rfl⟩
  have hsub : Hp.sub (fun b => w.heap[b]?) w := fun b o hb => hb
  refine (h w _ hA hsub).mono ?_
  rintro e w' ⟨r, rfl, ⟨⟨h', hQ, hsub', _⟩, hrest⟩⟩
  obtain ⟨rfl, h1, h2, hd', rfl, hR1, h2e⟩ := hQ
  obtain rfl : h1 = fun b => w.heap[b]? := hR1
  refine ⟨rfl, hrest.os, hrest.tape, hrest.output, hrest.size, fun k hk => ?_⟩
  obtain ⟨o, ho⟩ : ∃ o, w.heap[k]? = some o := ⟨_, Array.getElem?_eq_getElem hk⟩
  rw [hsub' k o (by rw [Hp.add_none' h2e]; exact ho), ho]
theorem handed_both {H : Type} {enc : TypeId × Value → H} {a : Assume} {C : Checked} {os : Os} {f : FuncId} {fn : Func} {s : ChangeSpec} {conds : List PathCond} {apart fresh handsOn again : Bool} {X : World → Array Value → Prop}
    (hX : ∀ (w w' : World) (args : Array Value), w.heap = w'.heap → X w args → X w' args)
    (own : ownKnob C.prog.godebug = none) (started : os.Started) (noInit : C.prog.inits.idxOf? f = none) (hfn : C.prog.funcs[f]? = some fn)
    (witness : ∃ (w : World) (tape : Tape) (i : Input), w.os = os ∧ (w.forCall tape i).Shaped C.prog ∧ i.vars = [] ∧ Input.okWide C.prog (w.forCall tape i) .any w.heap.size f i ∧
      ((s.pre enc C.prog fn conds apart (w.forCall tape i).memory i.args ∧ X (w.forCall tape i).memory i.args) ∧ sizedMet enc C.prog fn (OpenSpec.ofChange s) apart (w.forCall tape i).memory i.args) ∧ a.holds C.prog (lone (Frame.enter C.prog f i.args .normal) [] (w.forCall tape i)))
    (contract : ∀ (W : World) (base : Nat) (args : Array Value) (ds gs : List (DataW H)) (before : List MemPlace),
      (∀ (j : Nat) t v, fn.params[j]? = some t → args[j]? = some v → Value.okWide C.prog W .any base t v) →
      DataW.Whole enc C.prog fn.params.toList s.vars apart W args.toList ds gs before →
      (DataW.weightsEach C.prog (fn.params.toList ++ s.plain.varTypes C.prog) (ds ++ gs)).all (· ≤ reachBytes) = true → X W args → W.ShapedOpen C.prog →
      Calls C.prog f args W fun e W' => ∃ v, e = .returned v ∧ s.post enc C.prog fn apart fresh handsOn again W args v W') :
    ReturnsInHanded a C os f .any (fun w args => (s.pre enc C.prog fn conds apart w args ∧ X w args) ∧ sizedMet enc C.prog fn (OpenSpec.ofChange s) apart w args) (s.post enc C.prog fn apart fresh handsOn again) := by
  refine returnsInHanded_of_calls own started noInit witness ?_
  intro w tape i _ hsh _ hok hpre _
  obtain ⟨_, _, _, fn', hfn', _, _, _, _, hval⟩ := hok
  obtain rfl : fn' = fn := Option.some.inj (hfn'.symm.trans hfn)
  obtain ⟨⟨⟨ds, gs, before, hw, _⟩, hx⟩, hz⟩ := hpre
  refine (contract (w.forCall tape i) w.heap.size i.args ds gs before hval (DataW.Whole.of_heap (w' := w.forCall tape i) (by rfl) hw) (hz.weights hw) (hX _ _ _ (by rfl) hx) hsh).mono fun e W' ⟨v, he, hp⟩ => ?_
  subst he
  exact ChangeSpec.post_blind hp
theorem max_of {W : World} (h : W.ShapedOpen Tryz.prog) : ∃ m0, Rd (whole W) ⟨1, 0, none⟩ [I m0] := by
  obtain ⟨m0, h1⟩ := cell_of_shapedOpen_int (g := 1) (t := 3) (zero := #[.int .i64 0]) (k := .i64) h (of_decide_eq_true (by kernel_rfl)) (by kernel_rfl) rfl (by kernel_rfl) (by kernel_rfl) Tryz.underlying3
  refine ⟨m0, (whole_rds (a := ⟨1, 0, none⟩) (cs := [I m0]) fun j v hj => ?_).rd (by simp)⟩
  cases j with
  | zero => simp at hj; subst hj; rw [Addr.add_zero]; exact h1
  | succ j => simp at hj
theorem len_of {W : World} (h : laidMetH Tryz.prog laid1 W) : Rd (whole W) ⟨0, 0, none⟩ lensC := by
  obtain ⟨t, fr, h0⟩ := of_laid h
  exact fun hp hr => ⟨⟨lensC⟩, t, fr, by rw [hr]; exact h0, rfl, fun j v hj => by simpa using hj⟩
theorem law_case {f : FuncId} (hac : ∀ (R : HP) (x : Cs) (m0 : Int), Rd R ⟨0, 0, none⟩ lensC → Rd R ⟨1, 0, none⟩ [I m0] → x.rd R → AC Tryz.prog f ⟨[.agg ⟨x.c⟩]⟩ (stars [R]) (Ret (Bo true) [R]))
    {W : World} {x : Cs} (hx : x.rd (whole W)) (hL : laidMetH Tryz.prog laid1 W) (hS : W.ShapedOpen Tryz.prog) : Calls Tryz.prog f ⟨[.agg ⟨x.c⟩]⟩ W fun e w' => e = .returned (.bool true) ∧ Below W.heap.size W w' := by
  obtain ⟨m0, hM⟩ := max_of hS
  exact ac_whole (hac _ x m0 (len_of hL) hM hx)
theorem knob0 : ownKnob Tryz.prog.godebug = none := by kernel_rfl
theorem laidOut : laidOutB Tryz.prog = true := by kernel_rfl
theorem door_met (os : Os) (args : Array Value) : laidMetH Tryz.prog laid1 ((World.doorLaid Tryz.prog 400 os).forCall (fun _ _ => 0) ⟨#[], args, []⟩).memory :=
  laidMetH_of_parts3 (fuel := 8) (laidMet_of_run' 8 (by kernel_rfl) (by kernel_rfl)) (by kernel_rfl) (by kernel_rfl)
end Go.Proofs.YtglaahpagjjmoaaGreatDoor
