/- Laws of the walks and of the models, part 5. Merged by program out of: VK X1 X2 X3 X4 X5 X6 X7 X8 X9 XA XB XC. -/
import Derived.Test.YtdcchollplhioaaGreatDoorQ4
set_option linter.unusedVariables false
set_option linter.unusedSimpArgs false
set_option maxRecDepth 20000
set_option maxHeartbeats 4000000
namespace Go.Proofs.YtdcchollplhioaaGreatDoor
open Go Go.SL Go.Proofs
section
attribute [local irreducible] OpJ RunL Run RunD DetJ pt own star Rd RdS
-- moves.Levels
theorem ac24 (R : HP) (oa : Option Addr) (cap : Nat) (ms : List Mv) (hR : RdS R oa (ms.flatMap Mv.c)) (hlen : ms.length ≤ 1000) : AC Tryz.prog 24 ⟨[.slice oa ms.length cap]⟩ (stars [R]) (Outs (fun _ : Option Addr × Nat => True) (fun x => LevV (runL levM 0 ms) x) (fun x => LevB 3 (runL levM 0 ms) x ++ [R])) := by
 refine AC.go Tryz.func24 rfl (Nat.le_of_ble_eq_true rfl) fun β => ?_
 refine sr ?_
 refine sx 3 ?_
 refine kp [0, 2] rfl ?_
 refine sr ?_
 refine asg rfl rfl ?_
 refine kp [0, 2, 5] rfl ?_
 refine Run.seq ?_
 refine sr ?_
 refine RunL.ownNil 3 1 ?_
 refine sx 3 ?_
 refine kp [2, 5, 8, 9, 10] rfl ?_
 refine Run.block ?_
 refine Run.loop (fun mm E L => ∃ (i : Nat) (q : Int) (qs : List Int) (qa : Option Addr) (qc : Nat), mm = ms.length - i ∧ i ≤ ms.length ∧ runL levM 0 (ms.take i) = .ok (q, qs) ∧ E = [(2, .slice qa qs.length qc), (5, I q), (8, .slice oa ms.length cap), (9, I ms.length), (10, I i)] ∧ L = [own 3 1 qa (qs).length qc ((qs).flatMap Iv), R]) ⟨_, 0, 0, [], none, 0, rfl, Nat.zero_le _, rfl, rfl, rfl⟩ ?_
 rintro _ _ _ ⟨i, q, qs, qa, qc, rfl, hi, hrun, rfl, rfl⟩
 have hql : qs.length = i := (runL_len hrun).trans (by rw [List.length_take]; omega)
 refine sr ?_
 refine sx 1 ?_
 refine kp [2, 5, 8, 9, 10, 11] rfl ?_
 refine Run.seq ?_
 first | refine Run.if rfl (fun h1 => ?_) (fun h1 => ?_) | refine Run.cond rfl (fun h1 => ?_) (fun h1 => ?_)
 refine Run.skip ?_
 refine Run.seq ?_
 refine Run.block ?_
 refine sr ?_
 obtain ⟨m, hx⟩ := get_ex (xs := ms) (by omega)
 refine RunL.rdOpen pk hR (flat_ne (k := 8) (fun _ => rfl) (by decide) hx) fun b o e hrd => ?_
 subst e
 refine sx 2 ?_
 refine RunL.op rfl rfl (OpJ.loadA T47 rfl pk (hrd.elem (fun _ => rfl) hx) rfl ?_)
 refine RunL.op rfl rfl (OpJ.alloc Z47 fun b7 => ?_)
 refine sx 2 ?_
 refine kp [2, 5, 6, 7, 8, 9, 10] rfl ?_
 refine sr ?_
 refine sx 2 ?_
 refine RunL.call C53 rfl rfl rfl (ac53 m) .nil ?_
 refine RunL.op rfl rfl (OpJ.add rfl rfl ?_)
 refine asg rfl rfl ?_
 refine kp [2, 5, 6, 8, 9, 10] rfl ?_
 refine Run.seq ?_
 refine sr ?_
 refine sx 2 ?_
 refine kp [2, 5, 6, 8, 9, 10, 20] rfl ?_
 first | refine Run.if rfl (fun h2 => ?_) (fun h2 => ?_) | refine Run.cond rfl (fun h2 => ?_) (fun h2 => ?_)
 refine sr ?_
 refine sx 4 ?_
 refine kp [2, 3, 4] rfl ?_
 refine Run.ret ?_
 have hf := runL_fail hrun hx (show levM q m = .error 21 by unfold levM; rw [if_pos (by assumption)]); refine ret_out (none, 0) (.tmp rfl (.tmp rfl (.tmp rfl .nil))) trivial (by rw [hf]; rfl) ?_; rw [hf]; exact gv
 refine Run.skip ?_
 refine Run.seq ?_
 refine sr ?_
 refine sx 2 ?_
 refine kp [2, 5, 6, 8, 9, 10, 23] rfl ?_
 first | refine Run.if rfl (fun h3 => ?_) (fun h3 => ?_) | refine Run.cond rfl (fun h3 => ?_) (fun h3 => ?_)
 refine sr ?_
 refine sx 4 ?_
 refine kp [2, 3, 4] rfl ?_
 refine Run.ret ?_
 have hf := runL_fail hrun hx (show levM q m = .error 4 by unfold levM; rw [if_neg (by assumption), if_pos (by assumption)]); refine ret_out (none, 0) (.tmp rfl (.tmp rfl (.tmp rfl .nil))) trivial (by rw [hf]; rfl) ?_; rw [hf]; exact gv
 refine Run.skip ?_
 refine Run.region ?_
 refine sx 2 ?_
 refine RunL.op rfl rfl (OpJ.buildSlice1 S50 rfl rfl rfl (by decide) (by decide) Z3 rfl fun b27 => ?_)
 refine RunL.op rfl rfl (OpJ.append1 (enc := Iv) (W (q + changeM m) : Int) S50 M3 rfl rfl pk pk rfl rfl (Iv.one _) rfl (by omega) (by omega) fun a28 c28 => ?_)
 refine asg rfl rfl ?_
 refine kp [2, 5, 8, 9, 10] rfl ?_
 refine Run.region ?_
 refine sx 2 ?_
 exact RunL.next (Keep.sub (kt (ks := [2, 5, 8, 9, 10]) rfl)) _ ⟨_, by omega, i + 1, W (q + changeM m), qs ++ [W (q + changeM m)], a28, c28, rfl, by omega, runL_snoc hrun hx (show levM q m = .ok _ by unfold levM; rw [if_neg (by assumption), if_neg (by assumption)]), rfl, rfl⟩ gv
 refine Run.exit ?_
 refine sr ?_
 refine sx 4 ?_
 refine kp [2, 3, 4] rfl ?_
 refine Run.ret ?_
 have hf : runL levM 0 ms = .ok (q, qs) := (runL_all (by omega)).trans hrun; refine ret_out (qa, qc) (.tmp rfl (.tmp rfl (.tmp rfl .nil))) trivial (by rw [hf]; rfl) ?_; rw [hf]; exact gv
end
theorem lv1 (b : Nat) (R0 : HP) (hR0 : Rd R0 ⟨0, 0, none⟩ lensC) : AC Tryz.prog 15 ⟨[I 1, I 11, .slice (some ⟨b, 0, none⟩) 3 3]⟩ (stars [pt b (blk (fewMs.flatMap Mv.c) 47), R0]) (Outs (fun _ : Option Addr × Nat × Option Addr × Nat × Option Addr × Nat => True) (fun x => RunV (.ok (sk1, cs1)) x) (fun x => [own 64 4 x.1 sk1.layers.length x.2.1 (sk1.layers.flatMap Ly.c), own 66 7 x.2.2.1 sk1.past.length x.2.2.2.1 (sk1.past.flatMap Pa.c), own 43 4 x.2.2.2.2.1 (cs1).length x.2.2.2.2.2 ((cs1).flatMap Co.c), pt b (blk (fewMs.flatMap Mv.c) 47), R0])) := by
  have h := ac15 1 11 (pt b (blk (fewMs.flatMap Mv.c) 47)) (some ⟨b, 0, none⟩) 3 fewMs (Rd.rds Rd.whole) (by decide) fewOk R0 hR0
  rw [run1] at h; exact h
section
attribute [local irreducible] OpJ RunL Run RunD DetJ pt own star Rd RdS
end
theorem lv2 (b : Nat) (R0 : HP) (hR0 : Rd R0 ⟨0, 0, none⟩ lensC) : AC Tryz.prog 15 ⟨[I 2, I 11, .slice (some ⟨b, 0, none⟩) 3 3]⟩ (stars [pt b (blk (fewMs.flatMap Mv.c) 47), R0]) (Outs (fun _ : Option Addr × Nat × Option Addr × Nat × Option Addr × Nat => True) (fun x => RunV (.ok (sk2, cs2)) x) (fun x => [own 64 4 x.1 sk2.layers.length x.2.1 (sk2.layers.flatMap Ly.c), own 66 7 x.2.2.1 sk2.past.length x.2.2.2.1 (sk2.past.flatMap Pa.c), own 43 4 x.2.2.2.2.1 (cs2).length x.2.2.2.2.2 ((cs2).flatMap Co.c), pt b (blk (fewMs.flatMap Mv.c) 47), R0])) := by
  have h := ac15 2 11 (pt b (blk (fewMs.flatMap Mv.c) 47)) (some ⟨b, 0, none⟩) 3 fewMs (Rd.rds Rd.whole) (by decide) fewOk R0 hR0
  rw [run2] at h; exact h
section
attribute [local irreducible] OpJ RunL Run RunD DetJ pt own star Rd RdS
end
theorem lv3 (b : Nat) (R0 : HP) (hR0 : Rd R0 ⟨0, 0, none⟩ lensC) : AC Tryz.prog 15 ⟨[I 3, I 11, .slice (some ⟨b, 0, none⟩) 3 3]⟩ (stars [pt b (blk (fewMs.flatMap Mv.c) 47), R0]) (Outs (fun _ : Option Addr × Nat × Option Addr × Nat × Option Addr × Nat => True) (fun x => RunV (.ok (sk3, cs3)) x) (fun x => [own 64 4 x.1 sk3.layers.length x.2.1 (sk3.layers.flatMap Ly.c), own 66 7 x.2.2.1 sk3.past.length x.2.2.2.1 (sk3.past.flatMap Pa.c), own 43 4 x.2.2.2.2.1 (cs3).length x.2.2.2.2.2 ((cs3).flatMap Co.c), pt b (blk (fewMs.flatMap Mv.c) 47), R0])) := by
  have h := ac15 3 11 (pt b (blk (fewMs.flatMap Mv.c) 47)) (some ⟨b, 0, none⟩) 3 fewMs (Rd.rds Rd.whole) (by decide) fewOk R0 hR0
  rw [run3] at h; exact h
section
attribute [local irreducible] OpJ RunL Run RunD DetJ pt own star Rd RdS
end
theorem lv4 (b : Nat) (R0 : HP) (hR0 : Rd R0 ⟨0, 0, none⟩ lensC) : AC Tryz.prog 15 ⟨[I 4, I 11, .slice (some ⟨b, 0, none⟩) 3 3]⟩ (stars [pt b (blk (fewMs.flatMap Mv.c) 47), R0]) (Outs (fun _ : Option Addr × Nat × Option Addr × Nat × Option Addr × Nat => True) (fun x => RunV (.error (0, 22)) x) (fun x => [pt b (blk (fewMs.flatMap Mv.c) 47), R0])) := by
  have h := ac15 4 11 (pt b (blk (fewMs.flatMap Mv.c) 47)) (some ⟨b, 0, none⟩) 3 fewMs (Rd.rds Rd.whole) (by decide) fewOk R0 hR0
  rw [run4] at h; exact h
section
attribute [local irreducible] OpJ RunL Run RunD DetJ pt own star Rd RdS
end
theorem lv5 (b : Nat) (R0 : HP) (hR0 : Rd R0 ⟨0, 0, none⟩ lensC) : AC Tryz.prog 15 ⟨[I 5, I (-1), .slice (some ⟨b, 0, none⟩) 3 3]⟩ (stars [pt b (blk (fewMs.flatMap Mv.c) 47), R0]) (Outs (fun _ : Option Addr × Nat × Option Addr × Nat × Option Addr × Nat => True) (fun x => RunV (.error (-1, 10)) x) (fun x => [pt b (blk (fewMs.flatMap Mv.c) 47), R0])) := by
  have h := ac15 5 (-1) (pt b (blk (fewMs.flatMap Mv.c) 47)) (some ⟨b, 0, none⟩) 3 fewMs (Rd.rds Rd.whole) (by decide) fewOk R0 hR0
  rw [run5] at h; exact h
section
attribute [local irreducible] OpJ RunL Run RunD DetJ pt own star Rd RdS
-- accountinglaw38.lives
theorem ac12 (R0 : HP) (hR0 : Rd R0 ⟨0, 0, none⟩ lensC) : AC Tryz.prog 12 ⟨[]⟩ (stars [R0]) (Ret (Bo true) [R0]) := by
 refine AC.go Tryz.func12 rfl (Nat.le_of_ble_eq_true rfl) fun β => ?_
 refine sr ?_
 refine asg rfl rfl ?_
 refine kp [] rfl ?_
 refine sr ?_
 refine RunL.callX C25 rfl rfl rfl ac25 .nil fun b _ => ?_
 refine RunL.callX C15 rfl rfl rfl (lv1 b R0 hR0) tks fun ⟨l1, lc1, p1, pc1, ca1, cc1⟩ _ => ?_
 refine sy 5 ?_
 refine RunL.op rfl rfl (OpJ.alloc Z28 fun b1 => ?_)
 refine sy 4 ?_
 refine kp [1, 2, 3, 4] rfl ?_
 refine sr ?_
 refine RunL.callX C25 rfl rfl rfl ac25 .nil fun b _ => ?_
 refine RunL.callX C15 rfl rfl rfl (lv2 b R0 hR0) tks fun ⟨l2, lc2, p2, pc2, ca2, cc2⟩ _ => ?_
 refine sy 5 ?_
 refine RunL.op rfl rfl (OpJ.alloc Z28 fun b5 => ?_)
 refine sy 4 ?_
 refine kp [1, 2, 3, 4, 5, 6, 8] rfl ?_
 refine sr ?_
 refine RunL.callX C25 rfl rfl rfl ac25 .nil fun b _ => ?_
 refine RunL.callX C15 rfl rfl rfl (lv3 b R0 hR0) tks fun ⟨l3, lc3, p3, pc3, ca3, cc3⟩ _ => ?_
 refine sy 5 ?_
 refine RunL.op rfl rfl (OpJ.alloc Z28 fun b9 => ?_)
 refine sy 4 ?_
 refine kp [1, 2, 3, 4, 5, 6, 8, 9, 10, 12] rfl ?_
 refine sr ?_
 refine RunL.callX C25 rfl rfl rfl ac25 .nil fun b _ => ?_
 refine RunL.callX C15 rfl rfl rfl (lv4 b R0 hR0) tks fun ⟨l4, lc4, p4, pc4, ca4, cc4⟩ _ => ?_
 refine sy 5 ?_
 refine RunL.op rfl rfl (OpJ.alloc Z28 fun b13 => ?_)
 refine sy 4 ?_
 refine kp [1, 2, 3, 4, 5, 6, 8, 9, 10, 12, 14, 15, 16] rfl ?_
 refine sr ?_
 refine RunL.callX C25 rfl rfl rfl ac25 .nil fun b _ => ?_
 refine RunL.callX C15 rfl rfl rfl (lv5 b R0 hR0) tks fun ⟨l5, lc5, p5, pc5, ca5, cc5⟩ _ => ?_
 refine sy 5 ?_
 refine RunL.op rfl rfl (OpJ.alloc Z28 fun b17 => ?_)
 refine sy 4 ?_
 refine kp [1, 2, 3, 4, 5, 6, 8, 9, 10, 12, 14, 15, 16, 19, 20] rfl ?_
 refine sr ?_
 refine RunL.call C13 rfl rfl rfl (ac13 3 11) .nil ?_
 refine sy 3 ?_
 refine RunL.op rfl rfl (OpJ.alloc Z28 fun b21 => ?_)
 refine sy 2 ?_
 refine kp [1, 2, 3, 4, 5, 6, 8, 9, 10, 12, 14, 15, 16, 19, 20, 21, 22] rfl ?_
 refine Run.seq ?_
 refine sr ?_
 refine sy 54 ?_
 refine kp [1, 2, 5, 6, 9, 10, 21, 115] rfl ?_
 refine Run.false rfl ?_
 refine Run.skip ?_
 refine sr ?_
 refine RunL.ownAddr (cs := cs1.flatMap Co.c) pk (flat_ne (k := 4) (fun _ => rfl) (by decide) (show cs1[2]? = some ⟨3, -5, -50, 0⟩ from rfl)) fun bb1 e hcap1 => ?_
 subst e
 refine RunL.ownAddr (cs := cs2.flatMap Co.c) pk (flat_ne (k := 4) (fun _ => rfl) (by decide) (show cs2[2]? = some ⟨3, -5, -60, 0⟩ from rfl)) fun bb2 e hcap2 => ?_
 subst e
 refine RunL.ownAddr (cs := cs3.flatMap Co.c) pk (flat_ne (k := 4) (fun _ => rfl) (by decide) (show cs3[2]? = some ⟨3, -5, -55, 0⟩ from rfl)) fun bb3 e hcap3 => ?_
 subst e
 refine mvo rfl rfl ?_
 refine RunL.op rfl rfl (OpJ.indexAddr S34 rfl rfl (by decide) ?_)
 refine sy 1 ?_
 refine RunL.op rfl rfl (OpJ.loadO (i := 2) (xs := cs1) (enc := Co.c) (u := ⟨3, -5, -50, 0⟩) T3 rfl pk rfl (by rfl) (by exact fun _ => rfl) ?_)
 refine sy 8 ?_
 refine RunL.yes rfl rfl rfl rfl (OpJ.indexAddr S34 rfl rfl (by decide) ?_)
 refine sy 1 ?_
 refine RunL.yes rfl rfl rfl rfl (OpJ.loadO (i := 2) (xs := cs2) (enc := Co.c) (u := ⟨3, -5, -60, 0⟩) T3 rfl pk rfl (by rfl) (by exact fun _ => rfl) ?_)
 refine sy 9 ?_
 refine RunL.yes rfl rfl rfl rfl (OpJ.indexAddr S34 rfl rfl (by decide) ?_)
 refine sy 1 ?_
 refine RunL.yes rfl rfl rfl rfl (OpJ.loadO (i := 0) (xs := cs3) (enc := Co.c) (u := ⟨1, 10, 110, -10⟩) T3 rfl pk rfl (by rfl) (by exact fun _ => rfl) ?_)
 refine sy 4 ?_
 refine RunL.yes rfl rfl rfl rfl (OpJ.indexAddr S34 rfl rfl (by decide) ?_)
 refine sy 1 ?_
 refine RunL.yes rfl rfl rfl rfl (OpJ.loadO (i := 1) (xs := cs3) (enc := Co.c) (u := ⟨2, 10, 110, 30⟩) T3 rfl pk rfl (by rfl) (by exact fun _ => rfl) ?_)
 refine sy 4 ?_
 refine RunL.yes rfl rfl rfl rfl (OpJ.indexAddr S34 rfl rfl (by decide) ?_)
 refine sy 1 ?_
 refine RunL.yes rfl rfl rfl rfl (OpJ.loadO (i := 2) (xs := cs3) (enc := Co.c) (u := ⟨3, -5, -55, 0⟩) T3 rfl pk rfl (by rfl) (by exact fun _ => rfl) ?_)
 refine sy 13 ?_
 refine kp [0] rfl ?_
 refine Run.ret ?_
 exact ret_one (.tmp rfl .nil) (rfl) gv
end
end Go.Proofs.YtdcchollplhioaaGreatDoor

namespace Go.Proofs.YtdcchollplhioaaGreatDoor
open Go Go.SL Go.Proofs
section
attribute [local irreducible] OpJ RunL Run RunD DetJ pt own star Rd RdS
-- accountingref33.day
theorem ac127 (n : Int) : AC Tryz.prog 127 ⟨[I n]⟩ (stars []) (Ret (.bool (inB n 0 109572)) []) := by
 refine AC.go Tryz.func127 rfl (Nat.le_of_ble_eq_true rfl) fun β => ?_
 refine sr ?_
 refine asg rfl rfl ?_
 refine kp [0] rfl ?_
 refine sr ?_
 refine sx 3 ?_
 first | refine RunL.splitP (t := 5) rfl (fun g1 => ?_) (fun g1 => ?_) | refine RunL.split (t := 5) rfl (fun g1 => ?_) (fun g1 => ?_)
 refine sx 4 ?_
 refine kp [2] rfl ?_
 refine Run.ret ?_
 exact ret_one (.tmp rfl .nil) (by first | (simp [tup, inB, *]; done) | (exfalso; omega)) .nil
 refine sx 4 ?_
 refine kp [2] rfl ?_
 refine Run.ret ?_
 exact ret_one (.tmp rfl .nil) (by first | (simp [tup, inB, *]; done) | (exfalso; omega)) .nil
-- accountingref33.stocked
theorem ac160 (n : Int) : AC Tryz.prog 160 ⟨[I n]⟩ (stars []) (Ret (.bool (inB n 1 4)) []) := by
 refine AC.go Tryz.func160 rfl (Nat.le_of_ble_eq_true rfl) fun β => ?_
 refine sr ?_
 refine asg rfl rfl ?_
 refine kp [0] rfl ?_
 refine sr ?_
 refine sx 3 ?_
 first | refine RunL.splitP (t := 5) rfl (fun g1 => ?_) (fun g1 => ?_) | refine RunL.split (t := 5) rfl (fun g1 => ?_) (fun g1 => ?_)
 refine sx 4 ?_
 refine kp [2] rfl ?_
 refine Run.ret ?_
 exact ret_one (.tmp rfl .nil) (by first | (simp [tup, inB, *]; done) | (exfalso; omega)) .nil
 refine sx 4 ?_
 refine kp [2] rfl ?_
 refine Run.ret ?_
 exact ret_one (.tmp rfl .nil) (by first | (simp [tup, inB, *]; done) | (exfalso; omega)) .nil
-- accountingref33.follows
theorem ac131 (k : Int) : AC Tryz.prog 131 ⟨[I k]⟩ (stars []) (Ret (.bool (refersB k)) []) := by
 refine AC.go Tryz.func131 rfl (Nat.le_of_ble_eq_true rfl) fun β => ?_
 refine sr ?_
 refine asg rfl rfl ?_
 refine kp [0] rfl ?_
 refine sr ?_
 refine sx 3 ?_
 first | refine RunL.splitP (t := 5) rfl (fun g1 => ?_) (fun g1 => ?_) | refine RunL.split (t := 5) rfl (fun g1 => ?_) (fun g1 => ?_)
 refine sx 8 ?_
 refine kp [2] rfl ?_
 refine Run.ret ?_
 exact ret_one (.tmp rfl .nil) (by first | (simp [tup, refersB, *]; done) | (exfalso; omega)) .nil
 refine sx 4 ?_
 first | refine RunL.splitP (t := 9) rfl (fun g2 => ?_) (fun g2 => ?_) | refine RunL.split (t := 9) rfl (fun g2 => ?_) (fun g2 => ?_)
 refine sx 4 ?_
 refine kp [2] rfl ?_
 refine Run.ret ?_
 exact ret_one (.tmp rfl .nil) (by first | (simp [tup, refersB, *]; done) | (exfalso; omega)) .nil
 refine sx 4 ?_
 refine kp [2] rfl ?_
 refine Run.ret ?_
 exact ret_one (.tmp rfl .nil) (by first | (simp [tup, refersB, *]; done) | (exfalso; omega)) .nil
-- accountingref06.letter
theorem ac158 (c : Int) : AC Tryz.prog 158 ⟨[.int .u8 c]⟩ (stars []) (Ret (.bool (letterB c)) []) := by
 refine AC.go Tryz.func158 rfl (Nat.le_of_ble_eq_true rfl) fun β => ?_
 refine sr ?_
 refine asg rfl rfl ?_
 refine kp [0] rfl ?_
 refine sr ?_
 refine sx 3 ?_
 first | refine RunL.splitP (t := 5) rfl (fun g1 => ?_) (fun g1 => ?_) | refine RunL.split (t := 5) rfl (fun g1 => ?_) (fun g1 => ?_)
 refine sx 4 ?_
 first | refine RunL.splitP (t := 9) rfl (fun g2 => ?_) (fun g2 => ?_) | refine RunL.split (t := 9) rfl (fun g2 => ?_) (fun g2 => ?_)
 refine sx 12 ?_
 refine kp [2] rfl ?_
 refine Run.ret ?_
 exact ret_one (.tmp rfl .nil) (by first | (simp [tup, letterB, *]; done) | (exfalso; omega)) .nil
 refine sx 3 ?_
 first | refine RunL.splitP (t := 12) rfl (fun g3 => ?_) (fun g3 => ?_) | refine RunL.split (t := 12) rfl (fun g3 => ?_) (fun g3 => ?_)
 refine sx 5 ?_
 first | refine RunL.splitP (t := 17) rfl (fun g4 => ?_) (fun g4 => ?_) | refine RunL.split (t := 17) rfl (fun g4 => ?_) (fun g4 => ?_)
 refine sx 4 ?_
 refine kp [2] rfl ?_
 refine Run.ret ?_
 exact ret_one (.tmp rfl .nil) (by first | (simp [tup, letterB, *]; done) | (exfalso; omega)) .nil
 refine sx 4 ?_
 refine kp [2] rfl ?_
 refine Run.ret ?_
 exact ret_one (.tmp rfl .nil) (by first | (simp [tup, letterB, *]; done) | (exfalso; omega)) .nil
 refine sx 9 ?_
 refine kp [2] rfl ?_
 refine Run.ret ?_
 exact ret_one (.tmp rfl .nil) (by first | (simp [tup, letterB, *]; done) | (exfalso; omega)) .nil
 refine sx 7 ?_
 first | refine RunL.splitP (t := 12) rfl (fun g5 => ?_) (fun g5 => ?_) | refine RunL.split (t := 12) rfl (fun g5 => ?_) (fun g5 => ?_)
 refine sx 5 ?_
 first | refine RunL.splitP (t := 17) rfl (fun g6 => ?_) (fun g6 => ?_) | refine RunL.split (t := 17) rfl (fun g6 => ?_) (fun g6 => ?_)
 refine sx 4 ?_
 refine kp [2] rfl ?_
 refine Run.ret ?_
 exact ret_one (.tmp rfl .nil) (by first | (simp [tup, letterB, *]; done) | (exfalso; omega)) .nil
 refine sx 4 ?_
 refine kp [2] rfl ?_
 refine Run.ret ?_
 exact ret_one (.tmp rfl .nil) (by first | (simp [tup, letterB, *]; done) | (exfalso; omega)) .nil
 refine sx 9 ?_
 refine kp [2] rfl ?_
 refine Run.ret ?_
 exact ret_one (.tmp rfl .nil) (by first | (simp [tup, letterB, *]; done) | (exfalso; omega)) .nil
-- accountingref06.digit
theorem ac159 (c : Int) : AC Tryz.prog 159 ⟨[.int .u8 c]⟩ (stars []) (Ret (.bool (digitB c)) []) := by
 refine AC.go Tryz.func159 rfl (Nat.le_of_ble_eq_true rfl) fun β => ?_
 refine sr ?_
 refine asg rfl rfl ?_
 refine kp [0] rfl ?_
 refine sr ?_
 refine sx 3 ?_
 first | refine RunL.splitP (t := 5) rfl (fun g1 => ?_) (fun g1 => ?_) | refine RunL.split (t := 5) rfl (fun g1 => ?_) (fun g1 => ?_)
 refine sx 4 ?_
 refine kp [2] rfl ?_
 refine Run.ret ?_
 exact ret_one (.tmp rfl .nil) (by first | (simp [tup, digitB, *]; done) | (exfalso; omega)) .nil
 refine sx 4 ?_
 refine kp [2] rfl ?_
 refine Run.ret ?_
 exact ret_one (.tmp rfl .nil) (by first | (simp [tup, digitB, *]; done) | (exfalso; omega)) .nil
-- accountingref35.far
theorem ac98 (n : Int) : AC Tryz.prog 98 ⟨[I n]⟩ (stars []) (Ret (.bool (largeB n)) []) := by
 refine AC.go Tryz.func98 rfl (Nat.le_of_ble_eq_true rfl) fun β => ?_
 refine sr ?_
 refine asg rfl rfl ?_
 refine kp [0] rfl ?_
 refine sr ?_
 refine sx 3 ?_
 first | refine RunL.splitP (t := 5) rfl (fun g1 => ?_) (fun g1 => ?_) | refine RunL.split (t := 5) rfl (fun g1 => ?_) (fun g1 => ?_)
 refine sx 4 ?_
 refine kp [2] rfl ?_
 refine Run.ret ?_
 exact ret_one (.tmp rfl .nil) (by first | (simp [tup, largeB, *]; done) | (exfalso; omega)) .nil
 refine sx 4 ?_
 refine kp [2] rfl ?_
 refine Run.ret ?_
 exact ret_one (.tmp rfl .nil) (by first | (simp [tup, largeB, *]; done) | (exfalso; omega)) .nil
-- accountingref36.within
theorem ac102 (n : Int) : AC Tryz.prog 102 ⟨[I n]⟩ (stars []) (Ret (.bool (withinB n)) []) := by
 refine AC.go Tryz.func102 rfl (Nat.le_of_ble_eq_true rfl) fun β => ?_
 refine sr ?_
 refine asg rfl rfl ?_
 refine kp [0] rfl ?_
 refine sr ?_
 refine sx 3 ?_
 first | refine RunL.splitP (t := 5) rfl (fun g1 => ?_) (fun g1 => ?_) | refine RunL.split (t := 5) rfl (fun g1 => ?_) (fun g1 => ?_)
 refine sx 4 ?_
 refine kp [2] rfl ?_
 refine Run.ret ?_
 exact ret_one (.tmp rfl .nil) (by first | (simp [tup, withinB, *]; done) | (exfalso; omega)) .nil
 refine sx 4 ?_
 refine kp [2] rfl ?_
 refine Run.ret ?_
 exact ret_one (.tmp rfl .nil) (by first | (simp [tup, withinB, *]; done) | (exfalso; omega)) .nil
-- accountingref33.quantity
theorem ac129 (m : Mv) : AC Tryz.prog 129 ⟨[.agg ⟨m.c⟩]⟩ (stars []) (Ret (.bool m.rQty) []) := by
 refine AC.go Tryz.func129 rfl (Nat.le_of_ble_eq_true rfl) fun β => ?_
 refine sr ?_
 refine RunL.op rfl rfl (OpJ.boxA rfl fun b1 => ?_)
 refine asg rfl rfl ?_
 refine kp [1] rfl ?_
 refine Run.seq ?_
 refine sr ?_
 refine sx 2 ?_
 refine RunL.call C160 rfl rfl rfl (ac160 _) .nil ?_
 refine kp [1, 5] rfl ?_
 first | refine Run.if rfl (fun h1 => ?_) (fun h1 => ?_) | refine Run.cond rfl (fun h1 => ?_) (fun h1 => ?_)
 refine sr ?_
 refine sx 4 ?_
 first | refine RunL.splitP (t := 9) rfl (fun g2 => ?_) (fun g2 => ?_) | refine RunL.split (t := 9) rfl (fun g2 => ?_) (fun g2 => ?_)
 refine sx 5 ?_
 refine kp [2] rfl ?_
 refine Run.ret ?_
 exact ret_one (.tmp rfl .nil) (by first | (simp [tup, Mv.rQty, inB, *]; done) | (exfalso; omega)) .nil
 refine sx 5 ?_
 refine kp [2] rfl ?_
 refine Run.ret ?_
 exact ret_one (.tmp rfl .nil) (by first | (simp [tup, Mv.rQty, inB, *]; done) | (exfalso; omega)) .nil
 refine Run.skip ?_
 refine sr ?_
 refine sx 4 ?_
 refine kp [2] rfl ?_
 refine Run.ret ?_
 exact ret_one (.tmp rfl .nil) (by first | (simp [tup, Mv.rQty, inB, *]; done) | (exfalso; omega)) .nil
-- accountingref33.cost
theorem ac130 (m : Mv) : AC Tryz.prog 130 ⟨[.agg ⟨m.c⟩]⟩ (stars []) (Ret (.bool m.costOk) []) := by
 refine AC.go Tryz.func130 rfl (Nat.le_of_ble_eq_true rfl) fun β => ?_
 refine sr ?_
 refine RunL.op rfl rfl (OpJ.boxA rfl fun b1 => ?_)
 refine asg rfl rfl ?_
 refine kp [1] rfl ?_
 refine Run.seq ?_
 refine sr ?_
 refine sx 2 ?_
 refine kp [1, 4] rfl ?_
 refine Run.block ?_
 refine Run.seq ?_
 refine sr ?_
 refine sx 2 ?_
 refine kp [1, 4, 5] rfl ?_
 first | refine Run.if rfl (fun h1 => ?_) (fun h1 => ?_) | refine Run.cond rfl (fun h1 => ?_) (fun h1 => ?_)
 refine Run.skip ?_
 first | refine Run.if rfl (fun h2 => ?_) (fun h2 => ?_) | refine Run.cond rfl (fun h2 => ?_) (fun h2 => ?_)
 refine sr ?_
 refine sx 4 ?_
 refine kp [2] rfl ?_
 refine Run.ret ?_
 exact ret_one (.tmp rfl .nil) (by first | (simp [tup, Mv.costOk, inB, *]; done) | (exfalso; omega)) .nil
 refine sr ?_
 refine sx 2 ?_
 refine kp [1, 11] rfl ?_
 first | refine Run.if rfl (fun h3 => ?_) (fun h3 => ?_) | refine Run.cond rfl (fun h3 => ?_) (fun h3 => ?_)
 refine sr ?_
 refine sx 4 ?_
 first | refine RunL.splitP (t := 16) rfl (fun g4 => ?_) (fun g4 => ?_) | refine RunL.split (t := 16) rfl (fun g4 => ?_) (fun g4 => ?_)
 refine sx 5 ?_
 refine kp [2] rfl ?_
 refine Run.ret ?_
 exact ret_one (.tmp rfl .nil) (by first | (simp [tup, Mv.costOk, inB, *]; done) | (exfalso; omega)) .nil
 refine sx 5 ?_
 refine kp [2] rfl ?_
 refine Run.ret ?_
 exact ret_one (.tmp rfl .nil) (by first | (simp [tup, Mv.costOk, inB, *]; done) | (exfalso; omega)) .nil
 refine Run.skip ?_
 refine sr ?_
 refine sx 4 ?_
 first | refine RunL.splitP (t := 24) rfl (fun g5 => ?_) (fun g5 => ?_) | refine RunL.split (t := 24) rfl (fun g5 => ?_) (fun g5 => ?_)
 refine sx 5 ?_
 refine kp [2] rfl ?_
 refine Run.ret ?_
 exact ret_one (.tmp rfl .nil) (by first | (simp [tup, Mv.costOk, inB, *]; done) | (exfalso; omega)) .nil
 refine sx 5 ?_
 refine kp [2] rfl ?_
 refine Run.ret ?_
 exact ret_one (.tmp rfl .nil) (by first | (simp [tup, Mv.costOk, inB, *]; done) | (exfalso; omega)) .nil
 refine Run.region ?_
 refine sx 2 ?_
 refine kp [1, 4, 5] rfl ?_
 first | refine Run.if rfl (fun h6 => ?_) (fun h6 => ?_) | refine Run.cond rfl (fun h6 => ?_) (fun h6 => ?_)
 refine sr ?_
 refine sx 4 ?_
 refine kp [2] rfl ?_
 refine Run.ret ?_
 exact ret_one (.tmp rfl .nil) (by first | (simp [tup, Mv.costOk, inB, *]; done) | (exfalso; omega)) .nil
 refine sr ?_
 refine sx 2 ?_
 refine kp [1, 11] rfl ?_
 first | refine Run.if rfl (fun h7 => ?_) (fun h7 => ?_) | refine Run.cond rfl (fun h7 => ?_) (fun h7 => ?_)
 refine sr ?_
 refine sx 4 ?_
 first | refine RunL.splitP (t := 16) rfl (fun g8 => ?_) (fun g8 => ?_) | refine RunL.split (t := 16) rfl (fun g8 => ?_) (fun g8 => ?_)
 refine sx 5 ?_
 refine kp [2] rfl ?_
 refine Run.ret ?_
 exact ret_one (.tmp rfl .nil) (by first | (simp [tup, Mv.costOk, inB, *]; done) | (exfalso; omega)) .nil
 refine sx 5 ?_
 refine kp [2] rfl ?_
 refine Run.ret ?_
 exact ret_one (.tmp rfl .nil) (by first | (simp [tup, Mv.costOk, inB, *]; done) | (exfalso; omega)) .nil
 refine Run.skip ?_
 refine sr ?_
 refine sx 4 ?_
 first | refine RunL.splitP (t := 24) rfl (fun g9 => ?_) (fun g9 => ?_) | refine RunL.split (t := 24) rfl (fun g9 => ?_) (fun g9 => ?_)
 refine sx 5 ?_
 refine kp [2] rfl ?_
 refine Run.ret ?_
 exact ret_one (.tmp rfl .nil) (by first | (simp [tup, Mv.costOk, inB, *]; done) | (exfalso; omega)) .nil
 refine sx 5 ?_
 refine kp [2] rfl ?_
 refine Run.ret ?_
 exact ret_one (.tmp rfl .nil) (by first | (simp [tup, Mv.costOk, inB, *]; done) | (exfalso; omega)) .nil
-- accountingref06.Code
theorem ac128 (s : ByteArray) (hs : (s.size : Int) ≤ 9223372036854775807) : AC Tryz.prog 128 ⟨[St s]⟩ (stars []) (Ret (Bo (codeB s)) []) := by
 refine AC.go Tryz.func128 rfl (Nat.le_of_ble_eq_true rfl) fun β => ?_
 refine sr ?_
 refine asg rfl rfl ?_
 refine kp [0] rfl ?_
 refine Run.seq ?_
 refine sr ?_
 refine asg rfl rfl ?_
 refine kp [0, 3] rfl ?_
 refine Run.block ?_
 refine Run.loop (fun mm E L => ∃ i : Nat, mm = s.size - i ∧ i ≤ s.size ∧ (∀ (j : Nat) u, j < i → s[j]? = some u → byteOk u = true) ∧ E = [(0, St s), (3, I i)] ∧ L = []) ⟨_, 0, rfl, Nat.zero_le _, fun _ _ h => by omega, rfl, rfl⟩ ?_
 rintro _ _ _ ⟨i, rfl, hi, hI0, rfl, rfl⟩
 refine Run.seq ?_
 refine sr ?_
 refine sx 4 ?_
 refine kp [0, 3, 7] rfl ?_
 first | refine Run.if rfl (fun h1 => ?_) (fun h1 => ?_) | refine Run.cond rfl (fun h1 => ?_) (fun h1 => ?_)
 refine Run.skip ?_
 refine Run.seq ?_
 refine Run.block ?_
 refine sr ?_
 obtain ⟨u, hu⟩ := byte_ex (s := s) (i := i) (by omega)
 refine sx 2 ?_
 refine RunL.op rfl rfl (OpJ.indexS U9 rfl rfl (by omega) hu ?_)
 refine RunL.call C158 rfl rfl rfl (ac158 _) .nil ?_
 refine sx 2 ?_
 first | refine RunL.splitP (t := 15) rfl (fun g2 => ?_) (fun g2 => ?_) | refine RunL.split (t := 15) rfl (fun g2 => ?_) (fun g2 => ?_)
 refine sx 2 ?_
 refine RunL.yes rfl rfl rfl rfl (OpJ.indexS U9 rfl rfl (by omega) hu ?_)
 refine RunL.callG C159 rfl rfl rfl rfl rfl (ac159 _) .nil ?_
 refine sx 2 ?_
 refine kp [0, 3, 21] rfl ?_
 first | refine Run.if rfl (fun h3 => ?_) (fun h3 => ?_) | refine Run.cond rfl (fun h3 => ?_) (fun h3 => ?_)
 refine sr ?_
 refine asg rfl rfl ?_
 refine kp [2] rfl ?_
 refine Run.ret ?_
 exact ret_one (.tmp rfl .nil) (congrArg Bo (rcode_bad hu (by unfold byteOk; simp_all)).symm) gv
 refine Run.skip ?_
 refine Run.region ?_
 refine sx 3 ?_
 exact RunL.next (Keep.sub (kt (ks := [0, 3]) rfl)) _ ⟨_, by omega, i + 1, rfl, by omega, fun j v hj hv => (by rcases Nat.lt_succ_iff_lt_or_eq.1 hj with h | rfl; exact hI0 j v h hv; rw [hu] at hv; cases hv; exact (by unfold byteOk; simp_all)), rfl, rfl⟩ gv
 refine sx 6 ?_
 refine kp [0, 3, 21] rfl ?_
 refine Run.false rfl ?_
 refine Run.skip ?_
 refine Run.region ?_
 refine sx 3 ?_
 exact RunL.next (Keep.sub (kt (ks := [0, 3]) rfl)) _ ⟨_, by omega, i + 1, rfl, by omega, fun j v hj hv => (by rcases Nat.lt_succ_iff_lt_or_eq.1 hj with h | rfl; exact hI0 j v h hv; rw [hu] at hv; cases hv; exact (by unfold byteOk; simp_all)), rfl, rfl⟩ gv
 refine Run.exit ?_
 refine sr ?_
 refine sx 4 ?_
 first | refine RunL.splitP (t := 25) rfl (fun g4 => ?_) (fun g4 => ?_) | refine RunL.split (t := 25) rfl (fun g4 => ?_) (fun g4 => ?_)
 refine sx 5 ?_
 refine kp [2] rfl ?_
 refine Run.ret ?_
 exact ret_one (.tmp rfl .nil) (congrArg Bo (rcode_end (fun j u hj hu => hI0 j u (by omega) hu) (by omega)).symm) gv
 refine sx 5 ?_
 refine kp [2] rfl ?_
 refine Run.ret ?_
 exact ret_one (.tmp rfl .nil) (congrArg Bo (rcode_short (by omega)).symm) gv
-- accountingref33.One
theorem ac91 (m : Mv) (hi : (m.item.size : Int) ≤ 9223372036854775807) (hl : (m.lot.size : Int) ≤ 9223372036854775807) : AC Tryz.prog 91 ⟨[.agg ⟨m.c⟩]⟩ (stars []) (Ret (I m.one) []) := by
 refine AC.go Tryz.func91 rfl (Nat.le_of_ble_eq_true rfl) fun β => ?_
 refine sr ?_
 refine RunL.op rfl rfl (OpJ.boxA rfl fun b1 => ?_)
 refine asg rfl rfl ?_
 refine kp [1] rfl ?_
 refine Run.seq ?_
 refine Run.block ?_
 refine sr ?_
 refine sx 2 ?_
 refine RunL.call C127 rfl rfl rfl (ac127 _) .nil ?_
 refine sx 2 ?_
 refine kp [1, 3] rfl ?_
 first | refine Run.if rfl (fun h1 => ?_) (fun h1 => ?_) | refine Run.cond rfl (fun h1 => ?_) (fun h1 => ?_)
 refine sr ?_
 refine asg rfl rfl ?_
 refine kp [2] rfl ?_
 refine Run.ret ?_
 exact ret_one (.tmp rfl .nil) (by first | (simp [tup, Mv.one, Mv.refBad, Mv.lotOk, *]; done) | (exfalso; simp_all; done)) gv
 refine sr ?_
 refine sx 2 ?_
 refine RunL.call C128 rfl rfl rfl (ac128 _ (by omega)) .nil ?_
 refine sx 2 ?_
 refine kp [1, 8] rfl ?_
 first | refine Run.if rfl (fun h2 => ?_) (fun h2 => ?_) | refine Run.cond rfl (fun h2 => ?_) (fun h2 => ?_)
 refine sr ?_
 refine asg rfl rfl ?_
 refine kp [2] rfl ?_
 refine Run.ret ?_
 exact ret_one (.tmp rfl .nil) (by first | (simp [tup, Mv.one, Mv.refBad, Mv.lotOk, *]; done) | (exfalso; simp_all; done)) gv
 refine sr ?_
 refine sx 4 ?_
 first | refine RunL.splitP (t := 17) rfl (fun g3 => ?_) (fun g3 => ?_) | refine RunL.split (t := 17) rfl (fun g3 => ?_) (fun g3 => ?_)
 refine sx 5 ?_
 refine kp [1, 13] rfl ?_
 refine Run.true rfl ?_
 refine sr ?_
 have hk : inB m.kind 1 6 = false := by unfold inB; exact decide_eq_false (by omega)
 refine asg rfl rfl ?_
 refine kp [2] rfl ?_
 refine Run.ret ?_
 exact ret_one (.tmp rfl .nil) (by first | (simp [tup, Mv.one, Mv.refBad, Mv.lotOk, *]; done) | (exfalso; simp_all; done)) gv
 refine sx 5 ?_
 refine kp [1, 13] rfl ?_
 first | refine Run.if rfl (fun h4 => ?_) (fun h4 => ?_) | refine Run.cond rfl (fun h4 => ?_) (fun h4 => ?_)
 refine sr ?_
 have hk : inB m.kind 1 6 = false := by unfold inB; exact decide_eq_false (by omega)
 refine asg rfl rfl ?_
 refine kp [2] rfl ?_
 refine Run.ret ?_
 exact ret_one (.tmp rfl .nil) (by first | (simp [tup, Mv.one, Mv.refBad, Mv.lotOk, *]; done) | (exfalso; simp_all; done)) gv
 refine sr ?_
 have hk : inB m.kind 1 6 = true := by unfold inB; exact decide_eq_true (by omega)
 have hk1 := kind_two hk
 refine sx 1 ?_
 refine RunL.call C129 rfl rfl rfl (ac129 _) .nil ?_
 refine sx 2 ?_
 first | refine RunL.splitP (t := 26) rfl (fun g5 => ?_) (fun g5 => ?_) | refine RunL.split (t := 26) rfl (fun g5 => ?_) (fun g5 => ?_)
 refine sx 5 ?_
 refine kp [1, 22] rfl ?_
 refine Run.true rfl ?_
 refine sr ?_
 rw [rQty_eq hk] at *
 refine asg rfl rfl ?_
 refine kp [2] rfl ?_
 refine Run.ret ?_
 exact ret_one (.tmp rfl .nil) (by first | (simp [tup, Mv.one, Mv.refBad, Mv.lotOk, *]; done) | (exfalso; simp_all; done)) gv
 refine sx 1 ?_
 refine RunL.callG C130 rfl rfl rfl rfl rfl (ac130 _) .nil ?_
 refine sx 3 ?_
 refine kp [1, 22] rfl ?_
 first | refine Run.if rfl (fun h6 => ?_) (fun h6 => ?_) | refine Run.cond rfl (fun h6 => ?_) (fun h6 => ?_)
 refine sr ?_
 rw [rQty_eq hk] at *
 refine asg rfl rfl ?_
 refine kp [2] rfl ?_
 refine Run.ret ?_
 exact ret_one (.tmp rfl .nil) (by first | (simp [tup, Mv.one, Mv.refBad, Mv.lotOk, *]; done) | (exfalso; simp_all; done)) gv
 refine sr ?_
 rw [rQty_eq hk] at *
 refine sx 4 ?_
 first | refine RunL.splitP (t := 35) rfl (fun g7 => ?_) (fun g7 => ?_) | refine RunL.split (t := 35) rfl (fun g7 => ?_) (fun g7 => ?_)
 refine sx 2 ?_
 refine RunL.callG C128 rfl rfl rfl rfl rfl (ac128 _ (by omega)) .nil ?_
 refine sx 2 ?_
 first | refine RunL.splitP (t := 40) rfl (fun g8 => ?_) (fun g8 => ?_) | refine RunL.split (t := 40) rfl (fun g8 => ?_) (fun g8 => ?_)
 refine sx 6 ?_
 refine kp [1, 31] rfl ?_
 refine Run.true rfl ?_
 refine sr ?_
 refine asg rfl rfl ?_
 refine kp [2] rfl ?_
 refine Run.ret ?_
 exact ret_one (.tmp rfl .nil) (by first | (simp [tup, Mv.one, Mv.refBad, Mv.lotOk, *]; done) | (exfalso; simp_all; done)) gv
 refine sx 6 ?_
 refine kp [1, 31] rfl ?_
 first | refine Run.if rfl (fun h9 => ?_) (fun h9 => ?_) | refine Run.cond rfl (fun h9 => ?_) (fun h9 => ?_)
 refine sr ?_
 refine asg rfl rfl ?_
 refine kp [2] rfl ?_
 refine Run.ret ?_
 exact ret_one (.tmp rfl .nil) (by first | (simp [tup, Mv.one, Mv.refBad, Mv.lotOk, *]; done) | (exfalso; simp_all; done)) gv
 refine sr ?_
 refine sx 2 ?_
 refine RunL.call C131 rfl rfl rfl (ac131 _) .nil ?_
 refine mvo rfl rfl ?_
 first | refine RunL.splitP (t := 50) rfl (fun g10 => ?_) (fun g10 => ?_) | refine RunL.split (t := 50) rfl (fun g10 => ?_) (fun g10 => ?_)
 refine sx 5 ?_
 first | refine RunL.splitP (t := 55) rfl (fun g11 => ?_) (fun g11 => ?_) | refine RunL.split (t := 55) rfl (fun g11 => ?_) (fun g11 => ?_)
 refine sx 11 ?_
 refine kp [46] rfl ?_
 refine Run.true rfl ?_
 refine sr ?_
 refine asg rfl rfl ?_
 refine kp [2] rfl ?_
 refine Run.ret ?_
 exact ret_one (.tmp rfl .nil) (by first | (simp [tup, Mv.one, Mv.refBad, Mv.lotOk, *]; done) | (exfalso; simp_all; done)) gv
 refine sx 2 ?_
 refine RunL.callG C131 rfl rfl rfl rfl rfl (ac131 _) .nil ?_
 refine sx 2 ?_
 first | refine RunL.splitP (t := 60) rfl (fun g12 => ?_) (fun g12 => ?_) | refine RunL.split (t := 60) rfl (fun g12 => ?_) (fun g12 => ?_)
 refine sx 6 ?_
 refine kp [46] rfl ?_
 first | refine Run.if rfl (fun h13 => ?_) (fun h13 => ?_) | refine Run.cond rfl (fun h13 => ?_) (fun h13 => ?_)
 refine sr ?_
 refine asg rfl rfl ?_
 refine kp [2] rfl ?_
 refine Run.ret ?_
 exact ret_one (.tmp rfl .nil) (by first | (simp [tup, Mv.one, Mv.refBad, Mv.lotOk, *]; done) | (exfalso; simp_all; done)) gv
 refine Run.skip ?_
 refine sr ?_
 refine asg rfl rfl ?_
 refine kp [2] rfl ?_
 refine Run.ret ?_
 exact ret_one (.tmp rfl .nil) (by first | (simp [tup, Mv.one, Mv.refBad, Mv.lotOk, *]; done) | (exfalso; simp_all; done)) gv
 refine sx 6 ?_
 refine kp [46] rfl ?_
 refine Run.false rfl ?_
 refine Run.skip ?_
 refine sr ?_
 refine asg rfl rfl ?_
 refine kp [2] rfl ?_
 refine Run.ret ?_
 exact ret_one (.tmp rfl .nil) (by first | (simp [tup, Mv.one, Mv.refBad, Mv.lotOk, *]; done) | (exfalso; simp_all; done)) gv
 refine sx 7 ?_
 refine RunL.callG C131 rfl rfl rfl rfl rfl (ac131 _) .nil ?_
 refine sx 2 ?_
 first | refine RunL.splitP (t := 60) rfl (fun g14 => ?_) (fun g14 => ?_) | refine RunL.split (t := 60) rfl (fun g14 => ?_) (fun g14 => ?_)
 refine sx 6 ?_
 refine kp [46] rfl ?_
 first | refine Run.if rfl (fun h15 => ?_) (fun h15 => ?_) | refine Run.cond rfl (fun h15 => ?_) (fun h15 => ?_)
 refine sr ?_
 refine asg rfl rfl ?_
 refine kp [2] rfl ?_
 refine Run.ret ?_
 exact ret_one (.tmp rfl .nil) (by first | (simp [tup, Mv.one, Mv.refBad, Mv.lotOk, *]; done) | (exfalso; simp_all; done)) gv
 refine Run.skip ?_
 refine sr ?_
 refine asg rfl rfl ?_
 refine kp [2] rfl ?_
 refine Run.ret ?_
 exact ret_one (.tmp rfl .nil) (by first | (simp [tup, Mv.one, Mv.refBad, Mv.lotOk, *]; done) | (exfalso; simp_all; done)) gv
 refine sx 6 ?_
 refine kp [46] rfl ?_
 refine Run.false rfl ?_
 refine Run.skip ?_
 refine sr ?_
 refine asg rfl rfl ?_
 refine kp [2] rfl ?_
 refine Run.ret ?_
 exact ret_one (.tmp rfl .nil) (by first | (simp [tup, Mv.one, Mv.refBad, Mv.lotOk, *]; done) | (exfalso; simp_all; done)) gv
 refine sx 11 ?_
 refine kp [1, 31] rfl ?_
 refine Run.false rfl ?_
 refine sr ?_
 refine sx 2 ?_
 refine RunL.call C131 rfl rfl rfl (ac131 _) .nil ?_
 refine mvo rfl rfl ?_
 first | refine RunL.splitP (t := 50) rfl (fun g16 => ?_) (fun g16 => ?_) | refine RunL.split (t := 50) rfl (fun g16 => ?_) (fun g16 => ?_)
 refine sx 5 ?_
 first | refine RunL.splitP (t := 55) rfl (fun g17 => ?_) (fun g17 => ?_) | refine RunL.split (t := 55) rfl (fun g17 => ?_) (fun g17 => ?_)
 refine sx 11 ?_
 refine kp [46] rfl ?_
 refine Run.true rfl ?_
 refine sr ?_
 refine asg rfl rfl ?_
 refine kp [2] rfl ?_
 refine Run.ret ?_
 exact ret_one (.tmp rfl .nil) (by first | (simp [tup, Mv.one, Mv.refBad, Mv.lotOk, *]; done) | (exfalso; simp_all; done)) gv
 refine sx 2 ?_
 refine RunL.callG C131 rfl rfl rfl rfl rfl (ac131 _) .nil ?_
 refine sx 2 ?_
 first | refine RunL.splitP (t := 60) rfl (fun g18 => ?_) (fun g18 => ?_) | refine RunL.split (t := 60) rfl (fun g18 => ?_) (fun g18 => ?_)
 refine sx 6 ?_
 refine kp [46] rfl ?_
 first | refine Run.if rfl (fun h19 => ?_) (fun h19 => ?_) | refine Run.cond rfl (fun h19 => ?_) (fun h19 => ?_)
 refine sr ?_
 refine asg rfl rfl ?_
 refine kp [2] rfl ?_
 refine Run.ret ?_
 exact ret_one (.tmp rfl .nil) (by first | (simp [tup, Mv.one, Mv.refBad, Mv.lotOk, *]; done) | (exfalso; simp_all; done)) gv
 refine Run.skip ?_
 refine sr ?_
 refine asg rfl rfl ?_
 refine kp [2] rfl ?_
 refine Run.ret ?_
 exact ret_one (.tmp rfl .nil) (by first | (simp [tup, Mv.one, Mv.refBad, Mv.lotOk, *]; done) | (exfalso; simp_all; done)) gv
 refine sx 6 ?_
 refine kp [46] rfl ?_
 refine Run.false rfl ?_
 refine Run.skip ?_
 refine sr ?_
 refine asg rfl rfl ?_
 refine kp [2] rfl ?_
 refine Run.ret ?_
 exact ret_one (.tmp rfl .nil) (by first | (simp [tup, Mv.one, Mv.refBad, Mv.lotOk, *]; done) | (exfalso; simp_all; done)) gv
 refine sx 7 ?_
 refine RunL.callG C131 rfl rfl rfl rfl rfl (ac131 _) .nil ?_
 refine sx 2 ?_
 first | refine RunL.splitP (t := 60) rfl (fun g20 => ?_) (fun g20 => ?_) | refine RunL.split (t := 60) rfl (fun g20 => ?_) (fun g20 => ?_)
 refine sx 6 ?_
 refine kp [46] rfl ?_
 first | refine Run.if rfl (fun h21 => ?_) (fun h21 => ?_) | refine Run.cond rfl (fun h21 => ?_) (fun h21 => ?_)
 refine sr ?_
 refine asg rfl rfl ?_
 refine kp [2] rfl ?_
 refine Run.ret ?_
 exact ret_one (.tmp rfl .nil) (by first | (simp [tup, Mv.one, Mv.refBad, Mv.lotOk, *]; done) | (exfalso; simp_all; done)) gv
 refine Run.skip ?_
 refine sr ?_
 refine asg rfl rfl ?_
 refine kp [2] rfl ?_
 refine Run.ret ?_
 exact ret_one (.tmp rfl .nil) (by first | (simp [tup, Mv.one, Mv.refBad, Mv.lotOk, *]; done) | (exfalso; simp_all; done)) gv
 refine sx 6 ?_
 refine kp [46] rfl ?_
 refine Run.false rfl ?_
 refine Run.skip ?_
 refine sr ?_
 refine asg rfl rfl ?_
 refine kp [2] rfl ?_
 refine Run.ret ?_
 exact ret_one (.tmp rfl .nil) (by first | (simp [tup, Mv.one, Mv.refBad, Mv.lotOk, *]; done) | (exfalso; simp_all; done)) gv
end
end Go.Proofs.YtdcchollplhioaaGreatDoor

namespace Go.Proofs.YtdcchollplhioaaGreatDoor
open Go Go.SL Go.Proofs
section
attribute [local irreducible] OpJ RunL Run RunD DetJ pt own star Rd RdS
-- accountingref02.mag
theorem ac168 (n : Int) (hn : i64 n) : AC Tryz.prog 168 ⟨[I n]⟩ (stars []) (Ret (U (mag n)) []) := by
 refine AC.go Tryz.func168 rfl (Nat.le_of_ble_eq_true rfl) fun β => ?_
 refine sr ?_
 refine asg rfl rfl ?_
 refine kp [0] rfl ?_
 refine Run.seq ?_
 refine sr ?_
 refine sx 2 ?_
 refine kp [0, 4] rfl ?_
 first | refine Run.if rfl (fun h1 => ?_) (fun h1 => ?_) | refine Run.cond rfl (fun h1 => ?_) (fun h1 => ?_)
 refine sr ?_
 refine mvo rfl rfl ?_
 refine RunL.op rfl rfl (OpJ.add rfl rfl ?_)
 refine sx 2 ?_
 refine RunL.op rfl rfl (OpJ.add rfl rfl ?_)
 refine asg rfl rfl ?_
 refine kp [2] rfl ?_
 refine Run.ret ?_
 exact ret_one (.tmp rfl .nil) (congrArg U (mag_conv_ref hn h1)) gv
 refine Run.skip ?_
 refine sr ?_
 refine sx 3 ?_
 refine kp [2] rfl ?_
 refine Run.ret ?_
 exact ret_one (.tmp rfl .nil) (congrArg U (mag_conv_pos hn h1)) gv
-- accountingref01.size
theorem ac166 (n : Int) (hn : i64 n) : AC Tryz.prog 166 ⟨[I n]⟩ (stars []) (Ret (U (mag n)) []) := by
 refine AC.go Tryz.func166 rfl (Nat.le_of_ble_eq_true rfl) fun β => ?_
 refine sr ?_
 refine asg rfl rfl ?_
 refine kp [0] rfl ?_
 refine Run.seq ?_
 refine sr ?_
 refine sx 2 ?_
 refine kp [0, 4] rfl ?_
 first | refine Run.if rfl (fun h1 => ?_) (fun h1 => ?_) | refine Run.cond rfl (fun h1 => ?_) (fun h1 => ?_)
 refine sr ?_
 refine sx 2 ?_
 refine RunL.op rfl rfl (OpJ.sub rfl rfl ?_)
 refine RunL.op rfl rfl (OpJ.add rfl rfl ?_)
 refine asg rfl rfl ?_
 refine kp [2] rfl ?_
 refine Run.ret ?_
 exact ret_one (.tmp rfl .nil) (congrArg U (size_conv hn h1)) gv
 refine Run.skip ?_
 refine sr ?_
 refine sx 3 ?_
 refine kp [2] rfl ?_
 refine Run.ret ?_
 exact ret_one (.tmp rfl .nil) (congrArg U (mag_conv_pos hn h1)) gv
-- accountingref02.wide
theorem ac167 (a b : Int) (ha : u64 a) (hb : u64 b) : AC Tryz.prog 167 ⟨[U a, U b]⟩ (stars []) (Ret (.tuple ⟨[U (a * b / 18446744073709551616), U (a * b % 18446744073709551616)]⟩) []) := by
 have ea1 := hi32' ha; have ea0 := lo32 a; have eb1 := hi32' hb; have eb0 := lo32 b
 have p11 := mul32 ea1 eb1; have p10 := mul32 ea1 eb0; have p01 := mul32 ea0 eb1; have p00 := mul32 ea0 eb0
 have hw := wide_words a b ha hb
 simp only at hw
 refine AC.go Tryz.func167 rfl (Nat.le_of_ble_eq_true rfl) fun β => ?_
 refine sr ?_
 refine sx 2 ?_
 refine kp [0, 1] rfl ?_
 refine sr ?_
 refine mvo rfl rfl ?_
 refine RunL.op rfl rfl (OpJ.quoU rfl rfl (by omega) (by omega) ?_)
 refine mvo rfl rfl ?_
 refine RunL.op rfl rfl (OpJ.remU rfl rfl (by omega) (by omega) ?_)
 refine sx 2 ?_
 refine kp [1, 6, 7] rfl ?_
 refine sr ?_
 refine mvo rfl rfl ?_
 refine RunL.op rfl rfl (OpJ.quoU rfl rfl (by omega) (by omega) ?_)
 refine mvo rfl rfl ?_
 refine RunL.op rfl rfl (OpJ.remU rfl rfl (by omega) (by omega) ?_)
 refine sx 2 ?_
 refine kp [6, 7, 8, 9] rfl ?_
 refine sr ?_
 refine sx 2 ?_
 refine RunL.op rfl rfl (OpJ.mulU rfl rfl (mul32u (by omega) (by omega)) ?_)
 refine asg rfl rfl ?_
 refine kp [6, 7, 8, 9, 10] rfl ?_
 refine sr ?_
 refine sx 2 ?_
 refine RunL.op rfl rfl (OpJ.mulU rfl rfl (mul32u (by omega) (by omega)) ?_)
 refine mvo rfl rfl ?_
 refine RunL.op rfl rfl (OpJ.quoU rfl rfl (by omega) (by omega) ?_)
 refine RunL.op rfl rfl (OpJ.addU rfl rfl (by omega) ?_)
 refine asg rfl rfl ?_
 refine kp [6, 7, 8, 10, 11] rfl ?_
 refine sr ?_
 refine sx 2 ?_
 refine RunL.op rfl rfl (OpJ.mulU rfl rfl (mul32u (by omega) (by omega)) ?_)
 refine mvo rfl rfl ?_
 refine RunL.op rfl rfl (OpJ.remU rfl rfl (by omega) (by omega) ?_)
 refine RunL.op rfl rfl (OpJ.addU rfl rfl (by omega) ?_)
 refine asg rfl rfl ?_
 refine kp [6, 8, 10, 11, 12] rfl ?_
 refine sr ?_
 refine sx 2 ?_
 refine RunL.op rfl rfl (OpJ.mulU rfl rfl (mul32u (by omega) (by omega)) ?_)
 refine mvo rfl rfl ?_
 refine RunL.op rfl rfl (OpJ.quoU rfl rfl (by omega) (by omega) ?_)
 refine RunL.op rfl rfl (OpJ.addU rfl rfl (by omega) ?_)
 refine mvo rfl rfl ?_
 refine RunL.op rfl rfl (OpJ.quoU rfl rfl (by omega) (by omega) ?_)
 refine RunL.op rfl rfl (OpJ.addU rfl rfl (by omega) ?_)
 refine mvo rfl rfl ?_
 refine RunL.op rfl rfl (OpJ.remU rfl rfl (by omega) (by omega) ?_)
 refine RunL.op rfl rfl (OpJ.mulU rfl rfl (by omega) ?_)
 refine mvo rfl rfl ?_
 refine RunL.op rfl rfl (OpJ.remU rfl rfl (by omega) (by omega) ?_)
 refine RunL.op rfl rfl (OpJ.addU rfl rfl (by omega) ?_)
 refine sx 2 ?_
 refine kp [4, 5] rfl ?_
 refine Run.ret ?_
 exact ret_one (.tmp rfl (.tmp rfl .nil)) (words_tup hw (by omega)) .nil
-- accountingref02.divide
theorem ac169 (hi lo c : Int) (hhi : u64 hi) (hlo : u64 lo) (hc : 0 < c) (hcu : u64 c) : AC Tryz.prog 169 ⟨[U hi, U lo, U c]⟩ (stars []) (Ret (.tuple ⟨[U ((hi * 18446744073709551616 + lo) / c / 18446744073709551616), U ((hi * 18446744073709551616 + lo) / c % 18446744073709551616), U ((hi * 18446744073709551616 + lo) % c)]⟩) []) := by
 refine AC.go Tryz.func169 rfl (Nat.le_of_ble_eq_true rfl) fun β => ?_
 refine sr ?_
 refine sx 3 ?_
 refine kp [0, 1, 2] rfl ?_
 refine sr ?_
 refine sx 3 ?_
 refine kp [0, 1, 2, 9, 10, 11] rfl ?_
 refine Run.seq ?_
 refine sr ?_
 refine asg rfl rfl ?_
 refine kp [0, 1, 2, 9, 10, 11, 12] rfl ?_
 refine Run.block ?_
 refine Run.loop (fun mm E L => ∃ i : Nat, ∃ a b qh ql r : Int, mm = 128 - i ∧ i ≤ 128 ∧ LInv (hi * 18446744073709551616 + lo) c i a b qh ql r ∧ E = [(0, U a), (1, U b), (2, U c), (9, U qh), (10, U ql), (11, U r), (12, I i)] ∧ L = []) ⟨_, 0, hi, lo, 0, 0, 0, rfl, Nat.zero_le _, LInv.start hhi hlo hc, rfl, rfl⟩ ?_
 rintro _ _ _ ⟨i, a, b, qh, ql, r, rfl, hi2, hL, rfl, rfl⟩
 have ua := hL.uh; have ub := hL.ul; have uqh := hL.uqh; have uql := hL.uql; have r0 := hL.r0; have rc := hL.rc
 refine Run.seq ?_
 refine sr ?_
 refine sx 2 ?_
 refine kp [0, 1, 2, 9, 10, 11, 12, 15] rfl ?_
 first | refine Run.if rfl (fun h1 => ?_) (fun h1 => ?_) | refine Run.cond rfl (fun h1 => ?_) (fun h1 => ?_)
 refine Run.skip ?_
 refine Run.seq ?_
 refine Run.block ?_
 refine sr ?_
 have hS := hL.step (by omega) hcu
 refine sx 3 ?_
 refine kp [0, 1, 2, 9, 10, 11, 12, 13] rfl ?_
 refine sr ?_
 refine sx 3 ?_
 refine RunL.op rfl rfl (OpJ.quoU rfl rfl (by omega) (by omega) ?_)
 refine RunL.op rfl rfl (OpJ.add rfl rfl ?_)
 refine RunL.set (congrArg U (show _ = (2 * r + a / 9223372036854775808) % 18446744073709551616 by rw [wrap_u64, wrap_u64]; omega)) ?_
 refine asg rfl rfl ?_
 refine kp [0, 1, 2, 9, 10, 11, 12, 13] rfl ?_
 refine sr ?_
 refine sx 3 ?_
 refine RunL.op rfl rfl (OpJ.quoU rfl rfl (by omega) (by omega) ?_)
 refine RunL.op rfl rfl (OpJ.add rfl rfl ?_)
 refine RunL.set (congrArg U (show _ = 2 * a % 18446744073709551616 + b / 9223372036854775808 by rw [wrap_u64, wrap_u64]; omega)) ?_
 refine asg rfl rfl ?_
 refine kp [0, 1, 2, 9, 10, 11, 12, 13] rfl ?_
 refine sr ?_
 refine sx 2 ?_
 refine RunL.set (congrArg U (show _ = 2 * b % 18446744073709551616 by rw [wrap_u64])) ?_
 refine asg rfl rfl ?_
 refine kp [0, 1, 2, 9, 10, 11, 12, 13] rfl ?_
 refine sr ?_
 refine sx 3 ?_
 refine RunL.op rfl rfl (OpJ.quoU rfl rfl (by omega) (by omega) ?_)
 refine RunL.op rfl rfl (OpJ.add rfl rfl ?_)
 refine RunL.set (congrArg U (show _ = 2 * qh % 18446744073709551616 + ql / 9223372036854775808 by rw [wrap_u64, wrap_u64]; omega)) ?_
 refine asg rfl rfl ?_
 refine kp [0, 1, 2, 9, 10, 11, 12, 13] rfl ?_
 refine sr ?_
 refine sx 2 ?_
 refine RunL.set (congrArg U (show _ = 2 * ql % 18446744073709551616 by rw [wrap_u64])) ?_
 refine asg rfl rfl ?_
 refine kp [0, 1, 2, 9, 10, 11, 12, 13] rfl ?_
 refine sr ?_
 refine sx 2 ?_
 first | refine RunL.splitP (t := 40) rfl (fun g2 => ?_) (fun g2 => ?_) | refine RunL.split (t := 40) rfl (fun g2 => ?_) (fun g2 => ?_)
 refine sx 4 ?_
 refine kp [0, 1, 2, 9, 10, 11, 12, 44] rfl ?_
 refine Run.true rfl ?_
 refine sr ?_
 refine sx 2 ?_
 refine RunL.op rfl rfl (OpJ.sub rfl rfl ?_)
 refine RunL.set (congrArg U (show _ = ((2 * r + a / 9223372036854775808) % 18446744073709551616 - c) % 18446744073709551616 by rw [wrap_u64])) ?_
 refine asg rfl rfl ?_
 refine kp [0, 1, 2, 9, 10, 11, 12] rfl ?_
 refine Run.region ?_
 refine mvo rfl rfl ?_
 refine RunL.op rfl rfl (OpJ.addU rfl rfl (by omega) ?_)
 refine asg rfl rfl ?_
 refine kp [0, 1, 2, 9, 10, 11, 12] rfl ?_
 refine Run.region ?_
 refine sx 3 ?_
 exact RunL.next (Keep.sub (kt (ks := [0, 1, 2, 9, 10, 11, 12]) rfl)) _ ⟨_, by omega, i + 1, _, _, _, _, _, rfl, by omega, (by first | exact hS.1 (.inl (by simpa using g2)) | exact hS.1 (.inr (by simpa using h3)) | exact hS.2 ⟨by simpa using g2, by simpa using h3⟩), rfl, rfl⟩ gv
 refine sx 4 ?_
 refine kp [0, 1, 2, 9, 10, 11, 12, 44] rfl ?_
 first | refine Run.if rfl (fun h3 => ?_) (fun h3 => ?_) | refine Run.cond rfl (fun h3 => ?_) (fun h3 => ?_)
 refine sr ?_
 refine sx 2 ?_
 refine RunL.op rfl rfl (OpJ.sub rfl rfl ?_)
 refine RunL.set (congrArg U (show _ = ((2 * r + a / 9223372036854775808) % 18446744073709551616 - c) % 18446744073709551616 by rw [wrap_u64])) ?_
 refine asg rfl rfl ?_
 refine kp [0, 1, 2, 9, 10, 11, 12] rfl ?_
 refine Run.region ?_
 refine mvo rfl rfl ?_
 refine RunL.op rfl rfl (OpJ.addU rfl rfl (by omega) ?_)
 refine asg rfl rfl ?_
 refine kp [0, 1, 2, 9, 10, 11, 12] rfl ?_
 refine Run.region ?_
 refine sx 3 ?_
 exact RunL.next (Keep.sub (kt (ks := [0, 1, 2, 9, 10, 11, 12]) rfl)) _ ⟨_, by omega, i + 1, _, _, _, _, _, rfl, by omega, (by first | exact hS.1 (.inl (by simpa using g2)) | exact hS.1 (.inr (by simpa using h3)) | exact hS.2 ⟨by simpa using g2, by simpa using h3⟩), rfl, rfl⟩ gv
 refine Run.skip ?_
 refine Run.region ?_
 refine sx 3 ?_
 exact RunL.next (Keep.sub (kt (ks := [0, 1, 2, 9, 10, 11, 12]) rfl)) _ ⟨_, by omega, i + 1, _, _, _, _, _, rfl, by omega, (by first | exact hS.1 (.inl (by simpa using g2)) | exact hS.1 (.inr (by simpa using h3)) | exact hS.2 ⟨by simpa using g2, by simpa using h3⟩), rfl, rfl⟩ gv
 refine Run.exit ?_
 refine sr ?_
 refine sx 6 ?_
 refine kp [6, 7, 8] rfl ?_
 refine Run.ret ?_
 exact ret_one (.tmp rfl (.tmp rfl (.tmp rfl .nil))) (hL.ret (by omega)) .nil
-- accountingref02.away
theorem ac170 (mode r c : Int) (neg odd : Bool) (hr : u64 r) (hc : u64 c) (hrc : r < c) : AC Tryz.prog 170 ⟨[I mode, Bo neg, Bo odd, U r, U c]⟩ (stars []) (Ret (Bo (awayB mode neg odd r c)) []) := by
 refine AC.go Tryz.func170 rfl (Nat.le_of_ble_eq_true rfl) fun β => ?_
 refine sr ?_
 refine asg rfl rfl ?_
 refine kp [0, 1, 2, 3, 4] rfl ?_
 refine Run.seq ?_
 refine sr ?_
 refine mvo rfl rfl ?_
 refine kp [1, 2, 3, 4, 11] rfl ?_
 refine Run.block ?_
 refine sr ?_
 refine sx 2 ?_
 refine kp [1, 2, 3, 4, 11, 12] rfl ?_
 first | refine Run.if rfl (fun h1 => ?_) (fun h1 => ?_) | refine Run.cond rfl (fun h1 => ?_) (fun h1 => ?_)
 refine sr ?_
 refine sx 3 ?_
 refine kp [10] rfl ?_
 refine Run.ret ?_
 exact ret_one (.tmp rfl .nil) (congrArg Bo (away_2 (by omega) hr.1)) gv
 refine sr ?_
 refine sx 2 ?_
 refine kp [1, 2, 3, 4, 11, 16] rfl ?_
 first | refine Run.if rfl (fun h2 => ?_) (fun h2 => ?_) | refine Run.cond rfl (fun h2 => ?_) (fun h2 => ?_)
 refine sr ?_
 refine sx 3 ?_
 refine RunL.op rfl rfl (OpJ.subU rfl rfl (by omega) ?_)
 refine sx 2 ?_
 refine kp [10] rfl ?_
 refine Run.ret ?_
 exact ret_one (.tmp rfl .nil) (congrArg Bo (away_3 (by omega) hr.1 hrc)) gv
 refine sr ?_
 refine sx 2 ?_
 refine kp [1, 2, 3, 4, 11, 23] rfl ?_
 first | refine Run.if rfl (fun h3 => ?_) (fun h3 => ?_) | refine Run.cond rfl (fun h3 => ?_) (fun h3 => ?_)
 refine sr ?_
 refine sx 3 ?_
 refine RunL.op rfl rfl (OpJ.subU rfl rfl (by omega) ?_)
 refine sx 2 ?_
 first | refine RunL.splitP (t := 30) rfl (fun g4 => ?_) (fun g4 => ?_) | refine RunL.split (t := 30) rfl (fun g4 => ?_) (fun g4 => ?_)
 refine sx 10 ?_
 refine kp [10] rfl ?_
 refine Run.ret ?_
 exact ret_one (.tmp rfl .nil) (congrArg Bo (away_4a (by omega) hrc hr.1 (by omega))) gv
 refine sx 3 ?_
 refine RunL.yes rfl rfl rfl rfl (OpJ.subU rfl rfl (by omega) ?_)
 refine sx 2 ?_
 first | refine RunL.splitP (t := 36) rfl (fun g5 => ?_) (fun g5 => ?_) | refine RunL.split (t := 36) rfl (fun g5 => ?_) (fun g5 => ?_)
 refine sx 4 ?_
 refine kp [10] rfl ?_
 refine Run.ret ?_
 exact ret_one (.tmp rfl .nil) (congrArg Bo (away_4b (by omega) hrc hr.1 (by omega))) gv
 refine sx 4 ?_
 refine kp [10] rfl ?_
 refine Run.ret ?_
 exact ret_one (.tmp rfl .nil) (congrArg Bo (away_4c (by omega) (by omega) (by omega))) gv
 refine sr ?_
 refine sx 2 ?_
 refine kp [1, 3, 40] rfl ?_
 first | refine Run.if rfl (fun h6 => ?_) (fun h6 => ?_) | refine Run.cond rfl (fun h6 => ?_) (fun h6 => ?_)
 refine sr ?_
 refine sx 2 ?_
 first | refine RunL.splitP (t := 43) rfl (fun g7 => ?_) (fun g7 => ?_) | refine RunL.split (t := 43) rfl (fun g7 => ?_) (fun g7 => ?_)
 refine sx 4 ?_
 refine kp [10] rfl ?_
 refine Run.ret ?_
 exact ret_one (.tmp rfl .nil) (congrArg Bo (away_5 (by omega) hr.1 (by simp_all))) gv
 refine sx 4 ?_
 refine kp [10] rfl ?_
 refine Run.ret ?_
 exact ret_one (.tmp rfl .nil) (congrArg Bo (away_5n (by omega) (by simp_all))) gv
 refine Run.skip ?_
 refine sr ?_
 refine asg rfl rfl ?_
 refine kp [10] rfl ?_
 refine Run.ret ?_
 exact ret_one (.tmp rfl .nil) (congrArg Bo (away_no (by omega) (by omega) (by omega) (by omega))) gv
end
end Go.Proofs.YtdcchollplhioaaGreatDoor

namespace Go.Proofs.YtdcchollplhioaaGreatDoor
open Go Go.SL Go.Proofs
section
attribute [local irreducible] OpJ RunL Run RunD DetJ pt own star Rd RdS
end
theorem ac169m (m c : Int) (h0 : 0 ≤ m) (h1 : m < 340282366920938463463374607431768211456) (hc : 0 < c) (hcu : u64 c) : AC Tryz.prog 169 ⟨[U (m / 18446744073709551616), U (m % 18446744073709551616), U c]⟩ (stars []) (Ret (.tuple ⟨[U (m / c / 18446744073709551616), U (m / c % 18446744073709551616), U (m % c)]⟩) []) := by
  have h := ac169 (m / 18446744073709551616) (m % 18446744073709551616) c (by omega) (by omega) hc hcu
  rw [show m / 18446744073709551616 * 18446744073709551616 + m % 18446744073709551616 = m by omega] at h
  exact h
section
attribute [local irreducible] OpJ RunL Run RunD DetJ pt own star Rd RdS
-- accountingref01.Mul
theorem ac140 (a b : Int) (ha : i64 a) (hb : i64 b) : AC Tryz.prog 140 ⟨[I a, I b]⟩ (stars []) (Ret (.tuple ⟨[I (mulN a b), Bo (mulOk a b)]⟩) []) := by
 have ua := mag_u64 ha; have ub := mag_u64 hb
 refine AC.go Tryz.func140 rfl (Nat.le_of_ble_eq_true rfl) fun β => ?_
 refine sr ?_
 refine sx 2 ?_
 refine kp [0, 1] rfl ?_
 refine sr ?_
 refine mvo rfl rfl ?_
 refine RunL.call C166 rfl rfl rfl (ac166 _ (by omega)) .nil ?_
 refine mvo rfl rfl ?_
 refine RunL.call C166 rfl rfl rfl (ac166 _ (by omega)) .nil ?_
 refine sx 2 ?_
 refine kp [0, 1, 6, 7] rfl ?_
 refine sr ?_
 refine RunL.cut (t := 8) (v := Bo (decide (a * b < 0))) (kt (ks := [6, 7]) rfl) ?_ ?_
 refine sx 3 ?_
 first | refine RunL.splitP (t := 16) rfl (fun g1 => ?_) (fun g1 => ?_) | refine RunL.split (t := 16) rfl (fun g1 => ?_) (fun g1 => ?_)
 refine sx 4 ?_
 first | refine RunL.splitP (t := 20) rfl (fun g2 => ?_) (fun g2 => ?_) | refine RunL.split (t := 20) rfl (fun g2 => ?_) (fun g2 => ?_)
 refine sx 8 ?_
 exact RunL.nil ⟨.cons (by first | rfl | (show some (Value.bool _) = some (Value.bool _); exact congrArg some (congrArg Value.bool (by rw [Bool.eq_iff_iff]; simp [mneg] <;> omega))) | (show some (Value.bool _) = some (Value.bool _); simp_all)) (kt (ks := [6, 7]) rfl), rfl⟩
 refine sx 3 ?_
 first | refine RunL.splitP (t := 23) rfl (fun g3 => ?_) (fun g3 => ?_) | refine RunL.split (t := 23) rfl (fun g3 => ?_) (fun g3 => ?_)
 refine sx 5 ?_
 exact RunL.nil ⟨.cons (by first | rfl | (show some (Value.bool _) = some (Value.bool _); exact congrArg some (congrArg Value.bool (by rw [Bool.eq_iff_iff]; simp [mneg] <;> omega))) | (show some (Value.bool _) = some (Value.bool _); simp_all)) (kt (ks := [6, 7]) rfl), rfl⟩
 refine sx 5 ?_
 exact RunL.nil ⟨.cons (by first | rfl | (show some (Value.bool _) = some (Value.bool _); exact congrArg some (congrArg Value.bool (by rw [Bool.eq_iff_iff]; simp [mneg] <;> omega))) | (show some (Value.bool _) = some (Value.bool _); simp_all)) (kt (ks := [6, 7]) rfl), rfl⟩
 refine sx 7 ?_
 first | refine RunL.splitP (t := 23) rfl (fun g4 => ?_) (fun g4 => ?_) | refine RunL.split (t := 23) rfl (fun g4 => ?_) (fun g4 => ?_)
 refine sx 5 ?_
 exact RunL.nil ⟨.cons (by first | rfl | (show some (Value.bool _) = some (Value.bool _); exact congrArg some (congrArg Value.bool (by rw [Bool.eq_iff_iff]; simp [mneg] <;> omega))) | (show some (Value.bool _) = some (Value.bool _); simp_all)) (kt (ks := [6, 7]) rfl), rfl⟩
 refine sx 5 ?_
 exact RunL.nil ⟨.cons (by first | rfl | (show some (Value.bool _) = some (Value.bool _); exact congrArg some (congrArg Value.bool (by rw [Bool.eq_iff_iff]; simp [mneg] <;> omega))) | (show some (Value.bool _) = some (Value.bool _); simp_all)) (kt (ks := [6, 7]) rfl), rfl⟩
 refine sr ?_
 refine asg rfl rfl ?_
 refine kp [6, 7, 8, 9] rfl ?_
 refine Run.seq ?_
 refine sr ?_
 refine mvo rfl rfl ?_
 refine kp [6, 7, 8, 9, 28] rfl ?_
 first | refine Run.if rfl (fun h5 => ?_) (fun h5 => ?_) | refine Run.cond rfl (fun h5 => ?_) (fun h5 => ?_)
 refine Run.region ?_
 refine asg rfl rfl ?_
 refine kp [6, 7, 8, 9] rfl ?_
 refine Run.seq ?_
 refine sr ?_
 refine sx 3 ?_
 first | refine RunL.splitP (t := 31) rfl (fun g6 => ?_) (fun g6 => ?_) | refine RunL.split (t := 31) rfl (fun g6 => ?_) (fun g6 => ?_)
 refine sx 3 ?_
 refine RunL.yes rfl rfl rfl rfl (OpJ.quoU rfl rfl (by omega) (by omega) ?_)
 refine sx 2 ?_
 refine kp [6, 7, 8, 37] rfl ?_
 first | refine Run.if rfl (fun h7 => ?_) (fun h7 => ?_) | refine Run.cond rfl (fun h7 => ?_) (fun h7 => ?_)
 refine sr ?_
 refine sx 2 ?_
 refine kp [4, 5] rfl ?_
 refine Run.ret ?_
 exact ret_one (.tmp rfl (.tmp rfl .nil)) (by first | exact rmul_no (m := 9223372036854775808) (by omega) (by omega) (by rw [if_pos (by omega)]) | exact rmul_no (m := 9223372036854775807) (by omega) (by omega) (by rw [if_neg (by omega)]) | exact rmul_neg (rmul_range (m := 9223372036854775808) (by omega) (by omega) (by rw [if_pos (by omega)])) (by omega) | exact rmul_pos (rmul_range (m := 9223372036854775807) (by omega) (by omega) (by rw [if_neg (by omega)])) (by omega)) .nil
 refine Run.skip ?_
 refine Run.seq ?_
 refine sr ?_
 refine mvo rfl rfl ?_
 refine kp [6, 7, 38] rfl ?_
 first | refine Run.if rfl (fun h8 => ?_) (fun h8 => ?_) | refine Run.cond rfl (fun h8 => ?_) (fun h8 => ?_)
 refine sr ?_
 refine sx 7 ?_
 refine kp [4, 5] rfl ?_
 refine Run.ret ?_
 exact ret_one (.tmp rfl (.tmp rfl .nil)) (by first | exact rmul_no (m := 9223372036854775808) (by omega) (by omega) (by rw [if_pos (by omega)]) | exact rmul_no (m := 9223372036854775807) (by omega) (by omega) (by rw [if_neg (by omega)]) | exact rmul_neg (rmul_range (m := 9223372036854775808) (by omega) (by omega) (by rw [if_pos (by omega)])) (by omega) | exact rmul_pos (rmul_range (m := 9223372036854775807) (by omega) (by omega) (by rw [if_neg (by omega)])) (by omega)) .nil
 refine Run.skip ?_
 refine sr ?_
 refine sx 6 ?_
 refine kp [4, 5] rfl ?_
 refine Run.ret ?_
 exact ret_one (.tmp rfl (.tmp rfl .nil)) (by first | exact rmul_no (m := 9223372036854775808) (by omega) (by omega) (by rw [if_pos (by omega)]) | exact rmul_no (m := 9223372036854775807) (by omega) (by omega) (by rw [if_neg (by omega)]) | exact rmul_neg (rmul_range (m := 9223372036854775808) (by omega) (by omega) (by rw [if_pos (by omega)])) (by omega) | exact rmul_pos (rmul_range (m := 9223372036854775807) (by omega) (by omega) (by rw [if_neg (by omega)])) (by omega)) .nil
 refine sx 6 ?_
 refine kp [6, 7, 8, 37] rfl ?_
 refine Run.false rfl ?_
 refine Run.skip ?_
 refine Run.seq ?_
 refine sr ?_
 refine mvo rfl rfl ?_
 refine kp [6, 7, 38] rfl ?_
 first | refine Run.if rfl (fun h9 => ?_) (fun h9 => ?_) | refine Run.cond rfl (fun h9 => ?_) (fun h9 => ?_)
 refine sr ?_
 refine sx 7 ?_
 refine kp [4, 5] rfl ?_
 refine Run.ret ?_
 exact ret_one (.tmp rfl (.tmp rfl .nil)) (by first | exact rmul_no (m := 9223372036854775808) (by omega) (by omega) (by rw [if_pos (by omega)]) | exact rmul_no (m := 9223372036854775807) (by omega) (by omega) (by rw [if_neg (by omega)]) | exact rmul_neg (rmul_range (m := 9223372036854775808) (by omega) (by omega) (by rw [if_pos (by omega)])) (by omega) | exact rmul_pos (rmul_range (m := 9223372036854775807) (by omega) (by omega) (by rw [if_neg (by omega)])) (by omega)) .nil
 refine Run.skip ?_
 refine sr ?_
 refine sx 6 ?_
 refine kp [4, 5] rfl ?_
 refine Run.ret ?_
 exact ret_one (.tmp rfl (.tmp rfl .nil)) (by first | exact rmul_no (m := 9223372036854775808) (by omega) (by omega) (by rw [if_pos (by omega)]) | exact rmul_no (m := 9223372036854775807) (by omega) (by omega) (by rw [if_neg (by omega)]) | exact rmul_neg (rmul_range (m := 9223372036854775808) (by omega) (by omega) (by rw [if_pos (by omega)])) (by omega) | exact rmul_pos (rmul_range (m := 9223372036854775807) (by omega) (by omega) (by rw [if_neg (by omega)])) (by omega)) .nil
 refine Run.skip ?_
 refine Run.seq ?_
 refine sr ?_
 refine sx 3 ?_
 first | refine RunL.splitP (t := 31) rfl (fun g10 => ?_) (fun g10 => ?_) | refine RunL.split (t := 31) rfl (fun g10 => ?_) (fun g10 => ?_)
 refine sx 3 ?_
 refine RunL.yes rfl rfl rfl rfl (OpJ.quoU rfl rfl (by omega) (by omega) ?_)
 refine sx 2 ?_
 refine kp [6, 7, 8, 37] rfl ?_
 first | refine Run.if rfl (fun h11 => ?_) (fun h11 => ?_) | refine Run.cond rfl (fun h11 => ?_) (fun h11 => ?_)
 refine sr ?_
 refine sx 2 ?_
 refine kp [4, 5] rfl ?_
 refine Run.ret ?_
 exact ret_one (.tmp rfl (.tmp rfl .nil)) (by first | exact rmul_no (m := 9223372036854775808) (by omega) (by omega) (by rw [if_pos (by omega)]) | exact rmul_no (m := 9223372036854775807) (by omega) (by omega) (by rw [if_neg (by omega)]) | exact rmul_neg (rmul_range (m := 9223372036854775808) (by omega) (by omega) (by rw [if_pos (by omega)])) (by omega) | exact rmul_pos (rmul_range (m := 9223372036854775807) (by omega) (by omega) (by rw [if_neg (by omega)])) (by omega)) .nil
 refine Run.skip ?_
 refine Run.seq ?_
 refine sr ?_
 refine mvo rfl rfl ?_
 refine kp [6, 7, 38] rfl ?_
 first | refine Run.if rfl (fun h12 => ?_) (fun h12 => ?_) | refine Run.cond rfl (fun h12 => ?_) (fun h12 => ?_)
 refine sr ?_
 refine sx 7 ?_
 refine kp [4, 5] rfl ?_
 refine Run.ret ?_
 exact ret_one (.tmp rfl (.tmp rfl .nil)) (by first | exact rmul_no (m := 9223372036854775808) (by omega) (by omega) (by rw [if_pos (by omega)]) | exact rmul_no (m := 9223372036854775807) (by omega) (by omega) (by rw [if_neg (by omega)]) | exact rmul_neg (rmul_range (m := 9223372036854775808) (by omega) (by omega) (by rw [if_pos (by omega)])) (by omega) | exact rmul_pos (rmul_range (m := 9223372036854775807) (by omega) (by omega) (by rw [if_neg (by omega)])) (by omega)) .nil
 refine Run.skip ?_
 refine sr ?_
 refine sx 6 ?_
 refine kp [4, 5] rfl ?_
 refine Run.ret ?_
 exact ret_one (.tmp rfl (.tmp rfl .nil)) (by first | exact rmul_no (m := 9223372036854775808) (by omega) (by omega) (by rw [if_pos (by omega)]) | exact rmul_no (m := 9223372036854775807) (by omega) (by omega) (by rw [if_neg (by omega)]) | exact rmul_neg (rmul_range (m := 9223372036854775808) (by omega) (by omega) (by rw [if_pos (by omega)])) (by omega) | exact rmul_pos (rmul_range (m := 9223372036854775807) (by omega) (by omega) (by rw [if_neg (by omega)])) (by omega)) .nil
 refine sx 6 ?_
 refine kp [6, 7, 8, 37] rfl ?_
 refine Run.false rfl ?_
 refine Run.skip ?_
 refine Run.seq ?_
 refine sr ?_
 refine mvo rfl rfl ?_
 refine kp [6, 7, 38] rfl ?_
 first | refine Run.if rfl (fun h13 => ?_) (fun h13 => ?_) | refine Run.cond rfl (fun h13 => ?_) (fun h13 => ?_)
 refine sr ?_
 refine sx 7 ?_
 refine kp [4, 5] rfl ?_
 refine Run.ret ?_
 exact ret_one (.tmp rfl (.tmp rfl .nil)) (by first | exact rmul_no (m := 9223372036854775808) (by omega) (by omega) (by rw [if_pos (by omega)]) | exact rmul_no (m := 9223372036854775807) (by omega) (by omega) (by rw [if_neg (by omega)]) | exact rmul_neg (rmul_range (m := 9223372036854775808) (by omega) (by omega) (by rw [if_pos (by omega)])) (by omega) | exact rmul_pos (rmul_range (m := 9223372036854775807) (by omega) (by omega) (by rw [if_neg (by omega)])) (by omega)) .nil
 refine Run.skip ?_
 refine sr ?_
 refine sx 6 ?_
 refine kp [4, 5] rfl ?_
 refine Run.ret ?_
 exact ret_one (.tmp rfl (.tmp rfl .nil)) (by first | exact rmul_no (m := 9223372036854775808) (by omega) (by omega) (by rw [if_pos (by omega)]) | exact rmul_no (m := 9223372036854775807) (by omega) (by omega) (by rw [if_neg (by omega)]) | exact rmul_neg (rmul_range (m := 9223372036854775808) (by omega) (by omega) (by rw [if_pos (by omega)])) (by omega) | exact rmul_pos (rmul_range (m := 9223372036854775807) (by omega) (by omega) (by rw [if_neg (by omega)])) (by omega)) .nil
-- accountingref02.MulDiv
theorem ac141 (a b c mode : Int) (ha : i64 a) (hb : i64 b) (hc : i64 c) : AC Tryz.prog 141 ⟨[I a, I b, I c, I mode]⟩ (stars []) (Ret (.tuple ⟨[I (mdN a b c mode), I (mdE a b c mode)]⟩) []) := by
 have ua := mag_u64 ha; have ub := mag_u64 hb; have uc := mag_u64 hc; have pl := prod_le ha hb
 refine AC.go Tryz.func141 rfl (Nat.le_of_ble_eq_true rfl) fun β => ?_
 refine sr ?_
 refine sx 2 ?_
 refine kp [0, 1, 2, 3] rfl ?_
 refine Run.seq ?_
 refine sr ?_
 refine sx 3 ?_
 first | refine RunL.splitP (t := 18) rfl (fun g1 => ?_) (fun g1 => ?_) | refine RunL.split (t := 18) rfl (fun g1 => ?_) (fun g1 => ?_)
 refine sx 3 ?_
 refine kp [0, 1, 2, 3, 21] rfl ?_
 refine Run.true rfl ?_
 refine sr ?_
 refine sx 2 ?_
 refine kp [8, 9] rfl ?_
 refine Run.ret ?_
 exact ret_one (.tmp rfl (.tmp rfl .nil)) (by first | exact md_kind (by omega) | exact md_zero (by omega) (by omega) | exact md_big (by omega) (by omega) (s := mag a * mag b / mag c) (by omega) md_size_ge | exact md_big (by omega) (by omega) (s := mdSize a b c mode) (by omega) (Int.le_refl _) | exact md_top (by omega) (by omega) (s := mdSize a b c mode) (by omega) rfl (by simp_all) | exact md_bot (by omega) (by omega) (s := mdSize a b c mode) (by omega) rfl (by simp_all) | exact md_neg (by omega) (by omega) (by omega) (by omega) (by omega) (by simp_all) | exact md_pos (by omega) (by omega) (by omega) (by omega) (by omega) (by simp_all) | (exfalso; omega)) .nil
 refine sx 3 ?_
 refine kp [0, 1, 2, 3, 21] rfl ?_
 first | refine Run.if rfl (fun h2 => ?_) (fun h2 => ?_) | refine Run.cond rfl (fun h2 => ?_) (fun h2 => ?_)
 refine sr ?_
 refine sx 2 ?_
 refine kp [8, 9] rfl ?_
 refine Run.ret ?_
 exact ret_one (.tmp rfl (.tmp rfl .nil)) (by first | exact md_kind (by omega) | exact md_zero (by omega) (by omega) | exact md_big (by omega) (by omega) (s := mag a * mag b / mag c) (by omega) md_size_ge | exact md_big (by omega) (by omega) (s := mdSize a b c mode) (by omega) (Int.le_refl _) | exact md_top (by omega) (by omega) (s := mdSize a b c mode) (by omega) rfl (by simp_all) | exact md_bot (by omega) (by omega) (s := mdSize a b c mode) (by omega) rfl (by simp_all) | exact md_neg (by omega) (by omega) (by omega) (by omega) (by omega) (by simp_all) | exact md_pos (by omega) (by omega) (by omega) (by omega) (by omega) (by simp_all) | (exfalso; omega)) .nil
 refine Run.skip ?_
 refine Run.seq ?_
 refine sr ?_
 refine sx 2 ?_
 refine kp [0, 1, 2, 3, 23] rfl ?_
 first | refine Run.if rfl (fun h3 => ?_) (fun h3 => ?_) | refine Run.cond rfl (fun h3 => ?_) (fun h3 => ?_)
 refine sr ?_
 refine sx 2 ?_
 refine kp [8, 9] rfl ?_
 refine Run.ret ?_
 exact ret_one (.tmp rfl (.tmp rfl .nil)) (by first | exact md_kind (by omega) | exact md_zero (by omega) (by omega) | exact md_big (by omega) (by omega) (s := mag a * mag b / mag c) (by omega) md_size_ge | exact md_big (by omega) (by omega) (s := mdSize a b c mode) (by omega) (Int.le_refl _) | exact md_top (by omega) (by omega) (s := mdSize a b c mode) (by omega) rfl (by simp_all) | exact md_bot (by omega) (by omega) (s := mdSize a b c mode) (by omega) rfl (by simp_all) | exact md_neg (by omega) (by omega) (by omega) (by omega) (by omega) (by simp_all) | exact md_pos (by omega) (by omega) (by omega) (by omega) (by omega) (by simp_all) | (exfalso; omega)) .nil
 refine Run.skip ?_
 refine sr ?_
 have cpos := mag_pos (show c ≠ 0 by omega); have q0 := quo_le pl.1 cpos; have r0 := rem_lt (m := mag a * mag b) cpos
 refine mvo rfl rfl ?_
 refine RunL.call C168 rfl rfl rfl (ac168 _ (by omega)) .nil ?_
 refine mvo rfl rfl ?_
 refine RunL.call C168 rfl rfl rfl (ac168 _ (by omega)) .nil ?_
 refine RunL.call C167 rfl rfl rfl (ac167 _ _ (by omega) (by omega)) .nil ?_
 refine sx 5 ?_
 refine kp [0, 1, 2, 3, 10, 11] rfl ?_
 refine sr ?_
 refine sx 3 ?_
 refine RunL.call C168 rfl rfl rfl (ac168 _ (by omega)) .nil ?_
 refine RunL.call C169 rfl rfl rfl (ac169m _ _ (by omega) (by omega) (by omega) (by omega)) .nil ?_
 refine sx 7 ?_
 refine kp [0, 1, 2, 3, 12, 13, 14] rfl ?_
 refine sr ?_
 refine sx 8 ?_
 refine RunL.set (congrArg Bo (show _ = nbB a b c by unfold nbB; rfl)) ?_
 refine asg rfl rfl ?_
 refine kp [2, 3, 12, 13, 14, 15] rfl ?_
 refine Run.seq ?_
 refine sr ?_
 refine sx 3 ?_
 first | refine RunL.splitP (t := 51) rfl (fun g4 => ?_) (fun g4 => ?_) | refine RunL.split (t := 51) rfl (fun g4 => ?_) (fun g4 => ?_)
 refine sx 3 ?_
 refine kp [2, 3, 13, 14, 15, 54] rfl ?_
 refine Run.true rfl ?_
 refine sr ?_
 refine sx 2 ?_
 refine kp [8, 9] rfl ?_
 refine Run.ret ?_
 exact ret_one (.tmp rfl (.tmp rfl .nil)) (by first | exact md_kind (by omega) | exact md_zero (by omega) (by omega) | exact md_big (by omega) (by omega) (s := mag a * mag b / mag c) (by omega) md_size_ge | exact md_big (by omega) (by omega) (s := mdSize a b c mode) (by omega) (Int.le_refl _) | exact md_top (by omega) (by omega) (s := mdSize a b c mode) (by omega) rfl (by simp_all) | exact md_bot (by omega) (by omega) (s := mdSize a b c mode) (by omega) rfl (by simp_all) | exact md_neg (by omega) (by omega) (by omega) (by omega) (by omega) (by simp_all) | exact md_pos (by omega) (by omega) (by omega) (by omega) (by omega) (by simp_all) | (exfalso; omega)) .nil
 refine sx 3 ?_
 refine kp [2, 3, 13, 14, 15, 54] rfl ?_
 first | refine Run.if rfl (fun h5 => ?_) (fun h5 => ?_) | refine Run.cond rfl (fun h5 => ?_) (fun h5 => ?_)
 refine sr ?_
 refine sx 2 ?_
 refine kp [8, 9] rfl ?_
 refine Run.ret ?_
 exact ret_one (.tmp rfl (.tmp rfl .nil)) (by first | exact md_kind (by omega) | exact md_zero (by omega) (by omega) | exact md_big (by omega) (by omega) (s := mag a * mag b / mag c) (by omega) md_size_ge | exact md_big (by omega) (by omega) (s := mdSize a b c mode) (by omega) (Int.le_refl _) | exact md_top (by omega) (by omega) (s := mdSize a b c mode) (by omega) rfl (by simp_all) | exact md_bot (by omega) (by omega) (s := mdSize a b c mode) (by omega) rfl (by simp_all) | exact md_neg (by omega) (by omega) (by omega) (by omega) (by omega) (by simp_all) | exact md_pos (by omega) (by omega) (by omega) (by omega) (by omega) (by simp_all) | (exfalso; omega)) .nil
 refine Run.skip ?_
 refine Run.seq ?_
 refine sr ?_
 refine sx 3 ?_
 refine RunL.op rfl rfl (OpJ.remU rfl rfl (by omega) (by omega) ?_)
 refine RunL.set (congrArg U (show _ = mag a * mag b / mag c % 2 by omega)) ?_
 refine sx 3 ?_
 refine RunL.call C168 rfl rfl rfl (ac168 _ (by omega)) .nil ?_
 refine RunL.call C170 rfl rfl rfl (ac170 _ _ _ _ _ (by omega) (by omega) (by omega)) .nil ?_
 refine RunL.set (congrArg Bo (away_nb a b c mode _)) ?_
 refine kp [13, 15, 63] rfl ?_
 first | refine Run.if rfl (fun h6 => ?_) (fun h6 => ?_) | refine Run.cond rfl (fun h6 => ?_) (fun h6 => ?_)
 refine Run.region ?_
 have hz : mdSize a b c mode = mag a * mag b / mag c + 1 := by unfold mdSize; rw [if_pos (by assumption)]
 refine mvo rfl rfl ?_
 refine RunL.op rfl rfl (OpJ.addU rfl rfl (by omega) ?_)
 refine asg rfl rfl ?_
 refine kp [13, 15] rfl ?_
 refine Run.seq ?_
 refine sr ?_
 first | have hz1 := hz | have hz : mdSize a b c mode = mag a * mag b / mag c := (by unfold mdSize; rw [if_neg (by simp_all)]; omega)
 refine sx 3 ?_
 first | refine RunL.splitP (t := 68) rfl (fun g7 => ?_) (fun g7 => ?_) | refine RunL.split (t := 68) rfl (fun g7 => ?_) (fun g7 => ?_)
 refine sx 7 ?_
 refine kp [13, 15, 75] rfl ?_
 refine Run.true rfl ?_
 refine sr ?_
 refine sx 2 ?_
 refine kp [8, 9] rfl ?_
 refine Run.ret ?_
 exact ret_one (.tmp rfl (.tmp rfl .nil)) (by first | exact md_kind (by omega) | exact md_zero (by omega) (by omega) | exact md_big (by omega) (by omega) (s := mag a * mag b / mag c) (by omega) md_size_ge | exact md_big (by omega) (by omega) (s := mdSize a b c mode) (by omega) (Int.le_refl _) | exact md_top (by omega) (by omega) (s := mdSize a b c mode) (by omega) rfl (by simp_all) | exact md_bot (by omega) (by omega) (s := mdSize a b c mode) (by omega) rfl (by simp_all) | exact md_neg (by omega) (by omega) (by omega) (by omega) (by omega) (by simp_all) | exact md_pos (by omega) (by omega) (by omega) (by omega) (by omega) (by simp_all) | (exfalso; omega)) .nil
 refine sx 3 ?_
 first | refine RunL.splitP (t := 71) rfl (fun g8 => ?_) (fun g8 => ?_) | refine RunL.split (t := 71) rfl (fun g8 => ?_) (fun g8 => ?_)
 refine sx 4 ?_
 refine kp [13, 15, 75] rfl ?_
 first | refine Run.if rfl (fun h9 => ?_) (fun h9 => ?_) | refine Run.cond rfl (fun h9 => ?_) (fun h9 => ?_)
 refine sr ?_
 refine sx 2 ?_
 refine kp [8, 9] rfl ?_
 refine Run.ret ?_
 exact ret_one (.tmp rfl (.tmp rfl .nil)) (by first | exact md_kind (by omega) | exact md_zero (by omega) (by omega) | exact md_big (by omega) (by omega) (s := mag a * mag b / mag c) (by omega) md_size_ge | exact md_big (by omega) (by omega) (s := mdSize a b c mode) (by omega) (Int.le_refl _) | exact md_top (by omega) (by omega) (s := mdSize a b c mode) (by omega) rfl (by simp_all) | exact md_bot (by omega) (by omega) (s := mdSize a b c mode) (by omega) rfl (by simp_all) | exact md_neg (by omega) (by omega) (by omega) (by omega) (by omega) (by simp_all) | exact md_pos (by omega) (by omega) (by omega) (by omega) (by omega) (by simp_all) | (exfalso; omega)) .nil
 refine Run.skip ?_
 refine Run.seq ?_
 refine sr ?_
 refine sx 2 ?_
 refine kp [13, 15, 77] rfl ?_
 first | refine Run.if rfl (fun h10 => ?_) (fun h10 => ?_) | refine Run.cond rfl (fun h10 => ?_) (fun h10 => ?_)
 refine sr ?_
 refine sx 2 ?_
 refine kp [8, 9] rfl ?_
 refine Run.ret ?_
 exact ret_one (.tmp rfl (.tmp rfl .nil)) (by first | exact md_kind (by omega) | exact md_zero (by omega) (by omega) | exact md_big (by omega) (by omega) (s := mag a * mag b / mag c) (by omega) md_size_ge | exact md_big (by omega) (by omega) (s := mdSize a b c mode) (by omega) (Int.le_refl _) | exact md_top (by omega) (by omega) (s := mdSize a b c mode) (by omega) rfl (by simp_all) | exact md_bot (by omega) (by omega) (s := mdSize a b c mode) (by omega) rfl (by simp_all) | exact md_neg (by omega) (by omega) (by omega) (by omega) (by omega) (by simp_all) | exact md_pos (by omega) (by omega) (by omega) (by omega) (by omega) (by simp_all) | (exfalso; omega)) .nil
 refine Run.skip ?_
 refine Run.seq ?_
 refine sr ?_
 refine mvo rfl rfl ?_
 refine kp [13, 78] rfl ?_
 first | refine Run.if rfl (fun h11 => ?_) (fun h11 => ?_) | refine Run.cond rfl (fun h11 => ?_) (fun h11 => ?_)
 refine sr ?_
 refine sx 5 ?_
 refine kp [8, 9] rfl ?_
 refine Run.ret ?_
 exact ret_one (.tmp rfl (.tmp rfl .nil)) (by first | exact md_kind (by omega) | exact md_zero (by omega) (by omega) | exact md_big (by omega) (by omega) (s := mag a * mag b / mag c) (by omega) md_size_ge | exact md_big (by omega) (by omega) (s := mdSize a b c mode) (by omega) (Int.le_refl _) | exact md_top (by omega) (by omega) (s := mdSize a b c mode) (by omega) rfl (by simp_all) | exact md_bot (by omega) (by omega) (s := mdSize a b c mode) (by omega) rfl (by simp_all) | exact md_neg (by omega) (by omega) (by omega) (by omega) (by omega) (by simp_all) | exact md_pos (by omega) (by omega) (by omega) (by omega) (by omega) (by simp_all) | (exfalso; omega)) .nil
 refine Run.skip ?_
 refine sr ?_
 refine sx 4 ?_
 refine kp [8, 9] rfl ?_
 refine Run.ret ?_
 exact ret_one (.tmp rfl (.tmp rfl .nil)) (by first | exact md_kind (by omega) | exact md_zero (by omega) (by omega) | exact md_big (by omega) (by omega) (s := mag a * mag b / mag c) (by omega) md_size_ge | exact md_big (by omega) (by omega) (s := mdSize a b c mode) (by omega) (Int.le_refl _) | exact md_top (by omega) (by omega) (s := mdSize a b c mode) (by omega) rfl (by simp_all) | exact md_bot (by omega) (by omega) (s := mdSize a b c mode) (by omega) rfl (by simp_all) | exact md_neg (by omega) (by omega) (by omega) (by omega) (by omega) (by simp_all) | exact md_pos (by omega) (by omega) (by omega) (by omega) (by omega) (by simp_all) | (exfalso; omega)) .nil
 refine sx 4 ?_
 refine kp [13, 15, 75] rfl ?_
 refine Run.false rfl ?_
 refine Run.skip ?_
 refine Run.seq ?_
 refine sr ?_
 refine sx 2 ?_
 refine kp [13, 15, 77] rfl ?_
 first | refine Run.if rfl (fun h12 => ?_) (fun h12 => ?_) | refine Run.cond rfl (fun h12 => ?_) (fun h12 => ?_)
 refine sr ?_
 refine sx 2 ?_
 refine kp [8, 9] rfl ?_
 refine Run.ret ?_
 exact ret_one (.tmp rfl (.tmp rfl .nil)) (by first | exact md_kind (by omega) | exact md_zero (by omega) (by omega) | exact md_big (by omega) (by omega) (s := mag a * mag b / mag c) (by omega) md_size_ge | exact md_big (by omega) (by omega) (s := mdSize a b c mode) (by omega) (Int.le_refl _) | exact md_top (by omega) (by omega) (s := mdSize a b c mode) (by omega) rfl (by simp_all) | exact md_bot (by omega) (by omega) (s := mdSize a b c mode) (by omega) rfl (by simp_all) | exact md_neg (by omega) (by omega) (by omega) (by omega) (by omega) (by simp_all) | exact md_pos (by omega) (by omega) (by omega) (by omega) (by omega) (by simp_all) | (exfalso; omega)) .nil
 refine Run.skip ?_
 refine Run.seq ?_
 refine sr ?_
 refine mvo rfl rfl ?_
 refine kp [13, 78] rfl ?_
 first | refine Run.if rfl (fun h13 => ?_) (fun h13 => ?_) | refine Run.cond rfl (fun h13 => ?_) (fun h13 => ?_)
 refine sr ?_
 refine sx 5 ?_
 refine kp [8, 9] rfl ?_
 refine Run.ret ?_
 exact ret_one (.tmp rfl (.tmp rfl .nil)) (by first | exact md_kind (by omega) | exact md_zero (by omega) (by omega) | exact md_big (by omega) (by omega) (s := mag a * mag b / mag c) (by omega) md_size_ge | exact md_big (by omega) (by omega) (s := mdSize a b c mode) (by omega) (Int.le_refl _) | exact md_top (by omega) (by omega) (s := mdSize a b c mode) (by omega) rfl (by simp_all) | exact md_bot (by omega) (by omega) (s := mdSize a b c mode) (by omega) rfl (by simp_all) | exact md_neg (by omega) (by omega) (by omega) (by omega) (by omega) (by simp_all) | exact md_pos (by omega) (by omega) (by omega) (by omega) (by omega) (by simp_all) | (exfalso; omega)) .nil
 refine Run.skip ?_
 refine sr ?_
 refine sx 4 ?_
 refine kp [8, 9] rfl ?_
 refine Run.ret ?_
 exact ret_one (.tmp rfl (.tmp rfl .nil)) (by first | exact md_kind (by omega) | exact md_zero (by omega) (by omega) | exact md_big (by omega) (by omega) (s := mag a * mag b / mag c) (by omega) md_size_ge | exact md_big (by omega) (by omega) (s := mdSize a b c mode) (by omega) (Int.le_refl _) | exact md_top (by omega) (by omega) (s := mdSize a b c mode) (by omega) rfl (by simp_all) | exact md_bot (by omega) (by omega) (s := mdSize a b c mode) (by omega) rfl (by simp_all) | exact md_neg (by omega) (by omega) (by omega) (by omega) (by omega) (by simp_all) | exact md_pos (by omega) (by omega) (by omega) (by omega) (by omega) (by simp_all) | (exfalso; omega)) .nil
 refine Run.skip ?_
 refine Run.seq ?_
 refine sr ?_
 first | have hz1 := hz | have hz : mdSize a b c mode = mag a * mag b / mag c := (by unfold mdSize; rw [if_neg (by simp_all)]; omega)
 refine sx 3 ?_
 first | refine RunL.splitP (t := 68) rfl (fun g14 => ?_) (fun g14 => ?_) | refine RunL.split (t := 68) rfl (fun g14 => ?_) (fun g14 => ?_)
 refine sx 7 ?_
 refine kp [13, 15, 75] rfl ?_
 refine Run.true rfl ?_
 refine sr ?_
 refine sx 2 ?_
 refine kp [8, 9] rfl ?_
 refine Run.ret ?_
 exact ret_one (.tmp rfl (.tmp rfl .nil)) (by first | exact md_kind (by omega) | exact md_zero (by omega) (by omega) | exact md_big (by omega) (by omega) (s := mag a * mag b / mag c) (by omega) md_size_ge | exact md_big (by omega) (by omega) (s := mdSize a b c mode) (by omega) (Int.le_refl _) | exact md_top (by omega) (by omega) (s := mdSize a b c mode) (by omega) rfl (by simp_all) | exact md_bot (by omega) (by omega) (s := mdSize a b c mode) (by omega) rfl (by simp_all) | exact md_neg (by omega) (by omega) (by omega) (by omega) (by omega) (by simp_all) | exact md_pos (by omega) (by omega) (by omega) (by omega) (by omega) (by simp_all) | (exfalso; omega)) .nil
 refine sx 3 ?_
 first | refine RunL.splitP (t := 71) rfl (fun g15 => ?_) (fun g15 => ?_) | refine RunL.split (t := 71) rfl (fun g15 => ?_) (fun g15 => ?_)
 refine sx 4 ?_
 refine kp [13, 15, 75] rfl ?_
 first | refine Run.if rfl (fun h16 => ?_) (fun h16 => ?_) | refine Run.cond rfl (fun h16 => ?_) (fun h16 => ?_)
 refine sr ?_
 refine sx 2 ?_
 refine kp [8, 9] rfl ?_
 refine Run.ret ?_
 exact ret_one (.tmp rfl (.tmp rfl .nil)) (by first | exact md_kind (by omega) | exact md_zero (by omega) (by omega) | exact md_big (by omega) (by omega) (s := mag a * mag b / mag c) (by omega) md_size_ge | exact md_big (by omega) (by omega) (s := mdSize a b c mode) (by omega) (Int.le_refl _) | exact md_top (by omega) (by omega) (s := mdSize a b c mode) (by omega) rfl (by simp_all) | exact md_bot (by omega) (by omega) (s := mdSize a b c mode) (by omega) rfl (by simp_all) | exact md_neg (by omega) (by omega) (by omega) (by omega) (by omega) (by simp_all) | exact md_pos (by omega) (by omega) (by omega) (by omega) (by omega) (by simp_all) | (exfalso; omega)) .nil
 refine Run.skip ?_
 refine Run.seq ?_
 refine sr ?_
 refine sx 2 ?_
 refine kp [13, 15, 77] rfl ?_
 first | refine Run.if rfl (fun h17 => ?_) (fun h17 => ?_) | refine Run.cond rfl (fun h17 => ?_) (fun h17 => ?_)
 refine sr ?_
 refine sx 2 ?_
 refine kp [8, 9] rfl ?_
 refine Run.ret ?_
 exact ret_one (.tmp rfl (.tmp rfl .nil)) (by first | exact md_kind (by omega) | exact md_zero (by omega) (by omega) | exact md_big (by omega) (by omega) (s := mag a * mag b / mag c) (by omega) md_size_ge | exact md_big (by omega) (by omega) (s := mdSize a b c mode) (by omega) (Int.le_refl _) | exact md_top (by omega) (by omega) (s := mdSize a b c mode) (by omega) rfl (by simp_all) | exact md_bot (by omega) (by omega) (s := mdSize a b c mode) (by omega) rfl (by simp_all) | exact md_neg (by omega) (by omega) (by omega) (by omega) (by omega) (by simp_all) | exact md_pos (by omega) (by omega) (by omega) (by omega) (by omega) (by simp_all) | (exfalso; omega)) .nil
 refine Run.skip ?_
 refine Run.seq ?_
 refine sr ?_
 refine mvo rfl rfl ?_
 refine kp [13, 78] rfl ?_
 first | refine Run.if rfl (fun h18 => ?_) (fun h18 => ?_) | refine Run.cond rfl (fun h18 => ?_) (fun h18 => ?_)
 refine sr ?_
 refine sx 5 ?_
 refine kp [8, 9] rfl ?_
 refine Run.ret ?_
 exact ret_one (.tmp rfl (.tmp rfl .nil)) (by first | exact md_kind (by omega) | exact md_zero (by omega) (by omega) | exact md_big (by omega) (by omega) (s := mag a * mag b / mag c) (by omega) md_size_ge | exact md_big (by omega) (by omega) (s := mdSize a b c mode) (by omega) (Int.le_refl _) | exact md_top (by omega) (by omega) (s := mdSize a b c mode) (by omega) rfl (by simp_all) | exact md_bot (by omega) (by omega) (s := mdSize a b c mode) (by omega) rfl (by simp_all) | exact md_neg (by omega) (by omega) (by omega) (by omega) (by omega) (by simp_all) | exact md_pos (by omega) (by omega) (by omega) (by omega) (by omega) (by simp_all) | (exfalso; omega)) .nil
 refine Run.skip ?_
 refine sr ?_
 refine sx 4 ?_
 refine kp [8, 9] rfl ?_
 refine Run.ret ?_
 exact ret_one (.tmp rfl (.tmp rfl .nil)) (by first | exact md_kind (by omega) | exact md_zero (by omega) (by omega) | exact md_big (by omega) (by omega) (s := mag a * mag b / mag c) (by omega) md_size_ge | exact md_big (by omega) (by omega) (s := mdSize a b c mode) (by omega) (Int.le_refl _) | exact md_top (by omega) (by omega) (s := mdSize a b c mode) (by omega) rfl (by simp_all) | exact md_bot (by omega) (by omega) (s := mdSize a b c mode) (by omega) rfl (by simp_all) | exact md_neg (by omega) (by omega) (by omega) (by omega) (by omega) (by simp_all) | exact md_pos (by omega) (by omega) (by omega) (by omega) (by omega) (by simp_all) | (exfalso; omega)) .nil
 refine sx 4 ?_
 refine kp [13, 15, 75] rfl ?_
 refine Run.false rfl ?_
 refine Run.skip ?_
 refine Run.seq ?_
 refine sr ?_
 refine sx 2 ?_
 refine kp [13, 15, 77] rfl ?_
 first | refine Run.if rfl (fun h19 => ?_) (fun h19 => ?_) | refine Run.cond rfl (fun h19 => ?_) (fun h19 => ?_)
 refine sr ?_
 refine sx 2 ?_
 refine kp [8, 9] rfl ?_
 refine Run.ret ?_
 exact ret_one (.tmp rfl (.tmp rfl .nil)) (by first | exact md_kind (by omega) | exact md_zero (by omega) (by omega) | exact md_big (by omega) (by omega) (s := mag a * mag b / mag c) (by omega) md_size_ge | exact md_big (by omega) (by omega) (s := mdSize a b c mode) (by omega) (Int.le_refl _) | exact md_top (by omega) (by omega) (s := mdSize a b c mode) (by omega) rfl (by simp_all) | exact md_bot (by omega) (by omega) (s := mdSize a b c mode) (by omega) rfl (by simp_all) | exact md_neg (by omega) (by omega) (by omega) (by omega) (by omega) (by simp_all) | exact md_pos (by omega) (by omega) (by omega) (by omega) (by omega) (by simp_all) | (exfalso; omega)) .nil
 refine Run.skip ?_
 refine Run.seq ?_
 refine sr ?_
 refine mvo rfl rfl ?_
 refine kp [13, 78] rfl ?_
 first | refine Run.if rfl (fun h20 => ?_) (fun h20 => ?_) | refine Run.cond rfl (fun h20 => ?_) (fun h20 => ?_)
 refine sr ?_
 refine sx 5 ?_
 refine kp [8, 9] rfl ?_
 refine Run.ret ?_
 exact ret_one (.tmp rfl (.tmp rfl .nil)) (by first | exact md_kind (by omega) | exact md_zero (by omega) (by omega) | exact md_big (by omega) (by omega) (s := mag a * mag b / mag c) (by omega) md_size_ge | exact md_big (by omega) (by omega) (s := mdSize a b c mode) (by omega) (Int.le_refl _) | exact md_top (by omega) (by omega) (s := mdSize a b c mode) (by omega) rfl (by simp_all) | exact md_bot (by omega) (by omega) (s := mdSize a b c mode) (by omega) rfl (by simp_all) | exact md_neg (by omega) (by omega) (by omega) (by omega) (by omega) (by simp_all) | exact md_pos (by omega) (by omega) (by omega) (by omega) (by omega) (by simp_all) | (exfalso; omega)) .nil
 refine Run.skip ?_
 refine sr ?_
 refine sx 4 ?_
 refine kp [8, 9] rfl ?_
 refine Run.ret ?_
 exact ret_one (.tmp rfl (.tmp rfl .nil)) (by first | exact md_kind (by omega) | exact md_zero (by omega) (by omega) | exact md_big (by omega) (by omega) (s := mag a * mag b / mag c) (by omega) md_size_ge | exact md_big (by omega) (by omega) (s := mdSize a b c mode) (by omega) (Int.le_refl _) | exact md_top (by omega) (by omega) (s := mdSize a b c mode) (by omega) rfl (by simp_all) | exact md_bot (by omega) (by omega) (s := mdSize a b c mode) (by omega) rfl (by simp_all) | exact md_neg (by omega) (by omega) (by omega) (by omega) (by omega) (by simp_all) | exact md_pos (by omega) (by omega) (by omega) (by omega) (by omega) (by simp_all) | (exfalso; omega)) .nil
end
end Go.Proofs.YtdcchollplhioaaGreatDoor

namespace Go.Proofs.YtdcchollplhioaaGreatDoor
open Go Go.SL Go.Proofs
section
attribute [local irreducible] OpJ RunL Run RunD DetJ pt own star Rd RdS
-- accountingref34.Part
theorem ac165 (v q n : Int) (hv : i64 v) (hq : i64 q) (hn : i64 n) : AC Tryz.prog 165 ⟨[I v, I q, I n]⟩ (stars []) (Ret (I (partN v q n)) []) := by
 refine AC.go Tryz.func165 rfl (Nat.le_of_ble_eq_true rfl) fun β => ?_
 refine sr ?_
 refine asg rfl rfl ?_
 refine kp [0, 1, 2] rfl ?_
 refine Run.seq ?_
 refine sr ?_
 refine sx 3 ?_
 refine kp [0, 1, 2, 11] rfl ?_
 first | refine Run.if rfl (fun h1 => ?_) (fun h1 => ?_) | refine Run.cond rfl (fun h1 => ?_) (fun h1 => ?_)
 refine sr ?_
 refine sx 2 ?_
 refine kp [6] rfl ?_
 refine Run.ret ?_
 exact ret_one (.tmp rfl .nil) (by first | (simp [tup, partN, *]; done) | (exfalso; omega)) .nil
 refine Run.skip ?_
 refine sr ?_
 refine sx 3 ?_
 refine RunL.call C141 rfl rfl rfl (ac141 _ _ _ _ (by omega) (by omega) (by omega)) .nil ?_
 refine sx 5 ?_
 refine kp [7] rfl ?_
 refine sr ?_
 refine sx 2 ?_
 refine kp [6] rfl ?_
 refine Run.ret ?_
 exact ret_one (.tmp rfl .nil) (by first | (simp [tup, partN, *]; done) | (exfalso; omega)) .nil
-- accountingref35.part
theorem ac139 (v q n : Int) (hv : i64 v) (hq : i64 q) (hn : i64 n) : AC Tryz.prog 139 ⟨[I v, I q, I n]⟩ (stars []) (Ret (I (partN v q n)) []) := by
 refine AC.go Tryz.func139 rfl (Nat.le_of_ble_eq_true rfl) fun β => ?_
 refine sr ?_
 refine asg rfl rfl ?_
 refine kp [0, 1, 2] rfl ?_
 refine Run.seq ?_
 refine sr ?_
 refine sx 3 ?_
 refine kp [0, 1, 2, 11] rfl ?_
 first | refine Run.if rfl (fun h1 => ?_) (fun h1 => ?_) | refine Run.cond rfl (fun h1 => ?_) (fun h1 => ?_)
 refine sr ?_
 refine sx 2 ?_
 refine kp [6] rfl ?_
 refine Run.ret ?_
 exact ret_one (.tmp rfl .nil) (by first | (simp [tup, partN, *]; done) | (exfalso; omega)) .nil
 refine Run.skip ?_
 refine sr ?_
 refine sx 3 ?_
 refine RunL.call C141 rfl rfl rfl (ac141 _ _ _ _ (by omega) (by omega) (by omega)) .nil ?_
 refine sx 5 ?_
 refine kp [7] rfl ?_
 refine sr ?_
 refine sx 2 ?_
 refine kp [6] rfl ?_
 refine Run.ret ?_
 exact ret_one (.tmp rfl .nil) (by first | (simp [tup, partN, *]; done) | (exfalso; omega)) .nil
-- accountingref34.Share
theorem ac163 (p : Pa) (m : Mv) (hm : i64 m.qty) : AC Tryz.prog 163 ⟨[.agg ⟨p.c⟩, I m.qty]⟩ (stars []) (Ret (I (backV p m)) []) := by
 refine AC.go Tryz.func163 rfl (Nat.le_of_ble_eq_true rfl) fun β => ?_
 refine sr ?_
 refine RunL.op rfl rfl (OpJ.boxA rfl fun b2 => ?_)
 refine asg rfl rfl ?_
 refine kp [1, 2] rfl ?_
 refine sr ?_
 refine sx 4 ?_
 refine RunL.op rfl rfl (OpJ.sub rfl rfl ?_)
 refine sx 5 ?_
 refine RunL.op rfl rfl (OpJ.sub rfl rfl ?_)
 refine RunL.call C165 rfl rfl rfl (ac165 _ _ _ (W_i64 _) hm (W_i64 _)) .nil ?_
 refine asg rfl rfl ?_
 refine kp [4] rfl ?_
 refine Run.ret ?_
 exact ret_one (.tmp rfl .nil) (by first | (simp [tup, backV, *]; done) | (exfalso; omega)) .nil
-- accountingref36.share
theorem ac103 (p : Pa) (m : Mv) (hm : i64 m.qty) : AC Tryz.prog 103 ⟨[.agg ⟨p.c⟩, I m.qty]⟩ (stars []) (Ret (I (backV p m)) []) := by
 refine AC.go Tryz.func103 rfl (Nat.le_of_ble_eq_true rfl) fun β => ?_
 refine sr ?_
 refine RunL.op rfl rfl (OpJ.boxA rfl fun b2 => ?_)
 refine asg rfl rfl ?_
 refine kp [1, 2] rfl ?_
 refine Run.seq ?_
 refine regionD HM ?_
 refine tk 0 rfl rfl rfl (DetJ.fieldAddr F66_3 rfl) ?_
 first | refine RunD.takeF 1 rfl rfl kr T3 rfl pk (by rfl) ?_ | refine RunD.takeO 1 rfl rfl kr T3 rfl pk (by assumption) (by rfl) (by exact fun _ => rfl) ?_
 refine tk 2 rfl rfl rfl (DetJ.fieldAddr F66_5 rfl) ?_
 first | refine RunD.takeF 3 rfl rfl kr T3 rfl pk (by rfl) ?_ | refine RunD.takeO 3 rfl rfl kr T3 rfl pk (by assumption) (by rfl) (by exact fun _ => rfl) ?_
 refine tk 4 rfl rfl rfl (DetJ.sub rfl rfl) ?_
 refine tk 5 rfl rfl rfl (DetJ.fieldAddr F66_4 rfl) ?_
 first | refine RunD.takeF 6 rfl rfl kr T3 rfl pk (by rfl) ?_ | refine RunD.takeO 6 rfl rfl kr T3 rfl pk (by assumption) (by rfl) (by exact fun _ => rfl) ?_
 refine tk 7 rfl rfl rfl (DetJ.fieldAddr F66_6 rfl) ?_
 first | refine RunD.takeF 8 rfl rfl kr T3 rfl pk (by rfl) ?_ | refine RunD.takeO 8 rfl rfl kr T3 rfl pk (by assumption) (by rfl) (by exact fun _ => rfl) ?_
 refine tk 9 rfl rfl rfl (DetJ.sub rfl rfl) ?_
 refine tk 10 rfl rfl rfl (DetJ.assign rfl) ?_
 refine tk 11 rfl rfl rfl (DetJ.assign rfl) ?_
 refine kd [1, 5, 6] rfl ?_
 refine Run.seq ?_
 refine sr ?_
 refine sx 3 ?_
 refine kp [1, 5, 6, 21] rfl ?_
 first | refine Run.if rfl (fun h1 => ?_) (fun h1 => ?_) | refine Run.cond rfl (fun h1 => ?_) (fun h1 => ?_)
 refine sr ?_
 refine sx 2 ?_
 refine kp [4] rfl ?_
 refine Run.ret ?_
 exact ret_one (.tmp rfl .nil) (by first | (simp [tup, backV, partN, *]; done) | (exfalso; omega)) .nil
 refine Run.skip ?_
 refine sr ?_
 refine sx 3 ?_
 refine RunL.call C141 rfl rfl rfl (ac141 _ _ _ _ (W_i64 _) hm (W_i64 _)) .nil ?_
 refine sx 5 ?_
 refine kp [7] rfl ?_
 refine sr ?_
 refine sx 2 ?_
 refine kp [4] rfl ?_
 refine Run.ret ?_
 exact ret_one (.tmp rfl .nil) (by first | (simp [tup, backV, partN, *]; done) | (exfalso; omega)) .nil
-- accountingref34.Find
theorem ac132 (s : Sk) (la : Option Addr) (lc : Nat) (pa : Option Addr) (pc : Nat) (RP : HP) (kind seq : Int) (hk : kind ≠ 0) (hRP : RdS RP pa (s.past.flatMap Pa.c)) (hnp : s.past.length ≤ 1000000) : AC Tryz.prog 132 ⟨[.agg ⟨s.c la lc pa pc⟩, I kind, I seq]⟩ (stars [RP]) (Ret (I (idxOf (findI (isPast kind seq) s.past))) [RP]) := by
 refine AC.go Tryz.func132 rfl (Nat.le_of_ble_eq_true rfl) fun β => ?_
 refine sr ?_
 refine RunL.op rfl rfl (OpJ.boxA rfl fun b3 => ?_)
 refine asg rfl rfl ?_
 refine kp [1, 2, 3] rfl ?_
 refine Run.seq ?_
 refine sr ?_
 refine asg rfl rfl ?_
 refine kp [1, 2, 3, 7] rfl ?_
 refine Run.block ?_
 refine Run.loop (fun mm E L => ∃ i : Nat, mm = s.past.length - i ∧ i ≤ s.past.length ∧ (∀ j y, j < i → s.past[j]? = some y → isPast kind seq y = false) ∧ E = [(1, I kind), (2, I seq), (3, .pointer (some ⟨b3, 0, none⟩)), (7, I i)] ∧ L = [pt b3 (blk (s.c la lc pa pc) 28), RP]) ⟨_, 0, rfl, Nat.zero_le _, fun _ _ h => by omega, rfl, rfl⟩ ?_
 rintro _ _ _ ⟨i, rfl, hi, hI0, rfl, rfl⟩
 refine Run.seq ?_
 refine sr ?_
 refine sx 5 ?_
 refine kp [1, 2, 3, 7, 12] rfl ?_
 first | refine Run.if rfl (fun h1 => ?_) (fun h1 => ?_) | refine Run.cond rfl (fun h1 => ?_) (fun h1 => ?_)
 refine Run.skip ?_
 refine Run.seq ?_
 refine Run.block ?_
 refine sr ?_
 obtain ⟨x, hx⟩ := get_ex (xs := s.past) (by omega)
 refine RunL.rdOpen pk hRP (flat_ne (k := 7) (fun _ => rfl) (by decide) hx) fun b o e hrd => ?_
 subst e
 refine sx 5 ?_
 refine RunL.op rfl rfl (OpJ.load1 T3 rfl pk (hrd.pa hx 1 (I x.kind) rfl) ?_)
 refine sx 3 ?_
 first | refine RunL.splitP (t := 23) rfl (fun g2 => ?_) (fun g2 => ?_) | refine RunL.split (t := 23) rfl (fun g2 => ?_) (fun g2 => ?_)
 refine sx 5 ?_
 refine RunL.yes rfl rfl rfl rfl (OpJ.load1 T3 rfl pk (hrd.pa hx 0 (I x.seq) rfl) ?_)
 refine sx 3 ?_
 refine kp [1, 2, 3, 7, 32] rfl ?_
 first | refine Run.if rfl (fun h3 => ?_) (fun h3 => ?_) | refine Run.cond rfl (fun h3 => ?_) (fun h3 => ?_)
 refine sr ?_
 refine sx 2 ?_
 refine kp [6] rfl ?_
 refine Run.ret ?_
 exact ret_one (.tmp rfl .nil) (congrArg I (by rw [findI_at hx (by unfold isPast; simp_all) hI0]; rfl)) gv
 refine Run.skip ?_
 refine Run.region ?_
 refine sx 3 ?_
 exact RunL.next (Keep.sub (kt (ks := [1, 2, 3, 7]) rfl)) _ ⟨_, by omega, i + 1, rfl, by omega, notYet hx (by unfold isPast; simp_all) hI0, rfl, rfl⟩ gv
 refine sx 9 ?_
 refine kp [1, 2, 3, 7, 32] rfl ?_
 refine Run.false rfl ?_
 refine Run.skip ?_
 refine Run.region ?_
 refine sx 3 ?_
 exact RunL.next (Keep.sub (kt (ks := [1, 2, 3, 7]) rfl)) _ ⟨_, by omega, i + 1, rfl, by omega, notYet hx (by unfold isPast; simp_all) hI0, rfl, rfl⟩ gv
 refine Run.exit ?_
 refine sr ?_
 refine asg rfl rfl ?_
 refine kp [6] rfl ?_
 refine Run.ret ?_
 exact ret_one (.tmp rfl .nil) (congrArg I (by rw [findI_none (fun j y hj => hI0 j y (by omega))]; rfl)) gv
-- accountingref34.layer
theorem ac164 (s : Sk) (la : Option Addr) (lc : Nat) (pa : Option Addr) (pc : Nat) (RL : HP) (seq : Int) (hRL : RdS RL la (s.layers.flatMap Ly.c)) (hnl : s.layers.length ≤ 1000000) : AC Tryz.prog 164 ⟨[.agg ⟨s.c la lc pa pc⟩, I seq]⟩ (stars [RL]) (Ret (I (idxOf (findI (isLy seq) s.layers))) [RL]) := by
 refine AC.go Tryz.func164 rfl (Nat.le_of_ble_eq_true rfl) fun β => ?_
 refine sr ?_
 refine RunL.op rfl rfl (OpJ.boxA rfl fun b2 => ?_)
 refine asg rfl rfl ?_
 refine kp [1, 2] rfl ?_
 refine Run.seq ?_
 refine sr ?_
 refine asg rfl rfl ?_
 refine kp [1, 2, 5] rfl ?_
 refine Run.block ?_
 refine Run.loop (fun mm E L => ∃ i : Nat, mm = s.layers.length - i ∧ i ≤ s.layers.length ∧ (∀ j y, j < i → s.layers[j]? = some y → isLy seq y = false) ∧ E = [(1, I seq), (2, .pointer (some ⟨b2, 0, none⟩)), (5, I i)] ∧ L = [pt b2 (blk (s.c la lc pa pc) 28), RL]) ⟨_, 0, rfl, Nat.zero_le _, fun _ _ h => by omega, rfl, rfl⟩ ?_
 rintro _ _ _ ⟨i, rfl, hi, hI0, rfl, rfl⟩
 refine Run.seq ?_
 refine sr ?_
 refine sx 5 ?_
 refine kp [1, 2, 5, 10] rfl ?_
 first | refine Run.if rfl (fun h1 => ?_) (fun h1 => ?_) | refine Run.cond rfl (fun h1 => ?_) (fun h1 => ?_)
 refine Run.skip ?_
 refine Run.seq ?_
 refine Run.block ?_
 refine sr ?_
 obtain ⟨x, hx⟩ := get_ex (xs := s.layers) (by omega)
 refine RunL.rdOpen pk hRL (flat_ne (k := 4) (fun _ => rfl) (by decide) hx) fun b o e hrd => ?_
 subst e
 refine sx 5 ?_
 refine RunL.op rfl rfl (OpJ.load1 T3 rfl pk (hrd.ly hx 0 (I x.seq) rfl) ?_)
 refine sx 2 ?_
 refine kp [1, 2, 5, 20] rfl ?_
 first | refine Run.if rfl (fun h2 => ?_) (fun h2 => ?_) | refine Run.cond rfl (fun h2 => ?_) (fun h2 => ?_)
 refine sr ?_
 refine sx 2 ?_
 refine kp [4] rfl ?_
 refine Run.ret ?_
 exact ret_one (.tmp rfl .nil) (congrArg I (by rw [findI_at hx (by unfold isLy; simp_all) hI0]; rfl)) gv
 refine Run.skip ?_
 refine Run.region ?_
 refine sx 3 ?_
 exact RunL.next (Keep.sub (kt (ks := [1, 2, 5]) rfl)) _ ⟨_, by omega, i + 1, rfl, by omega, notYet hx (by unfold isLy; simp_all) hI0, rfl, rfl⟩ gv
 refine Run.exit ?_
 refine sr ?_
 refine asg rfl rfl ?_
 refine kp [4] rfl ?_
 refine Run.ret ?_
 exact ret_one (.tmp rfl .nil) (congrArg I (by rw [findI_none (fun j y hj => hI0 j y (by omega))]; rfl)) gv
-- accountingref34.Known
theorem ac92 (s : Sk) (la : Option Addr) (lc : Nat) (pa : Option Addr) (pc : Nat) (RP : HP) (seq : Int) (hRP : RdS RP pa (s.past.flatMap Pa.c)) (hnp : s.past.length ≤ 1000000) : AC Tryz.prog 92 ⟨[.agg ⟨s.c la lc pa pc⟩, I seq]⟩ (stars [RP]) (Ret (Bo ((findI (isPast 1 seq) s.past).isSome || (findI (isPast 2 seq) s.past).isSome)) [RP]) := by
 refine AC.go Tryz.func92 rfl (Nat.le_of_ble_eq_true rfl) fun β => ?_
 refine sr ?_
 refine RunL.op rfl rfl (OpJ.boxA rfl fun b2 => ?_)
 refine asg rfl rfl ?_
 refine kp [1, 2] rfl ?_
 refine sr ?_
 refine sx 2 ?_
 refine RunL.call C132 rfl rfl rfl (ac132 s la lc pa pc RP _ seq (by decide) hRP hnp) tks ?_
 refine sx 2 ?_
 first | refine RunL.splitP (t := 9) rfl (fun g1 => ?_) (fun g1 => ?_) | refine RunL.split (t := 9) rfl (fun g1 => ?_) (fun g1 => ?_)
 refine sx 6 ?_
 refine kp [4] rfl ?_
 refine Run.ret ?_
 exact ret_one (.tmp rfl .nil) (congrArg Bo (by rw [← idx_some, ← idx_some]; simp [*])) gv
 refine sx 2 ?_
 refine RunL.callG C132 rfl rfl rfl rfl rfl (ac132 s la lc pa pc RP _ seq (by decide) hRP hnp) tks ?_
 refine sx 3 ?_
 refine kp [4] rfl ?_
 refine Run.ret ?_
 exact ret_one (.tmp rfl .nil) (congrArg Bo (by rw [← idx_some, ← idx_some]; simp [*])) gv
-- accountingref34.Return
theorem ac162 (s : Sk) (la : Option Addr) (lc : Nat) (pa : Option Addr) (pc : Nat) (RP : HP) (m : Mv) (hRP : RdS RP pa (s.past.flatMap Pa.c)) (hnp : s.past.length ≤ 1000000) : AC Tryz.prog 162 ⟨[.agg ⟨s.c la lc pa pc⟩, .agg ⟨m.c⟩]⟩ (stars [RP]) (Ret (.tuple ⟨[I (okIdx (refd (if m.kind = 3 then 2 else 1) m s.past)), I (errOf (refd (if m.kind = 3 then 2 else 1) m s.past))]⟩) [RP]) := by
 refine AC.go Tryz.func162 rfl (Nat.le_of_ble_eq_true rfl) fun β => ?_
 refine sr ?_
 refine RunL.op rfl rfl (OpJ.boxA rfl fun b2 => ?_)
 refine RunL.op rfl rfl (OpJ.boxA rfl fun b3 => ?_)
 refine sx 2 ?_
 refine kp [2, 3] rfl ?_
 refine sr ?_
 refine asg rfl rfl ?_
 refine kp [2, 3, 6] rfl ?_
 refine Run.seq ?_
 refine sr ?_
 refine sx 3 ?_
 refine kp [2, 3, 6, 10] rfl ?_
 first | refine Run.if rfl (fun h1 => ?_) (fun h1 => ?_) | refine Run.cond rfl (fun h1 => ?_) (fun h1 => ?_)
 refine Run.region ?_
 refine asg rfl rfl ?_
 refine kp [2, 3, 6] rfl ?_
 refine sr ?_
 refine sx 4 ?_
 refine RunL.call C132 rfl rfl rfl (ac132 s la lc pa pc RP _ m.ref (by decide) hRP hnp) tks ?_
 refine asg rfl rfl ?_
 refine kp [2, 3, 7] rfl ?_
 refine Run.seq ?_
 refine sr ?_
 refine sx 2 ?_
 rcases hf : findI (isPast 2 m.ref) s.past with _ | ⟨i, x⟩
 refine kp [2, 3, 7, 17] rfl ?_
 refine Run.true rfl ?_
 refine sr ?_
 refine sx 2 ?_
 refine kp [4, 5] rfl ?_
 refine Run.ret ?_
 exact ret_one (.tmp rfl (.tmp rfl .nil)) (by simp [tup, refd, hf, okIdx, errOf, idxOf, *]) gv
 obtain ⟨hx, _⟩ := findI_some hf
 have hi := (List.getElem?_eq_some_iff.1 hx).1
 simp only [idxOf]
 refine RunL.set (congrArg Value.bool (decide_eq_false (show ¬ ((i : Int) < 0) by omega))) ?_
 refine kp [2, 3, 7, 17] rfl ?_
 refine Run.false rfl ?_
 refine Run.skip ?_
 refine Run.seq ?_
 refine Run.seq ?_
 refine regionD HM ?_
 refine RunD.rdOpen pk hRP (flat_ne (k := 7) (fun _ => rfl) (by decide) hx) fun b o e hrd => ?_
 subst e
 refine tk 0 rfl rfl rfl (DetJ.fieldAddr F47_4 rfl) ?_
 first | refine RunD.takeF 1 rfl rfl kr T3 rfl pk (by rfl) ?_ | refine RunD.takeO 1 rfl rfl kr T3 rfl pk (by assumption) (by rfl) (by exact fun _ => rfl) ?_
 refine tk 2 rfl rfl rfl (DetJ.fieldAddr F28_4 rfl) ?_
 first | refine RunD.takeF 3 rfl rfl kr T26 rfl pk (by rfl) ?_ | refine RunD.takeO 3 rfl rfl kr T26 rfl pk (by assumption) (by rfl) (by exact fun _ => rfl) ?_
 refine tk 4 rfl rfl rfl (DetJ.move rfl) ?_
 refine tk 5 rfl rfl rfl (DetJ.indexAddr S26 rfl rfl (by omega)) ?_
 refine tk 6 rfl rfl rfl (DetJ.fieldAddr F66_3 rfl) ?_
 refine RunD.takeR1 7 rfl rfl kr T3 rfl pk (hrd.pa hx 3 (I x.qty) rfl) ?_
 refine tk 8 rfl rfl rfl (DetJ.fieldAddr F28_4 rfl) ?_
 first | refine RunD.takeF 9 rfl rfl kr T26 rfl pk (by rfl) ?_ | refine RunD.takeO 9 rfl rfl kr T26 rfl pk (by assumption) (by rfl) (by exact fun _ => rfl) ?_
 refine tk 10 rfl rfl rfl (DetJ.move rfl) ?_
 refine tk 11 rfl rfl rfl (DetJ.indexAddr S26 rfl rfl (by omega)) ?_
 refine tk 12 rfl rfl rfl (DetJ.fieldAddr F66_5 rfl) ?_
 refine RunD.takeR1 13 rfl rfl kr T3 rfl pk (hrd.pa hx 5 (I x.used) rfl) ?_
 refine tk 14 rfl rfl rfl (DetJ.sub rfl rfl) ?_
 refine tk 15 rfl rfl rfl (DetJ.gtr rfl rfl) ?_
 refine kd [7, 33] rfl ?_
 first | refine Run.if rfl (fun h2 => ?_) (fun h2 => ?_) | refine Run.cond rfl (fun h2 => ?_) (fun h2 => ?_)
 refine sr ?_
 refine sx 2 ?_
 refine kp [4, 5] rfl ?_
 refine Run.ret ?_
 exact ret_one (.tmp rfl (.tmp rfl .nil)) (by simp [tup, refd, hf, okIdx, errOf, idxOf, *]) gv
 refine Run.skip ?_
 refine sr ?_
 refine sx 3 ?_
 refine kp [4, 5] rfl ?_
 refine Run.ret ?_
 exact ret_one (.tmp rfl (.tmp rfl .nil)) (by simp [tup, refd, hf, okIdx, errOf, idxOf, *]) gv
 refine Run.skip ?_
 refine sr ?_
 refine sx 4 ?_
 refine RunL.call C132 rfl rfl rfl (ac132 s la lc pa pc RP _ m.ref (by decide) hRP hnp) tks ?_
 refine asg rfl rfl ?_
 refine kp [2, 3, 7] rfl ?_
 refine Run.seq ?_
 refine sr ?_
 refine sx 2 ?_
 rcases hf : findI (isPast 1 m.ref) s.past with _ | ⟨i, x⟩
 refine kp [2, 3, 7, 17] rfl ?_
 refine Run.true rfl ?_
 refine sr ?_
 refine sx 2 ?_
 refine kp [4, 5] rfl ?_
 refine Run.ret ?_
 exact ret_one (.tmp rfl (.tmp rfl .nil)) (by simp [tup, refd, hf, okIdx, errOf, idxOf, *]) gv
 obtain ⟨hx, _⟩ := findI_some hf
 have hi := (List.getElem?_eq_some_iff.1 hx).1
 simp only [idxOf]
 refine RunL.set (congrArg Value.bool (decide_eq_false (show ¬ ((i : Int) < 0) by omega))) ?_
 refine kp [2, 3, 7, 17] rfl ?_
 refine Run.false rfl ?_
 refine Run.skip ?_
 refine Run.seq ?_
 refine Run.seq ?_
 refine regionD HM ?_
 refine RunD.rdOpen pk hRP (flat_ne (k := 7) (fun _ => rfl) (by decide) hx) fun b o e hrd => ?_
 subst e
 refine tk 0 rfl rfl rfl (DetJ.fieldAddr F47_4 rfl) ?_
 first | refine RunD.takeF 1 rfl rfl kr T3 rfl pk (by rfl) ?_ | refine RunD.takeO 1 rfl rfl kr T3 rfl pk (by assumption) (by rfl) (by exact fun _ => rfl) ?_
 refine tk 2 rfl rfl rfl (DetJ.fieldAddr F28_4 rfl) ?_
 first | refine RunD.takeF 3 rfl rfl kr T26 rfl pk (by rfl) ?_ | refine RunD.takeO 3 rfl rfl kr T26 rfl pk (by assumption) (by rfl) (by exact fun _ => rfl) ?_
 refine tk 4 rfl rfl rfl (DetJ.move rfl) ?_
 refine tk 5 rfl rfl rfl (DetJ.indexAddr S26 rfl rfl (by omega)) ?_
 refine tk 6 rfl rfl rfl (DetJ.fieldAddr F66_3 rfl) ?_
 refine RunD.takeR1 7 rfl rfl kr T3 rfl pk (hrd.pa hx 3 (I x.qty) rfl) ?_
 refine tk 8 rfl rfl rfl (DetJ.fieldAddr F28_4 rfl) ?_
 first | refine RunD.takeF 9 rfl rfl kr T26 rfl pk (by rfl) ?_ | refine RunD.takeO 9 rfl rfl kr T26 rfl pk (by assumption) (by rfl) (by exact fun _ => rfl) ?_
 refine tk 10 rfl rfl rfl (DetJ.move rfl) ?_
 refine tk 11 rfl rfl rfl (DetJ.indexAddr S26 rfl rfl (by omega)) ?_
 refine tk 12 rfl rfl rfl (DetJ.fieldAddr F66_5 rfl) ?_
 refine RunD.takeR1 13 rfl rfl kr T3 rfl pk (hrd.pa hx 5 (I x.used) rfl) ?_
 refine tk 14 rfl rfl rfl (DetJ.sub rfl rfl) ?_
 refine tk 15 rfl rfl rfl (DetJ.gtr rfl rfl) ?_
 refine kd [7, 33] rfl ?_
 first | refine Run.if rfl (fun h3 => ?_) (fun h3 => ?_) | refine Run.cond rfl (fun h3 => ?_) (fun h3 => ?_)
 refine sr ?_
 refine sx 2 ?_
 refine kp [4, 5] rfl ?_
 refine Run.ret ?_
 exact ret_one (.tmp rfl (.tmp rfl .nil)) (by simp [tup, refd, hf, okIdx, errOf, idxOf, *]) gv
 refine Run.skip ?_
 refine sr ?_
 refine sx 3 ?_
 refine kp [4, 5] rfl ?_
 refine Run.ret ?_
 exact ret_one (.tmp rfl (.tmp rfl .nil)) (by simp [tup, refd, hf, okIdx, errOf, idxOf, *]) gv
-- accountingref34.Fits
theorem ac95 (s : Sk) (la : Option Addr) (lc : Nat) (pa : Option Addr) (pc : Nat) (RL : HP) (v : Int) (hRL : RdS RL la (s.layers.flatMap Ly.c)) (hnl : s.layers.length ≤ 1000000) : AC Tryz.prog 95 ⟨[.agg ⟨s.c la lc pa pc⟩, I v]⟩ (stars [RL]) (Ret (Bo (fitsB s v)) [RL]) := by
 refine AC.go Tryz.func95 rfl (Nat.le_of_ble_eq_true rfl) fun β => ?_
 refine sr ?_
 refine RunL.op rfl rfl (OpJ.boxA rfl fun b2 => ?_)
 refine asg rfl rfl ?_
 refine kp [1, 2] rfl ?_
 refine Run.seq ?_
 refine sr ?_
 refine sx 4 ?_
 first | refine RunL.splitP (t := 9) rfl (fun g1 => ?_) (fun g1 => ?_) | refine RunL.split (t := 9) rfl (fun g1 => ?_) (fun g1 => ?_)
 refine sx 17 ?_
 refine kp [2, 26] rfl ?_
 refine Run.true rfl ?_
 refine sr ?_
 refine asg rfl rfl ?_
 refine kp [4] rfl ?_
 refine Run.ret ?_
 exact ret_one (.tmp rfl .nil) (congrArg Bo (fits_no (by omega))) gv
 refine sx 5 ?_
 first | refine RunL.splitP (t := 14) rfl (fun g2 => ?_) (fun g2 => ?_) | refine RunL.split (t := 14) rfl (fun g2 => ?_) (fun g2 => ?_)
 refine sx 12 ?_
 refine kp [2, 26] rfl ?_
 refine Run.true rfl ?_
 refine sr ?_
 refine asg rfl rfl ?_
 refine kp [4] rfl ?_
 refine Run.ret ?_
 exact ret_one (.tmp rfl .nil) (congrArg Bo (fits_no (by omega))) gv
 refine sx 5 ?_
 first | refine RunL.splitP (t := 19) rfl (fun g3 => ?_) (fun g3 => ?_) | refine RunL.split (t := 19) rfl (fun g3 => ?_) (fun g3 => ?_)
 refine sx 7 ?_
 refine kp [2, 26] rfl ?_
 refine Run.true rfl ?_
 refine sr ?_
 refine asg rfl rfl ?_
 refine kp [4] rfl ?_
 refine Run.ret ?_
 exact ret_one (.tmp rfl .nil) (congrArg Bo (fits_no (by omega))) gv
 refine sx 4 ?_
 first | refine RunL.splitP (t := 23) rfl (fun g4 => ?_) (fun g4 => ?_) | refine RunL.split (t := 23) rfl (fun g4 => ?_) (fun g4 => ?_)
 refine sx 3 ?_
 refine kp [2, 26] rfl ?_
 refine Run.true rfl ?_
 refine sr ?_
 refine asg rfl rfl ?_
 refine kp [4] rfl ?_
 refine Run.ret ?_
 exact ret_one (.tmp rfl .nil) (congrArg Bo (fits_no (by omega))) gv
 refine sx 3 ?_
 refine kp [2, 26] rfl ?_
 first | refine Run.if rfl (fun h5 => ?_) (fun h5 => ?_) | refine Run.cond rfl (fun h5 => ?_) (fun h5 => ?_)
 refine sr ?_
 refine asg rfl rfl ?_
 refine kp [4] rfl ?_
 refine Run.ret ?_
 exact ret_one (.tmp rfl .nil) (congrArg Bo (fits_no (by omega))) gv
 refine Run.skip ?_
 refine Run.seq ?_
 refine sr ?_
 refine asg rfl rfl ?_
 refine kp [2, 5] rfl ?_
 refine Run.block ?_
 refine Run.loop (fun mm E L => ∃ i : Nat, mm = s.layers.length - i ∧ i ≤ s.layers.length ∧ (∀ j y, j < i → s.layers[j]? = some y → (decide (1000000000000000 < y.value) || decide (y.value < -1000000000000000)) = false) ∧ E = [(2, .pointer (some ⟨b2, 0, none⟩)), (5, I i)] ∧ L = [pt b2 (blk (s.c la lc pa pc) 28), RL]) ⟨_, 0, rfl, Nat.zero_le _, fun _ _ h => by omega, rfl, rfl⟩ ?_
 rintro _ _ _ ⟨i, rfl, hi, hI0, rfl, rfl⟩
 refine Run.seq ?_
 refine sr ?_
 refine sx 5 ?_
 refine kp [2, 5, 31] rfl ?_
 first | refine Run.if rfl (fun h6 => ?_) (fun h6 => ?_) | refine Run.cond rfl (fun h6 => ?_) (fun h6 => ?_)
 refine Run.skip ?_
 refine Run.seq ?_
 refine Run.block ?_
 refine sr ?_
 obtain ⟨x, hx⟩ := get_ex (xs := s.layers) (by omega)
 refine RunL.rdOpen pk hRL (flat_ne (k := 4) (fun _ => rfl) (by decide) hx) fun b o e hrd => ?_
 subst e
 refine sx 5 ?_
 refine RunL.op rfl rfl (OpJ.load1 T3 rfl pk (hrd.ly hx 3 (I x.value) rfl) ?_)
 refine sx 2 ?_
 first | refine RunL.splitP (t := 41) rfl (fun g7 => ?_) (fun g7 => ?_) | refine RunL.split (t := 41) rfl (fun g7 => ?_) (fun g7 => ?_)
 refine sx 8 ?_
 refine kp [2, 5, 49] rfl ?_
 refine Run.true rfl ?_
 refine sr ?_
 refine asg rfl rfl ?_
 refine kp [4] rfl ?_
 refine Run.ret ?_
 exact ret_one (.tmp rfl .nil) (congrArg Bo (fits_ly hx (by omega))) gv
 refine sx 5 ?_
 refine RunL.yes rfl rfl rfl rfl (OpJ.load1 T3 rfl pk (hrd.ly hx 3 (I x.value) rfl) ?_)
 refine sx 2 ?_
 refine kp [2, 5, 49] rfl ?_
 first | refine Run.if rfl (fun h8 => ?_) (fun h8 => ?_) | refine Run.cond rfl (fun h8 => ?_) (fun h8 => ?_)
 refine sr ?_
 refine asg rfl rfl ?_
 refine kp [4] rfl ?_
 refine Run.ret ?_
 exact ret_one (.tmp rfl .nil) (congrArg Bo (fits_ly hx (by omega))) gv
 refine Run.skip ?_
 refine Run.region ?_
 refine sx 3 ?_
 exact RunL.next (Keep.sub (kt (ks := [2, 5]) rfl)) _ ⟨_, by omega, i + 1, rfl, by omega, notYet hx (by simp_all) hI0, rfl, rfl⟩ gv
 refine Run.exit ?_
 refine sr ?_
 refine asg rfl rfl ?_
 refine kp [4] rfl ?_
 refine Run.ret ?_
 exact ret_one (.tmp rfl .nil) (congrArg Bo (fits_yes (by omega) (by omega) hI0)) gv
end
end Go.Proofs.YtdcchollplhioaaGreatDoor

namespace Go.Proofs.YtdcchollplhioaaGreatDoor
open Go Go.SL Go.Proofs
section
attribute [local irreducible] OpJ RunL Run RunD DetJ pt own star Rd RdS
-- accountingref34.take
theorem ac161 (t : Sk) (la : Option Addr) (lc : Nat) (pa : Option Addr) (np pc : Nat) (i : Nat) (l : Ly) (q : Int) (hx : t.layers[i]? = some l) (hl : l.ok) (hq : i64 q) (hn : t.layers.length ≤ 1000000) : AC Tryz.prog 161 ⟨[.agg ⟨SC t la t.layers.length lc pa np pc⟩, I (i : Int), I q]⟩ (stars [own 64 4 la (t.layers).length lc ((t.layers).flatMap Ly.c)]) (Outs (fun _ : Option Addr × Nat => True) (fun x => .tuple ⟨[.agg ⟨SC { t with layers := takeL t.layers i l q } x.1 (takeL t.layers i l q).length x.2 pa np pc⟩, I (takeV l q)]⟩) (fun x => [own 64 4 x.1 (takeL t.layers i l q).length x.2 ((takeL t.layers i l q).flatMap Ly.c)])) := by
 have hi : i < t.layers.length := (List.getElem?_eq_some_iff.1 hx).1
 obtain ⟨hl1, hl2⟩ := hl
 have hx1 := set_get hx { l with qty := W (l.qty - q) }
 have hx2 := set_get hx (takeX l q)
 refine AC.go Tryz.func161 rfl (Nat.le_of_ble_eq_true rfl) fun β => ?_
 refine sr ?_
 refine RunL.op rfl rfl (OpJ.boxA rfl fun b3 => ?_)
 refine RunL.op rfl rfl (OpJ.alloc Z28 fun b6 => ?_)
 refine asg rfl rfl ?_
 refine kp [1, 2, 3, 6] rfl ?_
 refine sr ?_
 refine RunL.ownAddr pk (flat_ne (k := 4) (fun _ => rfl) (by decide) hx) fun b e hcap => ?_
 subst e
 refine sx 5 ?_
 refine RunL.op rfl rfl (OpJ.alloc Z64 fun b8 => ?_)
 refine sx 1 ?_
 refine kp [1, 2, 3, 6, 8] rfl ?_
 refine sr ?_
 refine sx 5 ?_
 refine RunL.call C165 rfl rfl rfl (ac165 _ _ _ hl2 hq hl1) .nil ?_
 refine asg rfl rfl ?_
 refine kp [1, 2, 3, 6, 8, 9] rfl ?_
 refine sr ?_
 refine sx 6 ?_
 refine RunL.op rfl rfl (OpJ.sub rfl rfl ?_)
 refine sx 2 ?_
 refine RunL.op rfl rfl (OpJ.storeO (i := i) (u' := { l with qty := W (l.qty - q) }) T3 rfl rfl rfl hx (fun _ => rfl) (by decide) rfl up ?_)
 refine kp [1, 2, 3, 6, 8, 9] rfl ?_
 refine sr ?_
 refine sx 6 ?_
 refine RunL.op rfl rfl (OpJ.sub rfl rfl ?_)
 refine sx 2 ?_
 refine RunL.op rfl rfl (OpJ.storeO (i := i) (u' := takeX l q) T3 rfl rfl rfl hx1 (fun _ => rfl) (by decide) rfl up ?_)
 rw [List.set_set]
 refine kp [1, 2, 3, 6, 8, 9] rfl ?_
 refine Run.seq ?_
 refine sr ?_
 refine sx 4 ?_
 refine kp [1, 3, 6, 9, 43] rfl ?_
 first | refine Run.if rfl (fun h1 => ?_) (fun h1 => ?_) | refine Run.cond rfl (fun h1 => ?_) (fun h1 => ?_)
 refine sr ?_
 refine RunL.op rfl rfl (OpJ.buildSlice0 S25 fun b44 => ?_)
 refine sx 3 ?_
 refine RunL.op rfl rfl (OpJ.sliceHi (i := i) S25 rfl rfl (by omega) ?_)
 refine RunL.op rfl rfl (OpJ.appendL (enc := Ly.c) (R := own 64 4 (some ⟨b, 0, none⟩) t.layers.length lc ((t.layers.set i (takeX l q)).flatMap Ly.c)) ([] : List Ly) (t.layers.take i) S25 M64 rfl rfl pk pk (own.take i (fun _ => rfl) (by rw [List.take_set_of_le (Nat.le_refl _)])) (by simp; omega) (fun _ => rfl) (by decide) Ly.one (by simp; omega) (by simp; omega) fun a49 c49 => ?_)
 refine asg rfl rfl ?_
 refine kp [1, 3, 6, 9, 10] rfl ?_
 refine Run.region ?_
 refine sx 5 ?_
 refine RunL.op rfl rfl (OpJ.sliceLo (i := i + 1) S25 rfl rfl (by omega) ?_)
 refine RunL.op rfl rfl (OpJ.appendL (enc := Ly.c) (R := own 64 4 (some ⟨b, 0, none⟩) t.layers.length lc ((t.layers.set i (takeX l q)).flatMap Ly.c)) ([] ++ t.layers.take i) (t.layers.drop (i + 1)) S25 M64 rfl rfl pk pk (own.drop (i + 1) (fun _ => rfl) (by rw [List.drop_set_of_lt (by omega)]) (by simp) hcap) (by simp) (fun _ => rfl) (by decide) Ly.one (by simp; omega) (by simp; omega) fun a56 c56 => ?_)
 rw [erase_app]
 refine sx 2 ?_
 refine kp [3, 6, 9] rfl ?_
 refine sr ?_
 refine sx 4 ?_
 refine kp [6, 7] rfl ?_
 refine Run.ret ?_
 refine ret_out (a56, c56) (.cellA T28 rfl pk (by rfl) (.tmp rfl .nil)) trivial (by rw [takeL_eq hl1 hq h1]; rfl) ?_; rw [takeL_eq hl1 hq h1]; exact gv
 refine Run.skip ?_
 refine sr ?_
 refine sx 4 ?_
 refine kp [6, 7] rfl ?_
 refine Run.ret ?_
 refine ret_out (some ⟨b, 0, none⟩, lc) (.cellA T28 rfl pk (by rfl) (.tmp rfl .nil)) trivial (by rw [takeL_ne hl1 hq h1, List.length_set]; rfl) ?_; rw [takeL_ne hl1 hq h1, List.length_set]; exact gv
end
end Go.Proofs.YtdcchollplhioaaGreatDoor

namespace Go.Proofs.YtdcchollplhioaaGreatDoor
open Go Go.SL Go.Proofs
section
attribute [local irreducible] OpJ RunL Run RunD DetJ pt own star Rd RdS
end
theorem ac162k (s : Sk) (la : Option Addr) (lc : Nat) (pa : Option Addr) (pc : Nat) (RP : HP) (m : Mv) (k : Int) (hk : k = if m.kind = 3 then 2 else 1) (hRP : RdS RP pa (s.past.flatMap Pa.c)) (hnp : s.past.length ≤ 1000000) : AC Tryz.prog 162 ⟨[.agg ⟨s.c la lc pa pc⟩, .agg ⟨m.c⟩]⟩ (stars [RP]) (Ret (.tuple ⟨[I (okIdx (refd k m s.past)), I (errOf (refd k m s.past))]⟩) [RP]) := by
  subst hk; exact ac162 s la lc pa pc RP m hRP hnp
section
attribute [local irreducible] OpJ RunL Run RunD DetJ pt own star Rd RdS
-- accountingref34.issue
theorem ac133 (t : Sk) (la : Option Addr) (lc : Nat) (pa : Option Addr) (np pc : Nat) (q : Int) (ht : t.ok 999999) (hq : i64 q) : AC Tryz.prog 133 ⟨[.agg ⟨SC t la t.layers.length lc pa np pc⟩, I q]⟩ (stars [own 64 4 la (t.layers).length lc ((t.layers).flatMap Ly.c)]) (Outs (fun _ : Option Addr × Nat => True) (fun x => .tuple ⟨[.agg ⟨SC { t with layers := (issueL t.layers q 0).1 } x.1 (issueL t.layers q 0).1.length x.2 pa np pc⟩, I (issueL t.layers q 0).2]⟩) (fun x => [own 64 4 x.1 ((issueL t.layers q 0).1).length x.2 (((issueL t.layers q 0).1).flatMap Ly.c)])) := by
 have hnl := ht.nl
 refine AC.go Tryz.func133 rfl (Nat.le_of_ble_eq_true rfl) fun β => ?_
 refine sr ?_
 refine RunL.op rfl rfl (OpJ.boxA rfl fun b2 => ?_)
 refine RunL.op rfl rfl (OpJ.alloc Z28 fun b4 => ?_)
 refine asg rfl rfl ?_
 refine kp [1, 2, 4] rfl ?_
 refine sr ?_
 refine asg rfl rfl ?_
 refine kp [1, 2, 4, 6] rfl ?_
 refine Run.seq ?_
 refine Run.block ?_
 refine Run.loop (fun mm E L => ∃ (ls : List Ly) (left v : Int) (la : Option Addr) (lc : Nat), mm = issM ls left ∧ issueL ls left v = issueL t.layers q 0 ∧ ls.length ≤ t.layers.length ∧ (∀ (i : Nat) (l : Ly), ls[i]? = some l → l.ok) ∧ i64 left ∧ i64 v ∧ E = [(1, I left), (2, .pointer (some ⟨b2, 0, none⟩)), (4, .pointer (some ⟨b4, 0, none⟩)), (6, I v)] ∧ L = [pt b4 (blk [I 0, I 0, I 0, .slice none 0 0, .slice none 0 0] 28), pt b2 (blk (SC t la ls.length lc pa np pc) 28), own 64 4 la (ls).length lc ((ls).flatMap Ly.c)]) ⟨_, t.layers, q, 0, la, lc, rfl, rfl, Nat.le_refl _, ht.ly, hq, by decide, rfl, rfl⟩ ?_
 rintro _ _ _ ⟨ls, left, v, la, lc, rfl, hI, hle, hlo, hl64, hv64, rfl, rfl⟩
 refine Run.seq ?_
 refine sr ?_
 refine RunL.cut (t := 16) (v := Bo (decide (0 < left ∧ 0 < (ls.length : Int)))) (kt (ks := [1, 2, 4, 6]) rfl) ?_ ?_
 refine sx 3 ?_
 first | refine RunL.splitP (t := 11) rfl (fun g1 => ?_) (fun g1 => ?_) | refine RunL.split (t := 11) rfl (fun g1 => ?_) (fun g1 => ?_)
 refine sx 5 ?_
 exact RunL.nil ⟨.cons (by first | rfl | (show some (Value.bool _) = some (Value.bool _); rw [decide_eq_false (show ¬ (0 < left ∧ 0 < (ls.length : Int)) by omega)]) | (show some (Value.bool _) = some (Value.bool _); simp_all)) (kt (ks := [1, 2, 4, 6]) rfl), rfl⟩
 refine sx 5 ?_
 exact RunL.nil ⟨.cons (by first | rfl | (show some (Value.bool _) = some (Value.bool _); rw [decide_eq_false (show ¬ (0 < left ∧ 0 < (ls.length : Int)) by omega)]) | (show some (Value.bool _) = some (Value.bool _); simp_all)) (kt (ks := [1, 2, 4, 6]) rfl), rfl⟩
 first | refine Run.if rfl (fun h2 => ?_) (fun h2 => ?_) | refine Run.cond rfl (fun h2 => ?_) (fun h2 => ?_)
 refine Run.skip ?_
 refine Run.block ?_
 refine sr ?_
 obtain ⟨l, ls, rfl⟩ : ∃ l ls', ls = l :: ls' := (by cases ls with | nil => simp at h2 | cons l ls => exact ⟨l, ls, rfl⟩)
 have hx0 : (l :: ls)[0]? = some l := rfl
 have hlk := hlo 0 l rfl
 have hst := issue_step (l := l) (ls := ls) (v := v) h2.1 hl64 hlk.1
 have hq1 := hlk.1
 refine RunL.ownAddr pk (flat_ne (k := 4) (fun _ => rfl) (by decide) hx0) fun b e hcap => ?_
 subst e
 refine sx 8 ?_
 refine kp [1, 2, 4, 6, 7] rfl ?_
 refine sr ?_
 refine asg rfl rfl ?_
 refine kp [1, 2, 4, 6, 7] rfl ?_
 refine sr ?_
 refine sx 2 ?_
 refine RunL.callX C161 rfl rfl rfl (ac161 { t with layers := l :: ls } _ lc pa np pc 0 l _ hx0 hlk (by split <;> omega) (Nat.le_trans hle (Nat.le_trans hnl (by decide)))) tks fun ⟨la2, lc2⟩ _ => ?_
 refine sx 5 ?_
 refine kp [1, 2, 4, 6, 7, 8] rfl ?_
 refine sr ?_
 refine sx 2 ?_
 refine RunL.op rfl rfl (OpJ.add rfl rfl ?_)
 refine asg rfl rfl ?_
 refine kp [1, 2, 4, 6, 7] rfl ?_
 refine Run.region ?_
 refine sx 2 ?_
 refine RunL.op rfl rfl (OpJ.sub rfl rfl ?_)
 refine asg rfl rfl ?_
 exact RunL.next (Keep.sub (kt (ks := [1, 2, 4, 6]) rfl)) _ ⟨_, hst.2, _, _, _, _, _, rfl, hst.1.trans hI, Nat.le_trans takeL_len hle, takeL_ok hlo, W_i64 _, W_i64 _, rfl, rfl⟩ gv
 refine Run.exit ?_
 refine sr ?_
 refine sx 4 ?_
 refine kp [4, 5] rfl ?_
 refine Run.ret ?_
 rw [← hI, issue_done h2]; exact ret_out (la, lc) (.cellA T28 rfl pk (by rfl) (.tmp rfl .nil)) trivial rfl gv
-- accountingref34.back
theorem ac134 (t : Sk) (m : Mv) (la : Option Addr) (lc : Nat) (pa : Option Addr) (pc : Nat) (ht : t.ok 999999) (hm : m.ok) (hk : m.kind = 3) : AC Tryz.prog 134 ⟨[.agg ⟨t.c la lc pa pc⟩, .agg ⟨m.c⟩]⟩ (stars [own 64 4 la (t.layers).length lc ((t.layers).flatMap Ly.c), own 66 7 pa (t.past).length pc ((t.past).flatMap Pa.c)]) (Outs (fun _ : Option Addr × Nat × Option Addr × Nat => True) (fun x => RmV t la lc pa pc (fBack t m co0) x) (fun x => StB 64 66 (fBack t m co0) x)) := by
 have hn : t.layers.length ≤ 1000000 ∧ t.past.length ≤ 1000000 := ⟨Nat.le_trans ht.nl (by decide), Nat.le_trans ht.np (by decide)⟩
 have hnl := ht.nl; have hnp := ht.np
 obtain ⟨hm1, hm2⟩ := hm
 refine AC.go Tryz.func134 rfl (Nat.le_of_ble_eq_true rfl) fun β => ?_
 refine sr ?_
 refine RunL.op rfl rfl (OpJ.boxA rfl fun b2 => ?_)
 refine RunL.op rfl rfl (OpJ.boxA rfl fun b3 => ?_)
 refine RunL.op rfl rfl (OpJ.alloc Z28 fun b4 => ?_)
 refine RunL.op rfl rfl (OpJ.alloc Z43 fun b5 => ?_)
 refine asg rfl rfl ?_
 refine kp [2, 3, 4, 5] rfl ?_
 refine sr ?_
 refine sx 2 ?_
 refine RunL.call C162 rfl rfl rfl (ac162k t la lc pa pc (own 66 7 pa (t.past).length pc ((t.past).flatMap Pa.c)) m 2 (by rw [hk]; decide) own.rds hn.2) tks ?_
 refine sx 5 ?_
 refine kp [2, 3, 4, 5, 7, 8] rfl ?_
 refine Run.seq ?_
 refine sr ?_
 refine sx 2 ?_
 refine kp [2, 3, 4, 5, 7, 8, 17] rfl ?_
 first | refine Run.if rfl (fun h1 => ?_) (fun h1 => ?_) | refine Run.cond rfl (fun h1 => ?_) (fun h1 => ?_)
 refine sr ?_
 obtain ⟨e, he⟩ := errOf_ne h1
 refine sx 6 ?_
 refine kp [4, 5, 6] rfl ?_
 refine Run.ret ?_
 have hres : fBack t m co0 = .error e := (by unfold fBack; rw [he]); rw [he]; refine ret_out (none, 0, none, 0) (.cellA T28 rfl pk (by rfl) (.cellA T43 rfl pk (by rfl) (.tmp rfl .nil))) trivial (by rw [hres]; rfl) ?_; rw [hres]; exact gv
 refine Run.skip ?_
 refine Run.seq ?_
 refine regionD HM ?_
 obtain ⟨i, p, hr, hx⟩ := refd_ok (Decidable.not_not.1 h1)
 rw [hr]
 have hi := (List.getElem?_eq_some_iff.1 hx).1
 obtain ⟨hp1, hp2, hp3, hp4⟩ := ht.pa i p hx
 refine RunD.ownAddr pk (flat_ne (k := 7) (fun _ => rfl) (by decide) hx) fun b e hcap => ?_
 subst e
 simp only [okIdx]
 refine tk 0 rfl rfl rfl (DetJ.fieldAddr F28_4 rfl) ?_
 first | refine RunD.takeF 1 rfl rfl kr T26 rfl pk (by rfl) ?_ | refine RunD.takeO 1 rfl rfl kr T26 rfl pk (by assumption) (by rfl) (by exact fun _ => rfl) ?_
 refine tk 2 rfl rfl rfl (DetJ.move rfl) ?_
 refine tk 3 rfl rfl rfl (DetJ.indexAddr S26 rfl rfl (by omega)) ?_
 first | refine RunD.takeW 4 rfl rfl kr T66 rfl pk (by rfl) ?_ | refine RunD.takeP 4 rfl rfl kr T66 rfl pk (by simp) ?_ | refine RunD.takeE 4 rfl rfl kr T66 rfl pk (by assumption) (by exact fun _ => rfl) rfl (by decide) ?_
 refine tk 5 rfl rfl rfl (DetJ.fieldAddr F47_4 rfl) ?_
 first | refine RunD.takeF 6 rfl rfl kr T3 rfl pk (by rfl) ?_ | refine RunD.takeO 6 rfl rfl kr T3 rfl pk (by assumption) (by rfl) (by exact fun _ => rfl) ?_
 refine RunD.op 7 [false, false, false, false, false, false, true] rfl rfl rfl kr kr (OpJ.callRet C163 rfl rfl (ac163 p m hm1) .nil ⟨po, ?_⟩)
 refine tk 8 rfl rfl rfl (DetJ.assign rfl) ?_
 refine kd [2, 3, 4, 5, 7, 9] rfl ?_
 refine Run.seq ?_
 refine regionD HM ?_
 refine tk 0 rfl rfl rfl (DetJ.fieldAddr F28_4 rfl) ?_
 first | refine RunD.takeF 1 rfl rfl kr T26 rfl pk (by rfl) ?_ | refine RunD.takeO 1 rfl rfl kr T26 rfl pk (by assumption) (by rfl) (by exact fun _ => rfl) ?_
 refine tk 2 rfl rfl rfl (DetJ.move rfl) ?_
 refine tk 3 rfl rfl rfl (DetJ.fieldAddr F28_4 rfl) ?_
 first | refine RunD.takeF 4 rfl rfl kr T26 rfl pk (by rfl) ?_ | refine RunD.takeO 4 rfl rfl kr T26 rfl pk (by assumption) (by rfl) (by exact fun _ => rfl) ?_
 refine tk 5 rfl rfl rfl (DetJ.move rfl) ?_
 refine tk 6 rfl rfl rfl (DetJ.indexAddr S26 rfl rfl (by omega)) ?_
 refine tk 7 rfl rfl rfl (DetJ.fieldAddr F66_5 rfl) ?_
 first | refine RunD.takeF 8 rfl rfl kr T3 rfl pk (by rfl) ?_ | refine RunD.takeO 8 rfl rfl kr T3 rfl pk (by assumption) (by rfl) (by exact fun _ => rfl) ?_
 refine tk 9 rfl rfl rfl (DetJ.fieldAddr F47_4 rfl) ?_
 first | refine RunD.takeF 10 rfl rfl kr T3 rfl pk (by rfl) ?_ | refine RunD.takeO 10 rfl rfl kr T3 rfl pk (by assumption) (by rfl) (by exact fun _ => rfl) ?_
 refine tk 11 rfl rfl rfl (DetJ.add rfl rfl) ?_
 refine tk 12 rfl rfl rfl (DetJ.indexAddr S26 rfl rfl (by omega)) ?_
 refine tk 13 rfl rfl rfl (DetJ.fieldAddr F66_5 rfl) ?_
 refine RunD.op 14 [false, false, false, false, false, false, false, false, false, false, false, false, false, false] rfl rfl rfl kr kr (OpJ.storeO (i := i) (u' := sendP p m) T3 rfl rfl rfl hx (fun _ => rfl) (by decide) rfl up ⟨po, ?_⟩)
 refine kd [2, 3, 4, 5, 7, 9] rfl ?_
 refine Run.seq ?_
 refine regionD HM ?_
 have hx1 := set_get hx (sendP p m)
 refine tk 0 rfl rfl rfl (DetJ.fieldAddr F28_4 rfl) ?_
 first | refine RunD.takeF 1 rfl rfl kr T26 rfl pk (by rfl) ?_ | refine RunD.takeO 1 rfl rfl kr T26 rfl pk (by assumption) (by rfl) (by exact fun _ => rfl) ?_
 refine tk 2 rfl rfl rfl (DetJ.move rfl) ?_
 refine tk 3 rfl rfl rfl (DetJ.fieldAddr F28_4 rfl) ?_
 first | refine RunD.takeF 4 rfl rfl kr T26 rfl pk (by rfl) ?_ | refine RunD.takeO 4 rfl rfl kr T26 rfl pk (by assumption) (by rfl) (by exact fun _ => rfl) ?_
 refine tk 5 rfl rfl rfl (DetJ.move rfl) ?_
 refine tk 6 rfl rfl rfl (DetJ.indexAddr S26 rfl rfl (by omega)) ?_
 refine tk 7 rfl rfl rfl (DetJ.fieldAddr F66_6 rfl) ?_
 first | refine RunD.takeF 8 rfl rfl kr T3 rfl pk (by rfl) ?_ | refine RunD.takeO 8 rfl rfl kr T3 rfl pk (by assumption) (by rfl) (by exact fun _ => rfl) ?_
 refine tk 9 rfl rfl rfl (DetJ.move rfl) ?_
 refine tk 10 rfl rfl rfl (DetJ.add rfl rfl) ?_
 refine tk 11 rfl rfl rfl (DetJ.indexAddr S26 rfl rfl (by omega)) ?_
 refine tk 12 rfl rfl rfl (DetJ.fieldAddr F66_6 rfl) ?_
 refine RunD.op 13 [false, false, false, false, false, false, false, false, false, false, false, false, false] rfl rfl rfl kr kr (OpJ.storeO (i := i) (u' := backP p m) T3 rfl rfl rfl hx1 (fun _ => rfl) (by decide) rfl up ⟨po, ?_⟩)
 rw [List.set_set]
 refine kd [2, 3, 4, 5, 7, 9] rfl ?_
 refine Run.seq ?_
 refine regionD HM ?_
 have hx2 := set_get hx (backP p m)
 refine tk 0 rfl rfl rfl (DetJ.fieldAddr F28_3 rfl) ?_
 first | refine RunD.takeF 1 rfl rfl kr T25 rfl pk (by rfl) ?_ | refine RunD.takeO 1 rfl rfl kr T25 rfl pk (by assumption) (by rfl) (by exact fun _ => rfl) ?_
 refine tk 2 rfl rfl rfl (DetJ.fieldAddr F47_0 rfl) ?_
 first | refine RunD.takeF 3 rfl rfl kr T3 rfl pk (by rfl) ?_ | refine RunD.takeO 3 rfl rfl kr T3 rfl pk (by assumption) (by rfl) (by exact fun _ => rfl) ?_
 refine tk 4 rfl rfl rfl (DetJ.fieldAddr F28_4 rfl) ?_
 first | refine RunD.takeF 5 rfl rfl kr T26 rfl pk (by rfl) ?_ | refine RunD.takeO 5 rfl rfl kr T26 rfl pk (by assumption) (by rfl) (by exact fun _ => rfl) ?_
 refine tk 6 rfl rfl rfl (DetJ.move rfl) ?_
 refine tk 7 rfl rfl rfl (DetJ.indexAddr S26 rfl rfl (by omega)) ?_
 refine tk 8 rfl rfl rfl (DetJ.fieldAddr F66_2 rfl) ?_
 first | refine RunD.takeF 9 rfl rfl kr T9 rfl pk (by rfl) ?_ | refine RunD.takeO 9 rfl rfl kr T9 rfl pk (by assumption) (by rfl) (by exact fun _ => rfl) ?_
 refine tk 10 rfl rfl rfl (DetJ.fieldAddr F47_4 rfl) ?_
 first | refine RunD.takeF 11 rfl rfl kr T3 rfl pk (by rfl) ?_ | refine RunD.takeO 11 rfl rfl kr T3 rfl pk (by assumption) (by rfl) (by exact fun _ => rfl) ?_
 refine tk 12 rfl rfl rfl (DetJ.move rfl) ?_
 refine RunD.takeB 13 rfl rfl kr B64 rfl rfl fun cs hcs => ?_
 simp only [Sk.c, Mv.c, Co.c, bldL, bldA, Value.cells, bs, Nat.reduceAdd, Nat.reduceLeDiff, Nat.reduceLT] at hcs; subst hcs
 refine RunD.op 14 [false, false, false, false, false, false, true, true, true, true, false, false, true, true] rfl rfl rfl kr kr (OpJ.buildSlice1 S25 rfl rfl rfl (by decide) (by decide) Z64 rfl fun b70 => ⟨po, ?_⟩)
 refine RunD.op 15 [true, true, true, true, false, false] rfl rfl rfl kr kr (OpJ.append1 (⟨m.seq, p.lot, m.qty, backV p m⟩ : Ly) S25 M64 rfl rfl pk pk rfl rfl (by simp [Value.oneCell', Pa.c, Ly.c, Mv.c, Co.c]) rfl (by omega) (by omega) fun a71 c71 => ⟨po, ?_⟩)
 refine tk 16 rfl rfl rfl (DetJ.fieldAddr F28_3 rfl) ?_
 refine RunD.op 17 [false, false, false, false, false] rfl rfl rfl kr kr (OpJ.store1 T25 rfl rfl rfl up (by simp) ⟨po, ?_⟩)
 refine kd [2, 3, 4, 5, 9] rfl ?_
 refine Run.seq ?_
 refine regionD HM ?_
 first | refine RunD.takeW 0 rfl rfl kr T28 rfl pk (by rfl) ?_ | refine RunD.takeP 0 rfl rfl kr T28 rfl pk (by simp) ?_ | refine RunD.takeE 0 rfl rfl kr T28 rfl pk (by assumption) (by exact fun _ => rfl) rfl (by decide) ?_
 refine tk 1 rfl rfl rfl (DetJ.fieldAddr F47_4 rfl) ?_
 first | refine RunD.takeF 2 rfl rfl kr T3 rfl pk (by rfl) ?_ | refine RunD.takeO 2 rfl rfl kr T3 rfl pk (by assumption) (by rfl) (by exact fun _ => rfl) ?_
 refine tk 3 rfl rfl rfl (DetJ.move rfl) ?_
 refine RunD.takeB 4 rfl rfl kr B43 rfl rfl fun cs hcs => ?_
 simp only [Sk.c, Mv.c, Co.c, bldL, bldA, Value.cells, bs, Nat.reduceAdd, Nat.reduceLeDiff, Nat.reduceLT] at hcs; subst hcs
 refine RunD.op 5 [true, true, true, true, false] rfl rfl rfl kr kr (OpJ.storeW T28 rfl rfl rfl rfl (by simp [Value.oneCell', Pa.c, Ly.c, Mv.c, Co.c]) up ⟨po, ?_⟩)
 refine RunD.op 6 [false, false, false, false] rfl rfl rfl kr kr (OpJ.storeW T43 rfl rfl rfl rfl (by simp [Value.oneCell', Pa.c, Ly.c, Mv.c, Co.c]) up ⟨po, ?_⟩)
 refine tk 7 rfl rfl rfl (DetJ.assign rfl) ?_
 refine kd [4, 5, 6] rfl ?_
 refine Run.ret ?_
 have hres : fBack t m co0 = .ok _ := (by unfold fBack; rw [hr]); refine ret_out (a71, c71, (some ⟨b, 0, none⟩), pc) (.cellA T28 rfl pk (by rfl) (.cellA T43 rfl pk (by rfl) (.tmp rfl .nil))) trivial (by rw [hres]; simp only [RmV, RmS, Sk.c, List.length_set]; rfl) ?_; rw [hres]; simp only [StB, List.length_set, List.length_append]; exact gv
-- accountingref34.send
theorem ac135 (t : Sk) (m : Mv) (la : Option Addr) (lc : Nat) (pa : Option Addr) (pc : Nat) (ht : t.ok 999999) (hm : m.ok) (hk : m.kind = 4) : AC Tryz.prog 135 ⟨[.agg ⟨t.c la lc pa pc⟩, .agg ⟨m.c⟩]⟩ (stars [own 64 4 la (t.layers).length lc ((t.layers).flatMap Ly.c), own 66 7 pa (t.past).length pc ((t.past).flatMap Pa.c)]) (Outs (fun _ : Option Addr × Nat × Option Addr × Nat => True) (fun x => RmV t la lc pa pc (fSend t m co0) x) (fun x => StB 64 66 (fSend t m co0) x)) := by
 have hn : t.layers.length ≤ 1000000 ∧ t.past.length ≤ 1000000 := ⟨Nat.le_trans ht.nl (by decide), Nat.le_trans ht.np (by decide)⟩
 have hnl := ht.nl; have hnp := ht.np
 obtain ⟨hm1, hm2⟩ := hm
 refine AC.go Tryz.func135 rfl (Nat.le_of_ble_eq_true rfl) fun β => ?_
 refine sr ?_
 refine RunL.op rfl rfl (OpJ.boxA rfl fun b2 => ?_)
 refine RunL.op rfl rfl (OpJ.boxA rfl fun b3 => ?_)
 refine RunL.op rfl rfl (OpJ.alloc Z28 fun b4 => ?_)
 refine RunL.op rfl rfl (OpJ.alloc Z43 fun b5 => ?_)
 refine asg rfl rfl ?_
 refine kp [2, 3, 4, 5] rfl ?_
 refine sr ?_
 refine sx 2 ?_
 refine RunL.call C162 rfl rfl rfl (ac162k t la lc pa pc (own 66 7 pa (t.past).length pc ((t.past).flatMap Pa.c)) m 1 (by rw [hk]; decide) own.rds hn.2) tks ?_
 refine sx 5 ?_
 refine kp [2, 3, 4, 5, 7, 8] rfl ?_
 refine Run.seq ?_
 refine sr ?_
 refine sx 2 ?_
 refine kp [2, 3, 4, 5, 7, 8, 18] rfl ?_
 first | refine Run.if rfl (fun h1 => ?_) (fun h1 => ?_) | refine Run.cond rfl (fun h1 => ?_) (fun h1 => ?_)
 refine sr ?_
 obtain ⟨e, he⟩ := errOf_ne h1
 refine sx 6 ?_
 refine kp [4, 5, 6] rfl ?_
 refine Run.ret ?_
 have hres : fSend t m co0 = .error e := (by unfold fSend; rw [he]); rw [he]; refine ret_out (none, 0, none, 0) (.cellA T28 rfl pk (by rfl) (.cellA T43 rfl pk (by rfl) (.tmp rfl .nil))) trivial (by rw [hres]; rfl) ?_; rw [hres]; exact gv
 refine Run.skip ?_
 refine sr ?_
 obtain ⟨i, p, hr, hx⟩ := refd_ok (Decidable.not_not.1 h1)
 rw [hr]
 have hi := (List.getElem?_eq_some_iff.1 hx).1
 obtain ⟨hp1, hp2, hp3, hp4⟩ := ht.pa i p hx
 refine RunL.ownAddr pk (flat_ne (k := 7) (fun _ => rfl) (by decide) hx) fun b e hcap => ?_
 subst e
 simp only [okIdx]
 refine sx 3 ?_
 refine RunL.call C164 rfl rfl rfl (ac164 t la lc _ pc (own 64 4 la (t.layers).length lc ((t.layers).flatMap Ly.c)) m.ref own.rds hn.1) tks ?_
 refine asg rfl rfl ?_
 rcases hf : findI (isLy m.ref) t.layers with _ | ⟨j, l⟩
 refine kp [2, 3, 4, 5, 7, 9] rfl ?_
 refine Run.seq ?_
 refine Run.seq ?_
 refine regionD HM ?_
 refine tk 0 rfl rfl rfl (DetJ.move rfl) ?_
 refine tk 1 rfl rfl rfl (DetJ.lss rfl rfl) ?_
 first | refine RunD.set (congrArg Value.bool (decide_eq_false (show ¬ ((j : Int) < 0) by omega))) ?_ | skip
 refine tk 2 rfl rfl rfl (DetJ.move rfl) ?_
 refine RunD.takeN 3 rfl rfl rfl rfl rfl kr ?_
 refine RunD.takeN 4 rfl rfl rfl rfl rfl kr ?_
 refine RunD.takeN 5 rfl rfl rfl rfl rfl kr ?_
 refine RunD.takeN 6 rfl rfl rfl rfl rfl kr ?_
 refine RunD.takeN 7 rfl rfl rfl rfl rfl kr ?_
 refine RunD.takeN 8 rfl rfl rfl rfl rfl kr ?_
 refine RunD.takeN 9 rfl rfl rfl rfl rfl kr ?_
 refine RunD.takeN 10 rfl rfl rfl rfl rfl kr ?_
 refine RunD.takeN 11 rfl rfl rfl rfl rfl kr ?_
 refine tk 12 rfl rfl rfl (DetJ.pickT rfl rfl) ?_
 refine kd [2, 3, 4, 5, 7, 9, 38] rfl ?_
 refine Run.true rfl ?_
 refine sr ?_
 refine sx 5 ?_
 refine kp [4, 5, 6] rfl ?_
 refine Run.ret ?_
 have hres : fSend t m co0 = .error 21 := (by unfold fSend; rw [hr]; simp only [hf]); refine ret_out (none, 0, none, 0) (.cellA T28 rfl pk (by rfl) (.cellA T43 rfl pk (by rfl) (.tmp rfl .nil))) trivial (by rw [hres]; rfl) ?_; rw [hres]; exact gv
 obtain ⟨hy, _⟩ := findI_some hf
 have hj := (List.getElem?_eq_some_iff.1 hy).1
 have hly := ht.ly j l hy
 have hl1 := hly.1
 refine RunL.ownAddr pk (flat_ne (k := 4) (fun _ => rfl) (by decide) hy) fun b2 e hcap => ?_
 subst e
 simp only [idxOf]
 refine kp [2, 3, 4, 5, 7, 9] rfl ?_
 refine Run.seq ?_
 refine Run.seq ?_
 refine regionD HM ?_
 refine tk 0 rfl rfl rfl (DetJ.move rfl) ?_
 refine tk 1 rfl rfl rfl (DetJ.lss rfl rfl) ?_
 first | refine RunD.set (congrArg Value.bool (decide_eq_false (show ¬ ((j : Int) < 0) by omega))) ?_ | skip
 refine tk 2 rfl rfl rfl (DetJ.move rfl) ?_
 refine RunD.takeG 3 rfl rfl rfl rfl rfl kr (DetJ.fieldAddr F28_3 rfl) .nil ?_
 first | refine RunD.takeGF 4 rfl rfl rfl rfl kr T25 rfl pk (by rfl) ?_ | refine RunD.takeGO 4 rfl rfl rfl rfl kr T25 rfl pk (by assumption) (by rfl) (by exact fun _ => rfl) ?_
 refine RunD.takeG 5 rfl rfl rfl rfl rfl kr (DetJ.move rfl) .nil ?_
 refine RunD.takeG 6 rfl rfl rfl rfl rfl kr (DetJ.indexAddr S25 rfl rfl (by omega)) .nil ?_
 refine RunD.takeG 7 rfl rfl rfl rfl rfl kr (DetJ.fieldAddr F64_2 rfl) .nil ?_
 first | refine RunD.takeGF 8 rfl rfl rfl rfl kr T3 rfl pk (by rfl) ?_ | refine RunD.takeGO 8 rfl rfl rfl rfl kr T3 rfl pk (by assumption) (by rfl) (by exact fun _ => rfl) ?_
 refine RunD.takeG 9 rfl rfl rfl rfl rfl kr (DetJ.fieldAddr F47_4 rfl) .nil ?_
 first | refine RunD.takeGF 10 rfl rfl rfl rfl kr T3 rfl pk (by rfl) ?_ | refine RunD.takeGO 10 rfl rfl rfl rfl kr T3 rfl pk (by assumption) (by rfl) (by exact fun _ => rfl) ?_
 refine RunD.takeG 11 rfl rfl rfl rfl rfl kr (DetJ.lss rfl rfl) .nil ?_
 refine tk 12 rfl rfl rfl (DetJ.pickF rfl rfl) ?_
 refine kd [2, 3, 4, 5, 7, 9, 38] rfl ?_
 first | refine Run.if rfl (fun h2 => ?_) (fun h2 => ?_) | refine Run.cond rfl (fun h2 => ?_) (fun h2 => ?_)
 refine sr ?_
 refine sx 5 ?_
 refine kp [4, 5, 6] rfl ?_
 refine Run.ret ?_
 have hres : fSend t m co0 = .error 21 := (by unfold fSend; rw [hr]; simp only [hf]; rw [if_pos (by assumption)]); refine ret_out (none, 0, none, 0) (.cellA T28 rfl pk (by rfl) (.cellA T43 rfl pk (by rfl) (.tmp rfl .nil))) trivial (by rw [hres]; rfl) ?_; rw [hres]; exact gv
 refine Run.skip ?_
 refine Run.seq ?_
 refine regionD HM ?_
 refine tk 0 rfl rfl rfl (DetJ.fieldAddr F28_4 rfl) ?_
 first | refine RunD.takeF 1 rfl rfl kr T26 rfl pk (by rfl) ?_ | refine RunD.takeO 1 rfl rfl kr T26 rfl pk (by assumption) (by rfl) (by exact fun _ => rfl) ?_
 refine tk 2 rfl rfl rfl (DetJ.move rfl) ?_
 refine tk 3 rfl rfl rfl (DetJ.fieldAddr F28_4 rfl) ?_
 first | refine RunD.takeF 4 rfl rfl kr T26 rfl pk (by rfl) ?_ | refine RunD.takeO 4 rfl rfl kr T26 rfl pk (by assumption) (by rfl) (by exact fun _ => rfl) ?_
 refine tk 5 rfl rfl rfl (DetJ.move rfl) ?_
 refine tk 6 rfl rfl rfl (DetJ.indexAddr S26 rfl rfl (by omega)) ?_
 refine tk 7 rfl rfl rfl (DetJ.fieldAddr F66_5 rfl) ?_
 first | refine RunD.takeF 8 rfl rfl kr T3 rfl pk (by rfl) ?_ | refine RunD.takeO 8 rfl rfl kr T3 rfl pk (by assumption) (by rfl) (by exact fun _ => rfl) ?_
 refine tk 9 rfl rfl rfl (DetJ.fieldAddr F47_4 rfl) ?_
 first | refine RunD.takeF 10 rfl rfl kr T3 rfl pk (by rfl) ?_ | refine RunD.takeO 10 rfl rfl kr T3 rfl pk (by assumption) (by rfl) (by exact fun _ => rfl) ?_
 refine tk 11 rfl rfl rfl (DetJ.add rfl rfl) ?_
 refine tk 12 rfl rfl rfl (DetJ.indexAddr S26 rfl rfl (by omega)) ?_
 refine tk 13 rfl rfl rfl (DetJ.fieldAddr F66_5 rfl) ?_
 refine RunD.op 14 [false, false, false, false, false, false, false, false, false, false, false, false, false, false] rfl rfl rfl kr kr (OpJ.storeO (i := i) (u' := sendP p m) T3 rfl rfl rfl hx (fun _ => rfl) (by decide) rfl up ⟨po, ?_⟩)
 refine kd [2, 3, 4, 5, 9] rfl ?_
 refine sr ?_
 refine sx 4 ?_
 refine RunL.callX C161 rfl rfl rfl (ac161 { t with past := t.past.set i (sendP p m) } _ lc _ t.past.length pc j l m.qty hy hly hm1 hn.1) tks fun ⟨la2, lc2⟩ _ => ?_
 refine sx 5 ?_
 refine kp [2, 3, 4, 5, 10] rfl ?_
 refine Run.seq ?_
 refine regionD HM ?_
 first | refine RunD.takeW 0 rfl rfl kr T28 rfl pk (by rfl) ?_ | refine RunD.takeP 0 rfl rfl kr T28 rfl pk (by simp) ?_ | refine RunD.takeE 0 rfl rfl kr T28 rfl pk (by assumption) (by exact fun _ => rfl) rfl (by decide) ?_
 refine tk 1 rfl rfl rfl (DetJ.fieldAddr F47_4 rfl) ?_
 first | refine RunD.takeF 2 rfl rfl kr T3 rfl pk (by rfl) ?_ | refine RunD.takeO 2 rfl rfl kr T3 rfl pk (by assumption) (by rfl) (by exact fun _ => rfl) ?_
 refine tk 3 rfl rfl rfl (DetJ.neg rfl) ?_
 refine tk 4 rfl rfl rfl (DetJ.move rfl) ?_
 refine tk 5 rfl rfl rfl (DetJ.neg rfl) ?_
 refine tk 6 rfl rfl rfl (DetJ.move rfl) ?_
 refine tk 7 rfl rfl rfl (DetJ.fieldAddr F47_5 rfl) ?_
 first | refine RunD.takeF 8 rfl rfl kr T3 rfl pk (by rfl) ?_ | refine RunD.takeO 8 rfl rfl kr T3 rfl pk (by assumption) (by rfl) (by exact fun _ => rfl) ?_
 refine tk 9 rfl rfl rfl (DetJ.sub rfl rfl) ?_
 refine RunD.takeB 10 rfl rfl kr B43 rfl rfl fun cs hcs => ?_
 simp only [Sk.c, Mv.c, Co.c, bldL, bldA, Value.cells, bs, Nat.reduceAdd, Nat.reduceLeDiff, Nat.reduceLT] at hcs; subst hcs
 refine RunD.op 11 [true, true, true, true, true, true, true, true, true, true, false] rfl rfl rfl kr kr (OpJ.storeW T28 rfl rfl rfl rfl (by simp [Value.oneCell', Pa.c, Ly.c, Mv.c, Co.c]) up ⟨po, ?_⟩)
 refine RunD.op 12 [false, false, false, false, false, false, false, false, false, false] rfl rfl rfl kr kr (OpJ.storeW T43 rfl rfl rfl rfl (by simp [Value.oneCell', Pa.c, Ly.c, Mv.c, Co.c]) up ⟨po, ?_⟩)
 refine tk 13 rfl rfl rfl (DetJ.assign rfl) ?_
 refine kd [4, 5, 6] rfl ?_
 refine Run.ret ?_
 have hres : fSend t m co0 = .ok _ := (by unfold fSend; rw [hr]; simp only [hf]; rw [if_neg (by assumption)]); refine ret_out (la2, lc2, (some ⟨b, 0, none⟩), pc) (.cellA T28 rfl pk (by rfl) (.cellA T43 rfl pk (by rfl) (.tmp rfl .nil))) trivial (by rw [hres]; simp only [RmV, RmS, Sk.c, List.length_set]; rfl) ?_; rw [hres]; simp only [StB, List.length_set, List.length_append]; exact gv
end
end Go.Proofs.YtdcchollplhioaaGreatDoor

namespace Go.Proofs.YtdcchollplhioaaGreatDoor
open Go Go.SL Go.Proofs
section
attribute [local irreducible] OpJ RunL Run RunD DetJ pt own star Rd RdS
-- accountingref34.landed
theorem ac136 (t : Sk) (m : Mv) (la : Option Addr) (lc : Nat) (pa : Option Addr) (pc : Nat) (ht : t.ok 999999) (hm : m.ok) (hq0 : m.qty = 0) (hg : ∀ (i : Nat) (p : Pa), t.past[i]? = some p → 0 ≤ W (p.qty - p.used)) : AC Tryz.prog 136 ⟨[.agg ⟨t.c la lc pa pc⟩, .agg ⟨m.c⟩]⟩ (stars [own 64 4 la (t.layers).length lc ((t.layers).flatMap Ly.c), own 66 7 pa (t.past).length pc ((t.past).flatMap Pa.c)]) (Outs (fun _ : Option Addr × Nat × Option Addr × Nat => True) (fun x => RmV t la lc pa pc (fLand t m co0) x) (fun x => StB 64 66 (fLand t m co0) x)) := by
 have hn : t.layers.length ≤ 1000000 ∧ t.past.length ≤ 1000000 := ⟨Nat.le_trans ht.nl (by decide), Nat.le_trans ht.np (by decide)⟩
 have hnl := ht.nl; have hnp := ht.np
 obtain ⟨hm1, hm2⟩ := hm
 refine AC.go Tryz.func136 rfl (Nat.le_of_ble_eq_true rfl) fun β => ?_
 refine sr ?_
 refine RunL.op rfl rfl (OpJ.boxA rfl fun b2 => ?_)
 refine RunL.op rfl rfl (OpJ.boxA rfl fun b3 => ?_)
 refine RunL.op rfl rfl (OpJ.alloc Z28 fun b4 => ?_)
 refine RunL.op rfl rfl (OpJ.alloc Z43 fun b5 => ?_)
 refine asg rfl rfl ?_
 refine kp [2, 3, 4, 5] rfl ?_
 refine sr ?_
 refine sx 3 ?_
 refine RunL.call C132 rfl rfl rfl (ac132 t la lc pa pc (own 66 7 pa (t.past).length pc ((t.past).flatMap Pa.c)) 1 m.ref (by decide) own.rds hn.2) tks ?_
 refine asg rfl rfl ?_
 rcases hf1 : findI (isPast 1 m.ref) t.past with _ | ⟨i, p⟩
 refine kp [2, 3, 4, 5, 7] rfl ?_
 refine Run.seq ?_
 refine sr ?_
 refine sx 2 ?_
 first | refine RunL.set (congrArg Value.bool (decide_eq_false (show ¬ ((i : Int) < 0) by omega))) ?_ | skip
 refine kp [2, 3, 4, 5, 7, 15] rfl ?_
 refine Run.true rfl ?_
 refine sr ?_
 refine sx 5 ?_
 refine kp [4, 5, 6] rfl ?_
 refine Run.ret ?_
 have hres := fLand_none (t := t) (m := m) hf1; refine ret_out (none, 0, none, 0) (.cellA T28 rfl pk (by rfl) (.cellA T43 rfl pk (by rfl) (.tmp rfl .nil))) trivial (by rw [hres]; rfl) ?_; rw [hres]; exact gv
 have hr := refd_fine hf1 hq0 hg
 obtain ⟨hx, _⟩ := findI_some hf1
 have hi := (List.getElem?_eq_some_iff.1 hx).1
 obtain ⟨hp1, hp2, hp3, hp4⟩ := ht.pa i p hx
 refine RunL.ownAddr pk (flat_ne (k := 7) (fun _ => rfl) (by decide) hx) fun b e hcap => ?_
 subst e
 simp only [idxOf]
 refine kp [2, 3, 4, 5, 7] rfl ?_
 refine Run.seq ?_
 refine sr ?_
 refine sx 2 ?_
 first | refine RunL.set (congrArg Value.bool (decide_eq_false (show ¬ ((i : Int) < 0) by omega))) ?_ | skip
 refine kp [2, 3, 4, 5, 7, 15] rfl ?_
 refine Run.false rfl ?_
 refine Run.skip ?_
 refine sr ?_
 refine sx 3 ?_
 refine RunL.call C164 rfl rfl rfl (ac164 t la lc _ pc (own 64 4 la (t.layers).length lc ((t.layers).flatMap Ly.c)) m.ref own.rds hn.1) tks ?_
 refine asg rfl rfl ?_
 rcases hf : findI (isLy m.ref) t.layers with _ | ⟨j, l⟩
 refine kp [2, 3, 4, 5, 7, 8] rfl ?_
 refine Run.seq ?_
 refine sr ?_
 refine sx 2 ?_
 first | refine RunL.set (congrArg Value.bool (decide_eq_false (show ¬ ((j : Int) < 0) by omega))) ?_ | skip
 refine kp [2, 3, 4, 5, 7, 8, 23] rfl ?_
 refine Run.true rfl ?_
 refine Run.seq ?_
 refine regionD HM ?_
 first | refine RunD.takeW 0 rfl rfl kr T28 rfl pk (by rfl) ?_ | refine RunD.takeP 0 rfl rfl kr T28 rfl pk (by simp) ?_ | refine RunD.takeE 0 rfl rfl kr T28 rfl pk (by assumption) (by exact fun _ => rfl) rfl (by decide) ?_
 refine tk 1 rfl rfl rfl (DetJ.fieldAddr F47_5 rfl) ?_
 first | refine RunD.takeF 2 rfl rfl kr T3 rfl pk (by rfl) ?_ | refine RunD.takeO 2 rfl rfl kr T3 rfl pk (by assumption) (by rfl) (by exact fun _ => rfl) ?_
 refine RunD.takeB 3 rfl rfl kr B43 rfl rfl fun cs hcs => ?_
 simp only [Sk.c, Mv.c, Co.c, bldL, bldA, Value.cells, bs, Nat.reduceAdd, Nat.reduceLeDiff, Nat.reduceLT] at hcs; subst hcs
 refine RunD.op 4 [true, true, true, false] rfl rfl rfl kr kr (OpJ.storeW T28 rfl rfl rfl rfl (by simp [Value.oneCell', Pa.c, Ly.c, Mv.c, Co.c]) up ⟨po, ?_⟩)
 refine RunD.op 5 [false, false, false] rfl rfl rfl kr kr (OpJ.storeW T43 rfl rfl rfl rfl (by simp [Value.oneCell', Pa.c, Ly.c, Mv.c, Co.c]) up ⟨po, ?_⟩)
 refine tk 6 rfl rfl rfl (DetJ.assign rfl) ?_
 refine kd [4, 5, 6] rfl ?_
 refine Run.ret ?_
 have hres := fLand_no (t := t) (m := m) hr hf hm2; refine ret_out (la, lc, (some ⟨b, 0, none⟩), pc) (.cellA T28 rfl pk (by rfl) (.cellA T43 rfl pk (by rfl) (.tmp rfl .nil))) trivial (by rw [hres]; simp only [RmV, RmS, Sk.c, List.length_set]; rfl) ?_; rw [hres]; simp only [StB, List.length_set, List.length_append]; exact gv
 obtain ⟨hy, _⟩ := findI_some hf
 have hj := (List.getElem?_eq_some_iff.1 hy).1
 have hly := ht.ly j l hy
 have hl1 := hly.1
 refine RunL.ownAddr pk (flat_ne (k := 4) (fun _ => rfl) (by decide) hy) fun b2 e hcap => ?_
 subst e
 simp only [idxOf]
 refine kp [2, 3, 4, 5, 7, 8] rfl ?_
 refine Run.seq ?_
 refine sr ?_
 refine sx 2 ?_
 first | refine RunL.set (congrArg Value.bool (decide_eq_false (show ¬ ((j : Int) < 0) by omega))) ?_ | skip
 refine kp [2, 3, 4, 5, 7, 8, 23] rfl ?_
 refine Run.false rfl ?_
 refine Run.skip ?_
 refine Run.seq ?_
 refine regionD HM ?_
 refine tk 0 rfl rfl rfl (DetJ.fieldAddr F47_5 rfl) ?_
 first | refine RunD.takeF 1 rfl rfl kr T3 rfl pk (by rfl) ?_ | refine RunD.takeO 1 rfl rfl kr T3 rfl pk (by assumption) (by rfl) (by exact fun _ => rfl) ?_
 refine tk 2 rfl rfl rfl (DetJ.fieldAddr F28_3 rfl) ?_
 first | refine RunD.takeF 3 rfl rfl kr T25 rfl pk (by rfl) ?_ | refine RunD.takeO 3 rfl rfl kr T25 rfl pk (by assumption) (by rfl) (by exact fun _ => rfl) ?_
 refine tk 4 rfl rfl rfl (DetJ.move rfl) ?_
 refine tk 5 rfl rfl rfl (DetJ.indexAddr S25 rfl rfl (by omega)) ?_
 refine tk 6 rfl rfl rfl (DetJ.fieldAddr F64_2 rfl) ?_
 first | refine RunD.takeF 7 rfl rfl kr T3 rfl pk (by rfl) ?_ | refine RunD.takeO 7 rfl rfl kr T3 rfl pk (by assumption) (by rfl) (by exact fun _ => rfl) ?_
 refine tk 8 rfl rfl rfl (DetJ.fieldAddr F28_4 rfl) ?_
 first | refine RunD.takeF 9 rfl rfl kr T26 rfl pk (by rfl) ?_ | refine RunD.takeO 9 rfl rfl kr T26 rfl pk (by assumption) (by rfl) (by exact fun _ => rfl) ?_
 refine tk 10 rfl rfl rfl (DetJ.move rfl) ?_
 refine tk 11 rfl rfl rfl (DetJ.indexAddr S26 rfl rfl (by omega)) ?_
 refine tk 12 rfl rfl rfl (DetJ.fieldAddr F66_3 rfl) ?_
 first | refine RunD.takeF 13 rfl rfl kr T3 rfl pk (by rfl) ?_ | refine RunD.takeO 13 rfl rfl kr T3 rfl pk (by assumption) (by rfl) (by exact fun _ => rfl) ?_
 refine RunD.op 14 [false, false, false, true, true, true, false, false, false, true, true, true, false, false] rfl rfl rfl kr kr (OpJ.callRet C165 rfl rfl (ac165 _ _ _ hm2 hl1 hp1) .nil ⟨po, ?_⟩)
 refine tk 15 rfl rfl rfl (DetJ.assign rfl) ?_
 refine kd [2, 3, 4, 5, 8, 9] rfl ?_
 refine Run.seq ?_
 refine regionD HM ?_
 refine tk 0 rfl rfl rfl (DetJ.fieldAddr F28_3 rfl) ?_
 first | refine RunD.takeF 1 rfl rfl kr T25 rfl pk (by rfl) ?_ | refine RunD.takeO 1 rfl rfl kr T25 rfl pk (by assumption) (by rfl) (by exact fun _ => rfl) ?_
 refine tk 2 rfl rfl rfl (DetJ.move rfl) ?_
 refine tk 3 rfl rfl rfl (DetJ.fieldAddr F28_3 rfl) ?_
 first | refine RunD.takeF 4 rfl rfl kr T25 rfl pk (by rfl) ?_ | refine RunD.takeO 4 rfl rfl kr T25 rfl pk (by assumption) (by rfl) (by exact fun _ => rfl) ?_
 refine tk 5 rfl rfl rfl (DetJ.move rfl) ?_
 refine tk 6 rfl rfl rfl (DetJ.indexAddr S25 rfl rfl (by omega)) ?_
 refine tk 7 rfl rfl rfl (DetJ.fieldAddr F64_3 rfl) ?_
 first | refine RunD.takeF 8 rfl rfl kr T3 rfl pk (by rfl) ?_ | refine RunD.takeO 8 rfl rfl kr T3 rfl pk (by assumption) (by rfl) (by exact fun _ => rfl) ?_
 refine tk 9 rfl rfl rfl (DetJ.move rfl) ?_
 refine tk 10 rfl rfl rfl (DetJ.add rfl rfl) ?_
 refine tk 11 rfl rfl rfl (DetJ.indexAddr S25 rfl rfl (by omega)) ?_
 refine tk 12 rfl rfl rfl (DetJ.fieldAddr F64_3 rfl) ?_
 refine RunD.op 13 [false, false, false, false, false, false, false, false, false, false, false, false, false] rfl rfl rfl kr kr (OpJ.storeO (i := j) (u' := { l with value := W (l.value + partN m.cost l.qty p.qty) }) T3 rfl rfl rfl hy (fun _ => rfl) (by decide) rfl up ⟨po, ?_⟩)
 refine kd [2, 3, 4, 5, 9] rfl ?_
 refine Run.seq ?_
 refine regionD HM ?_
 first | refine RunD.takeW 0 rfl rfl kr T28 rfl pk (by rfl) ?_ | refine RunD.takeP 0 rfl rfl kr T28 rfl pk (by simp) ?_ | refine RunD.takeE 0 rfl rfl kr T28 rfl pk (by assumption) (by exact fun _ => rfl) rfl (by decide) ?_
 refine tk 1 rfl rfl rfl (DetJ.move rfl) ?_
 refine tk 2 rfl rfl rfl (DetJ.fieldAddr F47_5 rfl) ?_
 first | refine RunD.takeF 3 rfl rfl kr T3 rfl pk (by rfl) ?_ | refine RunD.takeO 3 rfl rfl kr T3 rfl pk (by assumption) (by rfl) (by exact fun _ => rfl) ?_
 refine tk 4 rfl rfl rfl (DetJ.move rfl) ?_
 refine tk 5 rfl rfl rfl (DetJ.sub rfl rfl) ?_
 refine RunD.takeB 6 rfl rfl kr B43 rfl rfl fun cs hcs => ?_
 simp only [Sk.c, Mv.c, Co.c, bldL, bldA, Value.cells, bs, Nat.reduceAdd, Nat.reduceLeDiff, Nat.reduceLT] at hcs; subst hcs
 refine RunD.op 7 [true, true, true, true, true, true, false] rfl rfl rfl kr kr (OpJ.storeW T28 rfl rfl rfl rfl (by simp [Value.oneCell', Pa.c, Ly.c, Mv.c, Co.c]) up ⟨po, ?_⟩)
 refine RunD.op 8 [false, false, false, false, false, false] rfl rfl rfl kr kr (OpJ.storeW T43 rfl rfl rfl rfl (by simp [Value.oneCell', Pa.c, Ly.c, Mv.c, Co.c]) up ⟨po, ?_⟩)
 refine tk 9 rfl rfl rfl (DetJ.assign rfl) ?_
 refine kd [4, 5, 6] rfl ?_
 refine Run.ret ?_
 have hres := fLand_ok (t := t) (m := m) hr hf; refine ret_out ((some ⟨b2, 0, none⟩), lc, (some ⟨b, 0, none⟩), pc) (.cellA T28 rfl pk (by rfl) (.cellA T43 rfl pk (by rfl) (.tmp rfl .nil))) trivial (by rw [hres]; simp only [RmV, RmS, Sk.c, List.length_set]; rfl) ?_; rw [hres]; simp only [StB, List.length_set, List.length_append]; exact gv
end
end Go.Proofs.YtdcchollplhioaaGreatDoor

namespace Go.Proofs.YtdcchollplhioaaGreatDoor
open Go Go.SL Go.Proofs
section
attribute [local irreducible] OpJ RunL Run RunD DetJ pt own star Rd RdS
end
theorem acr3 (t : Sk) (m : Mv) (la : Option Addr) (lc : Nat) (pa : Option Addr) (pc : Nat) (ht : t.ok 999999) (hm : m.ok) (hk : m.kind = 3) (hq0 : m.kind = 5 → m.qty = 0) (hg : ∀ (i : Nat) (p : Pa), t.past[i]? = some p → 0 ≤ W (p.qty - p.used)) : AC Tryz.prog 134 ⟨[.agg ⟨t.c la lc pa pc⟩, .agg ⟨m.c⟩]⟩ (stars [own 64 4 la (t.layers).length lc ((t.layers).flatMap Ly.c), own 66 7 pa (t.past).length pc ((t.past).flatMap Pa.c)]) (Outs (fun _ : Option Addr × Nat × Option Addr × Nat => True) (fun x => RmV t la lc pa pc (fDo t m co0) x) (fun x => StB 64 66 (fDo t m co0) x)) := by
  rw [fDo_3 hk]; exact ac134 t m la lc pa pc ht hm hk
section
attribute [local irreducible] OpJ RunL Run RunD DetJ pt own star Rd RdS
end
theorem acr4 (t : Sk) (m : Mv) (la : Option Addr) (lc : Nat) (pa : Option Addr) (pc : Nat) (ht : t.ok 999999) (hm : m.ok) (hk : m.kind = 4) (hq0 : m.kind = 5 → m.qty = 0) (hg : ∀ (i : Nat) (p : Pa), t.past[i]? = some p → 0 ≤ W (p.qty - p.used)) : AC Tryz.prog 135 ⟨[.agg ⟨t.c la lc pa pc⟩, .agg ⟨m.c⟩]⟩ (stars [own 64 4 la (t.layers).length lc ((t.layers).flatMap Ly.c), own 66 7 pa (t.past).length pc ((t.past).flatMap Pa.c)]) (Outs (fun _ : Option Addr × Nat × Option Addr × Nat => True) (fun x => RmV t la lc pa pc (fDo t m co0) x) (fun x => StB 64 66 (fDo t m co0) x)) := by
  rw [fDo_4 hk]; exact ac135 t m la lc pa pc ht hm hk
section
attribute [local irreducible] OpJ RunL Run RunD DetJ pt own star Rd RdS
end
theorem acr5 (t : Sk) (m : Mv) (la : Option Addr) (lc : Nat) (pa : Option Addr) (pc : Nat) (ht : t.ok 999999) (hm : m.ok) (hk : m.kind = 5) (hq0 : m.kind = 5 → m.qty = 0) (hg : ∀ (i : Nat) (p : Pa), t.past[i]? = some p → 0 ≤ W (p.qty - p.used)) : AC Tryz.prog 136 ⟨[.agg ⟨t.c la lc pa pc⟩, .agg ⟨m.c⟩]⟩ (stars [own 64 4 la (t.layers).length lc ((t.layers).flatMap Ly.c), own 66 7 pa (t.past).length pc ((t.past).flatMap Pa.c)]) (Outs (fun _ : Option Addr × Nat × Option Addr × Nat => True) (fun x => RmV t la lc pa pc (fDo t m co0) x) (fun x => StB 64 66 (fDo t m co0) x)) := by
  rw [fDo_5 hk]; exact ac136 t m la lc pa pc ht hm (hq0 hk) hg
section
attribute [local irreducible] OpJ RunL Run RunD DetJ pt own star Rd RdS
-- accountingref34.Clone
theorem ac94 (s : Sk) (la : Option Addr) (lc : Nat) (pa : Option Addr) (pc : Nat) (RL RP : HP) (hn : s.layers.length ≤ 1000000 ∧ s.past.length ≤ 1000000) (hRL : RdS RL la (s.layers.flatMap Ly.c)) (hRP : RdS RP pa (s.past.flatMap Pa.c)) : AC Tryz.prog 94 ⟨[.agg ⟨s.c la lc pa pc⟩]⟩ (stars [RL, RP]) (Outs (fun _ : Option Addr × Nat × Option Addr × Nat => True) (fun x => .agg ⟨s.c x.1 x.2.1 x.2.2.1 x.2.2.2⟩) (fun x => [own 64 4 x.1 (s.layers).length x.2.1 ((s.layers).flatMap Ly.c), own 66 7 x.2.2.1 (s.past).length x.2.2.2 ((s.past).flatMap Pa.c), RL, RP])) := by
 have hnl := hn.1; have hnp := hn.2
 refine AC.go Tryz.func94 rfl (Nat.le_of_ble_eq_true rfl) fun β => ?_
 refine sr ?_
 refine RunL.op rfl rfl (OpJ.boxA rfl fun b1 => ?_)
 refine RunL.op rfl rfl (OpJ.alloc Z28 fun b2 => ?_)
 refine kp [1, 2] rfl ?_
 refine sr ?_
 refine RunL.op rfl rfl (OpJ.buildSlice0 S25 fun b3 => ?_)
 refine sx 2 ?_
 refine RunL.op rfl rfl (OpJ.appendL (enc := Ly.c) (R := RL) ([] : List Ly) s.layers S25 M64 rfl rfl pk pk hRL rfl (fun _ => rfl) (by decide) Ly.one (by simp; omega) (by simp; omega) fun a6 c6 => ?_)
 rw [List.nil_append]
 refine sx 2 ?_
 refine kp [1, 2] rfl ?_
 refine sr ?_
 refine RunL.op rfl rfl (OpJ.buildSlice0 S26 fun b8 => ?_)
 refine sx 2 ?_
 refine RunL.op rfl rfl (OpJ.appendL (enc := Pa.c) (R := RP) ([] : List Pa) s.past S26 M66 rfl rfl pk pk hRP rfl (fun _ => rfl) (by decide) Pa.one (by simp; omega) (by simp; omega) fun a11 c11 => ?_)
 rw [List.nil_append]
 refine sx 2 ?_
 refine kp [1, 2] rfl ?_
 refine sr ?_
 refine sx 2 ?_
 refine kp [2] rfl ?_
 refine Run.ret ?_
 exact ret_out (a6, c6, a11, c11) (.cellA T28 rfl pk (by rfl) .nil) trivial rfl gv
-- accountingref34.move
theorem ac93 (t : Sk) (m : Mv) (la : Option Addr) (lc : Nat) (pa : Option Addr) (pc : Nat) (ht : t.ok 999999) (hm : m.ok) (hq0 : m.kind = 5 → m.qty = 0) (hg : ∀ (i : Nat) (p : Pa), t.past[i]? = some p → 0 ≤ W (p.qty - p.used)) : AC Tryz.prog 93 ⟨[.agg ⟨t.c la lc pa pc⟩, .agg ⟨m.c⟩]⟩ (stars [own 64 4 la (t.layers).length lc ((t.layers).flatMap Ly.c), own 66 7 pa (t.past).length pc ((t.past).flatMap Pa.c)]) (Outs (fun _ : Option Addr × Nat × Option Addr × Nat => True) (fun x => RmV t la lc pa pc (fDo t m co0) x) (fun x => StB 64 66 (fDo t m co0) x)) := by
 have hn : t.layers.length ≤ 1000000 ∧ t.past.length ≤ 1000000 := ⟨Nat.le_trans ht.nl (by decide), Nat.le_trans ht.np (by decide)⟩
 have hnl := ht.nl; have hnp := ht.np
 obtain ⟨hm1, hm2⟩ := hm
 refine AC.go Tryz.func93 rfl (Nat.le_of_ble_eq_true rfl) fun β => ?_
 refine sr ?_
 refine RunL.op rfl rfl (OpJ.boxA rfl fun b2 => ?_)
 refine RunL.op rfl rfl (OpJ.boxA rfl fun b3 => ?_)
 refine RunL.op rfl rfl (OpJ.alloc Z28 fun b4 => ?_)
 refine RunL.op rfl rfl (OpJ.alloc Z43 fun b5 => ?_)
 refine asg rfl rfl ?_
 refine kp [2, 3, 4, 5] rfl ?_
 refine Run.seq ?_
 refine sr ?_
 refine sx 2 ?_
 refine kp [2, 3, 4, 5, 10] rfl ?_
 refine Run.block ?_
 refine sr ?_
 refine sx 2 ?_
 refine kp [2, 3, 4, 5, 10, 11] rfl ?_
 first | refine Run.if rfl (fun h1 => ?_) (fun h1 => ?_) | refine Run.cond rfl (fun h1 => ?_) (fun h1 => ?_)
 refine sr ?_
 refine sx 11 ?_
 refine RunL.op rfl rfl (OpJ.buildSlice1 S25 rfl rfl rfl (by decide) (by decide) Z64 rfl fun b24 => ?_)
 refine RunL.op rfl rfl (OpJ.append1 (⟨m.seq, m.lot, m.qty, m.cost⟩ : Ly) S25 M64 rfl rfl pk pk rfl rfl (by simp [Value.oneCell', Pa.c, Ly.c, Mv.c, Co.c]) rfl (by omega) (by omega) fun a25 c25 => ?_)
 refine sx 2 ?_
 refine kp [2, 3, 4, 5] rfl ?_
 refine sr ?_
 refine sx 11 ?_
 refine RunL.op rfl rfl (OpJ.buildSlice1 S26 rfl rfl rfl (by decide) (by decide) Z66 rfl fun b38 => ?_)
 refine RunL.op rfl rfl (OpJ.append1 (⟨m.seq, 1, m.lot, m.qty, m.cost, 0, 0⟩ : Pa) S26 M66 rfl rfl pk pk rfl rfl (by simp [Value.oneCell', Pa.c, Ly.c, Mv.c, Co.c]) rfl (by omega) (by omega) fun a39 c39 => ?_)
 refine sx 2 ?_
 refine kp [2, 3, 4, 5] rfl ?_
 refine Run.seq ?_
 refine regionD HM ?_
 first | refine RunD.takeW 0 rfl rfl kr T28 rfl pk (by rfl) ?_ | refine RunD.takeP 0 rfl rfl kr T28 rfl pk (by simp) ?_ | refine RunD.takeE 0 rfl rfl kr T28 rfl pk (by assumption) (by exact fun _ => rfl) rfl (by decide) ?_
 refine tk 1 rfl rfl rfl (DetJ.fieldAddr F47_4 rfl) ?_
 first | refine RunD.takeF 2 rfl rfl kr T3 rfl pk (by rfl) ?_ | refine RunD.takeO 2 rfl rfl kr T3 rfl pk (by assumption) (by rfl) (by exact fun _ => rfl) ?_
 refine tk 3 rfl rfl rfl (DetJ.fieldAddr F47_5 rfl) ?_
 first | refine RunD.takeF 4 rfl rfl kr T3 rfl pk (by rfl) ?_ | refine RunD.takeO 4 rfl rfl kr T3 rfl pk (by assumption) (by rfl) (by exact fun _ => rfl) ?_
 refine RunD.takeB 5 rfl rfl kr B43 rfl rfl fun cs hcs => ?_
 simp only [Sk.c, Mv.c, Co.c, bldL, bldA, Value.cells, bs, Nat.reduceAdd, Nat.reduceLeDiff, Nat.reduceLT] at hcs; subst hcs
 refine RunD.op 6 [true, true, true, true, true, false] rfl rfl rfl kr kr (OpJ.storeW T28 rfl rfl rfl rfl (by simp [Value.oneCell', Pa.c, Ly.c, Mv.c, Co.c]) up ⟨po, ?_⟩)
 refine RunD.op 7 [false, false, false, false, false] rfl rfl rfl kr kr (OpJ.storeW T43 rfl rfl rfl rfl (by simp [Value.oneCell', Pa.c, Ly.c, Mv.c, Co.c]) up ⟨po, ?_⟩)
 refine tk 8 rfl rfl rfl (DetJ.assign rfl) ?_
 refine kd [4, 5, 6] rfl ?_
 refine Run.ret ?_
 have hk : m.kind = 1 := (by assumption); have hres : fDo t m co0 = .ok ({ t with layers := t.layers ++ [(⟨m.seq, m.lot, m.qty, m.cost⟩ : Ly)], past := t.past ++ [(⟨m.seq, 1, m.lot, m.qty, m.cost, 0, 0⟩ : Pa)] }, ⟨0, m.qty, m.cost, 0⟩) := (by rw [fDo_1 hk]; unfold fRecv; rw [hk]); refine ret_out (a25, c25, a39, c39) (.cellA T28 rfl pk (by rfl) (.cellA T43 rfl pk (by rfl) (.tmp rfl .nil))) trivial (by rw [hres]; simp only [RmV, RmS, Sk.c, List.length_set]; rfl) ?_; rw [hres]; simp only [StB, List.length_set, List.length_append]; exact gv
 refine sr ?_
 refine sx 2 ?_
 refine kp [2, 3, 4, 5, 10, 47] rfl ?_
 first | refine Run.if rfl (fun h2 => ?_) (fun h2 => ?_) | refine Run.cond rfl (fun h2 => ?_) (fun h2 => ?_)
 refine Run.seq ?_
 refine sr ?_
 refine sx 5 ?_
 refine kp [2, 3, 4, 5, 53] rfl ?_
 first | refine Run.if rfl (fun h3 => ?_) (fun h3 => ?_) | refine Run.cond rfl (fun h3 => ?_) (fun h3 => ?_)
 refine sr ?_
 refine sx 5 ?_
 refine kp [4, 5, 6] rfl ?_
 refine Run.ret ?_
 have hres : fDo t m co0 = .error 21 := (by rw [fDo_2 (by assumption)]; exact if_pos (by assumption)); refine ret_out (none, 0, none, 0) (.cellA T28 rfl pk (by rfl) (.cellA T43 rfl pk (by rfl) (.tmp rfl .nil))) trivial (by rw [hres]; rfl) ?_; rw [hres]; exact gv
 refine Run.skip ?_
 refine sr ?_
 refine sx 3 ?_
 refine RunL.callX C133 rfl rfl rfl (ac133 t la lc pa _ pc m.qty ht hm1) tks fun ⟨la2, lc2⟩ _ => ?_
 refine sx 3 ?_
 refine RunL.op rfl rfl (OpJ.alloc Z28 fun b7 => ?_)
 refine sx 2 ?_
 refine kp [3, 4, 5, 7, 8] rfl ?_
 refine sr ?_
 refine sx 10 ?_
 refine RunL.op rfl rfl (OpJ.buildSlice1 S26 rfl rfl rfl (by decide) (by decide) Z66 rfl fun b73 => ?_)
 refine RunL.op rfl rfl (OpJ.append1 (⟨m.seq, 2, m.lot, m.qty, (issueL t.layers m.qty 0).2, 0, 0⟩ : Pa) S26 M66 rfl rfl pk pk rfl rfl (by simp [Value.oneCell', Pa.c, Ly.c, Mv.c, Co.c]) rfl (by omega) (by omega) fun a74 c74 => ?_)
 refine sx 2 ?_
 refine kp [3, 4, 5, 7, 8] rfl ?_
 refine Run.seq ?_
 refine regionD HM ?_
 first | refine RunD.takeW 0 rfl rfl kr T28 rfl pk (by rfl) ?_ | refine RunD.takeP 0 rfl rfl kr T28 rfl pk (by simp) ?_ | refine RunD.takeE 0 rfl rfl kr T28 rfl pk (by assumption) (by exact fun _ => rfl) rfl (by decide) ?_
 refine tk 1 rfl rfl rfl (DetJ.fieldAddr F47_4 rfl) ?_
 first | refine RunD.takeF 2 rfl rfl kr T3 rfl pk (by rfl) ?_ | refine RunD.takeO 2 rfl rfl kr T3 rfl pk (by assumption) (by rfl) (by exact fun _ => rfl) ?_
 refine tk 3 rfl rfl rfl (DetJ.neg rfl) ?_
 refine tk 4 rfl rfl rfl (DetJ.move rfl) ?_
 refine tk 5 rfl rfl rfl (DetJ.neg rfl) ?_
 refine RunD.takeB 6 rfl rfl kr B43 rfl rfl fun cs hcs => ?_
 simp only [Sk.c, Mv.c, Co.c, bldL, bldA, Value.cells, bs, Nat.reduceAdd, Nat.reduceLeDiff, Nat.reduceLT] at hcs; subst hcs
 refine RunD.op 7 [true, true, true, true, true, true, false] rfl rfl rfl kr kr (OpJ.storeW T28 rfl rfl rfl rfl (by simp [Value.oneCell', Pa.c, Ly.c, Mv.c, Co.c]) up ⟨po, ?_⟩)
 refine RunD.op 8 [false, false, false, false, false, false] rfl rfl rfl kr kr (OpJ.storeW T43 rfl rfl rfl rfl (by simp [Value.oneCell', Pa.c, Ly.c, Mv.c, Co.c]) up ⟨po, ?_⟩)
 refine tk 9 rfl rfl rfl (DetJ.assign rfl) ?_
 refine kd [4, 5, 6] rfl ?_
 refine Run.ret ?_
 have hk : m.kind = 2 := (by assumption); have hres : fDo t m co0 = .ok ({ t with layers := (issueL t.layers m.qty 0).1, past := t.past ++ [(⟨m.seq, 2, m.lot, m.qty, (issueL t.layers m.qty 0).2, 0, 0⟩ : Pa)] }, ⟨0, W (0 - m.qty), W (0 - (issueL t.layers m.qty 0).2), 0⟩) := (by rw [fDo_2 hk]; unfold fIssue; rw [if_neg (by assumption), hk]); refine ret_out (la2, lc2, a74, c74) (.cellA T28 rfl pk (by rfl) (.cellA T43 rfl pk (by rfl) (.tmp rfl .nil))) trivial (by rw [hres]; simp only [RmV, RmS, Sk.c, List.length_set]; rfl) ?_; rw [hres]; simp only [StB, List.length_set, List.length_append]; exact gv
 refine sr ?_
 refine sx 2 ?_
 refine kp [2, 3, 4, 5, 10, 83] rfl ?_
 first | refine Run.if rfl (fun h4 => ?_) (fun h4 => ?_) | refine Run.cond rfl (fun h4 => ?_) (fun h4 => ?_)
 refine sr ?_
 refine sx 2 ?_
 refine RunL.callX C134 rfl rfl rfl (acr3 t m la lc pa pc ht ⟨hm1, hm2⟩ (by assumption) hq0 hg) tks fun x _ => ?_
 rcases hres : fDo t m co0 with e | ⟨t2, c2⟩
 refine sx 3 ?_
 refine RunL.op rfl rfl (OpJ.storeW T28 rfl rfl RmS_len rfl RmS_one up ?_)
 refine sx 2 ?_
 refine kp [4, 5, 6] rfl ?_
 refine Run.ret ?_
 refine ret_out x (.cellA T28 rfl pk (by rfl) (.cellA T43 rfl pk (by rfl) (.tmp rfl .nil))) trivial rfl ?_; exact gv
 refine sx 3 ?_
 refine RunL.op rfl rfl (OpJ.storeW T28 rfl rfl RmS_len rfl RmS_one up ?_)
 refine sx 2 ?_
 refine kp [4, 5, 6] rfl ?_
 refine Run.ret ?_
 refine ret_out x (.cellA T28 rfl pk (by rfl) (.cellA T43 rfl pk (by rfl) (.tmp rfl .nil))) trivial rfl ?_; exact gv
 refine sr ?_
 refine sx 2 ?_
 refine kp [2, 3, 4, 5, 10, 91] rfl ?_
 first | refine Run.if rfl (fun h5 => ?_) (fun h5 => ?_) | refine Run.cond rfl (fun h5 => ?_) (fun h5 => ?_)
 refine sr ?_
 refine sx 2 ?_
 refine RunL.callX C135 rfl rfl rfl (acr4 t m la lc pa pc ht ⟨hm1, hm2⟩ (by assumption) hq0 hg) tks fun x _ => ?_
 rcases hres : fDo t m co0 with e | ⟨t2, c2⟩
 refine sx 3 ?_
 refine RunL.op rfl rfl (OpJ.storeW T28 rfl rfl RmS_len rfl RmS_one up ?_)
 refine sx 2 ?_
 refine kp [4, 5, 6] rfl ?_
 refine Run.ret ?_
 refine ret_out x (.cellA T28 rfl pk (by rfl) (.cellA T43 rfl pk (by rfl) (.tmp rfl .nil))) trivial rfl ?_; exact gv
 refine sx 3 ?_
 refine RunL.op rfl rfl (OpJ.storeW T28 rfl rfl RmS_len rfl RmS_one up ?_)
 refine sx 2 ?_
 refine kp [4, 5, 6] rfl ?_
 refine Run.ret ?_
 refine ret_out x (.cellA T28 rfl pk (by rfl) (.cellA T43 rfl pk (by rfl) (.tmp rfl .nil))) trivial rfl ?_; exact gv
 refine sr ?_
 refine sx 2 ?_
 refine kp [2, 3, 4, 5, 99] rfl ?_
 first | refine Run.if rfl (fun h6 => ?_) (fun h6 => ?_) | refine Run.cond rfl (fun h6 => ?_) (fun h6 => ?_)
 refine sr ?_
 refine sx 2 ?_
 refine RunL.callX C136 rfl rfl rfl (acr5 t m la lc pa pc ht ⟨hm1, hm2⟩ (by assumption) hq0 hg) tks fun x _ => ?_
 rcases hres : fDo t m co0 with e | ⟨t2, c2⟩
 refine sx 3 ?_
 refine RunL.op rfl rfl (OpJ.storeW T28 rfl rfl RmS_len rfl RmS_one up ?_)
 refine sx 2 ?_
 refine kp [4, 5, 6] rfl ?_
 refine Run.ret ?_
 refine ret_out x (.cellA T28 rfl pk (by rfl) (.cellA T43 rfl pk (by rfl) (.tmp rfl .nil))) trivial rfl ?_; exact gv
 refine sx 3 ?_
 refine RunL.op rfl rfl (OpJ.storeW T28 rfl rfl RmS_len rfl RmS_one up ?_)
 refine sx 2 ?_
 refine kp [4, 5, 6] rfl ?_
 refine Run.ret ?_
 refine ret_out x (.cellA T28 rfl pk (by rfl) (.cellA T43 rfl pk (by rfl) (.tmp rfl .nil))) trivial rfl ?_; exact gv
 refine Run.skip ?_
 refine sr ?_
 refine sx 5 ?_
 refine kp [4, 5, 6] rfl ?_
 refine Run.ret ?_
 have hres := fDo_0 (t := t) (m := m) (c := co0) (by refine ⟨?_, ?_, ?_, ?_, ?_⟩ <;> assumption); refine ret_out (none, 0, none, 0) (.cellA T28 rfl pk (by rfl) (.cellA T43 rfl pk (by rfl) (.tmp rfl .nil))) trivial (by rw [hres]; rfl) ?_; rw [hres]; exact gv
end
end Go.Proofs.YtdcchollplhioaaGreatDoor

namespace Go.Proofs.YtdcchollplhioaaGreatDoor
open Go Go.SL Go.Proofs
section
attribute [local irreducible] OpJ RunL Run RunD DetJ pt own star Rd RdS
end
theorem ac93f (t : Sk) (m : Mv) (la : Option Addr) (lc : Nat) (pa : Option Addr) (pc : Nat) (ht : t.ok 999999) (hm : m.ok) (hq0 : m.kind = 5 → m.qty = 0) (hg : ∀ (i : Nat) (p : Pa), t.past[i]? = some p → 0 ≤ W (p.qty - p.used)) : AC Tryz.prog 93 ⟨[.agg ⟨t.c la lc pa pc⟩, .agg ⟨m.c⟩]⟩ (stars [own 64 4 la (t.layers).length lc ((t.layers).flatMap Ly.c), own 66 7 pa (t.past).length pc ((t.past).flatMap Pa.c)]) (Outs (fun _ : Option Addr × Nat × Option Addr × Nat => True) (fun x => RmV t la lc pa pc (fDo t m co0) x) (fun x => [stars (StB 64 66 (fDo t m co0) x)])) := by
  refine AC.mono (ac93 t m la lc pa pc ht hm hq0 hg) (fun _ h => h) ?_
  rintro r h ⟨x, ⟨_, hr⟩, hh⟩
  exact ⟨x, ⟨trivial, hr⟩, stars_un (As := StB 64 66 _ x) (M := []) (by rw [List.append_nil]; exact hh)⟩
section
attribute [local irreducible] OpJ RunL Run RunD DetJ pt own star Rd RdS
-- accountingref34.Step
theorem ac54 (s : Sk) (m : Mv) (la : Option Addr) (lc : Nat) (pa : Option Addr) (pc : Nat) (RL RP : HP) (hs : s.ok 999999) (hm : m.ok) (hRL : RdS RL la (s.layers.flatMap Ly.c)) (hRP : RdS RP pa (s.past.flatMap Pa.c)) (hsz : (m.item.size : Int) ≤ 9223372036854775807 ∧ (m.lot.size : Int) ≤ 9223372036854775807) (hf0 : s.fine) : AC Tryz.prog 54 ⟨[.agg ⟨s.c la lc pa pc⟩, .agg ⟨m.c⟩]⟩ (stars [RL, RP]) (Outs (fun _ : Option Addr × Nat × Option Addr × Nat => True) (fun x => StV (fStep s m) x) (fun x => StB 64 66 (fStep s m) x ++ [RL, RP])) := by
 have hn : s.layers.length ≤ 1000000 ∧ s.past.length ≤ 1000000 := ⟨Nat.le_trans hs.nl (by decide), Nat.le_trans hs.np (by decide)⟩
 have hnl := hn.1; have hnp := hn.2
 refine AC.go Tryz.func54 rfl (Nat.le_of_ble_eq_true rfl) fun β => ?_
 refine sr ?_
 refine RunL.op rfl rfl (OpJ.boxA rfl fun b2 => ?_)
 refine RunL.op rfl rfl (OpJ.boxA rfl fun b3 => ?_)
 refine RunL.op rfl rfl (OpJ.alloc Z28 fun b4 => ?_)
 refine RunL.op rfl rfl (OpJ.alloc Z43 fun b5 => ?_)
 refine asg rfl rfl ?_
 refine kp [2, 3, 4, 5] rfl ?_
 refine Run.seq ?_
 refine sr ?_
 refine sx 1 ?_
 refine RunL.call C91 rfl rfl rfl (ac91 m hsz.1 hsz.2) .nil ?_
 refine asg rfl rfl ?_
 refine kp [2, 3, 4, 5, 7] rfl ?_
 refine sr ?_
 refine sx 2 ?_
 refine kp [2, 3, 4, 5, 7, 14] rfl ?_
 first | refine Run.if rfl (fun h1 => ?_) (fun h1 => ?_) | refine Run.cond rfl (fun h1 => ?_) (fun h1 => ?_)
 refine sr ?_
 refine sx 6 ?_
 refine kp [4, 5, 6] rfl ?_
 refine Run.ret ?_
 have hres2 : fStep s m = .error m.one := (by unfold fStep; rw [if_pos h1]); refine ret_out (none, 0, none, 0) (.cellA T28 rfl pk (by rfl) (.cellA T43 rfl pk (by rfl) (.tmp rfl .nil))) trivial (by rw [hres2]; rfl) ?_; rw [hres2]; exact gv
 refine Run.skip ?_
 refine Run.seq ?_
 refine sr ?_
 refine sx 3 ?_
 refine RunL.call C92 rfl rfl rfl (ac92 s la lc pa pc RP m.seq hRP hnp) tks ?_
 rw [known_eq hf0]
 refine kp [2, 3, 4, 5, 21] rfl ?_
 first | refine Run.if rfl (fun h2 => ?_) (fun h2 => ?_) | refine Run.cond rfl (fun h2 => ?_) (fun h2 => ?_)
 refine sr ?_
 refine sx 5 ?_
 refine kp [4, 5, 6] rfl ?_
 refine Run.ret ?_
 have hres2 : fStep s m = .error 8 := (by unfold fStep; rw [if_neg h1, if_pos (by assumption)]); refine ret_out (none, 0, none, 0) (.cellA T28 rfl pk (by rfl) (.cellA T43 rfl pk (by rfl) (.tmp rfl .nil))) trivial (by rw [hres2]; rfl) ?_; rw [hres2]; exact gv
 refine Run.skip ?_
 refine Run.seq ?_
 refine regionD HM ?_
 refine RunD.mono (K' := fun E' L' => ∃ la2 : Option Addr, ∃ lc2 : Nat, ∃ pa2 : Option Addr, ∃ pc2 : Nat, ∃ x : Option Addr × Nat × Option Addr × Nat, ∃ b8 : Nat, ∃ b9 : Nat, E' = [(3, .pointer (some ⟨b3, 0, none⟩)), (4, .pointer (some ⟨b4, 0, none⟩)), (5, .pointer (some ⟨b5, 0, none⟩)), (8, .pointer (some ⟨b8, 0, none⟩)), (9, .pointer (some ⟨b9, 0, none⟩)), (10, I (errOf (fDo s m co0)))] ∧ L' = [pt b8 (blk (RmS s la2 lc2 pa2 pc2 (fDo s m co0) x) 28), pt b9 (blk (avC (fDo s m co0)).c 43), stars (StB 64 66 (fDo s m co0) x), pt b3 (blk m.c 47), pt b4 (blk [I 0, I 0, I 0, .slice none 0 0, .slice none 0 0] 28), pt b5 (blk [I 0, I 0, I 0, I 0] 43), RL, RP]) ?_ ?_
 first | refine RunD.takeW 0 rfl rfl kr T28 rfl pk (by rfl) ?_ | refine RunD.takeP 0 rfl rfl kr T28 rfl pk (by simp) ?_ | refine RunD.takeE 0 rfl rfl kr T28 rfl pk (by assumption) (by exact fun _ => rfl) rfl (by decide) ?_
 first | refine RunD.takeW 2 rfl rfl kr T47 rfl pk (by rfl) ?_ | refine RunD.takeP 2 rfl rfl kr T47 rfl pk (by simp) ?_ | refine RunD.takeE 2 rfl rfl kr T47 rfl pk (by assumption) (by exact fun _ => rfl) rfl (by decide) ?_
 refine RunD.three 1 8 9 [true, false] [true, true] [true, true] rfl rfl rfl rfl rfl rfl rfl rfl rfl kr kr kr kr (OpJ.callOuts C94 rfl rfl (ac94 s la lc pa pc RL RP hn hRL hRP) tks fun ⟨la2, lc2, pa2, pc2⟩ _ => ⟨po, ?_⟩) (OpJ.alloc Z28 fun b8 => ⟨po, ?_⟩) (OpJ.alloc Z43 fun b9 => ⟨po, ?_⟩)
 refine RunD.three 3 8 9 [false] [true] [true] rfl rfl rfl rfl rfl rfl rfl rfl rfl kr kr kr kr (OpJ.callOuts C93 rfl rfl (ac93f s m la2 lc2 pa2 pc2 hs hm (fun hk => (MG.of (Decidable.not_not.1 h1)).q.1 (.inl hk)) (fun i p hx => (hf0 i p hx).2)) tks fun x _ => ⟨po, ?_⟩) (OpJ.alloc Z28 fun b8 => ⟨po, ?_⟩) (OpJ.alloc Z43 fun b9 => ⟨po, ?_⟩)
 refine tk 4 rfl rfl rfl (DetJ.move rfl) ?_
 refine tk 5 rfl rfl rfl (DetJ.extract rfl rfl) ?_
 refine tk 6 rfl rfl rfl (DetJ.extract rfl rfl) ?_
 refine tk 7 rfl rfl rfl (DetJ.extract rfl rfl) ?_
 refine RunD.two 8 9 [true, true, true, true] [true, true, true, true] rfl rfl rfl rfl rfl rfl kr kr kr (OpJ.alloc Z28 fun b8 => ⟨po, ?_⟩) (OpJ.alloc Z43 fun b9 => ⟨po, ?_⟩)
 refine RunD.op 9 [true, true, true, true] rfl rfl rfl kr kr (OpJ.alloc Z43 fun b9 => ⟨po, ?_⟩)
 refine RunD.op 10 [true, true, false, false] rfl rfl rfl kr kr (OpJ.storeW T28 rfl rfl RmS_len rfl RmS_one up ⟨po, ?_⟩)
 refine RunD.op 11 [true, false] rfl rfl rfl kr kr (OpJ.storeW T43 rfl rfl rfl rfl (by simp [Value.oneCell', Pa.c, Ly.c, Mv.c, Co.c]) up ⟨po, ?_⟩)
 refine tk 12 rfl rfl rfl (DetJ.assign rfl) ?_
 exact RunD.weak (E' := [(3, .pointer (some ⟨b3, 0, none⟩)), (4, .pointer (some ⟨b4, 0, none⟩)), (5, .pointer (some ⟨b5, 0, none⟩)), (8, .pointer (some ⟨b8, 0, none⟩)), (9, .pointer (some ⟨b9, 0, none⟩)), (10, I (errOf (fDo s m co0)))]) (L' := [pt b8 (blk (RmS s la2 lc2 pa2 pc2 (fDo s m co0) x) 28), pt b9 (blk (avC (fDo s m co0)).c 43), stars (StB 64 66 (fDo s m co0) x), pt b3 (blk m.c 47), pt b4 (blk [I 0, I 0, I 0, .slice none 0 0, .slice none 0 0] 28), pt b5 (blk [I 0, I 0, I 0, I 0] 43), RL, RP]) (Keep.sub (kt (ks := [3, 4, 5, 8, 9, 10]) rfl)) gv (RunD.done kr ⟨_, _, _, _, _, _, _, rfl, rfl⟩)
 refine RunD.op 8 [true, true, true, true] rfl rfl rfl kr kr (OpJ.alloc Z28 fun b8 => ⟨po, ?_⟩)
 refine RunD.op 10 [true, true, false, false] rfl rfl rfl kr kr (OpJ.storeW T28 rfl rfl RmS_len rfl RmS_one up ⟨po, ?_⟩)
 refine RunD.op 11 [true, false] rfl rfl rfl kr kr (OpJ.storeW T43 rfl rfl rfl rfl (by simp [Value.oneCell', Pa.c, Ly.c, Mv.c, Co.c]) up ⟨po, ?_⟩)
 refine tk 12 rfl rfl rfl (DetJ.assign rfl) ?_
 exact RunD.weak (E' := [(3, .pointer (some ⟨b3, 0, none⟩)), (4, .pointer (some ⟨b4, 0, none⟩)), (5, .pointer (some ⟨b5, 0, none⟩)), (8, .pointer (some ⟨b8, 0, none⟩)), (9, .pointer (some ⟨b9, 0, none⟩)), (10, I (errOf (fDo s m co0)))]) (L' := [pt b8 (blk (RmS s la2 lc2 pa2 pc2 (fDo s m co0) x) 28), pt b9 (blk (avC (fDo s m co0)).c 43), stars (StB 64 66 (fDo s m co0) x), pt b3 (blk m.c 47), pt b4 (blk [I 0, I 0, I 0, .slice none 0 0, .slice none 0 0] 28), pt b5 (blk [I 0, I 0, I 0, I 0] 43), RL, RP]) (Keep.sub (kt (ks := [3, 4, 5, 8, 9, 10]) rfl)) gv (RunD.done kr ⟨_, _, _, _, _, _, _, rfl, rfl⟩)
 refine RunD.two 3 9 [false] [true] rfl rfl rfl rfl rfl rfl kr kr kr (OpJ.callOuts C93 rfl rfl (ac93f s m la2 lc2 pa2 pc2 hs hm (fun hk => (MG.of (Decidable.not_not.1 h1)).q.1 (.inl hk)) (fun i p hx => (hf0 i p hx).2)) tks fun x _ => ⟨po, ?_⟩) (OpJ.alloc Z43 fun b9 => ⟨po, ?_⟩)
 refine tk 4 rfl rfl rfl (DetJ.move rfl) ?_
 refine tk 5 rfl rfl rfl (DetJ.extract rfl rfl) ?_
 refine tk 6 rfl rfl rfl (DetJ.extract rfl rfl) ?_
 refine tk 7 rfl rfl rfl (DetJ.extract rfl rfl) ?_
 refine RunD.op 9 [true, true, true, true] rfl rfl rfl kr kr (OpJ.alloc Z43 fun b9 => ⟨po, ?_⟩)
 refine RunD.op 10 [true, true, false, false] rfl rfl rfl kr kr (OpJ.storeW T28 rfl rfl RmS_len rfl RmS_one up ⟨po, ?_⟩)
 refine RunD.op 11 [true, false] rfl rfl rfl kr kr (OpJ.storeW T43 rfl rfl rfl rfl (by simp [Value.oneCell', Pa.c, Ly.c, Mv.c, Co.c]) up ⟨po, ?_⟩)
 refine tk 12 rfl rfl rfl (DetJ.assign rfl) ?_
 exact RunD.weak (E' := [(3, .pointer (some ⟨b3, 0, none⟩)), (4, .pointer (some ⟨b4, 0, none⟩)), (5, .pointer (some ⟨b5, 0, none⟩)), (8, .pointer (some ⟨b8, 0, none⟩)), (9, .pointer (some ⟨b9, 0, none⟩)), (10, I (errOf (fDo s m co0)))]) (L' := [pt b8 (blk (RmS s la2 lc2 pa2 pc2 (fDo s m co0) x) 28), pt b9 (blk (avC (fDo s m co0)).c 43), stars (StB 64 66 (fDo s m co0) x), pt b3 (blk m.c 47), pt b4 (blk [I 0, I 0, I 0, .slice none 0 0, .slice none 0 0] 28), pt b5 (blk [I 0, I 0, I 0, I 0] 43), RL, RP]) (Keep.sub (kt (ks := [3, 4, 5, 8, 9, 10]) rfl)) gv (RunD.done kr ⟨_, _, _, _, _, _, _, rfl, rfl⟩)
 refine RunD.op 3 [false] rfl rfl rfl kr kr (OpJ.callOuts C93 rfl rfl (ac93f s m la2 lc2 pa2 pc2 hs hm (fun hk => (MG.of (Decidable.not_not.1 h1)).q.1 (.inl hk)) (fun i p hx => (hf0 i p hx).2)) tks fun x _ => ⟨po, ?_⟩)
 refine tk 4 rfl rfl rfl (DetJ.move rfl) ?_
 refine tk 5 rfl rfl rfl (DetJ.extract rfl rfl) ?_
 refine tk 6 rfl rfl rfl (DetJ.extract rfl rfl) ?_
 refine tk 7 rfl rfl rfl (DetJ.extract rfl rfl) ?_
 refine RunD.op 10 [true, true, false, false] rfl rfl rfl kr kr (OpJ.storeW T28 rfl rfl RmS_len rfl RmS_one up ⟨po, ?_⟩)
 refine RunD.op 11 [true, false] rfl rfl rfl kr kr (OpJ.storeW T43 rfl rfl rfl rfl (by simp [Value.oneCell', Pa.c, Ly.c, Mv.c, Co.c]) up ⟨po, ?_⟩)
 refine tk 12 rfl rfl rfl (DetJ.assign rfl) ?_
 exact RunD.weak (E' := [(3, .pointer (some ⟨b3, 0, none⟩)), (4, .pointer (some ⟨b4, 0, none⟩)), (5, .pointer (some ⟨b5, 0, none⟩)), (8, .pointer (some ⟨b8, 0, none⟩)), (9, .pointer (some ⟨b9, 0, none⟩)), (10, I (errOf (fDo s m co0)))]) (L' := [pt b8 (blk (RmS s la2 lc2 pa2 pc2 (fDo s m co0) x) 28), pt b9 (blk (avC (fDo s m co0)).c 43), stars (StB 64 66 (fDo s m co0) x), pt b3 (blk m.c 47), pt b4 (blk [I 0, I 0, I 0, .slice none 0 0, .slice none 0 0] 28), pt b5 (blk [I 0, I 0, I 0, I 0] 43), RL, RP]) (Keep.sub (kt (ks := [3, 4, 5, 8, 9, 10]) rfl)) gv (RunD.done kr ⟨_, _, _, _, _, _, _, rfl, rfl⟩)
 refine RunD.two 3 8 [false] [true] rfl rfl rfl rfl rfl rfl kr kr kr (OpJ.callOuts C93 rfl rfl (ac93f s m la2 lc2 pa2 pc2 hs hm (fun hk => (MG.of (Decidable.not_not.1 h1)).q.1 (.inl hk)) (fun i p hx => (hf0 i p hx).2)) tks fun x _ => ⟨po, ?_⟩) (OpJ.alloc Z28 fun b8 => ⟨po, ?_⟩)
 refine tk 4 rfl rfl rfl (DetJ.move rfl) ?_
 refine tk 5 rfl rfl rfl (DetJ.extract rfl rfl) ?_
 refine tk 6 rfl rfl rfl (DetJ.extract rfl rfl) ?_
 refine tk 7 rfl rfl rfl (DetJ.extract rfl rfl) ?_
 refine RunD.op 8 [true, true, true, true] rfl rfl rfl kr kr (OpJ.alloc Z28 fun b8 => ⟨po, ?_⟩)
 refine RunD.op 10 [true, true, false, false] rfl rfl rfl kr kr (OpJ.storeW T28 rfl rfl RmS_len rfl RmS_one up ⟨po, ?_⟩)
 refine RunD.op 11 [true, false] rfl rfl rfl kr kr (OpJ.storeW T43 rfl rfl rfl rfl (by simp [Value.oneCell', Pa.c, Ly.c, Mv.c, Co.c]) up ⟨po, ?_⟩)
 refine tk 12 rfl rfl rfl (DetJ.assign rfl) ?_
 exact RunD.weak (E' := [(3, .pointer (some ⟨b3, 0, none⟩)), (4, .pointer (some ⟨b4, 0, none⟩)), (5, .pointer (some ⟨b5, 0, none⟩)), (8, .pointer (some ⟨b8, 0, none⟩)), (9, .pointer (some ⟨b9, 0, none⟩)), (10, I (errOf (fDo s m co0)))]) (L' := [pt b8 (blk (RmS s la2 lc2 pa2 pc2 (fDo s m co0) x) 28), pt b9 (blk (avC (fDo s m co0)).c 43), stars (StB 64 66 (fDo s m co0) x), pt b3 (blk m.c 47), pt b4 (blk [I 0, I 0, I 0, .slice none 0 0, .slice none 0 0] 28), pt b5 (blk [I 0, I 0, I 0, I 0] 43), RL, RP]) (Keep.sub (kt (ks := [3, 4, 5, 8, 9, 10]) rfl)) gv (RunD.done kr ⟨_, _, _, _, _, _, _, rfl, rfl⟩)
 refine RunD.op 3 [false] rfl rfl rfl kr kr (OpJ.callOuts C93 rfl rfl (ac93f s m la2 lc2 pa2 pc2 hs hm (fun hk => (MG.of (Decidable.not_not.1 h1)).q.1 (.inl hk)) (fun i p hx => (hf0 i p hx).2)) tks fun x _ => ⟨po, ?_⟩)
 refine tk 4 rfl rfl rfl (DetJ.move rfl) ?_
 refine tk 5 rfl rfl rfl (DetJ.extract rfl rfl) ?_
 refine tk 6 rfl rfl rfl (DetJ.extract rfl rfl) ?_
 refine tk 7 rfl rfl rfl (DetJ.extract rfl rfl) ?_
 refine RunD.op 10 [true, true, false, false] rfl rfl rfl kr kr (OpJ.storeW T28 rfl rfl RmS_len rfl RmS_one up ⟨po, ?_⟩)
 refine RunD.op 11 [true, false] rfl rfl rfl kr kr (OpJ.storeW T43 rfl rfl rfl rfl (by simp [Value.oneCell', Pa.c, Ly.c, Mv.c, Co.c]) up ⟨po, ?_⟩)
 refine tk 12 rfl rfl rfl (DetJ.assign rfl) ?_
 exact RunD.weak (E' := [(3, .pointer (some ⟨b3, 0, none⟩)), (4, .pointer (some ⟨b4, 0, none⟩)), (5, .pointer (some ⟨b5, 0, none⟩)), (8, .pointer (some ⟨b8, 0, none⟩)), (9, .pointer (some ⟨b9, 0, none⟩)), (10, I (errOf (fDo s m co0)))]) (L' := [pt b8 (blk (RmS s la2 lc2 pa2 pc2 (fDo s m co0) x) 28), pt b9 (blk (avC (fDo s m co0)).c 43), stars (StB 64 66 (fDo s m co0) x), pt b3 (blk m.c 47), pt b4 (blk [I 0, I 0, I 0, .slice none 0 0, .slice none 0 0] 28), pt b5 (blk [I 0, I 0, I 0, I 0] 43), RL, RP]) (Keep.sub (kt (ks := [3, 4, 5, 8, 9, 10]) rfl)) gv (RunD.done kr ⟨_, _, _, _, _, _, _, rfl, rfl⟩)
 refine RunD.two 1 9 [true, false] [true, true] rfl rfl rfl rfl rfl rfl kr kr kr (OpJ.callOuts C94 rfl rfl (ac94 s la lc pa pc RL RP hn hRL hRP) tks fun ⟨la2, lc2, pa2, pc2⟩ _ => ⟨po, ?_⟩) (OpJ.alloc Z43 fun b9 => ⟨po, ?_⟩)
 refine RunD.two 3 9 [false] [true] rfl rfl rfl rfl rfl rfl kr kr kr (OpJ.callOuts C93 rfl rfl (ac93f s m la2 lc2 pa2 pc2 hs hm (fun hk => (MG.of (Decidable.not_not.1 h1)).q.1 (.inl hk)) (fun i p hx => (hf0 i p hx).2)) tks fun x _ => ⟨po, ?_⟩) (OpJ.alloc Z43 fun b9 => ⟨po, ?_⟩)
 refine tk 4 rfl rfl rfl (DetJ.move rfl) ?_
 refine tk 5 rfl rfl rfl (DetJ.extract rfl rfl) ?_
 refine tk 6 rfl rfl rfl (DetJ.extract rfl rfl) ?_
 refine tk 7 rfl rfl rfl (DetJ.extract rfl rfl) ?_
 refine RunD.op 9 [true, true, true, true] rfl rfl rfl kr kr (OpJ.alloc Z43 fun b9 => ⟨po, ?_⟩)
 refine RunD.op 10 [true, true, false, false] rfl rfl rfl kr kr (OpJ.storeW T28 rfl rfl RmS_len rfl RmS_one up ⟨po, ?_⟩)
 refine RunD.op 11 [true, false] rfl rfl rfl kr kr (OpJ.storeW T43 rfl rfl rfl rfl (by simp [Value.oneCell', Pa.c, Ly.c, Mv.c, Co.c]) up ⟨po, ?_⟩)
 refine tk 12 rfl rfl rfl (DetJ.assign rfl) ?_
 exact RunD.weak (E' := [(3, .pointer (some ⟨b3, 0, none⟩)), (4, .pointer (some ⟨b4, 0, none⟩)), (5, .pointer (some ⟨b5, 0, none⟩)), (8, .pointer (some ⟨b8, 0, none⟩)), (9, .pointer (some ⟨b9, 0, none⟩)), (10, I (errOf (fDo s m co0)))]) (L' := [pt b8 (blk (RmS s la2 lc2 pa2 pc2 (fDo s m co0) x) 28), pt b9 (blk (avC (fDo s m co0)).c 43), stars (StB 64 66 (fDo s m co0) x), pt b3 (blk m.c 47), pt b4 (blk [I 0, I 0, I 0, .slice none 0 0, .slice none 0 0] 28), pt b5 (blk [I 0, I 0, I 0, I 0] 43), RL, RP]) (Keep.sub (kt (ks := [3, 4, 5, 8, 9, 10]) rfl)) gv (RunD.done kr ⟨_, _, _, _, _, _, _, rfl, rfl⟩)
 refine RunD.op 3 [false] rfl rfl rfl kr kr (OpJ.callOuts C93 rfl rfl (ac93f s m la2 lc2 pa2 pc2 hs hm (fun hk => (MG.of (Decidable.not_not.1 h1)).q.1 (.inl hk)) (fun i p hx => (hf0 i p hx).2)) tks fun x _ => ⟨po, ?_⟩)
 refine tk 4 rfl rfl rfl (DetJ.move rfl) ?_
 refine tk 5 rfl rfl rfl (DetJ.extract rfl rfl) ?_
 refine tk 6 rfl rfl rfl (DetJ.extract rfl rfl) ?_
 refine tk 7 rfl rfl rfl (DetJ.extract rfl rfl) ?_
 refine RunD.op 10 [true, true, false, false] rfl rfl rfl kr kr (OpJ.storeW T28 rfl rfl RmS_len rfl RmS_one up ⟨po, ?_⟩)
 refine RunD.op 11 [true, false] rfl rfl rfl kr kr (OpJ.storeW T43 rfl rfl rfl rfl (by simp [Value.oneCell', Pa.c, Ly.c, Mv.c, Co.c]) up ⟨po, ?_⟩)
 refine tk 12 rfl rfl rfl (DetJ.assign rfl) ?_
 exact RunD.weak (E' := [(3, .pointer (some ⟨b3, 0, none⟩)), (4, .pointer (some ⟨b4, 0, none⟩)), (5, .pointer (some ⟨b5, 0, none⟩)), (8, .pointer (some ⟨b8, 0, none⟩)), (9, .pointer (some ⟨b9, 0, none⟩)), (10, I (errOf (fDo s m co0)))]) (L' := [pt b8 (blk (RmS s la2 lc2 pa2 pc2 (fDo s m co0) x) 28), pt b9 (blk (avC (fDo s m co0)).c 43), stars (StB 64 66 (fDo s m co0) x), pt b3 (blk m.c 47), pt b4 (blk [I 0, I 0, I 0, .slice none 0 0, .slice none 0 0] 28), pt b5 (blk [I 0, I 0, I 0, I 0] 43), RL, RP]) (Keep.sub (kt (ks := [3, 4, 5, 8, 9, 10]) rfl)) gv (RunD.done kr ⟨_, _, _, _, _, _, _, rfl, rfl⟩)
 refine RunD.op 1 [true, false] rfl rfl rfl kr kr (OpJ.callOuts C94 rfl rfl (ac94 s la lc pa pc RL RP hn hRL hRP) tks fun ⟨la2, lc2, pa2, pc2⟩ _ => ⟨po, ?_⟩)
 refine RunD.op 3 [false] rfl rfl rfl kr kr (OpJ.callOuts C93 rfl rfl (ac93f s m la2 lc2 pa2 pc2 hs hm (fun hk => (MG.of (Decidable.not_not.1 h1)).q.1 (.inl hk)) (fun i p hx => (hf0 i p hx).2)) tks fun x _ => ⟨po, ?_⟩)
 refine tk 4 rfl rfl rfl (DetJ.move rfl) ?_
 refine tk 5 rfl rfl rfl (DetJ.extract rfl rfl) ?_
 refine tk 6 rfl rfl rfl (DetJ.extract rfl rfl) ?_
 refine tk 7 rfl rfl rfl (DetJ.extract rfl rfl) ?_
 refine RunD.op 10 [true, true, false, false] rfl rfl rfl kr kr (OpJ.storeW T28 rfl rfl RmS_len rfl RmS_one up ⟨po, ?_⟩)
 refine RunD.op 11 [true, false] rfl rfl rfl kr kr (OpJ.storeW T43 rfl rfl rfl rfl (by simp [Value.oneCell', Pa.c, Ly.c, Mv.c, Co.c]) up ⟨po, ?_⟩)
 refine tk 12 rfl rfl rfl (DetJ.assign rfl) ?_
 exact RunD.weak (E' := [(3, .pointer (some ⟨b3, 0, none⟩)), (4, .pointer (some ⟨b4, 0, none⟩)), (5, .pointer (some ⟨b5, 0, none⟩)), (8, .pointer (some ⟨b8, 0, none⟩)), (9, .pointer (some ⟨b9, 0, none⟩)), (10, I (errOf (fDo s m co0)))]) (L' := [pt b8 (blk (RmS s la2 lc2 pa2 pc2 (fDo s m co0) x) 28), pt b9 (blk (avC (fDo s m co0)).c 43), stars (StB 64 66 (fDo s m co0) x), pt b3 (blk m.c 47), pt b4 (blk [I 0, I 0, I 0, .slice none 0 0, .slice none 0 0] 28), pt b5 (blk [I 0, I 0, I 0, I 0] 43), RL, RP]) (Keep.sub (kt (ks := [3, 4, 5, 8, 9, 10]) rfl)) gv (RunD.done kr ⟨_, _, _, _, _, _, _, rfl, rfl⟩)
 refine RunD.two 1 8 [true, false] [true, true] rfl rfl rfl rfl rfl rfl kr kr kr (OpJ.callOuts C94 rfl rfl (ac94 s la lc pa pc RL RP hn hRL hRP) tks fun ⟨la2, lc2, pa2, pc2⟩ _ => ⟨po, ?_⟩) (OpJ.alloc Z28 fun b8 => ⟨po, ?_⟩)
 refine RunD.two 3 8 [false] [true] rfl rfl rfl rfl rfl rfl kr kr kr (OpJ.callOuts C93 rfl rfl (ac93f s m la2 lc2 pa2 pc2 hs hm (fun hk => (MG.of (Decidable.not_not.1 h1)).q.1 (.inl hk)) (fun i p hx => (hf0 i p hx).2)) tks fun x _ => ⟨po, ?_⟩) (OpJ.alloc Z28 fun b8 => ⟨po, ?_⟩)
 refine tk 4 rfl rfl rfl (DetJ.move rfl) ?_
 refine tk 5 rfl rfl rfl (DetJ.extract rfl rfl) ?_
 refine tk 6 rfl rfl rfl (DetJ.extract rfl rfl) ?_
 refine tk 7 rfl rfl rfl (DetJ.extract rfl rfl) ?_
 refine RunD.op 8 [true, true, true, true] rfl rfl rfl kr kr (OpJ.alloc Z28 fun b8 => ⟨po, ?_⟩)
 refine RunD.op 10 [true, true, false, false] rfl rfl rfl kr kr (OpJ.storeW T28 rfl rfl RmS_len rfl RmS_one up ⟨po, ?_⟩)
 refine RunD.op 11 [true, false] rfl rfl rfl kr kr (OpJ.storeW T43 rfl rfl rfl rfl (by simp [Value.oneCell', Pa.c, Ly.c, Mv.c, Co.c]) up ⟨po, ?_⟩)
 refine tk 12 rfl rfl rfl (DetJ.assign rfl) ?_
 exact RunD.weak (E' := [(3, .pointer (some ⟨b3, 0, none⟩)), (4, .pointer (some ⟨b4, 0, none⟩)), (5, .pointer (some ⟨b5, 0, none⟩)), (8, .pointer (some ⟨b8, 0, none⟩)), (9, .pointer (some ⟨b9, 0, none⟩)), (10, I (errOf (fDo s m co0)))]) (L' := [pt b8 (blk (RmS s la2 lc2 pa2 pc2 (fDo s m co0) x) 28), pt b9 (blk (avC (fDo s m co0)).c 43), stars (StB 64 66 (fDo s m co0) x), pt b3 (blk m.c 47), pt b4 (blk [I 0, I 0, I 0, .slice none 0 0, .slice none 0 0] 28), pt b5 (blk [I 0, I 0, I 0, I 0] 43), RL, RP]) (Keep.sub (kt (ks := [3, 4, 5, 8, 9, 10]) rfl)) gv (RunD.done kr ⟨_, _, _, _, _, _, _, rfl, rfl⟩)
 refine RunD.op 3 [false] rfl rfl rfl kr kr (OpJ.callOuts C93 rfl rfl (ac93f s m la2 lc2 pa2 pc2 hs hm (fun hk => (MG.of (Decidable.not_not.1 h1)).q.1 (.inl hk)) (fun i p hx => (hf0 i p hx).2)) tks fun x _ => ⟨po, ?_⟩)
 refine tk 4 rfl rfl rfl (DetJ.move rfl) ?_
 refine tk 5 rfl rfl rfl (DetJ.extract rfl rfl) ?_
 refine tk 6 rfl rfl rfl (DetJ.extract rfl rfl) ?_
 refine tk 7 rfl rfl rfl (DetJ.extract rfl rfl) ?_
 refine RunD.op 10 [true, true, false, false] rfl rfl rfl kr kr (OpJ.storeW T28 rfl rfl RmS_len rfl RmS_one up ⟨po, ?_⟩)
 refine RunD.op 11 [true, false] rfl rfl rfl kr kr (OpJ.storeW T43 rfl rfl rfl rfl (by simp [Value.oneCell', Pa.c, Ly.c, Mv.c, Co.c]) up ⟨po, ?_⟩)
 refine tk 12 rfl rfl rfl (DetJ.assign rfl) ?_
 exact RunD.weak (E' := [(3, .pointer (some ⟨b3, 0, none⟩)), (4, .pointer (some ⟨b4, 0, none⟩)), (5, .pointer (some ⟨b5, 0, none⟩)), (8, .pointer (some ⟨b8, 0, none⟩)), (9, .pointer (some ⟨b9, 0, none⟩)), (10, I (errOf (fDo s m co0)))]) (L' := [pt b8 (blk (RmS s la2 lc2 pa2 pc2 (fDo s m co0) x) 28), pt b9 (blk (avC (fDo s m co0)).c 43), stars (StB 64 66 (fDo s m co0) x), pt b3 (blk m.c 47), pt b4 (blk [I 0, I 0, I 0, .slice none 0 0, .slice none 0 0] 28), pt b5 (blk [I 0, I 0, I 0, I 0] 43), RL, RP]) (Keep.sub (kt (ks := [3, 4, 5, 8, 9, 10]) rfl)) gv (RunD.done kr ⟨_, _, _, _, _, _, _, rfl, rfl⟩)
 refine RunD.op 1 [true, false] rfl rfl rfl kr kr (OpJ.callOuts C94 rfl rfl (ac94 s la lc pa pc RL RP hn hRL hRP) tks fun ⟨la2, lc2, pa2, pc2⟩ _ => ⟨po, ?_⟩)
 refine RunD.op 3 [false] rfl rfl rfl kr kr (OpJ.callOuts C93 rfl rfl (ac93f s m la2 lc2 pa2 pc2 hs hm (fun hk => (MG.of (Decidable.not_not.1 h1)).q.1 (.inl hk)) (fun i p hx => (hf0 i p hx).2)) tks fun x _ => ⟨po, ?_⟩)
 refine tk 4 rfl rfl rfl (DetJ.move rfl) ?_
 refine tk 5 rfl rfl rfl (DetJ.extract rfl rfl) ?_
 refine tk 6 rfl rfl rfl (DetJ.extract rfl rfl) ?_
 refine tk 7 rfl rfl rfl (DetJ.extract rfl rfl) ?_
 refine RunD.op 10 [true, true, false, false] rfl rfl rfl kr kr (OpJ.storeW T28 rfl rfl RmS_len rfl RmS_one up ⟨po, ?_⟩)
 refine RunD.op 11 [true, false] rfl rfl rfl kr kr (OpJ.storeW T43 rfl rfl rfl rfl (by simp [Value.oneCell', Pa.c, Ly.c, Mv.c, Co.c]) up ⟨po, ?_⟩)
 refine tk 12 rfl rfl rfl (DetJ.assign rfl) ?_
 exact RunD.weak (E' := [(3, .pointer (some ⟨b3, 0, none⟩)), (4, .pointer (some ⟨b4, 0, none⟩)), (5, .pointer (some ⟨b5, 0, none⟩)), (8, .pointer (some ⟨b8, 0, none⟩)), (9, .pointer (some ⟨b9, 0, none⟩)), (10, I (errOf (fDo s m co0)))]) (L' := [pt b8 (blk (RmS s la2 lc2 pa2 pc2 (fDo s m co0) x) 28), pt b9 (blk (avC (fDo s m co0)).c 43), stars (StB 64 66 (fDo s m co0) x), pt b3 (blk m.c 47), pt b4 (blk [I 0, I 0, I 0, .slice none 0 0, .slice none 0 0] 28), pt b5 (blk [I 0, I 0, I 0, I 0] 43), RL, RP]) (Keep.sub (kt (ks := [3, 4, 5, 8, 9, 10]) rfl)) gv (RunD.done kr ⟨_, _, _, _, _, _, _, rfl, rfl⟩)
 rintro _ _ ⟨la2, lc2, pa2, pc2, x, b8, b9, rfl, rfl⟩
 refine Run.seq ?_
 refine sr ?_
 refine mvo rfl rfl ?_
 rcases hres : fDo s m co0 with e | ⟨t, c⟩
 refine sx 1 ?_
 first | refine RunL.set (congrArg Value.bool (decide_eq_true (show errOf (Except.error _) ≠ 0 from fDo_err hres))) ?_ | skip
 refine kp [3, 4, 5, 8, 9, 10, 33] rfl ?_
 refine Run.true rfl ?_
 refine sr ?_
 refine sx 6 ?_
 refine kp [4, 5, 6] rfl ?_
 refine Run.ret ?_
 have hres2 : fStep s m = .error e := (by unfold fStep; rw [if_neg h1, if_neg (by simp_all), fDo_seq, hres]); refine ret_out (none, 0, none, 0) (.cellA T28 rfl pk (by rfl) (.cellA T43 rfl pk (by rfl) (.tmp rfl .nil))) trivial (by rw [hres2]; rfl) ?_; rw [hres2]; exact gv
 have hto := fDo_ok hs hm hres
 have hnt : (summed t c).layers.length ≤ 1000000 := hto.nl
 refine RunL.unstar (As := StB 64 66 (Except.ok (t, c)) x) pk ?_
 rw [show RmS s la2 lc2 pa2 pc2 (Except.ok (t, c)) x = t.c x.1 x.2.1 x.2.2.1 x.2.2.2 from rfl, show avC (Except.ok (t, c)) = c from rfl]
 refine sx 1 ?_
 first | refine RunL.set (congrArg Value.bool (decide_eq_true (show errOf (Except.error _) ≠ 0 from fDo_err hres))) ?_ | skip
 refine kp [3, 4, 5, 8, 9, 10, 33] rfl ?_
 refine Run.false rfl ?_
 refine Run.skip ?_
 refine sr ?_
 refine sx 4 ?_
 refine RunL.op rfl rfl (OpJ.add rfl rfl ?_)
 refine sx 2 ?_
 refine kp [3, 4, 5, 8, 9] rfl ?_
 refine sr ?_
 refine sx 4 ?_
 refine RunL.op rfl rfl (OpJ.add rfl rfl ?_)
 refine sx 2 ?_
 refine kp [3, 4, 5, 8, 9] rfl ?_
 refine Run.seq ?_
 refine sr ?_
 refine sx 3 ?_
 refine RunL.call C95 rfl rfl rfl (ac95 (summed t c) x.1 x.2.1 x.2.2.1 x.2.2.2 (own 64 4 x.1 (t.layers).length x.2.1 ((t.layers).flatMap Ly.c)) c.var own.rds hnt) tks ?_
 rw [fits_over]
 refine RunL.op rfl rfl (OpJ.not rfl ?_)
 refine kp [3, 4, 5, 8, 9, 53] rfl ?_
 first | refine Run.if rfl (fun h3 => ?_) (fun h3 => ?_) | refine Run.cond rfl (fun h3 => ?_) (fun h3 => ?_)
 refine sr ?_
 refine sx 5 ?_
 refine kp [4, 5, 6] rfl ?_
 refine Run.ret ?_
 have hres2 : fStep s m = .error 4 := (by unfold fStep; rw [if_neg h1, if_neg (by simp_all), fDo_seq, hres]; exact if_pos (show overB (summed t c) c = true from by simpa using h3)); refine ret_out (none, 0, none, 0) (.cellA T28 rfl pk (by rfl) (.cellA T43 rfl pk (by rfl) (.tmp rfl .nil))) trivial (by rw [hres2]; rfl) ?_; rw [hres2]; exact gv
 refine Run.skip ?_
 refine sr ?_
 refine sx 3 ?_
 refine RunL.op rfl rfl (OpJ.store1 T3 rfl rfl rfl up (by show 0 < 4; decide) ?_)
 refine kp [4, 5, 8, 9] rfl ?_
 refine Run.seq ?_
 refine regionD HM ?_
 first | refine RunD.takeW 0 rfl rfl kr T28 rfl pk (by rfl) ?_ | refine RunD.takeP 0 rfl rfl kr T28 rfl pk (by simp) ?_ | refine RunD.takeE 0 rfl rfl kr T28 rfl pk (by assumption) (by exact fun _ => rfl) rfl (by decide) ?_
 first | refine RunD.takeW 1 rfl rfl kr T43 rfl pk (by rfl) ?_ | refine RunD.takeP 1 rfl rfl kr T43 rfl pk (by simp) ?_ | refine RunD.takeE 1 rfl rfl kr T43 rfl pk (by assumption) (by exact fun _ => rfl) rfl (by decide) ?_
 refine RunD.op 2 [true, false] rfl rfl rfl kr kr (OpJ.storeW T28 rfl rfl rfl rfl (by simp [Value.oneCell', Pa.c, Ly.c, Mv.c, Co.c]) up ⟨po, ?_⟩)
 refine RunD.op 3 [false] rfl rfl rfl kr kr (OpJ.storeW T43 rfl rfl rfl rfl (by simp [Value.oneCell', Pa.c, Ly.c, Mv.c, Co.c]) up ⟨po, ?_⟩)
 refine tk 4 rfl rfl rfl (DetJ.assign rfl) ?_
 refine kd [4, 5, 6] rfl ?_
 refine Run.ret ?_
 have hres2 : fStep s m = .ok (summed t { c with seq := m.seq }, { c with seq := m.seq }) := (by unfold fStep; rw [if_neg h1, if_neg (by simp_all), fDo_seq, hres]; exact if_neg (show ¬ overB (summed t c) c = true from by simpa using h3)); refine ret_out x (.cellA T28 rfl pk (by rfl) (.cellA T43 rfl pk (by rfl) (.tmp rfl .nil))) trivial (by rw [hres2]; rfl) ?_; rw [hres2]; exact gv
end
end Go.Proofs.YtdcchollplhioaaGreatDoor

namespace Go.Proofs.YtdcchollplhioaaGreatDoor
open Go Go.SL Go.Proofs
section
attribute [local irreducible] OpJ RunL Run RunD DetJ pt own star Rd RdS
-- accountingref35.Find
theorem ac96 (s : Sk) (la : Option Addr) (lc : Nat) (pa : Option Addr) (pc : Nat) (RP : HP) (kind seq : Int) (hRP : RdS RP pa (s.past.flatMap Pa.c)) (hnp : s.past.length ≤ 1000000) : AC Tryz.prog 96 ⟨[.agg ⟨s.c la lc pa pc⟩, I kind, I seq]⟩ (stars [RP]) (Ret (I (idxOf (findI (isPast kind seq) s.past))) [RP]) := by
 refine AC.go Tryz.func96 rfl (Nat.le_of_ble_eq_true rfl) fun β => ?_
 refine sr ?_
 refine RunL.op rfl rfl (OpJ.boxA rfl fun b3 => ?_)
 refine asg rfl rfl ?_
 refine kp [1, 2, 3] rfl ?_
 refine Run.seq ?_
 refine sr ?_
 refine asg rfl rfl ?_
 refine kp [1, 2, 3, 7] rfl ?_
 refine Run.block ?_
 refine Run.loop (fun mm E L => ∃ i : Nat, mm = s.past.length - i ∧ i ≤ s.past.length ∧ (∀ j y, j < i → s.past[j]? = some y → isPast kind seq y = false) ∧ E = [(1, I kind), (2, I seq), (3, .pointer (some ⟨b3, 0, none⟩)), (7, I i)] ∧ L = [pt b3 (blk (s.c la lc pa pc) 28), RP]) ⟨_, 0, rfl, Nat.zero_le _, fun _ _ h => by omega, rfl, rfl⟩ ?_
 rintro _ _ _ ⟨i, rfl, hi, hI0, rfl, rfl⟩
 refine Run.seq ?_
 refine sr ?_
 refine sx 5 ?_
 refine kp [1, 2, 3, 7, 12] rfl ?_
 first | refine Run.if rfl (fun h1 => ?_) (fun h1 => ?_) | refine Run.cond rfl (fun h1 => ?_) (fun h1 => ?_)
 refine Run.skip ?_
 refine Run.seq ?_
 refine Run.block ?_
 refine sr ?_
 obtain ⟨x, hx⟩ := get_ex (xs := s.past) (by omega)
 refine RunL.rdOpen pk hRP (flat_ne (k := 7) (fun _ => rfl) (by decide) hx) fun b o e hrd => ?_
 subst e
 refine sx 5 ?_
 refine RunL.op rfl rfl (OpJ.load1 T3 rfl pk (hrd.pa hx 0 (I x.seq) rfl) ?_)
 refine sx 3 ?_
 first | refine RunL.splitP (t := 23) rfl (fun g2 => ?_) (fun g2 => ?_) | refine RunL.split (t := 23) rfl (fun g2 => ?_) (fun g2 => ?_)
 refine sx 3 ?_
 first | refine RunL.splitP (t := 26) rfl (fun g3 => ?_) (fun g3 => ?_) | refine RunL.split (t := 26) rfl (fun g3 => ?_) (fun g3 => ?_)
 refine sx 10 ?_
 refine kp [1, 2, 3, 7, 36] rfl ?_
 refine Run.true rfl ?_
 refine sr ?_
 refine sx 2 ?_
 refine kp [6] rfl ?_
 refine Run.ret ?_
 exact ret_one (.tmp rfl .nil) (congrArg I (by rw [findI_at hx (by unfold isPast; simp_all) hI0]; rfl)) gv
 refine sx 5 ?_
 refine RunL.yes rfl rfl rfl rfl (OpJ.load1 T3 rfl pk (hrd.pa hx 1 (I x.kind) rfl) ?_)
 refine sx 4 ?_
 refine kp [1, 2, 3, 7, 36] rfl ?_
 first | refine Run.if rfl (fun h4 => ?_) (fun h4 => ?_) | refine Run.cond rfl (fun h4 => ?_) (fun h4 => ?_)
 refine sr ?_
 refine sx 2 ?_
 refine kp [6] rfl ?_
 refine Run.ret ?_
 exact ret_one (.tmp rfl .nil) (congrArg I (by rw [findI_at hx (by unfold isPast; simp_all) hI0]; rfl)) gv
 refine Run.skip ?_
 refine Run.region ?_
 refine sx 3 ?_
 exact RunL.next (Keep.sub (kt (ks := [1, 2, 3, 7]) rfl)) _ ⟨_, by omega, i + 1, rfl, by omega, notYet hx (by unfold isPast; simp_all) hI0, rfl, rfl⟩ gv
 refine sx 13 ?_
 refine kp [1, 2, 3, 7, 36] rfl ?_
 refine Run.false rfl ?_
 refine Run.skip ?_
 refine Run.region ?_
 refine sx 3 ?_
 exact RunL.next (Keep.sub (kt (ks := [1, 2, 3, 7]) rfl)) _ ⟨_, by omega, i + 1, rfl, by omega, notYet hx (by unfold isPast; simp_all) hI0, rfl, rfl⟩ gv
 refine Run.exit ?_
 refine sr ?_
 refine asg rfl rfl ?_
 refine kp [6] rfl ?_
 refine Run.ret ?_
 exact ret_one (.tmp rfl .nil) (congrArg I (by rw [findI_none (fun j y hj => hI0 j y (by omega))]; rfl)) gv
-- accountingref35.taken
theorem ac137 (t : Sk) (m : Mv) (la : Option Addr) (nl lc : Nat) (pa : Option Addr) (np pc : Nat) (hv : i64 t.value) (hm : i64 m.qty) (hq : i64 t.qty) : AC Tryz.prog 137 ⟨[.agg ⟨SC t la nl lc pa np pc⟩, .agg ⟨m.c⟩]⟩ (stars []) (Ret (.tuple ⟨[I (takenV t m), I (takenE t m)]⟩) []) := by
 refine AC.go Tryz.func137 rfl (Nat.le_of_ble_eq_true rfl) fun β => ?_
 refine sr ?_
 refine RunL.op rfl rfl (OpJ.boxA rfl fun b2 => ?_)
 refine RunL.op rfl rfl (OpJ.boxA rfl fun b3 => ?_)
 refine sx 2 ?_
 refine kp [2, 3] rfl ?_
 refine Run.seq ?_
 refine sr ?_
 refine sx 5 ?_
 refine kp [2, 3, 10] rfl ?_
 first | refine Run.if rfl (fun h1 => ?_) (fun h1 => ?_) | refine Run.cond rfl (fun h1 => ?_) (fun h1 => ?_)
 refine sr ?_
 refine sx 2 ?_
 refine kp [4, 5] rfl ?_
 refine Run.ret ?_
 exact ret_one (.tmp rfl (.tmp rfl .nil)) (by first | (simp [tup, takenV, takenE, avgV, *]; done) | (exfalso; omega)) .nil
 refine Run.skip ?_
 refine sr ?_
 refine sx 6 ?_
 refine RunL.call C139 rfl rfl rfl (ac139 _ _ _ hv hm hq) .nil ?_
 refine sx 2 ?_
 refine kp [4, 5] rfl ?_
 refine Run.ret ?_
 exact ret_one (.tmp rfl (.tmp rfl .nil)) (by first | (simp [tup, takenV, takenE, avgV, *]; done) | (exfalso; omega)) .nil
-- accountingref35.refers
theorem ac138 (s : Sk) (la : Option Addr) (lc : Nat) (pa : Option Addr) (pc : Nat) (RP : HP) (m : Mv) (hRP : RdS RP pa (s.past.flatMap Pa.c)) (hnp : s.past.length ≤ 1000000) : AC Tryz.prog 138 ⟨[.agg ⟨s.c la lc pa pc⟩, .agg ⟨m.c⟩]⟩ (stars [RP]) (Ret (.tuple ⟨[I (okIdx1 (refd (if m.kind = 3 then 2 else 1) m s.past)), I (errOf (refd (if m.kind = 3 then 2 else 1) m s.past))]⟩) [RP]) := by
 refine AC.go Tryz.func138 rfl (Nat.le_of_ble_eq_true rfl) fun β => ?_
 refine sr ?_
 refine RunL.op rfl rfl (OpJ.boxA rfl fun b2 => ?_)
 refine RunL.op rfl rfl (OpJ.boxA rfl fun b3 => ?_)
 refine sx 2 ?_
 refine kp [2, 3] rfl ?_
 refine sr ?_
 refine asg rfl rfl ?_
 refine kp [2, 3, 6] rfl ?_
 refine Run.seq ?_
 refine sr ?_
 refine sx 3 ?_
 refine kp [2, 3, 6, 10] rfl ?_
 first | refine Run.if rfl (fun h1 => ?_) (fun h1 => ?_) | refine Run.cond rfl (fun h1 => ?_) (fun h1 => ?_)
 refine Run.region ?_
 refine asg rfl rfl ?_
 refine kp [2, 3, 6] rfl ?_
 refine sr ?_
 refine sx 4 ?_
 refine RunL.call C96 rfl rfl rfl (ac96 s la lc pa pc RP _ m.ref hRP hnp) tks ?_
 refine asg rfl rfl ?_
 refine kp [2, 3, 7] rfl ?_
 refine Run.seq ?_
 refine sr ?_
 refine sx 2 ?_
 rcases hf : findI (isPast 2 m.ref) s.past with _ | ⟨i, x⟩
 refine kp [2, 3, 7, 17] rfl ?_
 refine Run.true rfl ?_
 refine sr ?_
 refine sx 2 ?_
 refine kp [4, 5] rfl ?_
 refine Run.ret ?_
 exact ret_one (.tmp rfl (.tmp rfl .nil)) (by simp [tup, refd, hf, okIdx1, errOf, idxOf, *]) gv
 obtain ⟨hx, _⟩ := findI_some hf
 have hi := (List.getElem?_eq_some_iff.1 hx).1
 simp only [idxOf]
 refine RunL.set (congrArg Value.bool (decide_eq_false (show ¬ ((i : Int) < 0) by omega))) ?_
 refine kp [2, 3, 7, 17] rfl ?_
 refine Run.false rfl ?_
 refine Run.skip ?_
 refine Run.seq ?_
 refine Run.seq ?_
 refine regionD HM ?_
 refine RunD.rdOpen pk hRP (flat_ne (k := 7) (fun _ => rfl) (by decide) hx) fun b o e hrd => ?_
 subst e
 refine tk 0 rfl rfl rfl (DetJ.fieldAddr F47_4 rfl) ?_
 first | refine RunD.takeF 1 rfl rfl kr T3 rfl pk (by rfl) ?_ | refine RunD.takeO 1 rfl rfl kr T3 rfl pk (by assumption) (by rfl) (by exact fun _ => rfl) ?_
 refine tk 2 rfl rfl rfl (DetJ.fieldAddr F28_4 rfl) ?_
 first | refine RunD.takeF 3 rfl rfl kr T26 rfl pk (by rfl) ?_ | refine RunD.takeO 3 rfl rfl kr T26 rfl pk (by assumption) (by rfl) (by exact fun _ => rfl) ?_
 refine tk 4 rfl rfl rfl (DetJ.move rfl) ?_
 refine tk 5 rfl rfl rfl (DetJ.indexAddr S26 rfl rfl (by omega)) ?_
 refine tk 6 rfl rfl rfl (DetJ.fieldAddr F66_3 rfl) ?_
 refine RunD.takeR1 7 rfl rfl kr T3 rfl pk (hrd.pa hx 3 (I x.qty) rfl) ?_
 refine tk 8 rfl rfl rfl (DetJ.fieldAddr F28_4 rfl) ?_
 first | refine RunD.takeF 9 rfl rfl kr T26 rfl pk (by rfl) ?_ | refine RunD.takeO 9 rfl rfl kr T26 rfl pk (by assumption) (by rfl) (by exact fun _ => rfl) ?_
 refine tk 10 rfl rfl rfl (DetJ.move rfl) ?_
 refine tk 11 rfl rfl rfl (DetJ.indexAddr S26 rfl rfl (by omega)) ?_
 refine tk 12 rfl rfl rfl (DetJ.fieldAddr F66_5 rfl) ?_
 refine RunD.takeR1 13 rfl rfl kr T3 rfl pk (hrd.pa hx 5 (I x.used) rfl) ?_
 refine tk 14 rfl rfl rfl (DetJ.sub rfl rfl) ?_
 refine tk 15 rfl rfl rfl (DetJ.gtr rfl rfl) ?_
 refine kd [7, 33] rfl ?_
 first | refine Run.if rfl (fun h2 => ?_) (fun h2 => ?_) | refine Run.cond rfl (fun h2 => ?_) (fun h2 => ?_)
 refine sr ?_
 refine sx 2 ?_
 refine kp [4, 5] rfl ?_
 refine Run.ret ?_
 exact ret_one (.tmp rfl (.tmp rfl .nil)) (by simp [tup, refd, hf, okIdx1, errOf, idxOf, *]) gv
 refine Run.skip ?_
 refine sr ?_
 refine sx 3 ?_
 refine kp [4, 5] rfl ?_
 refine Run.ret ?_
 exact ret_one (.tmp rfl (.tmp rfl .nil)) (by simp [tup, refd, hf, okIdx1, errOf, idxOf, *]) gv
 refine Run.skip ?_
 refine sr ?_
 refine sx 4 ?_
 refine RunL.call C96 rfl rfl rfl (ac96 s la lc pa pc RP _ m.ref hRP hnp) tks ?_
 refine asg rfl rfl ?_
 refine kp [2, 3, 7] rfl ?_
 refine Run.seq ?_
 refine sr ?_
 refine sx 2 ?_
 rcases hf : findI (isPast 1 m.ref) s.past with _ | ⟨i, x⟩
 refine kp [2, 3, 7, 17] rfl ?_
 refine Run.true rfl ?_
 refine sr ?_
 refine sx 2 ?_
 refine kp [4, 5] rfl ?_
 refine Run.ret ?_
 exact ret_one (.tmp rfl (.tmp rfl .nil)) (by simp [tup, refd, hf, okIdx1, errOf, idxOf, *]) gv
 obtain ⟨hx, _⟩ := findI_some hf
 have hi := (List.getElem?_eq_some_iff.1 hx).1
 simp only [idxOf]
 refine RunL.set (congrArg Value.bool (decide_eq_false (show ¬ ((i : Int) < 0) by omega))) ?_
 refine kp [2, 3, 7, 17] rfl ?_
 refine Run.false rfl ?_
 refine Run.skip ?_
 refine Run.seq ?_
 refine Run.seq ?_
 refine regionD HM ?_
 refine RunD.rdOpen pk hRP (flat_ne (k := 7) (fun _ => rfl) (by decide) hx) fun b o e hrd => ?_
 subst e
 refine tk 0 rfl rfl rfl (DetJ.fieldAddr F47_4 rfl) ?_
 first | refine RunD.takeF 1 rfl rfl kr T3 rfl pk (by rfl) ?_ | refine RunD.takeO 1 rfl rfl kr T3 rfl pk (by assumption) (by rfl) (by exact fun _ => rfl) ?_
 refine tk 2 rfl rfl rfl (DetJ.fieldAddr F28_4 rfl) ?_
 first | refine RunD.takeF 3 rfl rfl kr T26 rfl pk (by rfl) ?_ | refine RunD.takeO 3 rfl rfl kr T26 rfl pk (by assumption) (by rfl) (by exact fun _ => rfl) ?_
 refine tk 4 rfl rfl rfl (DetJ.move rfl) ?_
 refine tk 5 rfl rfl rfl (DetJ.indexAddr S26 rfl rfl (by omega)) ?_
 refine tk 6 rfl rfl rfl (DetJ.fieldAddr F66_3 rfl) ?_
 refine RunD.takeR1 7 rfl rfl kr T3 rfl pk (hrd.pa hx 3 (I x.qty) rfl) ?_
 refine tk 8 rfl rfl rfl (DetJ.fieldAddr F28_4 rfl) ?_
 first | refine RunD.takeF 9 rfl rfl kr T26 rfl pk (by rfl) ?_ | refine RunD.takeO 9 rfl rfl kr T26 rfl pk (by assumption) (by rfl) (by exact fun _ => rfl) ?_
 refine tk 10 rfl rfl rfl (DetJ.move rfl) ?_
 refine tk 11 rfl rfl rfl (DetJ.indexAddr S26 rfl rfl (by omega)) ?_
 refine tk 12 rfl rfl rfl (DetJ.fieldAddr F66_5 rfl) ?_
 refine RunD.takeR1 13 rfl rfl kr T3 rfl pk (hrd.pa hx 5 (I x.used) rfl) ?_
 refine tk 14 rfl rfl rfl (DetJ.sub rfl rfl) ?_
 refine tk 15 rfl rfl rfl (DetJ.gtr rfl rfl) ?_
 refine kd [7, 33] rfl ?_
 first | refine Run.if rfl (fun h3 => ?_) (fun h3 => ?_) | refine Run.cond rfl (fun h3 => ?_) (fun h3 => ?_)
 refine sr ?_
 refine sx 2 ?_
 refine kp [4, 5] rfl ?_
 refine Run.ret ?_
 exact ret_one (.tmp rfl (.tmp rfl .nil)) (by simp [tup, refd, hf, okIdx1, errOf, idxOf, *]) gv
 refine Run.skip ?_
 refine sr ?_
 refine sx 3 ?_
 refine kp [4, 5] rfl ?_
 refine Run.ret ?_
 exact ret_one (.tmp rfl (.tmp rfl .nil)) (by simp [tup, refd, hf, okIdx1, errOf, idxOf, *]) gv
end
end Go.Proofs.YtdcchollplhioaaGreatDoor

namespace Go.Proofs.YtdcchollplhioaaGreatDoor
open Go Go.SL Go.Proofs
section
attribute [local irreducible] OpJ RunL Run RunD DetJ pt own star Rd RdS
-- accountingref35.apply
theorem ac97 (t : Sk) (m : Mv) (la : Option Addr) (nl lc : Nat) (pa : Option Addr) (pc : Nat) (enl : nl = t.layers.length) (ht : t.ok 999999) (hm : m.ok) (hq0 : m.kind = 5 → m.qty = 0) (hkd : 1 ≤ m.kind ∧ m.kind ≤ 6) : AC Tryz.prog 97 ⟨[.agg ⟨SC t la nl lc pa t.past.length pc⟩, .agg ⟨m.c⟩]⟩ (stars [own 66 7 pa (t.past).length pc ((t.past).flatMap Pa.c)]) (Outs (fun y : Sk × Co × Option Addr × Nat => Got (aDo t m) y.1 y.2.1) (fun y => .tuple ⟨[.agg ⟨SC y.1 la nl lc y.2.2.1 y.1.past.length y.2.2.2⟩, .agg ⟨y.2.1.c⟩, I (errOf (aDo t m))]⟩) (fun y => [own 66 7 y.2.2.1 y.1.past.length y.2.2.2 (y.1.past.flatMap Pa.c)])) := by
 subst enl
 have hn : t.layers.length ≤ 1000000 ∧ t.past.length ≤ 1000000 := ⟨Nat.le_trans ht.nl (by decide), Nat.le_trans ht.np (by decide)⟩
 have hnl := ht.nl; have hnp := ht.np
 obtain ⟨hm1, hm2⟩ := hm
 refine AC.go Tryz.func97 rfl (Nat.le_of_ble_eq_true rfl) fun β => ?_
 refine sr ?_
 refine RunL.op rfl rfl (OpJ.boxA rfl fun b2 => ?_)
 refine RunL.op rfl rfl (OpJ.boxA rfl fun b3 => ?_)
 refine RunL.op rfl rfl (OpJ.alloc Z28 fun b4 => ?_)
 refine RunL.op rfl rfl (OpJ.alloc Z43 fun b5 => ?_)
 refine asg rfl rfl ?_
 refine kp [2, 3, 4, 5] rfl ?_
 refine sr ?_
 refine sx 3 ?_
 refine RunL.op rfl rfl (OpJ.alloc Z43 fun b7 => ?_)
 refine sx 1 ?_
 refine kp [2, 3, 4, 5, 7] rfl ?_
 refine Run.seq ?_
 refine sr ?_
 refine sx 3 ?_
 refine kp [2, 3, 4, 5, 7, 21] rfl ?_
 first | refine Run.if rfl (fun h1 => ?_) (fun h1 => ?_) | refine Run.cond rfl (fun h1 => ?_) (fun h1 => ?_)
 refine sr ?_
 refine sx 4 ?_
 refine kp [2, 3, 4, 5, 7] rfl ?_
 refine sr ?_
 refine sx 4 ?_
 refine kp [2, 3, 4, 5, 7] rfl ?_
 refine sr ?_
 refine sx 11 ?_
 refine RunL.op rfl rfl (OpJ.buildSlice1 S26 rfl rfl rfl (by decide) (by decide) Z66 rfl fun b39 => ?_)
 refine RunL.op rfl rfl (OpJ.append1 (⟨m.seq, 1, m.lot, m.qty, m.cost, 0, 0⟩ : Pa) S26 M66 rfl rfl pk pk rfl rfl (by simp [Value.oneCell', Pa.c, Ly.c, Mv.c, Co.c]) rfl (by omega) (by omega) fun a40 c40 => ?_)
 refine sx 2 ?_
 refine kp [2, 4, 5, 7] rfl ?_
 refine Run.seq ?_
 refine regionD HM ?_
 first | refine RunD.takeW 0 rfl rfl kr T28 rfl pk (by rfl) ?_ | refine RunD.takeP 0 rfl rfl kr T28 rfl pk (by simp) ?_ | refine RunD.takeE 0 rfl rfl kr T28 rfl pk (by assumption) (by exact fun _ => rfl) rfl (by decide) ?_
 first | refine RunD.takeW 1 rfl rfl kr T43 rfl pk (by rfl) ?_ | refine RunD.takeP 1 rfl rfl kr T43 rfl pk (by simp) ?_ | refine RunD.takeE 1 rfl rfl kr T43 rfl pk (by assumption) (by exact fun _ => rfl) rfl (by decide) ?_
 refine RunD.op 2 [true, false] rfl rfl rfl kr kr (OpJ.storeW T28 rfl rfl rfl rfl (by simp [Value.oneCell', Pa.c, Ly.c, Mv.c, Co.c]) up ⟨po, ?_⟩)
 refine RunD.op 3 [false] rfl rfl rfl kr kr (OpJ.storeW T43 rfl rfl rfl rfl (by simp [Value.oneCell', Pa.c, Ly.c, Mv.c, Co.c]) up ⟨po, ?_⟩)
 refine tk 4 rfl rfl rfl (DetJ.assign rfl) ?_
 refine kd [4, 5, 6] rfl ?_
 refine Run.ret ?_
 have hg := a1_got (t := t) (m := m) (by assumption); refine ret_out ({ t with past := t.past ++ [(⟨m.seq, 1, m.lot, m.qty, m.cost, 0, 0⟩ : Pa)] }, ⟨m.seq, m.qty, m.cost, 0⟩, a40, c40) (.cellA T28 rfl pk (by rfl) (.cellA T43 rfl pk (by rfl) (.tmp rfl .nil))) hg.2 (by rw [hg.1]; first | rfl | (simp only [List.length_set]; rfl)) ?_; (try simp only [List.length_set]); exact gv
 refine Run.skip ?_
 refine Run.seq ?_
 refine sr ?_
 refine sx 3 ?_
 refine kp [2, 3, 4, 5, 7, 46] rfl ?_
 first | refine Run.if rfl (fun h2 => ?_) (fun h2 => ?_) | refine Run.cond rfl (fun h2 => ?_) (fun h2 => ?_)
 refine sr ?_
 refine sx 2 ?_
 refine RunL.call C137 rfl rfl rfl (ac137 t m _ _ _ _ _ _ ht.v hm1 ht.q) .nil ?_
 refine sx 5 ?_
 refine kp [2, 3, 4, 5, 7, 8, 9] rfl ?_
 refine sr ?_
 refine sx 5 ?_
 refine kp [2, 3, 4, 5, 7, 8, 9] rfl ?_
 refine sr ?_
 refine sx 4 ?_
 refine kp [2, 3, 4, 5, 7, 8, 9] rfl ?_
 refine sr ?_
 refine sx 10 ?_
 refine RunL.op rfl rfl (OpJ.buildSlice1 S26 rfl rfl rfl (by decide) (by decide) Z66 rfl fun b70 => ?_)
 refine RunL.op rfl rfl (OpJ.append1 (⟨m.seq, 2, m.lot, m.qty, takenV t m, 0, 0⟩ : Pa) S26 M66 rfl rfl pk pk rfl rfl (by simp [Value.oneCell', Pa.c, Ly.c, Mv.c, Co.c]) rfl (by omega) (by omega) fun a71 c71 => ?_)
 refine sx 2 ?_
 refine kp [2, 4, 5, 7, 9] rfl ?_
 refine Run.seq ?_
 refine regionD HM ?_
 first | refine RunD.takeW 0 rfl rfl kr T28 rfl pk (by rfl) ?_ | refine RunD.takeP 0 rfl rfl kr T28 rfl pk (by simp) ?_ | refine RunD.takeE 0 rfl rfl kr T28 rfl pk (by assumption) (by exact fun _ => rfl) rfl (by decide) ?_
 first | refine RunD.takeW 1 rfl rfl kr T43 rfl pk (by rfl) ?_ | refine RunD.takeP 1 rfl rfl kr T43 rfl pk (by simp) ?_ | refine RunD.takeE 1 rfl rfl kr T43 rfl pk (by assumption) (by exact fun _ => rfl) rfl (by decide) ?_
 refine tk 2 rfl rfl rfl (DetJ.move rfl) ?_
 refine RunD.op 3 [true, true, false] rfl rfl rfl kr kr (OpJ.storeW T28 rfl rfl rfl rfl (by simp [Value.oneCell', Pa.c, Ly.c, Mv.c, Co.c]) up ⟨po, ?_⟩)
 refine RunD.op 4 [true, false] rfl rfl rfl kr kr (OpJ.storeW T43 rfl rfl rfl rfl (by simp [Value.oneCell', Pa.c, Ly.c, Mv.c, Co.c]) up ⟨po, ?_⟩)
 refine tk 5 rfl rfl rfl (DetJ.assign rfl) ?_
 refine kd [4, 5, 6] rfl ?_
 refine Run.ret ?_
 have hg := a2_got (t := t) (m := m) (by assumption); refine ret_out ({ t with past := t.past ++ [(⟨m.seq, 2, m.lot, m.qty, takenV t m, 0, 0⟩ : Pa)] }, ⟨m.seq, W (0 - m.qty), W (0 - takenV t m), 0⟩, a71, c71) (.cellA T28 rfl pk (by rfl) (.cellA T43 rfl pk (by rfl) (.tmp rfl .nil))) hg.2 (by rw [hg.1]; first | rfl | (simp only [List.length_set]; rfl)) ?_; (try simp only [List.length_set]); exact gv
 refine Run.skip ?_
 refine Run.seq ?_
 refine sr ?_
 refine sx 3 ?_
 refine kp [2, 3, 4, 5, 7, 78] rfl ?_
 first | refine Run.if rfl (fun h3 => ?_) (fun h3 => ?_) | refine Run.cond rfl (fun h3 => ?_) (fun h3 => ?_)
 refine Run.seq ?_
 refine regionD HM ?_
 first | refine RunD.takeW 0 rfl rfl kr T28 rfl pk (by rfl) ?_ | refine RunD.takeP 0 rfl rfl kr T28 rfl pk (by simp) ?_ | refine RunD.takeE 0 rfl rfl kr T28 rfl pk (by assumption) (by exact fun _ => rfl) rfl (by decide) ?_
 first | refine RunD.takeW 1 rfl rfl kr T43 rfl pk (by rfl) ?_ | refine RunD.takeP 1 rfl rfl kr T43 rfl pk (by simp) ?_ | refine RunD.takeE 1 rfl rfl kr T43 rfl pk (by assumption) (by exact fun _ => rfl) rfl (by decide) ?_
 refine RunD.op 2 [true, false] rfl rfl rfl kr kr (OpJ.storeW T28 rfl rfl rfl rfl (by simp [Value.oneCell', Pa.c, Ly.c, Mv.c, Co.c]) up ⟨po, ?_⟩)
 refine RunD.op 3 [false] rfl rfl rfl kr kr (OpJ.storeW T43 rfl rfl rfl rfl (by simp [Value.oneCell', Pa.c, Ly.c, Mv.c, Co.c]) up ⟨po, ?_⟩)
 refine tk 4 rfl rfl rfl (DetJ.assign rfl) ?_
 refine kd [4, 5, 6] rfl ?_
 refine Run.ret ?_
 have hg := a6_got (t := t) (s := t) (c := ⟨m.seq, 0, 0, 0⟩) (m := m) (by omega); refine ret_out (t, ⟨m.seq, 0, 0, 0⟩, pa, pc) (.cellA T28 rfl pk (by rfl) (.cellA T43 rfl pk (by rfl) (.tmp rfl .nil))) hg.2 (by rw [hg.1]; first | rfl | (simp only [List.length_set]; rfl)) ?_; (try simp only [List.length_set]); exact gv
 refine Run.skip ?_
 refine sr ?_
 refine sx 2 ?_
 refine RunL.call C138 rfl rfl rfl (ac138 t la lc pa pc (own 66 7 pa (t.past).length pc ((t.past).flatMap Pa.c)) m own.rds hn.2) tks ?_
 refine sx 5 ?_
 rcases hr : refd (if m.kind = 3 then 2 else 1) m t.past with e | ⟨i, p⟩
 refine kp [2, 3, 4, 5, 7, 10, 11] rfl ?_
 refine Run.seq ?_
 refine sr ?_
 refine sx 2 ?_
 first | refine RunL.set (congrArg Value.bool (decide_eq_true (show errOf (Except.error _) ≠ 0 from refd_ne hr))) ?_ | skip
 refine kp [2, 3, 4, 5, 7, 10, 11, 88] rfl ?_
 refine Run.true rfl ?_
 refine Run.seq ?_
 refine regionD HM ?_
 first | refine RunD.takeW 0 rfl rfl kr T28 rfl pk (by rfl) ?_ | refine RunD.takeP 0 rfl rfl kr T28 rfl pk (by simp) ?_ | refine RunD.takeE 0 rfl rfl kr T28 rfl pk (by assumption) (by exact fun _ => rfl) rfl (by decide) ?_
 first | refine RunD.takeW 1 rfl rfl kr T43 rfl pk (by rfl) ?_ | refine RunD.takeP 1 rfl rfl kr T43 rfl pk (by simp) ?_ | refine RunD.takeE 1 rfl rfl kr T43 rfl pk (by assumption) (by exact fun _ => rfl) rfl (by decide) ?_
 refine tk 2 rfl rfl rfl (DetJ.move rfl) ?_
 refine RunD.op 3 [true, true, false] rfl rfl rfl kr kr (OpJ.storeW T28 rfl rfl rfl rfl (by simp [Value.oneCell', Pa.c, Ly.c, Mv.c, Co.c]) up ⟨po, ?_⟩)
 refine RunD.op 4 [true, false] rfl rfl rfl kr kr (OpJ.storeW T43 rfl rfl rfl rfl (by simp [Value.oneCell', Pa.c, Ly.c, Mv.c, Co.c]) up ⟨po, ?_⟩)
 refine tk 5 rfl rfl rfl (DetJ.assign rfl) ?_
 refine kd [4, 5, 6] rfl ?_
 refine Run.ret ?_
 have hg := ae_got (t := t) (s := t) (c := ⟨m.seq, 0, 0, 0⟩) (m := m) (by omega) hr; refine ret_out (t, ⟨m.seq, 0, 0, 0⟩, pa, pc) (.cellA T28 rfl pk (by rfl) (.cellA T43 rfl pk (by rfl) (.tmp rfl .nil))) hg.2 (by rw [hg.1]; first | rfl | (simp only [List.length_set]; rfl)) ?_; (try simp only [List.length_set]); exact gv
 obtain ⟨hx, _⟩ := refd_one (by split <;> decide) hr
 have hi := (List.getElem?_eq_some_iff.1 hx).1
 obtain ⟨hp1, hp2, hp3, hp4⟩ := ht.pa i p hx
 refine RunL.ownAddr pk (flat_ne (k := 7) (fun _ => rfl) (by decide) hx) fun b e hcap => ?_
 subst e
 simp only [okIdx1]
 refine kp [2, 3, 4, 5, 7, 10, 11] rfl ?_
 refine Run.seq ?_
 refine sr ?_
 refine sx 2 ?_
 first | refine RunL.set (congrArg Value.bool (decide_eq_true (show errOf (Except.error _) ≠ 0 from refd_ne hr))) ?_ | skip
 refine kp [2, 3, 4, 5, 7, 10, 11, 88] rfl ?_
 refine Run.false rfl ?_
 refine Run.skip ?_
 refine sr ?_
 refine sx 5 ?_
 refine RunL.op rfl rfl (OpJ.alloc Z66 fun b12 => ?_)
 refine sx 1 ?_
 rcases (show m.kind = 3 ∨ m.kind = 4 ∨ m.kind = 5 by omega) with hk | hk | hk
 rw [if_pos hk] at hr
 refine kp [2, 3, 4, 5, 7, 10, 11, 12] rfl ?_
 refine Run.seq ?_
 refine sr ?_
 refine sx 3 ?_
 refine RunL.set (congrArg Value.bool (decide_eq_true (by omega))) ?_
 refine kp [2, 3, 4, 5, 7, 10, 11, 12, 99] rfl ?_
 refine Run.true rfl ?_
 refine sr ?_
 refine sx 4 ?_
 refine kp [2, 3, 4, 5, 7, 10, 11, 12] rfl ?_
 refine sr ?_
 refine sx 4 ?_
 refine RunL.op rfl rfl (OpJ.sub rfl rfl ?_)
 refine sx 6 ?_
 refine RunL.op rfl rfl (OpJ.sub rfl rfl ?_)
 refine RunL.call C139 rfl rfl rfl (ac139 _ _ _ (W_i64 _) hm1 (W_i64 _)) .nil ?_
 refine RunL.set (show _ = I (backV p m) from rfl) ?_
 refine sx 2 ?_
 refine kp [2, 3, 4, 5, 7, 10, 11, 12] rfl ?_
 refine Run.region ?_
 refine sx 7 ?_
 refine RunL.op rfl rfl (OpJ.add rfl rfl ?_)
 refine sx 2 ?_
 refine RunL.op rfl rfl (OpJ.storeO (i := i) (u' := { p with usedValue := W (p.usedValue + backV p m) }) T3 rfl rfl rfl hx (fun _ => rfl) (by decide) rfl up ?_)
 refine kp [2, 3, 4, 5, 7, 10, 11, 12] rfl ?_
 refine Run.seq ?_
 refine sr ?_
 refine sx 3 ?_
 refine RunL.set (congrArg Value.bool (decide_eq_false (by omega))) ?_
 refine kp [2, 3, 4, 5, 7, 10, 11, 12, 129] rfl ?_
 refine Run.false rfl ?_
 refine Run.skip ?_
 refine Run.seq ?_
 refine sr ?_
 refine sx 3 ?_
 refine RunL.set (congrArg Value.bool (decide_eq_false (by omega))) ?_
 refine kp [2, 3, 4, 5, 7, 10, 11, 12, 151] rfl ?_
 refine Run.false rfl ?_
 refine Run.skip ?_
 refine sr ?_
 have hx1 := set_get hx { p with usedValue := W (p.usedValue + backV p m) }
 refine sx 7 ?_
 refine RunL.op rfl rfl (OpJ.add rfl rfl ?_)
 refine sx 2 ?_
 refine RunL.op rfl rfl (OpJ.storeO (i := i) (u' := backP p m) T3 rfl rfl rfl hx1 (fun _ => rfl) (by decide) rfl up ?_)
 rw [List.set_set]
 refine kp [2, 4, 5, 7, 11] rfl ?_
 refine Run.seq ?_
 refine regionD HM ?_
 first | refine RunD.takeW 0 rfl rfl kr T28 rfl pk (by rfl) ?_ | refine RunD.takeP 0 rfl rfl kr T28 rfl pk (by simp) ?_ | refine RunD.takeE 0 rfl rfl kr T28 rfl pk (by assumption) (by exact fun _ => rfl) rfl (by decide) ?_
 first | refine RunD.takeW 1 rfl rfl kr T43 rfl pk (by rfl) ?_ | refine RunD.takeP 1 rfl rfl kr T43 rfl pk (by simp) ?_ | refine RunD.takeE 1 rfl rfl kr T43 rfl pk (by assumption) (by exact fun _ => rfl) rfl (by decide) ?_
 refine tk 2 rfl rfl rfl (DetJ.move rfl) ?_
 refine RunD.op 3 [true, true, false] rfl rfl rfl kr kr (OpJ.storeW T28 rfl rfl rfl rfl (by simp [Value.oneCell', Pa.c, Ly.c, Mv.c, Co.c]) up ⟨po, ?_⟩)
 refine RunD.op 4 [true, false] rfl rfl rfl kr kr (OpJ.storeW T43 rfl rfl rfl rfl (by simp [Value.oneCell', Pa.c, Ly.c, Mv.c, Co.c]) up ⟨po, ?_⟩)
 refine tk 5 rfl rfl rfl (DetJ.assign rfl) ?_
 refine kd [4, 5, 6] rfl ?_
 refine Run.ret ?_
 have hg := a3_got (t := t) (m := m) hk hr; refine ret_out ({ t with past := t.past.set i (backP p m) }, ⟨m.seq, m.qty, backV p m, 0⟩, (some ⟨b, 0, none⟩), pc) (.cellA T28 rfl pk (by rfl) (.cellA T43 rfl pk (by rfl) (.tmp rfl .nil))) hg.2 (by rw [hg.1]; first | rfl | (simp only [List.length_set]; rfl)) ?_; (try simp only [List.length_set]); exact gv
 rw [if_neg (by omega)] at hr
 refine kp [2, 3, 4, 5, 7, 10, 11, 12] rfl ?_
 refine Run.seq ?_
 refine sr ?_
 refine sx 3 ?_
 refine RunL.set (congrArg Value.bool (decide_eq_false (by omega))) ?_
 refine kp [2, 3, 4, 5, 7, 10, 11, 12, 99] rfl ?_
 refine Run.false rfl ?_
 refine Run.skip ?_
 refine Run.seq ?_
 refine sr ?_
 refine sx 3 ?_
 refine RunL.set (congrArg Value.bool (decide_eq_true (by omega))) ?_
 refine kp [2, 3, 4, 5, 7, 10, 11, 12, 129] rfl ?_
 refine Run.true rfl ?_
 refine sr ?_
 refine sx 2 ?_
 refine RunL.call C137 rfl rfl rfl (ac137 t m _ _ _ _ _ _ ht.v hm1 ht.q) .nil ?_
 refine sx 5 ?_
 refine kp [2, 3, 4, 5, 7, 10, 12, 13, 14] rfl ?_
 refine sr ?_
 refine sx 5 ?_
 refine kp [2, 3, 4, 5, 7, 10, 12, 13, 14] rfl ?_
 refine sr ?_
 refine sx 4 ?_
 refine kp [2, 3, 4, 5, 7, 10, 12, 13, 14] rfl ?_
 refine sr ?_
 refine sx 3 ?_
 refine RunL.op rfl rfl (OpJ.sub rfl rfl ?_)
 refine sx 2 ?_
 refine kp [2, 3, 4, 5, 7, 10, 12, 14] rfl ?_
 refine Run.region ?_
 refine sx 2 ?_
 refine kp [2, 3, 4, 5, 7, 10, 11, 12] rfl ?_
 refine Run.seq ?_
 refine sr ?_
 refine sx 3 ?_
 refine RunL.set (congrArg Value.bool (decide_eq_false (by omega))) ?_
 refine kp [2, 3, 4, 5, 7, 10, 11, 12, 151] rfl ?_
 refine Run.false rfl ?_
 refine Run.skip ?_
 refine sr ?_
 refine sx 7 ?_
 refine RunL.op rfl rfl (OpJ.add rfl rfl ?_)
 refine sx 2 ?_
 refine RunL.op rfl rfl (OpJ.storeO (i := i) (u' := sendP p m) T3 rfl rfl rfl hx (fun _ => rfl) (by decide) rfl up ?_)
 refine kp [2, 4, 5, 7, 11] rfl ?_
 refine Run.seq ?_
 refine regionD HM ?_
 first | refine RunD.takeW 0 rfl rfl kr T28 rfl pk (by rfl) ?_ | refine RunD.takeP 0 rfl rfl kr T28 rfl pk (by simp) ?_ | refine RunD.takeE 0 rfl rfl kr T28 rfl pk (by assumption) (by exact fun _ => rfl) rfl (by decide) ?_
 first | refine RunD.takeW 1 rfl rfl kr T43 rfl pk (by rfl) ?_ | refine RunD.takeP 1 rfl rfl kr T43 rfl pk (by simp) ?_ | refine RunD.takeE 1 rfl rfl kr T43 rfl pk (by assumption) (by exact fun _ => rfl) rfl (by decide) ?_
 refine tk 2 rfl rfl rfl (DetJ.move rfl) ?_
 refine RunD.op 3 [true, true, false] rfl rfl rfl kr kr (OpJ.storeW T28 rfl rfl rfl rfl (by simp [Value.oneCell', Pa.c, Ly.c, Mv.c, Co.c]) up ⟨po, ?_⟩)
 refine RunD.op 4 [true, false] rfl rfl rfl kr kr (OpJ.storeW T43 rfl rfl rfl rfl (by simp [Value.oneCell', Pa.c, Ly.c, Mv.c, Co.c]) up ⟨po, ?_⟩)
 refine tk 5 rfl rfl rfl (DetJ.assign rfl) ?_
 refine kd [4, 5, 6] rfl ?_
 refine Run.ret ?_
 have hg := a4_got (t := t) (m := m) hk hr; refine ret_out ({ t with past := t.past.set i (sendP p m) }, ⟨m.seq, W (0 - m.qty), W (0 - takenV t m), W (takenV t m - m.cost)⟩, (some ⟨b, 0, none⟩), pc) (.cellA T28 rfl pk (by rfl) (.cellA T43 rfl pk (by rfl) (.tmp rfl .nil))) hg.2 (by rw [hg.1]; first | rfl | (simp only [List.length_set]; rfl)) ?_; (try simp only [List.length_set]); exact gv
 rw [if_neg (by omega)] at hr
 have hq00 := hq0 hk
 refine kp [2, 3, 4, 5, 7, 10, 11, 12] rfl ?_
 refine Run.seq ?_
 refine sr ?_
 refine sx 3 ?_
 refine RunL.set (congrArg Value.bool (decide_eq_false (by omega))) ?_
 refine kp [2, 3, 4, 5, 7, 10, 11, 12, 99] rfl ?_
 refine Run.false rfl ?_
 refine Run.skip ?_
 refine Run.seq ?_
 refine sr ?_
 refine sx 3 ?_
 refine RunL.set (congrArg Value.bool (decide_eq_false (by omega))) ?_
 refine kp [2, 3, 4, 5, 7, 10, 11, 12, 129] rfl ?_
 refine Run.false rfl ?_
 refine Run.skip ?_
 refine Run.seq ?_
 refine sr ?_
 refine sx 3 ?_
 refine RunL.set (congrArg Value.bool (decide_eq_true (by omega))) ?_
 refine kp [2, 3, 4, 5, 7, 10, 11, 12, 151] rfl ?_
 refine Run.true rfl ?_
 refine sr ?_
 refine sx 3 ?_
 refine kp [2, 3, 4, 5, 7, 10, 11, 12, 15] rfl ?_
 refine Run.seq ?_
 refine sr ?_
 refine sx 4 ?_
 refine kp [2, 3, 4, 5, 7, 10, 11, 12, 15, 157] rfl ?_
 first | refine Run.if rfl (fun h4 => ?_) (fun h4 => ?_) | refine Run.cond rfl (fun h4 => ?_) (fun h4 => ?_)
 refine Run.region ?_
 refine sx 3 ?_
 refine kp [2, 3, 4, 5, 7, 10, 11, 12, 15] rfl ?_
 refine sr ?_
 refine sx 5 ?_
 refine RunL.call C139 rfl rfl rfl (ac139 _ _ _ hm2 (by first | exact ht.q | exact hp1) hp1) .nil ?_
 refine RunL.set (congrArg I (show _ = landV t p m by unfold landV; first | rw [if_pos (by assumption)] | rw [if_neg (by assumption)])) ?_
 refine sx 2 ?_
 refine kp [2, 3, 4, 5, 7, 10, 11, 12] rfl ?_
 refine Run.region ?_
 refine sx 4 ?_
 refine RunL.op rfl rfl (OpJ.sub rfl rfl ?_)
 refine sx 2 ?_
 refine kp [2, 3, 4, 5, 7, 10, 11, 12] rfl ?_
 refine sr ?_
 refine sx 7 ?_
 refine RunL.op rfl rfl (OpJ.add rfl rfl ?_)
 refine sx 2 ?_
 refine RunL.op rfl rfl (OpJ.storeO (i := i) (u' := sendP p m) T3 rfl rfl rfl hx (fun _ => rfl) (by decide) rfl up ?_)
 refine kp [2, 4, 5, 7, 11] rfl ?_
 refine Run.seq ?_
 refine regionD HM ?_
 first | refine RunD.takeW 0 rfl rfl kr T28 rfl pk (by rfl) ?_ | refine RunD.takeP 0 rfl rfl kr T28 rfl pk (by simp) ?_ | refine RunD.takeE 0 rfl rfl kr T28 rfl pk (by assumption) (by exact fun _ => rfl) rfl (by decide) ?_
 first | refine RunD.takeW 1 rfl rfl kr T43 rfl pk (by rfl) ?_ | refine RunD.takeP 1 rfl rfl kr T43 rfl pk (by simp) ?_ | refine RunD.takeE 1 rfl rfl kr T43 rfl pk (by assumption) (by exact fun _ => rfl) rfl (by decide) ?_
 refine tk 2 rfl rfl rfl (DetJ.move rfl) ?_
 refine RunD.op 3 [true, true, false] rfl rfl rfl kr kr (OpJ.storeW T28 rfl rfl rfl rfl (by simp [Value.oneCell', Pa.c, Ly.c, Mv.c, Co.c]) up ⟨po, ?_⟩)
 refine RunD.op 4 [true, false] rfl rfl rfl kr kr (OpJ.storeW T43 rfl rfl rfl rfl (by simp [Value.oneCell', Pa.c, Ly.c, Mv.c, Co.c]) up ⟨po, ?_⟩)
 refine tk 5 rfl rfl rfl (DetJ.assign rfl) ?_
 refine kd [4, 5, 6] rfl ?_
 refine Run.ret ?_
 have hg := a5_got (t := t) (m := m) hk hr hq00 hx hp3; refine ret_out ({ t with past := t.past.set i (sendP p m) }, ⟨m.seq, 0, landV t p m, W (m.cost - landV t p m)⟩, (some ⟨b, 0, none⟩), pc) (.cellA T28 rfl pk (by rfl) (.cellA T43 rfl pk (by rfl) (.tmp rfl .nil))) hg.2 (by rw [hg.1]; first | rfl | (simp only [List.length_set]; rfl)) ?_; (try simp only [List.length_set]); exact gv
 refine Run.skip ?_
 refine sr ?_
 refine sx 5 ?_
 refine RunL.call C139 rfl rfl rfl (ac139 _ _ _ hm2 (by first | exact ht.q | exact hp1) hp1) .nil ?_
 refine RunL.set (congrArg I (show _ = landV t p m by unfold landV; first | rw [if_pos (by assumption)] | rw [if_neg (by assumption)])) ?_
 refine sx 2 ?_
 refine kp [2, 3, 4, 5, 7, 10, 11, 12] rfl ?_
 refine Run.region ?_
 refine sx 4 ?_
 refine RunL.op rfl rfl (OpJ.sub rfl rfl ?_)
 refine sx 2 ?_
 refine kp [2, 3, 4, 5, 7, 10, 11, 12] rfl ?_
 refine sr ?_
 refine sx 7 ?_
 refine RunL.op rfl rfl (OpJ.add rfl rfl ?_)
 refine sx 2 ?_
 refine RunL.op rfl rfl (OpJ.storeO (i := i) (u' := sendP p m) T3 rfl rfl rfl hx (fun _ => rfl) (by decide) rfl up ?_)
 refine kp [2, 4, 5, 7, 11] rfl ?_
 refine Run.seq ?_
 refine regionD HM ?_
 first | refine RunD.takeW 0 rfl rfl kr T28 rfl pk (by rfl) ?_ | refine RunD.takeP 0 rfl rfl kr T28 rfl pk (by simp) ?_ | refine RunD.takeE 0 rfl rfl kr T28 rfl pk (by assumption) (by exact fun _ => rfl) rfl (by decide) ?_
 first | refine RunD.takeW 1 rfl rfl kr T43 rfl pk (by rfl) ?_ | refine RunD.takeP 1 rfl rfl kr T43 rfl pk (by simp) ?_ | refine RunD.takeE 1 rfl rfl kr T43 rfl pk (by assumption) (by exact fun _ => rfl) rfl (by decide) ?_
 refine tk 2 rfl rfl rfl (DetJ.move rfl) ?_
 refine RunD.op 3 [true, true, false] rfl rfl rfl kr kr (OpJ.storeW T28 rfl rfl rfl rfl (by simp [Value.oneCell', Pa.c, Ly.c, Mv.c, Co.c]) up ⟨po, ?_⟩)
 refine RunD.op 4 [true, false] rfl rfl rfl kr kr (OpJ.storeW T43 rfl rfl rfl rfl (by simp [Value.oneCell', Pa.c, Ly.c, Mv.c, Co.c]) up ⟨po, ?_⟩)
 refine tk 5 rfl rfl rfl (DetJ.assign rfl) ?_
 refine kd [4, 5, 6] rfl ?_
 refine Run.ret ?_
 have hg := a5_got (t := t) (m := m) hk hr hq00 hx hp3; refine ret_out ({ t with past := t.past.set i (sendP p m) }, ⟨m.seq, 0, landV t p m, W (m.cost - landV t p m)⟩, (some ⟨b, 0, none⟩), pc) (.cellA T28 rfl pk (by rfl) (.cellA T43 rfl pk (by rfl) (.tmp rfl .nil))) hg.2 (by rw [hg.1]; first | rfl | (simp only [List.length_set]; rfl)) ?_; (try simp only [List.length_set]); exact gv
end
end Go.Proofs.YtdcchollplhioaaGreatDoor

namespace Go.Proofs.YtdcchollplhioaaGreatDoor
open Go Go.SL Go.Proofs
section
attribute [local irreducible] OpJ RunL Run RunD DetJ pt own star Rd RdS
-- accountingref35.Step
theorem ac55 (s : Sk) (m : Mv) (la : Option Addr) (lc : Nat) (pa : Option Addr) (pc : Nat) (RL RP : HP) (hs : s.ok 999999) (hm : m.ok) (hRL : RdS RL la (s.layers.flatMap Ly.c)) (hRP : RdS RP pa (s.past.flatMap Pa.c)) (hsz : (m.item.size : Int) ≤ 9223372036854775807 ∧ (m.lot.size : Int) ≤ 9223372036854775807) (hf0 : s.fine) (hl0 : s.layers = []) : AC Tryz.prog 55 ⟨[.agg ⟨s.c la lc pa pc⟩, .agg ⟨m.c⟩]⟩ (stars [RL, RP]) (Outs (fun _ : Option Addr × Nat × Option Addr × Nat => True) (fun x => StV (aStep s m) x) (fun x => StB 64 66 (aStep s m) x ++ [RL, RP])) := by
 have hn : s.layers.length ≤ 1000000 ∧ s.past.length ≤ 1000000 := ⟨Nat.le_trans hs.nl (by decide), Nat.le_trans hs.np (by decide)⟩
 have hnl := hn.1; have hnp := hn.2
 have hl1 : s.layers.length = 0 := by rw [hl0]; rfl
 refine AC.go Tryz.func55 rfl (Nat.le_of_ble_eq_true rfl) fun β => ?_
 refine sr ?_
 refine RunL.op rfl rfl (OpJ.boxA rfl fun b2 => ?_)
 refine RunL.op rfl rfl (OpJ.boxA rfl fun b3 => ?_)
 refine RunL.op rfl rfl (OpJ.alloc Z28 fun b4 => ?_)
 refine RunL.op rfl rfl (OpJ.alloc Z43 fun b5 => ?_)
 refine asg rfl rfl ?_
 refine kp [2, 3, 4, 5] rfl ?_
 refine sr ?_
 refine sx 1 ?_
 refine RunL.call C91 rfl rfl rfl (ac91 m hsz.1 hsz.2) .nil ?_
 refine asg rfl rfl ?_
 refine kp [2, 3, 4, 5, 7] rfl ?_
 refine Run.seq ?_
 refine sr ?_
 refine sx 2 ?_
 refine kp [2, 3, 4, 5, 7, 13] rfl ?_
 first | refine Run.if rfl (fun h1 => ?_) (fun h1 => ?_) | refine Run.cond rfl (fun h1 => ?_) (fun h1 => ?_)
 refine sr ?_
 refine sx 6 ?_
 refine kp [4, 5, 6] rfl ?_
 refine Run.ret ?_
 have hres2 : aStep s m = .error m.one := (by unfold aStep; rw [if_pos h1]); refine ret_out (none, 0, none, 0) (.cellA T28 rfl pk (by rfl) (.cellA T43 rfl pk (by rfl) (.tmp rfl .nil))) trivial (by rw [hres2]; first | rfl | (simp only [StV, summed, Sk.c, htl]; rfl)) ?_; rw [hres2]; exact gv
 refine Run.skip ?_
 refine Run.seq ?_
 refine sr ?_
 refine sx 3 ?_
 refine RunL.call C96 rfl rfl rfl (ac96 s la lc pa pc RP 0 m.seq hRP hnp) tks ?_
 refine sx 1 ?_
 refine kp [2, 3, 4, 5, 21] rfl ?_
 first | refine Run.if rfl (fun h2 => ?_) (fun h2 => ?_) | refine Run.cond rfl (fun h2 => ?_) (fun h2 => ?_)
 refine sr ?_
 refine sx 5 ?_
 refine kp [4, 5, 6] rfl ?_
 refine Run.ret ?_
 have hres2 : aStep s m = .error 8 := (by unfold aStep; rw [if_neg h1, if_pos (by rw [← idx_some]; simpa using h2)]); refine ret_out (none, 0, none, 0) (.cellA T28 rfl pk (by rfl) (.cellA T43 rfl pk (by rfl) (.tmp rfl .nil))) trivial (by rw [hres2]; first | rfl | (simp only [StV, summed, Sk.c, htl]; rfl)) ?_; rw [hres2]; exact gv
 refine Run.skip ?_
 refine Run.seq ?_
 refine regionD HM ?_
 refine RunD.mono (K' := fun E' L' => ∃ a33 : Option Addr, ∃ c33 : Nat, ∃ b8 : Nat, E' = [(3, .pointer (some ⟨b3, 0, none⟩)), (4, .pointer (some ⟨b4, 0, none⟩)), (5, .pointer (some ⟨b5, 0, none⟩)), (8, .pointer (some ⟨b8, 0, none⟩))] ∧ L' = [pt b8 (blk (SC s none 0 0 a33 s.past.length c33) 28), own 66 7 a33 s.past.length c33 (s.past.flatMap Pa.c), pt b3 (blk m.c 47), pt b4 (blk [I 0, I 0, I 0, .slice none 0 0, .slice none 0 0] 28), pt b5 (blk [I 0, I 0, I 0, I 0] 43), RL, RP]) ?_ ?_
 refine tk 0 rfl rfl rfl (DetJ.fieldAddr F28_0 rfl) ?_
 first | refine RunD.takeF 1 rfl rfl kr T3 rfl pk (by rfl) ?_ | refine RunD.takeO 1 rfl rfl kr T3 rfl pk (by assumption) (by rfl) (by exact fun _ => rfl) ?_
 refine tk 2 rfl rfl rfl (DetJ.fieldAddr F28_1 rfl) ?_
 first | refine RunD.takeF 3 rfl rfl kr T3 rfl pk (by rfl) ?_ | refine RunD.takeO 3 rfl rfl kr T3 rfl pk (by assumption) (by rfl) (by exact fun _ => rfl) ?_
 refine tk 4 rfl rfl rfl (DetJ.fieldAddr F28_2 rfl) ?_
 first | refine RunD.takeF 5 rfl rfl kr T3 rfl pk (by rfl) ?_ | refine RunD.takeO 5 rfl rfl kr T3 rfl pk (by assumption) (by rfl) (by exact fun _ => rfl) ?_
 refine tk 7 rfl rfl rfl (DetJ.fieldAddr F28_4 rfl) ?_
 first | refine RunD.takeF 8 rfl rfl kr T26 rfl pk (by rfl) ?_ | refine RunD.takeO 8 rfl rfl kr T26 rfl pk (by assumption) (by rfl) (by exact fun _ => rfl) ?_
 refine RunD.two 6 11 [true, true, true, true, true, true, true, true] [true, true, true, true, true, true, true, true] rfl rfl rfl rfl rfl rfl kr kr kr (OpJ.buildSlice0 S26 fun b30 => ⟨po, ?_⟩) (OpJ.alloc Z28 fun b8 => ⟨po, ?_⟩)
 refine RunD.two 9 11 [false, false, true, true, true, true, true, true] [true, true, true, true, true, true, true, true] rfl rfl rfl rfl rfl rfl kr kr kr (OpJ.appendL (enc := Pa.c) (R := RP) ([] : List Pa) s.past S26 M66 rfl rfl pk pk hRP rfl (fun _ => rfl) (by decide) Pa.one (by simp; omega) (by simp; omega) fun a33 c33 => ⟨po, ?_⟩) (OpJ.alloc Z28 fun b8 => ⟨po, ?_⟩)
 rw [List.nil_append]
 refine RunD.takeB 10 rfl rfl kr B28 rfl rfl fun cs hcs => ?_
 simp only [Sk.c, Mv.c, Co.c, bldL, bldA, Value.cells, bs, Nat.reduceAdd, Nat.reduceLeDiff, Nat.reduceLT] at hcs; subst hcs
 refine RunD.op 11 [true, true, true, true, true, true, true] rfl rfl rfl kr kr (OpJ.alloc Z28 fun b8 => ⟨po, ?_⟩)
 refine RunD.op 12 [false, false, false, false, false, false, false] rfl rfl rfl kr kr (OpJ.storeW T28 rfl rfl rfl rfl (by simp [Value.oneCell', Pa.c, Ly.c, Mv.c, Co.c]) up ⟨po, ?_⟩)
 exact RunD.weak (E' := [(3, .pointer (some ⟨b3, 0, none⟩)), (4, .pointer (some ⟨b4, 0, none⟩)), (5, .pointer (some ⟨b5, 0, none⟩)), (8, .pointer (some ⟨b8, 0, none⟩))]) (L' := [pt b8 (blk (SC s none 0 0 a33 s.past.length c33) 28), own 66 7 a33 s.past.length c33 (s.past.flatMap Pa.c), pt b3 (blk m.c 47), pt b4 (blk [I 0, I 0, I 0, .slice none 0 0, .slice none 0 0] 28), pt b5 (blk [I 0, I 0, I 0, I 0] 43), RL, RP]) (Keep.sub (kt (ks := [3, 4, 5, 8]) rfl)) gv (RunD.done kr ⟨_, _, _, rfl, rfl⟩)
 refine RunD.op 9 [false, false, true, true, true, true, true, true] rfl rfl rfl kr kr (OpJ.appendL (enc := Pa.c) (R := RP) ([] : List Pa) s.past S26 M66 rfl rfl pk pk hRP rfl (fun _ => rfl) (by decide) Pa.one (by simp; omega) (by simp; omega) fun a33 c33 => ⟨po, ?_⟩)
 rw [List.nil_append]
 refine RunD.takeB 10 rfl rfl kr B28 rfl rfl fun cs hcs => ?_
 simp only [Sk.c, Mv.c, Co.c, bldL, bldA, Value.cells, bs, Nat.reduceAdd, Nat.reduceLeDiff, Nat.reduceLT] at hcs; subst hcs
 refine RunD.op 12 [false, false, false, false, false, false, false] rfl rfl rfl kr kr (OpJ.storeW T28 rfl rfl rfl rfl (by simp [Value.oneCell', Pa.c, Ly.c, Mv.c, Co.c]) up ⟨po, ?_⟩)
 exact RunD.weak (E' := [(3, .pointer (some ⟨b3, 0, none⟩)), (4, .pointer (some ⟨b4, 0, none⟩)), (5, .pointer (some ⟨b5, 0, none⟩)), (8, .pointer (some ⟨b8, 0, none⟩))]) (L' := [pt b8 (blk (SC s none 0 0 a33 s.past.length c33) 28), own 66 7 a33 s.past.length c33 (s.past.flatMap Pa.c), pt b3 (blk m.c 47), pt b4 (blk [I 0, I 0, I 0, .slice none 0 0, .slice none 0 0] 28), pt b5 (blk [I 0, I 0, I 0, I 0] 43), RL, RP]) (Keep.sub (kt (ks := [3, 4, 5, 8]) rfl)) gv (RunD.done kr ⟨_, _, _, rfl, rfl⟩)
 refine RunD.op 6 [true, true, true, true, true, true, true, true] rfl rfl rfl kr kr (OpJ.buildSlice0 S26 fun b30 => ⟨po, ?_⟩)
 refine RunD.op 9 [false, false, true, true, true, true, true, true] rfl rfl rfl kr kr (OpJ.appendL (enc := Pa.c) (R := RP) ([] : List Pa) s.past S26 M66 rfl rfl pk pk hRP rfl (fun _ => rfl) (by decide) Pa.one (by simp; omega) (by simp; omega) fun a33 c33 => ⟨po, ?_⟩)
 rw [List.nil_append]
 refine RunD.takeB 10 rfl rfl kr B28 rfl rfl fun cs hcs => ?_
 simp only [Sk.c, Mv.c, Co.c, bldL, bldA, Value.cells, bs, Nat.reduceAdd, Nat.reduceLeDiff, Nat.reduceLT] at hcs; subst hcs
 refine RunD.op 12 [false, false, false, false, false, false, false] rfl rfl rfl kr kr (OpJ.storeW T28 rfl rfl rfl rfl (by simp [Value.oneCell', Pa.c, Ly.c, Mv.c, Co.c]) up ⟨po, ?_⟩)
 exact RunD.weak (E' := [(3, .pointer (some ⟨b3, 0, none⟩)), (4, .pointer (some ⟨b4, 0, none⟩)), (5, .pointer (some ⟨b5, 0, none⟩)), (8, .pointer (some ⟨b8, 0, none⟩))]) (L' := [pt b8 (blk (SC s none 0 0 a33 s.past.length c33) 28), own 66 7 a33 s.past.length c33 (s.past.flatMap Pa.c), pt b3 (blk m.c 47), pt b4 (blk [I 0, I 0, I 0, .slice none 0 0, .slice none 0 0] 28), pt b5 (blk [I 0, I 0, I 0, I 0] 43), RL, RP]) (Keep.sub (kt (ks := [3, 4, 5, 8]) rfl)) gv (RunD.done kr ⟨_, _, _, rfl, rfl⟩)
 rintro _ _ ⟨a33, c33, b8, rfl, rfl⟩
 refine sr ?_
 refine sx 2 ?_
 refine RunL.callX C97 rfl rfl rfl (ac97 s m none 0 0 a33 c33 hl1.symm hs hm (fun hk => (MG.of (Decidable.not_not.1 h1)).q.1 (.inl hk)) (MG.of (Decidable.not_not.1 h1)).k) tks fun ⟨y1, c1, a9, c9⟩ hgot => ?_
 refine sx 4 ?_
 refine RunL.op rfl rfl (OpJ.alloc Z43 fun b9 => ?_)
 refine sx 3 ?_
 refine kp [4, 5, 7, 8, 9] rfl ?_
 refine Run.seq ?_
 refine sr ?_
 refine mvo rfl rfl ?_
 rcases hres : aDo s m with e | ⟨t, c⟩
 refine sx 1 ?_
 first | refine RunL.set (congrArg Value.bool (decide_eq_true (show errOf (Except.error _) ≠ 0 from aDo_err hres))) ?_ | skip
 refine kp [4, 5, 7, 8, 9, 43] rfl ?_
 refine Run.true rfl ?_
 refine sr ?_
 refine sx 6 ?_
 refine kp [4, 5, 6] rfl ?_
 refine Run.ret ?_
 have hres2 : aStep s m = .error e := (by unfold aStep; rw [if_neg h1, if_neg (by rw [← idx_some]; simp; omega), hres]); refine ret_out (none, 0, none, 0) (.cellA T28 rfl pk (by rfl) (.cellA T43 rfl pk (by rfl) (.tmp rfl .nil))) trivial (by rw [hres2]; first | rfl | (simp only [StV, summed, Sk.c, htl]; rfl)) ?_; rw [hres2]; exact gv
 obtain ⟨rfl, rfl⟩ := hgot t c hres
 have htl : y1.layers = [] := (aDo_layers hres).trans hl0
 refine RunL.ownNilX (enc := Ly.c) 64 4 htl ?_
 refine sx 1 ?_
 first | refine RunL.set (congrArg Value.bool (decide_eq_true (show errOf (Except.error _) ≠ 0 from aDo_err hres))) ?_ | skip
 refine kp [4, 5, 7, 8, 9, 43] rfl ?_
 refine Run.false rfl ?_
 refine Run.skip ?_
 refine sr ?_
 refine sx 4 ?_
 refine RunL.op rfl rfl (OpJ.add rfl rfl ?_)
 refine sx 2 ?_
 refine kp [4, 5, 8, 9] rfl ?_
 refine sr ?_
 refine sx 4 ?_
 refine RunL.op rfl rfl (OpJ.add rfl rfl ?_)
 refine sx 2 ?_
 refine kp [4, 5, 8, 9] rfl ?_
 refine Run.seq ?_
 refine sr ?_
 refine sx 4 ?_
 first | refine RunL.splitP (t := 62) rfl (fun g3 => ?_) (fun g3 => ?_) | refine RunL.split (t := 62) rfl (fun g3 => ?_) (fun g3 => ?_)
 refine sx 9 ?_
 refine kp [4, 5, 8, 9, 71] rfl ?_
 refine Run.true rfl ?_
 refine sr ?_
 refine sx 5 ?_
 refine kp [4, 5, 6] rfl ?_
 refine Run.ret ?_
 have hres2 : aStep s m = .error 4 := (by unfold aStep; rw [if_neg h1, if_neg (by rw [← idx_some]; simp; omega), hres]; exact if_pos (by simp [aOver, summed, *])); refine ret_out (none, 0, none, 0) (.cellA T28 rfl pk (by rfl) (.cellA T43 rfl pk (by rfl) (.tmp rfl .nil))) trivial (by rw [hres2]; first | rfl | (simp only [StV, summed, Sk.c, htl]; rfl)) ?_; rw [hres2]; exact gv
 refine sx 2 ?_
 refine RunL.callG C98 rfl rfl rfl rfl rfl (ac98 _) .nil ?_
 refine sx 2 ?_
 first | refine RunL.splitP (t := 67) rfl (fun g4 => ?_) (fun g4 => ?_) | refine RunL.split (t := 67) rfl (fun g4 => ?_) (fun g4 => ?_)
 refine sx 4 ?_
 refine kp [4, 5, 8, 9, 71] rfl ?_
 refine Run.true rfl ?_
 refine sr ?_
 refine sx 5 ?_
 refine kp [4, 5, 6] rfl ?_
 refine Run.ret ?_
 have hres2 : aStep s m = .error 4 := (by unfold aStep; rw [if_neg h1, if_neg (by rw [← idx_some]; simp; omega), hres]; exact if_pos (by simp [aOver, summed, *])); refine ret_out (none, 0, none, 0) (.cellA T28 rfl pk (by rfl) (.cellA T43 rfl pk (by rfl) (.tmp rfl .nil))) trivial (by rw [hres2]; first | rfl | (simp only [StV, summed, Sk.c, htl]; rfl)) ?_; rw [hres2]; exact gv
 refine sx 2 ?_
 refine RunL.callG C98 rfl rfl rfl rfl rfl (ac98 _) .nil ?_
 refine sx 1 ?_
 refine kp [4, 5, 8, 9, 71] rfl ?_
 first | refine Run.if rfl (fun h5 => ?_) (fun h5 => ?_) | refine Run.cond rfl (fun h5 => ?_) (fun h5 => ?_)
 refine sr ?_
 refine sx 5 ?_
 refine kp [4, 5, 6] rfl ?_
 refine Run.ret ?_
 have hres2 : aStep s m = .error 4 := (by unfold aStep; rw [if_neg h1, if_neg (by rw [← idx_some]; simp; omega), hres]; exact if_pos (by simp [aOver, summed, *])); refine ret_out (none, 0, none, 0) (.cellA T28 rfl pk (by rfl) (.cellA T43 rfl pk (by rfl) (.tmp rfl .nil))) trivial (by rw [hres2]; first | rfl | (simp only [StV, summed, Sk.c, htl]; rfl)) ?_; rw [hres2]; exact gv
 refine Run.skip ?_
 refine Run.seq ?_
 refine regionD HM ?_
 first | refine RunD.takeW 0 rfl rfl kr T28 rfl pk (by rfl) ?_ | refine RunD.takeP 0 rfl rfl kr T28 rfl pk (by simp) ?_ | refine RunD.takeE 0 rfl rfl kr T28 rfl pk (by assumption) (by exact fun _ => rfl) rfl (by decide) ?_
 first | refine RunD.takeW 1 rfl rfl kr T43 rfl pk (by rfl) ?_ | refine RunD.takeP 1 rfl rfl kr T43 rfl pk (by simp) ?_ | refine RunD.takeE 1 rfl rfl kr T43 rfl pk (by assumption) (by exact fun _ => rfl) rfl (by decide) ?_
 refine RunD.op 2 [true, false] rfl rfl rfl kr kr (OpJ.storeW T28 rfl rfl rfl rfl (by simp [Value.oneCell', Pa.c, Ly.c, Mv.c, Co.c]) up ⟨po, ?_⟩)
 refine RunD.op 3 [false] rfl rfl rfl kr kr (OpJ.storeW T43 rfl rfl rfl rfl (by simp [Value.oneCell', Pa.c, Ly.c, Mv.c, Co.c]) up ⟨po, ?_⟩)
 refine tk 4 rfl rfl rfl (DetJ.assign rfl) ?_
 refine kd [4, 5, 6] rfl ?_
 refine Run.ret ?_
 have hres2 : aStep s m = .ok (summed y1 c1, c1) := (by unfold aStep; rw [if_neg h1, if_neg (by rw [← idx_some]; simp; omega), hres]; exact if_neg (by simp [aOver, summed, *] <;> omega)); refine ret_out (none, 0, a9, c9) (.cellA T28 rfl pk (by rfl) (.cellA T43 rfl pk (by rfl) (.tmp rfl .nil))) trivial (by rw [hres2]; first | rfl | (simp only [StV, summed, Sk.c, htl]; rfl)) ?_; rw [hres2]; exact gv
end
end Go.Proofs.YtdcchollplhioaaGreatDoor
