/- Laws of the walks and of the models, part 4 (merged by program). -/
import Derived.Test.YtcpghpifbgpkjaaGreatDoorC3
set_option linter.unusedVariables false
set_option linter.unusedSimpArgs false
set_option maxRecDepth 20000
set_option maxHeartbeats 4000000
namespace Go.Proofs.YtcpghpifbgpkjaaGreatDoor
open Go Go.SL Go.Proofs
section
attribute [local irreducible] OpJ RunL Run RunD DetJ pt own star Rd RdS
theorem ac73 (bx : Nat) (t : Sk) (m : Mv) (la : Option Addr) (nl lc : Nat) (pa : Option Addr) (np pc : Nat) (enp : np = t.past.length) (ht : t.ok 999999) (hm : m.ok) : AC Tryz.prog 127 ⟨[.pointer (some ⟨bx, 0, none⟩), .agg ⟨m.c⟩]⟩ (stars [pt bx (blk (SC t la nl lc pa np pc) 61), own 98 7 pa np pc ((t.past).flatMap Pa.c)]) (Outs (fun _ : Option Addr × Nat => True) (fun _ => .agg ⟨(avC (aRecv t m)).c⟩) (fun x => AvB 61 98 bx la nl lc t (aRecv t m) x)) := by
 subst enp
 have hn : t.past.length ≤ 1000000 := Nat.le_trans ht.np (by decide)
 have hnp := ht.np
 obtain ⟨hm1, hm2⟩ := hm
 refine eo Tryz.func127 fun β => ?_
 refine sr ?_
 refine obx rfl fun b3 => ?_
 refine oal fun b4 => ?_
 refine kq [0, 3, 4] ?_
 refine Run.seq ?_
 refine regionD HM ?_
 refine dx [0, 1, 2, 3, 4, 5, 6, 7, 8, 9, 10, 11, 12, 13, 14, 15] ?_
 refine RunD.op 16 [false, false, false, false, false, false, false, false, false, false, false, true, true, true, true, true] rfl rfl rfl kr kr (OpJ.buildSlice1 S26 rfl rfl rfl (by decide) (by decide) Z66 rfl fun b21 => ⟨po, ?_⟩)
 refine RunD.op 17 [false, false, false, true, true] rfl rfl rfl kr kr (OpJ.append1 (⟨m.seq, m.kind, m.lot, m.qty, m.cost, 0, 0⟩ : Pa) S26 M66 rfl rfl pk pk rfl rfl (by simp [Value.oneCell', Pa.c, Ly.c, Mv.c, Co.c]) rfl (by omega) (by omega) fun a22 c22 => ⟨po, ?_⟩)
 refine dx [18, 19] ?_
 refine RunD.op 20 [false, false, false, false] rfl rfl rfl kr kr (OpJ.store1 T26 rfl rfl rfl up (by simp) ⟨po, ?_⟩)
 refine kd [3, 4] rfl ?_
 refine rg 8 [4] ?_
 refine Run.ret ?_
 have hres : aRecv t m = .ok _ := (by unfold aRecv; rfl); refine ret_out (a22, c22) (.cellA T43 rfl pk (by rfl) .nil) trivial (by rw [hres]; rfl) ?_; rw [hres]; simp only [AvB, List.length_set, List.length_append]; exact gv
theorem ac74 (bx : Nat) (t : Sk) (m : Mv) (la : Option Addr) (nl lc : Nat) (pa : Option Addr) (np pc : Nat) (enp : np = t.past.length) (ht : t.ok 999999) (hm : m.ok) : AC Tryz.prog 128 ⟨[.pointer (some ⟨bx, 0, none⟩), .agg ⟨m.c⟩]⟩ (stars [pt bx (blk (SC t la nl lc pa np pc) 61), own 98 7 pa np pc ((t.past).flatMap Pa.c)]) (Outs (fun _ : Option Addr × Nat => True) (fun _ => AvV (aIssue t m)) (fun x => AvB 61 98 bx la nl lc t (aIssue t m) x)) := by
 subst enp
 have hn : t.past.length ≤ 1000000 := Nat.le_trans ht.np (by decide)
 have hnp := ht.np
 obtain ⟨hm1, hm2⟩ := hm
 refine eo Tryz.func128 fun β => ?_
 refine sr ?_
 refine obx rfl fun b3 => ?_
 refine oal fun b4 => ?_
 refine sx 1 ?_
 refine kq [0, 3, 4] ?_
 refine Run.seq ?_
 refine Run.seq ?_
 refine regionD HM ?_
 refine dx [0, 1, 2, 3, 4, 5, 6] ?_
 refine kd [0, 3, 4, 13] rfl ?_
 refine cnd rfl (fun h1 => ?_) fun h1 => ?_
 refine rg 3 [4, 5] ?_
 refine Run.ret ?_
 have hres : aIssue t m = .error _ := (by unfold aIssue; rw [if_pos h1]); refine ret_out (pa, pc) (.cellA T43 rfl pk (by rfl) (.tmp rfl .nil)) trivial (by rw [hres]; rfl) ?_; rw [hres]; exact gv
 refine Run.skip ?_
 refine Run.seq ?_
 refine regionD HM ?_
 refine dx [0, 1, 2, 3, 4, 5, 6, 7, 8, 9] ?_
 refine RunD.op 10 [false, false, false, true, false, false, false, false, false, true] rfl rfl rfl kr kr (OpJ.callRet C113 rfl rfl (ac113 _ _ _ ht.v hm1 ht.q) .nil ⟨po, ?_⟩)
 refine dx [11] ?_
 refine kd [0, 3, 4, 6] rfl ?_
 refine Run.seq ?_
 refine regionD HM ?_
 refine dx [0, 1, 2, 3, 4, 5, 6, 7, 8, 9, 10, 11, 12, 13, 14] ?_
 refine RunD.op 15 [false, false, false, false, false, false, false, false, false, false, true, true, true, true, true] rfl rfl rfl kr kr (OpJ.buildSlice1 S26 rfl rfl rfl (by decide) (by decide) Z66 rfl fun b41 => ⟨po, ?_⟩)
 refine RunD.op 16 [false, false, false, true, true] rfl rfl rfl kr kr (OpJ.append1 (⟨m.seq, m.kind, m.lot, m.qty, avgV t m, 0, 0⟩ : Pa) S26 M66 rfl rfl pk pk rfl rfl (by simp [Value.oneCell', Pa.c, Ly.c, Mv.c, Co.c]) rfl (by omega) (by omega) fun a42 c42 => ⟨po, ?_⟩)
 refine dx [17, 18] ?_
 refine RunD.op 19 [false, false, false, false] rfl rfl rfl kr kr (OpJ.store1 T26 rfl rfl rfl up (by simp) ⟨po, ?_⟩)
 refine kd [3, 4, 6] rfl ?_
 refine rg 10 [4, 5] ?_
 refine Run.ret ?_
 have hres : aIssue t m = .ok _ := (by unfold aIssue; rw [if_neg h1]); refine ret_out (a42, c42) (.cellA T43 rfl pk (by rfl) (.tmp rfl .nil)) trivial (by rw [hres]; rfl) ?_; rw [hres]; simp only [AvB, List.length_set, List.length_append]; exact gv
theorem ac75 (bx : Nat) (t : Sk) (m : Mv) (la : Option Addr) (nl lc : Nat) (pa : Option Addr) (np pc : Nat) (enp : np = t.past.length) (ht : t.ok 999999) (hm : m.ok) : AC Tryz.prog 129 ⟨[.pointer (some ⟨bx, 0, none⟩), .agg ⟨m.c⟩]⟩ (stars [pt bx (blk (SC t la nl lc pa np pc) 61), own 98 7 pa np pc ((t.past).flatMap Pa.c)]) (Outs (fun _ : Option Addr × Nat => True) (fun _ => AvV (aBack t m)) (fun x => AvB 61 98 bx la nl lc t (aBack t m) x)) := by
 subst enp
 have hn : t.past.length ≤ 1000000 := Nat.le_trans ht.np (by decide)
 have hnp := ht.np
 obtain ⟨hm1, hm2⟩ := hm
 refine eo Tryz.func129 fun β => ?_
 refine sr ?_
 refine obx rfl fun b3 => ?_
 refine oal fun b4 => ?_
 refine sx 1 ?_
 refine kq [0, 3, 4] ?_
 refine sr ?_
 refine sx 2 ?_
 refine RunL.call C114 rfl rfl rfl (ac114 bx t m la nl lc pa _ pc _ rfl (by decide) hn) tks ?_
 refine sx 5 ?_
 refine kq [0, 3, 4, 5, 6] ?_
 refine Run.seq ?_
 refine rg 2 [0, 3, 4, 5, 6, 16] ?_
 refine cnd rfl (fun h1 => ?_) fun h1 => ?_
 refine sr ?_
 obtain ⟨e, he⟩ := errOf_ne h1
 refine sx 4 ?_
 refine kq [4, 5] ?_
 refine Run.ret ?_
 have hres : aBack t m = .error e := (by unfold aBack; rw [he]); rw [he]; refine ret_out (pa, pc) (.cellA T43 rfl pk (by rfl) (.tmp rfl .nil)) trivial (by rw [hres]; rfl) ?_; rw [hres]; exact gv
 refine Run.skip ?_
 refine sr ?_
 obtain ⟨i, p, hr, hx⟩ := refd_ok (Decidable.not_not.1 h1)
 rw [hr]
 have hi := (List.getElem?_eq_some_iff.1 hx).1
 obtain ⟨hp1, hp2, hp3, hp4⟩ := ht.pa i p hx
 refine RunL.ownAddr pk (flat_ne (k := 7) (fun _ => rfl) (by decide) hx) fun b e hcap => ?_
 subst e
 simp only [okIdx]
 refine sx 7 ?_
 refine kq [3, 4, 7] ?_
 refine Run.seq ?_
 refine regionD HM ?_
 refine dx [0, 1, 2, 3, 4, 5, 6, 7] ?_
 refine tk 8 rfl rfl rfl (DetJ.sub rfl rfl) ?_
 refine dx [9, 10, 11, 12, 13, 14, 15, 16, 17, 18] ?_
 refine tk 19 rfl rfl rfl (DetJ.sub rfl rfl) ?_
 refine RunD.op 20 [false, false, false, true, true, false, false, true, true, false, false, false, false, false, true, true, false, false, true, true] rfl rfl rfl kr kr (OpJ.callRet C113 rfl rfl (ac113 _ _ _ (W_i64 _) hm1 (W_i64 _)) .nil ⟨po, ?_⟩)
 refine dx [21] ?_
 refine kd [3, 4, 7, 8] rfl ?_
 refine Run.seq ?_
 refine regionD HM ?_
 refine dx [0, 1, 2, 3, 4, 5] ?_
 refine tk 6 rfl rfl rfl (DetJ.add rfl rfl) ?_
 refine dx [7, 8] ?_
 refine RunD.op 9 [false, false, false, false, false, false, false, false, false] rfl rfl rfl kr kr (OpJ.storeO (i := i) (u' := sendP p m) T3 rfl rfl rfl hx (fun _ => rfl) (by decide) rfl up ⟨po, ?_⟩)
 refine kd [3, 4, 7, 8] rfl ?_
 refine sr ?_
 have hx1 := set_get hx (sendP p m)
 refine sx 5 ?_
 refine RunL.op rfl rfl (OpJ.add rfl rfl ?_)
 refine sx 2 ?_
 refine RunL.op rfl rfl (OpJ.storeO (i := i) (u' := backP p m) T3 rfl rfl rfl hx1 (fun _ => rfl) (by decide) rfl up ?_)
 rw [List.set_set]
 refine kq [3, 4, 8] ?_
 refine rg 8 [4, 5] ?_
 refine Run.ret ?_
 have hres : aBack t m = .ok _ := (by unfold aBack; rw [hr]); refine ret_out ((some ⟨b, 0, none⟩), pc) (.cellA T43 rfl pk (by rfl) (.tmp rfl .nil)) trivial (by rw [hres]; rfl) ?_; rw [hres]; simp only [AvB, List.length_set, List.length_append]; exact gv
theorem ac76 (bx : Nat) (t : Sk) (m : Mv) (la : Option Addr) (nl lc : Nat) (pa : Option Addr) (np pc : Nat) (enp : np = t.past.length) (ht : t.ok 999999) (hm : m.ok) : AC Tryz.prog 130 ⟨[.pointer (some ⟨bx, 0, none⟩), .agg ⟨m.c⟩]⟩ (stars [pt bx (blk (SC t la nl lc pa np pc) 61), own 98 7 pa np pc ((t.past).flatMap Pa.c)]) (Outs (fun _ : Option Addr × Nat => True) (fun _ => AvV (aSend t m)) (fun x => AvB 61 98 bx la nl lc t (aSend t m) x)) := by
 subst enp
 have hn : t.past.length ≤ 1000000 := Nat.le_trans ht.np (by decide)
 have hnp := ht.np
 obtain ⟨hm1, hm2⟩ := hm
 refine eo Tryz.func130 fun β => ?_
 refine sr ?_
 refine obx rfl fun b3 => ?_
 refine oal fun b4 => ?_
 refine sx 1 ?_
 refine kq [0, 3, 4] ?_
 refine sr ?_
 refine sx 2 ?_
 refine RunL.call C114 rfl rfl rfl (ac114 bx t m la nl lc pa _ pc _ rfl (by decide) hn) tks ?_
 refine sx 5 ?_
 refine kq [0, 3, 4, 5, 6] ?_
 refine Run.seq ?_
 refine rg 2 [0, 3, 4, 5, 6, 15] ?_
 refine cnd rfl (fun h1 => ?_) fun h1 => ?_
 refine sr ?_
 obtain ⟨e, he⟩ := errOf_ne h1
 refine sx 4 ?_
 refine kq [4, 5] ?_
 refine Run.ret ?_
 have hres : aSend t m = .error e := (by unfold aSend; rw [he]); rw [he]; refine ret_out (pa, pc) (.cellA T43 rfl pk (by rfl) (.tmp rfl .nil)) trivial (by rw [hres]; rfl) ?_; rw [hres]; exact gv
 refine Run.skip ?_
 refine Run.seq ?_
 refine Run.seq ?_
 refine regionD HM ?_
 obtain ⟨i, p, hr, hx⟩ := refd_ok (Decidable.not_not.1 h1)
 rw [hr]
 have hi := (List.getElem?_eq_some_iff.1 hx).1
 obtain ⟨hp1, hp2, hp3, hp4⟩ := ht.pa i p hx
 refine RunD.ownAddr pk (flat_ne (k := 7) (fun _ => rfl) (by decide) hx) fun b e hcap => ?_
 subst e
 simp only [okIdx]
 refine dx [0, 1, 2, 3, 4, 5, 6] ?_
 refine kd [0, 3, 4, 6, 24] rfl ?_
 refine cnd rfl (fun h2 => ?_) fun h2 => ?_
 refine rg 3 [4, 5] ?_
 refine Run.ret ?_
 have hres : aSend t m = .error _ := (by unfold aSend; rw [hr]; simp only; rw [if_pos (by assumption)]); refine ret_out ((some ⟨b, 0, none⟩), pc) (.cellA T43 rfl pk (by rfl) (.tmp rfl .nil)) trivial (by rw [hres]; rfl) ?_; rw [hres]; exact gv
 refine Run.skip ?_
 refine Run.seq ?_
 refine regionD HM ?_
 refine dx [0, 1, 2, 3, 4, 5, 6, 7, 8, 9] ?_
 refine RunD.op 10 [false, false, false, true, false, false, false, false, false, true] rfl rfl rfl kr kr (OpJ.callRet C113 rfl rfl (ac113 _ _ _ ht.v hm1 ht.q) .nil ⟨po, ?_⟩)
 refine dx [11] ?_
 refine kd [0, 3, 4, 6, 7] rfl ?_
 refine Run.seq ?_
 refine regionD HM ?_
 refine dx [0, 1, 2, 3, 4, 5, 6, 7, 8, 9] ?_
 refine tk 10 rfl rfl rfl (DetJ.add rfl rfl) ?_
 refine dx [11, 12] ?_
 refine RunD.op 13 [false, false, false, false, false, false, false, false, false, false, false, false, false] rfl rfl rfl kr kr (OpJ.storeO (i := i) (u' := sendP p m) T3 rfl rfl rfl hx (fun _ => rfl) (by decide) rfl up ⟨po, ?_⟩)
 refine kd [3, 4, 7] rfl ?_
 refine sr ?_
 refine sx 10 ?_
 refine RunL.op rfl rfl (OpJ.sub rfl rfl ?_)
 refine sx 3 ?_
 refine kq [4, 5] ?_
 refine Run.ret ?_
 have hres : aSend t m = .ok _ := (by unfold aSend; rw [hr]; simp only; rw [if_neg (by assumption)]); refine ret_out ((some ⟨b, 0, none⟩), pc) (.cellA T43 rfl pk (by rfl) (.tmp rfl .nil)) trivial (by rw [hres]; rfl) ?_; rw [hres]; simp only [AvB, List.length_set, List.length_append]; exact gv
theorem ac77 (bx : Nat) (t : Sk) (m : Mv) (la : Option Addr) (nl lc : Nat) (pa : Option Addr) (np pc : Nat) (enp : np = t.past.length) (ht : t.ok 999999) (hm : m.ok) : AC Tryz.prog 131 ⟨[.pointer (some ⟨bx, 0, none⟩), .agg ⟨m.c⟩]⟩ (stars [pt bx (blk (SC t la nl lc pa np pc) 61), own 98 7 pa np pc ((t.past).flatMap Pa.c)]) (Outs (fun _ : Option Addr × Nat => True) (fun _ => AvV (aLand t m)) (fun x => AvB 61 98 bx la nl lc t (aLand t m) x)) := by
 subst enp
 have hn : t.past.length ≤ 1000000 := Nat.le_trans ht.np (by decide)
 have hnp := ht.np
 obtain ⟨hm1, hm2⟩ := hm
 refine eo Tryz.func131 fun β => ?_
 refine sr ?_
 refine obx rfl fun b3 => ?_
 refine oal fun b4 => ?_
 refine sx 1 ?_
 refine kq [0, 3, 4] ?_
 refine sr ?_
 refine sx 2 ?_
 refine RunL.call C114 rfl rfl rfl (ac114 bx t m la nl lc pa _ pc _ rfl (by decide) hn) tks ?_
 refine sx 5 ?_
 refine kq [0, 3, 4, 5, 6] ?_
 refine Run.seq ?_
 refine rg 2 [0, 3, 4, 5, 6, 16] ?_
 refine cnd rfl (fun h1 => ?_) fun h1 => ?_
 refine sr ?_
 obtain ⟨e, he⟩ := errOf_ne h1
 refine sx 4 ?_
 refine kq [4, 5] ?_
 refine Run.ret ?_
 have hres : aLand t m = .error e := (by unfold aLand; rw [he]); rw [he]; refine ret_out (pa, pc) (.cellA T43 rfl pk (by rfl) (.tmp rfl .nil)) trivial (by rw [hres]; rfl) ?_; rw [hres]; exact gv
 refine Run.skip ?_
 refine sr ?_
 obtain ⟨i, p, hr, hx⟩ := refd_ok (Decidable.not_not.1 h1)
 rw [hr]
 have hi := (List.getElem?_eq_some_iff.1 hx).1
 obtain ⟨hp1, hp2, hp3, hp4⟩ := ht.pa i p hx
 refine RunL.ownAddr pk (flat_ne (k := 7) (fun _ => rfl) (by decide) hx) fun b e hcap => ?_
 subst e
 simp only [okIdx]
 have hmn : i64 (if t.qty < p.qty then t.qty else p.qty) := by
   split
   · exact ht.q
   · exact hp1
 refine sx 9 ?_
 refine kq [0, 3, 4, 7] ?_
 refine Run.seq ?_
 refine regionD HM ?_
 refine dx [0, 1, 2, 3, 4, 5, 6, 7, 8] ?_
 refine RunD.op 9 [false, false, false, false, true, true, false, false, false] rfl rfl rfl kr kr (OpJ.callRet C113 rfl rfl (ac113 _ _ _ hm2 hmn hp1) .nil ⟨po, ?_⟩)
 refine dx [10] ?_
 refine kd [3, 4, 8] rfl ?_
 refine sr ?_
 refine sx 6 ?_
 refine RunL.op rfl rfl (OpJ.sub rfl rfl ?_)
 refine sx 3 ?_
 refine kq [4, 5] ?_
 refine Run.ret ?_
 have hres : aLand t m = .ok _ := (by unfold aLand; rw [hr]); refine ret_out ((some ⟨b, 0, none⟩), pc) (.cellA T43 rfl pk (by rfl) (.tmp rfl .nil)) trivial (by rw [hres]; rfl) ?_; rw [hres]; simp only [AvB, List.length_set, List.length_append]; exact gv
end
end Go.Proofs.YtcpghpifbgpkjaaGreatDoor

namespace Go.Proofs.YtcpghpifbgpkjaaGreatDoor
open Go Go.SL Go.Proofs
theorem aca73 (bx : Nat) (t : Sk) (m : Mv) (la : Option Addr) (nl lc : Nat) (pa : Option Addr) (np pc : Nat) (enp : np = t.past.length) (ht : t.ok 999999) (hm : m.ok) (hk : m.kind = 1) : AC Tryz.prog 127 ⟨[.pointer (some ⟨bx, 0, none⟩), .agg ⟨m.c⟩]⟩ (stars [pt bx (blk (SC t la nl lc pa np pc) 61), own 98 7 pa np pc ((t.past).flatMap Pa.c)]) (Outs (fun _ : Option Addr × Nat => True) (fun _ => .agg ⟨(avC (aDo t m)).c⟩) (fun x => AvB 61 98 bx la nl lc t (aDo t m) x)) := by
  rw [aDo_1 hk]; exact ac73 bx t m la nl lc pa np pc enp ht hm
theorem aca74 (bx : Nat) (t : Sk) (m : Mv) (la : Option Addr) (nl lc : Nat) (pa : Option Addr) (np pc : Nat) (enp : np = t.past.length) (ht : t.ok 999999) (hm : m.ok) (hk : m.kind = 2) : AC Tryz.prog 128 ⟨[.pointer (some ⟨bx, 0, none⟩), .agg ⟨m.c⟩]⟩ (stars [pt bx (blk (SC t la nl lc pa np pc) 61), own 98 7 pa np pc ((t.past).flatMap Pa.c)]) (Outs (fun _ : Option Addr × Nat => True) (fun _ => AvV (aDo t m)) (fun x => AvB 61 98 bx la nl lc t (aDo t m) x)) := by
  rw [aDo_2 hk]; exact ac74 bx t m la nl lc pa np pc enp ht hm
theorem aca75 (bx : Nat) (t : Sk) (m : Mv) (la : Option Addr) (nl lc : Nat) (pa : Option Addr) (np pc : Nat) (enp : np = t.past.length) (ht : t.ok 999999) (hm : m.ok) (hk : m.kind = 3) : AC Tryz.prog 129 ⟨[.pointer (some ⟨bx, 0, none⟩), .agg ⟨m.c⟩]⟩ (stars [pt bx (blk (SC t la nl lc pa np pc) 61), own 98 7 pa np pc ((t.past).flatMap Pa.c)]) (Outs (fun _ : Option Addr × Nat => True) (fun _ => AvV (aDo t m)) (fun x => AvB 61 98 bx la nl lc t (aDo t m) x)) := by
  rw [aDo_3 hk]; exact ac75 bx t m la nl lc pa np pc enp ht hm
theorem aca76 (bx : Nat) (t : Sk) (m : Mv) (la : Option Addr) (nl lc : Nat) (pa : Option Addr) (np pc : Nat) (enp : np = t.past.length) (ht : t.ok 999999) (hm : m.ok) (hk : m.kind = 4) : AC Tryz.prog 130 ⟨[.pointer (some ⟨bx, 0, none⟩), .agg ⟨m.c⟩]⟩ (stars [pt bx (blk (SC t la nl lc pa np pc) 61), own 98 7 pa np pc ((t.past).flatMap Pa.c)]) (Outs (fun _ : Option Addr × Nat => True) (fun _ => AvV (aDo t m)) (fun x => AvB 61 98 bx la nl lc t (aDo t m) x)) := by
  rw [aDo_4 hk]; exact ac76 bx t m la nl lc pa np pc enp ht hm
theorem aca77 (bx : Nat) (t : Sk) (m : Mv) (la : Option Addr) (nl lc : Nat) (pa : Option Addr) (np pc : Nat) (enp : np = t.past.length) (ht : t.ok 999999) (hm : m.ok) (hk : m.kind = 5) : AC Tryz.prog 131 ⟨[.pointer (some ⟨bx, 0, none⟩), .agg ⟨m.c⟩]⟩ (stars [pt bx (blk (SC t la nl lc pa np pc) 61), own 98 7 pa np pc ((t.past).flatMap Pa.c)]) (Outs (fun _ : Option Addr × Nat => True) (fun _ => AvV (aDo t m)) (fun x => AvB 61 98 bx la nl lc t (aDo t m) x)) := by
  rw [aDo_5 hk]; exact ac77 bx t m la nl lc pa np pc enp ht hm
section
attribute [local irreducible] OpJ RunL Run RunD DetJ pt own star Rd RdS
theorem ac42 (bx : Nat) (t : Sk) (m : Mv) (la : Option Addr) (nl lc : Nat) (pa : Option Addr) (np pc : Nat) (enp : np = t.past.length) (ht : t.ok 999999) (hm : m.ok) : AC Tryz.prog 99 ⟨[.pointer (some ⟨bx, 0, none⟩), .agg ⟨m.c⟩]⟩ (stars [pt bx (blk (SC t la nl lc pa np pc) 61), own 98 7 pa np pc ((t.past).flatMap Pa.c)]) (Outs (fun _ : Option Addr × Nat => True) (fun _ => AvV (aDo t m)) (fun x => AvB 61 98 bx la nl lc t (aDo t m) x)) := by
 subst enp
 have hn : t.past.length ≤ 1000000 := Nat.le_trans ht.np (by decide)
 have hnp := ht.np
 obtain ⟨hm1, hm2⟩ := hm
 refine eo Tryz.func99 fun β => ?_
 refine sr ?_
 refine obx rfl fun b3 => ?_
 refine oal fun b4 => ?_
 refine sx 1 ?_
 refine kq [0, 3, 4] ?_
 refine Run.seq ?_
 refine rg 2 [0, 3, 4, 7] ?_
 refine Run.block ?_
 refine rg 2 [0, 3, 4, 7, 8] ?_
 refine cnd rfl (fun h1 => ?_) fun h1 => ?_
 refine sr ?_
 refine sx 2 ?_
 refine RunL.callX C73 rfl rfl rfl (aca73 bx t m la nl lc pa _ pc rfl ht ⟨hm1, hm2⟩ (by assumption)) tks fun x _ => ?_
 rcases hres : aDo t m with e | ⟨t2, c2⟩
 rw [aDo_1 (by assumption)] at hres; cases hres
 refine sx 2 ?_
 refine kq [4, 5] ?_
 refine Run.ret ?_
 refine ret_out x (.cellA T43 rfl pk (by rfl) (.tmp rfl .nil)) trivial (by first | rfl | (rw [hres]; rfl)) ?_; first | exact gv | (rw [hres]; exact gv)
 refine rg 2 [0, 3, 4, 7, 13] ?_
 refine cnd rfl (fun h2 => ?_) fun h2 => ?_
 refine sr ?_
 refine sx 2 ?_
 refine RunL.callX C74 rfl rfl rfl (aca74 bx t m la nl lc pa _ pc rfl ht ⟨hm1, hm2⟩ (by assumption)) tks fun x _ => ?_
 rcases hres : aDo t m with e | ⟨t2, c2⟩
 refine sx 4 ?_
 refine kq [4, 5] ?_
 refine Run.ret ?_
 refine ret_out x (.cellA T43 rfl pk (by rfl) (.tmp rfl .nil)) trivial (by first | rfl | (rw [hres]; rfl)) ?_; first | exact gv | (rw [hres]; exact gv)
 refine sx 4 ?_
 refine kq [4, 5] ?_
 refine Run.ret ?_
 refine ret_out x (.cellA T43 rfl pk (by rfl) (.tmp rfl .nil)) trivial (by first | rfl | (rw [hres]; rfl)) ?_; first | exact gv | (rw [hres]; exact gv)
 refine rg 2 [0, 3, 4, 7, 20] ?_
 refine cnd rfl (fun h3 => ?_) fun h3 => ?_
 refine sr ?_
 refine sx 2 ?_
 refine RunL.callX C75 rfl rfl rfl (aca75 bx t m la nl lc pa _ pc rfl ht ⟨hm1, hm2⟩ (by assumption)) tks fun x _ => ?_
 rcases hres : aDo t m with e | ⟨t2, c2⟩
 refine sx 4 ?_
 refine kq [4, 5] ?_
 refine Run.ret ?_
 refine ret_out x (.cellA T43 rfl pk (by rfl) (.tmp rfl .nil)) trivial (by first | rfl | (rw [hres]; rfl)) ?_; first | exact gv | (rw [hres]; exact gv)
 refine sx 4 ?_
 refine kq [4, 5] ?_
 refine Run.ret ?_
 refine ret_out x (.cellA T43 rfl pk (by rfl) (.tmp rfl .nil)) trivial (by first | rfl | (rw [hres]; rfl)) ?_; first | exact gv | (rw [hres]; exact gv)
 refine rg 2 [0, 3, 4, 7, 27] ?_
 refine cnd rfl (fun h4 => ?_) fun h4 => ?_
 refine sr ?_
 refine sx 2 ?_
 refine RunL.callX C76 rfl rfl rfl (aca76 bx t m la nl lc pa _ pc rfl ht ⟨hm1, hm2⟩ (by assumption)) tks fun x _ => ?_
 rcases hres : aDo t m with e | ⟨t2, c2⟩
 refine sx 4 ?_
 refine kq [4, 5] ?_
 refine Run.ret ?_
 refine ret_out x (.cellA T43 rfl pk (by rfl) (.tmp rfl .nil)) trivial (by first | rfl | (rw [hres]; rfl)) ?_; first | exact gv | (rw [hres]; exact gv)
 refine sx 4 ?_
 refine kq [4, 5] ?_
 refine Run.ret ?_
 refine ret_out x (.cellA T43 rfl pk (by rfl) (.tmp rfl .nil)) trivial (by first | rfl | (rw [hres]; rfl)) ?_; first | exact gv | (rw [hres]; exact gv)
 refine rg 2 [0, 3, 4, 34] ?_
 refine cnd rfl (fun h5 => ?_) fun h5 => ?_
 refine sr ?_
 refine sx 2 ?_
 refine RunL.callX C77 rfl rfl rfl (aca77 bx t m la nl lc pa _ pc rfl ht ⟨hm1, hm2⟩ (by assumption)) tks fun x _ => ?_
 rcases hres : aDo t m with e | ⟨t2, c2⟩
 refine sx 4 ?_
 refine kq [4, 5] ?_
 refine Run.ret ?_
 refine ret_out x (.cellA T43 rfl pk (by rfl) (.tmp rfl .nil)) trivial (by first | rfl | (rw [hres]; rfl)) ?_; first | exact gv | (rw [hres]; exact gv)
 refine sx 4 ?_
 refine kq [4, 5] ?_
 refine Run.ret ?_
 refine ret_out x (.cellA T43 rfl pk (by rfl) (.tmp rfl .nil)) trivial (by first | rfl | (rw [hres]; rfl)) ?_; first | exact gv | (rw [hres]; exact gv)
 refine Run.skip ?_
 refine rg 3 [4, 5] ?_
 refine Run.ret ?_
 have hres := aDo_0 (t := t) (m := m) (by refine ⟨?_, ?_, ?_, ?_, ?_⟩ <;> assumption); refine ret_out (pa, pc) (.cellA T43 rfl pk (by rfl) (.tmp rfl .nil)) trivial (by rw [hres]; rfl) ?_; rw [hres]; exact gv
theorem ac21 (s : Sk) (m : Mv) (la : Option Addr) (lc : Nat) (pa : Option Addr) (pc : Nat) (RL RP : HP) (hs : s.ok 999999) (hm : m.ok) (hRL : RdS RL la (s.layers.flatMap Ly.c)) (hRP : RdS RP pa (s.past.flatMap Pa.c)) (R0 : HP) (hR0 : Rd R0 ⟨0, 0, none⟩ lensC) : AC Tryz.prog 73 ⟨[.agg ⟨s.c la lc pa pc⟩, .agg ⟨m.c⟩]⟩ (stars [RL, RP, R0]) (Outs (fun _ : Option Addr × Nat × Option Addr × Nat => True) (fun x => StV (aStep s m) x) (fun x => StB 96 98 (aStep s m) x ++ [RL, RP, R0])) := by
 have hn : s.layers.length ≤ 1000000 ∧ s.past.length ≤ 1000000 := ⟨Nat.le_trans hs.nl (by decide), Nat.le_trans hs.np (by decide)⟩
 have hnl := hn.1; have hnp := hn.2
 refine eo Tryz.func73 fun β => ?_
 refine sr ?_
 refine obx rfl fun b2 => ?_
 refine obx rfl fun b3 => ?_
 refine oal fun b4 => ?_
 refine oal fun b5 => ?_
 refine sx 1 ?_
 refine kq [2, 3, 4, 5] ?_
 refine Run.seq ?_
 refine sr ?_
 refine sx 1 ?_
 refine RunL.call C30 rfl rfl rfl (ac30 _ _ hR0) tks ?_
 refine sx 1 ?_
 refine kq [2, 3, 4, 5, 7] ?_
 refine rg 2 [2, 3, 4, 5, 7, 11] ?_
 refine cnd rfl (fun h1 => ?_) fun h1 => ?_
 refine rg 6 [4, 5, 6] ?_
 refine Run.ret ?_
 have hres2 : aStep s m = .error m.one := (by unfold aStep; rw [if_pos h1]); refine ret_out (none, 0, none, 0) (.cellA T28 rfl pk (by rfl) (.cellA T43 rfl pk (by rfl) (.tmp rfl .nil))) trivial (by rw [hres2]; rfl) ?_; rw [hres2]; exact gv
 refine Run.skip ?_
 refine Run.seq ?_
 refine sr ?_
 refine sx 3 ?_
 refine RunL.call C39 rfl rfl rfl (ac39 RP (pt b3 (blk m.c 35)) 97 [.pointer (some ⟨b3, 0, none⟩)] (isPast 0 m.seq) pa pc s.past hRP hnp C40 (fun p => ac40 b3 m p)) tks ?_
 refine sx 1 ?_
 refine kq [2, 3, 4, 5, 19] ?_
 refine cnd rfl (fun h2 => ?_) fun h2 => ?_
 refine rg 5 [4, 5, 6] ?_
 refine Run.ret ?_
 have hres2 : aStep s m = .error 8 := (by unfold aStep; rw [if_neg h1, if_pos (by rw [← idx_some]; exact decide_eq_true (by assumption))]); refine ret_out (none, 0, none, 0) (.cellA T28 rfl pk (by rfl) (.cellA T43 rfl pk (by rfl) (.tmp rfl .nil))) trivial (by rw [hres2]; rfl) ?_; rw [hres2]; exact gv
 refine Run.skip ?_
 refine sr ?_
 refine sx 1 ?_
 refine RunL.callX C41 rfl rfl rfl (ac41 s la lc pa pc RL RP hn hRL hRP) tks fun ⟨l2, c2, bp⟩ _ => ?_
 refine sx 1 ?_
 refine kq [3, 4, 5] ?_
 refine sr ?_
 refine sx 1 ?_
 refine RunL.callX C42 rfl rfl rfl (ac42 b4 s m l2 _ c2 _ _ _ rfl hs hm) tks fun ⟨pa2, pc2⟩ _ => ?_
 rcases hres : aDo s m with e | ⟨t, c⟩
 refine sx 5 ?_
 refine kq [4, 5, 6] ?_
 refine Run.seq ?_
 refine sr ?_
 refine sx 2 ?_
 first | refine RunL.set (congrArg Value.bool (decide_eq_true (show errOf (Except.error _) ≠ 0 from aDo_err hres))) ?_ | skip
 refine kq [4, 5, 6, 30] ?_
 refine Run.true rfl ?_
 refine rg 6 [4, 5, 6] ?_
 refine Run.ret ?_
 have hres2 : aStep s m = .error e := (by unfold aStep; rw [if_neg h1, if_neg (by rw [← idx_some]; simp only [*]; decide), hres]); refine ret_out (none, 0, none, 0) (.cellA T28 rfl pk (by rfl) (.cellA T43 rfl pk (by rfl) (.tmp rfl .nil))) trivial (by rw [hres2]; rfl) ?_; rw [hres2]; exact gv
 have hly := aDo_layers hres
 rw [← hly]
 refine sx 5 ?_
 refine kq [4, 5, 6] ?_
 refine Run.seq ?_
 refine sr ?_
 refine sx 2 ?_
 first | refine RunL.set (congrArg Value.bool (decide_eq_true (show errOf (Except.error _) ≠ 0 from aDo_err hres))) ?_ | skip
 refine kq [4, 5, 6, 30] ?_
 refine Run.false rfl ?_
 refine Run.skip ?_
 refine sr ?_
 refine sx 4 ?_
 refine RunL.op rfl rfl (OpJ.add rfl rfl ?_)
 refine sx 2 ?_
 refine kq [4, 5] ?_
 refine sr ?_
 refine sx 4 ?_
 refine RunL.op rfl rfl (OpJ.add rfl rfl ?_)
 refine sx 2 ?_
 refine kq [4, 5] ?_
 refine Run.seq ?_
 refine sr ?_
 refine RunL.cut (t := 58) (v := Bo (aOver (summed t c) c)) (kt (ks := [4, 5]) rfl) ?_ ?_
 refine sx 4 ?_
 refine spl 49 rfl (fun g3 => ?_) fun g3 => ?_
 refine sx 9 ?_
 exact RunL.nil ⟨.cons (by first | rfl | (show some (Value.bool _) = some (Value.bool _); (simp only [avC] at *; simp [aOver, summed, *]; done)) | (show some (Value.bool _) = some (Value.bool _); simp_all)) (kt (ks := [4, 5]) rfl), rfl⟩
 refine sx 2 ?_
 refine RunL.callG C43 rfl rfl rfl rfl rfl (ac43 _) .nil ?_
 refine sx 2 ?_
 refine spl 54 rfl (fun g4 => ?_) fun g4 => ?_
 refine sx 4 ?_
 exact RunL.nil ⟨.cons (by first | rfl | (show some (Value.bool _) = some (Value.bool _); (simp only [avC] at *; simp [aOver, summed, *]; done)) | (show some (Value.bool _) = some (Value.bool _); simp_all)) (kt (ks := [4, 5]) rfl), rfl⟩
 refine sx 2 ?_
 refine RunL.callG C43 rfl rfl rfl rfl rfl (ac43 _) .nil ?_
 refine sx 1 ?_
 exact RunL.nil ⟨.cons (by first | rfl | (show some (Value.bool _) = some (Value.bool _); (simp only [avC] at *; simp [aOver, summed, *]; done)) | (show some (Value.bool _) = some (Value.bool _); simp_all)) (kt (ks := [4, 5]) rfl), rfl⟩
 refine cnd rfl (fun h5 => ?_) fun h5 => ?_
 refine rg 5 [4, 5, 6] ?_
 refine Run.ret ?_
 have hres2 : aStep s m = .error 4 := (by unfold aStep; rw [if_neg h1, if_neg (by rw [← idx_some]; simp only [*]; decide), hres]; exact if_pos (by assumption)); refine ret_out (none, 0, none, 0) (.cellA T28 rfl pk (by rfl) (.cellA T43 rfl pk (by rfl) (.tmp rfl .nil))) trivial (by rw [hres2]; rfl) ?_; rw [hres2]; exact gv
 refine Run.skip ?_
 refine Run.seq ?_
 refine regionD HM ?_
 refine dx [0, 1] ?_
 refine dsw 2 [true, false] ?_
 refine dsw 3 [false] ?_
 refine dx [4] ?_
 refine kd [4, 5, 6] rfl ?_
 refine Run.ret ?_
 have hres2 : aStep s m = .ok (summed t c, c) := (by unfold aStep; rw [if_neg h1, if_neg (by rw [← idx_some]; simp only [*]; decide), hres]; exact if_neg (by simp only [*]; decide)); refine ret_out (l2, c2, pa2, pc2) (.cellA T28 rfl pk (by rfl) (.cellA T43 rfl pk (by rfl) (.tmp rfl .nil))) trivial (by rw [hres2]; rfl) ?_; rw [hres2]; exact gv
theorem ac126 (v q n : Int) (hv : i64 v) (hq : i64 q) (hn : i64 n) : AC Tryz.prog 175 ⟨[I v, I q, I n]⟩ (stars []) (Ret (I (partN v q n)) []) := by
 refine eo Tryz.func175 fun β => ?_
 refine rg 1 [0, 1, 2] ?_
 refine Run.seq ?_
 refine rg 3 [0, 1, 2, 11] ?_
 refine cnd rfl (fun h1 => ?_) fun h1 => ?_
 refine rg 2 [6] ?_
 exact .ret (ret_one (.tmp rfl .nil) t0 .nil)
 refine Run.skip ?_
 refine sr ?_
 refine sx 3 ?_
 refine RunL.call C111 rfl rfl rfl (ac111 _ _ _ _ (by omega) (by omega) (by omega)) .nil ?_
 refine sx 5 ?_
 refine kq [7] ?_
 refine rg 2 [6] ?_
 exact .ret (ret_one (.tmp rfl .nil) t0 .nil)
theorem ac49 (s : Sk) (la : Option Addr) (lc : Nat) (pa : Option Addr) (pc : Nat) (RL RP : HP) (hn : s.layers.length ≤ 1000000 ∧ s.past.length ≤ 1000000) (hRL : RdS RL la (s.layers.flatMap Ly.c)) (hRP : RdS RP pa (s.past.flatMap Pa.c)) : AC Tryz.prog 106 ⟨[.agg ⟨s.c la lc pa pc⟩]⟩ (stars [RL, RP]) (Outs (fun _ : Nat × Nat × Nat => True) (fun x => .pointer (some ⟨x.1, 0, none⟩)) (fun x => [pt x.1 (blk (SC s (some ⟨x.2.1, 0, none⟩) s.layers.length s.layers.length (some ⟨x.2.2, 0, none⟩) s.past.length s.past.length) 162), own 96 4 (some ⟨x.2.1, 0, none⟩) s.layers.length s.layers.length ((s.layers).flatMap Ly.c), own 98 7 (some ⟨x.2.2, 0, none⟩) s.past.length s.past.length ((s.past).flatMap Pa.c), RL, RP])) := by
 have hnl := hn.1; have hnp := hn.2
 refine eo Tryz.func106 fun β => ?_
 refine sr ?_
 refine obx rfl fun b1 => ?_
 refine sx 1 ?_
 refine kq [1] ?_
 refine sr ?_
 refine sx 2 ?_
 refine obx rfl fun b6 => ?_
 refine sx 1 ?_
 refine kq [1, 3] ?_
 refine Run.seq ?_
 refine regionD HM ?_
 refine RunD.mono (K' := fun E' L' => ∃ b12 : Nat, ∃ b16 : Nat, E' = [(1, .pointer (some ⟨b1, 0, none⟩)), (3, .pointer (some ⟨b6, 0, none⟩))] ∧ L' = [pt b12 (blk (List.replicate s.layers.length [I 0, St ⟨#[]⟩, I 0, I 0]).flatten 96), pt b16 (blk (List.replicate s.past.length [I 0, I 0, St ⟨#[]⟩, I 0, I 0, I 0, I 0]).flatten 98), pt b1 (blk (s.c la lc pa pc) 61), pt b6 (blk (SC s (some ⟨b12, 0, none⟩) s.layers.length s.layers.length (some ⟨b16, 0, none⟩) s.past.length s.past.length) 162), RL, RP]) ?_ ?_
 refine dx [0, 1, 2, 3, 4, 6, 7, 8] ?_
 refine RunD.two 5 9 [true, true, true, false, false, false, true, true] [false, false, false, true, true, true, true, true] rfl rfl rfl rfl rfl rfl kr kr kr (OpJ.make S25 M64 rfl rfl (by omega) (by omega) fun b12 => ⟨po, ?_⟩) (OpJ.make S26 M66 rfl rfl (by omega) (by omega) fun b16 => ⟨po, ?_⟩)
 refine dx [10, 11, 12] ?_
 refine RunD.two 9 13 [true, true, true, false, false, false, true, true] [false, false, false, true, true, true, true, false] rfl rfl rfl rfl rfl rfl kr kr kr (OpJ.make S26 M66 rfl rfl (by omega) (by omega) fun b16 => ⟨po, ?_⟩) (OpJ.store1 T25 rfl rfl rfl up (by simp) ⟨po, ?_⟩)
 refine RunD.op 13 [false, false, false, true, false] rfl rfl rfl kr kr (OpJ.store1 T25 rfl rfl rfl up (by simp) ⟨po, ?_⟩)
 refine dx [14, 15, 16] ?_
 refine RunD.op 17 [false, false, false, false] rfl rfl rfl kr kr (OpJ.store1 T26 rfl rfl rfl up (by simp) ⟨po, ?_⟩)
 exact dwk ⟨_, _, rfl, rfl⟩ rfl gv
 refine RunD.op 9 [false, false, false, true] rfl rfl rfl kr kr (OpJ.make S26 M66 rfl rfl (by omega) (by omega) fun b16 => ⟨po, ?_⟩)
 refine dx [14, 15, 16] ?_
 refine RunD.op 17 [false, false, false, false] rfl rfl rfl kr kr (OpJ.store1 T26 rfl rfl rfl up (by simp) ⟨po, ?_⟩)
 exact dwk ⟨_, _, rfl, rfl⟩ rfl gv
 refine RunD.op 5 [false, false, false, true, true] rfl rfl rfl kr kr (OpJ.make S25 M64 rfl rfl (by omega) (by omega) fun b12 => ⟨po, ?_⟩)
 refine dx [10, 11, 12] ?_
 refine RunD.op 13 [false, false, false, true, false] rfl rfl rfl kr kr (OpJ.store1 T25 rfl rfl rfl up (by simp) ⟨po, ?_⟩)
 refine dx [14, 15, 16] ?_
 refine RunD.op 17 [false, false, false, false] rfl rfl rfl kr kr (OpJ.store1 T26 rfl rfl rfl up (by simp) ⟨po, ?_⟩)
 exact dwk ⟨_, _, rfl, rfl⟩ rfl gv
 rintro _ _ ⟨b12, b16, rfl, rfl⟩
 refine Run.seq ?_
 refine regionD HM ?_
 refine dx [0, 1, 2, 3, 4, 5, 6] ?_
 refine RunD.op 7 [false, false, false, false, false, true, true] rfl rfl rfl kr kr (OpJ.copyAll S25 rfl rfl up pk hRL (flat_len (enc := Ly.c) (k := 4) (fun _ => rfl) _) (by simp) (flat_one Ly.one _) ⟨po, ?_⟩)
 refine kd [1, 3] rfl ?_
 refine Run.seq ?_
 refine regionD HM ?_
 refine dx [0, 1, 2, 3, 4, 5, 6] ?_
 refine RunD.op 7 [false, false, false, false, false, true, true] rfl rfl rfl kr kr (OpJ.copyAll S26 rfl rfl up pk hRP (flat_len (enc := Pa.c) (k := 7) (fun _ => rfl) _) (by simp) (flat_one Pa.one _) ⟨po, ?_⟩)
 refine kd [3] rfl ?_
 refine rg 2 [2] ?_
 exact .ret (ret_out (b6, b12, b16) (.tmp rfl .nil) trivial rfl gv)
theorem ac50 (bx : Nat) (t : Sk) (la : Option Addr) (nl lc : Nat) (pa : Option Addr) (np pc : Nat) (kind seq : Int) (enp : np = t.past.length) (hnp : t.past.length ≤ 1000000) : AC Tryz.prog 107 ⟨[.pointer (some ⟨bx, 0, none⟩), I kind, I seq]⟩ (stars [pt bx (blk (SC t la nl lc pa np pc) 162), own 98 7 pa np pc ((t.past).flatMap Pa.c)]) (Ret (.pointer (ptrOf pa 7 (findI (isPast kind seq) t.past))) [pt bx (blk (SC t la nl lc pa np pc) 162), own 98 7 pa np pc ((t.past).flatMap Pa.c)]) := by
 subst enp
 refine eo Tryz.func107 fun β => ?_
 refine rg 1 [0, 1, 2] ?_
 refine Run.seq ?_
 refine rg 7 [0, 1, 2, 14, 15] ?_
 refine Run.block ?_
 refine Run.loop (fun mm E L => ∃ i : Nat, mm = t.past.length - i ∧ i ≤ t.past.length ∧ (∀ j y, j < i → t.past[j]? = some y → isPast kind seq y = false) ∧ E = [(0, .pointer (some ⟨bx, 0, none⟩)), (1, I kind), (2, I seq), (14, I t.past.length), (15, I i)] ∧ L = [pt bx (blk (SC t la nl lc pa t.past.length pc) 162), own 98 7 pa t.past.length pc ((t.past).flatMap Pa.c)]) ⟨_, 0, rfl, Nat.zero_le _, fun _ _ h => by omega, rfl, rfl⟩ ?_
 rintro _ _ _ ⟨i, rfl, hi, hI0, rfl, rfl⟩
 refine rg 1 [0, 1, 2, 14, 15, 16] ?_
 refine Run.seq ?_
 refine cnd rfl (fun h1 => ?_) fun h1 => ?_
 refine Run.skip ?_
 refine Run.seq ?_
 refine Run.block ?_
 refine rg 2 [0, 1, 2, 7, 14, 15] ?_
 refine sr ?_
 obtain ⟨x, hx⟩ := get_ex (xs := t.past) (by omega)
 refine RunL.ownAddr pk (flat_ne (k := 7) (fun _ => rfl) (by decide) hx) fun b e hcap => ?_
 subst e
 refine sx 8 ?_
 refine kq [0, 1, 2, 8, 14, 15] ?_
 refine sr ?_
 refine sx 7 ?_
 refine spl 31 rfl (fun g2 => ?_) fun g2 => ?_
 refine sx 3 ?_
 refine spl 34 rfl (fun g3 => ?_) fun g3 => ?_
 refine sx 8 ?_
 refine kq [0, 1, 2, 8, 14, 15, 42] ?_
 refine Run.true rfl ?_
 refine rg 2 [6] ?_
 refine Run.ret ?_
 exact ret_one (.tmp rfl .nil) (congrArg Value.pointer (by rw [findI_at hx (by simp [isPast, *]) hI0]; rfl)) gv
 refine sx 8 ?_
 refine kq [0, 1, 2, 8, 14, 15, 42] ?_
 refine cnd rfl (fun h4 => ?_) fun h4 => ?_
 refine rg 2 [6] ?_
 refine Run.ret ?_
 exact ret_one (.tmp rfl .nil) (congrArg Value.pointer (by rw [findI_at hx (by simp [isPast, *]) hI0]; rfl)) gv
 refine Run.skip ?_
 refine Run.region ?_
 refine sx 2 ?_
 exact RunL.next (Keep.sub (kt (ks := [0, 1, 2, 14, 15]) rfl)) _ ⟨_, by omega, i + 1, rfl, by omega, notYet hx (by simp [isPast, *]) hI0, rfl, rfl⟩ gv
 refine sx 11 ?_
 refine kq [0, 1, 2, 8, 14, 15, 42] ?_
 refine Run.false rfl ?_
 refine Run.skip ?_
 refine Run.region ?_
 refine sx 2 ?_
 exact RunL.next (Keep.sub (kt (ks := [0, 1, 2, 14, 15]) rfl)) _ ⟨_, by omega, i + 1, rfl, by omega, notYet hx (by simp [isPast, *]) hI0, rfl, rfl⟩ gv
 refine Run.exit ?_
 refine rg 1 [6] ?_
 refine Run.ret ?_
 exact ret_one (.tmp rfl .nil) (congrArg Value.pointer (by rw [findI_none (fun j y hj => hI0 j y (by omega))]; rfl)) gv
theorem ac123 (bx : Nat) (t : Sk) (la : Option Addr) (nl lc : Nat) (pa : Option Addr) (np pc : Nat) (lot : ByteArray) (enl : nl = t.layers.length) (hnl : t.layers.length ≤ 1000000) : AC Tryz.prog 172 ⟨[.pointer (some ⟨bx, 0, none⟩), St lot]⟩ (stars [pt bx (blk (SC t la nl lc pa np pc) 162), own 96 4 la nl lc ((t.layers).flatMap Ly.c)]) (Ret (.tuple ⟨[I (lotI lot t.layers : Int), Bo (lotF lot t.layers).isSome]⟩) [pt bx (blk (SC t la nl lc pa np pc) 162), own 96 4 la nl lc ((t.layers).flatMap Ly.c)]) := by
 subst enl
 refine eo Tryz.func172 fun β => ?_
 refine rg 2 [0, 1, 4, 5] ?_
 refine Run.scope ?_
 refine Run.seq ?_
 refine Run.label ?_
 refine Run.seq ?_
 refine rg 7 [1, 4, 5, 12, 13, 14] ?_
 refine Run.block ?_
 refine Run.loop (fun mm E L => ∃ i : Nat, mm = t.layers.length - i ∧ i ≤ t.layers.length ∧ (∀ j y, j < i → t.layers[j]? = some y → lotB lot y = false) ∧ E = [(1, St lot), (4, I i), (5, Bo false), (12, .slice la t.layers.length lc), (13, I t.layers.length), (14, I i)] ∧ L = [pt bx (blk (SC t la t.layers.length lc pa np pc) 162), own 96 4 la t.layers.length lc ((t.layers).flatMap Ly.c)]) ⟨_, 0, rfl, Nat.zero_le _, fun _ _ h => by omega, rfl, rfl⟩ ?_
 rintro _ _ _ ⟨i, rfl, hi, hI0, rfl, rfl⟩
 refine rg 1 [1, 4, 5, 12, 13, 14, 15] ?_
 refine Run.seq ?_
 refine cnd rfl (fun h1 => ?_) fun h1 => ?_
 refine Run.skip ?_
 refine Run.seq ?_
 refine Run.block ?_
 refine sr ?_
 obtain ⟨x, hx⟩ := get_ex (xs := t.layers) (i := i) (by omega)
 refine RunL.ownAddr pk (flat_ne (k := 4) (fun _ => rfl) (by decide) hx) fun b e hcap => ?_
 subst e
 refine sx 3 ?_
 refine oal fun b7 => ?_
 refine sx 2 ?_
 refine kq [1, 4, 5, 6, 7, 12, 13, 14] ?_
 refine Run.seq ?_
 refine Run.block ?_
 refine rg 5 [1, 4, 5, 6, 7, 12, 13, 14, 19] ?_
 refine cnd rfl (fun h2 => ?_) fun h2 => ?_
 refine rg 3 [4, 5] ?_
 refine Run.exit ?_
 refine rg 4 [4, 5] ?_
 exact .ret (ret_one (.tmp rfl (.tmp rfl .nil)) (lot_found hx (by assumption) hI0) gv)
 refine rg 5 [1, 4, 5, 6, 12, 13, 14, 25] ?_
 refine cnd rfl (fun h3 => ?_) fun h3 => ?_
 refine Run.exit ?_
 refine rg 4 [4, 5] ?_
 exact .ret (ret_one (.tmp rfl (.tmp rfl .nil)) (lot_past hx (by assumption) (by assumption) hI0) gv)
 refine Run.skip ?_
 refine Run.region ?_
 refine sx 3 ?_
 refine kq [1, 4, 5, 12, 13, 14] ?_
 refine Run.region ?_
 refine sx 2 ?_
 exact RunL.next (Keep.sub (kt (ks := [1, 4, 5, 12, 13, 14]) rfl)) _ ⟨_, by omega, i + 1, rfl, by omega, notYet hx (lotB_not (by assumption) (by simpa using h3)) hI0, rfl, rfl⟩ gv
 refine Run.exit ?_
 refine rg 4 [4, 5] ?_
 exact .ret (ret_one (.tmp rfl (.tmp rfl .nil)) (lot_none (by omega) hI0) gv)
theorem ac124 (bx : Nat) (t : Sk) (la : Option Addr) (nl lc : Nat) (pa : Option Addr) (np pc : Nat) (lot : ByteArray) (enl : nl = t.layers.length) (hnl : t.layers.length ≤ 1000000) : AC Tryz.prog 173 ⟨[.pointer (some ⟨bx, 0, none⟩), St lot]⟩ (stars [pt bx (blk (SC t la nl lc pa np pc) 162), own 96 4 la nl lc ((t.layers).flatMap Ly.c)]) (Ret (I (qtyLot t.layers lot)) [pt bx (blk (SC t la nl lc pa np pc) 162), own 96 4 la nl lc ((t.layers).flatMap Ly.c)]) := by
 subst enl
 refine eo Tryz.func173 fun β => ?_
 refine rg 1 [0, 1] ?_
 refine Run.seq ?_
 refine sr ?_
 refine sx 2 ?_
 refine RunL.call C123 rfl rfl rfl (ac123 bx t la _ lc pa _ pc lot rfl hnl) tks ?_
 rcases hf : lotF lot t.layers with _ | ⟨i, l⟩
 refine sx 5 ?_
 refine kq [0, 5, 6] ?_
 refine rg 1 [0, 5, 13] ?_
 refine Run.false rfl ?_
 refine Run.skip ?_
 refine rg 1 [4] ?_
 refine Run.ret ?_
 exact ret_one (.tmp rfl .nil) (congrArg I (by unfold qtyLot; rw [hf])) gv
 obtain ⟨hx, hll, hI⟩ := lotF_some hf
 have hi := (List.getElem?_eq_some_iff.1 hx).1
 rw [hI]
 refine RunL.ownAddr pk (flat_ne (k := 4) (fun _ => rfl) (by decide) hx) fun b e hcap => ?_
 subst e
 refine sx 5 ?_
 refine kq [0, 5, 6] ?_
 refine rg 1 [0, 5, 13] ?_
 refine Run.true rfl ?_
 refine sr ?_
 refine sx 8 ?_
 refine RunL.op rfl rfl (OpJ.loadO T3 rfl pk hx (by rfl) (by exact fun _ => rfl) ?_)
 refine sx 1 ?_
 refine kq [4] ?_
 refine Run.ret ?_
 exact ret_one (.tmp rfl .nil) (congrArg I (by unfold qtyLot; rw [hf])) gv
theorem ac125 (bx : Nat) (t : Sk) (la : Option Addr) (nl lc : Nat) (pa : Option Addr) (np pc : Nat) (lot : ByteArray) (i : Nat) (l : Ly) (q : Int) (hf : lotF lot t.layers = some (i, l)) (hl : l.ok) (hq : i64 q) (enl : nl = t.layers.length) (hnl : t.layers.length ≤ 1000000) : AC Tryz.prog 174 ⟨[.pointer (some ⟨bx, 0, none⟩), St lot, I q]⟩ (stars [pt bx (blk (SC t la nl lc pa np pc) 162), own 96 4 la nl lc ((t.layers).flatMap Ly.c)]) (Ret (I (takeV l q)) [pt bx (blk (SC { t with layers := takeL t.layers i l q } la (takeL t.layers i l q).length lc pa np pc) 162), own 96 4 la (takeL t.layers i l q).length lc ((takeL t.layers i l q).flatMap Ly.c)]) := by
 subst enl
 obtain ⟨hl1, hl2⟩ := hl
 refine eo Tryz.func174 fun β => ?_
 refine rg 1 [0, 1, 2] ?_
 refine sr ?_
 refine sx 2 ?_
 refine RunL.call C123 rfl rfl rfl (ac123 bx t la _ lc pa _ pc lot rfl hnl) tks ?_
 rw [hf]
 obtain ⟨hx, hll, hI⟩ := lotF_some hf
 have hi := (List.getElem?_eq_some_iff.1 hx).1
 rw [hI]
 refine RunL.ownAddr pk (flat_ne (k := 4) (fun _ => rfl) (by decide) hx) fun b e hcap => ?_
 subst e
 have hx1 := set_get hx { l with qty := W (l.qty - q) }
 have hx2 := set_get hx (takeX l q)
 refine sx 5 ?_
 refine kq [0, 2, 7] ?_
 refine rg 8 [0, 2, 7, 9] ?_
 refine Run.seq ?_
 refine regionD HM ?_
 refine dx [0, 1, 2, 3, 4, 5, 6, 7, 8] ?_
 refine RunD.op 9 [false, false, false, true, false, false, false, false, true] rfl rfl rfl kr kr (OpJ.callRet C126 rfl rfl (ac126 _ _ _ hl2 hq hl1) .nil ⟨po, ?_⟩)
 refine dx [10] ?_
 refine kd [0, 2, 7, 9, 10] rfl ?_
 refine sr ?_
 refine sx 5 ?_
 refine RunL.op rfl rfl (OpJ.sub rfl rfl ?_)
 refine sx 2 ?_
 refine RunL.op rfl rfl (OpJ.storeO (i := i) (u' := { l with qty := W (l.qty - q) }) T3 rfl rfl rfl hx (fun _ => rfl) (by decide) rfl up ?_)
 refine kq [0, 7, 9, 10] ?_
 refine sr ?_
 refine sx 3 ?_
 refine RunL.op rfl rfl (OpJ.loadO T3 rfl pk hx1 (by rfl) (by exact fun _ => rfl) ?_)
 refine sx 1 ?_
 refine RunL.op rfl rfl (OpJ.sub rfl rfl ?_)
 refine sx 2 ?_
 refine RunL.op rfl rfl (OpJ.storeO (i := i) (u' := takeX l q) T3 rfl rfl rfl hx1 (fun _ => rfl) (by decide) rfl up ?_)
 rw [List.set_set]
 refine kq [0, 7, 9, 10] ?_
 refine Run.seq ?_
 refine sr ?_
 refine sx 3 ?_
 refine RunL.op rfl rfl (OpJ.loadO T3 rfl pk hx2 (by rfl) (by exact fun _ => rfl) ?_)
 refine sx 1 ?_
 refine kq [0, 7, 10, 54] ?_
 refine cnd rfl (fun h1 => ?_) fun h1 => ?_
 refine regionD HM ?_
 refine dx [0, 1, 2, 3, 4, 5, 6] ?_
 refine tk 7 rfl rfl rfl (DetJ.sliceHi S25 rfl rfl (by omega)) ?_
 refine dx [8, 9, 10, 11, 12, 13, 14] ?_
 refine tk 15 rfl rfl rfl (DetJ.sliceLo (i := i + 1) S25 rfl rfl (by omega)) ?_
 refine RunD.op 16 [false, false, false, false, false, true, true, true, false, false, false, false, true, true, true, true] rfl rfl rfl kr kr (OpJ.removeIn S25 M64 rfl rfl pk (by simp) hi (fun _ => rfl) (by decide) Ly.one ⟨po, ?_⟩)
 simp only [List.eraseIdx_set_eq]
 refine dx [17, 18, 19] ?_
 refine RunD.op 20 [false, false, false, false, false, false, false, false, false, false] rfl rfl rfl kr kr (OpJ.store1 T25 rfl rfl rfl up (by simp) ⟨po, ?_⟩)
 refine kd [10] rfl ?_
 refine rg 2 [6] ?_
 refine Run.ret ?_
 refine ret_one (.tmp rfl .nil) rfl ?_; simp only [takeL, if_pos (show W (l.qty - q) = 0 from h1)]; exact gv
 refine Run.skip ?_
 refine rg 2 [6] ?_
 refine Run.ret ?_
 refine ret_one (.tmp rfl .nil) rfl ?_; simp only [takeL, if_neg (show ¬ W (l.qty - q) = 0 from h1), List.length_set]; exact gv
theorem ac122 (bx : Nat) (t : Sk) (la : Option Addr) (nl lc : Nat) (pa : Option Addr) (np pc : Nat) (m : Mv) (v : Int) (enp : np = t.past.length) (hnp : t.past.length ≤ 1000000) : AC Tryz.prog 171 ⟨[.pointer (some ⟨bx, 0, none⟩), .agg ⟨m.c⟩, I v]⟩ (stars [pt bx (blk (SC t la nl lc pa np pc) 162), own 98 7 pa np pc ((t.past).flatMap Pa.c)]) (Outs (fun _ : Option Addr × Nat => True) (fun _ => .tuple ⟨[]⟩) (fun x => [pt bx (blk (SC { t with past := t.past ++ [(⟨m.seq, m.kind, m.lot, m.qty, v, 0, 0⟩ : Pa)] } la nl lc x.1 (t.past ++ [(⟨m.seq, m.kind, m.lot, m.qty, v, 0, 0⟩ : Pa)]).length x.2) 162), own 98 7 x.1 (t.past ++ [(⟨m.seq, m.kind, m.lot, m.qty, v, 0, 0⟩ : Pa)]).length x.2 ((t.past ++ [(⟨m.seq, m.kind, m.lot, m.qty, v, 0, 0⟩ : Pa)]).flatMap Pa.c)])) := by
 subst enp
 refine eo Tryz.func171 fun β => ?_
 refine sr ?_
 refine obx rfl fun b4 => ?_
 refine kq [0, 2, 4] ?_
 refine regionD HM ?_
 refine dx [0, 1, 2, 3, 4, 5, 6, 7, 8, 9, 10, 11, 12, 13, 14, 15] ?_
 refine RunD.op 16 [false, false, false, false, false, false, false, false, false, false, true, true, true, true, true, true] rfl rfl rfl kr kr (OpJ.buildSlice1 S26 rfl rfl rfl (by decide) (by decide) Z66 rfl fun b22 => ⟨po, ?_⟩)
 refine RunD.op 17 [false, false, false, true, true, true] rfl rfl rfl kr kr (OpJ.append1 (⟨m.seq, m.kind, m.lot, m.qty, v, 0, 0⟩ : Pa) S26 M66 rfl rfl pk pk rfl rfl (by simp [Value.oneCell', Pa.c, Ly.c, Mv.c, Co.c]) rfl (by omega) (by omega) fun a23 c23 => ⟨po, ?_⟩)
 refine dx [18, 19, 20] ?_
 refine RunD.op 21 [false, false, false, false, false, false] rfl rfl rfl kr kr (OpJ.store1 T26 rfl rfl rfl up (by simp) ⟨po, ?_⟩)
 refine kd [] rfl ?_
 exact ret_out (a23, c23) .nil trivial rfl gv
theorem ac121 (bx : Nat) (t : Sk) (la : Option Addr) (nl lc : Nat) (pa : Option Addr) (np pc : Nat) (lot : ByteArray) (q v : Int) (enl : nl = t.layers.length) (hnl : t.layers.length ≤ 1000000) : AC Tryz.prog 170 ⟨[.pointer (some ⟨bx, 0, none⟩), St lot, I q, I v]⟩ (stars [pt bx (blk (SC t la nl lc pa np pc) 162), own 96 4 la nl lc ((t.layers).flatMap Ly.c)]) (Outs (fun _ : Option Addr × Nat => True) (fun _ => .tuple ⟨[]⟩) (fun x => [pt bx (blk (SC { t with layers := addLot t.layers lot q v } x.1 (addLot t.layers lot q v).length x.2 pa np pc) 162), own 96 4 x.1 (addLot t.layers lot q v).length x.2 ((addLot t.layers lot q v).flatMap Ly.c)])) := by
 subst enl
 have hle := @lotI_le lot t.layers
 have hla : (t.layers ++ [(⟨0, ⟨#[]⟩, 0, 0⟩ : Ly)]).length = t.layers.length + 1 := by simp
 refine eo Tryz.func170 fun β => ?_
 refine sr ?_
 refine sx 2 ?_
 refine RunL.call C123 rfl rfl rfl (ac123 bx t la _ lc pa _ pc lot rfl hnl) tks ?_
 rcases hf : lotF lot t.layers with _ | ⟨i, l⟩
 refine sx 5 ?_
 refine kq [0, 1, 2, 3, 8, 9] ?_
 refine Run.seq ?_
 refine rg 2 [0, 1, 2, 3, 8, 17] ?_
 refine Run.true rfl ?_
 refine sr ?_
 refine sx 7 ?_
 refine RunL.op rfl rfl (OpJ.buildSlice1 S25 rfl rfl rfl (by decide) (by decide) Z64 rfl fun b25 => ?_)
 refine RunL.op rfl rfl (OpJ.append1 (⟨0, ⟨#[]⟩, 0, 0⟩ : Ly) S25 M64 rfl rfl pk pk rfl rfl (by simp [Value.oneCell', Pa.c, Ly.c, Mv.c, Co.c]) rfl (by omega) (by omega) fun a26 c26 => ?_)
 have hxn : (t.layers ++ [(⟨0, ⟨#[]⟩, 0, 0⟩ : Ly)])[t.layers.length]? = some (⟨0, ⟨#[]⟩, 0, 0⟩ : Ly) := by simp
 refine RunL.ownAddr pk (flat_ne (k := 4) (fun _ => rfl) (by decide) hxn) fun b e hcap => ?_
 subst e
 refine sx 4 ?_
 refine kq [0, 1, 2, 3, 8] ?_
 refine Run.seq ?_
 refine regionD HM ?_
 refine dx [0, 1, 2, 3, 4, 5, 6] ?_
 refine tk 7 rfl rfl rfl (DetJ.sliceLo (i := lotI lot t.layers + 1) S25 rfl rfl (by omega)) ?_
 refine dx [8, 9, 10, 11, 12, 13] ?_
 refine tk 14 rfl rfl rfl (DetJ.sliceLo (i := lotI lot t.layers) S25 rfl rfl (by omega)) ?_
 refine RunD.op 15 [false, false, false, false, true, true, true, false, false, false, false, false, true, true, true] rfl rfl rfl kr kr (OpJ.copyUp (i := lotI lot t.layers) S25 rfl rfl up rfl (by omega) (fun _ => rfl) (by decide) Ly.one ⟨po, ?_⟩)
 refine kd [0, 1, 2, 3, 8] rfl ?_
 refine Run.region ?_
 refine sx 9 ?_
 refine RunL.op rfl rfl (OpJ.storeE (i := lotI lot t.layers) (u' := newLy lot) T64 rfl rfl (Ly.one _) (ins_lt (z := (⟨0, ⟨#[]⟩, 0, 0⟩ : Ly)) hle) (fun _ => rfl) (by decide) up ?_)
 rw [ins_eq hle]
 refine kq [0, 2, 3, 8] ?_
 refine sr ?_
 have hx0 : (insL t.layers (lotI lot t.layers) (newLy lot))[lotI lot t.layers]? = some (newLy lot) := insL_get hle
 have hx10 : (insL t.layers (lotI lot t.layers) { newLy lot with qty := W ((newLy lot).qty + q) })[lotI lot t.layers]? = some { newLy lot with qty := W ((newLy lot).qty + q) } := insL_get hle
 refine sx 8 ?_
 refine RunL.op rfl rfl (OpJ.loadO T3 rfl pk hx0 (by rfl) (by exact fun _ => rfl) ?_)
 refine sx 1 ?_
 refine RunL.op rfl rfl (OpJ.add rfl rfl ?_)
 refine sx 2 ?_
 refine RunL.op rfl rfl (OpJ.storeO (i := lotI lot t.layers) (u' := { newLy lot with qty := W ((newLy lot).qty + q) }) T3 rfl rfl rfl hx0 (fun _ => rfl) (by decide) rfl up ?_)
 first | rw [insL_set hle] | skip
 refine kq [0, 3, 8] ?_
 refine Run.region ?_
 refine sx 8 ?_
 refine RunL.op rfl rfl (OpJ.loadO T3 rfl pk hx10 (by rfl) (by exact fun _ => rfl) ?_)
 refine sx 1 ?_
 refine RunL.op rfl rfl (OpJ.add rfl rfl ?_)
 refine sx 2 ?_
 refine RunL.op rfl rfl (OpJ.storeO (i := lotI lot t.layers) (u' := bump (newLy lot) q v) T3 rfl rfl rfl hx10 (fun _ => rfl) (by decide) rfl up ?_)
 first | rw [insL_set hle] | rw [List.set_set]
 refine kq [] ?_
 have hadd : addLot t.layers lot q v = insL t.layers (lotI lot t.layers) (bump (newLy lot) q v) := (by unfold addLot; rw [hf]); refine ret_out (some ⟨b, 0, none⟩, c26) .nil trivial rfl ?_; rw [hadd, insL_len hle, ← hla]; exact gv
 obtain ⟨hx, hll, hI⟩ := lotF_some hf
 have hi := (List.getElem?_eq_some_iff.1 hx).1
 rw [hI]
 refine RunL.ownAddr pk (flat_ne (k := 4) (fun _ => rfl) (by decide) hx) fun b e hcap => ?_
 subst e
 have hx1 := set_get hx { l with qty := W (l.qty + q) }
 refine sx 5 ?_
 refine kq [0, 1, 2, 3, 8, 9] ?_
 refine Run.seq ?_
 refine rg 2 [0, 1, 2, 3, 8, 17] ?_
 refine Run.false rfl ?_
 refine Run.skip ?_
 refine sr ?_
 have hx0 : (insL t.layers (lotI lot t.layers) (newLy lot))[lotI lot t.layers]? = some (newLy lot) := insL_get hle
 have hx10 : (insL t.layers (lotI lot t.layers) { newLy lot with qty := W ((newLy lot).qty + q) })[lotI lot t.layers]? = some { newLy lot with qty := W ((newLy lot).qty + q) } := insL_get hle
 refine sx 8 ?_
 refine RunL.op rfl rfl (OpJ.loadO T3 rfl pk hx (by rfl) (by exact fun _ => rfl) ?_)
 refine sx 1 ?_
 refine RunL.op rfl rfl (OpJ.add rfl rfl ?_)
 refine sx 2 ?_
 refine RunL.op rfl rfl (OpJ.storeO (i := i) (u' := { l with qty := W (l.qty + q) }) T3 rfl rfl rfl hx (fun _ => rfl) (by decide) rfl up ?_)
 first | rw [insL_set hle] | skip
 refine kq [0, 3, 8] ?_
 refine Run.region ?_
 refine sx 8 ?_
 refine RunL.op rfl rfl (OpJ.loadO T3 rfl pk hx1 (by rfl) (by exact fun _ => rfl) ?_)
 refine sx 1 ?_
 refine RunL.op rfl rfl (OpJ.add rfl rfl ?_)
 refine sx 2 ?_
 refine RunL.op rfl rfl (OpJ.storeO (i := i) (u' := bump l q v) T3 rfl rfl rfl hx1 (fun _ => rfl) (by decide) rfl up ?_)
 first | rw [insL_set hle] | rw [List.set_set]
 refine kq [] ?_
 have hadd : addLot t.layers lot q v = t.layers.set i (bump l q v) := (by unfold addLot; rw [hf]); refine ret_out (some ⟨b, 0, none⟩, lc) .nil trivial rfl ?_; rw [hadd, List.length_set]; exact gv
theorem ac85 (bx : Nat) (t : Sk) (la : Option Addr) (nl lc : Nat) (pa : Option Addr) (np pc : Nat) (m : Mv) (enl : nl = t.layers.length) (enp : np = t.past.length) (ht : t.ok 999999) (hm : m.ok) : AC Tryz.prog 139 ⟨[.pointer (some ⟨bx, 0, none⟩), .agg ⟨m.c⟩]⟩ (stars [pt bx (blk (SC t la nl lc pa np pc) 162), own 96 4 la nl lc ((t.layers).flatMap Ly.c), own 98 7 pa np pc ((t.past).flatMap Pa.c)]) (Outs (fun _ : Option Addr × Nat × Option Addr × Nat => True) (fun _ => AvV (lRecv t m)) (fun x => LvB 162 96 98 bx (lRecv t m) x)) := by
 subst enl enp
 have hn : t.layers.length ≤ 1000000 ∧ t.past.length ≤ 1000000 := ⟨Nat.le_trans ht.nl (by decide), Nat.le_trans ht.np (by decide)⟩
 have hnl := hn.1; have hnp := hn.2; have hnl9 := ht.nl; have hnp9 := ht.np
 obtain ⟨hm1, hm2⟩ := hm
 refine eo Tryz.func139 fun β => ?_
 refine sr ?_
 refine obx rfl fun b3 => ?_
 refine oal fun b4 => ?_
 refine sx 1 ?_
 refine kq [0, 3, 4] ?_
 refine Run.seq ?_
 refine rg 3 [0, 3, 4, 8] ?_
 refine cnd rfl (fun h1 => ?_) fun h1 => ?_
 refine rg 3 [4, 5] ?_
 refine Run.ret ?_
 have hres : lRecv t m = .error 22 := (by unfold lRecv; rw [if_pos h1]); refine ret_out (none, 0, none, 0) (.cellA T43 rfl pk (by rfl) (.tmp rfl .nil)) trivial (by rw [hres]; rfl) ?_; rw [hres]; exact gv
 refine Run.skip ?_
 refine sr ?_
 refine sx 7 ?_
 refine RunL.callX C121 rfl rfl rfl (ac121 bx t la _ lc pa _ pc m.lot m.qty m.cost rfl hnl) tks fun ⟨la2, lc2⟩ _ => ?_
 refine kq [0, 3, 4] ?_
 refine sr ?_
 refine sx 4 ?_
 refine RunL.callX C122 rfl rfl rfl (ac122 bx { t with layers := addLot t.layers m.lot m.qty m.cost } la2 _ lc2 pa _ pc m m.cost rfl hnp) tks fun ⟨pa2, pc2⟩ _ => ?_
 refine kq [3, 4] ?_
 refine rg 7 [4, 5] ?_
 refine Run.ret ?_
 have hres : lRecv t m = .ok _ := (by unfold lRecv; rw [if_neg h1]); refine ret_out (la2, lc2, pa2, pc2) (.cellA T43 rfl pk (by rfl) (.tmp rfl .nil)) trivial (by rw [hres]; rfl) ?_; rw [hres]; exact gv
theorem ac86 (bx : Nat) (t : Sk) (la : Option Addr) (nl lc : Nat) (pa : Option Addr) (np pc : Nat) (m : Mv) (enl : nl = t.layers.length) (enp : np = t.past.length) (ht : t.ok 999999) (hm : m.ok) : AC Tryz.prog 140 ⟨[.pointer (some ⟨bx, 0, none⟩), .agg ⟨m.c⟩]⟩ (stars [pt bx (blk (SC t la nl lc pa np pc) 162), own 96 4 la nl lc ((t.layers).flatMap Ly.c), own 98 7 pa np pc ((t.past).flatMap Pa.c)]) (Outs (fun _ : Option Addr × Nat × Option Addr × Nat => True) (fun _ => AvV (lIssue t m)) (fun x => LvB 162 96 98 bx (lIssue t m) x)) := by
 subst enl enp
 have hn : t.layers.length ≤ 1000000 ∧ t.past.length ≤ 1000000 := ⟨Nat.le_trans ht.nl (by decide), Nat.le_trans ht.np (by decide)⟩
 have hnl := hn.1; have hnp := hn.2; have hnl9 := ht.nl; have hnp9 := ht.np
 obtain ⟨hm1, hm2⟩ := hm
 refine eo Tryz.func140 fun β => ?_
 refine sr ?_
 refine obx rfl fun b3 => ?_
 refine oal fun b4 => ?_
 refine sx 1 ?_
 refine kq [0, 3, 4] ?_
 refine Run.seq ?_
 refine sr ?_
 refine sx 3 ?_
 refine RunL.call C123 rfl rfl rfl (ac123 bx t la _ lc pa _ pc m.lot rfl hnl) tks ?_
 rcases hf : lotF m.lot t.layers with _ | ⟨j, l⟩
 refine sx 5 ?_
 refine kq [0, 3, 4, 7] ?_
 refine Run.block ?_
 refine rg 8 [0, 3, 4, 16] ?_
 refine Run.true rfl ?_
 refine rg 3 [4, 5] ?_
 refine Run.ret ?_
 have hres : lIssue t m = .error 22 := (by unfold lIssue; rw [hf]); refine ret_out (none, 0, none, 0) (.cellA T43 rfl pk (by rfl) (.tmp rfl .nil)) trivial (by rw [hres]; rfl) ?_; rw [hres]; exact gv
 obtain ⟨hy, hll, hI⟩ := lotF_some hf
 have hj := (List.getElem?_eq_some_iff.1 hy).1
 have hly := ht.ly j l hy
 have hql : qtyLot t.layers m.lot = l.qty := (by unfold qtyLot; rw [hf])
 refine sx 5 ?_
 refine kq [0, 3, 4, 7] ?_
 refine Run.block ?_
 refine rg 8 [0, 3, 4, 16] ?_
 refine cnd rfl (fun h1 => ?_) fun h1 => ?_
 refine rg 3 [4, 5] ?_
 refine Run.ret ?_
 have hres : lIssue t m = .error 22 := (by unfold lIssue; rw [hf]; simp only; rw [if_pos (by assumption)]); refine ret_out (none, 0, none, 0) (.cellA T43 rfl pk (by rfl) (.tmp rfl .nil)) trivial (by rw [hres]; rfl) ?_; rw [hres]; exact gv
 refine Run.seq ?_
 refine regionD HM ?_
 refine dx [0, 1, 2, 4, 5] ?_
 refine RunD.op 3 [true, true, false, false, false] rfl rfl rfl kr kr (OpJ.callRet C124 rfl rfl (ac124 bx t la _ lc pa _ pc m.lot rfl hnl) tks ⟨po, ?_⟩)
 refine dx [6, 7] ?_
 refine kd [0, 3, 4, 25] rfl ?_
 refine cnd rfl (fun h2 => ?_) fun h2 => ?_
 refine rg 3 [4, 5] ?_
 refine Run.ret ?_
 have hres : lIssue t m = .error 21 := (by unfold lIssue; rw [hf]; simp only; rw [if_neg (by assumption), if_pos (by rw [← hql]; assumption)]); refine ret_out (none, 0, none, 0) (.cellA T43 rfl pk (by rfl) (.tmp rfl .nil)) trivial (by rw [hres]; rfl) ?_; rw [hres]; exact gv
 refine Run.skip ?_
 refine sr ?_
 refine sx 5 ?_
 refine RunL.call C125 rfl rfl rfl (ac125 bx t la _ lc pa _ pc m.lot j l m.qty hf hly hm1 rfl hnl) tks ?_
 refine sx 1 ?_
 refine kq [0, 3, 4, 8] ?_
 refine sr ?_
 refine sx 3 ?_
 refine RunL.callX C122 rfl rfl rfl (ac122 bx { t with layers := takeL t.layers j l m.qty } la _ lc pa _ pc m (takeV l m.qty) rfl hnp) tks fun ⟨pa2, pc2⟩ _ => ?_
 refine kq [3, 4, 8] ?_
 refine rg 8 [4, 5] ?_
 refine Run.ret ?_
 have hres : lIssue t m = .ok _ := (by unfold lIssue; rw [hf]; simp only; rw [if_neg (by assumption), if_neg (by rw [← hql]; assumption)]); refine ret_out (la, lc, pa2, pc2) (.cellA T43 rfl pk (by rfl) (.tmp rfl .nil)) trivial (by rw [hres]; rfl) ?_; rw [hres]; exact gv
theorem ac87 (bx : Nat) (t : Sk) (la : Option Addr) (nl lc : Nat) (bp : Nat) (np pc : Nat) (m : Mv) (i : Nat) (p : Pa) (hx : t.past[i]? = some p) (enl : nl = t.layers.length) (enp : np = t.past.length) (ht : t.ok 999999) (hm : m.ok) : AC Tryz.prog 141 ⟨[.pointer (some ⟨bx, 0, none⟩), .agg ⟨m.c⟩, .pointer (some ⟨bp, 0 + i * 7, none⟩)]⟩ (stars [pt bx (blk (SC t la nl lc (some ⟨bp, 0, none⟩) np pc) 162), own 96 4 la nl lc ((t.layers).flatMap Ly.c), own 98 7 (some ⟨bp, 0, none⟩) np pc ((t.past).flatMap Pa.c)]) (Outs (fun _ : Option Addr × Nat × Option Addr × Nat => True) (fun _ => AvV (lBackR t m i p)) (fun x => LvB 162 96 98 bx (lBackR t m i p) x)) := by
 subst enl enp
 have hn : t.layers.length ≤ 1000000 ∧ t.past.length ≤ 1000000 := ⟨Nat.le_trans ht.nl (by decide), Nat.le_trans ht.np (by decide)⟩
 have hnl := hn.1; have hnp := hn.2; have hnl9 := ht.nl; have hnp9 := ht.np
 obtain ⟨hm1, hm2⟩ := hm
 have hi := (List.getElem?_eq_some_iff.1 hx).1
 obtain ⟨hp1, hp2, hp3, hp4⟩ := ht.pa i p hx
 have hx1 := set_get hx (sendP p m)
 refine eo Tryz.func141 fun β => ?_
 refine sr ?_
 refine obx rfl fun b4 => ?_
 refine oal fun b6 => ?_
 refine sx 1 ?_
 refine kq [0, 2, 4, 6] ?_
 refine Run.seq ?_
 refine regionD HM ?_
 refine dx [0, 1, 2, 3, 4, 5, 6, 7] ?_
 refine tk 8 rfl rfl rfl (DetJ.sub rfl rfl) ?_
 refine dx [9, 10, 11, 12, 13, 14, 15, 16, 17, 18] ?_
 refine tk 19 rfl rfl rfl (DetJ.sub rfl rfl) ?_
 refine RunD.op 20 [false, false, false, true, true, false, false, true, true, false, false, false, false, false, true, true, false, false, true, true] rfl rfl rfl kr kr (OpJ.callRet C126 rfl rfl (ac126 _ _ _ (W_i64 _) hm1 (W_i64 _)) .nil ⟨po, ?_⟩)
 refine dx [21] ?_
 refine kd [0, 2, 4, 6, 8] rfl ?_
 refine Run.seq ?_
 refine regionD HM ?_
 refine dx [0, 1, 2, 3, 4, 5] ?_
 refine tk 6 rfl rfl rfl (DetJ.add rfl rfl) ?_
 refine dx [7, 8] ?_
 refine RunD.op 9 [false, false, false, false, false, false, false, false, false] rfl rfl rfl kr kr (OpJ.storeO (i := i) (u' := sendP p m) T3 rfl rfl rfl hx (fun _ => rfl) (by decide) rfl up ⟨po, ?_⟩)
 refine kd [0, 2, 4, 6, 8] rfl ?_
 refine sr ?_
 refine sx 3 ?_
 refine RunL.op rfl rfl (OpJ.loadO T3 rfl pk hx1 (by rfl) (by exact fun _ => rfl) ?_)
 refine sx 1 ?_
 refine RunL.op rfl rfl (OpJ.add rfl rfl ?_)
 refine sx 2 ?_
 refine RunL.op rfl rfl (OpJ.storeO (i := i) (u' := backP p m) T3 rfl rfl rfl hx1 (fun _ => rfl) (by decide) rfl up ?_)
 rw [List.set_set]
 have hx := set_get hx (backP p m)
 refine kq [0, 2, 4, 6, 8] ?_
 refine Run.seq ?_
 refine regionD HM ?_
 refine dx [0, 1, 2, 3, 4, 5, 6, 7] ?_
 refine RunD.op 8 [false, false, false, false, false, false, true, false] rfl rfl rfl kr kr (OpJ.callOuts C121 rfl rfl (ac121 bx { t with past := t.past.set i (backP p m) } la _ lc (some ⟨bp, 0, none⟩) _ pc p.lot m.qty (backV p m) rfl hnl) tks fun ⟨la2, lc2⟩ _ => ⟨po, ?_⟩)
 refine kd [4, 6, 8] rfl ?_
 refine rg 6 [6, 7] ?_
 refine Run.ret ?_
 refine ret_out (la2, lc2, (some ⟨bp, 0, none⟩), pc) (.cellA T43 rfl pk (by rfl) (.tmp rfl .nil)) trivial rfl ?_; simp only [LvB, lBackR, List.length_set]; exact gv
theorem ac88 (bx : Nat) (t : Sk) (la : Option Addr) (nl lc : Nat) (bp : Nat) (np pc : Nat) (m : Mv) (i : Nat) (p : Pa) (hx : t.past[i]? = some p) (enl : nl = t.layers.length) (enp : np = t.past.length) (ht : t.ok 999999) (hm : m.ok) (hq1 : 1 ≤ m.qty) : AC Tryz.prog 142 ⟨[.pointer (some ⟨bx, 0, none⟩), .agg ⟨m.c⟩, .pointer (some ⟨bp, 0 + i * 7, none⟩)]⟩ (stars [pt bx (blk (SC t la nl lc (some ⟨bp, 0, none⟩) np pc) 162), own 96 4 la nl lc ((t.layers).flatMap Ly.c), own 98 7 (some ⟨bp, 0, none⟩) np pc ((t.past).flatMap Pa.c)]) (Outs (fun _ : Option Addr × Nat × Option Addr × Nat => True) (fun _ => AvV (lSendR t m i p)) (fun x => LvB 162 96 98 bx (lSendR t m i p) x)) := by
 subst enl enp
 have hn : t.layers.length ≤ 1000000 ∧ t.past.length ≤ 1000000 := ⟨Nat.le_trans ht.nl (by decide), Nat.le_trans ht.np (by decide)⟩
 have hnl := hn.1; have hnp := hn.2; have hnl9 := ht.nl; have hnp9 := ht.np
 obtain ⟨hm1, hm2⟩ := hm
 have hi := (List.getElem?_eq_some_iff.1 hx).1
 obtain ⟨hp1, hp2, hp3, hp4⟩ := ht.pa i p hx
 refine eo Tryz.func142 fun β => ?_
 refine sr ?_
 refine obx rfl fun b4 => ?_
 refine oal fun b6 => ?_
 refine sx 1 ?_
 refine kq [0, 2, 4, 6] ?_
 refine Run.seq ?_
 refine Run.seq ?_
 refine regionD HM ?_
 refine dx [0, 1, 2, 3, 4, 6, 7] ?_
 refine RunD.op 5 [true, true, false, false, false, true, false] rfl rfl rfl kr kr (OpJ.callRet C124 rfl rfl (ac124 bx t la _ lc (some ⟨bp, 0, none⟩) _ pc p.lot rfl hnl) tks ⟨po, ?_⟩)
 rcases hf : lotF p.lot t.layers with _ | ⟨j, l⟩
 have hql : qtyLot t.layers p.lot = 0 := (by unfold qtyLot; rw [hf])
 rw [hql]
 refine dx [8] ?_
 first | refine RunD.set (congrArg Value.bool (decide_eq_true (show (0 : Int) < m.qty by omega))) ?_ | skip
 refine kd [0, 2, 4, 6, 17] rfl ?_
 refine Run.true rfl ?_
 refine rg 3 [6, 7] ?_
 refine Run.ret ?_
 have hres : lSendR t m i p = .error 21 := (by unfold lSendR; rw [hf]); refine ret_out (none, 0, none, 0) (.cellA T43 rfl pk (by rfl) (.tmp rfl .nil)) trivial (by rw [hres]; rfl) ?_; rw [hres]; exact gv
 obtain ⟨hy, hll, hI⟩ := lotF_some hf
 have hj := (List.getElem?_eq_some_iff.1 hy).1
 have hly := ht.ly j l hy
 have hql : qtyLot t.layers p.lot = l.qty := (by unfold qtyLot; rw [hf])
 rw [hql]
 refine dx [8] ?_
 first | refine RunD.set (congrArg Value.bool (decide_eq_true (show (0 : Int) < m.qty by omega))) ?_ | skip
 refine kd [0, 2, 4, 6, 17] rfl ?_
 refine cnd rfl (fun h1 => ?_) fun h1 => ?_
 refine rg 3 [6, 7] ?_
 refine Run.ret ?_
 have hres : lSendR t m i p = .error 21 := (by unfold lSendR; rw [hf]; simp only; rw [if_pos (by assumption)]); refine ret_out (none, 0, none, 0) (.cellA T43 rfl pk (by rfl) (.tmp rfl .nil)) trivial (by rw [hres]; rfl) ?_; rw [hres]; exact gv
 refine Run.skip ?_
 refine Run.seq ?_
 refine regionD HM ?_
 refine dx [0, 1, 2, 3, 4, 5] ?_
 refine tk 6 rfl rfl rfl (DetJ.add rfl rfl) ?_
 refine dx [7, 8] ?_
 refine RunD.op 9 [false, false, false, false, false, false, false, false, false] rfl rfl rfl kr kr (OpJ.storeO (i := i) (u' := sendP p m) T3 rfl rfl rfl hx (fun _ => rfl) (by decide) rfl up ⟨po, ?_⟩)
 have hx := set_get hx (sendP p m)
 refine kd [0, 2, 4, 6] rfl ?_
 refine Run.seq ?_
 refine regionD HM ?_
 refine dx [0, 1, 2, 3, 4, 5, 6] ?_
 refine RunD.op 7 [false, false, false, false, false, true, false] rfl rfl rfl kr kr (OpJ.callRet C125 rfl rfl (ac125 bx { t with past := t.past.set i (sendP p m) } la _ lc (some ⟨bp, 0, none⟩) _ pc p.lot j l m.qty hf hly hm1 rfl hnl) tks ⟨po, ?_⟩)
 refine dx [8] ?_
 refine kd [4, 6, 8] rfl ?_
 refine sr ?_
 refine sx 8 ?_
 refine RunL.op rfl rfl (OpJ.sub rfl rfl ?_)
 refine sx 3 ?_
 refine kq [6, 7] ?_
 refine Run.ret ?_
 have hres : lSendR t m i p = .ok _ := (by unfold lSendR; rw [hf]; simp only; rw [if_neg (by assumption)]); refine ret_out (la, lc, (some ⟨bp, 0, none⟩), pc) (.cellA T43 rfl pk (by rfl) (.tmp rfl .nil)) trivial (by rw [hres]; rfl) ?_; rw [hres]; simp only [LvB, List.length_set]; exact gv
theorem ac89 (bx : Nat) (t : Sk) (la : Option Addr) (nl lc : Nat) (bp : Nat) (np pc : Nat) (m : Mv) (i : Nat) (p : Pa) (hx : t.past[i]? = some p) (enl : nl = t.layers.length) (enp : np = t.past.length) (ht : t.ok 999999) (hm : m.ok) : AC Tryz.prog 143 ⟨[.pointer (some ⟨bx, 0, none⟩), .agg ⟨m.c⟩, .pointer (some ⟨bp, 0 + i * 7, none⟩)]⟩ (stars [pt bx (blk (SC t la nl lc (some ⟨bp, 0, none⟩) np pc) 162), own 96 4 la nl lc ((t.layers).flatMap Ly.c), own 98 7 (some ⟨bp, 0, none⟩) np pc ((t.past).flatMap Pa.c)]) (Outs (fun _ : Option Addr × Nat × Option Addr × Nat => True) (fun _ => AvV (lLandR t m i p)) (fun x => LvB 162 96 98 bx (lLandR t m i p) x)) := by
 subst enl enp
 have hn : t.layers.length ≤ 1000000 ∧ t.past.length ≤ 1000000 := ⟨Nat.le_trans ht.nl (by decide), Nat.le_trans ht.np (by decide)⟩
 have hnl := hn.1; have hnp := hn.2; have hnl9 := ht.nl; have hnp9 := ht.np
 obtain ⟨hm1, hm2⟩ := hm
 have hi := (List.getElem?_eq_some_iff.1 hx).1
 obtain ⟨hp1, hp2, hp3, hp4⟩ := ht.pa i p hx
 have hlq := lotQ_i64 ht.ly hp1
 refine eo Tryz.func143 fun β => ?_
 refine sr ?_
 refine obx rfl fun b4 => ?_
 refine oal fun b6 => ?_
 refine sx 1 ?_
 refine kq [0, 2, 4, 6] ?_
 refine Run.seq ?_
 refine regionD HM ?_
 refine dx [0, 1, 2, 3, 4, 5, 6, 7, 8] ?_
 refine RunD.op 9 [false, false, false, true, false, true, true, true, true] rfl rfl rfl kr kr (OpJ.callRet C124 rfl rfl (ac124 bx t la _ lc (some ⟨bp, 0, none⟩) _ pc p.lot rfl hnl) tks ⟨po, ?_⟩)
 refine dx [10, 11] ?_
 refine kd [0, 2, 4, 6, 8] rfl ?_
 refine Run.seq ?_
 refine rg 2 [0, 2, 4, 6, 8, 22] ?_
 refine cnd rfl (fun h1 => ?_) fun h1 => ?_
 refine rg 5 [6, 7] ?_
 refine Run.ret ?_
 have hres : lLandR t m i p = .ok _ := (by unfold lLandR; rw [if_pos (by assumption)]); refine ret_out (la, lc, (some ⟨bp, 0, none⟩), pc) (.cellA T43 rfl pk (by rfl) (.tmp rfl .nil)) trivial (by rw [hres]; rfl) ?_; rw [hres]; exact gv
 refine Run.skip ?_
 refine Run.seq ?_
 refine regionD HM ?_
 refine dx [0, 1, 2, 3, 4, 5, 6] ?_
 refine RunD.op 7 [false, false, false, true, false, false, false] rfl rfl rfl kr kr (OpJ.callRet C126 rfl rfl (ac126 _ _ _ hm2 hlq hp1) .nil ⟨po, ?_⟩)
 refine dx [8] ?_
 refine kd [0, 2, 4, 6, 9] rfl ?_
 refine sr ?_
 refine sx 6 ?_
 refine RunL.callX C121 rfl rfl rfl (ac121 bx t la _ lc (some ⟨bp, 0, none⟩) _ pc p.lot 0 (partN m.cost (lotQ t p) p.qty) rfl hnl) tks fun ⟨la2, lc2⟩ _ => ?_
 refine kq [4, 6, 9] ?_
 refine sr ?_
 refine sx 4 ?_
 refine RunL.op rfl rfl (OpJ.sub rfl rfl ?_)
 refine sx 3 ?_
 refine kq [6, 7] ?_
 refine Run.ret ?_
 have hres : lLandR t m i p = .ok _ := (by unfold lLandR; rw [if_neg (by assumption)]); refine ret_out (la2, lc2, (some ⟨bp, 0, none⟩), pc) (.cellA T43 rfl pk (by rfl) (.tmp rfl .nil)) trivial (by rw [hres]; rfl) ?_; rw [hres]; exact gv
theorem ac84 (bx : Nat) (t : Sk) (la : Option Addr) (nl lc : Nat) (pa : Option Addr) (np pc : Nat) (m : Mv) (g : FuncId) (Cg : CI Tryz.prog g) (R : Nat → Pa → Except Int (Sk × Co)) (kind : Int) (b2 b3 : Nat) (enp : np = t.past.length) (hnp : t.past.length ≤ 1000000) (hg : ∀ (bp i : Nat) (p : Pa), pa = some ⟨bp, 0, none⟩ → t.past[i]? = some p → AC Tryz.prog g ⟨[.pointer (some ⟨bx, 0, none⟩), .agg ⟨m.c⟩, .pointer (some ⟨bp, 0 + i * 7, none⟩)]⟩ (stars [pt bx (blk (SC t la nl lc pa np pc) 162), own 96 4 la nl lc ((t.layers).flatMap Ly.c), own 98 7 pa np pc ((t.past).flatMap Pa.c)]) (Outs (fun _ : Option Addr × Nat × Option Addr × Nat => True) (fun _ => AvV (R i p)) (fun x => LvB 162 96 98 bx (R i p) x))) : AC Tryz.prog 138 ⟨[I kind, .func (.func g) ⟨[.pointer (some ⟨bx, 0, none⟩)]⟩ ⟨[]⟩, .pointer (some ⟨b2, 0, none⟩), .pointer (some ⟨b3, 0, none⟩)]⟩ (stars [pt b2 (blk [.pointer (some ⟨bx, 0, none⟩)] 158), pt b3 (blk m.c 35), pt bx (blk (SC t la nl lc pa np pc) 162), own 96 4 la nl lc ((t.layers).flatMap Ly.c), own 98 7 pa np pc ((t.past).flatMap Pa.c)]) (Outs (fun _ : Option Addr × Nat × Option Addr × Nat => True) (fun _ => AvV (lRef kind t m R)) (fun x => LvB 162 96 98 bx (lRef kind t m R) x)) := by
 subst enp
 refine eo Tryz.func138 fun β => ?_
 refine sr ?_
 refine oal fun b6 => ?_
 refine sx 1 ?_
 refine kq [0, 1, 2, 3, 6] ?_
 refine sr ?_
 refine sx 4 ?_
 refine RunL.call C50 rfl rfl rfl (ac50 bx t la nl lc pa _ pc kind m.ref rfl hnp) tks ?_
 rcases hf : findI (isPast kind m.ref) t.past with _ | ⟨i, p⟩
 refine sx 1 ?_
 refine kq [1, 3, 6, 8] ?_
 refine Run.seq ?_
 refine Run.block ?_
 refine rg 3 [1, 3, 6, 8, 14] ?_
 refine Run.true rfl ?_
 refine rg 3 [6, 7] ?_
 refine Run.ret ?_
 have hres : lRef kind t m R = .error 28 := (by unfold lRef refd; rw [hf]); refine ret_out (none, 0, none, 0) (.cellA T43 rfl pk (by rfl) (.tmp rfl .nil)) trivial (by rw [hres]; rfl) ?_; rw [hres]; exact gv
 obtain ⟨hx, _⟩ := findI_some hf
 have hi := (List.getElem?_eq_some_iff.1 hx).1
 refine RunL.ownAddr pk (flat_ne (k := 7) (fun _ => rfl) (by decide) hx) fun b e hcap => ?_
 subst e
 simp only [ptrOf]
 refine sx 1 ?_
 refine kq [1, 3, 6, 8] ?_
 refine Run.seq ?_
 refine Run.block ?_
 refine rg 3 [1, 3, 6, 8, 14] ?_
 refine Run.false rfl ?_
 refine Run.seq ?_
 refine regionD HM ?_
 refine dx [0, 1, 2, 3, 4, 5, 6, 7, 8, 9] ?_
 refine tk 10 rfl rfl rfl (DetJ.sub rfl rfl) ?_
 refine dx [11, 12] ?_
 refine kd [1, 3, 6, 8, 18] rfl ?_
 refine cnd rfl (fun h1 => ?_) fun h1 => ?_
 refine rg 3 [6, 7] ?_
 refine Run.ret ?_
 have hres : lRef kind t m R = .error 21 := (by unfold lRef refd; rw [hf]; simp only; rw [if_pos (by assumption)]); refine ret_out (none, 0, none, 0) (.cellA T43 rfl pk (by rfl) (.tmp rfl .nil)) trivial (by rw [hres]; rfl) ?_; rw [hres]; exact gv
 refine Run.skip ?_
 refine sr ?_
 refine sx 3 ?_
 refine RunL.callX Cg rfl rfl rfl (hg b i p rfl hx) tks fun ⟨la2, lc2, pa2, pc2⟩ _ => ?_
 rcases hR : R i p with e | ⟨t2, c2⟩
 refine sx 4 ?_
 refine kq [6, 7] ?_
 refine Run.ret ?_
 have hres : lRef kind t m R = R i p := (by unfold lRef refd; rw [hf]; simp only; rw [if_neg (by assumption)]); refine ret_out (la2, lc2, pa2, pc2) (.cellA T43 rfl pk (by rfl) (.tmp rfl .nil)) trivial (by rw [hres, hR]; rfl) ?_; rw [hres, hR]; exact gv
 refine sx 4 ?_
 refine kq [6, 7] ?_
 refine Run.ret ?_
 have hres : lRef kind t m R = R i p := (by unfold lRef refd; rw [hf]; simp only; rw [if_neg (by assumption)]); refine ret_out (la2, lc2, pa2, pc2) (.cellA T43 rfl pk (by rfl) (.tmp rfl .nil)) trivial (by rw [hres, hR]; rfl) ?_; rw [hres, hR]; exact gv
theorem ac51 (bx : Nat) (t : Sk) (la : Option Addr) (nl lc : Nat) (pa : Option Addr) (np pc : Nat) (m : Mv) (enl : nl = t.layers.length) (enp : np = t.past.length) (ht : t.ok 999999) (hm : m.ok) (hone : m.kind = 4 → 1 ≤ m.qty) : AC Tryz.prog 108 ⟨[.pointer (some ⟨bx, 0, none⟩), .agg ⟨m.c⟩]⟩ (stars [pt bx (blk (SC t la nl lc pa np pc) 162), own 96 4 la nl lc ((t.layers).flatMap Ly.c), own 98 7 pa np pc ((t.past).flatMap Pa.c)]) (Outs (fun _ : Option Addr × Nat × Option Addr × Nat => True) (fun _ => AvV (lDo t m)) (fun x => LvB 162 96 98 bx (lDo t m) x)) := by
 subst enl enp
 have hn : t.layers.length ≤ 1000000 ∧ t.past.length ≤ 1000000 := ⟨Nat.le_trans ht.nl (by decide), Nat.le_trans ht.np (by decide)⟩
 have hnl := hn.1; have hnp := hn.2; have hnl9 := ht.nl; have hnp9 := ht.np
 obtain ⟨hm1, hm2⟩ := hm
 refine eo Tryz.func108 fun β => ?_
 refine sr ?_
 refine RunL.op rfl rfl (OpJ.box rfl rfl fun b2 => ?_)
 refine obx rfl fun b3 => ?_
 refine oal fun b4 => ?_
 refine sx 1 ?_
 refine kq [2, 3, 4] ?_
 refine rg 2 [2, 3, 4, 6] ?_
 refine Run.seq ?_
 refine rg 2 [2, 3, 4, 6, 9] ?_
 refine Run.block ?_
 refine rg 2 [2, 3, 4, 6, 9, 10] ?_
 refine cnd rfl (fun h1 => ?_) fun h1 => ?_
 refine sr ?_
 refine sx 2 ?_
 refine RunL.callX C85 rfl rfl rfl (ac85 bx t la _ lc pa _ pc m rfl rfl ht ⟨hm1, hm2⟩) tks fun x _ => ?_
 rcases hres : lRecv t m with e | ⟨t2, c2⟩
 refine sx 4 ?_
 refine kq [4, 5] ?_
 refine Run.ret ?_
 have hd := lDo_1 (t := t) (m := m) (by assumption); refine ret_out x (.cellA T43 rfl pk (by rfl) (.tmp rfl .nil)) trivial (by rw [hd, hres]; rfl) ?_; rw [hd, hres]; exact gv
 refine sx 4 ?_
 refine kq [4, 5] ?_
 refine Run.ret ?_
 have hd := lDo_1 (t := t) (m := m) (by assumption); refine ret_out x (.cellA T43 rfl pk (by rfl) (.tmp rfl .nil)) trivial (by rw [hd, hres]; rfl) ?_; rw [hd, hres]; exact gv
 refine rg 2 [2, 3, 4, 6, 9, 17] ?_
 refine cnd rfl (fun h2 => ?_) fun h2 => ?_
 refine sr ?_
 refine sx 2 ?_
 refine RunL.callX C86 rfl rfl rfl (ac86 bx t la _ lc pa _ pc m rfl rfl ht ⟨hm1, hm2⟩) tks fun x _ => ?_
 rcases hres : lIssue t m with e | ⟨t2, c2⟩
 refine sx 4 ?_
 refine kq [4, 5] ?_
 refine Run.ret ?_
 have hd := lDo_2 (t := t) (m := m) (by assumption); refine ret_out x (.cellA T43 rfl pk (by rfl) (.tmp rfl .nil)) trivial (by rw [hd, hres]; rfl) ?_; rw [hd, hres]; exact gv
 refine sx 4 ?_
 refine kq [4, 5] ?_
 refine Run.ret ?_
 have hd := lDo_2 (t := t) (m := m) (by assumption); refine ret_out x (.cellA T43 rfl pk (by rfl) (.tmp rfl .nil)) trivial (by rw [hd, hres]; rfl) ?_; rw [hd, hres]; exact gv
 refine rg 2 [2, 4, 6, 9, 24] ?_
 refine cnd rfl (fun h3 => ?_) fun h3 => ?_
 refine sr ?_
 refine sx 3 ?_
 refine RunL.callX C84 rfl rfl rfl (ac84 bx t la _ lc pa _ pc m 141 C87 (lBackR t m) 2 b2 b3 rfl hnp (fun bp i p e hx => by subst e; exact ac87 bx t la _ lc bp _ pc m i p hx rfl rfl ht ⟨hm1, hm2⟩)) tks fun x _ => ?_
 rcases hres : lRef 2 t m (lBackR t m) with e | ⟨t2, c2⟩
 refine sx 4 ?_
 refine kq [4, 5] ?_
 refine Run.ret ?_
 have hd := lDo_3 (t := t) (m := m) (by assumption); refine ret_out x (.cellA T43 rfl pk (by rfl) (.tmp rfl .nil)) trivial (by rw [hd, lBack, hres]; rfl) ?_; rw [hd, lBack, hres]; exact gv
 refine sx 4 ?_
 refine kq [4, 5] ?_
 refine Run.ret ?_
 have hd := lDo_3 (t := t) (m := m) (by assumption); refine ret_out x (.cellA T43 rfl pk (by rfl) (.tmp rfl .nil)) trivial (by rw [hd, lBack, hres]; rfl) ?_; rw [hd, lBack, hres]; exact gv
 refine rg 2 [2, 4, 6, 9, 32] ?_
 refine cnd rfl (fun h4 => ?_) fun h4 => ?_
 refine sr ?_
 refine sx 3 ?_
 refine RunL.callX C84 rfl rfl rfl (ac84 bx t la _ lc pa _ pc m 142 C88 (lSendR t m) 1 b2 b3 rfl hnp (fun bp i p e hx => by subst e; exact ac88 bx t la _ lc bp _ pc m i p hx rfl rfl ht ⟨hm1, hm2⟩ (hone (by assumption)))) tks fun x _ => ?_
 rcases hres : lRef 1 t m (lSendR t m) with e | ⟨t2, c2⟩
 refine sx 4 ?_
 refine kq [4, 5] ?_
 refine Run.ret ?_
 have hd := lDo_4 (t := t) (m := m) (by assumption); refine ret_out x (.cellA T43 rfl pk (by rfl) (.tmp rfl .nil)) trivial (by rw [hd, lSend, hres]; rfl) ?_; rw [hd, lSend, hres]; exact gv
 refine sx 4 ?_
 refine kq [4, 5] ?_
 refine Run.ret ?_
 have hd := lDo_4 (t := t) (m := m) (by assumption); refine ret_out x (.cellA T43 rfl pk (by rfl) (.tmp rfl .nil)) trivial (by rw [hd, lSend, hres]; rfl) ?_; rw [hd, lSend, hres]; exact gv
 refine rg 2 [2, 4, 6, 40] ?_
 refine cnd rfl (fun h5 => ?_) fun h5 => ?_
 refine sr ?_
 refine sx 3 ?_
 refine RunL.callX C84 rfl rfl rfl (ac84 bx t la _ lc pa _ pc m 143 C89 (lLandR t m) 1 b2 b3 rfl hnp (fun bp i p e hx => by subst e; exact ac89 bx t la _ lc bp _ pc m i p hx rfl rfl ht ⟨hm1, hm2⟩)) tks fun x _ => ?_
 rcases hres : lRef 1 t m (lLandR t m) with e | ⟨t2, c2⟩
 refine sx 4 ?_
 refine kq [4, 5] ?_
 refine Run.ret ?_
 have hd := lDo_5 (t := t) (m := m) (by assumption); refine ret_out x (.cellA T43 rfl pk (by rfl) (.tmp rfl .nil)) trivial (by rw [hd, lLand, hres]; rfl) ?_; rw [hd, lLand, hres]; exact gv
 refine sx 4 ?_
 refine kq [4, 5] ?_
 refine Run.ret ?_
 have hd := lDo_5 (t := t) (m := m) (by assumption); refine ret_out x (.cellA T43 rfl pk (by rfl) (.tmp rfl .nil)) trivial (by rw [hd, lLand, hres]; rfl) ?_; rw [hd, lLand, hres]; exact gv
 refine Run.skip ?_
 refine rg 3 [4, 5] ?_
 refine Run.ret ?_
 have hres := lDo_0 (t := t) (m := m) (by refine ⟨?_, ?_, ?_, ?_, ?_⟩ <;> assumption); refine ret_out (none, 0, none, 0) (.cellA T43 rfl pk (by rfl) (.tmp rfl .nil)) trivial (by rw [hres]; rfl) ?_; rw [hres]; exact gv
theorem ac52 (bx : Nat) (t : Sk) (la : Option Addr) (nl lc : Nat) (pa : Option Addr) (np pc : Nat) (c : Co) (enl : nl = t.layers.length) (hnl : t.layers.length ≤ 1000000) : AC Tryz.prog 109 ⟨[.pointer (some ⟨bx, 0, none⟩), .agg ⟨c.c⟩]⟩ (stars [pt bx (blk (SC t la nl lc pa np pc) 162), own 96 4 la nl lc ((t.layers).flatMap Ly.c)]) (Ret (Bo (overB t c)) [pt bx (blk (SC t la nl lc pa np pc) 162), own 96 4 la nl lc ((t.layers).flatMap Ly.c)]) := by
 subst enl
 refine eo Tryz.func109 fun β => ?_
 refine sr ?_
 refine obx rfl fun b3 => ?_
 refine sx 1 ?_
 refine kq [0, 3] ?_
 refine Run.seq ?_
 refine rg 7 [0, 3, 11, 12, 13] ?_
 refine Run.block ?_
 refine Run.loop (fun mm E L => ∃ i : Nat, mm = t.layers.length - i ∧ i ≤ t.layers.length ∧ (∀ j y, j < i → t.layers[j]? = some y → farB y.value = false) ∧ E = [(0, .pointer (some ⟨bx, 0, none⟩)), (3, .pointer (some ⟨b3, 0, none⟩)), (11, .slice la t.layers.length lc), (12, I t.layers.length), (13, I i)] ∧ L = [pt b3 (blk c.c 32), pt bx (blk (SC t la t.layers.length lc pa np pc) 162), own 96 4 la t.layers.length lc ((t.layers).flatMap Ly.c)]) ⟨_, 0, rfl, Nat.zero_le _, fun _ _ h => by omega, rfl, rfl⟩ ?_
 rintro _ _ _ ⟨i, rfl, hi, hI0, rfl, rfl⟩
 refine rg 1 [0, 3, 11, 12, 13, 14] ?_
 refine Run.seq ?_
 refine cnd rfl (fun h1 => ?_) fun h1 => ?_
 refine Run.skip ?_
 refine Run.seq ?_
 refine Run.block ?_
 refine sr ?_
 obtain ⟨x, hx⟩ := get_ex (xs := t.layers) (i := i) (by omega)
 refine RunL.ownAddr pk (flat_ne (k := 4) (fun _ => rfl) (by decide) hx) fun b e hcap => ?_
 subst e
 refine sx 2 ?_
 refine oal fun b6 => ?_
 refine sx 1 ?_
 refine kq [0, 3, 6, 11, 12, 13] ?_
 refine sr ?_
 refine sx 2 ?_
 refine RunL.call C90 rfl rfl rfl (ac90 _) .nil ?_
 refine kq [0, 3, 11, 12, 13, 19] ?_
 refine cnd rfl (fun h2 => ?_) fun h2 => ?_
 refine rg 1 [4] ?_
 exact .ret (ret_one (.tmp rfl .nil) (congrArg Bo (overB_far hx h2).symm) gv)
 refine Run.skip ?_
 refine Run.region ?_
 refine sx 2 ?_
 exact RunL.next (Keep.sub (kt (ks := [0, 3, 11, 12, 13]) rfl)) _ ⟨_, by omega, i + 1, rfl, by omega, (fun j y hj hy => (by rcases Nat.lt_succ_iff_lt_or_eq.1 hj with h | rfl; exact hI0 j y h hy; rw [hx] at hy; cases hy; exact h2)), rfl, rfl⟩ gv
 refine Run.exit ?_
 refine sr ?_
 refine sx 7 ?_
 refine spl 27 rfl (fun g3 => ?_) fun g3 => ?_
 refine sx 13 ?_
 refine kq [4] ?_
 refine Run.ret ?_
 exact ret_one (.tmp rfl .nil) (congrArg Bo (by rw [overB_rest (fun j y hj => hI0 j y (by omega))]; simp [*])) gv
 refine sx 5 ?_
 refine RunL.callG C90 rfl rfl rfl rfl rfl (ac90 _) .nil ?_
 refine sx 2 ?_
 refine spl 35 rfl (fun g4 => ?_) fun g4 => ?_
 refine sx 5 ?_
 refine kq [4] ?_
 refine Run.ret ?_
 exact ret_one (.tmp rfl .nil) (congrArg Bo (by rw [overB_rest (fun j y hj => hI0 j y (by omega))]; simp [*])) gv
 refine sx 2 ?_
 refine RunL.callG C90 rfl rfl rfl rfl rfl (ac90 _) .nil ?_
 refine sx 2 ?_
 refine kq [4] ?_
 refine Run.ret ?_
 exact ret_one (.tmp rfl .nil) (congrArg Bo (by rw [overB_rest (fun j y hj => hI0 j y (by omega))]; simp [*])) gv
theorem ac23 (s : Sk) (m : Mv) (la : Option Addr) (lc : Nat) (pa : Option Addr) (pc : Nat) (RL RP : HP) (hs : s.ok 999999) (hm : m.ok) (hRL : RdS RL la (s.layers.flatMap Ly.c)) (hRP : RdS RP pa (s.past.flatMap Pa.c)) (R0 : HP) (hR0 : Rd R0 ⟨0, 0, none⟩ lensC) : AC Tryz.prog 75 ⟨[.agg ⟨s.c la lc pa pc⟩, .agg ⟨m.c⟩]⟩ (stars [RL, RP, R0]) (Outs (fun _ : Option Addr × Nat × Option Addr × Nat => True) (fun x => StV (lStep s m) x) (fun x => StB 96 98 (lStep s m) x ++ [RL, RP, R0])) := by
 have hn : s.layers.length ≤ 1000000 ∧ s.past.length ≤ 1000000 := ⟨Nat.le_trans hs.nl (by decide), Nat.le_trans hs.np (by decide)⟩
 have hnl := hn.1; have hnp := hn.2
 refine eo Tryz.func75 fun β => ?_
 refine sr ?_
 refine obx rfl fun b2 => ?_
 refine obx rfl fun b3 => ?_
 refine oal fun b4 => ?_
 refine oal fun b5 => ?_
 refine sx 1 ?_
 refine kq [2, 3, 4, 5] ?_
 refine sr ?_
 refine sx 1 ?_
 refine RunL.callX C49 rfl rfl rfl (ac49 s la lc pa pc RL RP hn hRL hRP) tks fun ⟨b, bl, bp⟩ _ => ?_
 refine sx 1 ?_
 refine kq [3, 4, 5, 7] ?_
 refine Run.seq ?_
 refine sr ?_
 refine sx 1 ?_
 refine RunL.call C30 rfl rfl rfl (ac30 _ _ hR0) tks ?_
 refine sx 1 ?_
 refine kq [3, 4, 5, 7, 8] ?_
 refine rg 2 [3, 4, 5, 7, 8, 14] ?_
 refine cnd rfl (fun h1 => ?_) fun h1 => ?_
 refine rg 6 [4, 5, 6] ?_
 refine Run.ret ?_
 have hres2 : lStep s m = .error m.one := (by unfold lStep; rw [if_pos h1]); refine ret_out (none, 0, none, 0) (.cellA T28 rfl pk (by rfl) (.cellA T43 rfl pk (by rfl) (.tmp rfl .nil))) trivial (by rw [hres2]; rfl) ?_; rw [hres2]; exact gv
 refine Run.skip ?_
 refine Run.seq ?_
 refine sr ?_
 refine sx 3 ?_
 refine RunL.call C50 rfl rfl rfl (ac50 b s _ _ _ _ _ _ 0 m.seq rfl hnp) tks ?_
 refine sx 1 ?_
 refine kq [3, 4, 5, 7, 22] ?_
 refine cnd rfl (fun h2 => ?_) fun h2 => ?_
 refine rg 5 [4, 5, 6] ?_
 refine Run.ret ?_
 have hres2 : lStep s m = .error 8 := (by unfold lStep; rw [if_neg h1, if_pos (by rw [← ptrOf_isSome (a := ⟨bp, 0, none⟩) (k := 7)]; exact h2)]); refine ret_out (none, 0, none, 0) (.cellA T28 rfl pk (by rfl) (.cellA T43 rfl pk (by rfl) (.tmp rfl .nil))) trivial (by rw [hres2]; rfl) ?_; rw [hres2]; exact gv
 refine Run.skip ?_
 refine sr ?_
 refine sx 2 ?_
 refine RunL.callX C51 rfl rfl rfl (ac51 b s _ _ _ _ _ _ m rfl rfl hs hm (fun hk => ((MG.of (Decidable.not_not.1 h1)).q.2 (by omega)).1)) tks fun ⟨la2, lc2, pa2, pc2⟩ _ => ?_
 rcases hres : lDo s m with e | ⟨t, c⟩
 refine sx 5 ?_
 refine kq [3, 4, 5, 6, 7] ?_
 refine Run.seq ?_
 refine sr ?_
 refine sx 2 ?_
 first | refine RunL.set (congrArg Value.bool (decide_eq_true (show errOf (Except.error _) ≠ 0 from lDo_err hres))) ?_ | skip
 refine kq [3, 4, 5, 6, 7, 32] ?_
 refine Run.true rfl ?_
 refine rg 6 [4, 5, 6] ?_
 refine Run.ret ?_
 have hres2 : lStep s m = .error e := (by unfold lStep; rw [if_neg h1, if_neg (by rw [← ptrOf_isSome (a := ⟨bp, 0, none⟩) (k := 7)]; simp [h2]), hres]); refine ret_out (none, 0, none, 0) (.cellA T28 rfl pk (by rfl) (.cellA T43 rfl pk (by rfl) (.tmp rfl .nil))) trivial (by rw [hres2]; rfl) ?_; rw [hres2]; exact gv
 have hto := lDo_ok hs hm hres
 have hnt : (summed t c).layers.length ≤ 1000000 := hto.nl
 refine sx 5 ?_
 refine kq [3, 4, 5, 6, 7] ?_
 refine Run.seq ?_
 refine sr ?_
 refine sx 2 ?_
 first | refine RunL.set (congrArg Value.bool (decide_eq_true (show errOf (Except.error _) ≠ 0 from lDo_err hres))) ?_ | skip
 refine kq [3, 4, 5, 6, 7, 32] ?_
 refine Run.false rfl ?_
 refine Run.skip ?_
 refine sr ?_
 refine sx 3 ?_
 refine RunL.op rfl rfl (OpJ.store1 T3 rfl rfl rfl up (by show 0 < 4; decide) ?_)
 refine kq [4, 5, 7] ?_
 refine Run.seq ?_
 refine regionD HM ?_
 refine dx [0, 1, 2, 3, 4, 5, 6] ?_
 refine tk 7 rfl rfl rfl (DetJ.add rfl rfl) ?_
 refine dx [8, 9, 10] ?_
 refine RunD.op 11 [false, false, false, false, false, false, false, false, false, false, false] rfl rfl rfl kr kr (OpJ.store1 T3 rfl rfl rfl up (by simp) ⟨po, ?_⟩)
 refine kd [4, 5, 7] rfl ?_
 refine Run.seq ?_
 refine regionD HM ?_
 refine dx [0, 1, 2, 3, 4, 5, 6] ?_
 refine tk 7 rfl rfl rfl (DetJ.add rfl rfl) ?_
 refine dx [8, 9, 10] ?_
 refine RunD.op 11 [false, false, false, false, false, false, false, false, false, false, false] rfl rfl rfl kr kr (OpJ.store1 T3 rfl rfl rfl up (by simp) ⟨po, ?_⟩)
 refine kd [4, 5, 7] rfl ?_
 refine Run.seq ?_
 refine sr ?_
 refine sx 2 ?_
 refine RunL.call C52 rfl rfl rfl (ac52 b (summed t c) _ _ _ _ _ _ { c with seq := m.seq } rfl hnt) tks ?_
 refine kq [4, 5, 7, 63] ?_
 refine cnd rfl (fun h3 => ?_) fun h3 => ?_
 refine rg 5 [4, 5, 6] ?_
 refine Run.ret ?_
 have hres2 : lStep s m = .error 4 := (by unfold lStep; rw [if_neg h1, if_neg (by rw [← ptrOf_isSome (a := ⟨bp, 0, none⟩) (k := 7)]; simp [h2]), hres]; exact if_pos (by assumption)); refine ret_out (none, 0, none, 0) (.cellA T28 rfl pk (by rfl) (.cellA T43 rfl pk (by rfl) (.tmp rfl .nil))) trivial (by rw [hres2]; rfl) ?_; rw [hres2]; exact gv
 refine Run.skip ?_
 refine Run.seq ?_
 refine regionD HM ?_
 refine dx [0, 1, 2, 3, 4] ?_
 refine dsw 5 [true, false, false, false, false] ?_
 refine dsw 6 [false] ?_
 refine dx [7] ?_
 refine kd [4, 5, 6] rfl ?_
 refine Run.ret ?_
 have hres2 : lStep s m = .ok (summed t c, { c with seq := m.seq }) := (by unfold lStep; rw [if_neg h1, if_neg (by rw [← ptrOf_isSome (a := ⟨bp, 0, none⟩) (k := 7)]; simp [h2]), hres]; exact if_neg (by simp only [overB] at *; simp only [*]; decide)); refine ret_out (la2, lc2, pa2, pc2) (.cellA T28 rfl pk (by rfl) (.cellA T43 rfl pk (by rfl) (.tmp rfl .nil))) trivial (by rw [hres2]; rfl) ?_; rw [hres2]; exact gv
theorem ac13 (k p : Int) : AC Tryz.prog 31 ⟨[I k, I p]⟩ (stars []) (Ret (.tuple ⟨[.agg ⟨(start0 k p).c none 0 none 0⟩, I (startE k p)]⟩) []) := by
 refine eo Tryz.func31 fun β => ?_
 refine sr ?_
 refine oal fun b4 => ?_
 refine sx 1 ?_
 refine kq [0, 1, 4] ?_
 refine Run.seq ?_
 refine Run.block ?_
 refine sr ?_
 refine sx 3 ?_
 refine spl 9 rfl (fun g1 => ?_) fun g1 => ?_
 refine sx 4 ?_
 refine kq [0, 1, 4, 6] ?_
 refine Run.true rfl ?_
 refine rg 3 [4, 5] ?_
 refine Run.ret ?_
 exact ret_one (.cellA T28 rfl pk (by rfl) (.tmp rfl .nil)) (by rw [start0_c]; first | (simp [tup, startE, *]; done) | (exfalso; simp_all; done) | (simp [tup, startE, *]; omega)) gv
 refine sx 4 ?_
 refine kq [0, 1, 4, 6] ?_
 refine cnd rfl (fun h2 => ?_) fun h2 => ?_
 refine rg 3 [4, 5] ?_
 refine Run.ret ?_
 exact ret_one (.cellA T28 rfl pk (by rfl) (.tmp rfl .nil)) (by rw [start0_c]; first | (simp [tup, startE, *]; done) | (exfalso; simp_all; done) | (simp [tup, startE, *]; omega)) gv
 refine sr ?_
 refine sx 3 ?_
 refine spl 17 rfl (fun g3 => ?_) fun g3 => ?_
 refine sx 4 ?_
 refine kq [0, 1, 4, 14] ?_
 refine Run.true rfl ?_
 refine rg 3 [4, 5] ?_
 refine Run.ret ?_
 exact ret_one (.cellA T28 rfl pk (by rfl) (.tmp rfl .nil)) (by rw [start0_c]; first | (simp [tup, startE, *]; done) | (exfalso; simp_all; done) | (simp [tup, startE, *]; omega)) gv
 refine sx 4 ?_
 refine kq [0, 1, 4, 14] ?_
 refine cnd rfl (fun h4 => ?_) fun h4 => ?_
 refine rg 3 [4, 5] ?_
 refine Run.ret ?_
 exact ret_one (.cellA T28 rfl pk (by rfl) (.tmp rfl .nil)) (by rw [start0_c]; first | (simp [tup, startE, *]; done) | (exfalso; simp_all; done) | (simp [tup, startE, *]; omega)) gv
 refine rg 3 [1, 4, 22] ?_
 refine cnd rfl (fun h5 => ?_) fun h5 => ?_
 refine rg 4 [4, 5] ?_
 refine Run.ret ?_
 exact ret_one (.cellA T28 rfl pk (by rfl) (.tmp rfl .nil)) (by rw [start0_c]; first | (simp [tup, startE, *]; done) | (exfalso; simp_all; done) | (simp [tup, startE, *]; omega)) gv
 refine Run.skip ?_
 refine rg 3 [4, 5] ?_
 refine Run.ret ?_
 exact ret_one (.cellA T28 rfl pk (by rfl) (.tmp rfl .nil)) (by rw [start0_c]; first | (simp [tup, startE, *]; done) | (exfalso; simp_all; done) | (simp [tup, startE, *]; omega)) gv
theorem ac19 (k : Int) (s : Sk) (m : Mv) (la : Option Addr) (lc : Nat) (pa : Option Addr) (pc : Nat) (RL RP : HP) (hs : s.ok 999999) (hm : m.ok) (hRL : RdS RL la (s.layers.flatMap Ly.c)) (hRP : RdS RP pa (s.past.flatMap Pa.c)) (R0 : HP) (hR0 : Rd R0 ⟨0, 0, none⟩ lensC) : AC Tryz.prog 58 ⟨[I k, .agg ⟨s.c la lc pa pc⟩, .agg ⟨m.c⟩]⟩ (stars [RL, RP, R0]) (Outs (fun _ : Option Addr × Nat × Option Addr × Nat => True) (fun x => StV (stepM k s m) x) (fun x => StB 96 98 (stepM k s m) x ++ [RL, RP, R0])) := by
 refine eo Tryz.func58 fun β => ?_
 refine sr ?_
 refine obx rfl fun b4 => ?_
 refine obx rfl fun b5 => ?_
 refine oal fun b6 => ?_
 refine oal fun b7 => ?_
 refine sx 1 ?_
 refine kq [0, 4, 5, 6, 7] ?_
 refine Run.seq ?_
 refine rg 1 [4, 5, 6, 7, 9] ?_
 refine Run.block ?_
 refine rg 2 [4, 5, 6, 7, 9, 10] ?_
 refine cnd rfl (fun h1 => ?_) fun h1 => ?_
 refine sr ?_
 refine sx 2 ?_
 refine RunL.callX C20 rfl rfl rfl (ac20 s m la lc pa pc RL RP hs hm hRL hRP R0 hR0) tks fun x _ => ?_
 rcases hres : fStep s m with e | ⟨t, c⟩
 refine sx 6 ?_
 refine kq [6, 7, 8] ?_
 refine Run.ret ?_
 refine ret_out x (.cellA T28 rfl pk (by rfl) (.cellA T43 rfl pk (by rfl) (.tmp rfl .nil))) trivial (by rw [stepM_1 (by assumption), hres]; rfl) ?_; rw [stepM_1 (by assumption), hres]; exact gv
 refine sx 6 ?_
 refine kq [6, 7, 8] ?_
 refine Run.ret ?_
 refine ret_out x (.cellA T28 rfl pk (by rfl) (.cellA T43 rfl pk (by rfl) (.tmp rfl .nil))) trivial (by rw [stepM_1 (by assumption), hres]; rfl) ?_; rw [stepM_1 (by assumption), hres]; exact gv
 refine rg 2 [4, 5, 6, 7, 9, 18] ?_
 refine cnd rfl (fun h2 => ?_) fun h2 => ?_
 refine sr ?_
 refine sx 2 ?_
 refine RunL.callX C21 rfl rfl rfl (ac21 s m la lc pa pc RL RP hs hm hRL hRP R0 hR0) tks fun x _ => ?_
 rcases hres : aStep s m with e | ⟨t, c⟩
 refine sx 6 ?_
 refine kq [6, 7, 8] ?_
 refine Run.ret ?_
 refine ret_out x (.cellA T28 rfl pk (by rfl) (.cellA T43 rfl pk (by rfl) (.tmp rfl .nil))) trivial (by rw [stepM_2 (by assumption), hres]; rfl) ?_; rw [stepM_2 (by assumption), hres]; exact gv
 refine sx 6 ?_
 refine kq [6, 7, 8] ?_
 refine Run.ret ?_
 refine ret_out x (.cellA T28 rfl pk (by rfl) (.cellA T43 rfl pk (by rfl) (.tmp rfl .nil))) trivial (by rw [stepM_2 (by assumption), hres]; rfl) ?_; rw [stepM_2 (by assumption), hres]; exact gv
 refine rg 2 [4, 5, 6, 7, 9, 26] ?_
 refine cnd rfl (fun h3 => ?_) fun h3 => ?_
 refine sr ?_
 refine sx 2 ?_
 refine RunL.callX C22 rfl rfl rfl (ac22 s m la lc pa pc RL RP hs hm hRL hRP R0 hR0) tks fun x _ => ?_
 rcases hres : sStep s m with e | ⟨t, c⟩
 refine sx 6 ?_
 refine kq [6, 7, 8] ?_
 refine Run.ret ?_
 refine ret_out x (.cellA T28 rfl pk (by rfl) (.cellA T43 rfl pk (by rfl) (.tmp rfl .nil))) trivial (by rw [stepM_3 (by assumption), hres]; rfl) ?_; rw [stepM_3 (by assumption), hres]; exact gv
 refine sx 6 ?_
 refine kq [6, 7, 8] ?_
 refine Run.ret ?_
 refine ret_out x (.cellA T28 rfl pk (by rfl) (.cellA T43 rfl pk (by rfl) (.tmp rfl .nil))) trivial (by rw [stepM_3 (by assumption), hres]; rfl) ?_; rw [stepM_3 (by assumption), hres]; exact gv
 refine rg 2 [4, 5, 6, 7, 34] ?_
 refine cnd rfl (fun h4 => ?_) fun h4 => ?_
 refine sr ?_
 refine sx 2 ?_
 refine RunL.callX C23 rfl rfl rfl (ac23 s m la lc pa pc RL RP hs hm hRL hRP R0 hR0) tks fun x _ => ?_
 rcases hres : lStep s m with e | ⟨t, c⟩
 refine sx 6 ?_
 refine kq [6, 7, 8] ?_
 refine Run.ret ?_
 refine ret_out x (.cellA T28 rfl pk (by rfl) (.cellA T43 rfl pk (by rfl) (.tmp rfl .nil))) trivial (by rw [stepM_4 (by assumption), hres]; rfl) ?_; rw [stepM_4 (by assumption), hres]; exact gv
 refine sx 6 ?_
 refine kq [6, 7, 8] ?_
 refine Run.ret ?_
 refine ret_out x (.cellA T28 rfl pk (by rfl) (.cellA T43 rfl pk (by rfl) (.tmp rfl .nil))) trivial (by rw [stepM_4 (by assumption), hres]; rfl) ?_; rw [stepM_4 (by assumption), hres]; exact gv
 refine Run.skip ?_
 refine rg 5 [6, 7, 8] ?_
 refine Run.ret ?_
 have hres := stepM_0 (k := k) (s := s) (m := m) (by refine ⟨?_, ?_, ?_, ?_⟩ <;> assumption); refine ret_out (none, 0, none, 0) (.cellA T28 rfl pk (by rfl) (.cellA T43 rfl pk (by rfl) (.tmp rfl .nil))) trivial (by rw [hres]; rfl) ?_; rw [hres]; exact gv
end
end Go.Proofs.YtcpghpifbgpkjaaGreatDoor

namespace Go.Proofs.YtcpghpifbgpkjaaGreatDoor
open Go Go.SL Go.Proofs
def lInsRen : Go.Shelf.Ren := { f := fun x => match x with | 21 => 36 | 27 => 55 | 28 => 56 | 35 => 71 | 39 => 86 | n => n, t := fun x => match x with | 22 => 74 | 3 => 3 | 4 => 4 | 0 => 0 | n => n, g := fun x => x }
open Go.Shelf Go.Lib in
theorem lIns : Lays2.n21 Tryz.prog lInsRen :=
  { mixed := by kernel_rfl, f21 := Eq.trans Tryz.func36 (congrArg some (by kernel_rfl)), f27 := Eq.trans Tryz.func55 (congrArg some (by kernel_rfl)), f28 := Eq.trans Tryz.func56 (congrArg some (by kernel_rfl)), f35 := Eq.trans Tryz.func71 (congrArg some (by kernel_rfl)), f39 := Eq.trans Tryz.func86 (congrArg some (by kernel_rfl)),
    t0 := Tryz.underlying0, a0 := Tryz.isAgg0, z0 := Tryz.sizeOf0, v0 := Tryz.zeroValue0, t3 := Tryz.underlying3, a3 := Tryz.isAgg3, z3 := Tryz.sizeOf3, v3 := Tryz.zeroValue3, t4 := Tryz.underlying4, a4 := Tryz.isAgg4, z4 := Tryz.sizeOf4, v4 := Tryz.zeroValue4, t22 := Tryz.underlying74, a22 := Tryz.isAgg74, z22 := Tryz.sizeOf74, v22 := Tryz.zeroValue74, i3 := by kernel_rfl }
theorem ac36n (oa : Option Addr) (cap : Nat) (os : List Int) (i : Nat) (v : Int) (vb : Nat) (hi : i ≤ os.length) (hlen : os.length ≤ 1000000) (hc63 : cap ≤ 9223372036854775807) :
    AC Tryz.prog 36 ⟨[.slice oa os.length cap, I (i : Int), .slice (some ⟨vb, 0, none⟩) 1 1]⟩ (stars [own 3 1 oa os.length cap (os.flatMap Iv), pt vb (blk [I v] 3)])
      (Outs (fun x : Option Addr × Nat => x.2 ≤ 9223372036854775807) (fun x => .slice x.1 (os.length + 1) x.2) (fun x => [own 3 1 x.1 (os.length + 1) x.2 ((insN os i v).flatMap Iv)])) := ac_insert lIns oa cap os i v vb hi hlen hc63
section
attribute [local irreducible] OpJ RunL Run RunD DetJ pt own star Rd RdS
theorem cl37b (R : HP) (oa : Option Addr) (cap : Nat) (ls : List Int) (hR : RdS R oa (ls.flatMap Iv)) (hlen : ls.length ≤ 1000000) : AC Tryz.prog 37 ⟨[.slice oa ls.length cap]⟩ (stars [R]) (Outs (fun x : Option Addr × Nat => x.2 ≤ 9223372036854775807) (fun x => .slice x.1 ls.length x.2) (fun x => [own 3 1 x.1 ls.length x.2 (ls.flatMap Iv), R])) := by
 refine eo Tryz.func37 fun β => ?_
 refine rg 1 [0] ?_
 refine Run.seq ?_
 refine rg 2 [0, 4] ?_
 refine cnd rfl (fun h1 => ?_) fun h1 => ?_
 refine sr ?_
 by_cases hne : ls.flatMap Iv ≠ []
 refine RunL.rdOpen pk hR hne fun b o e hrd => ?_
 rw [e] at h1
 cases h1
 obtain rfl : ls = [] := by
   cases ls with
   | nil => rfl
   | cons l ls => exact absurd (by simp [Iv]) hne
 refine RunL.ownNil 3 1 ?_
 refine sx 1 ?_
 refine kq [2] ?_
 exact .ret (ret_out (none, 0) (.tmp rfl .nil) (by decide) rfl gv)
 refine Run.skip ?_
 refine sr ?_
 refine RunL.op rfl rfl (OpJ.buildSlice0 nS74 fun b5 => ?_)
 refine sx 1 ?_
 refine RunL.op rfl rfl (OpJ.appendAllB nS74 nM3 rfl rfl pk pk hR (flat_len (enc := Iv) (k := 1) (fun _ => rfl) _) (by decide) (flat_one iv1 _) (by omega) (by omega) fun a7 c7 hc7 => ?_)
 simp only [Nat.zero_add, List.nil_append]
 refine sx 1 ?_
 refine kq [2] ?_
 exact .ret (ret_out (a7, c7) (.tmp rfl .nil) (hc7 (by decide)) rfl gv)
theorem ac10n (k p : Int) : AC Tryz.prog 10 ⟨[I k, I p]⟩ (stars []) (Outs (fun _ : Nat × Nat => True) (fun x => .tuple ⟨[.pointer (if startE k p = 0 then some ⟨x.1, 0, none⟩ else none), I (startE k p)]⟩) (fun x => if startE k p = 0 then [pt x.1 (blk (EgC (eg0 k p) none 0 none 0 none 0 (some ⟨x.2, 0, none⟩) 1) 76), own 61 5 (some ⟨x.2, 0, none⟩) 1 1 ((eg0 k p).kp.flatMap Ks.c)] else [])) := by
 refine eo Tryz.func10 fun β => ?_
 refine rg 2 [0, 1] ?_
 refine sr ?_
 refine sx 2 ?_
 refine RunL.call nC31 rfl rfl rfl (ac13 k p) .nil ?_
 refine sx 3 ?_
 refine oal fun b6 => ?_
 refine sx 2 ?_
 refine kq [0, 5, 6] ?_
 refine Run.seq ?_
 refine sr ?_
 refine sx 1 ?_
 by_cases h0 : startE k p = 0
 refine sx 1 ?_
 refine sF (fun h => h h0) ?_
 refine kq [0, 5, 6, 14] ?_
 refine Run.false rfl ?_
 refine Run.skip ?_
 refine sr ?_
 refine sx 2 ?_
 refine RunL.op rfl rfl (OpJ.buildSlice1 nS73 rfl rfl rfl (by decide) (by decide) nZ61 rfl fun b18 => ?_)
 refine sx 2 ?_
 refine obx rfl fun b21 => ?_
 refine RunL.imp (pt b18 (blk _ 61)) (own 61 5 (some ⟨b18, 0, none⟩) 1 1 ((eg0 k p).kp.flatMap Ks.c)) up (fun h hh => own.of_pt (show pt b18 (blk ((eg0 k p).kp.flatMap Ks.c) 61) h from hh) rfl) ?_
 refine sx 2 ?_
 refine kq [4, 5] ?_
 refine Run.ret ?_
 exact ret_out (b21, b18) (.tmp rfl (.tmp rfl .nil)) trivial (by simp only [if_pos h0, h0]; rfl) (by rw [if_pos h0]; exact gv)
 refine sx 1 ?_
 refine sT h0 ?_
 refine kq [0, 5, 6, 14] ?_
 refine Run.true rfl ?_
 refine rg 3 [4, 5] ?_
 refine Run.ret ?_
 exact ret_out (0, 0) (.tmp rfl (.tmp rfl .nil)) trivial (by simp only [if_neg h0]; rfl) (by rw [if_neg h0]; exact gv)
end
end Go.Proofs.YtcpghpifbgpkjaaGreatDoor

namespace Go.Proofs.YtcpghpifbgpkjaaGreatDoor
open Go Go.SL Go.Proofs
instance mp83 : MPI Tryz.prog 83 3 32 := ⟨by kernel_rfl⟩
instance zv32 : ZVI Tryz.prog 32 (.agg ⟨[I 0, I 0, I 0, I 0]⟩) := ⟨by kernel_rfl⟩
instance uv3 : UI Tryz.prog 3 (.int .i64) := ⟨by kernel_rfl⟩
section
attribute [local irreducible] OpJ RunL Run RunD DetJ pt own star Rd RdS
theorem ac39n (bg : Nat) (g : Eg) (mo : Option Addr) (mc : Nat) (co : Option Addr) (cc : Nat) (oo : Option Addr) (oc : Nat) (ko : Option Addr) (kc : Nat) (bm : Nat) (kv : List KV) (r1 r2 r3 r4 r5 r6 : Value) (hn : g.cs.length ≤ 1000000) : AC Tryz.prog 39 ⟨[.pointer (some ⟨bg, 0, none⟩), .agg ⟨[.map (some bm), r1, r2, r3, r4, r5, r6]⟩]⟩ (stars [pt bg (blk (EgC g mo mc co cc oo oc ko kc) 76), own 32 4 co g.cs.length cc (g.cs.flatMap Co.c), amap bm KVf KVg kv]) (Outs (fun _ : Option Addr × Nat => True) (fun x => .slice x.1 (adjL kv g.cs g.cs.length).length x.2) (fun x => [own 41 3 x.1 (adjL kv g.cs g.cs.length).length x.2 ((adjL kv g.cs g.cs.length).flatMap Aj.c), pt bg (blk (EgC g mo mc co cc oo oc ko kc) 76), own 32 4 co g.cs.length cc (g.cs.flatMap Co.c), amap bm KVf KVg kv])) := by
 refine eo Tryz.func39 fun β => ?_
 refine sr ?_
 refine obx rfl fun b3 => ?_
 refine sx 1 ?_
 refine kq [0, 3] ?_
 refine rg 1 [0, 3, 5] ?_
 refine Run.seq ?_
 refine sr ?_
 refine RunL.ownNil 41 3 ?_
 refine sx 6 ?_
 refine kq [3, 5, 13, 14, 15] ?_
 refine Run.block ?_
 refine Run.weak (L' := [pt b3 (blk [.map (some bm), r1, r2, r3, r4, r5, r6] 85), own 41 3 none 0 0 [], pt bg (blk (EgC g mo mc co cc oo oc ko kc) 76), own 32 4 co g.cs.length cc (g.cs.flatMap Co.c), amap bm KVf KVg kv]) (fun _ _ h => h) gv ?_
 refine Run.loop (fun mm E L => ∃ (i : Nat) (la : Option Addr) (lc : Nat), mm = g.cs.length - i ∧ i ≤ g.cs.length ∧ E = [(3, .pointer (some ⟨b3, 0, none⟩)), (5, .slice la (adjL kv g.cs i).length lc), (13, .slice co g.cs.length cc), (14, I g.cs.length), (15, I i)] ∧ L = [pt b3 (blk [.map (some bm), r1, r2, r3, r4, r5, r6] 85), own 41 3 la (adjL kv g.cs i).length lc ((adjL kv g.cs i).flatMap Aj.c), pt bg (blk (EgC g mo mc co cc oo oc ko kc) 76), own 32 4 co g.cs.length cc (g.cs.flatMap Co.c), amap bm KVf KVg kv]) ⟨_, 0, none, 0, rfl, Nat.zero_le _, rfl, rfl⟩ ?_
 rintro _ _ _ ⟨i, la, lc, rfl, hi, rfl, rfl⟩
 refine rg 1 [3, 5, 13, 14, 15, 16] ?_
 refine Run.seq ?_
 refine cnd rfl (fun h1 => ?_) fun h1 => ?_
 refine Run.skip ?_
 refine Run.seq ?_
 refine Run.block ?_
 refine sr ?_
 have hal := adjL_len (kv := kv) (cs := g.cs) i
 obtain ⟨x, hx⟩ := get_ex (xs := g.cs) (i := i) (by omega)
 refine RunL.ownAddr pk (flat_ne (k := 4) (fun _ => rfl) (by decide) hx) fun b e hcapb => ?_
 subst e
 refine sx 3 ?_
 refine oal fun b7 => ?_
 refine sx 2 ?_
 refine kq [3, 5, 6, 7, 13, 14, 15] ?_
 refine sr ?_
 refine sx 3 ?_
 refine RunL.op rfl rfl (OpJ.lookup2 keyInt inferInstance inferInstance inferInstance rfl rfl pk ?_)
 rcases hk : kAt (Prod.fst : KV → Int) (i : Int) kv with _ | q
 refine sx 3 ?_
 refine oal fun b8 => ?_
 refine sx 2 ?_
 refine kq [3, 5, 7, 8, 9, 13, 14, 15] ?_
 refine rg 15 [3, 5, 7, 8, 13, 14, 15, 41] ?_
 refine Run.false rfl ?_
 refine Run.skip ?_
 refine Run.region ?_
 refine sx 2 ?_
 have hA := adj_none hx hk
 rw [← hA]
 exact RunL.next (Keep.sub (kt (ks := [3, 5, 13, 14, 15]) rfl)) _ ⟨_, by omega, i + 1, _, _, rfl, by omega, rfl, rfl⟩ gv
 refine sx 3 ?_
 refine oal fun b8 => ?_
 refine sx 2 ?_
 refine kq [3, 5, 7, 8, 9, 13, 14, 15] ?_
 refine sr ?_
 refine sx 8 ?_
 refine spl 34 rfl (fun g2 => ?_) fun g2 => ?_
 refine sx 7 ?_
 refine kq [3, 5, 7, 8, 13, 14, 15, 41] ?_
 refine Run.true rfl ?_
 refine Run.region ?_
 refine sx 7 ?_
 refine RunL.op rfl rfl (OpJ.sub rfl rfl ?_)
 refine sx 4 ?_
 refine RunL.op rfl rfl (OpJ.sub rfl rfl ?_)
 refine sx 1 ?_
 refine RunL.op rfl rfl (OpJ.buildSlice1 nS37 rfl rfl rfl (by decide) (by decide) nZ41 rfl fun b56 => ?_)
 refine RunL.op rfl rfl (OpJ.append1 (⟨x.seq, IntKind.i64.wrap (q.2.2.value - x.value), IntKind.i64.wrap (q.2.2.var - x.var)⟩ : Aj) nS37 nM41 rfl rfl pk pk rfl rfl (by simp [Value.oneCell', Pa.c, Ly.c, Mv.c, Co.c, Aj.c, Ks.c, Iv]) rfl (by omega) (by omega) fun a57 c57 => ?_)
 refine sx 1 ?_
 refine kq [3, 5, 13, 14, 15] ?_
 refine Run.region ?_
 refine sx 2 ?_
 have hA := adj_new hx hk (by omega)
 rw [← hA]
 exact RunL.next (Keep.sub (kt (ks := [3, 5, 13, 14, 15]) rfl)) _ ⟨_, by omega, i + 1, _, _, rfl, by omega, rfl, rfl⟩ gv
 refine sx 7 ?_
 refine kq [3, 5, 7, 8, 13, 14, 15, 41] ?_
 refine cnd rfl (fun h3 => ?_) fun h3 => ?_
 refine Run.region ?_
 refine sx 7 ?_
 refine RunL.op rfl rfl (OpJ.sub rfl rfl ?_)
 refine sx 4 ?_
 refine RunL.op rfl rfl (OpJ.sub rfl rfl ?_)
 refine sx 1 ?_
 refine RunL.op rfl rfl (OpJ.buildSlice1 nS37 rfl rfl rfl (by decide) (by decide) nZ41 rfl fun b56 => ?_)
 refine RunL.op rfl rfl (OpJ.append1 (⟨x.seq, IntKind.i64.wrap (q.2.2.value - x.value), IntKind.i64.wrap (q.2.2.var - x.var)⟩ : Aj) nS37 nM41 rfl rfl pk pk rfl rfl (by simp [Value.oneCell', Pa.c, Ly.c, Mv.c, Co.c, Aj.c, Ks.c, Iv]) rfl (by omega) (by omega) fun a57 c57 => ?_)
 refine sx 1 ?_
 refine kq [3, 5, 13, 14, 15] ?_
 refine Run.region ?_
 refine sx 2 ?_
 have hA := adj_new hx hk (by omega)
 rw [← hA]
 exact RunL.next (Keep.sub (kt (ks := [3, 5, 13, 14, 15]) rfl)) _ ⟨_, by omega, i + 1, _, _, rfl, by omega, rfl, rfl⟩ gv
 refine Run.skip ?_
 refine Run.region ?_
 refine sx 2 ?_
 have hA := adj_same hx hk (by omega)
 rw [← hA]
 exact RunL.next (Keep.sub (kt (ks := [3, 5, 13, 14, 15]) rfl)) _ ⟨_, by omega, i + 1, _, _, rfl, by omega, rfl, rfl⟩ gv
 refine Run.exit ?_
 refine sr ?_
 obtain rfl : i = g.cs.length := by omega
 refine sx 2 ?_
 refine kq [4] ?_
 exact .ret (ret_out (la, lc) (.tmp rfl .nil) trivial rfl gv)
end
end Go.Proofs.YtcpghpifbgpkjaaGreatDoor

namespace Go.Proofs.YtcpghpifbgpkjaaGreatDoor
open Go Go.SL Go.Proofs
theorem ki127 : keyInfo Tryz.prog 127 = some [(0, true), (1, true)] := by kernel_rfl
instance mp109 : MPI Tryz.prog 109 127 3 := ⟨by kernel_rfl⟩
instance zv3 : ZVI Tryz.prog 3 (.int .i64 0) := ⟨by kernel_rfl⟩
theorem ei127 : SL.EI Tryz.prog 127 [.int, .int] := .of (by kernel_rfl)
theorem ka127 : KeyAgg Tryz.prog 127 encR where
  check := fun em n a w => by
    obtain ⟨fs, hu, hp⟩ := keyInfo_spec ki127
    refine run_checkAgg hu hp (fun p hp => ?_) em n w
    simp only [List.mem_cons, List.not_mem_nil, or_false] at hp
    rcases hp with rfl | rfl
    · exact ⟨_, rfl, rfl⟩
    · exact ⟨_, rfl, rfl⟩
  under := by obtain ⟨fs, hu, _⟩ := keyInfo_spec ki127; exact ⟨fs, hu⟩
  eq := fun a c w => by
    refine ei127.run w _ _ _ ?_
    obtain ⟨a1, a2⟩ := a
    obtain ⟨c1, c2⟩ := c
    simp only [eqCells, eqCell, Prod.mk.injEq]
    by_cases h1 : a1 = c1 <;> by_cases h2 : a2 = c2 <;> simp [h1, h2]
  stays := fun a w => by simp [encR, Instr.keyThatStays, Instr.sameBits]
section
attribute [local irreducible] OpJ RunL Run RunD DetJ pt own star Rd RdS
theorem ac52n (R : HP) (oa : Option Addr) (cap : Nat) (done : List Mv) (m : Mv) (bm : Nat) (hR : RdS R oa (done.flatMap Mv.c)) (hlen : done.length ≤ 2000) (hr : refersB m.kind = true) (hone : m.one = 0) (hb : 0 ≤ backQ done m.kind m.ref ∧ backQ done m.kind m.ref ≤ 1000000000 * done.length) : AC Tryz.prog 52 ⟨[.slice oa done.length cap, .agg ⟨m.c⟩, .map (some bm)]⟩ (stars [R, tmap encR bm (tq done)]) (Outs (fun _ : Unit => True) (fun _ => I (referM done m)) (fun _ => if referM done m = 0 then [R, tmap encR bm (tq (done ++ [m]))] else [R])) := by
 have hmg := MG.of hone
 have hrf := one_ref hone hr
 have hq : 0 ≤ m.qty ∧ m.qty ≤ 1000000000 := by have h1 := hmg.q.1; have h2 := hmg.q.2; have h3 := hmg.k; omega
 have htq : tq done (m.kind, m.ref) = backQ done m.kind m.ref := if_pos hr
 have htq2 := tq_at (l := done) hr
 refine eo Tryz.func52 fun β => ?_
 refine sr ?_
 refine obx rfl fun b4 => ?_
 refine sx 1 ?_
 refine kq [0, 2, 4] ?_
 refine Run.seq ?_
 refine rg 5 [0, 2, 4, 13] ?_
 refine cnd rfl (fun h1 => ?_) fun h1 => ?_
 refine rg 1 [6] ?_
 refine Run.ret ?_
 have hres : referM done m = 28 := (ref_28 (by omega)); refine ret_out () (.tmp rfl .nil) trivial (congrArg I hres.symm) ?_; rw [hres]; exact gv
 refine Run.skip ?_
 refine sr ?_
 obtain ⟨i, x, hx, hri⟩ := get_at (xs := done) (s := m.ref) (by omega)
 refine RunL.rdOpen pk hR (flat_ne (k := 8) (fun _ => rfl) (by decide) hx) fun b o e hrd => ?_
 subst e
 refine sx 4 ?_
 refine RunL.set (v := I (i : Int)) (congrArg I (by omega)) ?_
 refine sx 1 ?_
 refine RunL.op rfl rfl (OpJ.loadA inferInstance rfl pk (hrd.elem (fun _ => rfl) hx) rfl ?_)
 refine oal fun b7 => ?_
 refine sx 1 ?_
 refine kq [2, 4, 7] ?_
 refine Run.seq ?_
 refine Run.seq ?_
 refine regionD HM ?_
 refine dx [0, 1, 2, 3, 4] ?_
 by_cases hit : x.item = m.item
 refine dF (fun h => h hit) ?_
 refine dx [5, 6, 7, 8, 9] ?_
 refine RunD.opG 10 [false, false, true, true, false, false, false, true, false, true] rfl rfl rfl rfl rfl kr kr (OpJ.callRet nC70 rfl rfl (ac70n m.kind) .nil ⟨po, ?_⟩)
 refine dx [11, 12] ?_
 refine kd [2, 4, 7, 32] rfl ?_
 refine cnd rfl (fun h2 => ?_) fun h2 => ?_
 refine rg 1 [6] ?_
 refine Run.ret ?_
 have hres : referM done m = 28 := (by rw [ref_x hri hx, if_pos (.inr h2)]); refine ret_out () (.tmp rfl .nil) trivial (congrArg I hres.symm) ?_; rw [hres]; exact gv
 refine Run.skip ?_
 refine Run.seq ?_
 refine rg 5 [2, 4, 7, 37] ?_
 refine cnd rfl (fun h3 => ?_) fun h3 => ?_
 refine rg 1 [6] ?_
 refine Run.ret ?_
 have hres : referM done m = 17 := (by rw [ref_x hri hx, if_neg (not_or.2 ⟨fun e => e hit, h2⟩), if_pos (by omega)]); refine ret_out () (.tmp rfl .nil) trivial (congrArg I hres.symm) ?_; rw [hres]; exact gv
 refine Run.skip ?_
 refine sr ?_
 refine sx 5 ?_
 refine oal fun b8 => ?_
 refine sx 1 ?_
 refine kq [2, 4, 7, 8] ?_
 refine Run.seq ?_
 refine regionD HM ?_
 refine dx [0, 1, 3, 4] ?_
 refine RunD.two 2 6 [true, true, false, false] [false, false, false, false] rfl rfl rfl rfl rfl rfl kr kr kr (OpJ.lookupT0 (k := (m.kind, m.ref)) ka127 inferInstance inferInstance rfl rfl pk ⟨po, ?_⟩) (OpJ.mapEntryT (k := (m.kind, m.ref)) ka127 inferInstance inferInstance rfl rfl (fun s => up) fun s v => ⟨po, ?_⟩)
 refine dx [5] ?_
 refine RunD.op 6 [true, false, false] rfl rfl rfl kr kr (OpJ.mapEntryT (k := (m.kind, m.ref)) ka127 inferInstance inferInstance rfl rfl (fun s => up) fun s v => ⟨po, ?_⟩)
 refine dx [7] ?_
 refine RunD.op 8 [false, false] rfl rfl rfl kr kr (OpJ.entryStoreT rfl rfl rfl up ⟨po, ?_⟩)
 refine kd [2, 7, 8] rfl ?_
 refine Run.seq ?_
 refine Run.seq ?_
 rw [tq_app hr]
 refine regionD HM ?_
 refine dx [0, 1, 3, 4] ?_
 refine RunD.op 2 [true, true, false, false] rfl rfl rfl kr kr (OpJ.lookupT0 (k := (m.kind, m.ref)) ka127 inferInstance inferInstance rfl rfl pk ⟨po, ?_⟩)
 refine dx [5] ?_
 refine kd [56] rfl ?_
 refine cnd rfl (fun h4 => ?_) fun h4 => ?_
 refine rg 1 [6] ?_
 refine Run.ret ?_
 have hres : referM done m = 21 := (by rw [ref_x hri hx, if_neg (not_or.2 ⟨fun e => e hit, h2⟩), if_neg (by omega), if_pos (by omega)]); refine ret_out () (.tmp rfl .nil) trivial (congrArg I hres.symm) ?_; rw [hres]; exact gv
 refine Run.skip ?_
 refine rg 1 [6] ?_
 refine Run.ret ?_
 have hres : referM done m = 0 := (by rw [ref_x hri hx, if_neg (not_or.2 ⟨fun e => e hit, h2⟩), if_neg (by omega), if_neg (by omega)]); refine ret_out () (.tmp rfl .nil) trivial (congrArg I hres.symm) ?_; rw [hres]; exact gv
 refine dx [7] ?_
 refine RunD.op 2 [true] rfl rfl rfl kr kr (OpJ.lookupTE (k := (m.kind, m.ref)) ka127 inferInstance inferInstance rfl rfl pk ⟨po, ?_⟩)
 refine dx [5] ?_
 refine RunD.op 8 [false, false] rfl rfl rfl kr kr (OpJ.entryStoreT rfl rfl rfl up ⟨po, ?_⟩)
 refine kd [2, 7, 8] rfl ?_
 refine Run.seq ?_
 refine Run.seq ?_
 rw [tq_app hr]
 refine regionD HM ?_
 refine dx [0, 1, 3, 4] ?_
 refine RunD.op 2 [true, true, false, false] rfl rfl rfl kr kr (OpJ.lookupT0 (k := (m.kind, m.ref)) ka127 inferInstance inferInstance rfl rfl pk ⟨po, ?_⟩)
 refine dx [5] ?_
 refine kd [56] rfl ?_
 refine cnd rfl (fun h5 => ?_) fun h5 => ?_
 refine rg 1 [6] ?_
 refine Run.ret ?_
 have hres : referM done m = 21 := (by rw [ref_x hri hx, if_neg (not_or.2 ⟨fun e => e hit, h2⟩), if_neg (by omega), if_pos (by omega)]); refine ret_out () (.tmp rfl .nil) trivial (congrArg I hres.symm) ?_; rw [hres]; exact gv
 refine Run.skip ?_
 refine rg 1 [6] ?_
 refine Run.ret ?_
 have hres : referM done m = 0 := (by rw [ref_x hri hx, if_neg (not_or.2 ⟨fun e => e hit, h2⟩), if_neg (by omega), if_neg (by omega)]); refine ret_out () (.tmp rfl .nil) trivial (congrArg I hres.symm) ?_; rw [hres]; exact gv
 refine dT hit ?_
 refine dx [5, 6, 7, 8, 9, 10, 11, 12] ?_
 refine kd [2, 4, 7, 32] rfl ?_
 refine Run.true rfl ?_
 refine rg 1 [6] ?_
 refine Run.ret ?_
 have hres : referM done m = 28 := (by rw [ref_x hri hx, if_pos (.inl hit)]); refine ret_out () (.tmp rfl .nil) trivial (congrArg I hres.symm) ?_; rw [hres]; exact gv
end
end Go.Proofs.YtcpghpifbgpkjaaGreatDoor

namespace Go.Proofs.YtcpghpifbgpkjaaGreatDoor
open Go Go.SL Go.Proofs
theorem ac52t (R : HP) (oa : Option Addr) (cap : Nat) (ms : List Mv) (i : Nat) (m : Mv) (bm : Nat) (hi : i ≤ ms.length) (hR : RdS R oa (ms.flatMap Mv.c)) (hlen : i ≤ 2000) (hr : refersB m.kind = true) (hone : m.one = 0) (hq : ∀ y ∈ ms.take i, 0 ≤ y.qty ∧ y.qty ≤ 1000000000) : AC Tryz.prog 52 ⟨[.slice oa i cap, .agg ⟨m.c⟩, .map (some bm)]⟩ (stars [R, tmap encR bm (tq (ms.take i))]) (Outs (fun _ : Unit => True) (fun _ => I (referM (ms.take i) m)) (fun _ => if referM (ms.take i) m = 0 then [R, tmap encR bm (tq (ms.take i ++ [m]))] else [R])) := by
  have e : (ms.take i).length = i := by rw [List.length_take]; omega
  have h := ac52n R oa cap (ms.take i) m bm (hR.take i) (by omega) hr hone (backQ_bound hq)
  rw [e] at h; exact h
section
attribute [local irreducible] OpJ RunL Run RunD DetJ pt own star Rd RdS
theorem ac34n (R : HP) (oa : Option Addr) (cap : Nat) (ms : List Mv) (hR : RdS R oa (ms.flatMap Mv.c)) (hlen : ms.length ≤ 1000000) (hcap : ms.length ≤ cap) (R0 : HP) (hR0 : Rd R0 ⟨0, 0, none⟩ lensC) : AC Tryz.prog 34 ⟨[.slice oa ms.length cap]⟩ (stars [R, R0]) (Outs (fun _ : Int => True) (fun at_ => .tuple ⟨[I at_, I (chkE ms)]⟩) (fun _ => [R, R0])) := by
 refine eo Tryz.func34 fun β => ?_
 refine rg 2 [0] ?_
 refine Run.seq ?_
 refine rg 3 [0, 11] ?_
 refine cnd rfl (fun h1 => ?_) fun h1 => ?_
 refine rg 2 [2, 3] ?_
 refine Run.ret ?_
 have hres := chk_many (ms := ms) (by omega); refine ret_out (0) (.tmp rfl (.tmp rfl .nil)) trivial (by rw [hres]; rfl) gv
 refine Run.skip ?_
 refine sr ?_
 refine RunL.op rfl rfl (OpJ.makeMap fun bm => ?_)
 refine sx 1 ?_
 refine kq [0, 4] ?_
 refine Run.seq ?_
 refine rg 3 [0, 4, 13, 14, 15] ?_
 refine Run.block ?_
 refine Run.imp (pt bm (.map #[] 0)) (tmap encR bm (tq [])) up (by rw [tq_nil]; exact tmap.nil) ?_
 refine Run.weak (L' := [R, R0, tmap encR bm (tq [])]) (fun _ _ h => h) gv ?_
 refine Run.loop (fun mm E L => ∃ i : Nat, mm = ms.length - i ∧ i ≤ ms.length ∧ FineTo ms i ∧ E = [(0, .slice oa ms.length cap), (4, .map (some bm)), (13, .slice oa ms.length cap), (14, I ms.length), (15, I i)] ∧ L = [R, R0, tmap encR bm (tq (ms.take i))]) ⟨_, 0, rfl, Nat.zero_le _, fun j m h => by omega, rfl, rfl⟩ ?_
 rintro _ _ _ ⟨i, rfl, hi, hf, rfl, rfl⟩
 refine rg 1 [0, 4, 13, 14, 15, 16] ?_
 refine Run.seq ?_
 refine cnd rfl (fun h2 => ?_) fun h2 => ?_
 refine Run.skip ?_
 refine Run.seq ?_
 refine Run.block ?_
 refine sr ?_
 obtain ⟨m, hx⟩ := get_ex (xs := ms) (i := i) (by omega)
 refine RunL.rdOpen pk hR (flat_ne (k := 8) (fun _ => rfl) (by decide) hx) fun b o e hrd => ?_
 subst e
 refine sx 2 ?_
 refine RunL.op rfl rfl (OpJ.loadA inferInstance rfl pk (hrd.elem (fun _ => rfl) hx) rfl ?_)
 refine oal fun b6 => ?_
 refine sx 2 ?_
 refine kq [0, 4, 5, 6, 13, 14, 15] ?_
 refine Run.seq ?_
 refine rg 5 [0, 4, 5, 6, 13, 14, 15, 24] ?_
 refine cnd rfl (fun h3 => ?_) fun h3 => ?_
 refine rg 3 [2, 3] ?_
 refine Run.ret ?_
 have hres := chk_seq (by omega) hx hf (by omega); refine ret_out (_) (.tmp rfl (.tmp rfl .nil)) trivial (by rw [hres]; rfl) gv
 refine Run.skip ?_
 refine Run.seq ?_
 refine sr ?_
 have hsq : m.seq = (i : Int) + 1 := by omega
 refine sx 1 ?_
 refine RunL.call nC50 rfl rfl rfl (ac30 m R0 hR0) tks ?_
 refine sx 1 ?_
 refine kq [0, 4, 5, 6, 7, 13, 14, 15] ?_
 refine rg 2 [0, 4, 5, 6, 7, 13, 14, 15, 29] ?_
 refine cnd rfl (fun h4 => ?_) fun h4 => ?_
 refine rg 4 [2, 3] ?_
 refine Run.ret ?_
 have hres := chk_one (by omega) hx hf hsq (by omega); refine ret_out (_) (.tmp rfl (.tmp rfl .nil)) trivial (by rw [hres]; rfl) gv
 refine Run.skip ?_
 refine Run.seq ?_
 refine sr ?_
 have hone : m.one = 0 := by omega
 refine sx 2 ?_
 refine RunL.call nC51 rfl rfl rfl (ac64 m.kind) .nil ?_
 refine RunL.op rfl rfl (OpJ.not rfl ?_)
 refine kq [0, 4, 5, 6, 13, 14, 15, 35] ?_
 refine cnd rfl (fun h5 => ?_) fun h5 => ?_
 refine Run.exit ?_
 refine Run.region ?_
 refine sx 2 ?_
 have hnr : ¬ refersB m.kind = true := by simpa using (show (!refersB m.kind) = true by assumption)
 rw [tq_take_skip hx hnr]
 exact RunL.next (Keep.sub (kt (ks := [0, 4, 13, 14, 15]) rfl)) _ ⟨_, by omega, i + 1, rfl, by omega, hf.next hx hsq hone (fun h => absurd h hnr), rfl, rfl⟩ gv
 refine Run.skip ?_
 refine Run.seq ?_
 refine regionD HM ?_
 refine dx [0, 1] ?_
 refine tk 2 rfl rfl rfl (DetJ.sliceHi nS24 rfl rfl (by omega)) ?_
 refine dx [3, 4] ?_
 refine RunD.op 5 [false, false, false, false, false] rfl rfl rfl kr kr (OpJ.callOuts nC52 rfl rfl (ac52t R _ cap ms i m bm hi hR (by omega) (by simpa using (show (!refersB m.kind) = false by assumption)) hone hf.qty) tks fun _ _ => ⟨po, ?_⟩)
 by_cases h0 : referM (ms.take i) m = 0
 rw [if_pos h0]
 refine dx [6] ?_
 refine kd [0, 4, 5, 8, 13, 14, 15] rfl ?_
 refine sr ?_
 refine sx 2 ?_
 refine sF (fun h => h h0) ?_
 refine kq [0, 4, 5, 8, 13, 14, 15, 43] ?_
 refine Run.false rfl ?_
 refine Run.skip ?_
 refine Run.region ?_
 refine sx 2 ?_
 rw [← take_one hx]
 exact RunL.next (Keep.sub (kt (ks := [0, 4, 13, 14, 15]) rfl)) _ ⟨_, by omega, i + 1, rfl, by omega, hf.next hx hsq hone (fun _ => h0), rfl, rfl⟩ gv
 rw [if_neg h0]
 refine dx [6] ?_
 refine kd [0, 4, 5, 8, 13, 14, 15] rfl ?_
 refine sr ?_
 refine sx 2 ?_
 refine sT h0 ?_
 refine kq [0, 4, 5, 8, 13, 14, 15, 43] ?_
 refine Run.true rfl ?_
 refine rg 4 [2, 3] ?_
 refine Run.ret ?_
 have hres := chk_ref (by omega) hx hf hsq hone (by simpa using (show (!refersB m.kind) = false by assumption)) h0; refine ret_out (_) (.tmp rfl (.tmp rfl .nil)) trivial (by rw [hres]; rfl) gv
 refine Run.exit ?_
 refine sr ?_
 obtain rfl : i = ms.length := by omega
 refine sx 2 ?_
 refine kq [2, 3] ?_
 refine Run.ret ?_
 have hres := chk_none (by omega) hf; refine ret_out (-1) (.tmp rfl (.tmp rfl .nil)) trivial (by rw [hres]; rfl) gv
end
end Go.Proofs.YtcpghpifbgpkjaaGreatDoor

namespace Go.Proofs.YtcpghpifbgpkjaaGreatDoor
open Go Go.SL Go.Proofs
theorem ac19f (k : Int) (s : Sk) (m : Mv) (la : Option Addr) (lc : Nat) (pa : Option Addr) (pc : Nat) (RL RP : HP) (hs : s.ok 999999) (hm : m.ok) (hRL : RdS RL la (s.layers.flatMap Ly.c)) (hRP : RdS RP pa (s.past.flatMap Pa.c)) (R0 : HP) (hR0 : Rd R0 ⟨0, 0, none⟩ lensC) : AC Tryz.prog 58 ⟨[I k, .agg ⟨s.c la lc pa pc⟩, .agg ⟨m.c⟩]⟩ (stars [RL, RP, R0]) (Outs (fun _ : Option Addr × Nat × Option Addr × Nat => True) (fun x => .tuple ⟨[.agg ⟨StS (stepM k s m) x⟩, .agg ⟨(avC (stepM k s m)).c⟩, I (errOf (stepM k s m))]⟩) (fun x => [stars (StB 96 98 (stepM k s m) x), RL, RP, R0])) := by
  refine AC.mono (ac19 k s m la lc pa pc RL RP hs hm hRL hRP R0 hR0) (fun _ h => h) ?_
  rintro r h ⟨x, ⟨_, hr⟩, hh⟩
  exact ⟨x, ⟨trivial, hr.trans StV_eq⟩, stars_un hh⟩
section
attribute [local irreducible] OpJ RunL Run RunD DetJ pt own star Rd RdS
end
end Go.Proofs.YtcpghpifbgpkjaaGreatDoor

namespace Go.Proofs.YtcpghpifbgpkjaaGreatDoor
open Go Go.SL Go.Proofs
theorem cl57t (R : HP) (oa : Option Addr) (cap : Nat) (ls : List Ks) (n : Nat) (hn : n ≤ ls.length) (hR : RdS R oa (ls.flatMap Ks.c)) (hlen : n ≤ 1000000) : AC Tryz.prog 57 ⟨[.slice oa n cap]⟩ (stars [R]) (Outs (fun _ : Option Addr × Nat => True) (fun x => .slice x.1 n x.2) (fun x => [own 61 5 x.1 n x.2 ((ls.take n).flatMap Ks.c), R])) := by
  have e : (ls.take n).length = n := by rw [List.length_take]; omega
  have h := cl57 R oa cap (ls.take n) (hR.take n) (by omega)
  rw [e] at h; exact h
section
attribute [local irreducible] OpJ RunL Run RunD DetJ pt own star Rd RdS
theorem ac38n (bg : Nat) (g : Eg) (mo : Option Addr) (mc : Nat) (co : Option Addr) (cc : Nat) (oo : Option Addr) (oc : Nat) (ko : Option Addr) (kc : Nat) (st : Sk) (ms sm : List Mv) (ord : List Int) (j0 : Nat) (KL KP RM RO : HP) (ma oa : Option Addr) (mcp ocp : Nat) (H : RunH g st ms sm ord j0 KL KP) (hRM : RdS RM ma (ms.flatMap Mv.c)) (hRO : RdS RO oa (ord.flatMap Iv)) (R0 : HP) (hR0 : Rd R0 ⟨0, 0, none⟩ lensC) : AC Tryz.prog 38 ⟨[.pointer (some ⟨bg, 0, none⟩), .slice ma ms.length mcp, .slice oa ord.length ocp, I ((16 * j0 : Nat) : Int)]⟩ (stars [pt bg (blk (EgC g mo mc co cc oo oc ko kc) 76), own 61 5 ko g.kp.length kc (g.kp.flatMap Ks.c), RM, RO, KL, KP, R0]) (Outs (runP g st sm KL KP) (runV (runL (stepM g.k) st sm)) (fun o => runBs 61 ord (16 * j0) (runL (stepM g.k) st sm) o ++ [pt bg (blk (EgC g mo mc co cc oo oc ko kc) 76), own 61 5 ko g.kp.length kc (g.kp.flatMap Ks.c), RM, RO, R0])) := by
 have hlen := H.len; have hn2 := H.n; have hfr := H.fr; have hkp := H.kpn
 obtain ⟨x0, hx0⟩ := get_ex (xs := g.kp) (i := j0) (by omega)
 obtain ⟨⟨cs0, hb0⟩, hk0⟩ := H.kp j0 x0 (Nat.le_refl _) hx0
 refine eo Tryz.func38 fun β => ?_
 refine sr ?_
 refine oal fun b8 => ?_
 refine sx 1 ?_
 refine kp [0, 1, 2, 3, 8] rfl ?_
 refine sr ?_
 refine RunL.ownAddr pk (flat_ne (k := 5) (fun _ => rfl) (by decide) hx0) fun bk e hcapbk => ?_
 subst e
 refine RunL.op rfl rfl (OpJ.makeMap fun bm => ?_)
 refine sx 6 ?_
 refine RunL.set (v := I (j0 : Int)) (congrArg I (by rw [Int.tdiv_eq_ediv_of_nonneg (by omega), wrap_i64_in (by omega)]; omega)) ?_
 refine RunL.op rfl rfl (OpJ.sliceHi nS73 rfl rfl (by omega) ?_)
 refine RunL.callX nC57 rfl rfl rfl (cl57t (own 61 5 (some ⟨bk, 0, none⟩) g.kp.length kc (g.kp.flatMap Ks.c)) (some ⟨bk, 0, none⟩) kc g.kp j0 (by omega) own.rds (by omega)) tks fun ⟨kz, kzc⟩ _ => ?_
 refine sx 1 ?_
 refine oal fun b10 => ?_
 refine sx 1 ?_
 refine kp [0, 1, 2, 3, 8, 10] rfl ?_
 refine sr ?_
 refine sx 6 ?_
 refine RunL.set (v := I (j0 : Int)) (congrArg I (by rw [Int.tdiv_eq_ediv_of_nonneg (by omega), wrap_i64_in (by omega)]; omega)) ?_
 refine sx 2 ?_
 refine oal fun b11 => ?_
 refine RunL.op rfl rfl (OpJ.storeW inferInstance rfl rfl rfl rfl (ks1 x0) up ?_)
 refine kp [0, 1, 2, 3, 8, 10, 11] rfl ?_
 refine Run.seq ?_
 refine rg 2 [0, 1, 2, 8, 10, 11, 12] ?_
 refine Run.block ?_
 refine Run.weak (L' := [pt b10 (blk [.map (some bm), .slice kz j0 kzc, I 0, I 0, I 0, .slice none 0 0, .slice none 0 0] 85), pt b11 (blk x0.c 61), pt b8 (blk Z7 85), amap bm KVf KVg [], own 61 5 kz j0 kzc ((g.kp.take j0).flatMap Ks.c), pt bg (blk (EgC g mo mc co cc oo oc (some ⟨bk, 0, none⟩) kc) 76), own 61 5 (some ⟨bk, 0, none⟩) g.kp.length kc (g.kp.flatMap Ks.c), RM, RO, KL, KP, R0]) (fun _ _ h => h) gv ?_
 refine Run.loop (fun mm E L => ∃ (i : Nat) (x : Ks) (kq : List Ks) (cs : List Co) (ka : Option Addr) (kcp : Nat) (KLc KPc : HP), mm = sm.length - (16 * j0 + i) ∧ RunI g st sm j0 i KL KP KLc KPc x kq cs ∧ E = [(0, .pointer (some ⟨bg, 0, none⟩)), (1, .slice ma ms.length mcp), (2, .slice oa ord.length ocp), (8, .pointer (some ⟨b8, 0, none⟩)), (10, .pointer (some ⟨b10, 0, none⟩)), (11, .pointer (some ⟨b11, 0, none⟩)), (12, I ((16 * j0 + i : Nat) : Int))] ∧ L = [pt b10 (blk [.map (some bm), .slice ka kq.length kcp, I 0, I 0, I 0, .slice none 0 0, .slice none 0 0] 85), pt b11 (blk x.c 61), pt b8 (blk Z7 85), amap bm KVf KVg (kvOf ord cs (16 * j0)), own 61 5 ka kq.length kcp ((kq).flatMap Ks.c), pt bg (blk (EgC g mo mc co cc oo oc (some ⟨bk, 0, none⟩) kc) 76), own 61 5 (some ⟨bk, 0, none⟩) g.kp.length kc (g.kp.flatMap Ks.c), RM, RO, KLc, KPc, R0]) ⟨_, 0, x0, g.kp.take j0, cs0, kz, kzc, KL, KP, rfl, RunI.start H hx0 hb0, rfl, by rw [kv_start (runL_len hb0) hfr, List.length_take, Nat.min_eq_left (by omega)]⟩ ?_
 rintro _ _ _ ⟨i, x, kq, cs, ka, kcp, KLc, KPc, rfl, hI, rfl, rfl⟩
 have hle := hI.le; have hkl := hI.kl
 refine Run.seq ?_
 refine rg 4 [0, 1, 2, 8, 10, 11, 12, 38] ?_
 refine cnd rfl (fun h1 => ?_) fun h1 => ?_
 refine Run.skip ?_
 refine Run.seq ?_
 refine Run.block ?_
 refine Run.seq ?_
 refine sr ?_
 refine sx 2 ?_
 refine RunL.set (v := I (((16 * j0 + i) % 16 : Nat) : Int)) (congrArg I (by rw [Int.tmod_eq_emod_of_nonneg (by omega)]; omega)) ?_
 refine sx 1 ?_
 refine kp [0, 1, 2, 8, 10, 11, 12, 43] rfl ?_
 refine cnd rfl (fun h2 => ?_) fun h2 => ?_
 refine Run.region ?_
 refine sx 3 ?_
 refine RunL.op rfl rfl (OpJ.buildSlice1 nS73 rfl rfl rfl (by decide) (by decide) nZ61 rfl fun b47 => ?_)
 refine RunL.op rfl rfl (OpJ.append1 (x : Ks) nS73 nM61 rfl rfl pk pk rfl rfl (by simp [Value.oneCell', Pa.c, Ly.c, Mv.c, Co.c, Aj.c, Ks.c, Iv]) rfl (by omega) (by omega) fun a48 c48 => ?_)
 refine sx 2 ?_
 refine kp [0, 1, 2, 8, 10, 11, 12] rfl ?_
 refine Run.seq ?_
 obtain ⟨y0, hy⟩ := get_ex (xs := ord) (i := 16 * j0 + i) (by omega)
 obtain ⟨q, m, rfl, hmq, hsm⟩ := H.idx _ _ hy
 have hqlt := (List.getElem?_eq_some_iff.1 hmq).1
 refine Run.rdOpen pk hRM (flat_ne (k := 8) (fun _ => rfl) (by decide) hmq) fun bM oM e hrm => ?_
 subst e
 refine Run.rdOpen pk hRO (flat_ne (k := 1) (fun _ => rfl) (by decide) hy) fun bO oO e hro => ?_
 subst e
 have hcl : cs.length = 16 * j0 + i := (runL_len hI.cur).trans (by rw [List.length_take]; omega)
 have hso := (runL_ok (fun m hm => H.ok m (List.mem_of_mem_take hm)) H.st0 hI.cur).mono (show 0 + (sm.take (16 * j0 + i)).length ≤ 999999 by rw [List.length_take]; omega)
 refine regionD HM ?_
 refine RunD.mono (K' := fun E' L' => ∃ y : Option Addr × Nat × Option Addr × Nat, ∃ b13 : Nat, ∃ b14 : Nat, E' = [(0, .pointer (some ⟨bg, 0, none⟩)), (1, .slice (some ⟨bM, oM, none⟩) ms.length mcp), (2, .slice (some ⟨bO, oO, none⟩) ord.length ocp), (8, .pointer (some ⟨b8, 0, none⟩)), (10, .pointer (some ⟨b10, 0, none⟩)), (11, .pointer (some ⟨b11, 0, none⟩)), (12, I ((16 * j0 + i : Nat) : Int)), (13, .pointer (some ⟨b13, 0, none⟩)), (14, .pointer (some ⟨b14, 0, none⟩)), (15, I (errOf (stepM g.k x.s m)))] ∧ L' = [pt b13 (blk (StS (stepM g.k x.s m) y) 61), pt b14 (blk (avC (stepM g.k x.s m)).c 32), stars (StB 96 98 (stepM g.k x.s m) y), pt b10 (blk [.map (some bm), .slice a48 (kq ++ [x]).length c48, I 0, I 0, I 0, .slice none 0 0, .slice none 0 0] 85), pt b11 (blk x.c 61), pt b8 (blk Z7 85), amap bm KVf KVg (kvOf ord cs (16 * j0)), own 61 5 a48 (kq ++ [x]).length c48 ((kq ++ [x]).flatMap Ks.c), pt bg (blk (EgC g mo mc co cc oo oc (some ⟨bk, 0, none⟩) kc) 76), own 61 5 (some ⟨bk, 0, none⟩) g.kp.length kc (g.kp.flatMap Ks.c), RM, RO, KLc, KPc, R0]) ?_ ?_
 refine dx [0, 1, 2, 3, 4, 5, 6, 7, 8] ?_
 refine RunD.takeR1 9 rfl rfl kr nT3 rfl pk (hro.elem (enc := Iv) (fun _ => rfl) hy) ?_
 refine dx [10] ?_
 refine RunD.takeR 11 rfl rfl kr nT35 rfl pk (hrm.elem (fun _ => rfl) hmq) rfl ?_
 refine RunD.three 12 17 18 [false, false, false, true, true, true, false, false, false, false, false, true] [true, true, true, true, true, true, true, true, true, true, true, true] [true, true, true, true, true, true, true, true, true, true, true, true] rfl rfl rfl rfl rfl rfl rfl rfl rfl kr kr kr kr (OpJ.callOuts nC58 rfl rfl (ac19f g.k x.s m x.la x.lc x.pa x.pc KLc KPc hso (H.ok m (List.mem_of_getElem? hsm)) hI.cr.1 hI.cr.2 R0 hR0) tks fun y _ => ⟨po, ?_⟩) (OpJ.alloc nZ61 fun b13 => ⟨po, ?_⟩) (OpJ.alloc nZ32 fun b14 => ⟨po, ?_⟩)
 refine dx [13, 14, 15, 16] ?_
 refine RunD.two 17 18 [true, true, true, true, true, true, true, true] [true, true, true, true, true, true, true, true] rfl rfl rfl rfl rfl rfl kr kr kr (OpJ.alloc nZ61 fun b13 => ⟨po, ?_⟩) (OpJ.alloc nZ32 fun b14 => ⟨po, ?_⟩)
 refine RunD.op 18 [true, true, true, true, true, true, true, true] rfl rfl rfl kr kr (OpJ.alloc nZ32 fun b14 => ⟨po, ?_⟩)
 refine RunD.op 19 [true, true, false, false, false, false, false, false] rfl rfl rfl kr kr (OpJ.storeW nT61 rfl rfl StS_len rfl StS_one up ⟨po, ?_⟩)
 refine dsw 20 [true, false] ?_
 refine dx [21] ?_
 exact dwk ⟨_, _, _, rfl, rfl⟩ rfl gv
 refine RunD.op 17 [true, true, true, true, true, true, true, true] rfl rfl rfl kr kr (OpJ.alloc nZ61 fun b13 => ⟨po, ?_⟩)
 refine RunD.op 19 [true, true, false, false, false, false, false, false] rfl rfl rfl kr kr (OpJ.storeW nT61 rfl rfl StS_len rfl StS_one up ⟨po, ?_⟩)
 refine dsw 20 [true, false] ?_
 refine dx [21] ?_
 exact dwk ⟨_, _, _, rfl, rfl⟩ rfl gv
 refine RunD.two 12 18 [false, false, false, true, true, true, false, false, false, false, false, true] [true, true, true, true, true, true, true, true, true, true, true, true] rfl rfl rfl rfl rfl rfl kr kr kr (OpJ.callOuts nC58 rfl rfl (ac19f g.k x.s m x.la x.lc x.pa x.pc KLc KPc hso (H.ok m (List.mem_of_getElem? hsm)) hI.cr.1 hI.cr.2 R0 hR0) tks fun y _ => ⟨po, ?_⟩) (OpJ.alloc nZ32 fun b14 => ⟨po, ?_⟩)
 refine dx [13, 14, 15, 16] ?_
 refine RunD.op 18 [true, true, true, true, true, true, true, true] rfl rfl rfl kr kr (OpJ.alloc nZ32 fun b14 => ⟨po, ?_⟩)
 refine RunD.op 19 [true, true, false, false, false, false, false, false] rfl rfl rfl kr kr (OpJ.storeW nT61 rfl rfl StS_len rfl StS_one up ⟨po, ?_⟩)
 refine dsw 20 [true, false] ?_
 refine dx [21] ?_
 exact dwk ⟨_, _, _, rfl, rfl⟩ rfl gv
 refine RunD.op 12 [false, false, false, true, true, true, false, false, false, false, false, true] rfl rfl rfl kr kr (OpJ.callOuts nC58 rfl rfl (ac19f g.k x.s m x.la x.lc x.pa x.pc KLc KPc hso (H.ok m (List.mem_of_getElem? hsm)) hI.cr.1 hI.cr.2 R0 hR0) tks fun y _ => ⟨po, ?_⟩)
 refine dx [13, 14, 15, 16] ?_
 refine RunD.op 19 [true, true, false, false, false, false, false, false] rfl rfl rfl kr kr (OpJ.storeW nT61 rfl rfl StS_len rfl StS_one up ⟨po, ?_⟩)
 refine dsw 20 [true, false] ?_
 refine dx [21] ?_
 exact dwk ⟨_, _, _, rfl, rfl⟩ rfl gv
 refine RunD.two 12 17 [false, false, false, true, true, true, false, false, false, false, false, true] [true, true, true, true, true, true, true, true, true, true, true, true] rfl rfl rfl rfl rfl rfl kr kr kr (OpJ.callOuts nC58 rfl rfl (ac19f g.k x.s m x.la x.lc x.pa x.pc KLc KPc hso (H.ok m (List.mem_of_getElem? hsm)) hI.cr.1 hI.cr.2 R0 hR0) tks fun y _ => ⟨po, ?_⟩) (OpJ.alloc nZ61 fun b13 => ⟨po, ?_⟩)
 refine dx [13, 14, 15, 16] ?_
 refine RunD.op 17 [true, true, true, true, true, true, true, true] rfl rfl rfl kr kr (OpJ.alloc nZ61 fun b13 => ⟨po, ?_⟩)
 refine RunD.op 19 [true, true, false, false, false, false, false, false] rfl rfl rfl kr kr (OpJ.storeW nT61 rfl rfl StS_len rfl StS_one up ⟨po, ?_⟩)
 refine dsw 20 [true, false] ?_
 refine dx [21] ?_
 exact dwk ⟨_, _, _, rfl, rfl⟩ rfl gv
 refine RunD.op 12 [false, false, false, true, true, true, false, false, false, false, false, true] rfl rfl rfl kr kr (OpJ.callOuts nC58 rfl rfl (ac19f g.k x.s m x.la x.lc x.pa x.pc KLc KPc hso (H.ok m (List.mem_of_getElem? hsm)) hI.cr.1 hI.cr.2 R0 hR0) tks fun y _ => ⟨po, ?_⟩)
 refine dx [13, 14, 15, 16] ?_
 refine RunD.op 19 [true, true, false, false, false, false, false, false] rfl rfl rfl kr kr (OpJ.storeW nT61 rfl rfl StS_len rfl StS_one up ⟨po, ?_⟩)
 refine dsw 20 [true, false] ?_
 refine dx [21] ?_
 exact dwk ⟨_, _, _, rfl, rfl⟩ rfl gv
 rintro _ _ ⟨y, b13, b14, rfl, rfl⟩
 refine Run.seq ?_
 refine sr ?_
 refine sx 1 ?_
 rcases hst : stepM g.k x.s m with e | ⟨t, c⟩
 refine sx 1 ?_
 first | refine RunL.set (congrArg Value.bool (decide_eq_true (show errOf (Except.error _) ≠ 0 from stepM_err hst))) ?_ | skip
 refine kp [0, 1, 2, 8, 10, 11, 12, 13, 14, 15, 68] rfl ?_
 refine Run.true rfl ?_
 refine rg 4 [8, 9] ?_
 refine Run.ret ?_
 have hf := runL_fail hI.cur hsm hst; refine ret_out (⟨bm, ka, kcp, x, kq, KLc, KPc⟩ : RunO) (.cellA nT85 rfl pk (by rfl) (.tmp rfl .nil)) (by unfold runP; rw [hf]; exact ⟨hI.gl, hI.gp⟩) (by rw [hf]; rfl) ?_; rw [hf]; exact gv
 refine RunL.unstar (As := StB 96 98 (Except.ok (t, c)) y) pk ?_
 rw [show StS (Except.ok (t, c)) y = t.c y.1 y.2.1 y.2.2.1 y.2.2.2 from rfl, show avC (Except.ok (t, c)) = c from rfl]
 refine sx 1 ?_
 first | refine RunL.set (congrArg Value.bool (decide_eq_true (show errOf (Except.error _) ≠ 0 from stepM_err hst))) ?_ | skip
 refine kp [0, 1, 2, 8, 10, 11, 12, 13, 14, 15, 68] rfl ?_
 refine Run.false rfl ?_
 refine Run.skip ?_
 refine Run.seq ?_
 refine regionD HM ?_
 refine dx [0, 1, 2, 3, 4] ?_
 refine RunD.takeR1 5 rfl rfl kr nT3 rfl pk (hro.elem (enc := Iv) (fun _ => rfl) hy) ?_
 refine dx [6] ?_
 refine RunD.op 7 [false, false, false, false, false, false, false] rfl rfl rfl kr kr (OpJ.mapUpdate (((q : Int), c) : KV) keyInt mp83 uv3 rfl rfl rfl up ⟨po, ?_⟩)
 have hyc : ord[cs.length]? = some (q : Int) := by rw [hcl]; exact hy
 rw [kv_push H.dis hyc, ← kv_next (by omega) hyc]
 refine kd [0, 1, 2, 8, 10, 11, 12, 13] rfl ?_
 refine Run.region ?_
 refine sx 2 ?_
 refine kp [0, 1, 2, 8, 10, 11, 12] rfl ?_
 refine Run.region ?_
 refine sx 3 ?_
 refine RunL.pack (A := own 96 4 y.1 t.layers.length y.2.1 (t.layers.flatMap Ly.c)) (B := KLc) pk pk ?_
 refine RunL.pack (A := own 98 7 y.2.2.1 t.past.length y.2.2.2 (t.past.flatMap Pa.c)) (B := KPc) pk pk ?_
 exact RunL.next (Keep.sub (kt (ks := [0, 1, 2, 8, 10, 11, 12]) rfl)) _ ⟨_, by omega, i + 1, ⟨t, y.1, y.2.1, y.2.2.1, y.2.2.2⟩, kq ++ [x], cs ++ [c], a48, c48, _, _, rfl, hI.next (x' := ⟨t, y.1, y.2.1, y.2.2.1, y.2.2.2⟩) hsm hst own.rds own.rds (.inl ⟨by omega, rfl⟩), rfl, rfl⟩ gv
 refine Run.skip ?_
 refine Run.seq ?_
 obtain ⟨y0, hy⟩ := get_ex (xs := ord) (i := 16 * j0 + i) (by omega)
 obtain ⟨q, m, rfl, hmq, hsm⟩ := H.idx _ _ hy
 have hqlt := (List.getElem?_eq_some_iff.1 hmq).1
 refine Run.rdOpen pk hRM (flat_ne (k := 8) (fun _ => rfl) (by decide) hmq) fun bM oM e hrm => ?_
 subst e
 refine Run.rdOpen pk hRO (flat_ne (k := 1) (fun _ => rfl) (by decide) hy) fun bO oO e hro => ?_
 subst e
 have hcl : cs.length = 16 * j0 + i := (runL_len hI.cur).trans (by rw [List.length_take]; omega)
 have hso := (runL_ok (fun m hm => H.ok m (List.mem_of_mem_take hm)) H.st0 hI.cur).mono (show 0 + (sm.take (16 * j0 + i)).length ≤ 999999 by rw [List.length_take]; omega)
 refine regionD HM ?_
 refine RunD.mono (K' := fun E' L' => ∃ y : Option Addr × Nat × Option Addr × Nat, ∃ b13 : Nat, ∃ b14 : Nat, E' = [(0, .pointer (some ⟨bg, 0, none⟩)), (1, .slice (some ⟨bM, oM, none⟩) ms.length mcp), (2, .slice (some ⟨bO, oO, none⟩) ord.length ocp), (8, .pointer (some ⟨b8, 0, none⟩)), (10, .pointer (some ⟨b10, 0, none⟩)), (11, .pointer (some ⟨b11, 0, none⟩)), (12, I ((16 * j0 + i : Nat) : Int)), (13, .pointer (some ⟨b13, 0, none⟩)), (14, .pointer (some ⟨b14, 0, none⟩)), (15, I (errOf (stepM g.k x.s m)))] ∧ L' = [pt b13 (blk (StS (stepM g.k x.s m) y) 61), pt b14 (blk (avC (stepM g.k x.s m)).c 32), stars (StB 96 98 (stepM g.k x.s m) y), pt b10 (blk [.map (some bm), .slice ka kq.length kcp, I 0, I 0, I 0, .slice none 0 0, .slice none 0 0] 85), pt b11 (blk x.c 61), pt b8 (blk Z7 85), amap bm KVf KVg (kvOf ord cs (16 * j0)), own 61 5 ka kq.length kcp ((kq).flatMap Ks.c), pt bg (blk (EgC g mo mc co cc oo oc (some ⟨bk, 0, none⟩) kc) 76), own 61 5 (some ⟨bk, 0, none⟩) g.kp.length kc (g.kp.flatMap Ks.c), RM, RO, KLc, KPc, R0]) ?_ ?_
 refine dx [0, 1, 2, 3, 4, 5, 6, 7, 8] ?_
 refine RunD.takeR1 9 rfl rfl kr nT3 rfl pk (hro.elem (enc := Iv) (fun _ => rfl) hy) ?_
 refine dx [10] ?_
 refine RunD.takeR 11 rfl rfl kr nT35 rfl pk (hrm.elem (fun _ => rfl) hmq) rfl ?_
 refine RunD.three 12 17 18 [false, false, false, true, true, true, false, false, false, false, false, true] [true, true, true, true, true, true, true, true, true, true, true, true] [true, true, true, true, true, true, true, true, true, true, true, true] rfl rfl rfl rfl rfl rfl rfl rfl rfl kr kr kr kr (OpJ.callOuts nC58 rfl rfl (ac19f g.k x.s m x.la x.lc x.pa x.pc KLc KPc hso (H.ok m (List.mem_of_getElem? hsm)) hI.cr.1 hI.cr.2 R0 hR0) tks fun y _ => ⟨po, ?_⟩) (OpJ.alloc nZ61 fun b13 => ⟨po, ?_⟩) (OpJ.alloc nZ32 fun b14 => ⟨po, ?_⟩)
 refine dx [13, 14, 15, 16] ?_
 refine RunD.two 17 18 [true, true, true, true, true, true, true, true] [true, true, true, true, true, true, true, true] rfl rfl rfl rfl rfl rfl kr kr kr (OpJ.alloc nZ61 fun b13 => ⟨po, ?_⟩) (OpJ.alloc nZ32 fun b14 => ⟨po, ?_⟩)
 refine RunD.op 18 [true, true, true, true, true, true, true, true] rfl rfl rfl kr kr (OpJ.alloc nZ32 fun b14 => ⟨po, ?_⟩)
 refine RunD.op 19 [true, true, false, false, false, false, false, false] rfl rfl rfl kr kr (OpJ.storeW nT61 rfl rfl StS_len rfl StS_one up ⟨po, ?_⟩)
 refine dsw 20 [true, false] ?_
 refine dx [21] ?_
 exact dwk ⟨_, _, _, rfl, rfl⟩ rfl gv
 refine RunD.op 17 [true, true, true, true, true, true, true, true] rfl rfl rfl kr kr (OpJ.alloc nZ61 fun b13 => ⟨po, ?_⟩)
 refine RunD.op 19 [true, true, false, false, false, false, false, false] rfl rfl rfl kr kr (OpJ.storeW nT61 rfl rfl StS_len rfl StS_one up ⟨po, ?_⟩)
 refine dsw 20 [true, false] ?_
 refine dx [21] ?_
 exact dwk ⟨_, _, _, rfl, rfl⟩ rfl gv
 refine RunD.two 12 18 [false, false, false, true, true, true, false, false, false, false, false, true] [true, true, true, true, true, true, true, true, true, true, true, true] rfl rfl rfl rfl rfl rfl kr kr kr (OpJ.callOuts nC58 rfl rfl (ac19f g.k x.s m x.la x.lc x.pa x.pc KLc KPc hso (H.ok m (List.mem_of_getElem? hsm)) hI.cr.1 hI.cr.2 R0 hR0) tks fun y _ => ⟨po, ?_⟩) (OpJ.alloc nZ32 fun b14 => ⟨po, ?_⟩)
 refine dx [13, 14, 15, 16] ?_
 refine RunD.op 18 [true, true, true, true, true, true, true, true] rfl rfl rfl kr kr (OpJ.alloc nZ32 fun b14 => ⟨po, ?_⟩)
 refine RunD.op 19 [true, true, false, false, false, false, false, false] rfl rfl rfl kr kr (OpJ.storeW nT61 rfl rfl StS_len rfl StS_one up ⟨po, ?_⟩)
 refine dsw 20 [true, false] ?_
 refine dx [21] ?_
 exact dwk ⟨_, _, _, rfl, rfl⟩ rfl gv
 refine RunD.op 12 [false, false, false, true, true, true, false, false, false, false, false, true] rfl rfl rfl kr kr (OpJ.callOuts nC58 rfl rfl (ac19f g.k x.s m x.la x.lc x.pa x.pc KLc KPc hso (H.ok m (List.mem_of_getElem? hsm)) hI.cr.1 hI.cr.2 R0 hR0) tks fun y _ => ⟨po, ?_⟩)
 refine dx [13, 14, 15, 16] ?_
 refine RunD.op 19 [true, true, false, false, false, false, false, false] rfl rfl rfl kr kr (OpJ.storeW nT61 rfl rfl StS_len rfl StS_one up ⟨po, ?_⟩)
 refine dsw 20 [true, false] ?_
 refine dx [21] ?_
 exact dwk ⟨_, _, _, rfl, rfl⟩ rfl gv
 refine RunD.two 12 17 [false, false, false, true, true, true, false, false, false, false, false, true] [true, true, true, true, true, true, true, true, true, true, true, true] rfl rfl rfl rfl rfl rfl kr kr kr (OpJ.callOuts nC58 rfl rfl (ac19f g.k x.s m x.la x.lc x.pa x.pc KLc KPc hso (H.ok m (List.mem_of_getElem? hsm)) hI.cr.1 hI.cr.2 R0 hR0) tks fun y _ => ⟨po, ?_⟩) (OpJ.alloc nZ61 fun b13 => ⟨po, ?_⟩)
 refine dx [13, 14, 15, 16] ?_
 refine RunD.op 17 [true, true, true, true, true, true, true, true] rfl rfl rfl kr kr (OpJ.alloc nZ61 fun b13 => ⟨po, ?_⟩)
 refine RunD.op 19 [true, true, false, false, false, false, false, false] rfl rfl rfl kr kr (OpJ.storeW nT61 rfl rfl StS_len rfl StS_one up ⟨po, ?_⟩)
 refine dsw 20 [true, false] ?_
 refine dx [21] ?_
 exact dwk ⟨_, _, _, rfl, rfl⟩ rfl gv
 refine RunD.op 12 [false, false, false, true, true, true, false, false, false, false, false, true] rfl rfl rfl kr kr (OpJ.callOuts nC58 rfl rfl (ac19f g.k x.s m x.la x.lc x.pa x.pc KLc KPc hso (H.ok m (List.mem_of_getElem? hsm)) hI.cr.1 hI.cr.2 R0 hR0) tks fun y _ => ⟨po, ?_⟩)
 refine dx [13, 14, 15, 16] ?_
 refine RunD.op 19 [true, true, false, false, false, false, false, false] rfl rfl rfl kr kr (OpJ.storeW nT61 rfl rfl StS_len rfl StS_one up ⟨po, ?_⟩)
 refine dsw 20 [true, false] ?_
 refine dx [21] ?_
 exact dwk ⟨_, _, _, rfl, rfl⟩ rfl gv
 rintro _ _ ⟨y, b13, b14, rfl, rfl⟩
 refine Run.seq ?_
 refine sr ?_
 refine sx 1 ?_
 rcases hst : stepM g.k x.s m with e | ⟨t, c⟩
 refine sx 1 ?_
 first | refine RunL.set (congrArg Value.bool (decide_eq_true (show errOf (Except.error _) ≠ 0 from stepM_err hst))) ?_ | skip
 refine kp [0, 1, 2, 8, 10, 11, 12, 13, 14, 15, 68] rfl ?_
 refine Run.true rfl ?_
 refine rg 4 [8, 9] ?_
 refine Run.ret ?_
 have hf := runL_fail hI.cur hsm hst; refine ret_out (⟨bm, ka, kcp, x, kq, KLc, KPc⟩ : RunO) (.cellA nT85 rfl pk (by rfl) (.tmp rfl .nil)) (by unfold runP; rw [hf]; exact ⟨hI.gl, hI.gp⟩) (by rw [hf]; rfl) ?_; rw [hf]; exact gv
 refine RunL.unstar (As := StB 96 98 (Except.ok (t, c)) y) pk ?_
 rw [show StS (Except.ok (t, c)) y = t.c y.1 y.2.1 y.2.2.1 y.2.2.2 from rfl, show avC (Except.ok (t, c)) = c from rfl]
 refine sx 1 ?_
 first | refine RunL.set (congrArg Value.bool (decide_eq_true (show errOf (Except.error _) ≠ 0 from stepM_err hst))) ?_ | skip
 refine kp [0, 1, 2, 8, 10, 11, 12, 13, 14, 15, 68] rfl ?_
 refine Run.false rfl ?_
 refine Run.skip ?_
 refine Run.seq ?_
 refine regionD HM ?_
 refine dx [0, 1, 2, 3, 4] ?_
 refine RunD.takeR1 5 rfl rfl kr nT3 rfl pk (hro.elem (enc := Iv) (fun _ => rfl) hy) ?_
 refine dx [6] ?_
 refine RunD.op 7 [false, false, false, false, false, false, false] rfl rfl rfl kr kr (OpJ.mapUpdate (((q : Int), c) : KV) keyInt mp83 uv3 rfl rfl rfl up ⟨po, ?_⟩)
 have hyc : ord[cs.length]? = some (q : Int) := by rw [hcl]; exact hy
 rw [kv_push H.dis hyc, ← kv_next (by omega) hyc]
 refine kd [0, 1, 2, 8, 10, 11, 12, 13] rfl ?_
 refine Run.region ?_
 refine sx 2 ?_
 refine kp [0, 1, 2, 8, 10, 11, 12] rfl ?_
 refine Run.region ?_
 refine sx 3 ?_
 refine RunL.pack (A := own 96 4 y.1 t.layers.length y.2.1 (t.layers.flatMap Ly.c)) (B := KLc) pk pk ?_
 refine RunL.pack (A := own 98 7 y.2.2.1 t.past.length y.2.2.2 (t.past.flatMap Pa.c)) (B := KPc) pk pk ?_
 exact RunL.next (Keep.sub (kt (ks := [0, 1, 2, 8, 10, 11, 12]) rfl)) _ ⟨_, by omega, i + 1, ⟨t, y.1, y.2.1, y.2.2.1, y.2.2.2⟩, kq, cs ++ [c], ka, kcp, _, _, rfl, hI.next (x' := ⟨t, y.1, y.2.1, y.2.2.1, y.2.2.2⟩) hsm hst own.rds own.rds (.inr ⟨by omega, rfl⟩), rfl, rfl⟩ gv
 refine Run.exit ?_
 refine Run.seq ?_
 refine sr ?_
 refine sx 3 ?_
 refine RunL.set (v := I (((ord.length) % 16 : Nat) : Int)) (congrArg I (by rw [Int.tmod_eq_emod_of_nonneg (by omega)]; omega)) ?_
 refine sx 1 ?_
 refine kp [8, 10, 11, 82] rfl ?_
 refine cnd rfl (fun h3 => ?_) fun h3 => ?_
 refine Run.region ?_
 refine sx 3 ?_
 refine RunL.op rfl rfl (OpJ.buildSlice1 nS73 rfl rfl rfl (by decide) (by decide) nZ61 rfl fun b86 => ?_)
 refine RunL.op rfl rfl (OpJ.append1 (x : Ks) nS73 nM61 rfl rfl pk pk rfl rfl (by simp [Value.oneCell', Pa.c, Ly.c, Mv.c, Co.c, Aj.c, Ks.c, Iv]) rfl (by omega) (by omega) fun a87 c87 => ?_)
 refine sx 2 ?_
 refine kp [8, 10, 11] rfl ?_
 refine sr ?_
 refine sx 2 ?_
 refine RunL.op rfl rfl (OpJ.store inferInstance rfl rfl rfl rfl (ks1 x) up (by simp) ?_)
 refine kp [8, 10] rfl ?_
 refine sr ?_
 refine sx 1 ?_
 refine RunL.op rfl rfl (OpJ.storeW inferInstance rfl rfl rfl rfl (by simp [Value.oneCell', Ks.c, Value.cells]) up ?_)
 refine sx 1 ?_
 refine kp [8, 9] rfl ?_
 refine Run.ret ?_
 have hfull : runL (stepM g.k) st sm = .ok (x.s, cs) := (runL_all (by omega)).trans hI.cur; refine ret_out (⟨bm, a87, c87, x, kq ++ [x], KLc, KPc⟩ : RunO) (.cellA nT85 rfl pk (by rfl) (.tmp rfl .nil)) (by unfold runP; rw [hfull]; exact ⟨rfl, hI.fin (by omega) (.inl ⟨by omega, rfl⟩)⟩) (by rw [hfull]; rfl) ?_; rw [hfull]; exact gv
 refine Run.skip ?_
 refine sr ?_
 refine sx 2 ?_
 refine RunL.op rfl rfl (OpJ.store inferInstance rfl rfl rfl rfl (ks1 x) up (by simp) ?_)
 refine kp [8, 10] rfl ?_
 refine sr ?_
 refine sx 1 ?_
 refine RunL.op rfl rfl (OpJ.storeW inferInstance rfl rfl rfl rfl (by simp [Value.oneCell', Ks.c, Value.cells]) up ?_)
 refine sx 1 ?_
 refine kp [8, 9] rfl ?_
 refine Run.ret ?_
 have hfull : runL (stepM g.k) st sm = .ok (x.s, cs) := (runL_all (by omega)).trans hI.cur; refine ret_out (⟨bm, ka, kcp, x, kq, KLc, KPc⟩ : RunO) (.cellA nT85 rfl pk (by rfl) (.tmp rfl .nil)) (by unfold runP; rw [hfull]; exact ⟨rfl, hI.fin (by omega) (.inr ⟨by omega, rfl⟩)⟩) (by rw [hfull]; rfl) ?_; rw [hfull]; exact gv
theorem ac14n (bg : Nat) (g : Eg) (mo : Option Addr) (mc : Nat) (co : Option Addr) (cc : Nat) (oo : Option Addr) (oc : Nat) (ko : Option Addr) (kc : Nat) (p : Int) (m : Mv) (KL KP : HP) (HI : EngI g p KL KP) (R0 : HP) (hR0 : Rd R0 ⟨0, 0, none⟩ lensC) : AC Tryz.prog 14 ⟨[.pointer (some ⟨bg, 0, none⟩), .agg ⟨m.c⟩]⟩ (stars [pt bg (blk (EgC g mo mc co cc oo oc ko kc) 76), own 35 8 mo g.ms.length mc (g.ms.flatMap Mv.c), own 32 4 co g.cs.length cc (g.cs.flatMap Co.c), own 3 1 oo g.ord.length oc (g.ord.flatMap Iv), own 61 5 ko g.kp.length kc (g.kp.flatMap Ks.c), KL, KP, R0]) (Outs (addP g p m KL KP) (addV g p m) (fun x => if addE g p m = 0 then [own 41 3 x.ja (adjL (addKv g p m) g.cs g.cs.length).length x.jc ((adjL (addKv g p m) g.cs g.cs.length).flatMap Aj.c), pt bg (blk (EgC (x.g) (x.mo) (x.mc) (x.co) (x.cc) (x.oo) (x.oc) (x.ko) (x.kc)) 76), own 35 8 (x.mo) (x.g).ms.length (x.mc) ((x.g).ms.flatMap Mv.c), own 32 4 (x.co) (x.g).cs.length (x.cc) ((x.g).cs.flatMap Co.c), own 3 1 (x.oo) (x.g).ord.length (x.oc) ((x.g).ord.flatMap Iv), own 61 5 (x.ko) (x.g).kp.length (x.kc) ((x.g).kp.flatMap Ks.c), x.KL, x.KP, R0] else [pt bg (blk (EgC g mo mc co cc oo oc ko kc) 76), own 35 8 mo g.ms.length mc (g.ms.flatMap Mv.c), own 32 4 co g.cs.length cc (g.cs.flatMap Co.c), own 3 1 oo g.ord.length oc (g.ord.flatMap Iv), own 61 5 ko g.kp.length kc (g.kp.flatMap Ks.c), x.KL, x.KP, R0])) := by
 have hlen := HI.len; have hcl := HI.cl; have hol := HI.ix.len
 refine eo Tryz.func14 fun β => ?_
 refine sr ?_
 refine obx rfl fun b3 => ?_
 refine oal fun b4 => ?_
 refine sx 2 ?_
 refine kq [0, 3, 4] ?_
 refine Run.seq ?_
 refine rg 2 [0, 3, 4, 16] ?_
 refine Run.false rfl ?_
 refine Run.skip ?_
 refine Run.seq ?_
 refine regionD HM ?_
 refine RunD.mono (K' := fun E' L' => ∃ a25 : Option Addr, ∃ c25 : Nat, E' = [(0, .pointer (some ⟨bg, 0, none⟩)), (3, .pointer (some ⟨b3, 0, none⟩)), (4, .pointer (some ⟨b4, 0, none⟩)), (7, .slice a25 (g.ms ++ [m]).length c25)] ∧ L' = [pt b3 (blk m.c 35), pt b4 (blk Co0.c 32), own 35 8 a25 (g.ms ++ [m]).length c25 ((g.ms ++ [m]).flatMap Mv.c), pt bg (blk (EgC g mo mc co cc oo oc ko kc) 76), own 35 8 mo g.ms.length mc (g.ms.flatMap Mv.c), own 32 4 co g.cs.length cc (g.cs.flatMap Co.c), own 3 1 oo g.ord.length oc (g.ord.flatMap Iv), own 61 5 ko g.kp.length kc (g.kp.flatMap Ks.c), KL, KP, R0]) ?_ ?_
 refine dx [0, 1, 2, 3, 5] ?_
 refine RunD.two 4 6 [true, false, false, false, true] [false, true, true, true, true] rfl rfl rfl rfl rfl rfl kr kr kr (OpJ.callOuts nC33 rfl rfl (cl33 (own 35 8 mo g.ms.length mc (g.ms.flatMap Mv.c)) mo mc g.ms own.rds (by omega)) tks fun ⟨a33, c33⟩ _ => ⟨po, ?_⟩) (OpJ.buildSlice1 nS24 rfl rfl rfl (by decide) (by decide) nZ35 rfl fun b24 => ⟨po, ?_⟩)
 refine RunD.op 6 [false, true] rfl rfl rfl kr kr (OpJ.buildSlice1 nS24 rfl rfl rfl (by decide) (by decide) nZ35 rfl fun b24 => ⟨po, ?_⟩)
 refine RunD.op 7 [true] rfl rfl rfl kr kr (OpJ.append1 (m : Mv) nS24 nM35 rfl rfl pk pk rfl rfl (by simp [Value.oneCell', Pa.c, Ly.c, Mv.c, Co.c, Aj.c, Ks.c, Iv]) rfl (by omega) (by omega) fun a25 c25 => ⟨po, ?_⟩)
 refine dx [8] ?_
 exact dwk ⟨_, _, rfl, rfl⟩ rfl gv
 refine RunD.op 4 [false, false, false, true] rfl rfl rfl kr kr (OpJ.callOuts nC33 rfl rfl (cl33 (own 35 8 mo g.ms.length mc (g.ms.flatMap Mv.c)) mo mc g.ms own.rds (by omega)) tks fun ⟨a33, c33⟩ _ => ⟨po, ?_⟩)
 refine RunD.op 7 [true] rfl rfl rfl kr kr (OpJ.append1 (m : Mv) nS24 nM35 rfl rfl pk pk rfl rfl (by simp [Value.oneCell', Pa.c, Ly.c, Mv.c, Co.c, Aj.c, Ks.c, Iv]) rfl (by omega) (by omega) fun a25 c25 => ⟨po, ?_⟩)
 refine dx [8] ?_
 exact dwk ⟨_, _, rfl, rfl⟩ rfl gv
 rintro _ _ ⟨a25, c25, rfl, rfl⟩
 refine Run.seq ?_
 refine sr ?_
 obtain ⟨x0, hx0⟩ := get_ex (xs := g.ms ++ [m]) (i := 0) (by simp)
 refine RunL.ownAddr pk (flat_ne (k := 8) (fun _ => rfl) (by decide) hx0) fun b e hcapb => ?_
 subst e
 refine sx 1 ?_
 refine RunL.callX nC34 rfl rfl rfl (ac34n _ _ _ (g.ms ++ [m]) own.rds (by simp; omega) hcapb R0 hR0) tks fun at_ _ => ?_
 refine sx 5 ?_
 refine kq [0, 3, 4, 7, 9] ?_
 refine rg 2 [0, 3, 4, 7, 9, 32] ?_
 refine cnd rfl (fun h1 => ?_) fun h1 => ?_
 refine rg 5 [4, 5, 6] ?_
 refine Run.ret ?_
 have hE := addE_chk (p := p) h1; refine ret_out (⟨g, none, 0, none, 0, none, 0, none, 0, none, 0, KL, KP⟩ : AddO) (.cellA nT32 rfl pk (by rfl) (.tmp rfl (.tmp rfl .nil))) (by unfold addP; rw [if_neg (by rw [hE]; exact h1)]; exact HI) (by unfold addV; rw [if_neg (by rw [hE]; exact h1), hE]; rfl) ?_; rw [if_neg (by rw [hE]; exact h1)]; exact gv
 refine Run.skip ?_
 refine sr ?_
 have hchk : chkE (g.ms ++ [m]) = 0 := by omega
 have hat : addAt g m ≤ g.ord.length := cutN_le
 have hat2 : cutN (dnB g.ms m.value) g.ord ≤ g.ord.length := cutN_le
 have hat3 : cutN (dnB g.ms m.value) g.ord = addAt g m := rfl
 have hol2 : (addOrd g m).length = g.ord.length + 1 := insN_len cutN_le
 refine sx 3 ?_
 refine RunL.call nC35 rfl rfl rfl (ac35n bg g mo mc co cc oo oc ko kc m.value (by omega) HI.ix.mem (HI.ix.mono m.value)) tks ?_
 refine sx 1 ?_
 refine kq [0, 4, 7, 10] ?_
 refine sr ?_
 refine sx 4 ?_
 refine RunL.callX nC37 rfl rfl rfl (cl37b (own 3 1 oo g.ord.length oc (g.ord.flatMap Iv)) oo oc g.ord own.rds (by omega)) tks fun ⟨a37, c37⟩ hc37 => ?_
 refine sx 4 ?_
 refine RunL.set (v := I (g.ms.length : Int)) (congrArg I (by rw [List.length_append, List.length_singleton, wrap_i64_in (by omega)]; omega)) ?_
 refine RunL.op rfl rfl (OpJ.buildSlice1 nS74 rfl rfl rfl (by decide) (by decide) nZ3 rfl fun b48 => ?_)
 refine RunL.callX nC36 rfl rfl rfl (ac36n a37 c37 g.ord (addAt g m) (g.ms.length : Int) _ cutN_le (by omega) hc37) tks fun ⟨a36, c36⟩ _ => ?_
 refine sx 1 ?_
 refine kq [0, 4, 7, 10, 11] ?_
 refine sr ?_
 have h38 := ac38n bg g mo mc co cc oo oc ko kc (start0 g.k p) (g.ms ++ [m]) (ordM (g.ms ++ [m])) (addOrd g m) (addAt g m / 16) KL KP (own 35 8 (some ⟨b, 0, none⟩) (g.ms ++ [m]).length c25 ((g.ms ++ [m]).flatMap Mv.c)) (own 3 1 a36 (g.ord.length + 1) c36 ((addOrd g m).flatMap Iv)) (some ⟨b, 0, none⟩) a36 c25 c36 (HI.runH hchk) own.rds own.rds R0 hR0
 rw [hol2] at h38
 refine sx 5 ?_
 refine RunL.set (v := I ((addAt g m / 16 : Nat) : Int)) (congrArg I (by rw [Int.tdiv_eq_ediv_of_nonneg (by omega), wrap_i64_in (by omega)]; omega)) ?_
 refine sx 1 ?_
 refine RunL.set (v := I ((16 * (addAt g m / 16) : Nat) : Int)) (congrArg I (by rw [wrap_i64_in (by omega)]; omega)) ?_
 refine RunL.callX nC38 rfl rfl rfl h38 tks fun o ho => ?_
 refine sx 1 ?_
 rcases hr : runL (stepM g.k) (start0 g.k p) (ordM (g.ms ++ [m])) with ⟨ie, e⟩ | ⟨t, cs0⟩
 unfold runP at ho
 rw [hr] at ho
 refine sx 2 ?_
 refine oal fun b12 => ?_
 refine RunL.op rfl rfl (OpJ.storeW inferInstance rfl rfl rfl rfl (by first | exact zst_one | simp [Value.oneCell', Ks.c, Value.cells]) up ?_)
 refine sx 1 ?_
 refine kq [0, 4, 6, 7, 11, 12] ?_
 refine Run.seq ?_
 refine sr ?_
 refine sx 2 ?_
 refine sT (runL_err hr).1 ?_
 refine kq [0, 4, 6, 7, 11, 12, 61] ?_
 refine Run.true rfl ?_
 refine rg 5 [4, 5, 6] ?_
 refine Run.ret ?_
 have hE := addE_run hchk hr; have hn := (runL_err hr).1; refine ret_out (⟨g, none, 0, none, 0, none, 0, none, 0, none, 0, o.KL, o.KP⟩ : AddO) (.cellA nT32 rfl pk (by rfl) (.tmp rfl (.tmp rfl .nil))) (by unfold addP; rw [if_neg (by rw [hE]; exact hn)]; exact HI.grow ho.1 ho.2) (by unfold addV; rw [if_neg (by rw [hE]; exact hn), hE]; rfl) ?_; rw [if_neg (by rw [hE]; exact hn)]; exact gv
 unfold runP at ho
 rw [hr] at ho
 refine sx 2 ?_
 refine oal fun b12 => ?_
 refine RunL.op rfl rfl (OpJ.storeW inferInstance rfl rfl rfl rfl (by first | exact zst_one | simp [Value.oneCell', Ks.c, Value.cells]) up ?_)
 refine sx 1 ?_
 refine kq [0, 4, 6, 7, 11, 12] ?_
 refine Run.seq ?_
 refine sr ?_
 refine sx 2 ?_
 refine RunL.set (v := Bo false) rfl ?_
 refine kq [0, 4, 6, 7, 11, 12, 61] ?_
 refine Run.false rfl ?_
 refine Run.skip ?_
 refine sr ?_
 refine sx 2 ?_
 refine RunL.callX nC39 rfl rfl rfl (ac39n bg g mo mc co cc oo oc ko kc _ _ _ _ _ _ _ _ (by omega)) tks fun ⟨ja, jc⟩ _ => ?_
 refine sx 1 ?_
 refine kq [0, 4, 5, 7, 11, 12] ?_
 refine Run.seq ?_
 refine regionD HM ?_
 refine RunD.mono (K' := fun E' L' => E' = [(0, .pointer (some ⟨bg, 0, none⟩)), (4, .pointer (some ⟨b4, 0, none⟩)), (5, .slice ja (adjL (kvOf (addOrd g m) cs0 (16 * (addAt g m / 16))) g.cs g.cs.length).length jc), (7, .slice (some ⟨b, 0, none⟩) (g.ms ++ [m]).length c25), (12, .pointer (some ⟨b12, 0, none⟩))] ∧ L' = [amap o.bm KVf KVg (kvOf (addOrd g m) cs0 (16 * (addAt g m / 16))), pt b4 (blk Co0.c 32), pt b12 (blk [.map (some o.bm), .slice o.ka o.kp.length o.kc, I o.x.s.qty, I o.x.s.value, I o.x.s.price, .slice o.x.la o.x.s.layers.length o.x.lc, .slice o.x.pa o.x.s.past.length o.x.pc] 85), own 41 3 ja (adjL (kvOf (addOrd g m) cs0 (16 * (addAt g m / 16))) g.cs g.cs.length).length jc ((adjL (kvOf (addOrd g m) cs0 (16 * (addAt g m / 16))) g.cs g.cs.length).flatMap Aj.c), pt bg (blk [I g.k, .slice (some ⟨b, 0, none⟩) (g.ms ++ [m]).length c25, .slice co g.cs.length cc, .slice a36 (g.ord.length + 1) c36, .slice o.ka o.kp.length o.kc, I o.x.s.qty, I o.x.s.value, I o.x.s.price, .slice o.x.la o.x.s.layers.length o.x.lc, .slice o.x.pa o.x.s.past.length o.x.pc] 76), own 35 8 (some ⟨b, 0, none⟩) (g.ms ++ [m]).length c25 ((g.ms ++ [m]).flatMap Mv.c), own 32 4 co g.cs.length cc (g.cs.flatMap Co.c), own 3 1 a36 (g.ord.length + 1) c36 ((addOrd g m).flatMap Iv), own 61 5 o.ka o.kp.length o.kc (o.kp.flatMap Ks.c), o.KL, o.KP, R0]) ?_ ?_
 refine dx [0, 1, 2, 3, 4, 5, 6, 7, 8, 9, 10, 11] ?_
 refine RunD.op 12 [false, false, true, true, true, true, true, false, true, true, true, false] rfl rfl rfl kr kr (OpJ.store1 nT24 rfl rfl rfl up (by simp) ⟨po, ?_⟩)
 refine dx [13, 14] ?_
 refine RunD.op 15 [false, false, true, true, true, true, false, true, true, false] rfl rfl rfl kr kr (OpJ.store1 nT74 rfl rfl rfl up (by simp) ⟨po, ?_⟩)
 refine dx [16, 17] ?_
 refine RunD.op 18 [false, false, true, true, false, false, true, false] rfl rfl rfl kr kr (OpJ.store1 nT73 rfl rfl rfl up (by simp) ⟨po, ?_⟩)
 refine dx [19, 20] ?_
 refine RunD.op 21 [false, false, false, false, false] rfl rfl rfl kr kr (OpJ.store nT61 rfl rfl rfl rfl (by simp [Value.cells, Value.oneCell', Pa.c, Ly.c, Mv.c, Co.c]) up (by simp) ⟨po, ?_⟩)
 exact dwk ⟨rfl, rfl⟩ rfl gv
 rintro _ _ ⟨rfl, rfl⟩
 refine sr ?_
 refine sx 6 ?_
 refine RunL.op rfl rfl (OpJ.buildSlice1 nS33 rfl rfl rfl (by decide) (by decide) nZ32 rfl fun b91 => ?_)
 refine RunL.op rfl rfl (OpJ.append1 Co0 nS33 nM32 rfl rfl pk pk rfl rfl (by simp [Value.oneCell', Pa.c, Ly.c, Mv.c, Co.c, Aj.c, Ks.c, Iv]) rfl (by omega) (by omega) fun a92 c92 => ?_)
 refine sx 3 ?_
 refine kq [0, 4, 5, 7, 12] ?_
 refine Run.seq ?_
 refine sr ?_
 refine sx 2 ?_
 refine RunL.op rfl rfl (OpJ.range inferInstance rfl pk fun r97 => ?_)
 refine kq [0, 4, 5, 7, 97] ?_
 refine Run.block ?_
 refine Run.weak (L' := [pt r97 (iter o.bm (kvOf (addOrd g m) cs0 (16 * (addAt g m / 16))).length #[]), amap o.bm KVf KVg (kvOf (addOrd g m) cs0 (16 * (addAt g m / 16))), pt b4 (blk Co0.c 32), own 41 3 ja (adjL (kvOf (addOrd g m) cs0 (16 * (addAt g m / 16))) g.cs g.cs.length).length jc ((adjL (kvOf (addOrd g m) cs0 (16 * (addAt g m / 16))) g.cs g.cs.length).flatMap Aj.c), pt bg (blk [I g.k, .slice (some ⟨b, 0, none⟩) (g.ms ++ [m]).length c25, .slice a92 (g.cs ++ [Co0]).length c92, .slice a36 (g.ord.length + 1) c36, .slice o.ka o.kp.length o.kc, I o.x.s.qty, I o.x.s.value, I o.x.s.price, .slice o.x.la o.x.s.layers.length o.x.lc, .slice o.x.pa o.x.s.past.length o.x.pc] 76), own 35 8 (some ⟨b, 0, none⟩) (g.ms ++ [m]).length c25 ((g.ms ++ [m]).flatMap Mv.c), own 32 4 a92 (g.cs ++ [Co0]).length c92 ((g.cs ++ [Co0]).flatMap Co.c), own 3 1 a36 (g.ord.length + 1) c36 ((addOrd g m).flatMap Iv), own 61 5 o.ka o.kp.length o.kc (o.kp.flatMap Ks.c), o.KL, o.KP, R0]) (fun _ _ h => h) gv ?_
 refine Run.loop (fun mm E L => ∃ (seen : Array Nat) (cs1 : List Co), mm = leftC (kvOf (addOrd g m) cs0 (16 * (addAt g m / 16))).length seen ∧ PartC (kvOf (addOrd g m) cs0 (16 * (addAt g m / 16))) seen (g.cs ++ [Co0]) cs1 ∧ E = [(0, .pointer (some ⟨bg, 0, none⟩)), (4, .pointer (some ⟨b4, 0, none⟩)), (5, .slice ja (adjL (kvOf (addOrd g m) cs0 (16 * (addAt g m / 16))) g.cs g.cs.length).length jc), (7, .slice (some ⟨b, 0, none⟩) (g.ms ++ [m]).length c25), (97, .pointer (some ⟨r97, 0, none⟩))] ∧ L = [pt r97 (iter o.bm (kvOf (addOrd g m) cs0 (16 * (addAt g m / 16))).length seen), amap o.bm KVf KVg (kvOf (addOrd g m) cs0 (16 * (addAt g m / 16))), pt b4 (blk Co0.c 32), own 41 3 ja (adjL (kvOf (addOrd g m) cs0 (16 * (addAt g m / 16))) g.cs g.cs.length).length jc ((adjL (kvOf (addOrd g m) cs0 (16 * (addAt g m / 16))) g.cs g.cs.length).flatMap Aj.c), pt bg (blk [I g.k, .slice (some ⟨b, 0, none⟩) (g.ms ++ [m]).length c25, .slice a92 (g.cs ++ [Co0]).length c92, .slice a36 (g.ord.length + 1) c36, .slice o.ka o.kp.length o.kc, I o.x.s.qty, I o.x.s.value, I o.x.s.price, .slice o.x.la o.x.s.layers.length o.x.lc, .slice o.x.pa o.x.s.past.length o.x.pc] 76), own 35 8 (some ⟨b, 0, none⟩) (g.ms ++ [m]).length c25 ((g.ms ++ [m]).flatMap Mv.c), own 32 4 a92 (g.cs ++ [Co0]).length c92 (cs1.flatMap Co.c), own 3 1 a36 (g.ord.length + 1) c36 ((addOrd g m).flatMap Iv), own 61 5 o.ka o.kp.length o.kc (o.kp.flatMap Ks.c), o.KL, o.KP, R0]) ⟨_, #[], g.cs ++ [Co0], rfl, PartC.start, rfl, rfl⟩ ?_
 rintro _ _ _ ⟨seen, cs1, rfl, hP, rfl, rfl⟩
 refine sr ?_
 refine RunL.op rfl rfl (OpJ.next rfl pk (fun s => up) (fun hall => ?_) (fun iN y hy hns => ?_))
 skip
 refine sx 1 ?_
 refine kq [0, 4, 5, 7, 97, 99] ?_
 refine Run.seq ?_
 refine Run.false rfl ?_
 refine Run.exit ?_
 refine sr ?_
 have hpl := hP.len
 have hgl : (g.cs ++ [Co0]).length = g.cs.length + 1 := by simp
 rw [List.length_append, List.length_singleton] at hpl
 obtain ⟨cz, hcz⟩ := get_ex (xs := cs1) (i := g.ms.length) (by omega)
 refine RunL.ownAddr pk (flat_ne (k := 4) (fun _ => rfl) (by decide) hcz) fun bz e hcapbz => ?_
 subst e
 refine sx 7 ?_
 refine RunL.set (v := I (g.ms.length : Int)) (congrArg I (by rw [List.length_append, List.length_singleton, wrap_i64_in (by omega)]; omega)) ?_
 refine sx 1 ?_
 refine RunL.op rfl rfl (OpJ.loadE inferInstance rfl pk hcz (by exact fun _ => rfl) rfl (by decide) ?_)
 refine sx 4 ?_
 refine kq [4, 5, 6] ?_
 refine Run.ret ?_
 have hE : addE g p m = 0 := addE_ok hchk hr; have hN := hP.fin hall; have hk : addKv g p m = kvOf (addOrd g m) cs0 (16 * (addAt g m / 16)) := (by unfold addKv addRun; rw [hr]); refine ret_out (⟨⟨g.k, g.ms ++ [m], cs1, addOrd g m, o.kp, o.x⟩, some ⟨b, 0, none⟩, c25, some ⟨bz, 0, none⟩, c92, a36, c36, o.ka, o.kc, ja, jc, o.KL, o.KP⟩ : AddO) (.cellA nT32 rfl pk (by rfl) (.tmp rfl (.tmp rfl .nil))) (by unfold addP; rw [if_pos hE]; exact ⟨HI.add hchk hr ho.1 ho.2 hN, rfl, rfl, by rw [hk]; exact hN⟩) (by unfold addV; rw [if_pos hE, hk, hcz]; rfl) ?_; rw [if_pos hE, hk]; unfold EgC; dsimp only; rw [hol2, hP.len]; exact gv
 refine sx 1 ?_
 refine kq [0, 4, 5, 7, 97, 99] ?_
 refine Run.seq ?_
 refine Run.true rfl ?_
 refine Run.skip ?_
 refine Run.block ?_
 refine sr ?_
 obtain ⟨yq, c⟩ := y
 refine RunL.op rfl rfl (OpJ.entry rfl pk pk hy ?_)
 refine sx 2 ?_
 refine oal fun b14 => ?_
 refine sx 2 ?_
 refine kq [0, 4, 5, 7, 13, 14, 97] ?_
 obtain ⟨q, mq, rfl, hmq⟩ := (HI.ix.ins m).mem _ (kv_ord hy)
 have hql := (List.getElem?_eq_some_iff.1 hmq).1
 rw [List.length_append, List.length_singleton] at hql
 have hpl := hP.len
 have hgl : (g.cs ++ [Co0]).length = g.cs.length + 1 := by simp
 rw [List.length_append, List.length_singleton] at hpl
 obtain ⟨cz, hcz⟩ := get_ex (xs := cs1) (i := q) (by omega)
 refine Run.ownAddr pk (flat_ne (k := 4) (fun _ => rfl) (by decide) hcz) fun bz e hcapbz => ?_
 subst e
 refine regionD HM ?_
 refine RunD.mono (K' := fun E' L' => E' = [(0, .pointer (some ⟨bg, 0, none⟩)), (4, .pointer (some ⟨b4, 0, none⟩)), (5, .slice ja (adjL (kvOf (addOrd g m) cs0 (16 * (addAt g m / 16))) g.cs g.cs.length).length jc), (7, .slice (some ⟨b, 0, none⟩) (g.ms ++ [m]).length c25), (97, .pointer (some ⟨r97, 0, none⟩))] ∧ L' = [pt r97 (iter o.bm (kvOf (addOrd g m) cs0 (16 * (addAt g m / 16))).length (seen.push iN)), amap o.bm KVf KVg (kvOf (addOrd g m) cs0 (16 * (addAt g m / 16))), pt b4 (blk Co0.c 32), own 41 3 ja (adjL (kvOf (addOrd g m) cs0 (16 * (addAt g m / 16))) g.cs g.cs.length).length jc ((adjL (kvOf (addOrd g m) cs0 (16 * (addAt g m / 16))) g.cs g.cs.length).flatMap Aj.c), pt bg (blk [I g.k, .slice (some ⟨b, 0, none⟩) (g.ms ++ [m]).length c25, .slice (some ⟨bz, 0, none⟩) (g.cs ++ [Co0]).length c92, .slice a36 (g.ord.length + 1) c36, .slice o.ka o.kp.length o.kc, I o.x.s.qty, I o.x.s.value, I o.x.s.price, .slice o.x.la o.x.s.layers.length o.x.lc, .slice o.x.pa o.x.s.past.length o.x.pc] 76), own 35 8 (some ⟨b, 0, none⟩) (g.ms ++ [m]).length c25 ((g.ms ++ [m]).flatMap Mv.c), own 32 4 (some ⟨bz, 0, none⟩) (g.cs ++ [Co0]).length c92 ((cs1.set q c).flatMap Co.c), own 3 1 a36 (g.ord.length + 1) c36 ((addOrd g m).flatMap Iv), own 61 5 o.ka o.kp.length o.kc (o.kp.flatMap Ks.c), o.KL, o.KP, R0]) ?_ ?_
 refine dx [0, 1, 2, 3, 4, 5, 6] ?_
 refine RunD.op 7 [false, false, false, false, false, false, false] rfl rfl rfl kr kr (OpJ.storeE (xs := cs1) (i := q) (u' := c) inferInstance rfl rfl (co1 _) (by omega) (fun _ => rfl) (by decide) up ⟨po, ?_⟩)
 exact dwk ⟨rfl, rfl⟩ rfl gv
 rintro _ _ ⟨rfl, rfl⟩
 exact ⟨_, leftC_push (List.getElem?_eq_some_iff.1 hy).1 hns, seen.push iN, cs1.set q c, rfl, hP.next (kv_keys (HI.ix.ins m).dis) hy (by omega), rfl, rfl⟩
end
end Go.Proofs.YtcpghpifbgpkjaaGreatDoor

namespace Go.Proofs.YtcpghpifbgpkjaaGreatDoor
open Go Go.SL Go.Proofs
def EN (bg : Nat) (k p : Int) (ms : List Mv) : HP := boxed (fun x : AddO => EngI x.g p x.KL x.KP ∧ x.g.k = k ∧ x.g.ms = ms) (fun x => [pt bg (blk (EgC (x.g) (x.mo) (x.mc) (x.co) (x.cc) (x.oo) (x.oc) (x.ko) (x.kc)) 76), own 35 8 (x.mo) (x.g).ms.length (x.mc) ((x.g).ms.flatMap Mv.c), own 32 4 (x.co) (x.g).cs.length (x.cc) ((x.g).cs.flatMap Co.c), own 3 1 (x.oo) (x.g).ord.length (x.oc) ((x.g).ord.flatMap Iv), own 61 5 (x.ko) (x.g).kp.length (x.kc) ((x.g).kp.flatMap Ks.c), x.KL, x.KP])
theorem Imp.en {bg : Nat} {k p : Int} {ms : List Mv} {L M : List HP} (Rs : List HP) (x : AddO) (hx : EngI x.g p x.KL x.KP ∧ x.g.k = k ∧ x.g.ms = ms) (g : Gives L ([pt bg (blk (EgC (x.g) (x.mo) (x.mc) (x.co) (x.cc) (x.oo) (x.oc) (x.ko) (x.kc)) 76), own 35 8 (x.mo) (x.g).ms.length (x.mc) ((x.g).ms.flatMap Mv.c), own 32 4 (x.co) (x.g).cs.length (x.cc) ((x.g).cs.flatMap Co.c), own 3 1 (x.oo) (x.g).ord.length (x.oc) ((x.g).ord.flatMap Iv), own 61 5 (x.ko) (x.g).kp.length (x.kc) ((x.g).kp.flatMap Ks.c), x.KL, x.KP] ++ Rs)) (g2 : Gives (EN bg k p ms :: Rs) M) : Imp L M := Imp.bx (x := x) hx g g2
abbrev Pt (b : Nat) : Value := .pointer (some ⟨b, 0, none⟩)
section
variable {b : Nat} {k p : Int} {ms : List Mv}
theorem enLen (b : Nat) (k p : Int) (ms : List Mv) : AC Tryz.prog 13 ⟨[Pt b]⟩ (stars [EN b k p ms]) (Ret (I ms.length) [EN b k p ms]) :=
  AC.wrapR fun x ⟨hI, hk, hm⟩ => ⟨_, _, _, _, tks, ac13n b x.g x.mo x.mc x.co x.cc x.oo x.oc x.ko x.kc, by rw [hm], Imp.en [] x ⟨hI, hk, hm⟩ gv gv⟩
theorem enCost (b : Nat) (k p : Int) (ms : List Mv) (seq : Int) (hs : i64 seq) : AC Tryz.prog 15 ⟨[Pt b, I seq]⟩ (stars [EN b k p ms]) (Ret (.tuple ⟨[.agg ⟨(costAt (csOf k p ms) seq).1.c⟩, .bool (costAt (csOf k p ms) seq).2]⟩) [EN b k p ms]) :=
  AC.wrapR fun x ⟨hI, hk, hm⟩ => ⟨_, _, _, _, tks, ac15n b x.g x.mo x.mc x.co x.cc x.oo x.oc x.ko x.kc seq hs (by rw [hI.cl]; have := hI.len; omega), by rw [hI.cs_eq, hk, hm], Imp.en [] x ⟨hI, hk, hm⟩ gv gv⟩
theorem enAt (b : Nat) (k p : Int) (ms : List Mv) (day : Int) : AC Tryz.prog 20 ⟨[Pt b, I day]⟩ (stars [EN b k p ms]) (Ret (.tuple ⟨[I (atW Co.qty day (ms.zip (csOf k p ms))), I (atW Co.value day (ms.zip (csOf k p ms)))]⟩) [EN b k p ms]) :=
  AC.wrapR fun x ⟨hI, hk, hm⟩ => ⟨_, _, _, _, tks, ac20n b x.g x.mo x.mc x.co x.cc x.oo x.oc x.ko x.kc day (by have := hI.len; omega) hI.cl, by rw [hI.cs_eq, hk, hm], Imp.en [] x ⟨hI, hk, hm⟩ gv gv⟩
theorem enMoves (b : Nat) (k p : Int) (ms : List Mv) : AC Tryz.prog 23 ⟨[Pt b]⟩ (stars [EN b k p ms]) (Outs (fun _ : Nat => True) (fun y => .slice (some ⟨y, 0, none⟩) ms.length ms.length) (fun y => [own 35 8 (some ⟨y, 0, none⟩) ms.length ms.length (ms.flatMap Mv.c), EN b k p ms])) :=
  AC.wrapO fun x ⟨hI, hk, hm⟩ => ⟨_, _, _, _, _, _, tks, ac23n b x.g x.mo x.mc x.co x.cc x.oo x.oc x.ko x.kc (by have := hI.len; omega), fun y hy => ⟨y, hy, by rw [hm], by rw [← hm]; exact Imp.en [own 35 8 (some ⟨y, 0, none⟩) x.g.ms.length x.g.ms.length (x.g.ms.flatMap Mv.c)] x ⟨hI, hk, rfl⟩ gv gv⟩⟩
theorem enStock (b : Nat) (k p : Int) (ms : List Mv) : AC Tryz.prog 25 ⟨[Pt b]⟩ (stars [EN b k p ms]) (Outs (fun _ : Option Addr × Nat × Option Addr × Nat => True) (fun x => .agg ⟨(skOf k p ms).c x.1 x.2.1 x.2.2.1 x.2.2.2⟩) (fun x => [own 96 4 x.1 (skOf k p ms).layers.length x.2.1 ((skOf k p ms).layers.flatMap Ly.c), own 98 7 x.2.2.1 (skOf k p ms).past.length x.2.2.2 ((skOf k p ms).past.flatMap Pa.c), EN b k p ms])) :=
  AC.wrapO fun x ⟨hI, hk, hm⟩ => ⟨_, _, _, _, _, _, tks, ac25n b x.g x.mo x.mc x.co x.cc x.oo x.oc x.ko x.kc x.KL x.KP (by obtain ⟨cs0, hr, _⟩ := hI.run; have h1 := runL_ok (fun m hm => by obtain ⟨q, hq⟩ := List.getElem?_of_mem ((ordM_perm _).mem_iff.1 hm); exact one_ok (hI.fine q m hq).2.1) (start0_ok (k := x.g.k) (p := p) 0) hr; have h2 := h1.nl; have h3 := h1.np; have h4 := hI.len; rw [ordM_len] at h2 h3; omega) hI.cr.1 hI.cr.2, fun y hy => ⟨y, hy, by rw [hI.sk_eq, hk, hm], by subst hk hm; rw [← hI.sk_eq]; exact Imp.en [own 96 4 y.1 x.g.last.s.layers.length y.2.1 (x.g.last.s.layers.flatMap Ly.c), own 98 7 y.2.2.1 x.g.last.s.past.length y.2.2.2 (x.g.last.s.past.flatMap Pa.c)] x ⟨hI, rfl, rfl⟩ gv gv⟩⟩
theorem enNew (k p : Int) : AC Tryz.prog 10 ⟨[I k, I p]⟩ (stars []) (Outs (fun _ : Nat => True) (fun b => .tuple ⟨[.pointer (if startE k p = 0 then some ⟨b, 0, none⟩ else none), I (startE k p)]⟩) (fun b => if startE k p = 0 then [EN b k p []] else [])) :=
  AC.outs (ac10n k p) fun y _ => ⟨y.1, trivial, rfl, by
    by_cases h : startE k p = 0
    · simp only [if_pos h]
      exact (((((Imp.ownNil 35 8).trans (Imp.ownNil 32 4)).trans (Imp.ownNil 3 1)).trans Imp.emp).trans Imp.emp).trans (Imp.en [] ⟨eg0 k p, none, 0, none, 0, none, 0, some ⟨y.2, 0, none⟩, 1, none, 0, emp, emp⟩ ⟨EngI.nil h, rfl, rfl⟩ gv gv)
    · simp only [if_neg h]; exact Imp.gv gv⟩
theorem enAdd (b : Nat) (k p : Int) (ms : List Mv) (m : Mv) (R0 : HP) (hR0 : Rd R0 ⟨0, 0, none⟩ lensC) : AC Tryz.prog 14 ⟨[Pt b, .agg ⟨m.c⟩]⟩ (stars [EN b k p ms, R0]) (Outs (fun _ : Option Addr × Nat => True) (fun x => .tuple ⟨[.agg ⟨(addC k p ms m).c⟩, .slice x.1 (addD k p ms m).length x.2, I (addErr k p ms m)]⟩) (fun x => [own 41 3 x.1 (addD k p ms m).length x.2 ((addD k p ms m).flatMap Aj.c), EN b k p (addMs k p ms m), R0])) :=
  AC.wrapO fun x ⟨hI, hk, hm⟩ => ⟨_, _, _, _, _, _, tks, ac14n b x.g x.mo x.mc x.co x.cc x.oo x.oc x.ko x.kc p m x.KL x.KP hI R0 hR0, fun y hy => by
    subst hk hm
    have hE := addE_eq (m := m) hI.st
    unfold addP at hy
    by_cases h : addErr x.g.k p x.g.ms m = 0
    · rw [hE, if_pos h] at hy
      obtain ⟨hI2, hm2, hk2, hN⟩ := hy
      have hcs := hI2.cs_eq
      rw [hk2, hm2] at hcs
      have hd := adj_dif hN
      rw [hcs, hI.cs_eq] at hd
      refine ⟨(y.ja, y.jc), trivial, ?_, ?_⟩
      · unfold addV addC addD
        rw [hE, if_pos h, if_pos h, if_pos h, hcs, h, hI.cs_eq, hd]
      · simp only [hE, if_pos h, addD, addMs]
        rw [hI.cs_eq, hd]
        exact Imp.en [own 41 3 y.ja (difL (csOf x.g.k p x.g.ms) (csOf x.g.k p (x.g.ms ++ [m]))).length y.jc ((difL (csOf x.g.k p x.g.ms) (csOf x.g.k p (x.g.ms ++ [m]))).flatMap Aj.c), R0] y ⟨hI2, hk2, hm2⟩ gv gv
    · rw [hE, if_neg h] at hy
      refine ⟨(none, 0), trivial, ?_, ?_⟩
      · unfold addV addC addD
        rw [hE, if_neg h, if_neg h, if_neg h]; rfl
      · simp only [hE, if_neg h, addD, addMs]
        exact (Imp.en [R0] ⟨x.g, x.mo, x.mc, x.co, x.cc, x.oo, x.oc, x.ko, x.kc, none, 0, y.KL, y.KP⟩ ⟨hy, rfl, rfl⟩ gv gv).trans (Imp.ownNil 41 3)⟩
end
end Go.Proofs.YtcpghpifbgpkjaaGreatDoor

namespace Go.Proofs.YtcpghpifbgpkjaaGreatDoor
open Go Go.SL Go.Proofs
section
attribute [local irreducible] OpJ RunL Run RunD DetJ pt own star Rd RdS EN fillM addMs addErr csOf skOf addC addD
theorem ac11n (R : HP) (oa : Option Addr) (cap : Nat) (ms : List Mv) (hR : RdS R oa (ms.flatMap Mv.c)) (hlen : (ms.length : Int) ≤ 9223372036854775807) : AC Tryz.prog 11 ⟨[.slice oa ms.length cap]⟩ (stars [R]) (Ret (Bo (lightMs ms)) [R]) := by
 refine eo Tryz.func11 fun β => ?_
 refine rg 1 [0] ?_
 refine Run.seq ?_
 refine rg 3 [0, 6] ?_
 refine cnd rfl (fun h1 => ?_) fun h1 => ?_
 refine rg 1 [2] ?_
 refine Run.ret ?_
 exact ret_one (.tmp rfl .nil) (by rw [light_1 (by assumption)]; rfl) gv
 refine Run.skip ?_
 refine Run.seq ?_
 refine rg 1 [0, 3] ?_
 refine Run.block ?_
 refine Run.weak (L' := [R]) (fun _ _ h => h) gv ?_
 refine Run.loop (fun mm E L => ∃ i : Nat, mm = ms.length - i ∧ i ≤ ms.length ∧ (∀ (j : Nat) (y : Mv), j < i → ms[j]? = some y → heavyM y = false) ∧ E = [(0, .slice oa ms.length cap), (3, I i)] ∧ L = [R]) ⟨_, 0, rfl, Nat.zero_le _, fun _ _ h => by omega, rfl, rfl⟩ ?_
 rintro _ _ _ ⟨i, rfl, hi, hI0, rfl, rfl⟩
 refine Run.seq ?_
 refine rg 4 [0, 3, 10] ?_
 refine cnd rfl (fun h2 => ?_) fun h2 => ?_
 refine Run.skip ?_
 refine Run.seq ?_
 refine Run.block ?_
 refine sr ?_
 obtain ⟨x, hx⟩ := get_ex (xs := ms) (by omega)
 refine RunL.rdOpen pk hR (flat_ne (k := 8) (fun _ => rfl) (by decide) hx) fun b o e hrd => ?_
 subst e
 refine sx 4 ?_
 refine RunL.op rfl rfl (OpJ.load1 inferInstance rfl pk (hrd.mv hx 2 (St x.item) rfl) ?_)
 refine sx 3 ?_
 refine spl 20 rfl (fun g3 => ?_) fun g3 => ?_
 refine sx 8 ?_
 refine kq [0, 3, 28] ?_
 refine Run.true rfl ?_
 refine rg 1 [2] ?_
 refine Run.ret ?_
 exact ret_one (.tmp rfl .nil) (by rw [light_2 hx (.inl (by assumption))]; rfl) gv
 refine sx 4 ?_
 refine RunL.yes rfl rfl rfl rfl (OpJ.load1 inferInstance rfl pk (hrd.mv hx 6 (St x.lot) rfl) ?_)
 refine sx 3 ?_
 refine kq [0, 3, 28] ?_
 refine cnd rfl (fun h4 => ?_) fun h4 => ?_
 refine rg 1 [2] ?_
 refine Run.ret ?_
 exact ret_one (.tmp rfl .nil) (by rw [light_2 hx (.inr (by assumption))]; rfl) gv
 refine Run.skip ?_
 refine Run.region ?_
 refine sx 3 ?_
 exact RunL.next (Keep.sub (kt (ks := [0, 3]) rfl)) _ ⟨_, by omega, i + 1, rfl, by omega, notYetM hx (heavy_no (by assumption) (by assumption)) hI0, rfl, rfl⟩ gv
 refine Run.exit ?_
 refine rg 1 [2] ?_
 refine Run.ret ?_
 exact ret_one (.tmp rfl .nil) (by rw [light_3 (by assumption) (by omega) hI0]; rfl) gv
theorem ac32n (a b c d e : Int) : AC Tryz.prog 32 ⟨[I a, I b, I c, I d, I e]⟩ (stars []) (Ret (.agg ⟨(mvX a b c d e).c⟩) []) := by
 refine eo Tryz.func32 fun β => ?_
 refine sr ?_
 refine oal fun b10 => ?_
 refine kq [0, 1, 2, 3, 4, 10] ?_
 refine rg 7 [10] ?_
 exact .ret (ret_one (.cellA nT35 rfl pk (by rfl) .nil) rfl gv)
theorem ac18n (ls : List Aj) (ca : Option Addr) (cc : Nat) (ca2 : Option Addr) (cc2 : Nat) (R1 R2 : HP) (hR1 : RdS R1 ca (ls.flatMap Aj.c)) (hR2 : RdS R2 ca2 (ls.flatMap Aj.c)) (hn : ls.length ≤ 1000000) : AC Tryz.prog 18 ⟨[.slice ca ls.length cc, .slice ca2 ls.length cc2]⟩ (stars [R1, R2]) (Ret (Bo true) [R1, R2]) := by
 refine eo Tryz.func18 fun β => ?_
 refine rg 1 [0, 1] ?_
 refine Run.seq ?_
 refine sr ?_
 refine sx 5 ?_
 refine sF (fun h => h rfl) ?_
 refine kq [0, 1, 10] ?_
 refine Run.false rfl ?_
 refine Run.skip ?_
 refine Run.seq ?_
 refine rg 1 [0, 1, 5] ?_
 refine Run.block ?_
 refine Run.weak (L' := [R1, R2]) (fun _ _ h => h) gv ?_
 refine Run.loop (fun mm E L => ∃ i : Nat, mm = ls.length - i ∧ i ≤ ls.length ∧ E = [(0, .slice ca ls.length cc), (1, .slice ca2 ls.length cc2), (5, I i)] ∧ L = [R1, R2]) ⟨_, 0, rfl, Nat.zero_le _, rfl, rfl⟩ ?_
 rintro _ _ _ ⟨i, rfl, hi, rfl, rfl⟩
 refine Run.seq ?_
 refine rg 4 [0, 1, 5, 14] ?_
 refine cnd rfl (fun h1 => ?_) fun h1 => ?_
 refine Run.skip ?_
 refine Run.seq ?_
 refine Run.block ?_
 refine Run.seq ?_
 refine regionD HM ?_
 obtain ⟨x, hx⟩ := get_ex (xs := ls) (by omega)
 refine RunD.rdOpen (R := R1) pk hR1 (flat_ne (k := 3) (fun _ => rfl) (by decide) hx) fun b1 o1 e hrd1 => ?_
 subst e
 refine RunD.rdOpen (R := R2) pk hR2 (flat_ne (k := 3) (fun _ => rfl) (by decide) hx) fun b2 o2 e hrd2 => ?_
 subst e
 refine dx [0, 1, 2] ?_
 refine RunD.takeR (R := R1) 3 rfl rfl kr nT41 rfl pk (hrd1.elem (fun _ => rfl) hx) rfl ?_
 refine dx [4, 5, 6] ?_
 refine RunD.takeR (R := R2) 7 rfl rfl kr nT41 rfl pk (hrd2.elem (fun _ => rfl) hx) rfl ?_
 refine dx [8] ?_
 refine RunD.set (v := Bo false) (congrArg Value.bool (by simp)) ?_
 refine kd [0, 1, 5, 25] rfl ?_
 refine Run.false rfl ?_
 refine Run.skip ?_
 refine Run.region ?_
 refine sx 3 ?_
 exact RunL.next (Keep.sub (kt (ks := [0, 1, 5]) rfl)) _ ⟨_, by omega, i + 1, rfl, by omega, rfl, rfl⟩ gv
 refine Run.exit ?_
 refine rg 1 [4] ?_
 exact .ret (ret_one (.tmp rfl .nil) rfl gv)
theorem ac22n (ls : List Mv) (ca : Option Addr) (cc : Nat) (ca2 : Option Addr) (cc2 : Nat) (R1 R2 : HP) (hR1 : RdS R1 ca (ls.flatMap Mv.c)) (hR2 : RdS R2 ca2 (ls.flatMap Mv.c)) (hn : ls.length ≤ 1000000) : AC Tryz.prog 22 ⟨[.slice ca ls.length cc, .slice ca2 ls.length cc2]⟩ (stars [R1, R2]) (Ret (Bo true) [R1, R2]) := by
 refine eo Tryz.func22 fun β => ?_
 refine rg 1 [0, 1] ?_
 refine Run.seq ?_
 refine sr ?_
 refine sx 5 ?_
 refine sF (fun h => h rfl) ?_
 refine kq [0, 1, 10] ?_
 refine Run.false rfl ?_
 refine Run.skip ?_
 refine Run.seq ?_
 refine rg 1 [0, 1, 5] ?_
 refine Run.block ?_
 refine Run.weak (L' := [R1, R2]) (fun _ _ h => h) gv ?_
 refine Run.loop (fun mm E L => ∃ i : Nat, mm = ls.length - i ∧ i ≤ ls.length ∧ E = [(0, .slice ca ls.length cc), (1, .slice ca2 ls.length cc2), (5, I i)] ∧ L = [R1, R2]) ⟨_, 0, rfl, Nat.zero_le _, rfl, rfl⟩ ?_
 rintro _ _ _ ⟨i, rfl, hi, rfl, rfl⟩
 refine Run.seq ?_
 refine rg 4 [0, 1, 5, 14] ?_
 refine cnd rfl (fun h1 => ?_) fun h1 => ?_
 refine Run.skip ?_
 refine Run.seq ?_
 refine Run.block ?_
 refine Run.seq ?_
 refine regionD HM ?_
 obtain ⟨x, hx⟩ := get_ex (xs := ls) (by omega)
 refine RunD.rdOpen (R := R1) pk hR1 (flat_ne (k := 8) (fun _ => rfl) (by decide) hx) fun b1 o1 e hrd1 => ?_
 subst e
 refine RunD.rdOpen (R := R2) pk hR2 (flat_ne (k := 8) (fun _ => rfl) (by decide) hx) fun b2 o2 e hrd2 => ?_
 subst e
 refine dx [0, 1, 2] ?_
 refine RunD.takeR (R := R1) 3 rfl rfl kr nT35 rfl pk (hrd1.elem (fun _ => rfl) hx) rfl ?_
 refine dx [4, 5, 6] ?_
 refine RunD.takeR (R := R2) 7 rfl rfl kr nT35 rfl pk (hrd2.elem (fun _ => rfl) hx) rfl ?_
 refine dx [8] ?_
 refine RunD.set (v := Bo false) (congrArg Value.bool (by simp)) ?_
 refine kd [0, 1, 5, 25] rfl ?_
 refine Run.false rfl ?_
 refine Run.skip ?_
 refine Run.region ?_
 refine sx 3 ?_
 exact RunL.next (Keep.sub (kt (ks := [0, 1, 5]) rfl)) _ ⟨_, by omega, i + 1, rfl, by omega, rfl, rfl⟩ gv
 refine Run.exit ?_
 refine rg 1 [4] ?_
 exact .ret (ret_one (.tmp rfl .nil) rfl gv)
end
theorem lv1n (b : Nat) (R0 : HP) (hR0 : Rd R0 ⟨0, 0, none⟩ lensC) : AC Tryz.prog 14 ⟨[Pt b, .agg ⟨x1.c⟩]⟩ (stars [EN b 1 0 [], R0]) (Outs (fun _ : Option Addr × Nat => True) (fun x => .tuple ⟨[.agg ⟨[I 1, I 4, I 40, I 0]⟩, .slice x.1 0 x.2, I 0]⟩) (fun x => [own 41 3 x.1 0 x.2 ([]), EN b 1 0 [x1], R0])) := by
  have h := enAdd b 1 0 [] x1 R0 hR0
  rw [li1.1, li1.2.1, li1.2.2.1, li1.2.2.2] at h
  exact h
theorem lv2n (b : Nat) (R0 : HP) (hR0 : Rd R0 ⟨0, 0, none⟩ lensC) : AC Tryz.prog 14 ⟨[Pt b, .agg ⟨x2.c⟩]⟩ (stars [EN b 1 0 [x1], R0]) (Outs (fun _ : Option Addr × Nat => True) (fun x => .tuple ⟨[.agg ⟨[I 2, I (-3), I (-30), I 0]⟩, .slice x.1 0 x.2, I 0]⟩) (fun x => [own 41 3 x.1 0 x.2 ([]), EN b 1 0 [x1, x2], R0])) := by
  have h := enAdd b 1 0 [x1] x2 R0 hR0
  rw [li2.1, li2.2.1, li2.2.2.1, li2.2.2.2] at h
  exact h
theorem lv3n (b : Nat) (R0 : HP) (hR0 : Rd R0 ⟨0, 0, none⟩ lensC) : AC Tryz.prog 14 ⟨[Pt b, .agg ⟨x3.c⟩]⟩ (stars [EN b 1 0 [x1, x2], R0]) (Outs (fun _ : Option Addr × Nat => True) (fun x => .tuple ⟨[.agg ⟨[I 3, I 2, I 50, I 0]⟩, .slice x.1 1 x.2, I 0]⟩) (fun x => [own 41 3 x.1 1 x.2 ([I 2, I (-30), I 0]), EN b 1 0 [x1, x2, x3], R0])) := by
  have h := enAdd b 1 0 [x1, x2] x3 R0 hR0
  rw [li3.1, li3.2.1, li3.2.2.1, li3.2.2.2] at h
  exact h
theorem lv4n (b : Nat) (R0 : HP) (hR0 : Rd R0 ⟨0, 0, none⟩ lensC) : AC Tryz.prog 14 ⟨[Pt b, .agg ⟨x4.c⟩]⟩ (stars [EN b 1 0 [x1, x2, x3], R0]) (Outs (fun _ : Option Addr × Nat => True) (fun x => .tuple ⟨[.agg ⟨[I 0, I 0, I 0, I 0]⟩, .slice x.1 0 x.2, I 21]⟩) (fun x => [own 41 3 x.1 0 x.2 ([]), EN b 1 0 [x1, x2, x3], R0])) := by
  have h := enAdd b 1 0 [x1, x2, x3] x4 R0 hR0
  rw [show addC 1 0 [x1, x2, x3] x4 = Co0 from if_neg (by rw [li4.1]; decide), show addD 1 0 [x1, x2, x3] x4 = [] from if_neg (by rw [li4.1]; decide), li4.1, li4.2] at h
  exact h
theorem lvNew : AC Tryz.prog 10 ⟨[I 1, I 0]⟩ (stars []) (Outs (fun _ : Nat => True) (fun b => .tuple ⟨[Pt b, I 0]⟩) (fun b => [EN b 1 0 []])) := by
  have h := enNew 1 0
  simp only [li0, if_true] at h
  exact h
theorem lvCost (b : Nat) : AC Tryz.prog 15 ⟨[Pt b, I 2]⟩ (stars [EN b 1 0 [x1, x2, x3]]) (Ret (.tuple ⟨[.agg ⟨[I 2, I (-3), I (-60), I 0]⟩, .bool true]⟩) [EN b 1 0 [x1, x2, x3]]) := by
  have h := enCost b 1 0 [x1, x2, x3] 2 (by decide)
  rw [li5.1] at h
  exact h
theorem lvAt (b : Nat) : AC Tryz.prog 20 ⟨[Pt b, I 10]⟩ (stars [EN b 1 0 [x1, x2, x3]]) (Ret (.tuple ⟨[I 6, I 90]⟩) [EN b 1 0 [x1, x2, x3]]) := by
  have h := enAt b 1 0 [x1, x2, x3] 10
  rw [li5.2.1, li5.2.2.1] at h
  exact h
theorem lvStock (b : Nat) : AC Tryz.prog 25 ⟨[Pt b]⟩ (stars [EN b 1 0 [x1, x2, x3]]) (Outs (fun _ : Option Addr × Nat × Option Addr × Nat => True) (fun x => .agg ⟨[I 3, I 30, I lk.price, .slice x.1 lk.layers.length x.2.1, .slice x.2.2.1 lk.past.length x.2.2.2]⟩) (fun _ => [EN b 1 0 [x1, x2, x3]])) :=
  AC.outs (enStock b 1 0 [x1, x2, x3]) fun y hy => ⟨y, hy, by
    show Value.agg ⟨[I lk.qty, I lk.value, _, _, _]⟩ = _
    rw [li5.2.2.2.1, li5.2.2.2.2]; rfl, Imp.gv gv⟩
section
attribute [local irreducible] OpJ RunL Run RunD DetJ pt own star Rd RdS EN fillM addMs addErr csOf skOf addC addD
theorem ac12n (R0 : HP) (hR0 : Rd R0 ⟨0, 0, none⟩ lensC) : AC Tryz.prog 12 ⟨[]⟩ (stars [R0]) (Ret (Bo true) [R0]) := by
 refine eo Tryz.func12 fun β => ?_
 refine rg 1 [] ?_
 refine sr ?_
 refine RunL.callX nC10 rfl rfl rfl lvNew .nil fun b _ => ?_
 refine sy 5 ?_
 refine kq [1, 2] ?_
 refine Run.seq ?_
 refine sr ?_
 refine sy 6 ?_
 refine kq [1, 29] ?_
 refine Run.false rfl ?_
 refine Run.skip ?_
 refine sr ?_
 refine sx 1 ?_
 refine RunL.call nC32 rfl rfl rfl (ac32n 1 10 1 4 40) .nil ?_
 refine RunL.callX nC14 rfl rfl rfl (lv1n b R0 hR0) tks fun ⟨j1, jc1⟩ _ => ?_
 refine sy 4 ?_
 refine oal fun b3 => ?_
 refine sy 3 ?_
 refine kq [1, 3, 4, 5] ?_
 refine sr ?_
 refine sx 1 ?_
 refine RunL.call nC32 rfl rfl rfl (ac32n 2 20 2 3 0) .nil ?_
 refine RunL.callX nC14 rfl rfl rfl (lv2n b R0 hR0) tks fun ⟨j2, jc2⟩ _ => ?_
 refine sy 4 ?_
 refine oal fun b6 => ?_
 refine sy 3 ?_
 refine kq [1, 3, 4, 5, 6, 7, 8] ?_
 refine sr ?_
 refine sx 1 ?_
 refine RunL.call nC32 rfl rfl rfl (ac32n 3 5 1 2 50) .nil ?_
 refine RunL.callX nC14 rfl rfl rfl (lv3n b R0 hR0) tks fun ⟨j3, jc3⟩ _ => ?_
 refine sy 4 ?_
 refine oal fun b9 => ?_
 refine sy 3 ?_
 refine kq [1, 3, 4, 5, 6, 7, 8, 9, 10, 11] ?_
 refine sr ?_
 refine sx 1 ?_
 refine RunL.call nC32 rfl rfl rfl (ac32n 4 1 2 1 0) .nil ?_
 refine RunL.callX nC14 rfl rfl rfl (lv4n b R0 hR0) tks fun ⟨j4, jc4⟩ _ => ?_
 refine sy 4 ?_
 refine oal fun b12 => ?_
 refine sy 3 ?_
 refine kq [1, 3, 4, 5, 6, 7, 8, 9, 10, 11, 14] ?_
 refine sr ?_
 refine sx 1 ?_
 refine RunL.call nC15 rfl rfl rfl (lvCost b) tks ?_
 refine sy 3 ?_
 refine oal fun b15 => ?_
 refine sy 2 ?_
 refine kq [1, 3, 4, 5, 6, 7, 8, 9, 10, 11, 14, 15, 16] ?_
 refine sr ?_
 refine sx 1 ?_
 refine RunL.call nC20 rfl rfl rfl (lvAt b) tks ?_
 refine sy 5 ?_
 refine kq [1, 3, 4, 5, 6, 7, 8, 9, 10, 11, 14, 15, 16, 17, 18] ?_
 refine sr ?_
 refine sx 1 ?_
 refine RunL.callX nC25 rfl rfl rfl (lvStock b) tks fun ⟨l1, lc1, p1, pc1⟩ _ => ?_
 refine oal fun b19 => ?_
 refine sy 1 ?_
 refine kq [1, 3, 4, 5, 6, 7, 8, 9, 10, 11, 14, 15, 16, 17, 18, 19] ?_
 refine sr ?_
 refine sy 38 ?_
 refine RunL.yes rfl rfl rfl rfl (OpJ.buildSlice1 nS37 rfl rfl rfl (by decide) (by decide) nZ41 rfl fun b108 => ?_)
 refine RunL.callG nC18 rfl rfl rfl rfl rfl (ac18n [⟨2, -30, 0⟩] j3 jc3 (some ⟨b108, 0, none⟩) 1 _ _ own.rds (Rd.rds Rd.whole) (by decide)) tks ?_
 refine sy 7 ?_
 refine RunL.callG nC13 rfl rfl rfl rfl rfl (enLen b 1 0 [x1, x2, x3]) tks ?_
 refine sy 29 ?_
 refine kq [0] ?_
 exact .ret (ret_one (.tmp rfl .nil) rfl gv)
end
end Go.Proofs.YtcpghpifbgpkjaaGreatDoor

namespace Go.Proofs.YtcpghpifbgpkjaaGreatDoor
open Go Go.SL Go.Proofs
section
attribute [local irreducible] OpJ RunL Run RunD DetJ pt own star Rd RdS
theorem ac17 (s : Sk) (la : Option Addr) (lc : Nat) (pa : Option Addr) (pc : Nat) (la2 : Option Addr) (lc2 : Nat) (pa2 : Option Addr) (pc2 : Nat) (R1 R2 R3 R4 : HP) (hR1 : RdS R1 la (s.layers.flatMap Ly.c)) (hR2 : RdS R2 pa (s.past.flatMap Pa.c)) (hR3 : RdS R3 la2 (s.layers.flatMap Ly.c)) (hR4 : RdS R4 pa2 (s.past.flatMap Pa.c)) (hn : s.layers.length ≤ 1000000 ∧ s.past.length ≤ 1000000) : AC Tryz.prog 24 ⟨[.agg ⟨s.c la lc pa pc⟩, .agg ⟨s.c la2 lc2 pa2 pc2⟩]⟩ (stars [R1, R2, R3, R4]) (Ret (Bo true) [R1, R2, R3, R4]) := by
 have hnl := hn.1; have hnp := hn.2
 refine eo Tryz.func24 fun β => ?_
 refine sr ?_
 refine obx rfl fun b2 => ?_
 refine obx rfl fun b3 => ?_
 refine sx 1 ?_
 refine kq [2, 3] ?_
 refine Run.seq ?_
 refine sr ?_
 refine sx 5 ?_
 refine sF (fun h => h rfl) ?_
 refine sx 6 ?_
 refine sF (fun h => h rfl) ?_
 refine sx 7 ?_
 refine sF (fun h => h rfl) ?_
 refine sx 9 ?_
 refine sF (fun h => h rfl) ?_
 refine sx 9 ?_
 refine sF (fun h => h rfl) ?_
 refine sx 1 ?_
 refine kq [2, 3, 43] ?_
 refine Run.false rfl ?_
 refine Run.skip ?_
 refine Run.seq ?_
 refine rg 1 [2, 3, 5] ?_
 refine Run.block ?_
 refine Run.loop (fun mm E L => ∃ i : Nat, mm = s.layers.length - i ∧ i ≤ s.layers.length ∧ E = [(2, .pointer (some ⟨b2, 0, none⟩)), (3, .pointer (some ⟨b3, 0, none⟩)), (5, I i)] ∧ L = [pt b3 (blk (s.c la2 lc2 pa2 pc2) 61), pt b2 (blk (s.c la lc pa pc) 61), R1, R2, R3, R4]) ⟨_, 0, rfl, Nat.zero_le _, rfl, rfl⟩ ?_
 rintro _ _ _ ⟨i, rfl, hi, rfl, rfl⟩
 refine Run.seq ?_
 refine rg 5 [2, 3, 5, 48] ?_
 refine cnd rfl (fun h1 => ?_) fun h1 => ?_
 refine Run.skip ?_
 refine Run.seq ?_
 refine Run.block ?_
 refine Run.seq ?_
 refine regionD HM ?_
 obtain ⟨x, hx⟩ := get_ex (xs := s.layers) (by omega)
 refine RunD.rdOpen (R := R1) pk hR1 (flat_ne (k := 4) (fun _ => rfl) (by decide) hx) fun b1 o1 e hrd1 => ?_
 subst e
 refine RunD.rdOpen (R := R3) pk hR3 (flat_ne (k := 4) (fun _ => rfl) (by decide) hx) fun b3 o3 e hrd3 => ?_
 subst e
 refine dx [0, 1, 2, 3] ?_
 refine RunD.takeR (R := R1) 4 rfl rfl kr T64 rfl pk (hrd1.elem (fun _ => rfl) hx) rfl ?_
 refine dx [5, 6, 7, 8] ?_
 refine RunD.takeR (R := R3) 9 rfl rfl kr T64 rfl pk (hrd3.elem (fun _ => rfl) hx) rfl ?_
 refine dx [10] ?_
 refine RunD.set (v := Bo false) (congrArg Value.bool (by simp)) ?_
 refine kd [2, 3, 5, 61] rfl ?_
 refine Run.false rfl ?_
 refine Run.skip ?_
 refine Run.region ?_
 refine sx 3 ?_
 exact RunL.next (Keep.sub (kt (ks := [2, 3, 5]) rfl)) _ ⟨_, by omega, i + 1, rfl, by omega, rfl, rfl⟩ gv
 refine Run.exit ?_
 refine Run.seq ?_
 refine rg 1 [2, 3, 6] ?_
 refine Run.block ?_
 refine Run.loop (fun mm E L => ∃ i : Nat, mm = s.past.length - i ∧ i ≤ s.past.length ∧ E = [(2, .pointer (some ⟨b2, 0, none⟩)), (3, .pointer (some ⟨b3, 0, none⟩)), (6, I i)] ∧ L = [pt b3 (blk (s.c la2 lc2 pa2 pc2) 61), pt b2 (blk (s.c la lc pa pc) 61), R1, R2, R3, R4]) ⟨_, 0, rfl, Nat.zero_le _, rfl, rfl⟩ ?_
 rintro _ _ _ ⟨i, rfl, hi, rfl, rfl⟩
 refine Run.seq ?_
 refine rg 5 [2, 3, 6, 66] ?_
 refine cnd rfl (fun h2 => ?_) fun h2 => ?_
 refine Run.skip ?_
 refine Run.seq ?_
 refine Run.block ?_
 refine Run.seq ?_
 refine regionD HM ?_
 obtain ⟨x, hx⟩ := get_ex (xs := s.past) (by omega)
 refine RunD.rdOpen (R := R2) pk hR2 (flat_ne (k := 7) (fun _ => rfl) (by decide) hx) fun b2 o2 e hrd2 => ?_
 subst e
 refine RunD.rdOpen (R := R4) pk hR4 (flat_ne (k := 7) (fun _ => rfl) (by decide) hx) fun b4 o4 e hrd4 => ?_
 subst e
 refine dx [0, 1, 2, 3] ?_
 refine RunD.takeR (R := R2) 4 rfl rfl kr T66 rfl pk (hrd2.elem (fun _ => rfl) hx) rfl ?_
 refine dx [5, 6, 7, 8] ?_
 refine RunD.takeR (R := R4) 9 rfl rfl kr T66 rfl pk (hrd4.elem (fun _ => rfl) hx) rfl ?_
 refine dx [10] ?_
 refine RunD.set (v := Bo false) (congrArg Value.bool (by simp)) ?_
 refine kd [2, 3, 6, 79] rfl ?_
 refine Run.false rfl ?_
 refine Run.skip ?_
 refine Run.region ?_
 refine sx 3 ?_
 exact RunL.next (Keep.sub (kt (ks := [2, 3, 6]) rfl)) _ ⟨_, by omega, i + 1, rfl, by omega, rfl, rfl⟩ gv
 refine Run.exit ?_
 refine rg 1 [4] ?_
 exact .ret (ret_one (.tmp rfl .nil) rfl gv)
end
end Go.Proofs.YtcpghpifbgpkjaaGreatDoor

namespace Go.Proofs.YtcpghpifbgpkjaaGreatDoor
open Go Go.SL Go.Proofs
theorem newY (k p : Int) (h0 : startE k p = 0) : AC Tryz.prog 10 ⟨[I k, I p]⟩ (stars []) (Outs (fun _ : Nat => True) (fun b => .tuple ⟨[Pt b, I (startE k p)]⟩) (fun b => [EN b k p []])) := by
  have h := enNew k p
  simp only [if_pos h0] at h
  exact h
theorem newZ (k p : Int) (h0 : startE k p ≠ 0) : AC Tryz.prog 10 ⟨[I k, I p]⟩ (stars []) (Outs (fun _ : Nat => True) (fun _ => .tuple ⟨[.pointer none, I (startE k p)]⟩) (fun _ => [])) := by
  have h := enNew k p
  simp only [if_neg h0] at h
  exact h
section
attribute [local irreducible] OpJ RunL Run RunD DetJ pt own star Rd RdS EN fillM addMs addErr csOf skOf addC addD
end
end Go.Proofs.YtcpghpifbgpkjaaGreatDoor

namespace Go.Proofs.YtcpghpifbgpkjaaGreatDoor
open Go Go.SL Go.Proofs
section
attribute [local irreducible] OpJ RunL Run RunD DetJ pt own star Rd RdS
theorem ac127 (n : Int) : AC Tryz.prog 76 ⟨[I n]⟩ (stars []) (Ret (.bool (inB n 0 109572)) []) := by
 refine eo Tryz.func76 fun β => ?_
 refine rg 1 [0] ?_
 refine sr ?_
 refine sx 3 ?_
 refine spl 5 rfl (fun g1 => ?_) fun g1 => ?_
 refine sx 4 ?_
 refine kq [2] ?_
 exact .ret (ret_one (.tmp rfl .nil) t0 .nil)
 refine sx 4 ?_
 refine kq [2] ?_
 exact .ret (ret_one (.tmp rfl .nil) t0 .nil)
theorem ac160 (n : Int) : AC Tryz.prog 112 ⟨[I n]⟩ (stars []) (Ret (.bool (inB n 1 4)) []) := by
 refine eo Tryz.func112 fun β => ?_
 refine rg 1 [0] ?_
 refine sr ?_
 refine sx 3 ?_
 refine spl 5 rfl (fun g1 => ?_) fun g1 => ?_
 refine sx 4 ?_
 refine kq [2] ?_
 exact .ret (ret_one (.tmp rfl .nil) t0 .nil)
 refine sx 4 ?_
 refine kq [2] ?_
 exact .ret (ret_one (.tmp rfl .nil) t0 .nil)
theorem ac131 (k : Int) : AC Tryz.prog 60 ⟨[I k]⟩ (stars []) (Ret (.bool (refersB k)) []) := by
 refine eo Tryz.func60 fun β => ?_
 refine rg 1 [0] ?_
 refine sr ?_
 refine sx 3 ?_
 refine spl 5 rfl (fun g1 => ?_) fun g1 => ?_
 refine sx 8 ?_
 refine kq [2] ?_
 exact .ret (ret_one (.tmp rfl .nil) t0 .nil)
 refine sx 4 ?_
 refine spl 9 rfl (fun g2 => ?_) fun g2 => ?_
 refine sx 4 ?_
 refine kq [2] ?_
 exact .ret (ret_one (.tmp rfl .nil) t0 .nil)
 refine sx 4 ?_
 refine kq [2] ?_
 exact .ret (ret_one (.tmp rfl .nil) t0 .nil)
theorem ac158 (c : Int) : AC Tryz.prog 110 ⟨[.int .u8 c]⟩ (stars []) (Ret (.bool (letterB c)) []) := by
 refine eo Tryz.func110 fun β => ?_
 refine rg 1 [0] ?_
 refine sr ?_
 refine sx 3 ?_
 refine spl 5 rfl (fun g1 => ?_) fun g1 => ?_
 refine sx 4 ?_
 refine spl 9 rfl (fun g2 => ?_) fun g2 => ?_
 refine sx 12 ?_
 refine kq [2] ?_
 exact .ret (ret_one (.tmp rfl .nil) t0 .nil)
 refine sx 3 ?_
 refine spl 12 rfl (fun g3 => ?_) fun g3 => ?_
 refine sx 5 ?_
 refine spl 17 rfl (fun g4 => ?_) fun g4 => ?_
 refine sx 4 ?_
 refine kq [2] ?_
 exact .ret (ret_one (.tmp rfl .nil) t0 .nil)
 refine sx 4 ?_
 refine kq [2] ?_
 exact .ret (ret_one (.tmp rfl .nil) t0 .nil)
 refine sx 9 ?_
 refine kq [2] ?_
 exact .ret (ret_one (.tmp rfl .nil) t0 .nil)
 refine sx 7 ?_
 refine spl 12 rfl (fun g5 => ?_) fun g5 => ?_
 refine sx 5 ?_
 refine spl 17 rfl (fun g6 => ?_) fun g6 => ?_
 refine sx 4 ?_
 refine kq [2] ?_
 exact .ret (ret_one (.tmp rfl .nil) t0 .nil)
 refine sx 4 ?_
 refine kq [2] ?_
 exact .ret (ret_one (.tmp rfl .nil) t0 .nil)
 refine sx 9 ?_
 refine kq [2] ?_
 exact .ret (ret_one (.tmp rfl .nil) t0 .nil)
theorem ac159 (c : Int) : AC Tryz.prog 111 ⟨[.int .u8 c]⟩ (stars []) (Ret (.bool (digitB c)) []) := by
 refine eo Tryz.func111 fun β => ?_
 refine rg 1 [0] ?_
 refine sr ?_
 refine sx 3 ?_
 refine spl 5 rfl (fun g1 => ?_) fun g1 => ?_
 refine sx 4 ?_
 refine kq [2] ?_
 exact .ret (ret_one (.tmp rfl .nil) t0 .nil)
 refine sx 4 ?_
 refine kq [2] ?_
 exact .ret (ret_one (.tmp rfl .nil) t0 .nil)
theorem ac98 (n : Int) : AC Tryz.prog 151 ⟨[I n]⟩ (stars []) (Ret (.bool (largeB n)) []) := by
 refine eo Tryz.func151 fun β => ?_
 refine rg 1 [0] ?_
 refine sr ?_
 refine sx 3 ?_
 refine spl 5 rfl (fun g1 => ?_) fun g1 => ?_
 refine sx 4 ?_
 refine kq [2] ?_
 exact .ret (ret_one (.tmp rfl .nil) t0 .nil)
 refine sx 4 ?_
 refine kq [2] ?_
 exact .ret (ret_one (.tmp rfl .nil) t0 .nil)
theorem ac102 (n : Int) : AC Tryz.prog 155 ⟨[I n]⟩ (stars []) (Ret (.bool (withinB n)) []) := by
 refine eo Tryz.func155 fun β => ?_
 refine rg 1 [0] ?_
 refine sr ?_
 refine sx 3 ?_
 refine spl 5 rfl (fun g1 => ?_) fun g1 => ?_
 refine sx 4 ?_
 refine kq [2] ?_
 exact .ret (ret_one (.tmp rfl .nil) t0 .nil)
 refine sx 4 ?_
 refine kq [2] ?_
 exact .ret (ret_one (.tmp rfl .nil) t0 .nil)
theorem ac129 (m : Mv) : AC Tryz.prog 78 ⟨[.agg ⟨m.c⟩]⟩ (stars []) (Ret (.bool m.rQty) []) := by
 refine eo Tryz.func78 fun β => ?_
 refine sr ?_
 refine obx rfl fun b1 => ?_
 refine sx 1 ?_
 refine kq [1] ?_
 refine Run.seq ?_
 refine sr ?_
 refine sx 2 ?_
 refine RunL.call C160 rfl rfl rfl (ac160 _) .nil ?_
 refine kq [1, 5] ?_
 refine cnd rfl (fun h1 => ?_) fun h1 => ?_
 refine sr ?_
 refine sx 4 ?_
 refine spl 9 rfl (fun g2 => ?_) fun g2 => ?_
 refine sx 5 ?_
 refine kq [2] ?_
 exact .ret (ret_one (.tmp rfl .nil) t0 .nil)
 refine sx 5 ?_
 refine kq [2] ?_
 exact .ret (ret_one (.tmp rfl .nil) t0 .nil)
 refine Run.skip ?_
 refine rg 4 [2] ?_
 exact .ret (ret_one (.tmp rfl .nil) t0 .nil)
theorem ac130 (m : Mv) : AC Tryz.prog 79 ⟨[.agg ⟨m.c⟩]⟩ (stars []) (Ret (.bool m.costOk) []) := by
 refine eo Tryz.func79 fun β => ?_
 refine sr ?_
 refine obx rfl fun b1 => ?_
 refine sx 1 ?_
 refine kq [1] ?_
 refine Run.seq ?_
 refine rg 2 [1, 4] ?_
 refine Run.block ?_
 refine Run.seq ?_
 refine rg 2 [1, 4, 5] ?_
 refine cnd rfl (fun h1 => ?_) fun h1 => ?_
 refine Run.skip ?_
 refine cnd rfl (fun h2 => ?_) fun h2 => ?_
 refine rg 4 [2] ?_
 exact .ret (ret_one (.tmp rfl .nil) t0 .nil)
 refine rg 2 [1, 11] ?_
 refine cnd rfl (fun h3 => ?_) fun h3 => ?_
 refine sr ?_
 refine sx 4 ?_
 refine spl 16 rfl (fun g4 => ?_) fun g4 => ?_
 refine sx 5 ?_
 refine kq [2] ?_
 exact .ret (ret_one (.tmp rfl .nil) t0 .nil)
 refine sx 5 ?_
 refine kq [2] ?_
 exact .ret (ret_one (.tmp rfl .nil) t0 .nil)
 refine Run.skip ?_
 refine sr ?_
 refine sx 4 ?_
 refine spl 24 rfl (fun g5 => ?_) fun g5 => ?_
 refine sx 5 ?_
 refine kq [2] ?_
 exact .ret (ret_one (.tmp rfl .nil) t0 .nil)
 refine sx 5 ?_
 refine kq [2] ?_
 exact .ret (ret_one (.tmp rfl .nil) t0 .nil)
 refine Run.region ?_
 refine sx 2 ?_
 refine kq [1, 4, 5] ?_
 refine cnd rfl (fun h6 => ?_) fun h6 => ?_
 refine rg 4 [2] ?_
 exact .ret (ret_one (.tmp rfl .nil) t0 .nil)
 refine rg 2 [1, 11] ?_
 refine cnd rfl (fun h7 => ?_) fun h7 => ?_
 refine sr ?_
 refine sx 4 ?_
 refine spl 16 rfl (fun g8 => ?_) fun g8 => ?_
 refine sx 5 ?_
 refine kq [2] ?_
 exact .ret (ret_one (.tmp rfl .nil) t0 .nil)
 refine sx 5 ?_
 refine kq [2] ?_
 exact .ret (ret_one (.tmp rfl .nil) t0 .nil)
 refine Run.skip ?_
 refine sr ?_
 refine sx 4 ?_
 refine spl 24 rfl (fun g9 => ?_) fun g9 => ?_
 refine sx 5 ?_
 refine kq [2] ?_
 exact .ret (ret_one (.tmp rfl .nil) t0 .nil)
 refine sx 5 ?_
 refine kq [2] ?_
 exact .ret (ret_one (.tmp rfl .nil) t0 .nil)
theorem ac128 (s : ByteArray) (hs : (s.size : Int) ≤ 9223372036854775807) : AC Tryz.prog 77 ⟨[St s]⟩ (stars []) (Ret (Bo (codeB s)) []) := by
 refine eo Tryz.func77 fun β => ?_
 refine rg 1 [0] ?_
 refine Run.seq ?_
 refine rg 1 [0, 3] ?_
 refine Run.block ?_
 refine Run.loop (fun mm E L => ∃ i : Nat, mm = s.size - i ∧ i ≤ s.size ∧ (∀ (j : Nat) u, j < i → s[j]? = some u → byteOk u = true) ∧ E = [(0, St s), (3, I i)] ∧ L = []) ⟨_, 0, rfl, Nat.zero_le _, fun _ _ h => by omega, rfl, rfl⟩ ?_
 rintro _ _ _ ⟨i, rfl, hi, hI0, rfl, rfl⟩
 refine Run.seq ?_
 refine rg 4 [0, 3, 7] ?_
 refine cnd rfl (fun h1 => ?_) fun h1 => ?_
 refine Run.skip ?_
 refine Run.seq ?_
 refine Run.block ?_
 refine sr ?_
 obtain ⟨u, hu⟩ := byte_ex (s := s) (i := i) (by omega)
 refine sx 2 ?_
 refine RunL.op rfl rfl (OpJ.indexS U9 rfl rfl (by omega) hu ?_)
 refine RunL.call C158 rfl rfl rfl (ac158 _) .nil ?_
 refine sx 2 ?_
 refine spl 15 rfl (fun g2 => ?_) fun g2 => ?_
 refine sx 2 ?_
 refine RunL.yes rfl rfl rfl rfl (OpJ.indexS U9 rfl rfl (by omega) hu ?_)
 refine RunL.callG C159 rfl rfl rfl rfl rfl (ac159 _) .nil ?_
 refine sx 2 ?_
 refine kq [0, 3, 21] ?_
 refine cnd rfl (fun h3 => ?_) fun h3 => ?_
 refine rg 1 [2] ?_
 refine Run.ret ?_
 exact ret_one (.tmp rfl .nil) (congrArg Bo (rcode_bad hu (by unfold byteOk; simp_all)).symm) gv
 refine Run.skip ?_
 refine Run.region ?_
 refine sx 3 ?_
 exact RunL.next (Keep.sub (kt (ks := [0, 3]) rfl)) _ ⟨_, by omega, i + 1, rfl, by omega, fun j v hj hv => (by rcases Nat.lt_succ_iff_lt_or_eq.1 hj with h | rfl; exact hI0 j v h hv; rw [hu] at hv; cases hv; exact (by unfold byteOk; simp_all)), rfl, rfl⟩ gv
 refine sx 6 ?_
 refine kq [0, 3, 21] ?_
 refine Run.false rfl ?_
 refine Run.skip ?_
 refine Run.region ?_
 refine sx 3 ?_
 exact RunL.next (Keep.sub (kt (ks := [0, 3]) rfl)) _ ⟨_, by omega, i + 1, rfl, by omega, fun j v hj hv => (by rcases Nat.lt_succ_iff_lt_or_eq.1 hj with h | rfl; exact hI0 j v h hv; rw [hu] at hv; cases hv; exact (by unfold byteOk; simp_all)), rfl, rfl⟩ gv
 refine Run.exit ?_
 refine sr ?_
 refine sx 4 ?_
 refine spl 25 rfl (fun g4 => ?_) fun g4 => ?_
 refine sx 5 ?_
 refine kq [2] ?_
 exact .ret (ret_one (.tmp rfl .nil) (congrArg Bo (rcode_end (fun j u hj hu => hI0 j u (by omega) hu) (by omega)).symm) gv)
 refine sx 5 ?_
 refine kq [2] ?_
 exact .ret (ret_one (.tmp rfl .nil) (congrArg Bo (rcode_short (by omega)).symm) gv)
theorem ac91 (m : Mv) (hi : (m.item.size : Int) ≤ 9223372036854775807) (hl : (m.lot.size : Int) ≤ 9223372036854775807) : AC Tryz.prog 59 ⟨[.agg ⟨m.c⟩]⟩ (stars []) (Ret (I m.one) []) := by
 refine eo Tryz.func59 fun β => ?_
 refine sr ?_
 refine obx rfl fun b1 => ?_
 refine sx 1 ?_
 refine kq [1] ?_
 refine Run.seq ?_
 refine Run.block ?_
 refine sr ?_
 refine sx 2 ?_
 refine RunL.call C127 rfl rfl rfl (ac127 _) .nil ?_
 refine sx 2 ?_
 refine kq [1, 3] ?_
 refine cnd rfl (fun h1 => ?_) fun h1 => ?_
 refine rg 1 [2] ?_
 exact .ret (ret_one (.tmp rfl .nil) t1 gv)
 refine sr ?_
 refine sx 2 ?_
 refine RunL.call C128 rfl rfl rfl (ac128 _ (by omega)) .nil ?_
 refine sx 2 ?_
 refine kq [1, 8] ?_
 refine cnd rfl (fun h2 => ?_) fun h2 => ?_
 refine rg 1 [2] ?_
 exact .ret (ret_one (.tmp rfl .nil) t1 gv)
 refine sr ?_
 refine sx 4 ?_
 refine spl 17 rfl (fun g3 => ?_) fun g3 => ?_
 refine sx 5 ?_
 refine kq [1, 13] ?_
 refine Run.true rfl ?_
 refine sr ?_
 have hk : inB m.kind 1 6 = false := by unfold inB; exact decide_eq_false (by omega)
 refine sx 1 ?_
 refine kq [2] ?_
 exact .ret (ret_one (.tmp rfl .nil) t1 gv)
 refine sx 5 ?_
 refine kq [1, 13] ?_
 refine cnd rfl (fun h4 => ?_) fun h4 => ?_
 refine sr ?_
 have hk : inB m.kind 1 6 = false := by unfold inB; exact decide_eq_false (by omega)
 refine sx 1 ?_
 refine kq [2] ?_
 exact .ret (ret_one (.tmp rfl .nil) t1 gv)
 refine sr ?_
 have hk : inB m.kind 1 6 = true := by unfold inB; exact decide_eq_true (by omega)
 have hk1 := kind_two hk
 refine sx 1 ?_
 refine RunL.call C129 rfl rfl rfl (ac129 _) .nil ?_
 refine sx 2 ?_
 refine spl 26 rfl (fun g5 => ?_) fun g5 => ?_
 refine sx 5 ?_
 refine kq [1, 22] ?_
 refine Run.true rfl ?_
 refine sr ?_
 rw [rQty_eq hk] at *
 refine sx 1 ?_
 refine kq [2] ?_
 exact .ret (ret_one (.tmp rfl .nil) t1 gv)
 refine sx 1 ?_
 refine RunL.callG C130 rfl rfl rfl rfl rfl (ac130 _) .nil ?_
 refine sx 3 ?_
 refine kq [1, 22] ?_
 refine cnd rfl (fun h6 => ?_) fun h6 => ?_
 refine sr ?_
 rw [rQty_eq hk] at *
 refine sx 1 ?_
 refine kq [2] ?_
 exact .ret (ret_one (.tmp rfl .nil) t1 gv)
 refine sr ?_
 rw [rQty_eq hk] at *
 refine sx 4 ?_
 refine spl 35 rfl (fun g7 => ?_) fun g7 => ?_
 refine sx 2 ?_
 refine RunL.callG C128 rfl rfl rfl rfl rfl (ac128 _ (by omega)) .nil ?_
 refine sx 2 ?_
 refine spl 40 rfl (fun g8 => ?_) fun g8 => ?_
 refine sx 6 ?_
 refine kq [1, 31] ?_
 refine Run.true rfl ?_
 refine rg 1 [2] ?_
 exact .ret (ret_one (.tmp rfl .nil) t1 gv)
 refine sx 6 ?_
 refine kq [1, 31] ?_
 refine cnd rfl (fun h9 => ?_) fun h9 => ?_
 refine rg 1 [2] ?_
 exact .ret (ret_one (.tmp rfl .nil) t1 gv)
 refine sr ?_
 refine sx 2 ?_
 refine RunL.call C131 rfl rfl rfl (ac131 _) .nil ?_
 refine sx 1 ?_
 refine spl 50 rfl (fun g10 => ?_) fun g10 => ?_
 refine sx 5 ?_
 refine spl 55 rfl (fun g11 => ?_) fun g11 => ?_
 refine sx 11 ?_
 refine kq [46] ?_
 refine Run.true rfl ?_
 refine rg 1 [2] ?_
 exact .ret (ret_one (.tmp rfl .nil) t1 gv)
 refine sx 2 ?_
 refine RunL.callG C131 rfl rfl rfl rfl rfl (ac131 _) .nil ?_
 refine sx 2 ?_
 refine spl 60 rfl (fun g12 => ?_) fun g12 => ?_
 refine sx 6 ?_
 refine kq [46] ?_
 refine cnd rfl (fun h13 => ?_) fun h13 => ?_
 refine rg 1 [2] ?_
 exact .ret (ret_one (.tmp rfl .nil) t1 gv)
 refine Run.skip ?_
 refine rg 1 [2] ?_
 exact .ret (ret_one (.tmp rfl .nil) t1 gv)
 refine sx 6 ?_
 refine kq [46] ?_
 refine Run.false rfl ?_
 refine Run.skip ?_
 refine rg 1 [2] ?_
 exact .ret (ret_one (.tmp rfl .nil) t1 gv)
 refine sx 7 ?_
 refine RunL.callG C131 rfl rfl rfl rfl rfl (ac131 _) .nil ?_
 refine sx 2 ?_
 refine spl 60 rfl (fun g14 => ?_) fun g14 => ?_
 refine sx 6 ?_
 refine kq [46] ?_
 refine cnd rfl (fun h15 => ?_) fun h15 => ?_
 refine rg 1 [2] ?_
 exact .ret (ret_one (.tmp rfl .nil) t1 gv)
 refine Run.skip ?_
 refine rg 1 [2] ?_
 exact .ret (ret_one (.tmp rfl .nil) t1 gv)
 refine sx 6 ?_
 refine kq [46] ?_
 refine Run.false rfl ?_
 refine Run.skip ?_
 refine rg 1 [2] ?_
 exact .ret (ret_one (.tmp rfl .nil) t1 gv)
 refine sx 11 ?_
 refine kq [1, 31] ?_
 refine Run.false rfl ?_
 refine sr ?_
 refine sx 2 ?_
 refine RunL.call C131 rfl rfl rfl (ac131 _) .nil ?_
 refine sx 1 ?_
 refine spl 50 rfl (fun g16 => ?_) fun g16 => ?_
 refine sx 5 ?_
 refine spl 55 rfl (fun g17 => ?_) fun g17 => ?_
 refine sx 11 ?_
 refine kq [46] ?_
 refine Run.true rfl ?_
 refine rg 1 [2] ?_
 exact .ret (ret_one (.tmp rfl .nil) t1 gv)
 refine sx 2 ?_
 refine RunL.callG C131 rfl rfl rfl rfl rfl (ac131 _) .nil ?_
 refine sx 2 ?_
 refine spl 60 rfl (fun g18 => ?_) fun g18 => ?_
 refine sx 6 ?_
 refine kq [46] ?_
 refine cnd rfl (fun h19 => ?_) fun h19 => ?_
 refine rg 1 [2] ?_
 exact .ret (ret_one (.tmp rfl .nil) t1 gv)
 refine Run.skip ?_
 refine rg 1 [2] ?_
 exact .ret (ret_one (.tmp rfl .nil) t1 gv)
 refine sx 6 ?_
 refine kq [46] ?_
 refine Run.false rfl ?_
 refine Run.skip ?_
 refine rg 1 [2] ?_
 exact .ret (ret_one (.tmp rfl .nil) t1 gv)
 refine sx 7 ?_
 refine RunL.callG C131 rfl rfl rfl rfl rfl (ac131 _) .nil ?_
 refine sx 2 ?_
 refine spl 60 rfl (fun g20 => ?_) fun g20 => ?_
 refine sx 6 ?_
 refine kq [46] ?_
 refine cnd rfl (fun h21 => ?_) fun h21 => ?_
 refine rg 1 [2] ?_
 exact .ret (ret_one (.tmp rfl .nil) t1 gv)
 refine Run.skip ?_
 refine rg 1 [2] ?_
 exact .ret (ret_one (.tmp rfl .nil) t1 gv)
 refine sx 6 ?_
 refine kq [46] ?_
 refine Run.false rfl ?_
 refine Run.skip ?_
 refine rg 1 [2] ?_
 exact .ret (ret_one (.tmp rfl .nil) t1 gv)
end
end Go.Proofs.YtcpghpifbgpkjaaGreatDoor

namespace Go.Proofs.YtcpghpifbgpkjaaGreatDoor
open Go Go.SL Go.Proofs
section
attribute [local irreducible] OpJ RunL Run RunD DetJ pt own star Rd RdS fillM addMs addErr csOf skOf addC addD
theorem ac61n (R : HP) (oa : Option Addr) (cap : Nat) (done : List Mv) (m : Mv) (hR : RdS R oa (done.flatMap Mv.c)) (hlen : done.length ≤ 2000) (hr : refersB m.kind = true) (hone : m.one = 0) (hd : Dn done) : AC Tryz.prog 61 ⟨[.slice oa done.length cap, .agg ⟨m.c⟩]⟩ (stars [R]) (Ret (I (referM done m)) [R]) := by
 have hmg := MG.of hone
 have hrf := one_ref hone hr
 have hq : 0 ≤ m.qty ∧ m.qty ≤ 1000000000 := by have h1 := hmg.q.1; have h2 := hmg.q.2; have h3 := hmg.k; omega
 refine eo Tryz.func61 fun β => ?_
 refine sr ?_
 refine obx rfl fun b3 => ?_
 refine sx 1 ?_
 refine kq [0, 3] ?_
 refine Run.seq ?_
 refine rg 5 [0, 3, 13] ?_
 refine cnd rfl (fun h1 => ?_) fun h1 => ?_
 refine rg 1 [4] ?_
 refine Run.ret ?_
 exact ret_one (.tmp rfl .nil) (by rw [ref_28 (by omega)]; rfl) gv
 refine Run.skip ?_
 refine sr ?_
 obtain ⟨i0, x, hx, hri⟩ := get_at (xs := done) (s := m.ref) (by omega)
 refine RunL.rdOpen pk hR (flat_ne (k := 8) (fun _ => rfl) (by decide) hx) fun b o e hrd => ?_
 subst e
 have hxd := hd.q x (List.mem_of_getElem? hx)
 have hrd2 := hrd
 refine sx 3 ?_
 refine RunL.op rfl rfl (OpJ.sub rfl rfl ?_)
 refine RunL.set (v := I (i0 : Int)) (congrArg I (by rw [wrap_i64_in (by omega)]; omega)) ?_
 refine sx 1 ?_
 refine RunL.op rfl rfl (OpJ.loadA inferInstance rfl pk (hrd.elem (fun _ => rfl) hx) rfl ?_)
 refine oal fun b5 => ?_
 refine sx 1 ?_
 refine kq [0, 3, 5] ?_
 refine sr ?_
 refine sx 1 ?_
 by_cases hk3 : m.kind = 3
 refine kq [0, 3, 5, 6] ?_
 refine Run.seq ?_
 refine sr ?_
 refine sx 3 ?_
 refine sT hk3 ?_
 refine kq [0, 3, 5, 6, 22] ?_
 refine Run.true rfl ?_
 refine Run.region ?_
 refine sx 1 ?_
 refine kq [0, 3, 5, 6] ?_
 refine Run.seq ?_
 refine sr ?_
 refine sx 6 ?_
 refine spl 28 rfl (fun g2 => ?_) fun g2 => ?_
 refine sx 5 ?_
 refine kq [0, 3, 5, 33] ?_
 refine Run.true rfl ?_
 refine rg 1 [4] ?_
 refine Run.ret ?_
 exact ret_one (.tmp rfl .nil) (by rw [ref_x hri hx, if_pos (.inl (by assumption))]; rfl) gv
 refine sx 5 ?_
 refine kq [0, 3, 5, 33] ?_
 refine cnd rfl (fun h3 => ?_) fun h3 => ?_
 refine rg 1 [4] ?_
 refine Run.ret ?_
 exact ret_one (.tmp rfl .nil) (by rw [ref_x hri hx, if_pos (.inr (by rw [show targK m.kind = 2 from if_pos hk3]; assumption))]; rfl) gv
 refine Run.skip ?_
 refine Run.seq ?_
 refine rg 5 [0, 3, 5, 38] ?_
 refine cnd rfl (fun h4 => ?_) fun h4 => ?_
 refine rg 1 [4] ?_
 refine Run.ret ?_
 exact ret_one (.tmp rfl .nil) (by rw [ref_x hri hx, if_neg (not_or.2 ⟨by assumption, by rw [show targK m.kind = 2 from if_pos hk3]; assumption⟩), if_pos (by omega)]; rfl) gv
 refine Run.skip ?_
 refine rg 3 [0, 3, 5, 7] ?_
 refine Run.seq ?_
 refine rg 1 [0, 3, 5, 7, 8] ?_
 refine Run.block ?_
 refine Run.weak (L' := [pt b5 (blk x.c 35), pt b3 (blk m.c 35), R]) (fun _ _ h => h) gv ?_
 refine Run.loop (fun mm E L => ∃ i : Nat, mm = done.length - i ∧ i ≤ done.length ∧ E = [(0, .slice (some ⟨b, o, none⟩) done.length cap), (3, .pointer (some ⟨b3, 0, none⟩)), (5, .pointer (some ⟨b5, 0, none⟩)), (7, I (m.qty + (backQ (done.take i) m.kind m.ref))), (8, I i)] ∧ L = [pt b5 (blk x.c 35), pt b3 (blk m.c 35), R]) ⟨_, 0, rfl, Nat.zero_le _, by rw [show backQ (done.take 0) m.kind m.ref = 0 from rfl, Int.add_zero]; rfl, rfl⟩ ?_
 rintro _ _ _ ⟨i, rfl, hi, rfl, rfl⟩
 refine Run.seq ?_
 refine rg 4 [0, 3, 5, 7, 8, 44] ?_
 refine cnd rfl (fun h5 => ?_) fun h5 => ?_
 refine Run.skip ?_
 refine Run.seq ?_
 refine Run.block ?_
 refine Run.seq ?_
 refine regionD HM ?_
 obtain ⟨y, hy⟩ := get_ex (xs := done) (i := i) (by omega)
 have hyd := hd.q y (List.mem_of_getElem? hy)
 have hbq := backQ_bound (k := m.kind) (r := m.ref) (fun z hz => hd.q z (List.mem_of_mem_take hz) : ∀ z ∈ done.take i, _)
 have htl : (done.take i).length ≤ i := by rw [List.length_take]; omega
 refine dx [0, 1, 2, 3] ?_
 refine RunD.takeR1 4 rfl rfl kr nT3 rfl pk (hrd.mv hy 3 (I y.kind) rfl) ?_
 refine dx [5, 6, 7] ?_
 by_cases hk : y.kind = m.kind
 refine dT hk ?_
 refine dx [8, 9, 10, 11, 12] ?_
 refine RunD.takeGR1 13 rfl rfl rfl rfl kr nT3 rfl pk (hrd.mv hy 7 (I y.ref) rfl) ?_
 refine dx [14, 15, 16] ?_
 by_cases hrf2 : y.ref = m.ref
 refine dT hrf2 ?_
 refine dx [17] ?_
 refine kd [0, 3, 5, 7, 8, 64] rfl ?_
 refine Run.true rfl ?_
 refine Run.region ?_
 refine sx 5 ?_
 refine RunL.op rfl rfl (OpJ.load1 inferInstance rfl pk (hrd.mv hy 4 (I y.qty) rfl) ?_)
 refine sx 2 ?_
 refine kq [0, 3, 5, 7, 8] ?_
 refine Run.region ?_
 refine sx 3 ?_
 exact RunL.next (Keep.sub (kt (ks := [0, 3, 5, 7, 8]) rfl)) _ ⟨_, by omega, i + 1, rfl, by omega, by rw [backQ_in hy hk hrf2]; rw [show m.qty + ((backQ (done.take i) m.kind m.ref) + y.qty) = m.qty + (backQ (done.take i) m.kind m.ref) + y.qty by omega]; rfl, rfl⟩ gv
 refine dF hrf2 ?_
 refine dx [17] ?_
 refine kd [0, 3, 5, 7, 8, 64] rfl ?_
 refine Run.false rfl ?_
 refine Run.skip ?_
 refine Run.region ?_
 refine sx 3 ?_
 exact RunL.next (Keep.sub (kt (ks := [0, 3, 5, 7, 8]) rfl)) _ ⟨_, by omega, i + 1, rfl, by omega, by rw [backQ_out hy (by omega)]; rfl, rfl⟩ gv
 refine dF hk ?_
 refine dx [8, 9, 10, 11, 12, 13, 14, 15, 16, 17] ?_
 refine kd [0, 3, 5, 7, 8, 64] rfl ?_
 refine Run.false rfl ?_
 refine Run.skip ?_
 refine Run.region ?_
 refine sx 3 ?_
 exact RunL.next (Keep.sub (kt (ks := [0, 3, 5, 7, 8]) rfl)) _ ⟨_, by omega, i + 1, rfl, by omega, by rw [backQ_out hy (by omega)]; rfl, rfl⟩ gv
 refine Run.exit ?_
 refine Run.seq ?_
 refine sr ?_
 obtain rfl : i = done.length := by omega
 rw [List.take_length]
 have hbq := backQ_bound (k := m.kind) (r := m.ref) hd.q
 refine sx 4 ?_
 refine spl 75 rfl (fun g6 => ?_) fun g6 => ?_
 refine sx 5 ?_
 refine kq [80] ?_
 refine cnd rfl (fun h7 => ?_) fun h7 => ?_
 refine rg 1 [4] ?_
 refine Run.ret ?_
 exact ret_one (.tmp rfl .nil) (by rw [ref_x hri hx, if_neg (not_or.2 ⟨by assumption, by rw [show targK m.kind = 2 from if_pos hk3]; assumption⟩), if_neg (by omega), if_pos (by omega)]; rfl) gv
 refine Run.skip ?_
 refine rg 1 [4] ?_
 refine Run.ret ?_
 exact ret_one (.tmp rfl .nil) (by rw [ref_x hri hx, if_neg (not_or.2 ⟨by assumption, by rw [show targK m.kind = 2 from if_pos hk3]; assumption⟩), if_neg (by omega), if_neg (by omega)]; rfl) gv
 refine sx 5 ?_
 refine kq [80] ?_
 refine Run.false rfl ?_
 refine Run.skip ?_
 refine rg 1 [4] ?_
 refine Run.ret ?_
 exfalso; omega
 refine kq [0, 3, 5, 6] ?_
 refine Run.seq ?_
 refine sr ?_
 refine sx 3 ?_
 refine sF hk3 ?_
 refine kq [0, 3, 5, 6, 22] ?_
 refine Run.false rfl ?_
 refine Run.skip ?_
 refine Run.seq ?_
 refine sr ?_
 refine sx 6 ?_
 refine spl 28 rfl (fun g8 => ?_) fun g8 => ?_
 refine sx 5 ?_
 refine kq [0, 3, 5, 33] ?_
 refine Run.true rfl ?_
 refine rg 1 [4] ?_
 refine Run.ret ?_
 exact ret_one (.tmp rfl .nil) (by rw [ref_x hri hx, if_pos (.inl (by assumption))]; rfl) gv
 refine sx 5 ?_
 refine kq [0, 3, 5, 33] ?_
 refine cnd rfl (fun h9 => ?_) fun h9 => ?_
 refine rg 1 [4] ?_
 refine Run.ret ?_
 exact ret_one (.tmp rfl .nil) (by rw [ref_x hri hx, if_pos (.inr (by rw [show targK m.kind = 1 from if_neg hk3]; assumption))]; rfl) gv
 refine Run.skip ?_
 refine Run.seq ?_
 refine rg 5 [0, 3, 5, 38] ?_
 refine cnd rfl (fun h10 => ?_) fun h10 => ?_
 refine rg 1 [4] ?_
 refine Run.ret ?_
 exact ret_one (.tmp rfl .nil) (by rw [ref_x hri hx, if_neg (not_or.2 ⟨by assumption, by rw [show targK m.kind = 1 from if_neg hk3]; assumption⟩), if_pos (by omega)]; rfl) gv
 refine Run.skip ?_
 refine rg 3 [0, 3, 5, 7] ?_
 refine Run.seq ?_
 refine rg 1 [0, 3, 5, 7, 8] ?_
 refine Run.block ?_
 refine Run.weak (L' := [pt b5 (blk x.c 35), pt b3 (blk m.c 35), R]) (fun _ _ h => h) gv ?_
 refine Run.loop (fun mm E L => ∃ i : Nat, mm = done.length - i ∧ i ≤ done.length ∧ E = [(0, .slice (some ⟨b, o, none⟩) done.length cap), (3, .pointer (some ⟨b3, 0, none⟩)), (5, .pointer (some ⟨b5, 0, none⟩)), (7, I (m.qty + (backQ (done.take i) m.kind m.ref))), (8, I i)] ∧ L = [pt b5 (blk x.c 35), pt b3 (blk m.c 35), R]) ⟨_, 0, rfl, Nat.zero_le _, by rw [show backQ (done.take 0) m.kind m.ref = 0 from rfl, Int.add_zero]; rfl, rfl⟩ ?_
 rintro _ _ _ ⟨i, rfl, hi, rfl, rfl⟩
 refine Run.seq ?_
 refine rg 4 [0, 3, 5, 7, 8, 44] ?_
 refine cnd rfl (fun h11 => ?_) fun h11 => ?_
 refine Run.skip ?_
 refine Run.seq ?_
 refine Run.block ?_
 refine Run.seq ?_
 refine regionD HM ?_
 obtain ⟨y, hy⟩ := get_ex (xs := done) (i := i) (by omega)
 have hyd := hd.q y (List.mem_of_getElem? hy)
 have hbq := backQ_bound (k := m.kind) (r := m.ref) (fun z hz => hd.q z (List.mem_of_mem_take hz) : ∀ z ∈ done.take i, _)
 have htl : (done.take i).length ≤ i := by rw [List.length_take]; omega
 refine dx [0, 1, 2, 3] ?_
 refine RunD.takeR1 4 rfl rfl kr nT3 rfl pk (hrd.mv hy 3 (I y.kind) rfl) ?_
 refine dx [5, 6, 7] ?_
 by_cases hk : y.kind = m.kind
 refine dT hk ?_
 refine dx [8, 9, 10, 11, 12] ?_
 refine RunD.takeGR1 13 rfl rfl rfl rfl kr nT3 rfl pk (hrd.mv hy 7 (I y.ref) rfl) ?_
 refine dx [14, 15, 16] ?_
 by_cases hrf2 : y.ref = m.ref
 refine dT hrf2 ?_
 refine dx [17] ?_
 refine kd [0, 3, 5, 7, 8, 64] rfl ?_
 refine Run.true rfl ?_
 refine Run.region ?_
 refine sx 5 ?_
 refine RunL.op rfl rfl (OpJ.load1 inferInstance rfl pk (hrd.mv hy 4 (I y.qty) rfl) ?_)
 refine sx 2 ?_
 refine kq [0, 3, 5, 7, 8] ?_
 refine Run.region ?_
 refine sx 3 ?_
 exact RunL.next (Keep.sub (kt (ks := [0, 3, 5, 7, 8]) rfl)) _ ⟨_, by omega, i + 1, rfl, by omega, by rw [backQ_in hy hk hrf2]; rw [show m.qty + ((backQ (done.take i) m.kind m.ref) + y.qty) = m.qty + (backQ (done.take i) m.kind m.ref) + y.qty by omega]; rfl, rfl⟩ gv
 refine dF hrf2 ?_
 refine dx [17] ?_
 refine kd [0, 3, 5, 7, 8, 64] rfl ?_
 refine Run.false rfl ?_
 refine Run.skip ?_
 refine Run.region ?_
 refine sx 3 ?_
 exact RunL.next (Keep.sub (kt (ks := [0, 3, 5, 7, 8]) rfl)) _ ⟨_, by omega, i + 1, rfl, by omega, by rw [backQ_out hy (by omega)]; rfl, rfl⟩ gv
 refine dF hk ?_
 refine dx [8, 9, 10, 11, 12, 13, 14, 15, 16, 17] ?_
 refine kd [0, 3, 5, 7, 8, 64] rfl ?_
 refine Run.false rfl ?_
 refine Run.skip ?_
 refine Run.region ?_
 refine sx 3 ?_
 exact RunL.next (Keep.sub (kt (ks := [0, 3, 5, 7, 8]) rfl)) _ ⟨_, by omega, i + 1, rfl, by omega, by rw [backQ_out hy (by omega)]; rfl, rfl⟩ gv
 refine Run.exit ?_
 refine Run.seq ?_
 refine sr ?_
 obtain rfl : i = done.length := by omega
 rw [List.take_length]
 have hbq := backQ_bound (k := m.kind) (r := m.ref) hd.q
 refine sx 4 ?_
 refine spl 75 rfl (fun g12 => ?_) fun g12 => ?_
 refine sx 5 ?_
 refine kq [80] ?_
 refine cnd rfl (fun h13 => ?_) fun h13 => ?_
 refine rg 1 [4] ?_
 refine Run.ret ?_
 exact ret_one (.tmp rfl .nil) (by rw [ref_x hri hx, if_neg (not_or.2 ⟨by assumption, by rw [show targK m.kind = 1 from if_neg hk3]; assumption⟩), if_neg (by omega), if_pos (by omega)]; rfl) gv
 refine Run.skip ?_
 refine rg 1 [4] ?_
 refine Run.ret ?_
 exact ret_one (.tmp rfl .nil) (by rw [ref_x hri hx, if_neg (not_or.2 ⟨by assumption, by rw [show targK m.kind = 1 from if_neg hk3]; assumption⟩), if_neg (by omega), if_neg (by omega)]; rfl) gv
 refine sx 5 ?_
 refine kq [80] ?_
 refine Run.false rfl ?_
 refine Run.skip ?_
 refine rg 1 [4] ?_
 refine Run.ret ?_
 have hk5 : m.kind = 5 := (by omega); have hb5 : backQ done m.kind m.ref = 0 := (by rw [hk5]; exact backQ_5 hd.z); have hm5 := hmg.q.1 (.inl hk5); exact ret_one (.tmp rfl .nil) (by rw [ref_x hri hx, if_neg (not_or.2 ⟨by assumption, by rw [show targK m.kind = 1 from if_neg hk3]; assumption⟩), if_neg (by omega), if_neg (by omega)]; rfl) gv
end
theorem ac61t (R : HP) (oa : Option Addr) (cap : Nat) (ms : List Mv) (i : Nat) (m : Mv) (hi : i ≤ ms.length) (hR : RdS R oa (ms.flatMap Mv.c)) (hlen : i ≤ 2000) (hr : refersB m.kind = true) (hone : m.one = 0) (hd : Dn (ms.take i)) : AC Tryz.prog 61 ⟨[.slice oa i cap, .agg ⟨m.c⟩]⟩ (stars [R]) (Ret (I (referM (ms.take i) m)) [R]) := by
  have e : (ms.take i).length = i := by rw [List.length_take]; omega
  have h := ac61n R oa cap (ms.take i) m (hR.take i) (by omega) hr hone hd
  rw [e] at h; exact h
section
attribute [local irreducible] OpJ RunL Run RunD DetJ pt own star Rd RdS fillM addMs addErr csOf skOf addC addD
theorem ac41n (R : HP) (oa : Option Addr) (cap : Nat) (ms : List Mv) (hR : RdS R oa (ms.flatMap Mv.c)) (hlen : ms.length ≤ 1000000) (hcap : ms.length ≤ cap) (hsz : ∀ m ∈ ms, (m.item.size : Int) ≤ 9223372036854775807 ∧ (m.lot.size : Int) ≤ 9223372036854775807) : AC Tryz.prog 41 ⟨[.slice oa ms.length cap]⟩ (stars [R]) (Outs (fun _ : Int => True) (fun at_ => .tuple ⟨[I at_, I (chkE ms)]⟩) (fun _ => [R])) := by
 refine eo Tryz.func41 fun β => ?_
 refine rg 2 [0] ?_
 refine Run.seq ?_
 refine rg 3 [0, 9] ?_
 refine cnd rfl (fun h1 => ?_) fun h1 => ?_
 refine rg 2 [2, 3] ?_
 refine Run.ret ?_
 have hres := chk_many (ms := ms) (by omega); refine ret_out (0) (.tmp rfl (.tmp rfl .nil)) trivial (by rw [hres]; rfl) gv
 refine Run.skip ?_
 refine Run.seq ?_
 refine rg 1 [0, 4] ?_
 refine Run.block ?_
 refine Run.loop (fun mm E L => ∃ i : Nat, mm = ms.length - i ∧ i ≤ ms.length ∧ FineTo ms i ∧ E = [(0, .slice oa ms.length cap), (4, I i)] ∧ L = [R]) ⟨_, 0, rfl, Nat.zero_le _, fun j m h => by omega, rfl, rfl⟩ ?_
 rintro _ _ _ ⟨i, rfl, hi, hf, rfl, rfl⟩
 refine Run.seq ?_
 refine rg 4 [0, 4, 13] ?_
 refine cnd rfl (fun h2 => ?_) fun h2 => ?_
 refine Run.skip ?_
 refine Run.seq ?_
 refine Run.block ?_
 refine Run.seq ?_
 refine sr ?_
 obtain ⟨x, hx⟩ := get_ex (xs := ms) (by omega)
 refine RunL.rdOpen pk hR (flat_ne (k := 8) (fun _ => rfl) (by decide) hx) fun b o e hrd => ?_
 subst e
 refine sx 4 ?_
 refine RunL.op rfl rfl (OpJ.load1 inferInstance rfl pk (hrd.mv hx 0 (I x.seq) rfl) ?_)
 refine sx 3 ?_
 refine kq [0, 4, 23] ?_
 refine cnd rfl (fun h3 => ?_) fun h3 => ?_
 refine rg 3 [2, 3] ?_
 refine Run.ret ?_
 have hres := chk_seq (by omega) hx hf (by omega); refine ret_out (_) (.tmp rfl (.tmp rfl .nil)) trivial (by rw [hres]; rfl) gv
 refine Run.skip ?_
 refine Run.seq ?_
 refine sr ?_
 have hsq : x.seq = (i : Int) + 1 := by omega
 refine sx 3 ?_
 refine RunL.op rfl rfl (OpJ.loadA inferInstance rfl pk (hrd.elem (fun _ => rfl) hx) rfl ?_)
 refine RunL.call nC59 rfl rfl rfl (ac91 x (hsz x (List.mem_of_getElem? hx)).1 (hsz x (List.mem_of_getElem? hx)).2) .nil ?_
 refine sx 1 ?_
 refine kq [0, 4, 5] ?_
 refine rg 2 [0, 4, 5, 31] ?_
 refine cnd rfl (fun h4 => ?_) fun h4 => ?_
 refine rg 4 [2, 3] ?_
 refine Run.ret ?_
 have hres := chk_one (by omega) hx hf hsq (by omega); refine ret_out (_) (.tmp rfl (.tmp rfl .nil)) trivial (by rw [hres]; rfl) gv
 refine Run.skip ?_
 refine sr ?_
 have hone : x.one = 0 := by omega
 refine sx 4 ?_
 refine RunL.op rfl rfl (OpJ.load1 inferInstance rfl pk (hrd.mv hx 3 (I x.kind) rfl) ?_)
 refine RunL.call nC60 rfl rfl rfl (ac131 x.kind) .nil ?_
 by_cases hrb : refersB x.kind = true
 refine RunL.set (v := Bo true) (congrArg Value.bool hrb) ?_
 refine kq [0, 4, 39] ?_
 refine Run.true rfl ?_
 refine Run.seq ?_
 refine regionD HM ?_
 refine dx [0, 1] ?_
 refine tk 2 rfl rfl rfl (DetJ.sliceHi nS24 rfl rfl (by omega)) ?_
 refine dx [3, 4, 5] ?_
 refine RunD.takeR (R := R) 6 rfl rfl kr nT35 rfl pk (hrd.elem (fun _ => rfl) hx) rfl ?_
 refine RunD.op 7 [false, false, false, false, false, false, false] rfl rfl rfl kr kr (OpJ.callRet nC61 rfl rfl (ac61t R _ cap ms i x hi hR (by omega) hrb hone hf.dn) tks ⟨po, ?_⟩)
 refine dx [8] ?_
 refine kd [0, 4, 6] rfl ?_
 refine sr ?_
 refine sx 1 ?_
 by_cases h0 : referM (ms.take i) x = 0
 refine sx 1 ?_
 refine sF (fun h => h h0) ?_
 refine kq [0, 4, 6, 49] ?_
 refine Run.false rfl ?_
 refine Run.skip ?_
 refine Run.region ?_
 refine sx 3 ?_
 exact RunL.next (Keep.sub (kt (ks := [0, 4]) rfl)) _ ⟨_, by omega, i + 1, rfl, by omega, hf.next hx hsq hone (fun _ => h0), rfl, rfl⟩ gv
 refine sx 1 ?_
 refine sT h0 ?_
 refine kq [0, 4, 6, 49] ?_
 refine Run.true rfl ?_
 refine rg 4 [2, 3] ?_
 refine Run.ret ?_
 have hres := chk_ref (by omega) hx hf hsq hone hrb h0; refine ret_out (_) (.tmp rfl (.tmp rfl .nil)) trivial (by rw [hres]; rfl) gv
 refine RunL.set (v := Bo false) (congrArg Value.bool (Bool.eq_false_iff.2 hrb)) ?_
 refine kq [0, 4, 39] ?_
 refine Run.false rfl ?_
 refine Run.skip ?_
 refine Run.region ?_
 refine sx 3 ?_
 exact RunL.next (Keep.sub (kt (ks := [0, 4]) rfl)) _ ⟨_, by omega, i + 1, rfl, by omega, hf.next hx hsq hone (fun h => absurd h hrb), rfl, rfl⟩ gv
 refine Run.exit ?_
 refine rg 2 [2, 3] ?_
 refine Run.ret ?_
 obtain rfl : i = ms.length := (by omega); have hres := chk_none (by omega) hf; refine ret_out (-1) (.tmp rfl (.tmp rfl .nil)) trivial (by rw [hres]; rfl) gv
theorem ac43n (R : HP) (oa : Option Addr) (cap : Nat) (cs : List Co) (s : Int) (hR : RdS R oa (cs.flatMap Co.c)) (hlen : cs.length ≤ 1000000) : AC Tryz.prog 43 ⟨[.slice oa cs.length cap, I s]⟩ (stars [R]) (Ret (.tuple ⟨[.agg ⟨(findC cs s).c⟩, .bool (foundB cs s)]⟩) [R]) := by
 refine eo Tryz.func43 fun β => ?_
 refine sr ?_
 refine oal fun b4 => ?_
 refine sx 1 ?_
 refine kq [0, 1, 4] ?_
 refine Run.seq ?_
 refine rg 1 [0, 1, 4, 6] ?_
 refine Run.block ?_
 refine Run.weak (L' := [pt b4 (blk [I 0, I 0, I 0, I 0] 32), R]) (fun _ _ h => h) gv ?_
 refine Run.loop (fun mm E L => ∃ i : Nat, mm = cs.length - i ∧ i ≤ cs.length ∧ (∀ (j : Nat) (y : Co), j < i → cs[j]? = some y → y.seq ≠ s) ∧ E = [(0, .slice oa cs.length cap), (1, I s), (4, .pointer (some ⟨b4, 0, none⟩)), (6, I i)] ∧ L = [pt b4 (blk [I 0, I 0, I 0, I 0] 32), R]) ⟨_, 0, rfl, Nat.zero_le _, fun _ _ h => by omega, rfl, rfl⟩ ?_
 rintro _ _ _ ⟨i, rfl, hi, hI0, rfl, rfl⟩
 refine Run.seq ?_
 refine rg 4 [0, 1, 4, 6, 10] ?_
 refine cnd rfl (fun h1 => ?_) fun h1 => ?_
 refine Run.skip ?_
 refine Run.seq ?_
 refine Run.block ?_
 refine sr ?_
 obtain ⟨x, hx⟩ := get_ex (xs := cs) (by omega)
 refine RunL.rdOpen pk hR (flat_ne (k := 4) (fun _ => rfl) (by decide) hx) fun b o e hrd => ?_
 subst e
 refine sx 4 ?_
 refine RunL.op rfl rfl (OpJ.load1 inferInstance rfl pk (hrd.co hx 0 (I x.seq) rfl) ?_)
 refine sx 2 ?_
 refine kq [0, 1, 4, 6, 19] ?_
 refine cnd rfl (fun h2 => ?_) fun h2 => ?_
 refine sr ?_
 refine sx 3 ?_
 refine RunL.op rfl rfl (OpJ.loadA inferInstance rfl pk (hrd.elem (fun _ => rfl) hx) rfl ?_)
 refine sx 2 ?_
 refine kq [4, 5] ?_
 refine Run.ret ?_
 have hres := find_yes hx (by assumption) hI0; exact ret_one (.cellA nT32 rfl pk (by rfl) (.tmp rfl .nil)) (by rw [hres.1, hres.2]; rfl) gv
 refine Run.skip ?_
 refine Run.region ?_
 refine sx 3 ?_
 exact RunL.next (Keep.sub (kt (ks := [0, 1, 4, 6]) rfl)) _ ⟨_, by omega, i + 1, rfl, by omega, notC hx (by assumption) hI0, rfl, rfl⟩ gv
 refine Run.exit ?_
 refine rg 3 [4, 5] ?_
 refine Run.ret ?_
 have hres := find_no (s := s) (show i = cs.length by omega) hI0; exact ret_one (.cellA nT32 rfl pk (by rfl) (.tmp rfl .nil)) (by rw [hres.1, hres.2]; rfl) gv
theorem ac63n (R : HP) (oa : Option Addr) (cap : Nat) (ms : List Mv) (hR : RdS R oa (ms.flatMap Mv.c)) (hf : Fine ms) (hlen : ms.length ≤ 1000000) : AC Tryz.prog 63 ⟨[.slice oa ms.length cap]⟩ (stars [R]) (Outs (fun _ : Option Addr × Nat => True) (fun x => .slice x.1 (ordM ms).length x.2) (fun x => [own 35 8 x.1 (ordM ms).length x.2 ((ordM ms).flatMap Mv.c), R])) := by
 refine eo Tryz.func63 fun β => ?_
 refine rg 1 [0] ?_
 refine rg 1 [0, 3] ?_
 refine Run.seq ?_
 refine sr ?_
 refine RunL.ownNil 35 8 ?_
 refine sx 1 ?_
 refine kq [0, 3, 4] ?_
 refine Run.block ?_
 refine Run.weak (L' := [own 35 8 none (ordM (ms.take 0)).length 0 ((ordM (ms.take 0)).flatMap Mv.c), R]) (fun _ _ h => h) gv ?_
 refine Run.loop (fun mm E L => ∃ (i : Nat) (ob : Option Addr) (cb : Nat) (oz : Option Addr), mm = ms.length - i ∧ i ≤ ms.length ∧ RdS R oz (ms.flatMap Mv.c) ∧ E = [(0, .slice oz ms.length cap), (3, .slice ob (ordM (ms.take i)).length cb), (4, I i)] ∧ L = [own 35 8 ob (ordM (ms.take i)).length cb ((ordM (ms.take i)).flatMap Mv.c), R]) ⟨_, 0, none, 0, oa, rfl, Nat.zero_le _, hR, rfl, rfl⟩ ?_
 clear hR
 rintro _ _ _ ⟨i, ob, cb, oz, rfl, hi, hR, rfl, rfl⟩
 refine Run.seq ?_
 refine rg 4 [0, 3, 4, 9] ?_
 refine cnd rfl (fun h1 => ?_) fun h1 => ?_
 refine Run.skip ?_
 refine Run.seq ?_
 refine Run.block ?_
 refine sr ?_
 obtain ⟨x, hx⟩ := get_ex (xs := ms) (by omega)
 refine RunL.rdOpen pk hR (flat_ne (k := 8) (fun _ => rfl) (by decide) hx) fun b o e hrd => ?_
 subst e
 refine RunL.ownCap (T := 35) (k := 8) (oa := ob) (m := (ordM (ms.take i)).length) (cap := cb) (cs := (ordM (ms.take i)).flatMap Mv.c) pk fun hcb => ?_
 have hol := ordM_len (ms.take i)
 rw [List.length_take, Nat.min_eq_left (by omega)] at hol
 refine sx 3 ?_
 refine kq [0, 3, 4, 5] ?_
 refine Run.seqJ (fun (g : Unit) => [(0, .slice (some ⟨b, o, none⟩) ms.length cap), (3, .slice ob (ordM (ms.take i)).length cb), (4, I i), (5, I ((cutN (laterB x.value) (ordM (ms.take i))) : Nat))]) (fun (g : Unit) => [own 35 8 ob (ordM (ms.take i)).length cb ((ordM (ms.take i)).flatMap Mv.c), R]) ?_ ?_
 refine Run.block ?_
 refine Run.loop (fun mm E L => ∃ (q : Nat), mm = 0 + q ∧ q ≤ (ordM (ms.take i)).length ∧ (∀ (j : Nat) (y : Mv), q ≤ j → (ordM (ms.take i))[j]? = some y → laterB x.value y = true) ∧ E = [(0, .slice (some ⟨b, o, none⟩) ms.length cap), (3, .slice ob (ordM (ms.take i)).length cb), (4, I i), (5, I q)] ∧ L = [own 35 8 ob (ordM (ms.take i)).length cb ((ordM (ms.take i)).flatMap Mv.c), R]) ⟨_, (ordM (ms.take i)).length, rfl, Nat.le_refl _, fun j y h hy => by have := (List.getElem?_eq_some_iff.1 hy).1; omega, rfl, rfl⟩ ?_
 rintro _ _ _ ⟨q, rfl, hq, hJ, rfl, rfl⟩
 refine Run.seq ?_
 refine Run.seq ?_
 refine regionD HM ?_
 refine dx [0, 1] ?_
 rcases Nat.eq_zero_or_pos q with hq0 | hq0
 refine dF (by omega) ?_
 refine dx [2, 3, 4, 5, 6, 7, 8, 9, 10, 11, 12, 13, 14, 15, 16, 17, 18, 19, 20, 21, 22, 23, 24, 25, 26, 27, 28, 29, 30, 31, 32, 33, 34, 35, 36, 37, 38, 39, 40, 41, 42, 43] ?_
 obtain rfl : q = (cutN (laterB x.value) (ordM (ms.take i))) := (cut_back ((ordM_sort _).mono _) hq hJ (.inl hq0)).symm
 refine kd [0, 3, 4, 5, 57] rfl ?_
 refine Run.false rfl ?_
 refine Run.exit ?_
 exact ⟨(), Keep.sub (kt (ks := [0, 3, 4, 5]) rfl), gv⟩
 refine dT (by omega) ?_
 obtain ⟨y, hy⟩ := get_ex (xs := (ordM (ms.take i))) (i := q - 1) (by omega)
 have hlt := hf.lt hx y (List.mem_of_getElem? hy)
 refine RunD.ownAddr (T := 35) (k := 8) (oa := ob) (m := (ordM (ms.take i)).length) (cap := cb) (cs := (ordM (ms.take i)).flatMap Mv.c) pk (flat_ne (k := 8) (fun _ => rfl) (by decide) hy) fun bo e hcbo => ?_
 subst e
 refine dx [2, 3, 4] ?_
 refine RunD.takeG 5 rfl rfl rfl rfl rfl kr (DetJ.sub rfl rfl) .nil ?_
 refine RunD.set (v := I ((q - 1 : Nat) : Int)) (congrArg I (by rw [wrap_i64_in (by omega)]; omega)) ?_
 refine dx [6, 7, 8, 9, 10, 11, 12] ?_
 refine RunD.takeGR1 13 rfl rfl rfl rfl kr nT3 rfl pk (hrd.mv hx 1 (I x.value) rfl) ?_
 refine dx [14] ?_
 by_cases hv : x.value < y.value
 refine dT hv ?_
 refine dx [15, 16, 17, 18, 19, 20, 21, 22, 23, 24, 25, 26, 27, 28, 29, 30, 31, 32, 33, 34, 35, 36, 37, 38, 39, 40, 41, 42, 43] ?_
 refine kd [0, 3, 4, 5, 57] rfl ?_
 refine Run.true rfl ?_
 refine Run.skip ?_
 refine Run.block ?_
 refine Run.region ?_
 refine sx 1 ?_
 refine RunL.op rfl rfl (OpJ.sub rfl rfl ?_)
 refine RunL.set (v := I ((q - 1 : Nat) : Int)) (congrArg I (by rw [wrap_i64_in (by omega)]; omega)) ?_
 refine sx 1 ?_
 exact RunL.next (Keep.sub (kt (ks := [0, 3, 4, 5]) rfl)) _ ⟨_, by omega, q - 1, rfl, by omega, later_next hq0 hy (decide_eq_true hv) hJ, rfl, rfl⟩ gv
 refine dF hv ?_
 refine dx [15, 16, 17] ?_
 refine RunD.takeG 18 rfl rfl rfl rfl rfl kr (DetJ.sub rfl rfl) .nil ?_
 refine RunD.set (v := I ((q - 1 : Nat) : Int)) (congrArg I (by rw [wrap_i64_in (by omega)]; omega)) ?_
 refine dx [19, 20, 21, 22, 23, 24, 25] ?_
 refine RunD.takeGR1 26 rfl rfl rfl rfl kr nT3 rfl pk (hrd.mv hx 1 (I x.value) rfl) ?_
 refine dx [27] ?_
 by_cases hve : y.value = x.value
 refine dT hve ?_
 refine dx [28, 29, 30] ?_
 refine RunD.takeG 31 rfl rfl rfl rfl rfl kr (DetJ.sub rfl rfl) .nil ?_
 refine RunD.set (v := I ((q - 1 : Nat) : Int)) (congrArg I (by rw [wrap_i64_in (by omega)]; omega)) ?_
 refine dx [32, 33, 34, 35, 36, 37, 38] ?_
 refine RunD.takeGR1 39 rfl rfl rfl rfl kr nT3 rfl pk (hrd.mv hx 0 (I x.seq) rfl) ?_
 refine dx [40] ?_
 refine dF (by omega) ?_
 refine dx [41, 42, 43] ?_
 obtain rfl : q = (cutN (laterB x.value) (ordM (ms.take i))) := (cut_back ((ordM_sort _).mono _) hq hJ (.inr ⟨y, hy, decide_eq_false hv⟩)).symm
 refine kd [0, 3, 4, 5, 57] rfl ?_
 refine Run.false rfl ?_
 refine Run.exit ?_
 exact ⟨(), Keep.sub (kt (ks := [0, 3, 4, 5]) rfl), gv⟩
 refine dF hve ?_
 refine dx [28, 29, 30, 31, 32, 33, 34, 35, 36, 37, 38, 39, 40, 41, 42, 43] ?_
 obtain rfl : q = (cutN (laterB x.value) (ordM (ms.take i))) := (cut_back ((ordM_sort _).mono _) hq hJ (.inr ⟨y, hy, decide_eq_false hv⟩)).symm
 refine kd [0, 3, 4, 5, 57] rfl ?_
 refine Run.false rfl ?_
 refine Run.exit ?_
 exact ⟨(), Keep.sub (kt (ks := [0, 3, 4, 5]) rfl), gv⟩
 rintro _
 have hll : ([] ++ (ordM (ms.take i)).take (cutN (laterB x.value) (ordM (ms.take i)))).length ≤ 1000000 := by simp; omega
 have hcle := cutN_le (p := laterB x.value) (o := (ordM (ms.take i)))
 have hins2 : [] ++ (ordM (ms.take i)).take (cutN (laterB x.value) (ordM (ms.take i))) ++ [x] ++ (ordM (ms.take i)).drop (cutN (laterB x.value) (ordM (ms.take i))) = (insB (laterB x.value) x (ordM (ms.take i))) := by rw [insB_eq]; simp
 refine regionD HM ?_
 refine RunD.mono (K' := fun E' L' => ∃ a74 : Option Addr, ∃ c74 : Nat, E' = [(0, .slice (some ⟨b, o, none⟩) ms.length cap), (3, .slice a74 (insB (laterB x.value) x (ordM (ms.take i))).length c74), (4, I i)] ∧ L' = [own 35 8 a74 (insB (laterB x.value) x (ordM (ms.take i))).length c74 ((insB (laterB x.value) x (ordM (ms.take i))).flatMap Mv.c), R]) ?_ ?_
 refine dx [1, 2] ?_
 refine tk 3 rfl rfl rfl (DetJ.sliceHi nS24 rfl rfl (by omega)) ?_
 refine dx [5, 6, 7] ?_
 refine RunD.takeR (R := R) 8 rfl rfl kr nT35 rfl pk (hrd.elem (fun _ => rfl) hx) rfl ?_
 refine dx [11, 12] ?_
 refine tk 13 rfl rfl rfl (DetJ.sliceLoA nS24 rfl rfl (by omega)) ?_
 refine RunD.two 0 9 [true, true, true, true, true, true, true, true, true, true] [true, true, true, false, false, false, false, true, true, true] rfl rfl rfl rfl rfl rfl kr kr kr (OpJ.buildSlice0 nS24 fun b60 => ⟨po, ?_⟩) (OpJ.buildSlice1 nS24 rfl rfl rfl (by decide) (by decide) nZ35 rfl fun b69 => ⟨po, ?_⟩)
 refine RunD.two 4 9 [true, true, true, true, true, true, true, false, false, false] [true, true, true, false, false, false, false, true, true, true] rfl rfl rfl rfl rfl rfl kr kr kr (OpJ.appendL (R := own 35 8 ob (ordM (ms.take i)).length cb ((ordM (ms.take i)).flatMap Mv.c)) ([] : List Mv) ((ordM (ms.take i)).take (cutN (laterB x.value) (ordM (ms.take i)))) nS24 nM35 rfl rfl pk pk (own.take (enc := Mv.c) (k := 8) (cutN (laterB x.value) (ordM (ms.take i))) (fun _ => rfl) rfl) (by rw [List.length_take]; omega) (fun _ => rfl) (by decide) mv1 (by rw [List.length_take]; simp; omega) (by rw [List.length_take]; simp; omega) fun a64 c64 => ⟨po, ?_⟩) (OpJ.buildSlice1 nS24 rfl rfl rfl (by decide) (by decide) nZ35 rfl fun b69 => ⟨po, ?_⟩)
 refine RunD.op 9 [true, true, true, false, false, false, false] rfl rfl rfl kr kr (OpJ.buildSlice1 nS24 rfl rfl rfl (by decide) (by decide) nZ35 rfl fun b69 => ⟨po, ?_⟩)
 refine RunD.op 10 [true, true, true] rfl rfl rfl kr kr (OpJ.append1 (x : Mv) nS24 nM35 rfl rfl pk pk rfl rfl (by simp [Value.oneCell', Pa.c, Ly.c, Mv.c, Co.c, Aj.c, Ks.c, Iv]) rfl (by omega) (by omega) fun a70 c70 => ⟨po, ?_⟩)
 refine RunD.op 14 [false, false, false] rfl rfl rfl kr kr (OpJ.appendL (R := own 35 8 ob (ordM (ms.take i)).length cb ((ordM (ms.take i)).flatMap Mv.c)) ([] ++ (ordM (ms.take i)).take (cutN (laterB x.value) (ordM (ms.take i))) ++ [x]) ((ordM (ms.take i)).drop (cutN (laterB x.value) (ordM (ms.take i)))) nS24 nM35 rfl rfl pk pk (own.rds.cut (enc := Mv.c) (fun _ => rfl) (cutN (laterB x.value) (ordM (ms.take i))) hcb) (by rw [List.length_drop]) (fun _ => rfl) (by decide) mv1 (by simp; omega) (by simp; omega) fun a74 c74 => ⟨po, ?_⟩)
 refine dx [15] ?_
 rw [hins2]
 exact dwk ⟨_, _, rfl, rfl⟩ rfl gv
 refine RunD.op 4 [true, true, true, false, false, false] rfl rfl rfl kr kr (OpJ.appendL (R := own 35 8 ob (ordM (ms.take i)).length cb ((ordM (ms.take i)).flatMap Mv.c)) ([] : List Mv) ((ordM (ms.take i)).take (cutN (laterB x.value) (ordM (ms.take i)))) nS24 nM35 rfl rfl pk pk (own.take (enc := Mv.c) (k := 8) (cutN (laterB x.value) (ordM (ms.take i))) (fun _ => rfl) rfl) (by rw [List.length_take]; omega) (fun _ => rfl) (by decide) mv1 (by rw [List.length_take]; simp; omega) (by rw [List.length_take]; simp; omega) fun a64 c64 => ⟨po, ?_⟩)
 refine RunD.op 10 [true, true, true] rfl rfl rfl kr kr (OpJ.append1 (x : Mv) nS24 nM35 rfl rfl pk pk rfl rfl (by simp [Value.oneCell', Pa.c, Ly.c, Mv.c, Co.c, Aj.c, Ks.c, Iv]) rfl (by omega) (by omega) fun a70 c70 => ⟨po, ?_⟩)
 refine RunD.op 14 [false, false, false] rfl rfl rfl kr kr (OpJ.appendL (R := own 35 8 ob (ordM (ms.take i)).length cb ((ordM (ms.take i)).flatMap Mv.c)) ([] ++ (ordM (ms.take i)).take (cutN (laterB x.value) (ordM (ms.take i))) ++ [x]) ((ordM (ms.take i)).drop (cutN (laterB x.value) (ordM (ms.take i)))) nS24 nM35 rfl rfl pk pk (own.rds.cut (enc := Mv.c) (fun _ => rfl) (cutN (laterB x.value) (ordM (ms.take i))) hcb) (by rw [List.length_drop]) (fun _ => rfl) (by decide) mv1 (by simp; omega) (by simp; omega) fun a74 c74 => ⟨po, ?_⟩)
 refine dx [15] ?_
 rw [hins2]
 exact dwk ⟨_, _, rfl, rfl⟩ rfl gv
 refine RunD.op 0 [true, true, true, true, true, true] rfl rfl rfl kr kr (OpJ.buildSlice0 nS24 fun b60 => ⟨po, ?_⟩)
 refine RunD.op 4 [true, true, true, false, false, false] rfl rfl rfl kr kr (OpJ.appendL (R := own 35 8 ob (ordM (ms.take i)).length cb ((ordM (ms.take i)).flatMap Mv.c)) ([] : List Mv) ((ordM (ms.take i)).take (cutN (laterB x.value) (ordM (ms.take i)))) nS24 nM35 rfl rfl pk pk (own.take (enc := Mv.c) (k := 8) (cutN (laterB x.value) (ordM (ms.take i))) (fun _ => rfl) rfl) (by rw [List.length_take]; omega) (fun _ => rfl) (by decide) mv1 (by rw [List.length_take]; simp; omega) (by rw [List.length_take]; simp; omega) fun a64 c64 => ⟨po, ?_⟩)
 refine RunD.op 10 [true, true, true] rfl rfl rfl kr kr (OpJ.append1 (x : Mv) nS24 nM35 rfl rfl pk pk rfl rfl (by simp [Value.oneCell', Pa.c, Ly.c, Mv.c, Co.c, Aj.c, Ks.c, Iv]) rfl (by omega) (by omega) fun a70 c70 => ⟨po, ?_⟩)
 refine RunD.op 14 [false, false, false] rfl rfl rfl kr kr (OpJ.appendL (R := own 35 8 ob (ordM (ms.take i)).length cb ((ordM (ms.take i)).flatMap Mv.c)) ([] ++ (ordM (ms.take i)).take (cutN (laterB x.value) (ordM (ms.take i))) ++ [x]) ((ordM (ms.take i)).drop (cutN (laterB x.value) (ordM (ms.take i)))) nS24 nM35 rfl rfl pk pk (own.rds.cut (enc := Mv.c) (fun _ => rfl) (cutN (laterB x.value) (ordM (ms.take i))) hcb) (by rw [List.length_drop]) (fun _ => rfl) (by decide) mv1 (by simp; omega) (by simp; omega) fun a74 c74 => ⟨po, ?_⟩)
 refine dx [15] ?_
 rw [hins2]
 exact dwk ⟨_, _, rfl, rfl⟩ rfl gv
 rintro _ _ ⟨a74, c74, rfl, rfl⟩
 refine Run.region ?_
 refine sx 3 ?_
 rw [← ordM_succ hx]
 exact RunL.next (Keep.sub (kt (ks := [0, 3, 4]) rfl)) _ ⟨_, by omega, i + 1, _, _, _, rfl, by omega, hR, rfl, rfl⟩ gv
 refine Run.exit ?_
 refine rg 2 [2] ?_
 refine Run.ret ?_
 have hfin : ms.take i = ms := List.take_of_length_le (by omega); rw [hfin]; exact ret_out (ob, cb) (.tmp rfl .nil) trivial rfl gv
end
end Go.Proofs.YtcpghpifbgpkjaaGreatDoor

namespace Go.Proofs.YtcpghpifbgpkjaaGreatDoor
open Go Go.SL Go.Proofs
section
attribute [local irreducible] OpJ RunL Run RunD DetJ pt own star Rd RdS
theorem ac168 (n : Int) (hn : i64 n) : AC Tryz.prog 206 ⟨[I n]⟩ (stars []) (Ret (U (mag n)) []) := by
 refine eo Tryz.func206 fun β => ?_
 refine rg 1 [0] ?_
 refine Run.seq ?_
 refine rg 2 [0, 4] ?_
 refine cnd rfl (fun h1 => ?_) fun h1 => ?_
 refine sr ?_
 refine sx 1 ?_
 refine RunL.op rfl rfl (OpJ.add rfl rfl ?_)
 refine sx 2 ?_
 refine RunL.op rfl rfl (OpJ.add rfl rfl ?_)
 refine sx 1 ?_
 refine kq [2] ?_
 exact .ret (ret_one (.tmp rfl .nil) (congrArg U (mag_conv_ref hn h1)) gv)
 refine Run.skip ?_
 refine rg 3 [2] ?_
 exact .ret (ret_one (.tmp rfl .nil) (congrArg U (mag_conv_pos hn h1)) gv)
theorem ac166 (n : Int) (hn : i64 n) : AC Tryz.prog 204 ⟨[I n]⟩ (stars []) (Ret (U (mag n)) []) := by
 refine eo Tryz.func204 fun β => ?_
 refine rg 1 [0] ?_
 refine Run.seq ?_
 refine rg 2 [0, 4] ?_
 refine cnd rfl (fun h1 => ?_) fun h1 => ?_
 refine sr ?_
 refine sx 2 ?_
 refine RunL.op rfl rfl (OpJ.sub rfl rfl ?_)
 refine RunL.op rfl rfl (OpJ.add rfl rfl ?_)
 refine sx 1 ?_
 refine kq [2] ?_
 exact .ret (ret_one (.tmp rfl .nil) (congrArg U (size_conv hn h1)) gv)
 refine Run.skip ?_
 refine rg 3 [2] ?_
 exact .ret (ret_one (.tmp rfl .nil) (congrArg U (mag_conv_pos hn h1)) gv)
theorem ac167 (a b : Int) (ha : u64 a) (hb : u64 b) : AC Tryz.prog 205 ⟨[U a, U b]⟩ (stars []) (Ret (.tuple ⟨[U (a * b / 18446744073709551616), U (a * b % 18446744073709551616)]⟩) []) := by
 have ea1 := hi32' ha; have ea0 := lo32 a; have eb1 := hi32' hb; have eb0 := lo32 b
 have p11 := mul32 ea1 eb1; have p10 := mul32 ea1 eb0; have p01 := mul32 ea0 eb1; have p00 := mul32 ea0 eb0
 have hw := wide_words a b ha hb
 simp only at hw
 refine eo Tryz.func205 fun β => ?_
 refine rg 2 [0, 1] ?_
 refine sr ?_
 refine sx 1 ?_
 refine RunL.op rfl rfl (OpJ.quoU rfl rfl (by omega) (by omega) ?_)
 refine sx 1 ?_
 refine RunL.op rfl rfl (OpJ.remU rfl rfl (by omega) (by omega) ?_)
 refine sx 2 ?_
 refine kq [1, 6, 7] ?_
 refine sr ?_
 refine sx 1 ?_
 refine RunL.op rfl rfl (OpJ.quoU rfl rfl (by omega) (by omega) ?_)
 refine sx 1 ?_
 refine RunL.op rfl rfl (OpJ.remU rfl rfl (by omega) (by omega) ?_)
 refine sx 2 ?_
 refine kq [6, 7, 8, 9] ?_
 refine sr ?_
 refine sx 2 ?_
 refine RunL.op rfl rfl (OpJ.mulU rfl rfl (mul32u (by omega) (by omega)) ?_)
 refine sx 1 ?_
 refine kq [6, 7, 8, 9, 10] ?_
 refine sr ?_
 refine sx 2 ?_
 refine RunL.op rfl rfl (OpJ.mulU rfl rfl (mul32u (by omega) (by omega)) ?_)
 refine sx 1 ?_
 refine RunL.op rfl rfl (OpJ.quoU rfl rfl (by omega) (by omega) ?_)
 refine RunL.op rfl rfl (OpJ.addU rfl rfl (by omega) ?_)
 refine sx 1 ?_
 refine kq [6, 7, 8, 10, 11] ?_
 refine sr ?_
 refine sx 2 ?_
 refine RunL.op rfl rfl (OpJ.mulU rfl rfl (mul32u (by omega) (by omega)) ?_)
 refine sx 1 ?_
 refine RunL.op rfl rfl (OpJ.remU rfl rfl (by omega) (by omega) ?_)
 refine RunL.op rfl rfl (OpJ.addU rfl rfl (by omega) ?_)
 refine sx 1 ?_
 refine kq [6, 8, 10, 11, 12] ?_
 refine sr ?_
 refine sx 2 ?_
 refine RunL.op rfl rfl (OpJ.mulU rfl rfl (mul32u (by omega) (by omega)) ?_)
 refine sx 1 ?_
 refine RunL.op rfl rfl (OpJ.quoU rfl rfl (by omega) (by omega) ?_)
 refine RunL.op rfl rfl (OpJ.addU rfl rfl (by omega) ?_)
 refine sx 1 ?_
 refine RunL.op rfl rfl (OpJ.quoU rfl rfl (by omega) (by omega) ?_)
 refine RunL.op rfl rfl (OpJ.addU rfl rfl (by omega) ?_)
 refine sx 1 ?_
 refine RunL.op rfl rfl (OpJ.remU rfl rfl (by omega) (by omega) ?_)
 refine RunL.op rfl rfl (OpJ.mulU rfl rfl (by omega) ?_)
 refine sx 1 ?_
 refine RunL.op rfl rfl (OpJ.remU rfl rfl (by omega) (by omega) ?_)
 refine RunL.op rfl rfl (OpJ.addU rfl rfl (by omega) ?_)
 refine sx 2 ?_
 refine kq [4, 5] ?_
 exact .ret (ret_one (.tmp rfl (.tmp rfl .nil)) (words_tup hw (by omega)) .nil)
theorem ac169 (hi lo c : Int) (hhi : u64 hi) (hlo : u64 lo) (hc : 0 < c) (hcu : u64 c) : AC Tryz.prog 207 ⟨[U hi, U lo, U c]⟩ (stars []) (Ret (.tuple ⟨[U ((hi * 18446744073709551616 + lo) / c / 18446744073709551616), U ((hi * 18446744073709551616 + lo) / c % 18446744073709551616), U ((hi * 18446744073709551616 + lo) % c)]⟩) []) := by
 refine eo Tryz.func207 fun β => ?_
 refine rg 3 [0, 1, 2] ?_
 refine rg 3 [0, 1, 2, 9, 10, 11] ?_
 refine Run.seq ?_
 refine rg 1 [0, 1, 2, 9, 10, 11, 12] ?_
 refine Run.block ?_
 refine Run.loop (fun mm E L => ∃ i : Nat, ∃ a b qh ql r : Int, mm = 128 - i ∧ i ≤ 128 ∧ LInv (hi * 18446744073709551616 + lo) c i a b qh ql r ∧ E = [(0, U a), (1, U b), (2, U c), (9, U qh), (10, U ql), (11, U r), (12, I i)] ∧ L = []) ⟨_, 0, hi, lo, 0, 0, 0, rfl, Nat.zero_le _, LInv.start hhi hlo hc, rfl, rfl⟩ ?_
 rintro _ _ _ ⟨i, a, b, qh, ql, r, rfl, hi2, hL, rfl, rfl⟩
 have ua := hL.uh; have ub := hL.ul; have uqh := hL.uqh; have uql := hL.uql; have r0 := hL.r0; have rc := hL.rc
 refine Run.seq ?_
 refine rg 2 [0, 1, 2, 9, 10, 11, 12, 15] ?_
 refine cnd rfl (fun h1 => ?_) fun h1 => ?_
 refine Run.skip ?_
 refine Run.seq ?_
 refine Run.block ?_
 refine sr ?_
 have hS := hL.step (by omega) hcu
 refine sx 3 ?_
 refine kq [0, 1, 2, 9, 10, 11, 12, 13] ?_
 refine sr ?_
 refine sx 3 ?_
 refine RunL.op rfl rfl (OpJ.quoU rfl rfl (by omega) (by omega) ?_)
 refine RunL.op rfl rfl (OpJ.add rfl rfl ?_)
 refine RunL.set (congrArg U (show _ = (2 * r + a / 9223372036854775808) % 18446744073709551616 by rw [wrap_u64, wrap_u64]; omega)) ?_
 refine sx 1 ?_
 refine kq [0, 1, 2, 9, 10, 11, 12, 13] ?_
 refine sr ?_
 refine sx 3 ?_
 refine RunL.op rfl rfl (OpJ.quoU rfl rfl (by omega) (by omega) ?_)
 refine RunL.op rfl rfl (OpJ.add rfl rfl ?_)
 refine RunL.set (congrArg U (show _ = 2 * a % 18446744073709551616 + b / 9223372036854775808 by rw [wrap_u64, wrap_u64]; omega)) ?_
 refine sx 1 ?_
 refine kq [0, 1, 2, 9, 10, 11, 12, 13] ?_
 refine sr ?_
 refine sx 2 ?_
 refine RunL.set (congrArg U (show _ = 2 * b % 18446744073709551616 by rw [wrap_u64])) ?_
 refine sx 1 ?_
 refine kq [0, 1, 2, 9, 10, 11, 12, 13] ?_
 refine sr ?_
 refine sx 3 ?_
 refine RunL.op rfl rfl (OpJ.quoU rfl rfl (by omega) (by omega) ?_)
 refine RunL.op rfl rfl (OpJ.add rfl rfl ?_)
 refine RunL.set (congrArg U (show _ = 2 * qh % 18446744073709551616 + ql / 9223372036854775808 by rw [wrap_u64, wrap_u64]; omega)) ?_
 refine sx 1 ?_
 refine kq [0, 1, 2, 9, 10, 11, 12, 13] ?_
 refine sr ?_
 refine sx 2 ?_
 refine RunL.set (congrArg U (show _ = 2 * ql % 18446744073709551616 by rw [wrap_u64])) ?_
 refine sx 1 ?_
 refine kq [0, 1, 2, 9, 10, 11, 12, 13] ?_
 refine sr ?_
 refine sx 2 ?_
 refine spl 40 rfl (fun g2 => ?_) fun g2 => ?_
 refine sx 4 ?_
 refine kq [0, 1, 2, 9, 10, 11, 12, 44] ?_
 refine Run.true rfl ?_
 refine sr ?_
 refine sx 2 ?_
 refine RunL.op rfl rfl (OpJ.sub rfl rfl ?_)
 refine RunL.set (congrArg U (show _ = ((2 * r + a / 9223372036854775808) % 18446744073709551616 - c) % 18446744073709551616 by rw [wrap_u64])) ?_
 refine sx 1 ?_
 refine kq [0, 1, 2, 9, 10, 11, 12] ?_
 refine Run.region ?_
 refine sx 1 ?_
 refine RunL.op rfl rfl (OpJ.addU rfl rfl (by omega) ?_)
 refine sx 1 ?_
 refine kq [0, 1, 2, 9, 10, 11, 12] ?_
 refine Run.region ?_
 refine sx 3 ?_
 exact RunL.next (Keep.sub (kt (ks := [0, 1, 2, 9, 10, 11, 12]) rfl)) _ ⟨_, by omega, i + 1, _, _, _, _, _, rfl, by omega, (by first | exact hS.1 (.inl (by simpa using g2)) | exact hS.1 (.inr (by simpa using h3)) | exact hS.2 ⟨by simpa using g2, by simpa using h3⟩), rfl, rfl⟩ gv
 refine sx 4 ?_
 refine kq [0, 1, 2, 9, 10, 11, 12, 44] ?_
 refine cnd rfl (fun h3 => ?_) fun h3 => ?_
 refine sr ?_
 refine sx 2 ?_
 refine RunL.op rfl rfl (OpJ.sub rfl rfl ?_)
 refine RunL.set (congrArg U (show _ = ((2 * r + a / 9223372036854775808) % 18446744073709551616 - c) % 18446744073709551616 by rw [wrap_u64])) ?_
 refine sx 1 ?_
 refine kq [0, 1, 2, 9, 10, 11, 12] ?_
 refine Run.region ?_
 refine sx 1 ?_
 refine RunL.op rfl rfl (OpJ.addU rfl rfl (by omega) ?_)
 refine sx 1 ?_
 refine kq [0, 1, 2, 9, 10, 11, 12] ?_
 refine Run.region ?_
 refine sx 3 ?_
 exact RunL.next (Keep.sub (kt (ks := [0, 1, 2, 9, 10, 11, 12]) rfl)) _ ⟨_, by omega, i + 1, _, _, _, _, _, rfl, by omega, (by first | exact hS.1 (.inl (by simpa using g2)) | exact hS.1 (.inr (by simpa using h3)) | exact hS.2 ⟨by simpa using g2, by simpa using h3⟩), rfl, rfl⟩ gv
 refine Run.skip ?_
 refine Run.region ?_
 refine sx 3 ?_
 exact RunL.next (Keep.sub (kt (ks := [0, 1, 2, 9, 10, 11, 12]) rfl)) _ ⟨_, by omega, i + 1, _, _, _, _, _, rfl, by omega, (by first | exact hS.1 (.inl (by simpa using g2)) | exact hS.1 (.inr (by simpa using h3)) | exact hS.2 ⟨by simpa using g2, by simpa using h3⟩), rfl, rfl⟩ gv
 refine Run.exit ?_
 refine rg 6 [6, 7, 8] ?_
 exact .ret (ret_one (.tmp rfl (.tmp rfl (.tmp rfl .nil))) (hL.ret (by omega)) .nil)
theorem ac170 (mode r c : Int) (neg odd : Bool) (hr : u64 r) (hc : u64 c) (hrc : r < c) : AC Tryz.prog 208 ⟨[I mode, Bo neg, Bo odd, U r, U c]⟩ (stars []) (Ret (Bo (awayB mode neg odd r c)) []) := by
 refine eo Tryz.func208 fun β => ?_
 refine rg 1 [0, 1, 2, 3, 4] ?_
 refine Run.seq ?_
 refine rg 1 [1, 2, 3, 4, 11] ?_
 refine Run.block ?_
 refine rg 2 [1, 2, 3, 4, 11, 12] ?_
 refine cnd rfl (fun h1 => ?_) fun h1 => ?_
 refine rg 3 [10] ?_
 exact .ret (ret_one (.tmp rfl .nil) (congrArg Bo (away_2 (by omega) hr.1)) gv)
 refine rg 2 [1, 2, 3, 4, 11, 16] ?_
 refine cnd rfl (fun h2 => ?_) fun h2 => ?_
 refine sr ?_
 refine sx 3 ?_
 refine RunL.op rfl rfl (OpJ.subU rfl rfl (by omega) ?_)
 refine sx 2 ?_
 refine kq [10] ?_
 exact .ret (ret_one (.tmp rfl .nil) (congrArg Bo (away_3 (by omega) hr.1 hrc)) gv)
 refine rg 2 [1, 2, 3, 4, 11, 23] ?_
 refine cnd rfl (fun h3 => ?_) fun h3 => ?_
 refine sr ?_
 refine sx 3 ?_
 refine RunL.op rfl rfl (OpJ.subU rfl rfl (by omega) ?_)
 refine sx 2 ?_
 refine spl 30 rfl (fun g4 => ?_) fun g4 => ?_
 refine sx 10 ?_
 refine kq [10] ?_
 exact .ret (ret_one (.tmp rfl .nil) (congrArg Bo (away_4a (by omega) hrc hr.1 (by omega))) gv)
 refine sx 3 ?_
 refine RunL.yes rfl rfl rfl rfl (OpJ.subU rfl rfl (by omega) ?_)
 refine sx 2 ?_
 refine spl 36 rfl (fun g5 => ?_) fun g5 => ?_
 refine sx 4 ?_
 refine kq [10] ?_
 exact .ret (ret_one (.tmp rfl .nil) (congrArg Bo (away_4b (by omega) hrc hr.1 (by omega))) gv)
 refine sx 4 ?_
 refine kq [10] ?_
 exact .ret (ret_one (.tmp rfl .nil) (congrArg Bo (away_4c (by omega) (by omega) (by omega))) gv)
 refine rg 2 [1, 3, 40] ?_
 refine cnd rfl (fun h6 => ?_) fun h6 => ?_
 refine sr ?_
 refine sx 2 ?_
 refine spl 43 rfl (fun g7 => ?_) fun g7 => ?_
 refine sx 4 ?_
 refine kq [10] ?_
 exact .ret (ret_one (.tmp rfl .nil) (congrArg Bo (away_5 (by omega) hr.1 (by simp_all))) gv)
 refine sx 4 ?_
 refine kq [10] ?_
 exact .ret (ret_one (.tmp rfl .nil) (congrArg Bo (away_5n (by omega) (by simp_all))) gv)
 refine Run.skip ?_
 refine rg 1 [10] ?_
 exact .ret (ret_one (.tmp rfl .nil) (congrArg Bo (away_no (by omega) (by omega) (by omega) (by omega))) gv)
end
end Go.Proofs.YtcpghpifbgpkjaaGreatDoor
