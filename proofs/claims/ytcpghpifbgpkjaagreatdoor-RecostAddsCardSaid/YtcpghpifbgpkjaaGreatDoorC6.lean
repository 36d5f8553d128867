/- Laws of the walks and of the models, part 6 (merged by program). -/
import Derived.Test.YtcpghpifbgpkjaaGreatDoorC5
import Derived.Test.YtcpghpifbgpkjaaGreatDoorRows
import Derived.Test.YtcpghpifbgpkjaaGreatDoorTie
import Derived.Test.YtcpghpifbgpkjaaGreatDoorCards
import Derived.ProofKit
import Derived.WalkKit
import Derived.LaidMore
import Derived.OpenShut
import Derived.Below
import Derived.ChangeOld
import Derived.SizedLaws
import Derived.Deep.Slices
import Derived.Stop.Joined
set_option linter.unusedVariables false
set_option linter.unusedSimpArgs false
set_option maxRecDepth 20000
set_option maxHeartbeats 4000000
namespace Go.Proofs.YtcpghpifbgpkjaaGreatDoor
open Go Go.SL Go.Proofs
theorem ac28i (k : Int) (s : Sk) (m : Mv) (la : Option Addr) (lc : Nat) (pa : Option Addr) (pc : Nat) (RL RP : HP) (hs : s.ok 999999) (hm : m.ok) (hRL : RdS RL la (s.layers.flatMap Ly.c)) (hRP : RdS RP pa (s.past.flatMap Pa.c)) (hsz : (m.item.size : Int) ≤ 9223372036854775807 ∧ (m.lot.size : Int) ≤ 9223372036854775807) (hi : RInv k s) : AC Tryz.prog 80 ⟨[I k, .agg ⟨s.c la lc pa pc⟩, .agg ⟨m.c⟩]⟩ (stars [RL, RP]) (Outs (fun _ : Option Addr × Nat × Option Addr × Nat => True) (fun x => .tuple ⟨[.agg ⟨StS (stepM k s m) x⟩, .agg ⟨(avC (stepM k s m)).c⟩, I (errOf (stepM k s m))]⟩) (fun x => [stars (StB 96 98 (stepM k s m) x), RL, RP])) := by
  rw [← rStepM_eq hi]; exact ac28f k s m la lc pa pc RL RP hs hm hRL hRP hsz hi.fine hi.l2
section
attribute [local irreducible] OpJ RunL Run RunD DetJ pt own star Rd RdS
theorem ac16 (k p : Int) (R : HP) (oa : Option Addr) (cap : Nat) (ms : List Mv) (hR : RdS R oa (ms.flatMap Mv.c)) (hlen : ms.length ≤ 1000) (hms : ∀ m ∈ ms, m.ok) (hsz : ∀ m ∈ ms, (m.item.size : Int) ≤ 9223372036854775807 ∧ (m.lot.size : Int) ≤ 9223372036854775807) : AC Tryz.prog 62 ⟨[I k, I p, .slice oa ms.length cap]⟩ (stars [R]) (Outs (fun _ : Option Addr × Nat × Option Addr × Nat × Option Addr × Nat => True) (fun x => RunV (runM k p ms) x) (fun x => RunB 96 98 32 (runM k p ms) x ++ [R])) := by
 refine eo Tryz.func62 fun β => ?_
 refine sr ?_
 refine oal fun b6 => ?_
 refine sx 3 ?_
 refine kq [0, 1, 2, 6] ?_
 refine sr ?_
 refine sx 2 ?_
 refine RunL.call C14 rfl rfl rfl (ac14 k p) .nil ?_
 refine sx 3 ?_
 refine oal fun b10 => ?_
 refine sx 2 ?_
 refine kq [0, 2, 6, 10, 11] ?_
 refine Run.seq ?_
 refine rg 2 [0, 2, 6, 10, 11, 24] ?_
 refine cnd rfl (fun h1 => ?_) fun h1 => ?_
 refine rg 6 [6, 7, 8, 9] ?_
 refine Run.ret ?_
 have hf := runM_no (ms := ms) h1; refine ret_out (none, 0, none, 0, none, 0) (.cellA T28 rfl pk (by rfl) (.tmp rfl (.tmp rfl (.tmp rfl .nil)))) trivial (by rw [hf]; rfl) ?_; rw [hf]; exact gv
 refine Run.skip ?_
 refine sr ?_
 have h0 : startE k p = 0 := Decidable.not_not.1 h1
 refine RunL.ownNilX (enc := Ly.c) 96 4 (start0_l k p) ?_
 refine RunL.ownNilX (enc := Pa.c) 98 7 (start0_p k p) ?_
 refine RunL.op rfl rfl (OpJ.buildSlice0 S34 fun b27 => ?_)
 refine sx 1 ?_
 refine kq [0, 2, 6, 10, 12] ?_
 refine Run.seq ?_
 refine rg 1 [0, 2, 6, 10, 12, 13] ?_
 refine Run.block ?_
 refine Run.weak (L' := [pt b10 (blk ((start0 k p).c none 0 none 0) 61), pt b6 (blk [I 0, I 0, I 0, .slice none 0 0, .slice none 0 0] 61), own 96 4 none (start0 k p).layers.length 0 ((start0 k p).layers.flatMap Ly.c), own 98 7 none (start0 k p).past.length 0 ((start0 k p).past.flatMap Pa.c), own 32 4 (some ⟨b27, 0, none⟩) 0 0 [], R]) (fun _ _ h => h) gv ?_
 refine Run.loop (fun mm E L => ∃ (i : Nat) (s : Sk) (cs : List Co) (la : Option Addr) (lc : Nat) (pa : Option Addr) (pc : Nat) (ca : Option Addr) (cc : Nat), mm = ms.length - i ∧ i ≤ ms.length ∧ runL (stepM k) (start0 k p) (ms.take i) = .ok (s, cs) ∧ RInv k s ∧ E = [(0, I k), (2, .slice oa ms.length cap), (6, .pointer (some ⟨b6, 0, none⟩)), (10, .pointer (some ⟨b10, 0, none⟩)), (12, .slice ca cs.length cc), (13, I i)] ∧ L = [pt b10 (blk (s.c la lc pa pc) 61), pt b6 (blk [I 0, I 0, I 0, .slice none 0 0, .slice none 0 0] 61), own 96 4 la s.layers.length lc (s.layers.flatMap Ly.c), own 98 7 pa s.past.length pc (s.past.flatMap Pa.c), own 32 4 ca (cs).length cc ((cs).flatMap Co.c), R]) ⟨_, 0, start0 k p, [], none, 0, none, 0, some ⟨b27, 0, none⟩, 0, rfl, Nat.zero_le _, rfl, start_rinv, rfl, rfl⟩ ?_
 rintro _ _ _ ⟨i, s, cs, la, lc, pa, pc, ca, cc, rfl, hi, hrun, hri, rfl, rfl⟩
 have hcl := runL_len hrun
 have hti : (ms.take i).length ≤ 1000 := by rw [List.length_take]; omega
 have hso := (runL_ok (fun m hm => hms m (List.mem_of_mem_take hm)) (start0_ok 0) hrun).mono (show 0 + (ms.take i).length ≤ 999999 by omega)
 refine Run.seq ?_
 refine rg 4 [0, 2, 6, 10, 12, 13, 31] ?_
 refine cnd rfl (fun h2 => ?_) fun h2 => ?_
 refine Run.skip ?_
 refine Run.seq ?_
 refine Run.block ?_
 refine Run.seq ?_
 obtain ⟨m, hx⟩ := get_ex (xs := ms) (i := i) (by omega)
 refine Run.rdOpen (R := R) pk hR (flat_ne (k := 8) (fun _ => rfl) (by decide) hx) fun b0 o0 e hrd => ?_
 subst e
 refine regionD HM ?_
 refine RunD.mono (K' := fun E' L' => ∃ x : Option Addr × Nat × Option Addr × Nat, ∃ b14 : Nat, ∃ b15 : Nat, E' = [(0, I k), (2, .slice (some ⟨b0, o0, none⟩) ms.length cap), (6, .pointer (some ⟨b6, 0, none⟩)), (10, .pointer (some ⟨b10, 0, none⟩)), (12, .slice ca cs.length cc), (13, I i), (14, .pointer (some ⟨b14, 0, none⟩)), (15, .pointer (some ⟨b15, 0, none⟩)), (16, I (errOf (stepM k s m)))] ∧ L' = [pt b14 (blk (StS (stepM k s m) x) 61), pt b15 (blk (avC (stepM k s m)).c 32), stars (StB 96 98 (stepM k s m) x), pt b10 (blk (s.c la lc pa pc) 61), pt b6 (blk [I 0, I 0, I 0, .slice none 0 0, .slice none 0 0] 61), own 32 4 ca (cs).length cc ((cs).flatMap Co.c), R]) ?_ ?_
 refine dx [0, 1, 2, 3, 4] ?_
 refine RunD.takeR 5 rfl rfl kr T47 rfl pk (hrd.elem (fun _ => rfl) hx) rfl ?_
 refine RunD.three 6 11 12 [false, false, false, false, false, false] [true, true, true, true, true, true] [true, true, true, true, true, true] rfl rfl rfl rfl rfl rfl rfl rfl rfl kr kr kr kr (OpJ.callOuts C28 rfl rfl (ac28i k s m la lc pa pc (own 96 4 la s.layers.length lc (s.layers.flatMap Ly.c)) (own 98 7 pa s.past.length pc (s.past.flatMap Pa.c)) hso (hms m (List.mem_of_getElem? hx)) own.rds own.rds (hsz m (List.mem_of_getElem? hx)) hri) tks fun x _ => ⟨po, ?_⟩) (OpJ.alloc Z28 fun b14 => ⟨po, ?_⟩) (OpJ.alloc Z43 fun b15 => ⟨po, ?_⟩)
 refine dx [7, 8, 9, 10] ?_
 refine RunD.two 11 12 [true, true, true, true] [true, true, true, true] rfl rfl rfl rfl rfl rfl kr kr kr (OpJ.alloc Z28 fun b14 => ⟨po, ?_⟩) (OpJ.alloc Z43 fun b15 => ⟨po, ?_⟩)
 refine RunD.op 12 [true, true, true, true] rfl rfl rfl kr kr (OpJ.alloc Z43 fun b15 => ⟨po, ?_⟩)
 refine RunD.op 13 [true, true, false, false] rfl rfl rfl kr kr (OpJ.storeW T28 rfl rfl StS_len rfl StS_one up ⟨po, ?_⟩)
 refine dsw 14 [true, false] ?_
 refine dx [15] ?_
 exact dwk ⟨_, _, _, rfl, rfl⟩ rfl gv
 refine RunD.op 11 [true, true, true, true] rfl rfl rfl kr kr (OpJ.alloc Z28 fun b14 => ⟨po, ?_⟩)
 refine RunD.op 13 [true, true, false, false] rfl rfl rfl kr kr (OpJ.storeW T28 rfl rfl StS_len rfl StS_one up ⟨po, ?_⟩)
 refine dsw 14 [true, false] ?_
 refine dx [15] ?_
 exact dwk ⟨_, _, _, rfl, rfl⟩ rfl gv
 refine RunD.two 6 12 [false, false, false, false, false, false] [true, true, true, true, true, true] rfl rfl rfl rfl rfl rfl kr kr kr (OpJ.callOuts C28 rfl rfl (ac28i k s m la lc pa pc (own 96 4 la s.layers.length lc (s.layers.flatMap Ly.c)) (own 98 7 pa s.past.length pc (s.past.flatMap Pa.c)) hso (hms m (List.mem_of_getElem? hx)) own.rds own.rds (hsz m (List.mem_of_getElem? hx)) hri) tks fun x _ => ⟨po, ?_⟩) (OpJ.alloc Z43 fun b15 => ⟨po, ?_⟩)
 refine dx [7, 8, 9, 10] ?_
 refine RunD.op 12 [true, true, true, true] rfl rfl rfl kr kr (OpJ.alloc Z43 fun b15 => ⟨po, ?_⟩)
 refine RunD.op 13 [true, true, false, false] rfl rfl rfl kr kr (OpJ.storeW T28 rfl rfl StS_len rfl StS_one up ⟨po, ?_⟩)
 refine dsw 14 [true, false] ?_
 refine dx [15] ?_
 exact dwk ⟨_, _, _, rfl, rfl⟩ rfl gv
 refine RunD.op 6 [false, false, false, false, false, false] rfl rfl rfl kr kr (OpJ.callOuts C28 rfl rfl (ac28i k s m la lc pa pc (own 96 4 la s.layers.length lc (s.layers.flatMap Ly.c)) (own 98 7 pa s.past.length pc (s.past.flatMap Pa.c)) hso (hms m (List.mem_of_getElem? hx)) own.rds own.rds (hsz m (List.mem_of_getElem? hx)) hri) tks fun x _ => ⟨po, ?_⟩)
 refine dx [7, 8, 9, 10] ?_
 refine RunD.op 13 [true, true, false, false] rfl rfl rfl kr kr (OpJ.storeW T28 rfl rfl StS_len rfl StS_one up ⟨po, ?_⟩)
 refine dsw 14 [true, false] ?_
 refine dx [15] ?_
 exact dwk ⟨_, _, _, rfl, rfl⟩ rfl gv
 refine RunD.two 6 11 [false, false, false, false, false, false] [true, true, true, true, true, true] rfl rfl rfl rfl rfl rfl kr kr kr (OpJ.callOuts C28 rfl rfl (ac28i k s m la lc pa pc (own 96 4 la s.layers.length lc (s.layers.flatMap Ly.c)) (own 98 7 pa s.past.length pc (s.past.flatMap Pa.c)) hso (hms m (List.mem_of_getElem? hx)) own.rds own.rds (hsz m (List.mem_of_getElem? hx)) hri) tks fun x _ => ⟨po, ?_⟩) (OpJ.alloc Z28 fun b14 => ⟨po, ?_⟩)
 refine dx [7, 8, 9, 10] ?_
 refine RunD.op 11 [true, true, true, true] rfl rfl rfl kr kr (OpJ.alloc Z28 fun b14 => ⟨po, ?_⟩)
 refine RunD.op 13 [true, true, false, false] rfl rfl rfl kr kr (OpJ.storeW T28 rfl rfl StS_len rfl StS_one up ⟨po, ?_⟩)
 refine dsw 14 [true, false] ?_
 refine dx [15] ?_
 exact dwk ⟨_, _, _, rfl, rfl⟩ rfl gv
 refine RunD.op 6 [false, false, false, false, false, false] rfl rfl rfl kr kr (OpJ.callOuts C28 rfl rfl (ac28i k s m la lc pa pc (own 96 4 la s.layers.length lc (s.layers.flatMap Ly.c)) (own 98 7 pa s.past.length pc (s.past.flatMap Pa.c)) hso (hms m (List.mem_of_getElem? hx)) own.rds own.rds (hsz m (List.mem_of_getElem? hx)) hri) tks fun x _ => ⟨po, ?_⟩)
 refine dx [7, 8, 9, 10] ?_
 refine RunD.op 13 [true, true, false, false] rfl rfl rfl kr kr (OpJ.storeW T28 rfl rfl StS_len rfl StS_one up ⟨po, ?_⟩)
 refine dsw 14 [true, false] ?_
 refine dx [15] ?_
 exact dwk ⟨_, _, _, rfl, rfl⟩ rfl gv
 rintro _ _ ⟨x, b14, b15, rfl, rfl⟩
 refine Run.seq ?_
 refine sr ?_
 refine sx 1 ?_
 rcases hst : stepM k s m with e | ⟨t, c⟩
 refine sx 1 ?_
 first | refine RunL.set (congrArg Value.bool (decide_eq_true (show errOf (Except.error _) ≠ 0 from stepM_err hst))) ?_ | skip
 refine kq [0, 2, 6, 10, 12, 13, 14, 15, 16, 46] ?_
 refine Run.true rfl ?_
 refine rg 7 [6, 7, 8, 9] ?_
 refine Run.ret ?_
 have hf := runM_er h0 (runL_fail hrun hx hst); refine ret_out (none, 0, none, 0, none, 0) (.cellA T28 rfl pk (by rfl) (.tmp rfl (.tmp rfl (.tmp rfl .nil)))) trivial (by rw [hf]; rfl) ?_; rw [hf]; exact gv
 refine RunL.unstar (As := StB 96 98 (Except.ok (t, c)) x) pk ?_
 rw [show StS (Except.ok (t, c)) x = t.c x.1 x.2.1 x.2.2.1 x.2.2.2 from rfl, show avC (Except.ok (t, c)) = c from rfl]
 refine sx 1 ?_
 first | refine RunL.set (congrArg Value.bool (decide_eq_true (show errOf (Except.error _) ≠ 0 from stepM_err hst))) ?_ | skip
 refine kq [0, 2, 6, 10, 12, 13, 14, 15, 16, 46] ?_
 refine Run.false rfl ?_
 refine Run.skip ?_
 refine rg 2 [0, 2, 6, 10, 12, 13, 15] ?_
 refine Run.region ?_
 refine sx 2 ?_
 refine RunL.op rfl rfl (OpJ.buildSlice1 S34 rfl rfl rfl (by decide) (by decide) Z43 rfl fun b53 => ?_)
 refine RunL.op rfl rfl (OpJ.append1 (c : Co) S34 M43 rfl rfl pk pk rfl rfl (by simp [Value.oneCell', Pa.c, Ly.c, Mv.c, Co.c]) rfl (by omega) (by omega) fun a54 c54 => ?_)
 refine sx 1 ?_
 refine kq [0, 2, 6, 10, 12, 13] ?_
 refine Run.region ?_
 refine sx 3 ?_
 exact RunL.next (Keep.sub (kt (ks := [0, 2, 6, 10, 12, 13]) rfl)) _ ⟨_, by omega, i + 1, t, cs ++ [c], x.1, x.2.1, x.2.2.1, x.2.2.2, _, _, rfl, by omega, runL_snoc hrun hx hst, hri.step hst, rfl, rfl⟩ gv
 refine Run.exit ?_
 refine rg 6 [6, 7, 8, 9] ?_
 refine Run.ret ?_
 have hf := runM_ok h0 ((runL_all (by omega)).trans hrun); refine ret_out (la, lc, pa, pc, ca, cc) (.cellA T28 rfl pk (by rfl) (.tmp rfl (.tmp rfl (.tmp rfl .nil)))) trivial (by rw [hf]; rfl) ?_; rw [hf]; exact gv
end
end Go.Proofs.YtcpghpifbgpkjaaGreatDoor

namespace Go.Proofs.YtcpghpifbgpkjaaGreatDoor
open Go Go.SL Go.Proofs
section
attribute [local irreducible] OpJ RunL Run RunD DetJ pt own star Rd RdS fillM addMs addErr csOf skOf addC addD
theorem ac42n (k p : Int) (R : HP) (oa : Option Addr) (cap : Nat) (ms : List Mv) (hR : RdS R oa (ms.flatMap Mv.c)) (hf : Fine ms) (hlen : ms.length ≤ 1000) (hsz : ∀ m ∈ ms, (m.item.size : Int) ≤ 9223372036854775807 ∧ (m.lot.size : Int) ≤ 9223372036854775807) : AC Tryz.prog 42 ⟨[I k, I p, .slice oa ms.length cap]⟩ (stars [R]) (Outs (fun _ : Option Addr × Nat × Option Addr × Nat × Option Addr × Nat => True) (fun x => RrV (repM k p ms) x) (fun x => RunB 96 98 32 (repM k p ms) x ++ [R])) := by
 have hok : ∀ m ∈ ordM ms, m.ok := fun m hm => by obtain ⟨q, hq⟩ := List.getElem?_of_mem ((ordM_perm _).mem_iff.1 hm); exact one_ok (hf q m hq).2.1
 have hsz2 := fun m hm => hsz m ((ordM_perm ms).mem_iff.1 hm)
 refine eo Tryz.func42 fun β => ?_
 refine sr ?_
 refine oal fun b6 => ?_
 refine sx 2 ?_
 refine kq [0, 1, 2, 6] ?_
 refine sr ?_
 refine sx 3 ?_
 refine RunL.callX nC63 rfl rfl rfl (ac63n R oa cap ms hR hf (by omega)) tks fun ⟨ob, cb⟩ _ => ?_
 refine RunL.callX nC62 rfl rfl rfl (ac16 k p (own 35 8 ob (ordM ms).length cb ((ordM ms).flatMap Mv.c)) ob cb (ordM ms) own.rds (by rw [ordM_len]; omega) hok hsz2) tks fun ⟨l1, lc1, p1, pc1, ca, cc⟩ _ => ?_
 rcases hres : runM k p (ordM ms) with ⟨i, e⟩ | ⟨t, cs⟩
 refine sx 5 ?_
 refine oal fun b9 => ?_
 refine sx 4 ?_
 refine kq [6, 9, 10, 12] ?_
 refine rg 6 [6, 7, 8] ?_
 refine Run.ret ?_
 have hr2 : repM k p ms = _ := hres; refine ret_out (l1, lc1, p1, pc1, ca, cc) (.cellA nT61 rfl pk (by rfl) (.tmp rfl (.tmp rfl .nil))) trivial (by rw [hr2]; rfl) ?_; rw [hr2]; exact gv
 refine sx 5 ?_
 refine oal fun b9 => ?_
 refine sx 4 ?_
 refine kq [6, 9, 10, 12] ?_
 refine rg 6 [6, 7, 8] ?_
 refine Run.ret ?_
 have hr2 : repM k p ms = _ := hres; refine ret_out (l1, lc1, p1, pc1, ca, cc) (.cellA nT61 rfl pk (by rfl) (.tmp rfl (.tmp rfl .nil))) trivial (by rw [hr2]; rfl) ?_; rw [hr2]; exact gv
end
theorem runG (k p : Int) (t : Sk) (cs : List Co) (R : HP) (oa : Option Addr) (cap : Nat) (ms : List Mv) (hR : RdS R oa (ms.flatMap Mv.c)) (hf : Fine ms) (hlen : ms.length ≤ 1000) (hsz : ∀ m ∈ ms, (m.item.size : Int) ≤ 9223372036854775807 ∧ (m.lot.size : Int) ≤ 9223372036854775807) (hr : repM k p ms = .ok (t, cs)) : AC Tryz.prog 42 ⟨[I k, I p, .slice oa ms.length cap]⟩ (stars [R]) (Outs (fun _ : Option Addr × Nat × Option Addr × Nat × Option Addr × Nat => True) (fun x => .tuple ⟨[.agg ⟨t.c x.1 x.2.1 x.2.2.1 x.2.2.2.1⟩, .slice x.2.2.2.2.1 cs.length x.2.2.2.2.2, I 0]⟩) (fun x => [own 96 4 x.1 t.layers.length x.2.1 (t.layers.flatMap Ly.c), own 98 7 x.2.2.1 t.past.length x.2.2.2.1 (t.past.flatMap Pa.c), own 32 4 x.2.2.2.2.1 cs.length x.2.2.2.2.2 (cs.flatMap Co.c), R])) := by
  have h := ac42n k p R oa cap ms hR hf hlen hsz
  rw [hr] at h
  exact h
theorem runE (k p : Int) (i e : Int) (R : HP) (oa : Option Addr) (cap : Nat) (ms : List Mv) (hR : RdS R oa (ms.flatMap Mv.c)) (hf : Fine ms) (hlen : ms.length ≤ 1000) (hsz : ∀ m ∈ ms, (m.item.size : Int) ≤ 9223372036854775807 ∧ (m.lot.size : Int) ≤ 9223372036854775807) (hr : repM k p ms = .error (i, e)) : AC Tryz.prog 42 ⟨[I k, I p, .slice oa ms.length cap]⟩ (stars [R]) (Outs (fun _ : Option Addr × Nat × Option Addr × Nat × Option Addr × Nat => True) (fun x => .tuple ⟨[.agg ⟨[I 0, I 0, I 0, .slice none 0 0, .slice none 0 0]⟩, .slice none 0 0, I e]⟩) (fun x => [R])) := by
  have h := ac42n k p R oa cap ms hR hf hlen hsz
  rw [hr] at h
  exact h
section
attribute [local irreducible] OpJ RunL Run RunD DetJ pt own star Rd RdS fillM addMs addErr csOf skOf addC addD
theorem ac16n (k p : Int) : AC Tryz.prog 16 ⟨[I k, I p]⟩ (stars []) (Outs (fun _ : Nat => True) (fun b => .tuple ⟨[.pointer (if startE k p = 0 then some ⟨b, 0, none⟩ else none), I (startE k p)]⟩) (fun b => if startE k p = 0 then [pt b (blk [I k, I p, .slice none 0 0] 52)] else [])) := by
 refine eo Tryz.func16 fun β => ?_
 refine rg 2 [0, 1] ?_
 refine Run.seq ?_
 refine sr ?_
 refine sx 2 ?_
 refine RunL.call nC40 rfl rfl rfl (ac14 k p) .nil ?_
 refine sx 3 ?_
 refine oal fun b6 => ?_
 refine sx 2 ?_
 refine kq [0, 1, 7] ?_
 refine sr ?_
 refine sx 1 ?_
 by_cases h0 : startE k p = 0
 refine sx 1 ?_
 refine sF (fun h => h h0) ?_
 refine kq [0, 1, 7, 15] ?_
 refine Run.false rfl ?_
 refine Run.skip ?_
 refine sr ?_
 refine sx 3 ?_
 refine obx rfl fun b20 => ?_
 refine sx 2 ?_
 refine kq [4, 5] ?_
 refine Run.ret ?_
 exact ret_out b20 (.tmp rfl (.tmp rfl .nil)) trivial (by simp only [if_pos h0, h0]; rfl) (by rw [if_pos h0]; exact gv)
 refine sx 1 ?_
 refine sT h0 ?_
 refine kq [0, 1, 7, 15] ?_
 refine Run.true rfl ?_
 refine rg 3 [4, 5] ?_
 refine Run.ret ?_
 exact ret_out 0 (.tmp rfl (.tmp rfl .nil)) trivial (by simp only [if_neg h0]; rfl) (by rw [if_neg h0]; exact gv)
theorem ac19n (b : Nat) (k p : Int) (oa : Option Addr) (cap : Nat) (ms : List Mv) (hG : SL.Good k p ms) (hn : ms.length ≤ 900) (hsz : ∀ m ∈ ms, (m.item.size : Int) ≤ 9223372036854775807 ∧ (m.lot.size : Int) ≤ 9223372036854775807) (s : Int) : AC Tryz.prog 19 ⟨[.pointer (some ⟨b, 0, none⟩), I s]⟩ (stars [pt b (blk [I k, I p, .slice oa ms.length cap] 52), own 35 8 oa ms.length cap (ms.flatMap Mv.c)]) (Ret (.tuple ⟨[.agg ⟨(costAt (csOf k p ms) s).1.c⟩, .bool (costAt (csOf k p ms) s).2]⟩) [pt b (blk [I k, I p, .slice oa ms.length cap] 52), own 35 8 oa ms.length cap (ms.flatMap Mv.c)]) := by
 obtain ⟨t0, cs0, hrep⟩ := hG.rep
 have hcl := runM_len hrep
 rw [ordM_len] at hcl
 have hfc := find_cost hG.fine hrep s
 refine eo Tryz.func19 fun β => ?_
 refine sr ?_
 refine oal fun b4 => ?_
 refine sx 1 ?_
 refine kq [0, 1, 4] ?_
 refine Run.seq ?_
 refine rg 2 [0, 1, 4, 10] ?_
 refine Run.false rfl ?_
 refine Run.skip ?_
 refine Run.seq ?_
 refine regionD HM ?_
 refine RunD.mono (K' := fun E' L' => ∃ l1 : Option Addr, ∃ lc1 : Nat, ∃ p1 : Option Addr, ∃ pc1 : Nat, ∃ ca : Option Addr, ∃ cc : Nat, ∃ b4 : Nat, E' = [(1, I s), (4, .pointer (some ⟨b4, 0, none⟩)), (7, .slice ca cs0.length cc)] ∧ L' = [pt b4 (blk [I 0, I 0, I 0, I 0] 32), own 96 4 l1 t0.layers.length lc1 (t0.layers.flatMap Ly.c), own 98 7 p1 t0.past.length pc1 (t0.past.flatMap Pa.c), own 32 4 ca cs0.length cc (cs0.flatMap Co.c), pt b (blk [I k, I p, .slice oa ms.length cap] 52), own 35 8 oa ms.length cap (ms.flatMap Mv.c)]) ?_ ?_
 refine dx [0, 1, 2, 3, 4, 5, 6, 7, 8, 9, 10, 11] ?_
 refine RunD.two 12 17 [false, false, false, true, false, false, false, true, false, false, false, true] [true, true, true, true, true, true, true, true, true, true, true, true] rfl rfl rfl rfl rfl rfl kr kr kr (OpJ.callOuts nC42 rfl rfl (runG k p t0 cs0 (own 35 8 oa ms.length cap (ms.flatMap Mv.c)) oa cap ms own.rds hG.fine (by omega) hsz hrep) tks fun ⟨l1, lc1, p1, pc1, ca, cc⟩ _ => ⟨po, ?_⟩) (OpJ.alloc nZ61 fun b6 => ⟨po, ?_⟩)
 refine dx [13, 14, 15, 16] ?_
 refine RunD.op 17 [true, true, true, true, true, true, true] rfl rfl rfl kr kr (OpJ.alloc nZ61 fun b6 => ⟨po, ?_⟩)
 refine dsw 18 [true, true, false, false, false, false, false] ?_
 refine dx [19, 20] ?_
 exact dwk ⟨_, _, _, _, _, _, _, rfl, rfl⟩ rfl gv
 refine RunD.op 12 [false, false, false, true, false, false, false, true, false, false, false, true] rfl rfl rfl kr kr (OpJ.callOuts nC42 rfl rfl (runG k p t0 cs0 (own 35 8 oa ms.length cap (ms.flatMap Mv.c)) oa cap ms own.rds hG.fine (by omega) hsz hrep) tks fun ⟨l1, lc1, p1, pc1, ca, cc⟩ _ => ⟨po, ?_⟩)
 refine dx [13, 14, 15, 16] ?_
 refine dsw 18 [true, true, false, false, false, false, false] ?_
 refine dx [19, 20] ?_
 exact dwk ⟨_, _, _, _, _, _, _, rfl, rfl⟩ rfl gv
 rintro _ _ ⟨l1, lc1, p1, pc1, ca, cc, b4, rfl, rfl⟩
 refine sr ?_
 refine sx 2 ?_
 refine RunL.call nC43 rfl rfl rfl (ac43n (own 32 4 ca cs0.length cc (cs0.flatMap Co.c)) ca cc cs0 s own.rds (by omega)) tks ?_
 refine sx 4 ?_
 refine kq [4, 5] ?_
 refine Run.ret ?_
 exact ret_one (.cellA nT32 rfl pk (by rfl) (.tmp rfl .nil)) (by rw [hfc.1, hfc.2]; rfl) gv
theorem ac26n (b : Nat) (k p : Int) (oa : Option Addr) (cap : Nat) (ms : List Mv) (hG : SL.Good k p ms) (hn : ms.length ≤ 900) (hsz : ∀ m ∈ ms, (m.item.size : Int) ≤ 9223372036854775807 ∧ (m.lot.size : Int) ≤ 9223372036854775807) : AC Tryz.prog 26 ⟨[.pointer (some ⟨b, 0, none⟩)]⟩ (stars [pt b (blk [I k, I p, .slice oa ms.length cap] 52), own 35 8 oa ms.length cap (ms.flatMap Mv.c)]) (Outs (fun _ : Option Addr × Nat × Option Addr × Nat => True) (fun x => .agg ⟨(skOf k p ms).c x.1 x.2.1 x.2.2.1 x.2.2.2⟩) (fun x => [own 96 4 x.1 (skOf k p ms).layers.length x.2.1 ((skOf k p ms).layers.flatMap Ly.c), own 98 7 x.2.2.1 (skOf k p ms).past.length x.2.2.2 ((skOf k p ms).past.flatMap Pa.c), pt b (blk [I k, I p, .slice oa ms.length cap] 52), own 35 8 oa ms.length cap (ms.flatMap Mv.c)])) := by
 obtain ⟨t0, cs0, hrep⟩ := hG.rep
 have hcl := runM_len hrep
 rw [ordM_len] at hcl
 rw [skOf_ok hrep]
 refine eo Tryz.func26 fun β => ?_
 refine sr ?_
 refine oal fun b2 => ?_
 refine kq [0, 2] ?_
 refine Run.seq ?_
 refine rg 2 [0, 2, 7] ?_
 refine Run.false rfl ?_
 refine Run.skip ?_
 refine Run.seq ?_
 refine regionD HM ?_
 refine RunD.mono (K' := fun E' L' => ∃ l1 : Option Addr, ∃ lc1 : Nat, ∃ p1 : Option Addr, ∃ pc1 : Nat, ∃ ca : Option Addr, ∃ cc : Nat, ∃ b2 : Nat, ∃ b3 : Nat, E' = [(2, .pointer (some ⟨b2, 0, none⟩)), (3, .pointer (some ⟨b3, 0, none⟩))] ∧ L' = [pt b2 (blk [I 0, I 0, I 0, .slice none 0 0, .slice none 0 0] 61), pt b3 (blk (t0.c l1 lc1 p1 pc1) 61), own 96 4 l1 t0.layers.length lc1 (t0.layers.flatMap Ly.c), own 98 7 p1 t0.past.length pc1 (t0.past.flatMap Pa.c), own 32 4 ca cs0.length cc (cs0.flatMap Co.c), pt b (blk [I k, I p, .slice oa ms.length cap] 52), own 35 8 oa ms.length cap (ms.flatMap Mv.c)]) ?_ ?_
 refine dx [0, 1, 2, 3, 4, 5, 6, 7, 8, 9, 10, 11] ?_
 refine RunD.two 12 17 [false, false, false, true, false, false, false, true, false, false, false, true] [true, true, true, true, true, true, true, true, true, true, true, true] rfl rfl rfl rfl rfl rfl kr kr kr (OpJ.callOuts nC42 rfl rfl (runG k p t0 cs0 (own 35 8 oa ms.length cap (ms.flatMap Mv.c)) oa cap ms own.rds hG.fine (by omega) hsz hrep) tks fun ⟨l1, lc1, p1, pc1, ca, cc⟩ _ => ⟨po, ?_⟩) (OpJ.alloc nZ61 fun b3 => ⟨po, ?_⟩)
 refine dx [13, 14, 15, 16] ?_
 refine RunD.op 17 [true, true, true, true, true, true, true] rfl rfl rfl kr kr (OpJ.alloc nZ61 fun b3 => ⟨po, ?_⟩)
 refine dsw 18 [true, true, false, false, false, false, false] ?_
 refine dx [19, 20] ?_
 exact dwk ⟨_, _, _, _, _, _, _, _, rfl, rfl⟩ rfl gv
 refine RunD.op 12 [false, false, false, true, false, false, false, true, false, false, false, true] rfl rfl rfl kr kr (OpJ.callOuts nC42 rfl rfl (runG k p t0 cs0 (own 35 8 oa ms.length cap (ms.flatMap Mv.c)) oa cap ms own.rds hG.fine (by omega) hsz hrep) tks fun ⟨l1, lc1, p1, pc1, ca, cc⟩ _ => ⟨po, ?_⟩)
 refine dx [13, 14, 15, 16] ?_
 refine dsw 18 [true, true, false, false, false, false, false] ?_
 refine dx [19, 20] ?_
 exact dwk ⟨_, _, _, _, _, _, _, _, rfl, rfl⟩ rfl gv
 rintro _ _ ⟨l1, lc1, p1, pc1, ca, cc, b2, b3, rfl, rfl⟩
 refine rg 2 [2] ?_
 exact .ret (ret_out (l1, lc1, p1, pc1) (.cellA nT61 rfl pk (by rfl) .nil) trivial rfl gv)
theorem ac21n (b : Nat) (k p : Int) (oa : Option Addr) (cap : Nat) (ms : List Mv) (hG : SL.Good k p ms) (hn : ms.length ≤ 900) (hsz : ∀ m ∈ ms, (m.item.size : Int) ≤ 9223372036854775807 ∧ (m.lot.size : Int) ≤ 9223372036854775807) (day : Int) : AC Tryz.prog 21 ⟨[.pointer (some ⟨b, 0, none⟩), I day]⟩ (stars [pt b (blk [I k, I p, .slice oa ms.length cap] 52), own 35 8 oa ms.length cap (ms.flatMap Mv.c)]) (Ret (.tuple ⟨[I (atW Co.qty day (ms.zip (csOf k p ms))), I (atW Co.value day (ms.zip (csOf k p ms)))]⟩) [pt b (blk [I k, I p, .slice oa ms.length cap] 52), own 35 8 oa ms.length cap (ms.flatMap Mv.c)]) := by
 obtain ⟨t0, cs0, hrep⟩ := hG.rep
 have hcl := runM_len hrep
 rw [ordM_len] at hcl
 have hcsl := csOf_len hrep
 refine eo Tryz.func21 fun β => ?_
 refine rg 2 [0, 1] ?_
 refine Run.seq ?_
 refine rg 2 [0, 1, 15] ?_
 refine Run.false rfl ?_
 refine Run.skip ?_
 refine Run.seq ?_
 refine regionD HM ?_
 refine RunD.mono (K' := fun E' L' => ∃ ca : Option Addr, ∃ cc : Nat, E' = [(0, .pointer (some ⟨b, 0, none⟩)), (1, I day), (7, .slice ca cs0.length cc)] ∧ L' = [own 32 4 ca cs0.length cc (cs0.flatMap Co.c), pt b (blk [I k, I p, .slice oa ms.length cap] 52), own 35 8 oa ms.length cap (ms.flatMap Mv.c)]) ?_ ?_
 refine dx [0, 1, 2, 3, 4, 5, 6, 7, 8, 9, 10, 11] ?_
 refine RunD.two 12 17 [false, false, false, true, false, false, false, true, false, false, false, true] [true, true, true, true, true, true, true, true, true, true, true, true] rfl rfl rfl rfl rfl rfl kr kr kr (OpJ.callOuts nC42 rfl rfl (runG k p t0 cs0 (own 35 8 oa ms.length cap (ms.flatMap Mv.c)) oa cap ms own.rds hG.fine (by omega) hsz hrep) tks fun ⟨l1, lc1, p1, pc1, ca, cc⟩ _ => ⟨po, ?_⟩) (OpJ.alloc nZ61 fun b6 => ⟨po, ?_⟩)
 refine dx [13, 14, 15, 16] ?_
 refine RunD.op 17 [true, true, true, true, true, true, true] rfl rfl rfl kr kr (OpJ.alloc nZ61 fun b6 => ⟨po, ?_⟩)
 refine dsw 18 [true, true, false, false, false, false, false] ?_
 refine dx [19, 20] ?_
 exact dwk ⟨_, _, rfl, rfl⟩ rfl gv
 refine RunD.op 12 [false, false, false, true, false, false, false, true, false, false, false, true] rfl rfl rfl kr kr (OpJ.callOuts nC42 rfl rfl (runG k p t0 cs0 (own 35 8 oa ms.length cap (ms.flatMap Mv.c)) oa cap ms own.rds hG.fine (by omega) hsz hrep) tks fun ⟨l1, lc1, p1, pc1, ca, cc⟩ _ => ⟨po, ?_⟩)
 refine dx [13, 14, 15, 16] ?_
 refine dsw 18 [true, true, false, false, false, false, false] ?_
 refine dx [19, 20] ?_
 exact dwk ⟨_, _, rfl, rfl⟩ rfl gv
 rintro _ _ ⟨ca, cc, rfl, rfl⟩
 refine rg 2 [0, 1, 7, 9, 10] ?_
 refine Run.seq ?_
 refine rg 1 [0, 1, 7, 9, 10, 11] ?_
 refine Run.block ?_
 refine Run.weak (L' := [own 32 4 ca cs0.length cc (cs0.flatMap Co.c), pt b (blk [I k, I p, .slice oa ms.length cap] 52), own 35 8 oa ms.length cap (ms.flatMap Mv.c)]) (fun _ _ h => h) gv ?_
 refine Run.loop (fun mm E L => ∃ (i : Nat) (ca : Option Addr), mm = ms.length - i ∧ i ≤ ms.length ∧ E = [(0, .pointer (some ⟨b, 0, none⟩)), (1, I day), (7, .slice ca cs0.length cc), (9, I (atW Co.qty day ((ms.zip (csOf k p ms)).take i))), (10, I (atW Co.value day ((ms.zip (csOf k p ms)).take i))), (11, I i)] ∧ L = [own 32 4 ca cs0.length cc (cs0.flatMap Co.c), pt b (blk [I k, I p, .slice oa ms.length cap] 52), own 35 8 oa ms.length cap (ms.flatMap Mv.c)]) ⟨_, 0, ca, rfl, Nat.zero_le _, rfl, rfl⟩ ?_
 rintro _ _ _ ⟨i, ca, rfl, hi, rfl, rfl⟩
 refine Run.seq ?_
 refine rg 7 [0, 1, 7, 9, 10, 11, 39] ?_
 refine cnd rfl (fun h1 => ?_) fun h1 => ?_
 refine Run.skip ?_
 refine Run.seq ?_
 refine Run.block ?_
 refine sr ?_
 obtain ⟨x, hx⟩ := get_ex (xs := ms) (i := i) (by omega)
 obtain ⟨c, hc, hf1, hf2, _⟩ := find_q hG.fine hrep hx
 rw [← seq_of2 hG.fine hx] at hf1 hf2
 have hz := zip_get2 hx hc
 refine RunL.ownAddr (T := 35) (k := 8) (oa := oa) (m := ms.length) (cap := cap) (cs := ms.flatMap Mv.c) pk (flat_ne (k := 8) (fun _ => rfl) (by decide) hx) fun bm e hcm => ?_
 subst e
 refine sx 10 ?_
 refine kq [0, 1, 7, 9, 10, 11, 51] ?_
 refine cnd rfl (fun h2 => ?_) fun h2 => ?_
 refine sr ?_
 refine sx 9 ?_
 refine RunL.call nC43 rfl rfl rfl (ac43n (own 32 4 ca cs0.length cc (cs0.flatMap Co.c)) ca cc cs0 x.seq own.rds (by omega)) tks ?_
 rw [hf1, hf2]
 refine sx 3 ?_
 refine oal fun b12 => ?_
 refine sx 2 ?_
 refine kq [0, 1, 7, 9, 10, 11, 12] ?_
 refine sr ?_
 refine sx 3 ?_
 refine RunL.op rfl rfl (OpJ.add rfl rfl ?_)
 refine sx 1 ?_
 refine kq [0, 1, 7, 9, 10, 11, 12] ?_
 refine Run.region ?_
 refine sx 3 ?_
 refine RunL.op rfl rfl (OpJ.add rfl rfl ?_)
 refine sx 1 ?_
 refine kq [0, 1, 7, 9, 10, 11] ?_
 refine Run.region ?_
 refine sx 3 ?_
 have e1 := atW_in (f := Co.qty) (day := day) hz (by assumption)
 have e2 := atW_in (f := Co.value) (day := day) hz (by assumption)
 rw [← e1, ← e2]
 exact RunL.next (Keep.sub (kt (ks := [0, 1, 7, 9, 10, 11]) rfl)) _ ⟨_, by omega, i + 1, _, rfl, by omega, rfl, rfl⟩ gv
 refine Run.skip ?_
 refine Run.region ?_
 refine sx 3 ?_
 have e1 := atW_out (f := Co.qty) (day := day) hz (by assumption)
 have e2 := atW_out (f := Co.value) (day := day) hz (by assumption)
 rw [← e1, ← e2]
 exact RunL.next (Keep.sub (kt (ks := [0, 1, 7, 9, 10, 11]) rfl)) _ ⟨_, by omega, i + 1, _, rfl, by omega, rfl, rfl⟩ gv
 refine Run.exit ?_
 refine rg 4 [4, 5] ?_
 refine Run.ret ?_
 have hfin : (ms.zip (csOf k p ms)).take i = (ms.zip (csOf k p ms)) := List.take_of_length_le (by rw [List.length_zip]; omega); rw [hfin]; exact ret_one (.tmp rfl (.tmp rfl .nil)) rfl gv
theorem ac17r (b : Nat) (k p : Int) (oa : Option Addr) (cap : Nat) (ms : List Mv) (hG : SL.Good k p ms) (hn : ms.length ≤ 900) (hsz : ∀ m ∈ ms, (m.item.size : Int) ≤ 9223372036854775807 ∧ (m.lot.size : Int) ≤ 9223372036854775807) (m : Mv) (hmz : (m.item.size : Int) ≤ 9223372036854775807 ∧ (m.lot.size : Int) ≤ 9223372036854775807) : AC Tryz.prog 17 ⟨[.pointer (some ⟨b, 0, none⟩), .agg ⟨m.c⟩]⟩ (stars [pt b (blk [I k, I p, .slice oa ms.length cap] 52), own 35 8 oa ms.length cap (ms.flatMap Mv.c)]) (Outs (fun _ : Option Addr × Nat × Option Addr × Nat => True) (fun x => .tuple ⟨[.agg ⟨(addC k p ms m).c⟩, .slice x.2.2.1 (addD k p ms m).length x.2.2.2, I (addErr k p ms m)]⟩) (fun x => [pt b (blk [I k, I p, .slice x.1 (addMs k p ms m).length x.2.1] 52), own 35 8 x.1 (addMs k p ms m).length x.2.1 ((addMs k p ms m).flatMap Mv.c), own 41 3 x.2.2.1 (addD k p ms m).length x.2.2.2 ((addD k p ms m).flatMap Aj.c)])) := by
 obtain ⟨t0, cs0, hrep⟩ := hG.rep
 have hcl := runM_len hrep
 rw [ordM_len] at hcl
 have hcsl := csOf_len hrep
 have hll : ([] ++ ms).length ≤ 900 := hn
 have hszb : ∀ y ∈ (ms ++ [m]), (y.item.size : Int) ≤ 9223372036854775807 ∧ (y.lot.size : Int) ≤ 9223372036854775807 := fun y hy => by rcases List.mem_append.1 hy with h | h; exact hsz y h; rw [List.mem_singleton.1 h]; exact hmz
 have hnl : (ms ++ [m]).length ≤ 901 := by rw [List.length_append, List.length_singleton]; omega
 refine eo Tryz.func17 fun β => ?_
 refine sr ?_
 refine obx rfl fun b3 => ?_
 refine oal fun b4 => ?_
 refine sx 2 ?_
 refine kq [0, 3, 4] ?_
 refine Run.seq ?_
 refine rg 2 [0, 3, 4, 25] ?_
 refine Run.false rfl ?_
 refine Run.skip ?_
 refine Run.seq ?_
 refine regionD HM ?_
 refine RunD.mono (K' := fun E' L' => ∃ a35 : Option Addr, ∃ c35 : Nat, ∃ b3 : Nat, ∃ b4 : Nat, E' = [(0, .pointer (some ⟨b, 0, none⟩)), (3, .pointer (some ⟨b3, 0, none⟩)), (4, .pointer (some ⟨b4, 0, none⟩)), (7, .slice a35 (ms ++ [m]).length c35)] ∧ L' = [pt b3 (blk m.c 35), pt b4 (blk Co0.c 32), own 35 8 a35 (ms ++ [m]).length c35 ((ms ++ [m]).flatMap Mv.c), pt b (blk [I k, I p, .slice oa ms.length cap] 52), own 35 8 oa ms.length cap (ms.flatMap Mv.c)]) ?_ ?_
 refine dx [1, 2, 3, 4, 6] ?_
 refine RunD.two 0 7 [true, true, true, true, true] [false, true, true, true, true] rfl rfl rfl rfl rfl rfl kr kr kr (OpJ.buildSlice0 nS24 fun b27 => ⟨po, ?_⟩) (OpJ.buildSlice1 nS24 rfl rfl rfl (by decide) (by decide) nZ35 rfl fun b34 => ⟨po, ?_⟩)
 refine RunD.two 5 7 [true, false, false, false, true] [false, true, true, true, true] rfl rfl rfl rfl rfl rfl kr kr kr (OpJ.appendL (R := own 35 8 oa ms.length cap (ms.flatMap Mv.c)) ([] : List Mv) ms nS24 nM35 rfl rfl pk pk own.rds rfl (fun _ => rfl) (by decide) mv1 (by simp; omega) (by simp; omega) fun a32 c32 => ⟨po, ?_⟩) (OpJ.buildSlice1 nS24 rfl rfl rfl (by decide) (by decide) nZ35 rfl fun b34 => ⟨po, ?_⟩)
 refine RunD.op 7 [false, true] rfl rfl rfl kr kr (OpJ.buildSlice1 nS24 rfl rfl rfl (by decide) (by decide) nZ35 rfl fun b34 => ⟨po, ?_⟩)
 refine RunD.op 8 [true] rfl rfl rfl kr kr (OpJ.append1 (m : Mv) nS24 nM35 rfl rfl pk pk rfl rfl (by simp [Value.oneCell', Pa.c, Ly.c, Mv.c, Co.c, Aj.c, Ks.c, Iv]) rfl (by omega) (by omega) fun a35 c35 => ⟨po, ?_⟩)
 refine dx [9] ?_
 exact dwk ⟨_, _, _, _, rfl, rfl⟩ rfl gv
 refine RunD.op 5 [false, false, false, true] rfl rfl rfl kr kr (OpJ.appendL (R := own 35 8 oa ms.length cap (ms.flatMap Mv.c)) ([] : List Mv) ms nS24 nM35 rfl rfl pk pk own.rds rfl (fun _ => rfl) (by decide) mv1 (by simp; omega) (by simp; omega) fun a32 c32 => ⟨po, ?_⟩)
 refine RunD.op 8 [true] rfl rfl rfl kr kr (OpJ.append1 (m : Mv) nS24 nM35 rfl rfl pk pk rfl rfl (by simp [Value.oneCell', Pa.c, Ly.c, Mv.c, Co.c, Aj.c, Ks.c, Iv]) rfl (by omega) (by omega) fun a35 c35 => ⟨po, ?_⟩)
 refine dx [9] ?_
 exact dwk ⟨_, _, _, _, rfl, rfl⟩ rfl gv
 refine RunD.op 0 [true, true, true, true] rfl rfl rfl kr kr (OpJ.buildSlice0 nS24 fun b27 => ⟨po, ?_⟩)
 refine RunD.op 5 [false, false, false, true] rfl rfl rfl kr kr (OpJ.appendL (R := own 35 8 oa ms.length cap (ms.flatMap Mv.c)) ([] : List Mv) ms nS24 nM35 rfl rfl pk pk own.rds rfl (fun _ => rfl) (by decide) mv1 (by simp; omega) (by simp; omega) fun a32 c32 => ⟨po, ?_⟩)
 refine RunD.op 8 [true] rfl rfl rfl kr kr (OpJ.append1 (m : Mv) nS24 nM35 rfl rfl pk pk rfl rfl (by simp [Value.oneCell', Pa.c, Ly.c, Mv.c, Co.c, Aj.c, Ks.c, Iv]) rfl (by omega) (by omega) fun a35 c35 => ⟨po, ?_⟩)
 refine dx [9] ?_
 exact dwk ⟨_, _, _, _, rfl, rfl⟩ rfl gv
 rintro _ _ ⟨a35, c35, b3, b4, rfl, rfl⟩
 refine Run.seq ?_
 refine sr ?_
 refine RunL.ownCap (T := 35) (k := 8) (oa := a35) (m := (ms ++ [m]).length) (cap := c35) (cs := (ms ++ [m]).flatMap Mv.c) pk fun hcapb => ?_
 refine sx 1 ?_
 refine RunL.callX nC41 rfl rfl rfl (ac41n (own 35 8 a35 (ms ++ [m]).length c35 ((ms ++ [m]).flatMap Mv.c)) a35 c35 (ms ++ [m]) own.rds (by omega) hcapb hszb) tks fun at_ _ => ?_
 refine sx 5 ?_
 refine kq [0, 3, 4, 7, 9] ?_
 refine sr ?_
 refine sx 1 ?_
 by_cases hchk : chkE (ms ++ [m]) = 0
 have hf2 := (chkM_none.1 (chkE_none.1 hchk)).2
 refine sx 1 ?_
 refine sF (fun h => h hchk) ?_
 rcases hr2 : repM k p (ms ++ [m]) with ⟨ie, e⟩ | ⟨t1, cs1⟩
 refine kq [0, 3, 4, 7, 9, 42] ?_
 refine Run.false rfl ?_
 refine Run.skip ?_
 refine Run.seq ?_
 refine regionD HM ?_
 refine RunD.mono (K' := fun E' L' => E' = [(0, .pointer (some ⟨b, 0, none⟩)), (3, .pointer (some ⟨b3, 0, none⟩)), (4, .pointer (some ⟨b4, 0, none⟩)), (7, .slice a35 (ms ++ [m]).length c35), (11, .slice none 0 0), (12, I e)] ∧ L' = [pt b3 (blk m.c 35), pt b4 (blk Co0.c 32), own 35 8 a35 (ms ++ [m]).length c35 ((ms ++ [m]).flatMap Mv.c), pt b (blk [I k, I p, .slice oa ms.length cap] 52), own 35 8 oa ms.length cap (ms.flatMap Mv.c)]) ?_ ?_
 refine dx [0, 1, 2, 3, 4, 5, 6, 7, 8] ?_
 refine RunD.two 9 14 [false, false, false, false, true, false, false, false, true] [true, true, true, true, true, true, true, true, true] rfl rfl rfl rfl rfl rfl kr kr kr (OpJ.callOuts nC42 rfl rfl (runE k p ie e (own 35 8 a35 (ms ++ [m]).length c35 ((ms ++ [m]).flatMap Mv.c)) a35 c35 (ms ++ [m]) own.rds hf2 (by omega) hszb hr2) tks fun _ _ => ⟨po, ?_⟩) (OpJ.alloc nZ61 fun b10 => ⟨po, ?_⟩)
 refine dx [10, 11, 12, 13] ?_
 refine RunD.op 14 [true, true, true, true, true, true] rfl rfl rfl kr kr (OpJ.alloc nZ61 fun b10 => ⟨po, ?_⟩)
 refine dsw 15 [true, true, false, false, false, false] ?_
 refine dx [16, 17] ?_
 exact dwk ⟨rfl, rfl⟩ rfl gv
 refine RunD.op 9 [false, false, false, false, true, false, false, false, true] rfl rfl rfl kr kr (OpJ.callOuts nC42 rfl rfl (runE k p ie e (own 35 8 a35 (ms ++ [m]).length c35 ((ms ++ [m]).flatMap Mv.c)) a35 c35 (ms ++ [m]) own.rds hf2 (by omega) hszb hr2) tks fun _ _ => ⟨po, ?_⟩)
 refine dx [10, 11, 12, 13] ?_
 refine dsw 15 [true, true, false, false, false, false] ?_
 refine dx [16, 17] ?_
 exact dwk ⟨rfl, rfl⟩ rfl gv
 rintro _ _ ⟨rfl, rfl⟩
 refine Run.seq ?_
 refine sr ?_
 refine sx 2 ?_
 refine sT (runM_err hr2) ?_
 refine kq [0, 3, 4, 7, 11, 12, 60] ?_
 refine Run.true rfl ?_
 refine sr ?_
 refine RunL.ownNil 41 3 ?_
 refine sx 5 ?_
 refine kq [4, 5, 6] ?_
 refine Run.ret ?_
 have he := addErr_rep hchk hr2; have hne : addErr k p ms m ≠ 0 := (by rw [he]; exact runM_err hr2); refine ret_out (oa, cap, none, 0) (.cellA nT32 rfl pk (by rfl) (.tmp rfl (.tmp rfl .nil))) trivial (by rw [addC_n hne, addD_n hne, he]; rfl) ?_; rw [addMs_n hne, addD_n hne]; exact gv
 have hcl1 := runM_len hr2
 rw [ordM_len] at hcl1
 refine kq [0, 3, 4, 7, 9, 42] ?_
 refine Run.false rfl ?_
 refine Run.skip ?_
 refine Run.seq ?_
 refine regionD HM ?_
 refine RunD.mono (K' := fun E' L' => ∃ ca : Option Addr, ∃ cc : Nat, E' = [(0, .pointer (some ⟨b, 0, none⟩)), (3, .pointer (some ⟨b3, 0, none⟩)), (4, .pointer (some ⟨b4, 0, none⟩)), (7, .slice a35 (ms ++ [m]).length c35), (11, .slice ca cs1.length cc), (12, I 0)] ∧ L' = [own 32 4 ca cs1.length cc (cs1.flatMap Co.c), pt b3 (blk m.c 35), pt b4 (blk Co0.c 32), own 35 8 a35 (ms ++ [m]).length c35 ((ms ++ [m]).flatMap Mv.c), pt b (blk [I k, I p, .slice oa ms.length cap] 52), own 35 8 oa ms.length cap (ms.flatMap Mv.c)]) ?_ ?_
 refine dx [0, 1, 2, 3, 4, 5, 6, 7, 8] ?_
 refine RunD.two 9 14 [false, false, false, false, true, false, false, false, true] [true, true, true, true, true, true, true, true, true] rfl rfl rfl rfl rfl rfl kr kr kr (OpJ.callOuts nC42 rfl rfl (runG k p t1 cs1 (own 35 8 a35 (ms ++ [m]).length c35 ((ms ++ [m]).flatMap Mv.c)) a35 c35 (ms ++ [m]) own.rds hf2 (by omega) hszb hr2) tks fun ⟨l1, lc1, p1, pc1, ca, cc⟩ _ => ⟨po, ?_⟩) (OpJ.alloc nZ61 fun b10 => ⟨po, ?_⟩)
 refine dx [10, 11, 12, 13] ?_
 refine RunD.op 14 [true, true, true, true, true, true] rfl rfl rfl kr kr (OpJ.alloc nZ61 fun b10 => ⟨po, ?_⟩)
 refine dsw 15 [true, true, false, false, false, false] ?_
 refine dx [16, 17] ?_
 exact dwk ⟨_, _, rfl, rfl⟩ rfl gv
 refine RunD.op 9 [false, false, false, false, true, false, false, false, true] rfl rfl rfl kr kr (OpJ.callOuts nC42 rfl rfl (runG k p t1 cs1 (own 35 8 a35 (ms ++ [m]).length c35 ((ms ++ [m]).flatMap Mv.c)) a35 c35 (ms ++ [m]) own.rds hf2 (by omega) hszb hr2) tks fun ⟨l1, lc1, p1, pc1, ca, cc⟩ _ => ⟨po, ?_⟩)
 refine dx [10, 11, 12, 13] ?_
 refine dsw 15 [true, true, false, false, false, false] ?_
 refine dx [16, 17] ?_
 exact dwk ⟨_, _, rfl, rfl⟩ rfl gv
 rintro _ _ ⟨ca, cc, rfl, rfl⟩
 refine Run.seq ?_
 refine sr ?_
 refine sx 2 ?_
 refine sF (fun h => h rfl) ?_
 refine kq [0, 3, 4, 7, 11, 12, 60] ?_
 refine Run.false rfl ?_
 refine Run.skip ?_
 refine Run.seq ?_
 refine regionD HM ?_
 refine RunD.mono (K' := fun E' L' => ∃ ca2 : Option Addr, ∃ cc2 : Nat, E' = [(0, .pointer (some ⟨b, 0, none⟩)), (3, .pointer (some ⟨b3, 0, none⟩)), (4, .pointer (some ⟨b4, 0, none⟩)), (7, .slice a35 (ms ++ [m]).length c35), (11, .slice ca cs1.length cc), (14, .slice ca2 cs0.length cc2)] ∧ L' = [own 32 4 ca2 cs0.length cc2 (cs0.flatMap Co.c), own 32 4 ca cs1.length cc (cs1.flatMap Co.c), pt b3 (blk m.c 35), pt b4 (blk Co0.c 32), own 35 8 a35 (ms ++ [m]).length c35 ((ms ++ [m]).flatMap Mv.c), pt b (blk [I k, I p, .slice oa ms.length cap] 52), own 35 8 oa ms.length cap (ms.flatMap Mv.c)]) ?_ ?_
 refine dx [0, 1, 2, 3, 4, 5, 6, 7, 8, 9, 10, 11] ?_
 refine RunD.two 12 17 [false, false, false, true, false, false, false, true, false, false, false, true] [true, true, true, true, true, true, true, true, true, true, true, true] rfl rfl rfl rfl rfl rfl kr kr kr (OpJ.callOuts nC42 rfl rfl (runG k p t0 cs0 (own 35 8 oa ms.length cap (ms.flatMap Mv.c)) oa cap ms own.rds hG.fine (by omega) hsz hrep) tks fun ⟨l2, lc2, p2, pc2, ca2, cc2⟩ _ => ⟨po, ?_⟩) (OpJ.alloc nZ61 fun b13 => ⟨po, ?_⟩)
 refine dx [13, 14, 15, 16] ?_
 refine RunD.op 17 [true, true, true, true, true, true, true] rfl rfl rfl kr kr (OpJ.alloc nZ61 fun b13 => ⟨po, ?_⟩)
 refine dsw 18 [true, true, false, false, false, false, false] ?_
 refine dx [19, 20] ?_
 exact dwk ⟨_, _, rfl, rfl⟩ rfl gv
 refine RunD.op 12 [false, false, false, true, false, false, false, true, false, false, false, true] rfl rfl rfl kr kr (OpJ.callOuts nC42 rfl rfl (runG k p t0 cs0 (own 35 8 oa ms.length cap (ms.flatMap Mv.c)) oa cap ms own.rds hG.fine (by omega) hsz hrep) tks fun ⟨l2, lc2, p2, pc2, ca2, cc2⟩ _ => ⟨po, ?_⟩)
 refine dx [13, 14, 15, 16] ?_
 refine dsw 18 [true, true, false, false, false, false, false] ?_
 refine dx [19, 20] ?_
 exact dwk ⟨_, _, rfl, rfl⟩ rfl gv
 rintro _ _ ⟨ca2, cc2, rfl, rfl⟩
 refine rg 1 [0, 3, 4, 7, 11, 14, 16] ?_
 refine Run.seq ?_
 refine sr ?_
 refine RunL.ownNil 41 3 ?_
 refine sx 1 ?_
 refine kq [0, 3, 4, 7, 11, 14, 16, 17] ?_
 refine Run.block ?_
 refine Run.weak (L' := [own 41 3 none (difL ((csOf k p ms).take 0) (csOf k p (ms ++ [m]))).length 0 ((difL ((csOf k p ms).take 0) (csOf k p (ms ++ [m]))).flatMap Aj.c), own 32 4 ca2 cs0.length cc2 (cs0.flatMap Co.c), own 32 4 ca cs1.length cc (cs1.flatMap Co.c), pt b3 (blk m.c 35), pt b4 (blk Co0.c 32), own 35 8 a35 (ms ++ [m]).length c35 ((ms ++ [m]).flatMap Mv.c), pt b (blk [I k, I p, .slice oa ms.length cap] 52), own 35 8 oa ms.length cap (ms.flatMap Mv.c)]) (fun _ _ h => h) (by rw [show (difL ((csOf k p ms).take 0) (csOf k p (ms ++ [m]))) = [] from rfl]; exact gv) ?_
 refine Run.loop (fun mm E L => ∃ (n : Nat) (ja : Option Addr) (jc : Nat), mm = ms.length - n ∧ n ≤ ms.length ∧ E = [(0, .pointer (some ⟨b, 0, none⟩)), (3, .pointer (some ⟨b3, 0, none⟩)), (4, .pointer (some ⟨b4, 0, none⟩)), (7, .slice a35 (ms ++ [m]).length c35), (11, .slice ca cs1.length cc), (14, .slice ca2 cs0.length cc2), (16, .slice ja (difL ((csOf k p ms).take n) (csOf k p (ms ++ [m]))).length jc), (17, I ((n : Int) + 1))] ∧ L = [own 41 3 ja (difL ((csOf k p ms).take n) (csOf k p (ms ++ [m]))).length jc ((difL ((csOf k p ms).take n) (csOf k p (ms ++ [m]))).flatMap Aj.c), own 32 4 ca2 cs0.length cc2 (cs0.flatMap Co.c), own 32 4 ca cs1.length cc (cs1.flatMap Co.c), pt b3 (blk m.c 35), pt b4 (blk Co0.c 32), own 35 8 a35 (ms ++ [m]).length c35 ((ms ++ [m]).flatMap Mv.c), pt b (blk [I k, I p, .slice oa ms.length cap] 52), own 35 8 oa ms.length cap (ms.flatMap Mv.c)]) ⟨_, 0, none, 0, rfl, Nat.zero_le _, by rw [show (difL ((csOf k p ms).take 0) (csOf k p (ms ++ [m]))) = [] from rfl]; rfl, rfl⟩ ?_
 rintro _ _ _ ⟨n, ja, jc, rfl, hn2, rfl, rfl⟩
 refine Run.seq ?_
 refine rg 7 [0, 3, 4, 7, 11, 14, 16, 17, 86] ?_
 refine cnd rfl (fun h1 => ?_) fun h1 => ?_
 refine Run.skip ?_
 refine Run.seq ?_
 refine Run.block ?_
 refine sr ?_
 obtain ⟨y0, hy0⟩ := get_ex (xs := ms) (i := n) (by omega)
 have hy1 : (ms ++ [m])[n]? = some y0 := by rw [List.getElem?_append_left (by omega)]; exact hy0
 obtain ⟨c, hc, hc1, hc2, hcs⟩ := find_q hG.fine hrep hy0
 obtain ⟨d, hd, hd1, hd2, hds⟩ := find_q hf2 hr2 hy1
 have hdl := dif_len (cs := (csOf k p ms).take n) (ds := csOf k p (ms ++ [m]))
 rw [List.length_take] at hdl
 refine sx 2 ?_
 refine RunL.call nC43 rfl rfl rfl (ac43n (own 32 4 ca2 cs0.length cc2 (cs0.flatMap Co.c)) ca2 cc2 cs0 ((n : Int) + 1) own.rds (by omega)) tks ?_
 rw [hc1, hc2]
 refine sx 3 ?_
 refine oal fun b18 => ?_
 refine sx 2 ?_
 refine kq [0, 3, 4, 7, 11, 14, 16, 17, 18] ?_
 refine sr ?_
 refine sx 2 ?_
 refine RunL.call nC43 rfl rfl rfl (ac43n (own 32 4 ca cs1.length cc (cs1.flatMap Co.c)) ca cc cs1 ((n : Int) + 1) own.rds (by omega)) tks ?_
 rw [hd1, hd2]
 refine sx 3 ?_
 refine oal fun b20 => ?_
 refine sx 2 ?_
 refine kq [0, 3, 4, 7, 11, 14, 16, 17, 18, 20] ?_
 refine sr ?_
 refine sx 5 ?_
 by_cases hv : c.value ≠ d.value
 refine sT hv ?_
 refine sx 7 ?_
 refine kq [0, 3, 4, 7, 11, 14, 16, 17, 18, 20, 112] ?_
 refine Run.true rfl ?_
 refine Run.region ?_
 refine sx 6 ?_
 refine RunL.op rfl rfl (OpJ.sub rfl rfl ?_)
 refine sx 4 ?_
 refine RunL.op rfl rfl (OpJ.sub rfl rfl ?_)
 refine sx 1 ?_
 refine RunL.op rfl rfl (OpJ.buildSlice1 nS37 rfl rfl rfl (by decide) (by decide) nZ41 rfl fun b126 => ?_)
 refine RunL.op rfl rfl (OpJ.append1 (⟨(n : Int) + 1, IntKind.i64.wrap (d.value - c.value), IntKind.i64.wrap (d.var - c.var)⟩ : Aj) nS37 nM41 rfl rfl pk pk rfl rfl (by simp [Value.oneCell', Pa.c, Ly.c, Mv.c, Co.c, Aj.c, Ks.c, Iv]) rfl (by omega) (by omega) fun a127 c127 => ?_)
 refine sx 1 ?_
 refine kq [0, 3, 4, 7, 11, 14, 16, 17] ?_
 refine Run.region ?_
 refine sx 3 ?_
 have hdt := dif_take hc hd
 rw [difOne_yes (by omega), hcs] at hdt
 rw [← hdt]
 exact RunL.next (Keep.sub (kt (ks := [0, 3, 4, 7, 11, 14, 16, 17]) rfl)) _ ⟨_, by omega, n + 1, _, _, rfl, by omega, rfl, rfl⟩ gv
 refine sF hv ?_
 refine sx 6 ?_
 by_cases hw : c.var ≠ d.var
 refine sT hw ?_
 refine sx 1 ?_
 refine kq [0, 3, 4, 7, 11, 14, 16, 17, 18, 20, 112] ?_
 refine Run.true rfl ?_
 refine Run.region ?_
 refine sx 6 ?_
 refine RunL.op rfl rfl (OpJ.sub rfl rfl ?_)
 refine sx 4 ?_
 refine RunL.op rfl rfl (OpJ.sub rfl rfl ?_)
 refine sx 1 ?_
 refine RunL.op rfl rfl (OpJ.buildSlice1 nS37 rfl rfl rfl (by decide) (by decide) nZ41 rfl fun b126 => ?_)
 refine RunL.op rfl rfl (OpJ.append1 (⟨(n : Int) + 1, IntKind.i64.wrap (d.value - c.value), IntKind.i64.wrap (d.var - c.var)⟩ : Aj) nS37 nM41 rfl rfl pk pk rfl rfl (by simp [Value.oneCell', Pa.c, Ly.c, Mv.c, Co.c, Aj.c, Ks.c, Iv]) rfl (by omega) (by omega) fun a127 c127 => ?_)
 refine sx 1 ?_
 refine kq [0, 3, 4, 7, 11, 14, 16, 17] ?_
 refine Run.region ?_
 refine sx 3 ?_
 have hdt := dif_take hc hd
 rw [difOne_yes (by omega), hcs] at hdt
 rw [← hdt]
 exact RunL.next (Keep.sub (kt (ks := [0, 3, 4, 7, 11, 14, 16, 17]) rfl)) _ ⟨_, by omega, n + 1, _, _, rfl, by omega, rfl, rfl⟩ gv
 refine sF hw ?_
 refine sx 1 ?_
 refine kq [0, 3, 4, 7, 11, 14, 16, 17, 18, 20, 112] ?_
 refine Run.false rfl ?_
 refine Run.skip ?_
 refine Run.region ?_
 refine sx 3 ?_
 have hdt := dif_take hc hd
 rw [difOne_no (by omega), List.append_nil] at hdt
 rw [← hdt]
 exact RunL.next (Keep.sub (kt (ks := [0, 3, 4, 7, 11, 14, 16, 17]) rfl)) _ ⟨_, by omega, n + 1, _, _, rfl, by omega, rfl, rfl⟩ gv
 refine Run.exit ?_
 refine rg 5 [3, 4, 11, 16] ?_
 refine sr ?_
 refine sx 3 ?_
 refine RunL.call nC43 rfl rfl rfl (ac43n (own 32 4 ca cs1.length cc (cs1.flatMap Co.c)) ca cc cs1 m.seq own.rds (by omega)) tks ?_
 rw [find_last hchk hr2]
 refine sx 3 ?_
 refine oal fun b22 => ?_
 refine sx 2 ?_
 refine kq [4, 16, 22] ?_
 refine rg 5 [4, 5, 6] ?_
 refine Run.ret ?_
 have he := addErr_0 hchk hr2; have hdn : (difL ((csOf k p ms).take n) (csOf k p (ms ++ [m]))) = addD k p ms m := (by rw [addD_y he, List.take_of_length_le (by omega)]); rw [hdn]; refine ret_out (a35, c35, ja, jc) (.cellA nT32 rfl pk (by rfl) (.tmp rfl (.tmp rfl .nil))) trivial (by rw [he]; rfl) ?_; rw [addMs_y he]; exact gv
 refine sx 1 ?_
 refine sT hchk ?_
 refine kq [0, 3, 4, 7, 9, 42] ?_
 refine Run.true rfl ?_
 refine sr ?_
 refine RunL.ownNil 41 3 ?_
 refine sx 5 ?_
 refine kq [4, 5, 6] ?_
 refine Run.ret ?_
 have he := addErr_chk (k := k) (p := p) hchk; have hne : addErr k p ms m ≠ 0 := (by rw [he]; exact hchk); refine ret_out (oa, cap, none, 0) (.cellA nT32 rfl pk (by rfl) (.tmp rfl (.tmp rfl .nil))) trivial (by rw [addC_n hne, addD_n hne, he]; rfl) ?_; rw [addMs_n hne, addD_n hne]; exact gv
end
end Go.Proofs.YtcpghpifbgpkjaaGreatDoor

namespace Go.Proofs.YtcpghpifbgpkjaaGreatDoor
open Go Go.SL Go.Proofs
theorem rnewY (k p : Int) (h0 : startE k p = 0) : AC Tryz.prog 16 ⟨[I k, I p]⟩ (stars []) (Outs (fun _ : Nat => True) (fun b => .tuple ⟨[Pt b, I (startE k p)]⟩) (fun b => [pt b (blk [I k, I p, .slice none 0 0] 52)])) := by
  have h := ac16n k p
  simp only [if_pos h0] at h
  exact h
theorem rnewZ (k p : Int) (h0 : startE k p ≠ 0) : AC Tryz.prog 16 ⟨[I k, I p]⟩ (stars []) (Outs (fun _ : Nat => True) (fun _ => .tuple ⟨[.pointer none, I (startE k p)]⟩) (fun _ => [])) := by
  have h := ac16n k p
  simp only [if_neg h0] at h
  exact h
section
attribute [local irreducible] OpJ RunL Run RunD DetJ pt own star Rd RdS EN fillM addMs addErr csOf skOf addC addD
theorem ac4z (k p : Int) (R : HP) (oa : Option Addr) (cap : Nat) (ms : List Mv) (hR : RdS R oa (ms.flatMap Mv.c)) (hlen : (ms.length : Int) ≤ 9223372036854775807) (R0 : HP) (hR0 : Rd R0 ⟨0, 0, none⟩ lensC) (day : Int) (hsz : ∀ m ∈ ms, (m.item.size : Int) ≤ 9223372036854775807 ∧ (m.lot.size : Int) ≤ 9223372036854775807) (h0 : startE k p ≠ 0) : AC Tryz.prog 4 ⟨[.agg ⟨[I k, I p]⟩, .slice oa ms.length cap, I day]⟩ (stars [R, R0]) (Ret (Bo true) [R, R0]) := by
 refine eo Tryz.func4 fun β => ?_
 refine sr ?_
 refine obx rfl fun b3 => ?_
 refine sx 1 ?_
 refine kq [1, 2, 3] ?_
 refine Run.seq ?_
 refine sr ?_
 refine sx 1 ?_
 refine RunL.call nC11 rfl rfl rfl (ac11n R oa cap ms hR hlen) tks ?_
 rcases hl : lightMs ms with _ | _
 refine RunL.op rfl rfl (OpJ.not rfl ?_)
 refine kq [1, 2, 3, 29] ?_
 refine Run.true rfl ?_
 refine sr ?_
 refine RunL.call nC12 rfl rfl rfl (ac12n R0 hR0) tks ?_
 refine sx 1 ?_
 refine kq [6] ?_
 exact .ret (ret_one (.tmp rfl .nil) rfl gv)
 refine RunL.op rfl rfl (OpJ.not rfl ?_)
 refine kq [1, 2, 3, 29] ?_
 refine Run.false rfl ?_
 refine Run.skip ?_
 refine sr ?_
 refine sx 4 ?_
 refine RunL.callX nC10 rfl rfl rfl (newZ k p h0) .nil fun _ _ => ?_
 refine sx 5 ?_
 refine kq [1, 2, 3, 7, 8] ?_
 refine sr ?_
 refine sx 4 ?_
 refine RunL.callX nC16 rfl rfl rfl (rnewZ k p h0) .nil fun _ _ => ?_
 refine sx 5 ?_
 refine kq [1, 2, 7, 8, 9, 10] ?_
 refine Run.seq ?_
 refine sr ?_
 refine sx 3 ?_
 refine sF (fun h => h rfl) ?_
 refine sx 6 ?_
 refine RunL.set (v := Bo false) rfl ?_
 refine sx 1 ?_
 refine kq [1, 2, 7, 9, 56] ?_
 refine Run.false rfl ?_
 refine Run.skip ?_
 refine Run.seq ?_
 refine rg 2 [1, 2, 7, 9, 58] ?_
 refine Run.true rfl ?_
 refine sr ?_
 refine RunL.call nC12 rfl rfl rfl (ac12n R0 hR0) tks ?_
 refine sx 1 ?_
 refine kq [6] ?_
 exact .ret (ret_one (.tmp rfl .nil) rfl gv)
theorem ac4y (k p : Int) (R : HP) (oa : Option Addr) (cap : Nat) (ms : List Mv) (hR : RdS R oa (ms.flatMap Mv.c)) (hlen : (ms.length : Int) ≤ 9223372036854775807) (R0 : HP) (hR0 : Rd R0 ⟨0, 0, none⟩ lensC) (day : Int) (hsz : ∀ m ∈ ms, (m.item.size : Int) ≤ 9223372036854775807 ∧ (m.lot.size : Int) ≤ 9223372036854775807) (h0 : startE k p = 0) : AC Tryz.prog 4 ⟨[.agg ⟨[I k, I p]⟩, .slice oa ms.length cap, I day]⟩ (stars [R, R0]) (Ret (Bo true) [R, R0]) := by
 have hGf := adds_good h0 ms
 have hnf := hGf.n
 have hszf : ∀ y ∈ (addsM k p ms), _ := fun y hy => hsz y (adds_sub hy)
 refine eo Tryz.func4 fun β => ?_
 refine sr ?_
 refine obx rfl fun b3 => ?_
 refine sx 1 ?_
 refine kq [1, 2, 3] ?_
 refine Run.seq ?_
 refine sr ?_
 refine sx 1 ?_
 refine RunL.call nC11 rfl rfl rfl (ac11n R oa cap ms hR hlen) tks ?_
 rcases hl : lightMs ms with _ | _
 refine RunL.op rfl rfl (OpJ.not rfl ?_)
 refine kq [1, 2, 3, 29] ?_
 refine Run.true rfl ?_
 refine sr ?_
 refine RunL.call nC12 rfl rfl rfl (ac12n R0 hR0) tks ?_
 refine sx 1 ?_
 refine kq [6] ?_
 exact .ret (ret_one (.tmp rfl .nil) rfl gv)
 refine RunL.op rfl rfl (OpJ.not rfl ?_)
 refine kq [1, 2, 3, 29] ?_
 refine Run.false rfl ?_
 refine Run.skip ?_
 refine sr ?_
 refine sx 4 ?_
 refine RunL.callX nC10 rfl rfl rfl (newY k p h0) .nil fun g _ => ?_
 refine sx 5 ?_
 refine kq [1, 2, 3, 7, 8] ?_
 refine sr ?_
 refine sx 4 ?_
 refine RunL.callX nC16 rfl rfl rfl (rnewY k p h0) .nil fun r _ => ?_
 refine sx 5 ?_
 refine kq [1, 2, 7, 8, 9, 10] ?_
 refine Run.seq ?_
 refine sr ?_
 refine sx 3 ?_
 refine sF (fun h => h rfl) ?_
 refine sx 5 ?_
 refine RunL.yes rfl rfl rfl rfl (OpJ.neqB UI.eq rfl rfl ?_)
 refine RunL.set (v := Bo false) rfl ?_
 refine sx 1 ?_
 refine kq [1, 2, 7, 9, 56] ?_
 refine Run.false rfl ?_
 refine Run.skip ?_
 refine Run.seq ?_
 refine rg 2 [1, 2, 7, 9, 58] ?_
 refine Run.false rfl ?_
 refine Run.skip ?_
 refine Run.seq ?_
 refine sr ?_
 refine RunL.ownNil 35 8 ?_
 refine sx 1 ?_
 refine kq [1, 2, 7, 9, 11] ?_
 refine Run.block ?_
 have h50 := light_len hl
 refine Run.weak (L' := [EN g k p (addsM k p (ms.take 0)), pt r (blk [I k, I p, .slice none (addsM k p (ms.take 0)).length 0] 52), own 35 8 none (addsM k p (ms.take 0)).length 0 ((addsM k p (ms.take 0)).flatMap Mv.c), R, R0]) (fun _ _ h => h) gv ?_
 refine Run.loop (fun mm E L => ∃ (i : Nat) (ra : Option Addr) (rc : Nat), mm = ms.length - i ∧ i ≤ ms.length ∧ E = [(1, .slice oa ms.length cap), (2, I day), (7, Pt g), (9, Pt r), (11, I i)] ∧ L = [EN g k p (addsM k p (ms.take i)), pt r (blk [I k, I p, .slice ra (addsM k p (ms.take i)).length rc] 52), own 35 8 ra (addsM k p (ms.take i)).length rc ((addsM k p (ms.take i)).flatMap Mv.c), R, R0]) ⟨_, 0, none, 0, rfl, Nat.zero_le _, rfl, rfl⟩ ?_
 rintro _ _ _ ⟨i, ra, rc, rfl, hi, rfl, rfl⟩
 refine Run.seq ?_
 refine rg 4 [1, 2, 7, 9, 11, 63] ?_
 refine cnd rfl (fun h1 => ?_) fun h1 => ?_
 refine Run.skip ?_
 refine Run.seq ?_
 refine Run.block ?_
 refine sr ?_
 obtain ⟨x, hx⟩ := get_ex (xs := ms) (by omega)
 refine RunL.rdOpen pk hR (flat_ne (k := 8) (fun _ => rfl) (by decide) hx) fun b o e hrd => ?_
 subst e
 have hGi := adds_good h0 (ms.take i)
 have hni := adds_len (k := k) (p := p) (l := ms.take i)
 rw [List.length_take, Nat.min_eq_left (by omega)] at hni
 have hszi : ∀ y ∈ (addsM k p (ms.take i)), _ := fun y hy => hsz y (List.mem_of_mem_take (adds_sub hy))
 have hxz := hsz x (List.mem_of_getElem? hx)
 have hdl := addD_len (m := x) hGi
 refine sx 4 ?_
 refine RunL.op rfl rfl (OpJ.loadA inferInstance rfl pk (hrd.elem (fun _ => rfl) hx) rfl ?_)
 refine RunL.callX nC14 rfl rfl rfl (enAdd g k p (addsM k p (ms.take i)) x R0 hR0) tks fun ⟨ja, jc⟩ _ => ?_
 refine sx 4 ?_
 refine oal fun b12 => ?_
 refine sx 3 ?_
 refine kq [1, 2, 7, 9, 11, 12, 13, 14] ?_
 refine sr ?_
 refine sx 4 ?_
 refine RunL.op rfl rfl (OpJ.loadA inferInstance rfl pk (hrd.elem (fun _ => rfl) hx) rfl ?_)
 refine RunL.callX nC17 rfl rfl rfl (ac17r r k p ra rc (addsM k p (ms.take i)) hGi (by omega) hszi x hxz) tks fun ⟨ra2, rc2, jb, jd⟩ _ => ?_
 refine sx 4 ?_
 refine oal fun b15 => ?_
 refine sx 3 ?_
 refine kq [1, 2, 7, 9, 11, 12, 13, 14, 15, 16, 17] ?_
 refine sr ?_
 refine sx 3 ?_
 refine RunL.set (v := Bo false) (congrArg Value.bool (by simp)) ?_
 refine sx 4 ?_
 refine sF (fun h => h rfl) ?_
 refine sx 4 ?_
 refine RunL.callG nC18 rfl rfl rfl rfl rfl (ac18n (addD k p (addsM k p (ms.take i)) x) ja jc jb jd _ _ own.rds own.rds (by omega)) tks ?_
 refine sx 2 ?_
 refine kq [1, 2, 7, 9, 11, 99] ?_
 refine Run.false rfl ?_
 refine Run.skip ?_
 refine Run.region ?_
 refine sx 3 ?_
 rw [← addsM_succ hx]
 exact RunL.next (Keep.sub (kt (ks := [1, 2, 7, 9, 11]) rfl)) _ ⟨_, by omega, i + 1, ra2, rc2, rfl, by omega, rfl, rfl⟩ gv
 refine Run.exit ?_
 refine Run.seq ?_
 refine sr ?_
 have hfin : ms.take i = ms := List.take_of_length_le (by omega)
 rw [hfin]
 have hnl2 := adds_len (k := k) (p := p) (l := ms)
 have h50 := light_len hl
 refine sx 1 ?_
 refine kq [2, 7, 9, 18] ?_
 refine Run.block ?_
 refine Run.weak (L' := [EN g k p (addsM k p ms), pt r (blk [I k, I p, .slice ra (addsM k p ms).length rc] 52), own 35 8 ra (addsM k p ms).length rc ((addsM k p ms).flatMap Mv.c), R, R0]) (fun _ _ h => h) gv ?_
 refine Run.loop (fun mm E L => ∃ (s : Int), mm = ((addsM k p ms).length + 2 - s).toNat ∧ 0 ≤ s ∧ s ≤ (addsM k p ms).length + 2 ∧ E = [(2, I day), (7, Pt g), (9, Pt r), (18, I s)] ∧ L = [EN g k p (addsM k p ms), pt r (blk [I k, I p, .slice ra (addsM k p ms).length rc] 52), own 35 8 ra (addsM k p ms).length rc ((addsM k p ms).flatMap Mv.c), R, R0]) ⟨_, 0, rfl, by decide, by omega, rfl, rfl⟩ ?_
 rintro _ _ _ ⟨s, rfl, hs1, hs2, rfl, rfl⟩
 refine Run.seq ?_
 refine rg 8 [2, 7, 9, 18, 107] ?_
 refine cnd rfl (fun h2 => ?_) fun h2 => ?_
 refine Run.skip ?_
 refine Run.seq ?_
 refine Run.block ?_
 refine sr ?_
 refine sx 2 ?_
 refine RunL.call nC15 rfl rfl rfl (enCost g k p (addsM k p ms) s (by omega)) tks ?_
 refine sx 3 ?_
 refine oal fun b19 => ?_
 refine sx 2 ?_
 refine kq [2, 7, 9, 18, 19, 20] ?_
 refine sr ?_
 refine sx 2 ?_
 refine RunL.call nC19 rfl rfl rfl (ac19n r k p ra rc (addsM k p ms) hGf (by omega) hszf s) tks ?_
 refine sx 3 ?_
 refine oal fun b21 => ?_
 refine sx 2 ?_
 refine kq [2, 7, 9, 18, 19, 20, 21, 22] ?_
 refine sr ?_
 refine sx 3 ?_
 refine RunL.set (v := Bo false) (congrArg Value.bool (by simp)) ?_
 refine sx 3 ?_
 refine RunL.yes rfl rfl rfl rfl (OpJ.neqB UI.eq rfl rfl ?_)
 refine RunL.set (v := Bo false) (congrArg Value.bool (by simp)) ?_
 refine sx 1 ?_
 refine kq [2, 7, 9, 18, 129] ?_
 refine Run.false rfl ?_
 refine Run.skip ?_
 refine Run.region ?_
 refine sx 3 ?_
 exact RunL.next (Keep.sub (kt (ks := [2, 7, 9, 18]) rfl)) _ ⟨_, by omega, s + 1, rfl, by omega, by omega, rfl, rfl⟩ gv
 refine Run.exit ?_
 refine sr ?_
 refine sx 2 ?_
 refine RunL.call nC20 rfl rfl rfl (enAt g k p (addsM k p ms) day) tks ?_
 refine sx 5 ?_
 refine kq [2, 7, 9, 23, 24] ?_
 refine sr ?_
 refine sx 2 ?_
 refine RunL.call nC21 rfl rfl rfl (ac21n r k p ra rc (addsM k p ms) hGf (by omega) hszf day) tks ?_
 refine sx 5 ?_
 refine kq [7, 9, 23, 24, 25, 26] ?_
 refine Run.seq ?_
 refine regionD HM ?_
 refine dx [0, 2, 3, 4, 5, 6] ?_
 refine RunD.op 1 [true, true, true, true, true, false] rfl rfl rfl kr kr (OpJ.callRet nC13 rfl rfl (enLen g k p (addsM k p ms)) tks ⟨po, ?_⟩)
 refine dx [7] ?_
 refine dT rfl ?_
 refine dx [8, 9, 11, 12, 13, 14] ?_
 refine RunD.opG 10 [true, true, true, true, false, false, false, false, true, true, true, true] rfl rfl rfl rfl rfl kr kr (OpJ.callOuts nC23 rfl rfl (enMoves g k p (addsM k p ms)) tks fun y _ => ⟨po, ?_⟩)
 refine RunD.opG 15 [false, false, false, true, true, true, true, true] rfl rfl rfl rfl rfl kr kr (OpJ.callRet nC22 rfl rfl (ac22n (addsM k p ms) (some ⟨y, 0, none⟩) (addsM k p ms).length ra rc (own 35 8 (some ⟨y, 0, none⟩) (addsM k p ms).length (addsM k p ms).length ((addsM k p ms).flatMap Mv.c)) (own 35 8 ra (addsM k p ms).length rc ((addsM k p ms).flatMap Mv.c)) own.rds own.rds (by omega)) tks ⟨po, ?_⟩)
 refine dx [16, 17, 18, 20] ?_
 refine RunD.opG 19 [true, false, false, false, true, true, true, true, true] rfl rfl rfl rfl rfl kr kr (OpJ.callOuts nC25 rfl rfl (enStock g k p (addsM k p ms)) tks fun ⟨l1, lc1, p1, pc1⟩ _ => ⟨po, ?_⟩)
 refine RunD.opG 21 [false, true, true, true, true, true] rfl rfl rfl rfl rfl kr kr (OpJ.callOuts nC26 rfl rfl (ac26n r k p ra rc (addsM k p ms) hGf (by omega) hszf) tks fun ⟨l2, lc2, p2, pc2⟩ _ => ⟨po, ?_⟩)
 refine RunD.opG 22 [true, true, true, true, true] rfl rfl rfl rfl rfl kr kr (OpJ.callRet nC24 rfl rfl (ac17 (skOf k p (addsM k p ms)) l1 lc1 p1 pc1 l2 lc2 p2 pc2 _ _ _ _ own.rds own.rds own.rds own.rds hGf.sk) tks ⟨po, ?_⟩)
 refine dx [23, 24, 25, 26, 27] ?_
 refine dT rfl ?_
 refine dx [28, 29, 30, 31, 32] ?_
 refine dT rfl ?_
 refine dx [33, 34] ?_
 refine RunD.opG 35 [false, false, false, true, true, false, false, true, true, true, false, true, true, true, true, true, true] rfl rfl rfl rfl rfl kr kr (OpJ.callRet nC12 rfl rfl (ac12n R0 hR0) tks ⟨po, ?_⟩)
 refine dx [36, 37] ?_
 refine kd [6] rfl ?_
 exact .ret (ret_one (.tmp rfl .nil) rfl gv)
end
theorem ac4n (k p : Int) (R : HP) (oa : Option Addr) (cap : Nat) (ms : List Mv) (hR : RdS R oa (ms.flatMap Mv.c)) (hlen : (ms.length : Int) ≤ 9223372036854775807) (R0 : HP) (hR0 : Rd R0 ⟨0, 0, none⟩ lensC) (day : Int) (hsz : ∀ m ∈ ms, (m.item.size : Int) ≤ 9223372036854775807 ∧ (m.lot.size : Int) ≤ 9223372036854775807) : AC Tryz.prog 4 ⟨[.agg ⟨[I k, I p]⟩, .slice oa ms.length cap, I day]⟩ (stars [R, R0]) (Ret (Bo true) [R, R0]) := by
  by_cases h0 : startE k p = 0
  · exact ac4y k p R oa cap ms hR hlen R0 hR0 day hsz h0
  · exact ac4z k p R oa cap ms hR hlen R0 hR0 day hsz h0
end Go.Proofs.YtcpghpifbgpkjaaGreatDoor

namespace Go.Proofs.YtcpghpifbgpkjaaGreatDoor
open Go Go.SL Go.ChangeShapes Go.WideShapes Go.ChangeAt Go.WideElems Go.RowKit Go.Deep
section
variable {H : Type} {enc : TypeId × Value → H} {W : World} {sp : Nat → Bool} {held : Bool}
theorem cof3 : Tryz.prog.cellsOf 3 = 1 := by kernel_rfl
theorem cof9 : Tryz.prog.cellsOf 9 = 1 := by kernel_rfl
theorem cof35 : Tryz.prog.cellsOf 35 = 8 := by kernel_rfl
theorem i64_of {n : Int} (h : (Lit.int .i64 n).wf = true) : i64 n := by
  have h1 : IntKind.i64.min = -9223372036854775808 := by rfl
  have h2 : IntKind.i64.max = 9223372036854775807 := by rfl
  simp only [Lit.wf, Bool.and_eq_true, decide_eq_true_eq] at h
  rw [h1, h2] at h
  exact h
theorem int_at {fuel : Nat} {cs : List Value} {x : DataW H × List MemPlace} (h : DataW.trod enc Tryz.prog W 0 sp held fuel 3 cs = some x) : ∃ n, cs = [I n] ∧ i64 n := by
  obtain ⟨n, h1, _, h2⟩ := DataW.trod_int Tryz.underlying3 h
  exact ⟨n, h1, i64_of h2⟩
theorem str_at {fuel : Nat} {cs : List Value} {x : DataW H × List MemPlace} (h : DataW.trod enc Tryz.prog W 0 sp held fuel 9 cs = some x) : ∃ s, cs = [St s] ∧ (s.size : Int) ≤ 9223372036854775807 := by
  obtain ⟨s, h1, _, hs⟩ := DataW.trod_string Tryz.underlying9 h
  have hmax : (maxLen : Nat) ≤ 9223372036854775807 := by decide
  exact ⟨s, h1, by omega⟩
def _root_.Go.SL.Mv.sz (m : Mv) : Prop := (m.item.size : Int) ≤ 9223372036854775807 ∧ (m.lot.size : Int) ≤ 9223372036854775807
theorem mv_of {fuel : Nat} {cs : List Value} {x : DataW H × List MemPlace} (h : DataW.trod enc Tryz.prog W 0 sp held fuel 35 cs = some x) : ∃ m : Mv, cs = m.c ∧ m.ok ∧ m.sz := by
  obtain ⟨xs, n, _, _, hl, hxl, hf⟩ := DataW.trod_struct Tryz.underlying35 h
  rw [cof35] at hl
  have hsz : xs.length = 8 := hxl
  have get : ∀ i, i < 8 → ∃ y, xs[i]? = some y := fun i hi => ⟨_, List.getElem?_eq_getElem (by omega)⟩
  have f0 : DataW.trod enc Tryz.prog W 0 sp held n 3 ((cs.drop 0).take (Tryz.prog.cellsOf 3)) = xs[0]? := hf 0 _ rfl
  have f1 : DataW.trod enc Tryz.prog W 0 sp held n 3 ((cs.drop 1).take (Tryz.prog.cellsOf 3)) = xs[1]? := hf 1 _ rfl
  have f2 : DataW.trod enc Tryz.prog W 0 sp held n 9 ((cs.drop 2).take (Tryz.prog.cellsOf 9)) = xs[2]? := hf 2 _ rfl
  have f3 : DataW.trod enc Tryz.prog W 0 sp held n 3 ((cs.drop 3).take (Tryz.prog.cellsOf 3)) = xs[3]? := hf 3 _ rfl
  have f4 : DataW.trod enc Tryz.prog W 0 sp held n 3 ((cs.drop 4).take (Tryz.prog.cellsOf 3)) = xs[4]? := hf 4 _ rfl
  have f5 : DataW.trod enc Tryz.prog W 0 sp held n 3 ((cs.drop 5).take (Tryz.prog.cellsOf 3)) = xs[5]? := hf 5 _ rfl
  have f6 : DataW.trod enc Tryz.prog W 0 sp held n 9 ((cs.drop 6).take (Tryz.prog.cellsOf 9)) = xs[6]? := hf 6 _ rfl
  have f7 : DataW.trod enc Tryz.prog W 0 sp held n 3 ((cs.drop 7).take (Tryz.prog.cellsOf 3)) = xs[7]? := hf 7 _ rfl
  rw [cof3] at f0 f1 f3 f4 f5 f7
  rw [cof9] at f2 f6
  obtain ⟨y0, e0⟩ := get 0 (by decide); obtain ⟨y1, e1⟩ := get 1 (by decide); obtain ⟨y2, e2⟩ := get 2 (by decide); obtain ⟨y3, e3⟩ := get 3 (by decide)
  obtain ⟨y4, e4⟩ := get 4 (by decide); obtain ⟨y5, e5⟩ := get 5 (by decide); obtain ⟨y6, e6⟩ := get 6 (by decide); obtain ⟨y7, e7⟩ := get 7 (by decide)
  obtain ⟨n0, h0, _⟩ := int_at (f0.trans e0); obtain ⟨n1, h1, _⟩ := int_at (f1.trans e1); obtain ⟨s2, h2, z2⟩ := str_at (f2.trans e2); obtain ⟨n3, h3, _⟩ := int_at (f3.trans e3)
  obtain ⟨n4, h4, w4⟩ := int_at (f4.trans e4); obtain ⟨n5, h5, w5⟩ := int_at (f5.trans e5); obtain ⟨s6, h6, z6⟩ := str_at (f6.trans e6); obtain ⟨n7, h7, _⟩ := int_at (f7.trans e7)
  clear f0 f1 f2 f3 f4 f5 f6 f7 hf get
  match cs, hl with
  | [c0, c1, c2, c3, c4, c5, c6, c7], _ =>
    simp at h0 h1 h2 h3 h4 h5 h6 h7
    subst h0 h1 h2 h3 h4 h5 h6 h7
    exact ⟨⟨n0, n1, s2, n3, n4, n5, s6, n7⟩, rfl, ⟨w4, w5⟩, z2, z6⟩
theorem add_add' (a : Addr) (x y : Nat) : (a.add x).add y = a.add (x + y) := by
  unfold Addr.add
  by_cases hx : x = 0
  · subst hx; simp
  · by_cases hy : y = 0
    · subst hy; simp
    · have : x + y ≠ 0 := by omega
      simp [hx, hy, Nat.add_assoc]
theorem cells_at {a : Addr} {n : Nat} {cs : List Value} (h : W.cells? 0 a n = some cs) : ∀ j v, cs[j]? = some v → W.cell? (a.add j) = some v := fun j v hj => by
  unfold World.cells? at h
  rw [if_pos (Nat.zero_le _)] at h
  have hl := mapM_some_length h
  have hjl := (List.getElem?_eq_some_iff.1 hj).1
  rw [List.length_range] at hl
  have := mapM_some_get h j j (List.getElem?_range (by omega))
  rw [this]; exact hj
theorem moves_of {fuel : Nat} {oa : Option Addr} {len cap : Nat} {x : DataW H × List MemPlace} (h : DataW.trod enc Tryz.prog W 0 (fun _ => true) held fuel 24 [.slice oa len cap] = some x) :
    ∃ ms : List Mv, ms.length = len ∧ (∀ m ∈ ms, m.ok ∧ m.sz) ∧ (len : Int) ≤ 9223372036854775807 ∧ len ≤ cap ∧ (ms = [] ∨ ∃ a, oa = some a ∧ ∀ j v, (ms.flatMap Mv.c)[j]? = some v → W.cell? (a.add j) = some v) := by
  rcases open_slice Tryz.underlying24 h with ⟨h1, _⟩ | ⟨a, l, c, m, n, D, Pl, h1, _, hlc, hcm, hm, _, hel⟩
  · simp at h1; obtain ⟨rfl, rfl, rfl⟩ := h1; exact ⟨[], rfl, (fun m hm => by cases hm), by decide, Nat.le_refl _, Or.inl rfl⟩
  · simp at h1; obtain ⟨rfl, rfl, rfl⟩ := h1
    simp only [if_true] at hm
    subst hm
    have hmax : (maxLen : Nat) ≤ 9223372036854775807 := by decide
    have key : ∀ i, ∃ mv : Mv, i < len → (W.cells? 0 (a.add (i * 8)) 8 = some mv.c ∧ mv.ok ∧ mv.sz) := fun i => by
      by_cases hi : i < len
      · obtain ⟨cs', hc, ht⟩ := hel i (by omega)
        rw [cof35] at hc
        obtain ⟨mv, rfl, hok⟩ := mv_of ht
        exact ⟨mv, fun _ => ⟨hc, hok⟩⟩
      · exact ⟨⟨0, 0, ⟨#[]⟩, 0, 0, 0, ⟨#[]⟩, 0⟩, fun h => absurd h hi⟩
    let f : Nat → Mv := fun i => Classical.choose (key i)
    have hfs : ∀ i, i < len → (W.cells? 0 (a.add (i * 8)) 8 = some (f i).c ∧ (f i).ok ∧ (f i).sz) := fun i => Classical.choose_spec (key i)
    refine ⟨(List.range len).map f, by simp, fun mv hmv => ?_, by omega, hlc, .inr ⟨a, rfl, fun j v hj => ?_⟩⟩
    · obtain ⟨i, hi, rfl⟩ := List.mem_map.1 hmv
      exact (hfs i (by simpa using hi)).2
    · have hjl := (List.getElem?_eq_some_iff.1 hj).1
      rw [flat_len (enc := Mv.c) (k := 8) (fun _ => rfl), List.length_map, List.length_range] at hjl
      have hi : j / 8 < len := by omega
      have hx : ((List.range len).map f)[j / 8]? = some (f (j / 8)) := by simp [hi]
      obtain ⟨v', hv'⟩ : ∃ v', (f (j / 8)).c[j % 8]? = some v' := ⟨_, List.getElem?_eq_getElem (show j % 8 < 8 by omega)⟩
      have := flat_get (enc := Mv.c) (k := 8) (fun _ => rfl) _ _ _ hx _ _ hv'
      rw [show j / 8 * 8 + j % 8 = j by omega, hj] at this
      cases this
      have hc := cells_at (hfs _ hi).1 _ _ hv'
      rw [← hc]
      rw [add_add', show j / 8 * 8 + j % 8 = j by omega]
end
theorem gLen : Tryz.prog.globalNamed "accounting/days.lengths" = some 0 := by kernel_rfl
def laid1 : List (String × DataW Unit) := [("accounting/days.lengths", Rows.laid_accounting_days_lengths)]
theorem of_laid {W : World} (h : laidMetH Tryz.prog laid1 W) : ∃ t fr, W.heap[0]? = some (.cells ⟨lensC⟩ t fr) := by
  rw [MakeChecks.laidMetH_plain _ _ _ (by kernel_rfl)] at h
  obtain ⟨ps, ⟨g0, t0, cs0, f0, p0, q0, hg0, ht0, hv0, hd0, _, _⟩, _, hfr⟩ := h
  obtain rfl := Option.some.inj (gLen.symm.trans hg0)
  have tl : (Tryz.prog.globals[0]?).map (·.type) = some 176 := by kernel_rfl
  obtain rfl := Option.some.inj (tl.symm.trans ht0)
  obtain ⟨xs, m1, rfl, hx1, hlen, hn, hel⟩ := DataW.trod_array Tryz.underlying176 hd0
  have c176 : Tryz.prog.cellsOf 176 = 12 := by kernel_rfl
  rw [c176] at hlen
  simp only [cof3, Nat.mul_one] at hel
  have hcs : cs0.toList = lensC := by
    simp only [Rows.laid_accounting_days_lengths, Prod.mk.injEq, DataW.agg.injEq] at hx1
    obtain ⟨l⟩ := cs0
    (try simp only at hlen)
    (try simp only at hel)
    (try simp only)
    have get : ∀ i, i < 12 → ∃ (n : Int) (y : DataW Unit × List MemPlace), (l.drop i).take 1 = [.int .i64 n] ∧ xs[i]? = some y ∧ y.1 = .lit (.int .i64 n) := fun i hi => by
      obtain ⟨y, hy⟩ : ∃ y, xs[i]? = some y := ⟨_, List.getElem?_eq_getElem (by omega)⟩
      obtain ⟨n, h1, h2, _⟩ := DataW.trod_int Tryz.underlying3 ((hel i hi).trans hy)
      exact ⟨n, y, h1, hy, by rw [h2]⟩
    have val : ∀ i, i < 12 → ∀ n : Int, ([31, 28, 31, 30, 31, 30, 31, 31, 30, 31, 30, 31] : List Int)[i]? = some n → l[i]? = some (.int .i64 n) := fun i hi n hn' => by
      obtain ⟨n', y, h1, h2, h3⟩ := get i hi
      have h4 : (xs.map (·.1))[i]? = some (.lit (.int .i64 n')) := by rw [List.getElem?_map, h2]; simp [h3]
      rw [← hx1.1] at h4
      have h5 : l[i]? = some (.int .i64 n') := by
        have := congrArg (·[0]?) h1
        simpa [List.getElem?_take] using this
      rw [h5]
      have : i = 0 ∨ i = 1 ∨ i = 2 ∨ i = 3 ∨ i = 4 ∨ i = 5 ∨ i = 6 ∨ i = 7 ∨ i = 8 ∨ i = 9 ∨ i = 10 ∨ i = 11 := by omega
      rcases this with rfl | rfl | rfl | rfl | rfl | rfl | rfl | rfl | rfl | rfl | rfl | rfl <;> (simp at h4 hn'; subst h4; subst hn'; rfl)
    have hll : l.length = 12 := hlen
    show l = lensC
    apply List.ext_getElem?
    intro i
    by_cases hi : i < 12
    · obtain ⟨n, hn'⟩ : ∃ n, lensL[i]? = some n := ⟨_, List.getElem?_eq_getElem (show i < lensL.length from hi)⟩
      rw [val i hi n hn', lensC, List.getElem?_map, hn']; rfl
    · rw [List.getElem?_eq_none (by omega), List.getElem?_eq_none (show lensC.length ≤ i from (by omega : 12 ≤ i))]
  unfold World.var? at hv0
  rw [gLen] at hv0
  simp only [Option.bind_some] at hv0
  split at hv0
  · rename_i cs t fr hh
    cases hv0
    obtain ⟨l⟩ := cs0
    (try simp only at hcs)
    subst hcs
    exact ⟨t, fr, hh⟩
  · cases hv0

def at1 (b : Nat) (o : Obj) : Hp := fun c => if c = b then some o else none
theorem pt_at1 (b : Nat) (o : Obj) : pt b o (at1 b o) := fun _ => rfl
theorem pt_eq {b : Nat} {o : Obj} {h : Hp} (hp : pt b o h) : h = at1 b o := funext hp
theorem emp_eq {h : Hp} (hp : emp h) : h = fun _ => none := funext hp
theorem ac_below {P : Program} {f : FuncId} {args : Array Value} {R R0 : HP} {hr h0 : Hp} {v : Value} {w : World} (eR : ∀ h, R h → h = hr) (mR : R hr) (e0 : ∀ h, R0 h → h = h0) (m0 : R0 h0) (hd : Hp.disj hr h0) (sR : hr.sub w) (s0 : h0.sub w)
    (h : AC P f args (stars [R, R0]) (Ret v [R, R0])) : Calls P f args w fun e w' => e = .returned v ∧ Below w.heap.size w w' := by
  have hA : stars [R, R0] (Hp.add hr h0) := by
    refine ⟨hr, h0, hd, rfl, mR, h0, fun _ => none, fun b => .inr rfl, ?_, m0, fun _ => rfl⟩
    exact (Hp.add_none' fun _ => rfl).symm
  have hsub : (Hp.add hr h0).sub w := fun b o hb => by
    simp only [Hp.add] at hb
    cases hrb : hr b with
    | some o' => rw [hrb] at hb; cases hb; exact sR b _ hrb
    | none => rw [hrb] at hb; exact s0 b o hb
  refine (h w _ hA hsub).mono ?_
  rintro e w' ⟨r, rfl, ⟨⟨h', hQ, hsub', _⟩, hrest⟩⟩
  obtain ⟨rfl, h1, h23, hd', rfl, hR1, h2, h3, hd2, rfl, hR2, h3e⟩ := hQ
  obtain rfl := eR _ hR1
  obtain rfl := e0 _ hR2
  refine ⟨rfl, hrest.os, hrest.tape, hrest.output, hrest.size, fun k hk => ?_⟩
  have hk2 : Hp.add h1 (Hp.add h2 h3) k = Hp.add h1 h2 k := by rw [Hp.add_none' h3e]
  cases hb : Hp.add h1 h2 k with
  | none => exact hrest.frame k hk hb
  | some o => rw [hsub' k o (hk2.trans hb), hsub k o hb]
theorem lens_rd {t : TypeId} {fr : Nat × Nat} : Rd (pt 0 (.cells ⟨lensC⟩ t fr)) ⟨0, 0, none⟩ lensC := fun h hp => ⟨⟨lensC⟩, t, fr, by rw [hp]; simp, rfl, fun j v hj => by simpa using hj⟩
theorem law_gen {f : FuncId} {xs ys : List Value} {oa : Option Addr} {len cap : Nat} (hac : ∀ (R : HP) (ms : List Mv), ms.length = len → RdS R oa (ms.flatMap Mv.c) → (ms.length : Int) ≤ 9223372036854775807 → (∀ m ∈ ms, m.ok ∧ m.sz) → ms.length ≤ cap → ∀ R0 : HP, Rd R0 ⟨0, 0, none⟩ lensC → AC Tryz.prog f ⟨xs ++ [.slice oa len cap] ++ ys⟩ (stars [R, R0]) (Ret (Bo true) [R, R0]))
    {H : Type} {enc : TypeId × Value → H} {W : World} {held : Bool} {fuel : Nat} {x : DataW H × List MemPlace} (h : DataW.trod enc Tryz.prog W 0 (fun _ => true) held fuel 24 [.slice oa len cap] = some x) (hL : laidMetH Tryz.prog laid1 W) :
    Calls Tryz.prog f ⟨xs ++ [.slice oa len cap] ++ ys⟩ W fun e w' => e = .returned (.bool true) ∧ Below W.heap.size W w' := by
  obtain ⟨t, fr, h0⟩ := of_laid hL
  obtain ⟨ms, rfl, hok, hlen, hcap, hms⟩ := moves_of h
  have s0 : (at1 0 (.cells ⟨lensC⟩ t fr)).sub W := fun b o hb => by
    unfold at1 at hb
    split at hb
    · rename_i hb0; cases hb; rw [hb0]; exact h0
    · cases hb
  rcases hms with rfl | ⟨a, rfl, hcell⟩
  · exact ac_below (R := emp) (hr := fun _ => none) (fun _ => emp_eq) (fun _ => rfl) (fun _ => pt_eq) (pt_at1 _ _) (fun _ => .inl rfl) (fun _ _ hb => by cases hb) s0 (hac emp [] rfl RdS.nil hlen hok hcap _ lens_rd)
  · by_cases hnil : ms = []
    · subst hnil
      exact ac_below (R := emp) (hr := fun _ => none) (fun _ => emp_eq) (fun _ => rfl) (fun _ => pt_eq) (pt_at1 _ _) (fun _ => .inl rfl) (fun _ _ hb => by cases hb) s0 (hac emp [] rfl RdS.nil hlen hok hcap _ lens_rd)
    · obtain ⟨m, ms', rfl⟩ : ∃ m ms', ms = m :: ms' := by
        cases ms with
        | nil => exact absurd rfl hnil
        | cons m ms' => exact ⟨m, ms', rfl⟩
      have c0 := hcell 0 (I m.seq) rfl
      have c2 := hcell 2 (St m.item) rfl
      obtain ⟨blk0, off, spot⟩ := a
      have hspot : spot = none := by
        unfold World.cell? at c0
        split at c0
        · split at c0
          · cases c0
          · rename_i hs; cases spot with
            | none => rfl
            | some s => simp [Addr.add] at hs
        · cases c0
      subst hspot
      obtain ⟨o, ho⟩ : ∃ o, W.heap[blk0]? = some o := by
        unfold World.cell? at c0
        split at c0
        · rename_i c t' fr' hh; exact ⟨_, hh⟩
        · cases c0
      have hb0 : blk0 ≠ 0 := by
        rintro rfl
        rw [h0] at ho
        rw [Addr.add_eq rfl] at c2
        simp only [World.cell?, h0, Option.isSome_none, Bool.false_eq_true, if_false, List.getElem?_toArray] at c2
        have hall : ∀ v ∈ lensC, ∃ n, v = Value.int .i64 n := by
          intro v hv
          obtain ⟨n, _, rfl⟩ := List.mem_map.1 hv
          exact ⟨n, rfl⟩
        obtain ⟨n, hn⟩ := hall _ (List.mem_of_getElem? c2)
        cases hn
      refine ac_below (R := pt blk0 o) (hr := at1 blk0 o) (fun _ => pt_eq) (pt_at1 _ _) (fun _ => pt_eq) (pt_at1 _ _) (fun b => ?_) (fun b o' hb => ?_) s0 (hac (pt blk0 o) _ rfl (Rd.rds ?_) hlen hok hcap _ lens_rd)
      · by_cases e : b = 0
        · left; subst e; simp [at1, Ne.symm hb0]
        · right; simp [at1, e]
      · unfold at1 at hb
        split at hb
        · rename_i e; cases hb; rw [e]; exact ho
        · cases hb
      · intro h hp
        have c0' := c0
        unfold World.cell? at c0'
        rw [show ((⟨blk0, off, none⟩ : Addr).add 0).block = blk0 by rw [Addr.add_eq rfl], ho] at c0'
        match o, ho with
        | .cells cs t' fr', ho =>
          refine ⟨cs, t', fr', by rw [hp]; simp, rfl, fun j v hj => ?_⟩
          have := hcell j v hj
          rw [Addr.add_eq rfl] at this
          simpa only [World.cell?, ho, Option.isSome_none, Bool.false_eq_true, if_false] using this
        | .map es c, ho => cases c0'
theorem cof23 : Tryz.prog.cellsOf 23 = 2 := by kernel_rfl
theorem way_of {H : Type} {enc : TypeId × Value → H} {W : World} {sp : Nat → Bool} {held : Bool} {fuel : Nat} {cs : List Value} {x : DataW H × List MemPlace} (h : DataW.trod enc Tryz.prog W 0 sp held fuel 23 cs = some x) : ∃ k p : Int, cs = [I k, I p] := by
  obtain ⟨xs, n, _, _, hl, hxl, hf⟩ := DataW.trod_struct Tryz.underlying23 h
  rw [cof23] at hl
  have hsz : xs.length = 2 := hxl
  have get : ∀ i, i < 2 → ∃ y, xs[i]? = some y := fun i hi => ⟨_, List.getElem?_eq_getElem (by omega)⟩
  have f0 : DataW.trod enc Tryz.prog W 0 sp held n 3 ((cs.drop 0).take (Tryz.prog.cellsOf 3)) = xs[0]? := hf 0 _ rfl
  have f1 : DataW.trod enc Tryz.prog W 0 sp held n 3 ((cs.drop 1).take (Tryz.prog.cellsOf 3)) = xs[1]? := hf 1 _ rfl
  rw [cof3] at f0 f1
  obtain ⟨y0, e0⟩ := get 0 (by decide); obtain ⟨y1, e1⟩ := get 1 (by decide)
  obtain ⟨n0, h0, _⟩ := int_at (f0.trans e0); obtain ⟨n1, h1, _⟩ := int_at (f1.trans e1)
  clear f0 f1 hf get
  match cs, hl with
  | [c0, c1], _ =>
    simp at h0 h1
    subst h0 h1
    exact ⟨n0, n1, rfl⟩
theorem knob0 : ownKnob Tryz.prog.godebug = none := by kernel_rfl
theorem laidOut : laidOutB Tryz.prog = true := by kernel_rfl
theorem door_met (os : Os) (args : Array Value) : laidMetH Tryz.prog laid1 ((World.doorLaid Tryz.prog 400 os).forCall (fun _ _ => 0) ⟨#[], args, []⟩).memory :=
  laidMetH_of_parts3 (fuel := 8) (laidMet_of_run' 8 (by kernel_rfl) (by kernel_rfl)) (by kernel_rfl) (by kernel_rfl)
end Go.Proofs.YtcpghpifbgpkjaaGreatDoor
