/- Laws of the walks and of the models, part 5 (merged by program). -/
import Derived.Test.YtncidoakeflboaaGreatDoorB4
set_option linter.unusedVariables false
set_option linter.unusedSimpArgs false
set_option maxRecDepth 20000
set_option maxHeartbeats 4000000
namespace Go.Proofs.YtncidoakeflboaaGreatDoor
open Go Go.SL Go.Proofs
section
attribute [local irreducible] OpJ RunL Run RunD DetJ pt own star Rd RdS
theorem c_fxNew (R : HP) (hR0 : Rd R ⟨0, 0, none⟩ lensC) (base : ByteArray) (hb : (base.size : Int) ≤ 9223372036854775807) (oa : Option Addr) (cap : Nat) (l : List Rt) (hR : RdS R oa (l.flatMap Rt.c)) (hz : ∀ r ∈ l, (r.cur.size : Int) ≤ 9223372036854775807 ∧ i64 r.n ∧ i64 r.d) (hl : l.length ≤ 140737488355328) : AC Tryz.prog 23 ⟨[St base, .slice oa l.length cap]⟩ (stars [R]) (Outs (fun x : Option Fxv × Int × Int => x.1.isSome = fxB base l ∧ FxOk x.1 base l) (fun x => .tuple ⟨[fxV x.1, I x.2.1, I x.2.2]⟩) (fun x => [fxH 103 107 x.1, R])) := by
 refine AC.go Tryz.func23 rfl (Nat.le_of_ble_eq_true rfl) fun β => ?_
 refine sr ?_
 refine sx 3 ?_
 refine kp [0, 1] rfl ?_
 refine Run.seq ?_
 refine sr ?_
 refine mvo rfl rfl ?_
 refine RunL.call C47 rfl rfl rfl (c_Cur _ hb) .nil ?_
 refine RunL.op rfl rfl (OpJ.not rfl ?_)
 refine kp [0, 1, 12] rfl ?_
 first | refine Run.if rfl (fun h1 => ?_) (fun h1 => ?_) | refine Run.cond rfl (fun h1 => ?_) (fun h1 => ?_)
 refine sr ?_
 refine RunL.fxNone 103 107 ?_
 refine sx 3 ?_
 refine kp [4, 5, 6] rfl ?_
 refine Run.ret ?_
 have hno : fxB base l = false := by unfold fxB; simp_all
 exact ret_out (none, 0, 13) (.tmp rfl (.tmp rfl (.tmp rfl .nil))) ⟨hno.symm, (fun y h => by cases h), fun h => by cases h⟩ rfl gv
 refine Run.skip ?_
 refine Run.seq ?_
 refine sr ?_
 refine sx 3 ?_
 refine kp [0, 1, 15] rfl ?_
 first | refine Run.if rfl (fun h2 => ?_) (fun h2 => ?_) | refine Run.cond rfl (fun h2 => ?_) (fun h2 => ?_)
 refine sr ?_
 refine RunL.fxNone 103 107 ?_
 refine sx 3 ?_
 refine kp [4, 5, 6] rfl ?_
 refine Run.ret ?_
 have hno : fxB base l = false := by unfold fxB; rw [decide_eq_false (by omega), Bool.and_false, Bool.false_and]
 exact ret_out (none, 0, 9) (.tmp rfl (.tmp rfl (.tmp rfl .nil))) ⟨hno.symm, (fun y h => by cases h), fun h => by cases h⟩ rfl gv
 refine Run.skip ?_
 refine sr ?_
 refine sx 3 ?_
 refine RunL.op rfl rfl (OpJ.makeMap fun bm => ?_)
 refine sx 1 ?_
 refine RunL.op rfl rfl (OpJ.boxA rfl fun b21 => ?_)
 refine asg rfl rfl ?_
 refine kp [0, 1, 4] rfl ?_
 refine Run.seq ?_
 refine sr ?_
 refine RunL.bigNil (srH 107) ?_
 refine sx 3 ?_
 refine kp [0, 4, 22, 23, 24] rfl ?_
 refine Run.block ?_
 refine Run.weak (L' := [pt b21 (blk [St base, I l.length, .map (some bm)] 103), amap bm srF srG [], big (srH 107) [], R]) (fun _ _ h => h) gv ?_
 refine Run.loop (fun mm E L => ∃ (i : Nat) (m : List Sr), mm = l.length - i ∧ i ≤ l.length ∧ FxI base l i ∧ TabI m (l.take i) ∧ E = [(0, St base), (4, .pointer (some ⟨b21, 0, none⟩)), (22, .slice oa l.length cap), (23, I l.length), (24, I i)] ∧ L = [pt b21 (blk [St base, I l.length, .map (some bm)] 103), amap bm srF srG m, big (srH 107) m, R]) ⟨_, 0, [], rfl, Nat.zero_le _, FxI.start, TabI.start, rfl, rfl⟩ ?_
 rintro _ _ _ ⟨i, m, rfl, hi, hI, hT, rfl, rfl⟩
 refine sr ?_
 refine sx 1 ?_
 refine kp [0, 4, 22, 23, 24, 25] rfl ?_
 refine Run.seq ?_
 first | refine Run.if rfl (fun h3 => ?_) (fun h3 => ?_) | refine Run.cond rfl (fun h3 => ?_) (fun h3 => ?_)
 refine Run.skip ?_
 refine Run.seq ?_
 refine Run.block ?_
 refine sr ?_
 obtain ⟨r, hx⟩ := get_ex (xs := l) (i := i) (by omega)
 have hzr := hz r (List.mem_of_getElem? hx)
 refine RunL.rdOpen pk hR (flat_ne (k := 5) (fun _ => rfl) (by decide) hx) fun bo oo e hrd => ?_
 subst e
 refine sx 2 ?_
 refine RunL.op rfl rfl (OpJ.loadA T107 rfl pk (hrd.elem (fun _ => rfl) hx) rfl ?_)
 refine RunL.op rfl rfl (OpJ.alloc Z107 fun b8 => ?_)
 refine asg rfl rfl ?_
 refine RunL.op rfl rfl (OpJ.storeW T107 rfl rfl rfl rfl (by simp [Value.oneCell', Tg.c, Ln.c, En.c, Ac.c, Cl.c, Ky.c, Qy.c, Sb, Iv, Cs.c, Rt.c]) up ?_)
 refine kp [0, 4, 7, 8, 22, 23, 24] rfl ?_
 refine Run.seq ?_
 refine sr ?_
 refine sx 2 ?_
 refine RunL.call C48 rfl rfl rfl (c_fxchk base r R hR0 hzr.1 hzr.2.1 hzr.2.2) tks ?_
 refine asg rfl rfl ?_
 refine kp [0, 4, 7, 8, 9, 22, 23, 24] rfl ?_
 refine sr ?_
 refine sx 2 ?_
 refine kp [0, 4, 7, 8, 9, 22, 23, 24, 33] rfl ?_
 first | refine Run.if rfl (fun h4 => ?_) (fun h4 => ?_) | refine Run.cond rfl (fun h4 => ?_) (fun h4 => ?_)
 refine sr ?_
 refine RunL.fxNone 103 107 ?_
 refine sx 5 ?_
 refine kp [4, 5, 6] rfl ?_
 refine Run.ret ?_
 have hno := fx_no (base := base) hx (fun h => (show ¬ rtE base r = 0 by simpa using h4) h.1)
 exact ret_out (none, (i : Int), rtE base r) (.tmp rfl (.tmp rfl (.tmp rfl .nil))) ⟨hno.symm, (fun y h => by cases h), fun h => by cases h⟩ rfl gv
 refine Run.skip ?_
 refine sr ?_
 refine sx 2 ?_
 refine RunL.callX C49 rfl rfl rfl (c_fins b21 bm base l.length m (l.take i) r hT (ser_pair (base := base) r.cur r.kind hI (by omega)) (by rw [List.length_take]; omega)) tks fun ix _ => ?_
 refine RunL.op rfl rfl (OpJ.not rfl ?_)
 refine kp [0, 4, 7, 22, 23, 24, 39] rfl ?_
 first | refine Run.if rfl (fun h5 => ?_) (fun h5 => ?_) | refine Run.cond rfl (fun h5 => ?_) (fun h5 => ?_)
 refine sr ?_
 refine RunL.fxNone 103 107 ?_
 refine sx 4 ?_
 refine kp [4, 5, 6] rfl ?_
 refine Run.ret ?_
 have hno := fx_no (base := base) hx (fun h => by rw [h.2] at h5; simp at h5)
 exact ret_out (none, (i : Int), 8) (.tmp rfl (.tmp rfl (.tmp rfl .nil))) ⟨hno.symm, (fun y h => by cases h), fun h => by cases h⟩ rfl gv
 refine Run.skip ?_
 refine Run.region ?_
 refine sx 2 ?_
 have h0 : rtE base r = 0 := by simpa using h4
 have hn : newR (l.take i) r = true := by simpa using h5
 have hT2 := hT.step (r := r) ix.1 ix.2
 rw [← take_step hx] at hT2
 rw [show insT m (l.take i) r ix = (kSet srK ⟨r.cur, r.kind, ix.1, ix.2, insR r (srAt m r.cur r.kind).l⟩ m) from if_pos hn]
 exact RunL.next (Keep.sub (kt (ks := [0, 4, 22, 23, 24]) rfl)) _ ⟨_, by omega, i + 1, _, rfl, by omega, hI.step hx h0 hn, hT2, rfl, rfl⟩ gv
 refine Run.exit ?_
 refine sr ?_
 obtain rfl : i = l.length := by omega
 rw [List.take_length] at hT
 refine RunL.fxSome 103 107 ⟨b21, bm, base, l.length, m⟩ tks ?_
 refine sx 4 ?_
 refine kp [4, 5, 6] rfl ?_
 refine Run.ret ?_
 have hyes := fx_ok (base := base) (l := l) (by simpa using h1) (by omega) hI (Nat.le_refl _)
 exact ret_out (some ⟨b21, bm, base, l.length, m⟩, 0, 0) (.tmp rfl (.tmp rfl (.tmp rfl .nil))) ⟨hyes.symm, (fun y h => by cases h; exact ⟨rfl, hT⟩), fun _ => hyes⟩ rfl gv
theorem c_fxBase (b bm : Nat) (base : ByteArray) (n : Int) : AC Tryz.prog 90 ⟨[.pointer (some ⟨b, 0, none⟩)]⟩ (stars [pt b (blk [St base, I n, .map (some bm)] 103)]) (Ret (St base) [pt b (blk [St base, I n, .map (some bm)] 103)]) := by
 refine AC.go Tryz.func90 rfl (Nat.le_of_ble_eq_true rfl) fun β => ?_
 refine sr ?_
 refine asg rfl rfl ?_
 refine kp [0] rfl ?_
 refine Run.seq ?_
 refine sr ?_
 refine sx 2 ?_
 refine kp [0, 4] rfl ?_
 refine Run.false rfl ?_
 refine Run.skip ?_
 refine sr ?_
 refine sx 5 ?_
 refine kp [2] rfl ?_
 refine Run.ret ?_
 exact ret_one (.tmp rfl .nil) (rfl) gv
theorem c_find (b bm : Nat) (base : ByteArray) (n : Int) (m : List Sr) (l : List Rt) (hT : TabI m l) (hok : fxB base l = true) (cur : ByteArray) (kind on : Int) (R : HP) (hR : Rd R ⟨0, 0, none⟩ lensC) (hz : (cur.size : Int) ≤ 9223372036854775807) : AC Tryz.prog 164 ⟨[.pointer (some ⟨b, 0, none⟩), St cur, I kind, I on]⟩ (stars [pt b (blk [St base, I n, .map (some bm)] 103), amap bm srF srG m, big (srH 107) m, R]) (Ret (.tuple ⟨[.agg ⟨[I (findM base l cur kind on).1, I (findM base l cur kind on).2.1]⟩, I (findM base l cur kind on).2.2]⟩) [pt b (blk [St base, I n, .map (some bm)] 103), amap bm srF srG m, big (srH 107) m, R]) := by
 have hql : (srAt m cur kind).l = serL l cur kind := hT _ _
 have hsn := @ser_len l cur kind
 have hsl : l.length ≤ 2000 := (by unfold fxB at hok; simp at hok; omega)
 have hqn : (srAt m cur kind).l.length ≤ 2000 := (by rw [hql]; omega)
 have hp := fx_sorted hok cur kind
 rw [← hql] at hp
 refine AC.go Tryz.func164 rfl (Nat.le_of_ble_eq_true rfl) fun β => ?_
 refine sr ?_
 refine RunL.op rfl rfl (OpJ.alloc Z105 fun b8 => ?_)
 refine asg rfl rfl ?_
 refine kp [0, 1, 2, 3, 8] rfl ?_
 refine Run.seq ?_
 refine Run.block ?_
 refine sr ?_
 refine sx 2 ?_
 skip
 refine asg rfl rfl ?_
 refine kp [0, 1, 2, 3, 8, 12] rfl ?_
 refine Run.false rfl ?_
 refine sr ?_
 refine mvo rfl rfl ?_
 refine RunL.call C47 rfl rfl rfl (c_Cur _ hz) .nil ?_
 refine sx 2 ?_
 refine kp [0, 1, 2, 3, 8, 16] rfl ?_
 first | refine Run.if rfl (fun h1 => ?_) (fun h1 => ?_) | refine Run.cond rfl (fun h1 => ?_) (fun h1 => ?_)
 refine sr ?_
 refine sx 1 ?_
 refine RunL.op rfl rfl (OpJ.storeW T105 rfl rfl rfl rfl (by simp [Value.oneCell', Tg.c, Ln.c, En.c, Ac.c, Cl.c, Ky.c, Qy.c, Sb, Iv, Cs.c, Rt.c]) up ?_)
 refine asg rfl rfl ?_
 refine kp [8, 9] rfl ?_
 refine Run.ret ?_
 exact ret_one (.cellA T105 rfl pk (by rfl) (.tmp rfl .nil)) (by unfold findM; simp_all [tup]) gv
 refine sr ?_
 refine mvo rfl rfl ?_
 refine RunL.call C81 rfl rfl rfl (c_known _) .nil ?_
 refine sx 2 ?_
 refine kp [0, 1, 2, 3, 8, 21] rfl ?_
 first | refine Run.if rfl (fun h2 => ?_) (fun h2 => ?_) | refine Run.cond rfl (fun h2 => ?_) (fun h2 => ?_)
 refine sr ?_
 refine sx 1 ?_
 refine RunL.op rfl rfl (OpJ.storeW T105 rfl rfl rfl rfl (by simp [Value.oneCell', Tg.c, Ln.c, En.c, Ac.c, Cl.c, Ky.c, Qy.c, Sb, Iv, Cs.c, Rt.c]) up ?_)
 refine asg rfl rfl ?_
 refine kp [8, 9] rfl ?_
 refine Run.ret ?_
 exact ret_one (.cellA T105 rfl pk (by rfl) (.tmp rfl .nil)) (by unfold findM; simp_all [tup]) gv
 refine sr ?_
 refine mvo rfl rfl ?_
 refine RunL.call C82 rfl rfl rfl (c_fxday on R hR) tks ?_
 refine sx 2 ?_
 refine kp [0, 1, 2, 3, 8, 26] rfl ?_
 first | refine Run.if rfl (fun h3 => ?_) (fun h3 => ?_) | refine Run.cond rfl (fun h3 => ?_) (fun h3 => ?_)
 refine sr ?_
 refine sx 1 ?_
 refine RunL.op rfl rfl (OpJ.storeW T105 rfl rfl rfl rfl (by simp [Value.oneCell', Tg.c, Ln.c, En.c, Ac.c, Cl.c, Ky.c, Qy.c, Sb, Iv, Cs.c, Rt.c]) up ?_)
 refine asg rfl rfl ?_
 refine kp [8, 9] rfl ?_
 refine Run.ret ?_
 exact ret_one (.cellA T105 rfl pk (by rfl) (.tmp rfl .nil)) (by unfold findM; simp_all [tup]) gv
 refine sr ?_
 refine sx 7 ?_
 refine kp [0, 1, 2, 3, 8, 31] rfl ?_
 first | refine Run.if rfl (fun h4 => ?_) (fun h4 => ?_) | refine Run.cond rfl (fun h4 => ?_) (fun h4 => ?_)
 refine sr ?_
 refine sx 1 ?_
 refine RunL.op rfl rfl (OpJ.storeW T105 rfl rfl rfl rfl (by simp [Value.oneCell', Tg.c, Ln.c, En.c, Ac.c, Cl.c, Ky.c, Qy.c, Sb, Iv, Cs.c, Rt.c]) up ?_)
 refine asg rfl rfl ?_
 refine kp [8, 9] rfl ?_
 refine Run.ret ?_
 exact ret_one (.cellA T105 rfl pk (by rfl) (.tmp rfl .nil)) (by unfold findM; simp_all [tup]) gv
 refine Run.skip ?_
 refine sr ?_
 refine sx 7 ?_
 refine RunL.op rfl rfl (OpJ.lookupSr (c := cur) (k := kind) kaSer mpSer zvSer rfl rfl pk ?_)
 refine asg rfl rfl ?_
 refine kp [3, 8, 10] rfl ?_
 refine sr ?_
 have hon := inB_iff.1 (show inB on 0 109572 = true by simpa using h3)
 refine RunL.srOut cur kind pk ?_
 refine sx 3 ?_
 refine RunL.callX C85 rfl rfl rfl (c_search (own 107 5 (srAt m cur kind).a (srAt m cur kind).l.length (srAt m cur kind).c ((srAt m cur kind).l.flatMap Rt.c)) _ _ (srAt m cur kind).l (on + 1) own.rds (by omega) hp) tks fun k hk => ?_
 refine asg rfl rfl ?_
 refine kp [8, 10, 11] rfl ?_
 refine Run.seq ?_
 refine sr ?_
 refine sx 2 ?_
 refine kp [8, 10, 11, 52] rfl ?_
 first | refine Run.if rfl (fun h5 => ?_) (fun h5 => ?_) | refine Run.cond rfl (fun h5 => ?_) (fun h5 => ?_)
 refine sr ?_
 refine RunL.srBack 107 m cur kind pk pk ?_
 refine sx 1 ?_
 refine RunL.op rfl rfl (OpJ.storeW T105 rfl rfl rfl rfl (by simp [Value.oneCell', Tg.c, Ln.c, En.c, Ac.c, Cl.c, Ky.c, Qy.c, Sb, Iv, Cs.c, Rt.c]) up ?_)
 refine asg rfl rfl ?_
 refine kp [8, 9] rfl ?_
 refine Run.ret ?_
 have hla := (last_at hp hk.2.1 hk.2.2).1 (by omega)
 rw [hql] at hla
 exact ret_one (.cellA T105 rfl pk (by rfl) (.tmp rfl .nil)) (by unfold findM; rw [hla]; simp_all [tup]) gv
 refine Run.skip ?_
 refine sr ?_
 obtain ⟨z, hzk⟩ := get_ex (xs := (srAt m cur kind).l) (i := k - 1) (by have := hk.1; omega)
 refine RunL.ownAddr pk (flat_ne (k := 5) (fun _ => rfl) (by decide) hzk) fun b2 e2 hc2 => ?_
 rw [e2]
 refine sx 3 ?_
 refine RunL.set (v := I ((k - 1 : Nat) : Int)) (congrArg I (by omega)) ?_
 refine sx 2 ?_
 refine RunL.op rfl rfl (OpJ.loadA T105 rfl pk (Rd.tl (p := [St z.cur, I z.kind, I z.day]) (q := [I z.n, I z.d]) ((own.rd (flat_ne (k := 5) (fun _ => rfl) (by decide) hzk)).elem (enc := Rt.c) (fun _ => rfl) hzk)) rfl ?_)
 refine RunL.op rfl rfl (OpJ.storeW T105 rfl rfl rfl rfl (by simp [Value.oneCell', Tg.c, Ln.c, En.c, Ac.c, Cl.c, Ky.c, Qy.c, Sb, Iv, Cs.c, Rt.c]) up ?_)
 refine RunL.imp (own 107 5 (some ⟨b2, 0, none⟩) (srAt m cur kind).l.length (srAt m cur kind).c ((srAt m cur kind).l.flatMap Rt.c)) (own 107 5 (srAt m cur kind).a (srAt m cur kind).l.length (srAt m cur kind).c ((srAt m cur kind).l.flatMap Rt.c)) up (fun h hh => by rw [e2]; exact hh) ?_
 refine RunL.srBack 107 m cur kind pk pk ?_
 refine asg rfl rfl ?_
 refine kp [8, 9] rfl ?_
 refine Run.ret ?_
 have hla := (last_at hp hk.2.1 hk.2.2).2 z (by omega) hzk
 rw [hql] at hla
 exact ret_one (.cellA T105 rfl pk (by rfl) (.tmp rfl .nil)) (by unfold findM; rw [hla]; simp_all [tup]) gv
theorem c_fxdiv (a b : Int) (ha : 0 ≤ a) (hb : 0 ≤ b) : AC Tryz.prog 165 ⟨[I a, I b]⟩ (stars []) (Ret (I (Int.gcd a b : Int)) []) := by
 refine AC.go Tryz.func165 rfl (Nat.le_of_ble_eq_true rfl) fun β => ?_
 refine sr ?_
 refine asg rfl rfl ?_
 refine kp [0, 1] rfl ?_
 refine Run.seq ?_
 refine Run.block ?_
 refine Run.loop (fun mm E L => ∃ x y : Int, mm = y.toNat ∧ GcI a b x y ∧ E = [(0, I x), (1, I y)] ∧ L = []) ⟨_, a, b, rfl, GcI.start ha hb, rfl, rfl⟩ ?_
 rintro _ _ _ ⟨x, y, rfl, hG, rfl, rfl⟩
 refine Run.seq ?_
 refine sr ?_
 refine sx 2 ?_
 refine kp [0, 1, 6] rfl ?_
 first | refine Run.if rfl (fun h1 => ?_) (fun h1 => ?_) | refine Run.cond rfl (fun h1 => ?_) (fun h1 => ?_)
 refine Run.skip ?_
 refine Run.block ?_
 refine regionD HM ?_
 refine tk 0 rfl rfl rfl (DetJ.move rfl) ?_
 refine tk 1 rfl rfl rfl (DetJ.move rfl) ?_
 refine tk 2 rfl rfl rfl (DetJ.move rfl) ?_
 refine tk 3 rfl rfl rfl (DetJ.rem rfl rfl (by omega)) ?_
 refine RunD.set (congrArg I (show _ = x % y by rw [Int.tmod_eq_emod_of_nonneg hG.a0])) ?_
 refine tk 4 rfl rfl rfl (DetJ.assign rfl) ?_
 refine tk 5 rfl rfl rfl (DetJ.assign rfl) ?_
 refine kd [0, 1] rfl ?_
 have hst := hG.step (by omega)
 exact ⟨_, by have := hst.1.b0; have := hst.2; have := hG.b0; omega, y, x % y, rfl, hst.1, rfl, rfl⟩
 refine Run.exit ?_
 refine sr ?_
 refine sx 2 ?_
 refine kp [4] rfl ?_
 refine Run.ret ?_
 exact ret_one (.tmp rfl .nil) (congrArg I (hG.done (by have := hG.b0; omega))) gv
theorem c_cross (b bm : Nat) (base : ByteArray) (n : Int) (m : List Sr) (l : List Rt) (hT : TabI m l) (hok : fxB base l = true) (from_ to : ByteArray) (kind on : Int) (R : HP) (hR : Rd R ⟨0, 0, none⟩ lensC) (hz : (from_.size : Int) ≤ 9223372036854775807) (hz2 : (to.size : Int) ≤ 9223372036854775807) : AC Tryz.prog 124 ⟨[.pointer (some ⟨b, 0, none⟩), St from_, St to, I kind, I on]⟩ (stars [pt b (blk [St base, I n, .map (some bm)] 103), amap bm srF srG m, big (srH 107) m, R]) (Ret (.tuple ⟨[I (crossM base l from_ to kind on).1, I (crossM base l from_ to kind on).2.1, I (crossM base l from_ to kind on).2.2]⟩) [pt b (blk [St base, I n, .map (some bm)] 103), amap bm srF srG m, big (srH 107) m, R]) := by
 refine AC.go Tryz.func124 rfl (Nat.le_of_ble_eq_true rfl) fun β => ?_
 refine sr ?_
 refine sx 3 ?_
 refine kp [0, 1, 2, 3, 4] rfl ?_
 refine sr ?_
 refine sx 4 ?_
 refine RunL.call C164 rfl rfl rfl (c_find b bm base n m l hT hok from_ kind on R hR hz) tks ?_
 refine sx 3 ?_
 refine RunL.op rfl rfl (OpJ.alloc Z105 fun b13 => ?_)
 refine RunL.op rfl rfl (OpJ.storeW T105 rfl rfl rfl rfl (by simp [Value.oneCell', Tg.c, Ln.c, En.c, Ac.c, Cl.c, Ky.c, Qy.c, Sb, Iv, Cs.c, Rt.c]) up ?_)
 refine asg rfl rfl ?_
 refine kp [0, 2, 3, 4, 12, 13] rfl ?_
 refine Run.seq ?_
 refine sr ?_
 refine sx 2 ?_
 refine kp [0, 2, 3, 4, 12, 13, 25] rfl ?_
 first | refine Run.if rfl (fun h1 => ?_) (fun h1 => ?_) | refine Run.cond rfl (fun h1 => ?_) (fun h1 => ?_)
 refine sr ?_
 refine sx 4 ?_
 refine kp [10, 11, 12] rfl ?_
 refine Run.ret ?_
 exact ret_one (.tmp rfl (.tmp rfl (.tmp rfl .nil))) (by unfold crossM; rw [if_neg (by simpa using h1)]; rfl) gv
 refine Run.skip ?_
 refine sr ?_
 refine sx 4 ?_
 refine RunL.call C164 rfl rfl rfl (c_find b bm base n m l hT hok to kind on R hR hz2) tks ?_
 refine sx 3 ?_
 refine RunL.op rfl rfl (OpJ.alloc Z105 fun b14 => ?_)
 refine RunL.op rfl rfl (OpJ.storeW T105 rfl rfl rfl rfl (by simp [Value.oneCell', Tg.c, Ln.c, En.c, Ac.c, Cl.c, Ky.c, Qy.c, Sb, Iv, Cs.c, Rt.c]) up ?_)
 refine asg rfl rfl ?_
 refine kp [12, 13, 14] rfl ?_
 refine Run.seq ?_
 refine sr ?_
 refine sx 2 ?_
 refine kp [12, 13, 14, 36] rfl ?_
 first | refine Run.if rfl (fun h2 => ?_) (fun h2 => ?_) | refine Run.cond rfl (fun h2 => ?_) (fun h2 => ?_)
 refine sr ?_
 refine sx 4 ?_
 refine kp [10, 11, 12] rfl ?_
 refine Run.ret ?_
 exact ret_one (.tmp rfl (.tmp rfl (.tmp rfl .nil))) (by unfold crossM; rw [if_pos (by simpa using h1), if_neg (by simpa using h2)]; rfl) gv
 refine Run.skip ?_
 refine Run.seq ?_
 refine regionD HM ?_
 have hf1 : (findM base l from_ kind on).2.2 = 0 := by simpa using h1
 have hf2 : (findM base l to kind on).2.2 = 0 := by simpa using h2
 have bd1 := find_bd hok hf1; have bd2 := find_bd hok hf2
 have p1 := bd_mul bd1.1 bd2.2; have p2 := bd_mul bd1.2 bd2.1
 refine tk 0 rfl rfl rfl (DetJ.fieldAddr F105_0 rfl) ?_
 first | refine RunD.takeF 1 rfl rfl kr T3 rfl pk (by rfl) ?_ | refine RunD.takeO 1 rfl rfl kr T3 rfl pk (by assumption) (by rfl) (by exact fun _ => rfl) ?_
 refine tk 2 rfl rfl rfl (DetJ.fieldAddr F105_1 rfl) ?_
 first | refine RunD.takeF 3 rfl rfl kr T3 rfl pk (by rfl) ?_ | refine RunD.takeO 3 rfl rfl kr T3 rfl pk (by assumption) (by rfl) (by exact fun _ => rfl) ?_
 refine tk 4 rfl rfl rfl (DetJ.mul rfl rfl) ?_
 refine RunD.set (v := I ((findM base l from_ kind on).1 * (findM base l to kind on).2.1)) (congrArg I (wrap_i64_in (by omega))) ?_
 refine tk 5 rfl rfl rfl (DetJ.fieldAddr F105_1 rfl) ?_
 first | refine RunD.takeF 6 rfl rfl kr T3 rfl pk (by rfl) ?_ | refine RunD.takeO 6 rfl rfl kr T3 rfl pk (by assumption) (by rfl) (by exact fun _ => rfl) ?_
 refine tk 7 rfl rfl rfl (DetJ.fieldAddr F105_0 rfl) ?_
 first | refine RunD.takeF 8 rfl rfl kr T3 rfl pk (by rfl) ?_ | refine RunD.takeO 8 rfl rfl kr T3 rfl pk (by assumption) (by rfl) (by exact fun _ => rfl) ?_
 refine tk 9 rfl rfl rfl (DetJ.mul rfl rfl) ?_
 refine RunD.set (v := I ((findM base l from_ kind on).2.1 * (findM base l to kind on).1)) (congrArg I (wrap_i64_in (by omega))) ?_
 refine tk 10 rfl rfl rfl (DetJ.assign rfl) ?_
 refine tk 11 rfl rfl rfl (DetJ.assign rfl) ?_
 refine kd [10, 11] rfl ?_
 refine sr ?_
 refine sx 2 ?_
 refine RunL.call C165 rfl rfl rfl (c_fxdiv _ _ (by omega) (by omega)) .nil ?_
 refine asg rfl rfl ?_
 refine kp [10, 11, 15] rfl ?_
 refine Run.seq ?_
 refine regionD HM ?_
 have g1 := gcd_pos (d := (findM base l from_ kind on).2.1 * (findM base l to kind on).1) p1.1
 have q1 := div_bd p1.1 g1 p1.2; have q2 := div_bd p2.1 (gcd_pos' (n := (findM base l from_ kind on).1 * (findM base l to kind on).2.1) p2.1) p2.2
 refine tk 0 rfl rfl rfl (DetJ.move rfl) ?_
 refine tk 1 rfl rfl rfl (DetJ.move rfl) ?_
 refine tk 2 rfl rfl rfl (DetJ.quo rfl rfl (by omega)) ?_
 refine RunD.set (v := I ((crossM base l from_ to kind on).1)) (congrArg I (by rw [Int.tdiv_eq_ediv_of_nonneg (by omega), wrap_i64_in (by omega)]; unfold crossM; rw [if_pos hf1, if_pos hf2])) ?_
 refine tk 3 rfl rfl rfl (DetJ.move rfl) ?_
 refine tk 4 rfl rfl rfl (DetJ.move rfl) ?_
 refine tk 5 rfl rfl rfl (DetJ.quo rfl rfl (by omega)) ?_
 refine RunD.set (v := I ((crossM base l from_ to kind on).2.1)) (congrArg I (by rw [Int.tdiv_eq_ediv_of_nonneg (by omega), wrap_i64_in (by omega)]; unfold crossM; rw [if_pos hf1, if_pos hf2])) ?_
 refine tk 6 rfl rfl rfl (DetJ.assign rfl) ?_
 refine tk 7 rfl rfl rfl (DetJ.assign rfl) ?_
 refine tk 8 rfl rfl rfl (DetJ.assign rfl) ?_
 refine kd [10, 11, 12] rfl ?_
 refine Run.ret ?_
 exact ret_one (.tmp rfl (.tmp rfl (.tmp rfl .nil))) (by unfold crossM; rw [if_pos hf1, if_pos hf2]; rfl) gv
theorem c_fxlarge (n : Int) : AC Tryz.prog 125 ⟨[I n]⟩ (stars []) (Ret (Bo (largeB n)) []) := by
 refine AC.go Tryz.func125 rfl (Nat.le_of_ble_eq_true rfl) fun β => ?_
 refine sr ?_
 refine asg rfl rfl ?_
 refine kp [0] rfl ?_
 refine sr ?_
 refine sx 3 ?_
 first | refine RunL.splitP (t := 5) rfl (fun g1 => ?_) (fun g1 => ?_) | refine RunL.split (t := 5) rfl (fun g1 => ?_) (fun g1 => ?_)
 refine sx 4 ?_
 refine kp [2] rfl ?_
 refine Run.ret ?_
 exact ret_one (.tmp rfl .nil) (by first | (simp [tup, largeB,  *]; done) | (exfalso; omega)) gv
 refine sx 4 ?_
 refine kp [2] rfl ?_
 refine Run.ret ?_
 exact ret_one (.tmp rfl .nil) (by first | (simp [tup, largeB,  *]; done) | (exfalso; omega)) gv
theorem c_conv (b bm : Nat) (base : ByteArray) (n : Int) (m : List Sr) (l : List Rt) (hT : TabI m l) (hok : fxB base l = true) (a : Int) (ha : i64 a) (from_ to : ByteArray) (kind on mode : Int) (R : HP) (hR : Rd R ⟨0, 0, none⟩ lensC) (hz : (from_.size : Int) ≤ 9223372036854775807) (hz2 : (to.size : Int) ≤ 9223372036854775807) : AC Tryz.prog 89 ⟨[.pointer (some ⟨b, 0, none⟩), I a, St from_, St to, I kind, I on, I mode]⟩ (stars [pt b (blk [St base, I n, .map (some bm)] 103), amap bm srF srG m, big (srH 107) m, R]) (Ret (.tuple ⟨[I (convM base l a from_ to kind on mode).1, I (convM base l a from_ to kind on mode).2]⟩) [pt b (blk [St base, I n, .map (some bm)] 103), amap bm srF srG m, big (srH 107) m, R]) := by
 refine AC.go Tryz.func89 rfl (Nat.le_of_ble_eq_true rfl) fun β => ?_
 refine sr ?_
 refine sx 2 ?_
 refine kp [0, 1, 2, 3, 4, 5, 6] rfl ?_
 refine Run.seq ?_
 refine sr ?_
 refine sx 2 ?_
 refine kp [0, 1, 2, 3, 4, 5, 6, 19] rfl ?_
 refine Run.false rfl ?_
 refine Run.skip ?_
 refine Run.seq ?_
 refine sr ?_
 refine sx 3 ?_
 first | refine RunL.splitP (t := 22) rfl (fun g1 => ?_) (fun g1 => ?_) | refine RunL.split (t := 22) rfl (fun g1 => ?_) (fun g1 => ?_)
 refine sx 3 ?_
 refine kp [0, 1, 2, 3, 4, 5, 6, 25] rfl ?_
 refine Run.true rfl ?_
 refine sr ?_
 refine sx 2 ?_
 refine kp [14, 15] rfl ?_
 refine Run.ret ?_
 exact ret_one (.tmp rfl (.tmp rfl .nil)) (by unfold convM; rw [if_pos (by omega)]; rfl) gv
 refine sx 3 ?_
 refine kp [0, 1, 2, 3, 4, 5, 6, 25] rfl ?_
 first | refine Run.if rfl (fun h2 => ?_) (fun h2 => ?_) | refine Run.cond rfl (fun h2 => ?_) (fun h2 => ?_)
 refine sr ?_
 refine sx 2 ?_
 refine kp [14, 15] rfl ?_
 refine Run.ret ?_
 exact ret_one (.tmp rfl (.tmp rfl .nil)) (by unfold convM; rw [if_pos (by omega)]; rfl) gv
 refine Run.skip ?_
 refine sr ?_
 refine sx 5 ?_
 refine RunL.call C124 rfl rfl rfl (c_cross b bm base n m l hT hok from_ to kind on R hR hz hz2) tks ?_
 refine sx 7 ?_
 refine kp [1, 6, 15, 16, 17] rfl ?_
 refine Run.seq ?_
 refine sr ?_
 refine sx 2 ?_
 refine kp [1, 6, 15, 16, 17, 37] rfl ?_
 first | refine Run.if rfl (fun h3 => ?_) (fun h3 => ?_) | refine Run.cond rfl (fun h3 => ?_) (fun h3 => ?_)
 refine sr ?_
 refine sx 3 ?_
 refine kp [14, 15] rfl ?_
 refine Run.ret ?_
 exact ret_one (.tmp rfl (.tmp rfl .nil)) (by unfold convM; rw [if_neg (by omega)]; simp_all [tup]) gv
 refine Run.skip ?_
 refine Run.seq ?_
 refine sr ?_
 have hc0 : (crossM base l from_ to kind on).2.2 = 0 := by simpa using h3
 have cb := cross_bd hok hc0
 refine mvo rfl rfl ?_
 refine RunL.call C125 rfl rfl rfl (c_fxlarge _) .nil ?_
 refine kp [1, 6, 16, 17, 40] rfl ?_
 first | refine Run.if rfl (fun h4 => ?_) (fun h4 => ?_) | refine Run.cond rfl (fun h4 => ?_) (fun h4 => ?_)
 refine sr ?_
 refine sx 2 ?_
 refine kp [14, 15] rfl ?_
 refine Run.ret ?_
 exact ret_one (.tmp rfl (.tmp rfl .nil)) (by unfold convM; rw [if_neg (by omega)]; simp_all [tup]) gv
 refine Run.skip ?_
 refine sr ?_
 refine sx 4 ?_
 refine RunL.call C126 rfl rfl rfl (c_MulDiv a (crossM base l from_ to kind on).1 (crossM base l from_ to kind on).2.1 mode ha (by unfold i64; omega) (by unfold i64; omega)) .nil ?_
 refine sx 5 ?_
 refine kp [14, 15] rfl ?_
 refine Run.seq ?_
 refine sr ?_
 refine sx 3 ?_
 first | refine RunL.splitP (t := 51) rfl (fun g5 => ?_) (fun g5 => ?_) | refine RunL.split (t := 51) rfl (fun g5 => ?_) (fun g5 => ?_)
 refine sx 3 ?_
 refine kp [14, 54] rfl ?_
 refine Run.true rfl ?_
 refine sr ?_
 refine sx 2 ?_
 refine kp [14, 15] rfl ?_
 refine Run.ret ?_
 exact ret_one (.tmp rfl (.tmp rfl .nil)) (by unfold convM; rw [if_neg (by omega)]; simp_all [tup]) gv
 refine sx 1 ?_
 refine RunL.callG C125 rfl rfl rfl rfl rfl (c_fxlarge _) .nil ?_
 refine sx 1 ?_
 refine kp [14, 54] rfl ?_
 first | refine Run.if rfl (fun h6 => ?_) (fun h6 => ?_) | refine Run.cond rfl (fun h6 => ?_) (fun h6 => ?_)
 refine sr ?_
 refine sx 2 ?_
 refine kp [14, 15] rfl ?_
 refine Run.ret ?_
 exact ret_one (.tmp rfl (.tmp rfl .nil)) (by unfold convM; rw [if_neg (by omega)]; simp_all [tup]) gv
 refine Run.skip ?_
 refine sr ?_
 refine sx 3 ?_
 refine kp [14, 15] rfl ?_
 refine Run.ret ?_
 exact ret_one (.tmp rfl (.tmp rfl .nil)) (by unfold convM; rw [if_neg (by omega)]; simp_all [tup]) gv
end
instance xAdd : XI Tryz.prog 186 add64Entry := ⟨⟨Tryz.f186, Tryz.func186, by kernel_rfl, by kernel_rfl, by kernel_rfl, by kernel_rfl⟩⟩
section
attribute [local irreducible] OpJ RunL Run RunD DetJ pt own star Rd RdS
theorem c_Sum (R : HP) (oa : Option Addr) (cap : Nat) (xs : List Int) (hR : RdS R oa (xs.flatMap Iv)) (hx : ∀ x ∈ xs, i64 x) (hl : xs.length ≤ 1000000) : AC Tryz.prog 174 ⟨[.slice oa xs.length cap]⟩ (stars [R]) (Ret (.tuple ⟨[I (sumV xs), Bo (fitsV xs)]⟩) [R]) := by
 refine AC.go Tryz.func174 rfl (Nat.le_of_ble_eq_true rfl) fun β => ?_
 refine sr ?_
 refine sx 2 ?_
 refine kp [0] rfl ?_
 refine sr ?_
 refine sx 2 ?_
 refine kp [0, 4, 5] rfl ?_
 refine Run.seq ?_
 refine sr ?_
 refine sx 3 ?_
 refine kp [4, 5, 9, 10, 11] rfl ?_
 refine Run.block ?_
 refine Run.loop (fun mm E L => ∃ (i : Nat) (lo hi : Int), mm = xs.length - i ∧ i ≤ xs.length ∧ Words ((xs.take i).sum) lo hi ∧ E = [(4, U hi), (5, U lo), (9, .slice oa xs.length cap), (10, I xs.length), (11, I i)] ∧ L = [R]) ⟨_, 0, 0, 0, rfl, Nat.zero_le _, Words.zero, rfl, rfl⟩ ?_
 rintro _ _ _ ⟨i, lo, hi, rfl, hi2, hw, rfl, rfl⟩
 refine sr ?_
 refine sx 1 ?_
 refine kp [4, 5, 9, 10, 11, 12] rfl ?_
 refine Run.seq ?_
 first | refine Run.if rfl (fun h1 => ?_) (fun h1 => ?_) | refine Run.cond rfl (fun h1 => ?_) (fun h1 => ?_)
 refine Run.skip ?_
 refine Run.seq ?_
 refine Run.block ?_
 refine sr ?_
 obtain ⟨x, hxi⟩ := get_ex (xs := xs) (i := i) (by omega)
 have hx64 := hx x (List.mem_of_getElem? hxi)
 refine RunL.rdOpen pk hR (flat_ne (k := 1) (fun _ => rfl) (by decide) hxi) fun b o e hrd => ?_
 subst e
 refine sx 1 ?_
 refine RunL.op rfl rfl (OpJ.load1 inferInstance rfl pk (hrd.elem (enc := Iv) (fun _ => rfl) hxi) ?_)
 refine asg rfl rfl ?_
 refine kp [4, 5, 7, 9, 10, 11] rfl ?_
 refine sr ?_
 refine asg rfl rfl ?_
 refine kp [4, 5, 7, 9, 10, 11] rfl ?_
 refine sr ?_
 have hw0 := hw; unfold Words at hw0
 have hxm : 0 ≤ x % 18446744073709551616 := by omega
 refine sx 3 ?_
 refine RunL.set (congrArg U (wrapU _)) ?_
 refine RunL.op rfl rfl (OpJ.ext xAdd rfl (fun w => run_addU _ _ _ (by omega) (by omega) (by omega) w) ?_)
 refine sx 5 ?_
 refine kp [4, 5, 7, 8, 9, 10, 11] rfl ?_
 refine Run.region ?_
 refine sx 3 ?_
 refine RunL.set (congrArg I (shr63 hx64)) ?_
 refine sx 1 ?_
 refine RunL.set (congrArg U (wrapU _)) ?_
 refine mvo rfl rfl ?_
 refine RunL.op rfl rfl (OpJ.ext xAdd rfl (fun w => run_addU _ _ _ (by omega) (by split <;> omega) (by omega) w) ?_)
 refine sx 4 ?_
 refine kp [4, 5, 9, 10, 11] rfl ?_
 refine Run.region ?_
 refine sx 2 ?_
 exact RunL.next (Keep.sub (kt (ks := [4, 5, 9, 10, 11]) rfl)) _ ⟨_, by omega, i + 1, _, _, rfl, by omega, (by rw [sum_take hxi]; exact hw.step hx64), rfl, rfl⟩ gv
 refine Run.exit ?_
 refine Run.seq ?_
 refine sr ?_
 have hb := i64_sum hx
 rw [List.take_of_length_le (by omega)] at hw
 have hfit := hw.fit (by omega)
 refine sx 3 ?_
 refine kp [2, 4] rfl ?_
 refine sr ?_
 refine sx 2 ?_
 refine RunL.set (congrArg I (shr63 (wrap_i64 _))) ?_
 refine sx 1 ?_
 refine RunL.set (congrArg U (wrapU _)) ?_
 refine sx 2 ?_
 refine kp [2, 38] rfl ?_
 first | refine Run.if rfl (fun h2 => ?_) (fun h2 => ?_) | refine Run.cond rfl (fun h2 => ?_) (fun h2 => ?_)
 refine sr ?_
 refine sx 2 ?_
 refine kp [2, 3] rfl ?_
 refine Run.ret ?_
 exact ret_one (.tmp rfl (.tmp rfl .nil)) (by have hn : ¬ i64 xs.sum := (fun h => by { have := hfit.1.1 h; omega }); unfold sumV fitsV; rw [if_neg hn, decide_eq_false hn]; rfl) gv
 refine Run.skip ?_
 refine sr ?_
 refine sx 3 ?_
 refine kp [2, 3] rfl ?_
 refine Run.ret ?_
 exact ret_one (.tmp rfl (.tmp rfl .nil)) (by have hn : i64 xs.sum := hfit.1.2 (by omega); unfold sumV fitsV; rw [if_pos hn, decide_eq_true hn, hfit.2 hn]; rfl) gv
theorem c_esum (lim : Int) (hlim : 0 ≤ lim ∧ lim ≤ 1000000000000000) (R : HP) (oa : Option Addr) (cap : Nat) (xs : List Int) (hR : RdS R oa (xs.flatMap Iv)) (hx : ∀ x ∈ xs, i64 x) (hl : xs.length ≤ 1000000) : AC Tryz.prog 131 ⟨[I lim, .slice oa xs.length cap]⟩ (stars [R]) (Ret (.tuple ⟨[I (if wiB xs.sum lim = true then xs.sum else 0), I (if wiB xs.sum lim = true then 0 else 4)]⟩) [R]) := by
 refine AC.go Tryz.func131 rfl (Nat.le_of_ble_eq_true rfl) fun β => ?_
 refine sr ?_
 refine sx 2 ?_
 refine kp [0, 1] rfl ?_
 refine sr ?_
 refine mvo rfl rfl ?_
 refine RunL.call C174 rfl rfl rfl (c_Sum R _ _ _ (by assumption) (by assumption) (by assumption)) tks ?_
 refine sx 5 ?_
 refine kp [0, 6, 7] rfl ?_
 refine Run.seq ?_
 refine sr ?_
 refine sx 3 ?_
 rcases Bool.eq_false_or_eq_true (fitsV xs) with hf | hf
 have hs : i64 xs.sum := fitsV_iff.1 hf
 have hv : sumV xs = xs.sum := sumV_of hs
 rw [hv]
 refine RunL.set (v := Bo false) (by rw [hf]; rfl) ?_
 refine sx 2 ?_
 refine RunL.callG C135 rfl rfl rfl rfl rfl (c_within _ _ (by omega)) .nil ?_
 refine sx 2 ?_
 refine kp [6, 20] rfl ?_
 first | refine Run.if rfl (fun h1 => ?_) (fun h1 => ?_) | refine Run.cond rfl (fun h1 => ?_) (fun h1 => ?_)
 refine sr ?_
 refine sx 2 ?_
 refine kp [4, 5] rfl ?_
 refine Run.ret ?_
 exact ret_one (.tmp rfl (.tmp rfl .nil)) (by have hw : wiB xs.sum lim = false := (by simpa using h1); rw [hw]; rfl) gv
 refine Run.skip ?_
 refine sr ?_
 refine sx 3 ?_
 refine kp [4, 5] rfl ?_
 refine Run.ret ?_
 exact ret_one (.tmp rfl (.tmp rfl .nil)) (by have hw : wiB xs.sum lim = true := (by simpa using h1); rw [hw]; rfl) gv
 have hs : ¬ i64 xs.sum := fun h => by { rw [fitsV_iff.2 h] at hf; cases hf }
 have hw : wiB xs.sum lim = false := (by { unfold wiB; rw [decide_eq_false_iff_not]; unfold i64 at hs; omega })
 refine RunL.set (v := Bo true) (by rw [hf]; rfl) ?_
 refine sx 5 ?_
 refine kp [6, 20] rfl ?_
 refine Run.true rfl ?_
 refine sr ?_
 refine sx 2 ?_
 refine kp [4, 5] rfl ?_
 refine Run.ret ?_
 exact ret_one (.tmp rfl (.tmp rfl .nil)) (by rw [hw]; rfl) gv
theorem c_currency (l : Ln) : AC Tryz.prog 137 ⟨[.agg ⟨l.c⟩]⟩ (stars []) (Ret (St l.cur) []) := by
 refine AC.go Tryz.func137 rfl (Nat.le_of_ble_eq_true rfl) fun β => ?_
 refine sr ?_
 refine RunL.op rfl rfl (OpJ.boxA rfl fun b1 => ?_)
 refine asg rfl rfl ?_
 refine kp [1] rfl ?_
 refine sr ?_
 refine sx 3 ?_
 refine kp [2] rfl ?_
 refine Run.ret ?_
 exact ret_one (.tmp rfl .nil) (by simp [tup, *]) gv
end
abbrev CB (b : Nat) (a1 : Option Addr) (n1 c1 : Nat) (a2 : Option Addr) (n2 c2 : Nat) : HP := pt b (blk [.slice a1 n1 c1, .slice a2 n2 c2] 197)
def colH {κ : Type} (x : Colg κ) : HP := stars [CB x.b x.a1 x.xs.length x.c1 x.a2 x.ys.length x.c2, own 3 1 x.a1 x.xs.length x.c1 (x.xs.flatMap Iv), own 3 1 x.a2 x.ys.length x.c2 (x.ys.flatMap Iv)]
section
attribute [local irreducible] OpJ RunL Run RunD DetJ pt own star Rd RdS
theorem c_add {κ : Type} (x : Colg κ) (l : Ln) (hl : x.xs.length ≤ 100000 ∧ x.ys.length ≤ 100000) : AC Tryz.prog 129 ⟨[.pointer (some ⟨x.b, 0, none⟩), .agg ⟨l.c⟩]⟩ (stars [CB x.b x.a1 x.xs.length x.c1 x.a2 x.ys.length x.c2, own 3 1 x.a1 x.xs.length x.c1 (x.xs.flatMap Iv), own 3 1 x.a2 x.ys.length x.c2 (x.ys.flatMap Iv)]) (Outs (fun _ : Option Addr × Nat × Option Addr × Nat => True) (fun _ => .tuple ⟨[]⟩) (fun y => [CB x.b y.1 (x.xs ++ [l.amt]).length y.2.1 y.2.2.1 (x.ys ++ [l.base]).length y.2.2.2, own 3 1 y.1 (x.xs ++ [l.amt]).length y.2.1 ((x.xs ++ [l.amt]).flatMap Iv), own 3 1 y.2.2.1 (x.ys ++ [l.base]).length y.2.2.2 ((x.ys ++ [l.base]).flatMap Iv)])) := by
 refine AC.go Tryz.func129 rfl (Nat.le_of_ble_eq_true rfl) fun β => ?_
 refine sr ?_
 refine RunL.op rfl rfl (OpJ.boxA rfl fun b3 => ?_)
 refine kp [0, 3] rfl ?_
 refine Run.seq ?_
 refine regionD HM ?_
 refine tk 0 rfl rfl rfl (DetJ.move rfl) ?_
 refine tk 1 rfl rfl rfl (DetJ.move rfl) ?_
 refine tk 2 rfl rfl rfl (DetJ.nilCheck rfl) ?_
 refine tk 3 rfl rfl rfl (DetJ.fieldAddr F197_0 rfl) ?_
 first | refine RunD.takeF 4 rfl rfl kr T86 rfl pk (by rfl) ?_ | refine RunD.takeO 4 rfl rfl kr T86 rfl pk (by assumption) (by rfl) (by exact fun _ => rfl) ?_
 refine tk 5 rfl rfl rfl (DetJ.fieldAddr F40_2 rfl) ?_
 first | refine RunD.takeF 6 rfl rfl kr T3 rfl pk (by rfl) ?_ | refine RunD.takeO 6 rfl rfl kr T3 rfl pk (by assumption) (by rfl) (by exact fun _ => rfl) ?_
 refine RunD.op 7 [false, false, true, true, true, true, true] rfl rfl rfl kr kr (OpJ.buildSlice1 S86 rfl rfl rfl (by decide) (by decide) Z3 rfl fun b11 => ⟨po, ?_⟩)
 refine RunD.op 8 [false, false, false, true, true] rfl rfl rfl kr kr (OpJ.append1 l.amt S86 M3 rfl rfl pk pk rfl rfl (by simp [Value.oneCell', Tg.c, Ln.c, En.c, Ac.c, Cl.c, Ky.c, Qy.c, Sb, Iv]) rfl (by omega) (by omega) fun a12 c12 => ⟨po, ?_⟩)
 refine tk 9 rfl rfl rfl (DetJ.nilCheck rfl) ?_
 refine tk 10 rfl rfl rfl (DetJ.fieldAddr F197_0 rfl) ?_
 refine RunD.op 11 [false, false, false, false] rfl rfl rfl kr kr (OpJ.store1 T86 rfl rfl rfl up (by simp) ⟨po, ?_⟩)
 refine kd [0, 3] rfl ?_
 refine regionD HM ?_
 refine tk 0 rfl rfl rfl (DetJ.move rfl) ?_
 refine tk 1 rfl rfl rfl (DetJ.move rfl) ?_
 refine tk 2 rfl rfl rfl (DetJ.nilCheck rfl) ?_
 refine tk 3 rfl rfl rfl (DetJ.fieldAddr F197_1 rfl) ?_
 first | refine RunD.takeF 4 rfl rfl kr T86 rfl pk (by rfl) ?_ | refine RunD.takeO 4 rfl rfl kr T86 rfl pk (by assumption) (by rfl) (by exact fun _ => rfl) ?_
 refine tk 5 rfl rfl rfl (DetJ.fieldAddr F40_3 rfl) ?_
 first | refine RunD.takeF 6 rfl rfl kr T3 rfl pk (by rfl) ?_ | refine RunD.takeO 6 rfl rfl kr T3 rfl pk (by assumption) (by rfl) (by exact fun _ => rfl) ?_
 refine RunD.op 7 [false, false, true, true, true, true, true] rfl rfl rfl kr kr (OpJ.buildSlice1 S86 rfl rfl rfl (by decide) (by decide) Z3 rfl fun b22 => ⟨po, ?_⟩)
 refine RunD.op 8 [false, false, false, true, true] rfl rfl rfl kr kr (OpJ.append1 l.base S86 M3 rfl rfl pk pk rfl rfl (by simp [Value.oneCell', Tg.c, Ln.c, En.c, Ac.c, Cl.c, Ky.c, Qy.c, Sb, Iv]) rfl (by omega) (by omega) fun a23 c23 => ⟨po, ?_⟩)
 refine tk 9 rfl rfl rfl (DetJ.nilCheck rfl) ?_
 refine tk 10 rfl rfl rfl (DetJ.fieldAddr F197_1 rfl) ?_
 refine RunD.op 11 [false, false, false, false] rfl rfl rfl kr kr (OpJ.store1 T86 rfl rfl rfl up (by simp) ⟨po, ?_⟩)
 refine kd [] rfl ?_
 exact ret_out (a12, c12, a23, c23) .nil trivial rfl gv
theorem c_both {κ : Type} (x : Colg κ) (lim : Int) (hlim : 0 ≤ lim ∧ lim ≤ 1000000000000000) (h1 : ∀ n ∈ x.xs, i64 n) (h2 : ∀ n ∈ x.ys, i64 n) (hl : x.xs.length ≤ 100000 ∧ x.ys.length ≤ 100000) : AC Tryz.prog 98 ⟨[.pointer (some ⟨x.b, 0, none⟩), I lim]⟩ (stars [CB x.b x.a1 x.xs.length x.c1 x.a2 x.ys.length x.c2, own 3 1 x.a1 x.xs.length x.c1 (x.xs.flatMap Iv), own 3 1 x.a2 x.ys.length x.c2 (x.ys.flatMap Iv)]) (Ret (.tuple ⟨[I (if (wiB x.xs.sum lim && wiB x.ys.sum lim) = true then x.xs.sum else 0), I (if (wiB x.xs.sum lim && wiB x.ys.sum lim) = true then x.ys.sum else 0), I (if (wiB x.xs.sum lim && wiB x.ys.sum lim) = true then 0 else 4)]⟩) [CB x.b x.a1 x.xs.length x.c1 x.a2 x.ys.length x.c2, own 3 1 x.a1 x.xs.length x.c1 (x.xs.flatMap Iv), own 3 1 x.a2 x.ys.length x.c2 (x.ys.flatMap Iv)]) := by
 refine AC.go Tryz.func98 rfl (Nat.le_of_ble_eq_true rfl) fun β => ?_
 refine sr ?_
 refine sx 3 ?_
 refine kp [0, 1] rfl ?_
 refine sr ?_
 refine sx 5 ?_
 refine RunL.call C131 rfl rfl rfl (c_esum lim hlim _ x.a1 x.c1 x.xs own.rds h1 (by omega)) tks ?_
 refine sx 5 ?_
 refine kp [0, 1, 4, 6] rfl ?_
 refine Run.seq ?_
 refine sr ?_
 refine sx 2 ?_
 refine kp [0, 1, 4, 6, 17] rfl ?_
 first | refine Run.if rfl (fun h1 => ?_) (fun h1 => ?_) | refine Run.cond rfl (fun h1 => ?_) (fun h1 => ?_)
 refine sr ?_
 refine sx 4 ?_
 refine kp [4, 5, 6] rfl ?_
 refine Run.ret ?_
 exact ret_one (.tmp rfl (.tmp rfl (.tmp rfl .nil))) (by cases ha : wiB x.xs.sum lim <;> cases hb : wiB x.ys.sum lim <;> simp_all [tup]) gv
 refine Run.skip ?_
 refine sr ?_
 refine sx 5 ?_
 refine RunL.call C131 rfl rfl rfl (c_esum lim hlim _ x.a2 x.c2 x.ys own.rds h2 (by omega)) tks ?_
 refine sx 5 ?_
 refine kp [4, 5, 6] rfl ?_
 refine Run.seq ?_
 refine sr ?_
 refine sx 2 ?_
 refine kp [4, 5, 6, 29] rfl ?_
 first | refine Run.if rfl (fun h2 => ?_) (fun h2 => ?_) | refine Run.cond rfl (fun h2 => ?_) (fun h2 => ?_)
 refine sr ?_
 refine sx 4 ?_
 refine kp [4, 5, 6] rfl ?_
 refine Run.ret ?_
 exact ret_one (.tmp rfl (.tmp rfl (.tmp rfl .nil))) (by cases ha : wiB x.xs.sum lim <;> cases hb : wiB x.ys.sum lim <;> simp_all [tup]) gv
 refine Run.skip ?_
 refine sr ?_
 refine sx 5 ?_
 refine kp [4, 5, 6] rfl ?_
 refine Run.ret ?_
 exact ret_one (.tmp rfl (.tmp rfl (.tmp rfl .nil))) (by cases ha : wiB x.xs.sum lim <;> cases hb : wiB x.ys.sum lim <;> simp_all [tup]) gv
end
instance mpCol : MPI Tryz.prog 201 9 175 := ⟨by kernel_rfl⟩
instance zvCol : ZVI Tryz.prog 175 (.pointer none) := ⟨by kernel_rfl⟩
instance uvStr : UI Tryz.prog 9 .string := ⟨by kernel_rfl⟩
section
attribute [local irreducible] OpJ RunL Run RunD DetJ pt own star Rd RdS
theorem c_columns (R : HP) (oa : Option Addr) (cap : Nat) (ls : List Ln) (hR : RdS R oa (ls.flatMap Ln.c)) (hl : ls.length ≤ 1000) : AC Tryz.prog 136 ⟨[.slice oa ls.length cap, .func (.func 137) #[] #[]]⟩ (stars [R]) (Outs (fun y : Nat × List Colm × Option Addr × Nat => Kinv y.2.1 ls) (fun y => .tuple ⟨[.map (some y.1), .slice y.2.2.1 (y.2.1.map Colg.cur).length y.2.2.2]⟩) (fun y => [amap y.1 cbF cbG (y.2.1.map Colg.cb), big colH y.2.1, own 9 1 y.2.2.1 (y.2.1.map Colg.cur).length y.2.2.2 ((y.2.1.map Colg.cur).flatMap Sb), R])) := by
 refine AC.go Tryz.func136 rfl (Nat.le_of_ble_eq_true rfl) fun β => ?_
 refine sr ?_
 refine sx 2 ?_
 refine kp [0, 1] rfl ?_
 refine sr ?_
 refine RunL.op rfl rfl (OpJ.makeMap fun bm => ?_)
 refine asg rfl rfl ?_
 refine kp [0, 1, 6] rfl ?_
 refine sr ?_
 refine asg rfl rfl ?_
 refine kp [0, 1, 6, 7] rfl ?_
 refine Run.seq ?_
 refine sr ?_
 refine RunL.ownNil 9 1 ?_
 refine RunL.bigNil (colH (κ := ByteArray)) ?_
 refine sx 3 ?_
 refine kp [1, 6, 7, 12, 13, 14] rfl ?_
 refine Run.block ?_
 refine Run.weak (L' := [amap bm cbF cbG (([] : List Colm).map Colg.cb), big (colH (κ := ByteArray)) [], own 9 1 none (([] : List Colm).map Colg.cur).length 0 ((([] : List Colm).map Colg.cur).flatMap Sb), R]) (fun _ _ h => h) gv ?_
 refine Run.loop (fun mm E L => ∃ (i : Nat) (ks : List Colm) (ka : Option Addr) (kc : Nat), mm = ls.length - i ∧ i ≤ ls.length ∧ Kinv ks (ls.take i) ∧ E = [(1, .func (.func 137) #[] #[]), (6, .map (some bm)), (7, .slice ka (ks.map Colg.cur).length kc), (12, .slice oa ls.length cap), (13, I ls.length), (14, I i)] ∧ L = [amap bm cbF cbG (ks.map Colg.cb), big colH ks, own 9 1 ka (ks.map Colg.cur).length kc ((ks.map Colg.cur).flatMap Sb), R]) ⟨_, 0, [], none, 0, rfl, Nat.zero_le _, KinvG.nil, rfl, rfl⟩ ?_
 rintro _ _ _ ⟨i, ks, ka, kc, rfl, hi, hK, rfl, rfl⟩
 refine sr ?_
 refine sx 1 ?_
 refine kp [1, 6, 7, 12, 13, 14, 15] rfl ?_
 refine Run.seq ?_
 first | refine Run.if rfl (fun h1 => ?_) (fun h1 => ?_) | refine Run.cond rfl (fun h1 => ?_) (fun h1 => ?_)
 refine Run.skip ?_
 refine Run.seq ?_
 refine Run.block ?_
 refine sr ?_
 obtain ⟨l, hli⟩ := get_ex (xs := ls) (i := i) (by omega)
 refine RunL.rdOpen pk hR (flat_ne (k := 7) (fun _ => rfl) (by decide) hli) fun b o e hrd => ?_
 subst e
 refine sx 1 ?_
 refine RunL.op rfl rfl (OpJ.loadA inferInstance rfl pk (hrd.elem (fun _ => rfl) hli) rfl ?_)
 refine RunL.op rfl rfl (OpJ.alloc Z40 fun b9 => ?_)
 refine RunL.op rfl rfl (OpJ.storeW T40 rfl rfl rfl rfl (by simp [Value.oneCell', Tg.c, Ln.c, En.c, Ac.c, Cl.c, Ky.c, Qy.c, Sb, Iv]) up ?_)
 refine kp [1, 6, 7, 9, 12, 13, 14] rfl ?_
 refine sr ?_
 refine sx 2 ?_
 refine RunL.call C137 rfl rfl rfl (c_currency l) .nil ?_
 refine asg rfl rfl ?_
 refine kp [1, 6, 7, 9, 10, 12, 13, 14] rfl ?_
 refine Run.seq ?_
 refine sr ?_
 refine sx 2 ?_
 refine RunL.op rfl rfl (OpJ.lookup1 keyStr inferInstance inferInstance inferInstance rfl rfl pk ?_)
 rcases hk : kAt (Prod.fst : ByteArray × Nat → ByteArray) l.cur (ks.map Colg.cb) with _ | q
 refine sx 1 ?_
 refine kp [1, 6, 7, 9, 10, 12, 13, 14, 24] rfl ?_
 refine Run.true rfl ?_
 refine sr ?_
 refine sx 3 ?_
 refine RunL.op rfl rfl (OpJ.boxA rfl fun b28 => ?_)
 refine RunL.op rfl rfl (OpJ.mapUpdate (((l.cur, b28)) : ByteArray × Nat) keyStr inferInstance inferInstance rfl rfl rfl up ?_)
 refine kp [1, 6, 7, 9, 10, 12, 13, 14] rfl ?_
 refine Run.region ?_
 refine sx 2 ?_
 refine RunL.op rfl rfl (OpJ.buildSlice1 S73 rfl rfl rfl (by decide) (by decide) Z9 rfl fun b31 => ?_)
 have hkl := hK.lenk
 rw [List.length_take] at hkl
 have hml : (ks.map Colg.cur).length = ks.length := List.length_map ..
 refine RunL.op rfl rfl (OpJ.append1 l.cur S73 M9 rfl rfl pk pk rfl rfl (by simp [Value.oneCell', Tg.c, Ln.c, En.c, Ac.c, Cl.c, Ky.c, Qy.c, Sb, Iv]) rfl (by omega) (by omega) fun a32 c32 => ?_)
 refine asg rfl rfl ?_
 refine kp [1, 6, 7, 9, 10, 12, 13, 14] rfl ?_
 refine Run.region ?_
 rw [kSet_new hk]
 refine RunL.ownNil 3 1 ?_
 refine RunL.ownNil 3 1 ?_
 have hk2 := kAt_new (y := (l.cur, b28)) hk rfl
 refine sx 2 ?_
 refine RunL.op rfl rfl (OpJ.lookup1 keyStr inferInstance inferInstance inferInstance rfl rfl pk ?_)
 refine RunL.set (v := .pointer (some ⟨b28, 0, none⟩)) (by rw [hk2]) ?_
 refine sx 1 ?_
 refine RunL.callX C129 rfl rfl rfl (c_add (⟨l.cur, b28, none, 0, none, 0, [], []⟩ : Colm) l (by simp)) tks fun ⟨a1, c1, a2, c2⟩ _ => ?_
 refine RunL.packs [CB b28 a1 [l.amt].length c1 a2 [l.base].length c2, own 3 1 a1 [l.amt].length c1 ([l.amt].flatMap Iv), own 3 1 a2 [l.base].length c2 ([l.base].flatMap Iv)] tks ?_
 refine RunL.bigApp colH ks ⟨l.cur, b28, a1, c1, a2, c2, [l.amt], [l.base]⟩ pk pk ?_
 refine kp [1, 6, 7, 12, 13, 14] rfl ?_
 refine Run.region ?_
 refine sx 2 ?_
 have hm1 : (ks ++ [(⟨l.cur, b28, a1, c1, a2, c2, [l.amt], [l.base]⟩ : Colm)]).map Colg.cb = ks.map Colg.cb ++ [(l.cur, b28)] := by simp [Colg.cb]
 have hm2 : (ks ++ [(⟨l.cur, b28, a1, c1, a2, c2, [l.amt], [l.base]⟩ : Colm)]).map Colg.cur = ks.map Colg.cur ++ [l.cur] := by simp
 rw [← hm1, ← hm2]
 exact RunL.next (Keep.sub (kt (ks := [1, 6, 7, 12, 13, 14]) rfl)) _ ⟨_, by omega, i + 1, _, _, _, rfl, by omega, (by rw [take_step hli]; exact hK.new (fun x hx e => kAt_none hk (x.cb) (List.mem_map_of_mem hx) e) b28 a1 c1 a2 c2), rfl, rfl⟩ gv
 obtain ⟨iq, x, rfl, hkx, hxc⟩ := col_find hk
 refine sx 1 ?_
 refine kp [1, 6, 7, 9, 10, 12, 13, 14, 24] rfl ?_
 refine Run.false rfl ?_
 refine Run.skip ?_
 refine Run.region ?_
 refine sx 2 ?_
 refine RunL.op rfl rfl (OpJ.lookup1 keyStr inferInstance inferInstance inferInstance rfl rfl pk ?_)
 refine RunL.set (v := .pointer (some ⟨x.b, 0, none⟩)) (by rw [hk]) ?_
 refine sx 1 ?_
 refine RunL.bigOut pk hkx ?_
 refine RunL.unstar (As := [CB x.b x.a1 x.xs.length x.c1 x.a2 x.ys.length x.c2, own 3 1 x.a1 x.xs.length x.c1 (x.xs.flatMap Iv), own 3 1 x.a2 x.ys.length x.c2 (x.ys.flatMap Iv)]) pk ?_
 have hxl := hK.len (List.mem_of_getElem? hkx)
 rw [List.length_take] at hxl
 refine RunL.callX C129 rfl rfl rfl (c_add x l (by omega)) tks fun ⟨a1, c1, a2, c2⟩ _ => ?_
 refine RunL.packs [CB x.b a1 (x.xs ++ [l.amt]).length c1 a2 (x.ys ++ [l.base]).length c2, own 3 1 a1 (x.xs ++ [l.amt]).length c1 ((x.xs ++ [l.amt]).flatMap Iv), own 3 1 a2 (x.ys ++ [l.base]).length c2 ((x.ys ++ [l.base]).flatMap Iv)] tks ?_
 refine RunL.bigIn colH ks iq ⟨x.cur, x.b, a1, c1, a2, c2, x.xs ++ [l.amt], x.ys ++ [l.base]⟩ pk pk (List.getElem?_eq_some_iff.1 hkx).1 ?_
 refine kp [1, 6, 7, 12, 13, 14] rfl ?_
 refine Run.region ?_
 refine sx 2 ?_
 obtain ⟨hm1, hm2⟩ := col_set (y := ⟨x.cur, x.b, a1, c1, a2, c2, x.xs ++ [l.amt], x.ys ++ [l.base]⟩) hkx rfl rfl
 rw [← hm1, ← hm2]
 exact RunL.next (Keep.sub (kt (ks := [1, 6, 7, 12, 13, 14]) rfl)) _ ⟨_, by omega, i + 1, _, _, _, rfl, by omega, (by rw [take_step hli]; exact hK.old hkx hxc a1 c1 a2 c2), rfl, rfl⟩ gv
 refine Run.exit ?_
 refine sr ?_
 refine sx 4 ?_
 refine kp [4, 5] rfl ?_
 refine Run.ret ?_
 exact ret_out (bm, ks, ka, kc) (.tmp rfl (.tmp rfl .nil)) (by rw [List.take_of_length_le (by omega)] at hK; exact hK) rfl gv
theorem c_Balanced (R : HP) (oa : Option Addr) (cap : Nat) (ls : List Ln) (hR : RdS R oa (ls.flatMap Ln.c)) (hl : ls.length ≤ 1000) (hb : ∀ l ∈ ls, i64 l.amt ∧ i64 l.base) : AC Tryz.prog 101 ⟨[.slice oa ls.length cap]⟩ (stars [R]) (Ret (Bo (balB ls)) [R]) := by
 refine AC.go Tryz.func101 rfl (Nat.le_of_ble_eq_true rfl) fun β => ?_
 refine sr ?_
 refine asg rfl rfl ?_
 refine kp [0] rfl ?_
 refine sr ?_
 refine mvo rfl rfl ?_
 refine RunL.callX C136 rfl rfl rfl (c_columns R _ _ _ (by assumption) (by omega)) tks fun ⟨bm, ks, ka, kc⟩ hK => ?_
 refine sx 5 ?_
 refine kp [3, 4] rfl ?_
 refine Run.seq ?_
 refine sr ?_
 have hK2 : Kinv ks ls := hK
 have hkl : ks.length ≤ ls.length := hK.lenk
 have hml : (ks.map Colg.cur).length = ks.length := List.length_map ..
 refine sx 3 ?_
 refine kp [3, 15, 16, 17] rfl ?_
 refine Run.block ?_
 refine Run.loop (fun mm E L => ∃ i : Nat, mm = ks.length - i ∧ i ≤ ks.length ∧ (∀ (j : Nat) (y : Colm), j < i → ks[j]? = some y → y.xs.sum = 0 ∧ y.ys.sum = 0) ∧ E = [(3, .map (some bm)), (15, .slice ka (ks.map Colg.cur).length kc), (16, I (ks.map Colg.cur).length), (17, I i)] ∧ L = [amap bm cbF cbG (ks.map Colg.cb), big colH ks, own 9 1 ka (ks.map Colg.cur).length kc ((ks.map Colg.cur).flatMap Sb), R]) ⟨_, 0, rfl, Nat.zero_le _, fun _ _ h => by omega, rfl, rfl⟩ ?_
 rintro _ _ _ ⟨i, rfl, hi, hI0, rfl, rfl⟩
 refine sr ?_
 refine sx 1 ?_
 refine kp [3, 15, 16, 17, 18] rfl ?_
 refine Run.seq ?_
 first | refine Run.if rfl (fun h1 => ?_) (fun h1 => ?_) | refine Run.cond rfl (fun h1 => ?_) (fun h1 => ?_)
 refine Run.skip ?_
 refine Run.seq ?_
 refine Run.block ?_
 refine sr ?_
 obtain ⟨x, hkx⟩ := get_ex (xs := ks) (i := i) (by omega)
 have hkn : (ks.map Colg.cur)[i]? = some x.cur := by rw [List.getElem?_map, hkx]; rfl
 have hxm := List.mem_of_getElem? hkx
 have hxl := hK.len hxm
 have hxv := hK.val x hxm
 have hin : ∀ n, (n ∈ x.xs → i64 n) ∧ (n ∈ x.ys → i64 n) := fun n => ⟨fun h => by { rw [hxv.1] at h; obtain ⟨l, hlm, rfl⟩ := List.mem_map.1 h; exact (hb l (List.mem_filter.1 hlm).1).1 }, fun h => by { rw [hxv.2] at h; obtain ⟨l, hlm, rfl⟩ := List.mem_map.1 h; exact (hb l (List.mem_filter.1 hlm).1).2 }⟩
 have hfnd := hK.find hkx
 refine RunL.ownAddr pk (flat_ne (k := 1) (fun _ => rfl) (by decide) hkn) fun b e hcap => ?_
 subst e
 refine sx 1 ?_
 refine RunL.op rfl rfl (OpJ.load1 inferInstance rfl pk (own.el (enc := Sb) hkn (by decide) (fun _ => rfl)) ?_)
 refine asg rfl rfl ?_
 refine kp [3, 6, 15, 16, 17] rfl ?_
 refine sr ?_
 refine sx 2 ?_
 refine RunL.op rfl rfl (OpJ.lookup1 keyStr inferInstance inferInstance inferInstance rfl rfl pk ?_)
 refine RunL.set (v := .pointer (some ⟨x.b, 0, none⟩)) (by rw [hfnd]) ?_
 refine RunL.bigOut pk hkx ?_
 refine RunL.unstar (As := [CB x.b x.a1 x.xs.length x.c1 x.a2 x.ys.length x.c2, own 3 1 x.a1 x.xs.length x.c1 (x.xs.flatMap Iv), own 3 1 x.a2 x.ys.length x.c2 (x.ys.flatMap Iv)]) pk ?_
 refine RunL.call C98 rfl rfl rfl (c_both x 0 (by decide) (fun n => (hin n).1) (fun n => (hin n).2) (by omega)) tks ?_
 refine RunL.packs [CB x.b x.a1 x.xs.length x.c1 x.a2 x.ys.length x.c2, own 3 1 x.a1 x.xs.length x.c1 (x.xs.flatMap Iv), own 3 1 x.a2 x.ys.length x.c2 (x.ys.flatMap Iv)] tks ?_
 refine RunL.bigIn colH ks i x pk pk (by omega) ?_
 rw [setId hkx]
 refine sx 7 ?_
 refine kp [3, 9, 15, 16, 17] rfl ?_
 refine sr ?_
 refine sx 2 ?_
 refine kp [3, 15, 16, 17, 30] rfl ?_
 first | refine Run.if rfl (fun h2 => ?_) (fun h2 => ?_) | refine Run.cond rfl (fun h2 => ?_) (fun h2 => ?_)
 refine sr ?_
 refine asg rfl rfl ?_
 refine kp [2] rfl ?_
 refine Run.ret ?_
 exact ret_one (.tmp rfl .nil) (by rw [Bool.eq_false_iff.2 (fun h => both_nz (by simpa using h2) (hK.bal.1 h x hxm))]; rfl) gv
 refine Run.skip ?_
 refine Run.region ?_
 refine sx 2 ?_
 exact RunL.next (Keep.sub (kt (ks := [3, 15, 16, 17]) rfl)) _ ⟨_, by omega, i + 1, rfl, by omega, (fun j y hj hy => by { by_cases e : j = i; (subst e; rw [hkx] at hy; cases hy; exact both_zero (by simpa using h2)); exact hI0 j y (by omega) hy }), rfl, rfl⟩ gv
 refine Run.exit ?_
 refine sr ?_
 refine asg rfl rfl ?_
 refine kp [2] rfl ?_
 refine Run.ret ?_
 exact ret_one (.tmp rfl .nil) (by rw [hK2.bal.2 (fun x hx => by { obtain ⟨j, hj, rfl⟩ := List.getElem_of_mem hx; exact hI0 j _ (by omega) (List.getElem?_eq_getElem hj) })]; rfl) gv
theorem c_isDay (n : Int) (R : HP) (hR : Rd R ⟨0, 0, none⟩ lensC) : AC Tryz.prog 132 ⟨[I n]⟩ (stars [R]) (Ret (Bo (inB n 0 109572)) [R]) := by
 refine AC.go Tryz.func132 rfl (Nat.le_of_ble_eq_true rfl) fun β => ?_
 refine sr ?_
 refine asg rfl rfl ?_
 refine kp [0] rfl ?_
 refine sr ?_
 refine mvo rfl rfl ?_
 refine RunL.callX C114 rfl rfl rfl (c_Date _ _ hR) tks fun x hx => ?_
 refine sx 3 ?_
 refine RunL.op rfl rfl (OpJ.alloc Z185 fun b3 => ?_)
 refine RunL.op rfl rfl (OpJ.storeW T185 rfl rfl rfl rfl (by simp [Value.oneCell', Tg.c, Ln.c, En.c, Ac.c, Cl.c, Ky.c, Qy.c, Sb, Iv]) up ?_)
 refine asg rfl rfl ?_
 refine kp [4] rfl ?_
 refine sr ?_
 refine sx 3 ?_
 refine kp [2] rfl ?_
 refine Run.ret ?_
 exact ret_one (.tmp rfl .nil) (congrArg Bo (by cases inB n 0 109572 <;> rfl)) gv
theorem c_Line (l : Ln) (R : HP) (hT : RdS R l.ta (l.tags.flatMap Tg.c)) (hz : (l.cur.size : Int) ≤ 9223372036854775807) : AC Tryz.prog 100 ⟨[.agg ⟨l.c⟩]⟩ (stars [R]) (Ret (I (lineE l)) [R]) := by
 refine AC.go Tryz.func100 rfl (Nat.le_of_ble_eq_true rfl) fun β => ?_
 refine sr ?_
 refine RunL.op rfl rfl (OpJ.boxA rfl fun b1 => ?_)
 refine asg rfl rfl ?_
 refine kp [1] rfl ?_
 refine Run.seq ?_
 refine Run.block ?_
 refine sr ?_
 refine sx 2 ?_
 refine RunL.call C111 rfl rfl rfl (c_Code _) .nil ?_
 refine sx 2 ?_
 first | refine RunL.splitP (t := 8) rfl (fun g1 => ?_) (fun g1 => ?_) | refine RunL.split (t := 8) rfl (fun g1 => ?_) (fun g1 => ?_)
 refine sx 12 ?_
 refine kp [1, 3] rfl ?_
 refine Run.true rfl ?_
 refine sr ?_
 refine asg rfl rfl ?_
 refine kp [2] rfl ?_
 refine Run.ret ?_
 exact ret_one (.tmp rfl .nil) (congrArg I (by unfold lineE; simp_all)) gv
 refine sx 2 ?_
 refine RunL.callG C134 rfl rfl rfl rfl rfl (c_opt _) .nil ?_
 refine sx 3 ?_
 first | refine RunL.splitP (t := 14) rfl (fun g2 => ?_) (fun g2 => ?_) | refine RunL.split (t := 14) rfl (fun g2 => ?_) (fun g2 => ?_)
 refine sx 6 ?_
 refine kp [1, 3] rfl ?_
 refine Run.true rfl ?_
 refine sr ?_
 refine asg rfl rfl ?_
 refine kp [2] rfl ?_
 refine Run.ret ?_
 exact ret_one (.tmp rfl .nil) (congrArg I (by unfold lineE; simp_all)) gv
 refine sx 2 ?_
 refine RunL.callG C134 rfl rfl rfl rfl rfl (c_opt _) .nil ?_
 refine sx 3 ?_
 refine kp [1, 3] rfl ?_
 first | refine Run.if rfl (fun h3 => ?_) (fun h3 => ?_) | refine Run.cond rfl (fun h3 => ?_) (fun h3 => ?_)
 refine sr ?_
 refine asg rfl rfl ?_
 refine kp [2] rfl ?_
 refine Run.ret ?_
 exact ret_one (.tmp rfl .nil) (congrArg I (by unfold lineE; simp_all)) gv
 refine sr ?_
 refine sx 2 ?_
 refine RunL.call C47 rfl rfl rfl (c_Cur _ (by omega)) .nil ?_
 refine sx 2 ?_
 refine kp [1, 20] rfl ?_
 first | refine Run.if rfl (fun h4 => ?_) (fun h4 => ?_) | refine Run.cond rfl (fun h4 => ?_) (fun h4 => ?_)
 refine sr ?_
 refine asg rfl rfl ?_
 refine kp [2] rfl ?_
 refine Run.ret ?_
 exact ret_one (.tmp rfl .nil) (congrArg I (by unfold lineE; simp_all)) gv
 refine sr ?_
 refine sx 2 ?_
 refine RunL.call C135 rfl rfl rfl (c_within _ _ (by omega)) .nil ?_
 refine sx 2 ?_
 first | refine RunL.splitP (t := 30) rfl (fun g5 => ?_) (fun g5 => ?_) | refine RunL.split (t := 30) rfl (fun g5 => ?_) (fun g5 => ?_)
 refine sx 6 ?_
 refine kp [1, 25] rfl ?_
 refine Run.true rfl ?_
 refine sr ?_
 refine asg rfl rfl ?_
 refine kp [2] rfl ?_
 refine Run.ret ?_
 exact ret_one (.tmp rfl .nil) (congrArg I (by unfold lineE; simp_all)) gv
 refine sx 2 ?_
 refine RunL.callG C135 rfl rfl rfl rfl rfl (c_within _ _ (by omega)) .nil ?_
 refine sx 3 ?_
 refine kp [1, 25] rfl ?_
 first | refine Run.if rfl (fun h6 => ?_) (fun h6 => ?_) | refine Run.cond rfl (fun h6 => ?_) (fun h6 => ?_)
 refine sr ?_
 refine asg rfl rfl ?_
 refine kp [2] rfl ?_
 refine Run.ret ?_
 exact ret_one (.tmp rfl .nil) (congrArg I (by unfold lineE; simp_all)) gv
 refine sr ?_
 refine sx 4 ?_
 first | refine RunL.splitP (t := 40) rfl (fun g7 => ?_) (fun g7 => ?_) | refine RunL.split (t := 40) rfl (fun g7 => ?_) (fun g7 => ?_)
 refine sx 5 ?_
 refine kp [1, 36] rfl ?_
 first | refine Run.if rfl (fun h8 => ?_) (fun h8 => ?_) | refine Run.cond rfl (fun h8 => ?_) (fun h8 => ?_)
 refine sr ?_
 refine asg rfl rfl ?_
 refine kp [2] rfl ?_
 refine Run.ret ?_
 exact ret_one (.tmp rfl .nil) (congrArg I (by unfold lineE; simp_all)) gv
 refine sr ?_
 refine sx 2 ?_
 refine RunL.call C128 rfl rfl rfl (c_dRight R _ _ _ hT) tks ?_
 refine sx 2 ?_
 refine kp [45] rfl ?_
 first | refine Run.if rfl (fun h9 => ?_) (fun h9 => ?_) | refine Run.cond rfl (fun h9 => ?_) (fun h9 => ?_)
 refine sr ?_
 refine asg rfl rfl ?_
 refine kp [2] rfl ?_
 refine Run.ret ?_
 exact ret_one (.tmp rfl .nil) (congrArg I (by unfold lineE; simp_all)) gv
 refine Run.skip ?_
 refine sr ?_
 refine asg rfl rfl ?_
 refine kp [2] rfl ?_
 refine Run.ret ?_
 exact ret_one (.tmp rfl .nil) (congrArg I (by unfold lineE; simp_all)) gv
 refine sx 5 ?_
 refine kp [1, 36] rfl ?_
 refine Run.false rfl ?_
 refine sr ?_
 refine sx 2 ?_
 refine RunL.call C128 rfl rfl rfl (c_dRight R _ _ _ hT) tks ?_
 refine sx 2 ?_
 refine kp [45] rfl ?_
 first | refine Run.if rfl (fun h10 => ?_) (fun h10 => ?_) | refine Run.cond rfl (fun h10 => ?_) (fun h10 => ?_)
 refine sr ?_
 refine asg rfl rfl ?_
 refine kp [2] rfl ?_
 refine Run.ret ?_
 exact ret_one (.tmp rfl .nil) (congrArg I (by unfold lineE; simp_all)) gv
 refine Run.skip ?_
 refine sr ?_
 refine asg rfl rfl ?_
 refine kp [2] rfl ?_
 refine Run.ret ?_
 exact ret_one (.tmp rfl .nil) (congrArg I (by unfold lineE; simp_all)) gv
theorem c_head (e : En) (R : HP) (hR : Rd R ⟨0, 0, none⟩ lensC) : AC Tryz.prog 99 ⟨[.agg ⟨e.c⟩]⟩ (stars [R]) (Ret (I (headE e)) [R]) := by
 refine AC.go Tryz.func99 rfl (Nat.le_of_ble_eq_true rfl) fun β => ?_
 refine sr ?_
 refine RunL.op rfl rfl (OpJ.boxA rfl fun b1 => ?_)
 refine asg rfl rfl ?_
 refine kp [1] rfl ?_
 refine Run.seq ?_
 refine Run.block ?_
 refine sr ?_
 refine sx 4 ?_
 first | refine RunL.splitP (t := 7) rfl (fun g1 => ?_) (fun g1 => ?_) | refine RunL.split (t := 7) rfl (fun g1 => ?_) (fun g1 => ?_)
 refine sx 15 ?_
 refine kp [1, 3] rfl ?_
 refine Run.true rfl ?_
 refine sr ?_
 refine asg rfl rfl ?_
 refine kp [2] rfl ?_
 refine Run.ret ?_
 exact ret_one (.tmp rfl .nil) (congrArg I (by unfold headE; simp_all <;> omega)) gv
 refine sx 5 ?_
 first | refine RunL.splitP (t := 12) rfl (fun g2 => ?_) (fun g2 => ?_) | refine RunL.split (t := 12) rfl (fun g2 => ?_) (fun g2 => ?_)
 refine sx 10 ?_
 refine kp [1, 3] rfl ?_
 refine Run.true rfl ?_
 refine sr ?_
 refine asg rfl rfl ?_
 refine kp [2] rfl ?_
 refine Run.ret ?_
 exact ret_one (.tmp rfl .nil) (congrArg I (by unfold headE; simp_all <;> omega)) gv
 refine sx 5 ?_
 first | refine RunL.splitP (t := 17) rfl (fun g3 => ?_) (fun g3 => ?_) | refine RunL.split (t := 17) rfl (fun g3 => ?_) (fun g3 => ?_)
 refine sx 5 ?_
 refine kp [1, 3] rfl ?_
 refine Run.true rfl ?_
 refine sr ?_
 refine asg rfl rfl ?_
 refine kp [2] rfl ?_
 refine Run.ret ?_
 exact ret_one (.tmp rfl .nil) (congrArg I (by unfold headE; simp_all <;> omega)) gv
 refine sx 5 ?_
 refine kp [1, 3] rfl ?_
 first | refine Run.if rfl (fun h4 => ?_) (fun h4 => ?_) | refine Run.cond rfl (fun h4 => ?_) (fun h4 => ?_)
 refine sr ?_
 refine asg rfl rfl ?_
 refine kp [2] rfl ?_
 refine Run.ret ?_
 exact ret_one (.tmp rfl .nil) (congrArg I (by unfold headE; simp_all <;> omega)) gv
 refine sr ?_
 refine sx 2 ?_
 refine RunL.call C111 rfl rfl rfl (c_Code _) .nil ?_
 refine sx 2 ?_
 first | refine RunL.splitP (t := 27) rfl (fun g5 => ?_) (fun g5 => ?_) | refine RunL.split (t := 27) rfl (fun g5 => ?_) (fun g5 => ?_)
 refine sx 6 ?_
 refine kp [1, 22] rfl ?_
 refine Run.true rfl ?_
 refine sr ?_
 refine asg rfl rfl ?_
 refine kp [2] rfl ?_
 refine Run.ret ?_
 exact ret_one (.tmp rfl .nil) (congrArg I (by unfold headE; simp_all <;> omega)) gv
 refine sx 2 ?_
 refine RunL.callG C111 rfl rfl rfl rfl rfl (c_Code _) .nil ?_
 refine sx 3 ?_
 refine kp [1, 22] rfl ?_
 first | refine Run.if rfl (fun h6 => ?_) (fun h6 => ?_) | refine Run.cond rfl (fun h6 => ?_) (fun h6 => ?_)
 refine sr ?_
 refine asg rfl rfl ?_
 refine kp [2] rfl ?_
 refine Run.ret ?_
 exact ret_one (.tmp rfl .nil) (congrArg I (by unfold headE; simp_all <;> omega)) gv
 refine sr ?_
 refine sx 2 ?_
 refine RunL.call C132 rfl rfl rfl (c_isDay _ R hR) tks ?_
 refine sx 2 ?_
 first | refine RunL.splitP (t := 38) rfl (fun g7 => ?_) (fun g7 => ?_) | refine RunL.split (t := 38) rfl (fun g7 => ?_) (fun g7 => ?_)
 refine sx 6 ?_
 refine kp [1, 33] rfl ?_
 refine Run.true rfl ?_
 refine sr ?_
 refine asg rfl rfl ?_
 refine kp [2] rfl ?_
 refine Run.ret ?_
 exact ret_one (.tmp rfl .nil) (congrArg I (by unfold headE; simp_all <;> omega)) gv
 refine sx 2 ?_
 refine RunL.callG C132 rfl rfl rfl rfl rfl (c_isDay _ R hR) tks ?_
 refine sx 3 ?_
 refine kp [1, 33] rfl ?_
 first | refine Run.if rfl (fun h8 => ?_) (fun h8 => ?_) | refine Run.cond rfl (fun h8 => ?_) (fun h8 => ?_)
 refine sr ?_
 refine asg rfl rfl ?_
 refine kp [2] rfl ?_
 refine Run.ret ?_
 exact ret_one (.tmp rfl .nil) (congrArg I (by unfold headE; simp_all <;> omega)) gv
 refine sr ?_
 refine sx 4 ?_
 first | refine RunL.splitP (t := 48) rfl (fun g9 => ?_) (fun g9 => ?_) | refine RunL.split (t := 48) rfl (fun g9 => ?_) (fun g9 => ?_)
 refine sx 5 ?_
 refine kp [1, 44] rfl ?_
 refine Run.true rfl ?_
 refine sr ?_
 refine asg rfl rfl ?_
 refine kp [2] rfl ?_
 refine Run.ret ?_
 exact ret_one (.tmp rfl .nil) (congrArg I (by unfold headE; simp_all <;> omega)) gv
 refine sx 5 ?_
 refine kp [1, 44] rfl ?_
 first | refine Run.if rfl (fun h10 => ?_) (fun h10 => ?_) | refine Run.cond rfl (fun h10 => ?_) (fun h10 => ?_)
 refine sr ?_
 refine asg rfl rfl ?_
 refine kp [2] rfl ?_
 refine Run.ret ?_
 exact ret_one (.tmp rfl .nil) (congrArg I (by unfold headE; simp_all <;> omega)) gv
 refine sr ?_
 refine sx 2 ?_
 refine RunL.call C133 rfl rfl rfl (c_Plain _) .nil ?_
 refine sx 2 ?_
 refine kp [1, 53] rfl ?_
 first | refine Run.if rfl (fun h11 => ?_) (fun h11 => ?_) | refine Run.cond rfl (fun h11 => ?_) (fun h11 => ?_)
 refine sr ?_
 refine asg rfl rfl ?_
 refine kp [2] rfl ?_
 refine Run.ret ?_
 exact ret_one (.tmp rfl .nil) (congrArg I (by unfold headE; simp_all <;> omega)) gv
 refine sr ?_
 refine sx 5 ?_
 refine kp [1, 58] rfl ?_
 first | refine Run.if rfl (fun h12 => ?_) (fun h12 => ?_) | refine Run.cond rfl (fun h12 => ?_) (fun h12 => ?_)
 refine sr ?_
 refine asg rfl rfl ?_
 refine kp [2] rfl ?_
 refine Run.ret ?_
 exact ret_one (.tmp rfl .nil) (congrArg I (by unfold headE; simp_all <;> omega)) gv
 refine sr ?_
 refine sx 5 ?_
 refine kp [63] rfl ?_
 first | refine Run.if rfl (fun h13 => ?_) (fun h13 => ?_) | refine Run.cond rfl (fun h13 => ?_) (fun h13 => ?_)
 refine sr ?_
 refine asg rfl rfl ?_
 refine kp [2] rfl ?_
 refine Run.ret ?_
 exact ret_one (.tmp rfl .nil) (congrArg I (by unfold headE; simp_all <;> omega)) gv
 refine Run.skip ?_
 refine sr ?_
 refine asg rfl rfl ?_
 refine kp [2] rfl ?_
 refine Run.ret ?_
 exact ret_one (.tmp rfl .nil) (congrArg I (by unfold headE; simp_all <;> omega)) gv
theorem c_Check (e : En) (R : HP) (hR : Rd R ⟨0, 0, none⟩ lensC) (he : e.rd R) : AC Tryz.prog 56 ⟨[.agg ⟨e.c⟩]⟩ (stars [R]) (Ret (.tuple ⟨[I (chkN e).1, I (chkN e).2]⟩) [R]) := by
 refine AC.go Tryz.func56 rfl (Nat.le_of_ble_eq_true rfl) fun β => ?_
 refine sr ?_
 refine RunL.op rfl rfl (OpJ.boxA rfl fun b1 => ?_)
 refine sx 2 ?_
 refine kp [1] rfl ?_
 refine Run.seq ?_
 refine sr ?_
 refine sx 1 ?_
 refine RunL.call C99 rfl rfl rfl (c_head _ R hR) tks ?_
 refine asg rfl rfl ?_
 refine kp [1, 4] rfl ?_
 refine sr ?_
 refine sx 2 ?_
 refine kp [1, 4, 11] rfl ?_
 first | refine Run.if rfl (fun h1 => ?_) (fun h1 => ?_) | refine Run.cond rfl (fun h1 => ?_) (fun h1 => ?_)
 refine sr ?_
 refine sx 3 ?_
 refine kp [2, 3] rfl ?_
 refine Run.ret ?_
 exact ret_one (.tmp rfl (.tmp rfl .nil)) (by have hn : ¬ headE e = 0 := (by simpa using h1); unfold chkN; rw [if_neg hn]; rfl) gv
 refine Run.skip ?_
 refine Run.seq ?_
 refine sr ?_
 have hh : headE e = 0 := by simpa using h1
 have hlen : e.lines.length ≤ 100 := head_len hh
 refine sx 4 ?_
 refine kp [1, 14, 15, 16] rfl ?_
 refine Run.block ?_
 refine Run.weak (L' := [pt b1 (blk e.c 30), R]) (fun _ _ h => h) gv ?_
 refine Run.loop (fun mm E L => ∃ i : Nat, mm = e.lines.length - i ∧ i ≤ e.lines.length ∧ (∀ (j : Nat) (y : Ln), j < i → e.lines[j]? = some y → lineE y = 0) ∧ E = [(1, .pointer (some ⟨b1, 0, none⟩)), (14, .slice e.la e.lines.length e.lc), (15, I e.lines.length), (16, I i)] ∧ L = [pt b1 (blk e.c 30), R]) ⟨_, 0, rfl, Nat.zero_le _, fun _ _ h => by omega, rfl, rfl⟩ ?_
 rintro _ _ _ ⟨i, rfl, hi, hI0, rfl, rfl⟩
 refine sr ?_
 refine sx 1 ?_
 refine kp [1, 14, 15, 16, 17] rfl ?_
 refine Run.seq ?_
 first | refine Run.if rfl (fun h2 => ?_) (fun h2 => ?_) | refine Run.cond rfl (fun h2 => ?_) (fun h2 => ?_)
 refine Run.skip ?_
 refine Run.seq ?_
 refine Run.block ?_
 refine sr ?_
 obtain ⟨l, hli⟩ := get_ex (xs := e.lines) (i := i) (by omega)
 have hlm := List.mem_of_getElem? hli
 have hlr := he.2 l hlm
 refine RunL.rdOpen pk he.1 (flat_ne (k := 7) (fun _ => rfl) (by decide) hli) fun b o ebo hrd => ?_
 rw [ebo]
 refine sx 2 ?_
 refine RunL.op rfl rfl (OpJ.loadA inferInstance rfl pk (hrd.elem (fun _ => rfl) hli) rfl ?_)
 refine RunL.op rfl rfl (OpJ.alloc Z40 fun b6 => ?_)
 refine asg rfl rfl ?_
 refine RunL.op rfl rfl (OpJ.storeW T40 rfl rfl rfl rfl (by simp [Value.oneCell', Tg.c, Ln.c, En.c, Ac.c, Cl.c, Ky.c, Qy.c, Sb, Iv]) up ?_)
 refine kp [1, 5, 6, 14, 15, 16] rfl ?_
 refine sr ?_
 refine sx 1 ?_
 refine RunL.call C100 rfl rfl rfl (c_Line l R hlr.1 hlr.2.1) tks ?_
 refine asg rfl rfl ?_
 refine kp [1, 5, 7, 14, 15, 16] rfl ?_
 refine sr ?_
 refine sx 2 ?_
 refine kp [1, 5, 7, 14, 15, 16, 24] rfl ?_
 first | refine Run.if rfl (fun h3 => ?_) (fun h3 => ?_) | refine Run.cond rfl (fun h3 => ?_) (fun h3 => ?_)
 refine sr ?_
 refine sx 4 ?_
 refine kp [2, 3] rfl ?_
 refine Run.ret ?_
 exact ret_one (.tmp rfl (.tmp rfl .nil)) (by have hn : ¬ lineE l = 0 := (by simpa using h3); unfold chkN; rw [if_pos hh, linesE_at hI0 hli hn, Nat.zero_add]; rfl) gv
 refine Run.skip ?_
 refine Run.region ?_
 refine sx 2 ?_
 exact RunL.next (Keep.sub (kt (ks := [1, 14, 15, 16]) rfl)) _ ⟨_, by omega, i + 1, rfl, by omega, (fun j y hj hy => by { by_cases e2 : j = i; (subst e2; rw [hli] at hy; cases hy; simpa using h3); exact hI0 j y (by omega) hy }), rfl, rfl⟩ gv
 refine Run.exit ?_
 refine Run.seq ?_
 refine sr ?_
 refine sx 2 ?_
 have hall := linesE_none (i := 0) (fun l hl => by { obtain ⟨j, hj, rfl⟩ := List.getElem_of_mem hl; exact hI0 j _ (by omega) (List.getElem?_eq_getElem hj) })
 refine RunL.call C101 rfl rfl rfl (c_Balanced R _ _ _ he.1 (by omega) (fun l hl => (he.2 l hl).2.2)) tks ?_
 refine RunL.op rfl rfl (OpJ.not rfl ?_)
 refine kp [31] rfl ?_
 first | refine Run.if rfl (fun h4 => ?_) (fun h4 => ?_) | refine Run.cond rfl (fun h4 => ?_) (fun h4 => ?_)
 refine sr ?_
 refine sx 2 ?_
 refine kp [2, 3] rfl ?_
 refine Run.ret ?_
 exact ret_one (.tmp rfl (.tmp rfl .nil)) (by unfold chkN; rw [if_pos hh, hall]; simp only; rw [if_neg (by simp_all)]; rfl) gv
 refine Run.skip ?_
 refine sr ?_
 refine sx 2 ?_
 refine kp [2, 3] rfl ?_
 refine Run.ret ?_
 exact ret_one (.tmp rfl (.tmp rfl .nil)) (by unfold chkN; rw [if_pos hh, hall]; simp only; rw [if_pos (by simp_all)]; rfl) gv
theorem c_Get (b bm : Nat) (v w : Value) (m : List Ac) (hm6 : ∀ a ∈ m, a.need.length ≤ 6) (s : ByteArray) : AC Tryz.prog 91 ⟨[.pointer (some ⟨b, 0, none⟩), St s]⟩ (stars [pt b (blk [.map (some bm), v, w] 97), amap bm acF acG m, big (ndH 9) m]) (Outs (fun _ : Option Addr × Nat => True) (fun y => .tuple ⟨[.agg ⟨((lkA m s).put y).c⟩, Bo (getL m s).isSome]⟩) (fun y => [own 9 1 y.1 (lkA m s).need.length y.2 ((lkA m s).need.flatMap Sb), pt b (blk [.map (some bm), v, w] 97), amap bm acF acG m, big (ndH 9) m])) := by
 have hn6 := lk_need (c := s) hm6
 refine AC.go Tryz.func91 rfl (Nat.le_of_ble_eq_true rfl) fun β => ?_
 refine sr ?_
 refine RunL.op rfl rfl (OpJ.alloc Z78 fun b4 => ?_)
 refine asg rfl rfl ?_
 refine kp [0, 1, 4] rfl ?_
 refine Run.seq ?_
 refine sr ?_
 refine sx 2 ?_
 refine kp [0, 1, 4, 7] rfl ?_
 refine Run.false rfl ?_
 refine Run.skip ?_
 refine sr ?_
 refine sx 5 ?_
 refine RunL.op rfl rfl (OpJ.lookupA2 inferInstance inferInstance inferInstance rfl rfl pk ?_)
 refine sx 3 ?_
 refine RunL.op rfl rfl (OpJ.storeW T78 rfl rfl rfl rfl (by simp [Value.oneCell', Tg.c, Ln.c, En.c, Ac.c, Cl.c, Ky.c, Qy.c, Sb, Iv]) up ?_)
 refine asg rfl rfl ?_
 refine kp [4, 5] rfl ?_
 refine sr ?_
 refine sx 1 ?_
 refine RunL.callX C44 rfl rfl rfl (c_copied (lkA m s) (big (ndH 9) m) lk_rds (by omega) (by omega)) tks fun ⟨na, nc⟩ _ => ?_
 refine mvo rfl rfl ?_
 refine RunL.op rfl rfl (OpJ.storeW T78 rfl rfl rfl rfl (by simp [Value.oneCell', Tg.c, Ln.c, En.c, Ac.c, Cl.c, Ky.c, Qy.c, Sb, Iv]) up ?_)
 refine asg rfl rfl ?_
 refine kp [4, 5] rfl ?_
 refine Run.ret ?_
 exact ret_out (na, nc) (.cellA T78 rfl pk (by rfl) (.tmp rfl .nil)) trivial rfl gv
end
def lCutRen : Go.Shelf.Ren := { f := fun x => match x with | 145 => 127 | 220 => 171 | 219 => 185 | 217 => 189 | 225 => 190 | 224 => 191 | 267 => 192 | 266 => 193 | 314 => 194 | n => n, t := fun x => match x with | 9 => 9 | 4 => 4 | 59 => 164 | 3 => 3 | 5 => 5 | 46 => 129 | 146 => 243 | 51 => 216 | n => n, g := fun x => match x with | 1 => 1 | n => n }
open Go.Shelf Go.Lib in
theorem lCut : Go.Proofs.Lays.n145 Tryz.prog lCutRen :=
  { mixed := by kernel_rfl, f145 := Eq.trans Tryz.func127 (congrArg some (by kernel_rfl)), f217 := Eq.trans Tryz.func189 (congrArg some (by kernel_rfl)), f219 := Eq.trans Tryz.func185 (congrArg some (by kernel_rfl)), f220 := Eq.trans Tryz.func171 (congrArg some (by kernel_rfl)), f224 := Eq.trans Tryz.func191 (congrArg some (by kernel_rfl)), f225 := Eq.trans Tryz.func190 (congrArg some (by kernel_rfl)), f266 := Eq.trans Tryz.func193 (congrArg some (by kernel_rfl)), f267 := Eq.trans Tryz.func192 (congrArg some (by kernel_rfl)), f314 := Eq.trans Tryz.func194 (congrArg some (by kernel_rfl)), t3 := Tryz.underlying3, a3 := Tryz.isAgg3, z3 := Tryz.sizeOf3, v3 := Tryz.zeroValue3, t4 := Tryz.underlying4, a4 := Tryz.isAgg4, z4 := Tryz.sizeOf4, v4 := Tryz.zeroValue4, t5 := Tryz.underlying5, a5 := Tryz.isAgg5, z5 := Tryz.sizeOf5, v5 := Tryz.zeroValue5, t9 := Tryz.underlying9, a9 := Tryz.isAgg9, z9 := Tryz.sizeOf9, v9 := Tryz.zeroValue9, t46 := Tryz.underlying129, a46 := Tryz.isAgg129, z46 := Tryz.sizeOf129, v46 := Tryz.zeroValue129, t51 := Tryz.underlying216, a51 := Tryz.isAgg216, z51 := Tryz.sizeOf216, v51 := Tryz.zeroValue216, t59 := Tryz.underlying164, a59 := Tryz.isAgg164, z59 := Tryz.sizeOf164, v59 := Tryz.zeroValue164, t146 := Tryz.underlying243, a146 := Tryz.isAgg243, z146 := Tryz.sizeOf243, v146 := Tryz.zeroValue243, g1 := by kernel_rfl }
section
attribute [local irreducible] OpJ RunL Run RunD DetJ pt own star Rd RdS
end
theorem c_ib (s : ByteArray) (c : UInt8) : AC Tryz.prog 189 ⟨[St s, .int .u8 (c.toNat : Int)]⟩ (stars []) (Ret (I (ixc c s.data.toList)) []) := ac_ib (ρ := lCutRen) { lCut with } s c
section
attribute [local irreducible] OpJ RunL Run RunD DetJ pt own star Rd RdS
theorem c_idx1 (l : List UInt8) (c : UInt8) : AC Tryz.prog 185 ⟨[St (ba l), St (ba [c])]⟩ (stars []) (Ret (I (ixc c l)) []) := by
 refine AC.go Tryz.func185 rfl (Nat.le_of_ble_eq_true rfl) fun β => ?_
 refine sr ?_
 refine asg rfl rfl ?_
 refine kp [0, 1] rfl ?_
 refine sr ?_
 refine sx 2 ?_
 refine RunL.set (v := I 1) rfl ?_
 refine asg rfl rfl ?_
 refine kp [0, 1, 5] rfl ?_
 refine Run.seq ?_
 refine Run.block ?_
 refine sr ?_
 refine sx 2 ?_
 refine RunL.set (v := Bo false) rfl ?_
 refine mvo rfl rfl ?_
 first | refine RunL.splitP (t := 19) rfl (fun g1 => ?_) (fun g1 => ?_) | refine RunL.split (t := 19) rfl (fun g1 => ?_) (fun g1 => ?_)
 refine sx 5 ?_
 refine kp [0, 1, 5, 16] rfl ?_
 refine Run.true rfl ?_
 refine sr ?_
 refine asg rfl rfl ?_
 refine kp [4] rfl ?_
 refine Run.ret ?_
 cases g1
 refine sx 5 ?_
 refine kp [0, 1, 5, 16] rfl ?_
 first | refine Run.if rfl (fun h2 => ?_) (fun h2 => ?_) | refine Run.cond rfl (fun h2 => ?_) (fun h2 => ?_)
 refine sr ?_
 refine asg rfl rfl ?_
 refine kp [4] rfl ?_
 refine Run.ret ?_
 exact ret_one (.tmp rfl .nil) (by have e : l = [c] := (by simpa using congrArg (fun b : ByteArray => b.data.toList) h2.symm); subst e; simp [ixc, cut1]; rfl) gv
 refine sr ?_
 refine sx 2 ?_
 refine RunL.set (v := Bo true) rfl ?_
 refine asg rfl rfl ?_
 refine kp [0, 1, 5, 24] rfl ?_
 refine Run.true rfl ?_
 refine sr ?_
 refine sx 2 ?_
 refine RunL.op rfl rfl (OpJ.indexS U9 rfl rfl (by omega) (by rfl) ?_)
 refine RunL.set (v := .int .u8 (c.toNat : Int)) rfl ?_
 refine RunL.call C189 rfl rfl rfl (c_ib (ba l) c) .nil ?_
 refine asg rfl rfl ?_
 refine kp [4] rfl ?_
 refine Run.ret ?_
 exact ret_one (.tmp rfl .nil) (rfl) gv
theorem c_slCut (l : List UInt8) (c : UInt8) (hs : l.length < 9223372036854775808) : AC Tryz.prog 171 ⟨[St (ba l), St (ba [c])]⟩ (stars []) (Ret (.tuple ⟨[St (ba (cut1 c l).1), St (ba (cut1 c l).2.1), Bo (cut1 c l).2.2]⟩) []) := by
 have hbl : (ba l).size = l.length := rfl
 refine AC.go Tryz.func171 rfl (Nat.le_of_ble_eq_true rfl) fun β => ?_
 refine sr ?_
 refine sx 3 ?_
 refine kp [0, 1] rfl ?_
 refine Run.seq ?_
 refine sr ?_
 refine sx 2 ?_
 refine RunL.call C185 rfl rfl rfl (c_idx1 l c) .nil ?_
 refine asg rfl rfl ?_
 refine kp [0, 1, 7] rfl ?_
 refine sr ?_
 refine sx 2 ?_
 refine kp [0, 1, 7, 12] rfl ?_
 first | refine Run.if rfl (fun h1 => ?_) (fun h1 => ?_) | refine Run.cond rfl (fun h1 => ?_) (fun h1 => ?_)
 refine Run.seq ?_
 refine regionD HM ?_
 have hc : (cut1 c l).2.2 = true := (by by_cases hq : (cut1 c l).2.2 = true; exact hq; exfalso; revert h1; simp [ixc, hq])
 have hcl := cut1_lt hc
 rw [show ixc c l = ((cut1 c l).1.length : Int) from if_pos hc]
 refine tk 0 rfl rfl rfl (DetJ.move rfl) ?_
 refine tk 1 rfl rfl rfl (DetJ.move rfl) ?_
 refine tk 2 rfl rfl rfl (DetJ.sliceSHi U9 rfl rfl (by omega)) ?_
 refine tk 3 rfl rfl rfl (DetJ.move rfl) ?_
 refine tk 4 rfl rfl rfl (DetJ.move rfl) ?_
 refine tk 5 rfl rfl rfl (DetJ.move rfl) ?_
 refine tk 6 rfl rfl rfl (DetJ.lenS U9 rfl) ?_
 first | refine tk 7 rfl rfl rfl (DetJ.addI rfl rfl (by omega)) ?_ | refine tk 7 rfl rfl rfl (DetJ.add rfl rfl) ?_
 refine RunD.set (v := I (((cut1 c l).1.length + 1 : Nat) : Int)) (congrArg I (by rw [show ((ba [c]).size : Int) = 1 from rfl, wrap_i64_in (by omega)]; push_cast; rfl)) ?_
 refine tk 8 rfl rfl rfl (DetJ.sliceSLo U9 rfl rfl (by omega)) ?_
 refine tk 9 rfl rfl rfl (DetJ.assign rfl) ?_
 refine tk 10 rfl rfl rfl (DetJ.assign rfl) ?_
 refine tk 11 rfl rfl rfl (DetJ.assign rfl) ?_
 refine kd [4, 5, 6] rfl ?_
 refine Run.ret ?_
 exact ret_one (.tmp rfl (.tmp rfl (.tmp rfl .nil))) (by rw [ba_take hc, ba_drop hc, hc]; rfl) gv
 refine Run.skip ?_
 refine sr ?_
 refine sx 4 ?_
 refine kp [4, 5, 6] rfl ?_
 refine Run.ret ?_
 exact ret_one (.tmp rfl (.tmp rfl (.tmp rfl .nil))) (by have hc : ¬ (cut1 c l).2.2 = true := (fun hq => by revert h1; simp [ixc, hq]); rw [cut1_all c l hc]; rfl) gv
theorem c_cut (l : List UInt8) (c : UInt8) (hs : l.length < 9223372036854775808) : AC Tryz.prog 127 ⟨[St (ba l), St (ba [c])]⟩ (stars []) (Ret (.tuple ⟨[St (ba (cut1 c l).1), St (ba (cut1 c l).2.1), Bo (cut1 c l).2.2]⟩) []) := by
 refine AC.go Tryz.func127 rfl (Nat.le_of_ble_eq_true rfl) fun β => ?_
 refine sr ?_
 refine sx 3 ?_
 refine kp [0, 1] rfl ?_
 refine sr ?_
 refine sx 2 ?_
 refine RunL.call C171 rfl rfl rfl (c_slCut l c hs) .nil ?_
 refine sx 6 ?_
 refine kp [4, 5, 6] rfl ?_
 refine Run.ret ?_
 exact ret_one (.tmp rfl (.tmp rfl (.tmp rfl .nil))) (rfl) gv
theorem c_Parse (s : ByteArray) (m0 : Int) (R : HP) (hM : Rd R ⟨1, 0, none⟩ [I m0]) (hs : s.size < 9223372036854775808) : AC Tryz.prog 92 ⟨[St s]⟩ (stars [R]) (Outs (fun _ : Option Addr × Nat => True) (fun y => .tuple ⟨[.slice y.1 ((parseT s).getD []).length y.2, I (if (parseT s).isSome = true then 0 else 5)]⟩) (fun y => [own 83 2 y.1 ((parseT s).getD []).length y.2 (((parseT s).getD []).flatMap Tg.c), R])) := by
 refine AC.go Tryz.func92 rfl (Nat.le_of_ble_eq_true rfl) fun β => ?_
 refine sr ?_
 refine sx 2 ?_
 refine kp [0, 2] rfl ?_
 refine Run.seq ?_
 refine sr ?_
 refine RunL.ownNil 83 2 ?_
 refine sx 3 ?_
 refine kp [0, 2, 4] rfl ?_
 refine Run.block ?_
 refine Run.weak (L' := [own 83 2 none ([] : List Tg).length 0 (([] : List Tg).flatMap Tg.c), R]) (fun _ _ h => h) gv ?_
 refine Run.loop (fun mm E L => ∃ (more : Bool) (l : List UInt8) (acc : List Tg) (ta : Option Addr) (tc : Nat), mm = paM more l ∧ PaI s more l acc ∧ E = [(0, St (ba l)), (2, .slice ta acc.length tc), (4, Bo more)] ∧ L = [own 83 2 ta acc.length tc (acc.flatMap Tg.c), R]) ⟨_, _, _, [], none, 0, rfl, PaI.start, rfl, rfl⟩ ?_
 rintro _ _ _ ⟨more, l, acc, ta, tc, rfl, hI0, rfl, rfl⟩
 refine Run.seq ?_
 refine sr ?_
 refine mvo rfl rfl ?_
 refine kp [0, 2, 11] rfl ?_
 first | refine Run.if rfl (fun h1 => ?_) (fun h1 => ?_) | refine Run.cond rfl (fun h1 => ?_) (fun h1 => ?_)
 refine Run.skip ?_
 refine Run.block ?_
 refine sr ?_
 refine asg rfl rfl ?_
 refine kp [0, 2] rfl ?_
 refine sr ?_
 obtain rfl : more = true := by simpa using h1
 refine mvo rfl rfl ?_
 refine RunL.call C127 rfl rfl rfl (c_cut l 44 (by have := hI0.sz; omega)) .nil ?_
 refine sx 7 ?_
 refine kp [0, 2, 4, 5] rfl ?_
 refine sr ?_
 refine mvo rfl rfl ?_
 refine RunL.call C127 rfl rfl rfl (c_cut (it1 l) 61 (by have h1 := hI0.sz; have h2 : (it1 l).length ≤ l.length := cut1_fst 44 l; omega)) .nil ?_
 refine sx 7 ?_
 refine kp [0, 2, 4, 6, 7, 8] rfl ?_
 refine Run.seq ?_
 refine sr ?_
 refine sx 3 ?_
 first | refine RunL.splitP (t := 26) rfl (fun g2 => ?_) (fun g2 => ?_) | refine RunL.split (t := 26) rfl (fun g2 => ?_) (fun g2 => ?_)
 refine sx 4 ?_
 refine kp [0, 2, 4, 6, 7, 30] rfl ?_
 refine Run.true rfl ?_
 refine sr ?_
 refine RunL.ownNil 83 2 ?_
 refine sx 2 ?_
 refine kp [2, 3] rfl ?_
 refine Run.ret ?_
 have hp := hI0.bad (Or.inl (by simpa using g2))
 rw [hp]
 exact ret_out (none, 0) (.tmp rfl (.tmp rfl .nil)) trivial rfl gv
 refine sx 4 ?_
 refine kp [0, 2, 4, 6, 7, 30] rfl ?_
 first | refine Run.if rfl (fun h3 => ?_) (fun h3 => ?_) | refine Run.cond rfl (fun h3 => ?_) (fun h3 => ?_)
 refine sr ?_
 refine RunL.ownNil 83 2 ?_
 refine sx 2 ?_
 refine kp [2, 3] rfl ?_
 refine Run.ret ?_
 have hp := hI0.bad (Or.inr (by omega))
 rw [hp]
 exact ret_out (none, 0) (.tmp rfl (.tmp rfl .nil)) trivial rfl gv
 refine Run.skip ?_
 refine Run.region ?_
 have hal := hI0.len
 refine sx 4 ?_
 refine RunL.op rfl rfl (OpJ.buildSlice1 S38 rfl rfl rfl (by decide) (by decide) Z83 rfl fun b35 => ?_)
 refine RunL.op rfl rfl (OpJ.append1 (⟨ba (cut1 61 (it1 l)).1, ba (cut1 61 (it1 l)).2.1⟩ : Tg) S38 M83 rfl rfl pk pk rfl rfl (by simp [Value.oneCell', Tg.c, Ln.c, En.c, Ac.c, Cl.c, Ky.c, Qy.c, Sb, Iv]) rfl (by omega) (by omega) fun a36 c36 => ?_)
 refine asg rfl rfl ?_
 have hst := hI0.step (by rintro (h | h); (rw [h] at g2; cases g2); omega)
 exact RunL.next (Keep.sub (kt (ks := [0, 2, 4]) rfl)) _ ⟨_, paM_lt, _, _, nxT l acc, a36, c36, rfl, hst, rfl, rfl⟩ gv
 refine Run.exit ?_
 refine Run.seq ?_
 refine sr ?_
 obtain rfl : more = false := by simpa using h1
 refine mvo rfl rfl ?_
 refine RunL.call C128 rfl rfl rfl (c_dRight (own 83 2 ta acc.length tc (acc.flatMap Tg.c)) ta tc acc own.rds) tks ?_
 refine RunL.op rfl rfl (OpJ.not rfl ?_)
 refine kp [2, 39] rfl ?_
 first | refine Run.if rfl (fun h4 => ?_) (fun h4 => ?_) | refine Run.cond rfl (fun h4 => ?_) (fun h4 => ?_)
 refine sr ?_
 refine RunL.ownNil 83 2 ?_
 refine sx 2 ?_
 refine kp [2, 3] rfl ?_
 refine Run.ret ?_
 have hp := hI0.wrong (by simpa using h4)
 rw [hp]
 exact ret_out (none, 0) (.tmp rfl (.tmp rfl .nil)) trivial rfl gv
 refine Run.skip ?_
 refine sr ?_
 refine sx 3 ?_
 refine kp [2, 3] rfl ?_
 refine Run.ret ?_
 have hp := hI0.right (by simpa using h4)
 rw [hp]
 exact ret_out (ta, tc) (.tmp rfl (.tmp rfl .nil)) trivial rfl gv
theorem c_of1 (l : Nat) (b3 b5 b4 : Nat) (oa : Option Addr) (cap : Nat) (xs : List Cl) (all : Bool) (ent : ByteArray) (J : Nat → HP) (Jx : HP) (hJ : ∀ i, RdS (J i) oa (xs.flatMap Cl.c)) (hl : xs.length ≤ 140737488355328) (hY : ∀ i x, (selE all ent xs)[i]? = some x → YC Tryz.prog l #[.agg ⟨x.c⟩] (J i) (J (i + 1)) Jx) : AC Tryz.prog 94 ⟨[.func (.yield l) #[] #[], .pointer (some ⟨b3, 0, none⟩), .pointer (some ⟨b5, 0, none⟩), .pointer (some ⟨b4, 0, none⟩)]⟩ (stars [pt b3 (blk [.slice oa xs.length cap] 24), pt b5 (blk [Bo all] 4), pt b4 (blk [St ent] 9), J 0]) (Outs (fun _ : Bool => True) (fun _ => .tuple ⟨[]⟩) (fun d => [pt b3 (blk [.slice oa xs.length cap] 24), pt b5 (blk [Bo all] 4), pt b4 (blk [St ent] 9), if d then J (selE all ent xs).length else Jx])) := by
 refine AC.go Tryz.func94 rfl (Nat.le_of_ble_eq_true rfl) fun β => ?_
 refine sr ?_
 refine sx 3 ?_
 refine kp [0, 2, 3, 7, 8, 9] rfl ?_
 refine Run.block ?_
 refine Run.weak (L' := [pt b3 (blk [.slice oa xs.length cap] 24), pt b5 (blk [Bo all] 4), pt b4 (blk [St ent] 9), J (cntE all ent xs 0)]) (fun _ _ h => h) gv ?_
 refine Run.loop (fun mm E L => ∃ i : Nat, mm = xs.length - i ∧ i ≤ xs.length ∧ E = [(0, .func (.yield l) #[] #[]), (2, .pointer (some ⟨b5, 0, none⟩)), (3, .pointer (some ⟨b4, 0, none⟩)), (7, .slice oa xs.length cap), (8, I xs.length), (9, I i)] ∧ L = [pt b3 (blk [.slice oa xs.length cap] 24), pt b5 (blk [Bo all] 4), pt b4 (blk [St ent] 9), J (cntE all ent xs i)]) ⟨_, 0, rfl, Nat.zero_le _, rfl, rfl⟩ ?_
 rintro _ _ _ ⟨i, rfl, hi, rfl, rfl⟩
 refine sr ?_
 refine sx 1 ?_
 refine kp [0, 2, 3, 7, 8, 9, 10] rfl ?_
 refine Run.seq ?_
 first | refine Run.if rfl (fun h1 => ?_) (fun h1 => ?_) | refine Run.cond rfl (fun h1 => ?_) (fun h1 => ?_)
 refine Run.skip ?_
 refine Run.seq ?_
 refine Run.block ?_
 refine sr ?_
 obtain ⟨x, hx⟩ := get_ex (xs := xs) (i := i) (by omega)
 refine RunL.rdOpen pk (hJ (cntE all ent xs i)) (flat_ne (k := 7) (fun _ => rfl) (by decide) hx) fun b o e hrd => ?_
 subst e
 refine sx 1 ?_
 refine RunL.op rfl rfl (OpJ.loadA T48 rfl pk (hrd.elem (fun _ => rfl) hx) rfl ?_)
 refine RunL.op rfl rfl (OpJ.alloc Z48 fun b6 => ?_)
 refine RunL.op rfl rfl (OpJ.storeW T48 rfl rfl rfl rfl (by simp [Value.oneCell', Tg.c, Ln.c, En.c, Ac.c, Cl.c, Ky.c, Qy.c, Sb, Iv, Cs.c, Rt.c]) up ?_)
 refine kp [0, 2, 3, 6, 7, 8, 9] rfl ?_
 refine sr ?_
 refine sx 2 ?_
 rcases Bool.eq_false_or_eq_true all with ha | ha
 refine RunL.set (v := Bo true) (by rw [ha]) ?_
 refine sx 9 ?_
 refine RunL.yieldG rfl rfl rfl rfl rfl (hY _ x (sel_at (all := all) (ent := ent) hx (by simp_all)).1) pk ?_ ?_
 skip
 refine sx 2 ?_
 refine kp [0, 2, 3, 7, 8, 9, 26] rfl ?_
 refine Run.false rfl ?_
 refine Run.skip ?_
 refine Run.region ?_
 refine sx 2 ?_
 rw [← (sel_at (all := all) (ent := ent) hx (by simp_all)).2]
 exact RunL.next (Keep.sub (kt (ks := [0, 2, 3, 7, 8, 9]) rfl)) _ ⟨_, by omega, i + 1, rfl, by omega, rfl, rfl⟩ gv
 refine sx 2 ?_
 refine kp [0, 2, 3, 7, 8, 9, 26] rfl ?_
 refine Run.true rfl ?_
 refine Run.ret ?_
 exact ret_out false .nil trivial rfl gv
 refine RunL.set (v := Bo false) (by rw [ha]) ?_
 refine sx 7 ?_
 first | refine RunL.splitP (t := 21) rfl (fun g2 => ?_) (fun g2 => ?_) | refine RunL.split (t := 21) rfl (fun g2 => ?_) (fun g2 => ?_)
 refine sx 2 ?_
 refine RunL.yieldG rfl rfl rfl rfl rfl (hY _ x (sel_at (all := all) (ent := ent) hx (by simp_all)).1) pk ?_ ?_
 skip
 refine sx 2 ?_
 refine kp [0, 2, 3, 7, 8, 9, 26] rfl ?_
 refine Run.false rfl ?_
 refine Run.skip ?_
 refine Run.region ?_
 refine sx 2 ?_
 rw [← (sel_at (all := all) (ent := ent) hx (by simp_all)).2]
 exact RunL.next (Keep.sub (kt (ks := [0, 2, 3, 7, 8, 9]) rfl)) _ ⟨_, by omega, i + 1, rfl, by omega, rfl, rfl⟩ gv
 refine sx 2 ?_
 refine kp [0, 2, 3, 7, 8, 9, 26] rfl ?_
 refine Run.true rfl ?_
 refine Run.ret ?_
 exact ret_out false .nil trivial rfl gv
 refine sx 5 ?_
 refine kp [0, 2, 3, 7, 8, 9, 26] rfl ?_
 refine Run.false rfl ?_
 refine Run.skip ?_
 refine Run.region ?_
 refine sx 2 ?_
 rw [← sel_skip (all := all) (ent := ent) hx (by simp_all)]
 exact RunL.next (Keep.sub (kt (ks := [0, 2, 3, 7, 8, 9]) rfl)) _ ⟨_, by omega, i + 1, rfl, by omega, rfl, rfl⟩ gv
 refine Run.exit ?_
 obtain rfl : i = xs.length := by omega
 rw [cnt_all]
 exact ret_out true .nil trivial rfl gv
theorem c_nz (R : HP) (ob : Option Addr) (cb : Nat) (more : List Ln) (hR : RdS R ob (more.flatMap Ln.c)) (hm : more.length ≤ 1000) (aa : Option Addr) (ac : Nat) (acc : List Ln) (ha : acc.length ≤ 100000) : AC Tryz.prog 93 ⟨[.slice aa acc.length ac, .slice ob more.length cb]⟩ (stars [own 40 7 aa acc.length ac (acc.flatMap Ln.c), R]) (Outs (fun _ : Option Addr × Nat => True) (fun y => .slice y.1 (acc ++ more.filter nzB).length y.2) (fun y => [own 40 7 y.1 (acc ++ more.filter nzB).length y.2 ((acc ++ more.filter nzB).flatMap Ln.c), R])) := by
 refine AC.go Tryz.func93 rfl (Nat.le_of_ble_eq_true rfl) fun β => ?_
 refine sr ?_
 refine asg rfl rfl ?_
 refine kp [0, 1] rfl ?_
 refine Run.seq ?_
 refine sr ?_
 refine sx 3 ?_
 refine kp [0, 7, 8, 9] rfl ?_
 refine Run.block ?_
 refine Run.weak (L' := [own 40 7 aa acc.length ac (acc.flatMap Ln.c), R]) (fun _ _ h => h) gv ?_
 refine Run.loop (fun mm E L => ∃ (i : Nat) (acc2 : List Ln) (aa : Option Addr) (ac : Nat), mm = more.length - i ∧ i ≤ more.length ∧ acc2 = acc ++ (more.take i).filter nzB ∧ E = [(0, .slice aa acc2.length ac), (7, .slice ob more.length cb), (8, I more.length), (9, I i)] ∧ L = [own 40 7 aa acc2.length ac (acc2.flatMap Ln.c), R]) ⟨_, 0, acc, aa, ac, rfl, Nat.zero_le _, (by simp), rfl, rfl⟩ ?_
 rintro _ _ _ ⟨i, acc2, aa, ac, rfl, hi, hA, rfl, rfl⟩
 refine sr ?_
 refine sx 1 ?_
 refine kp [0, 7, 8, 9, 10] rfl ?_
 refine Run.seq ?_
 first | refine Run.if rfl (fun h1 => ?_) (fun h1 => ?_) | refine Run.cond rfl (fun h1 => ?_) (fun h1 => ?_)
 refine Run.skip ?_
 refine Run.seq ?_
 refine Run.block ?_
 refine sr ?_
 obtain ⟨x, hx⟩ := get_ex (xs := more) (i := i) (by omega)
 have hfl := List.length_filter_le nzB (more.take i)
 rw [List.length_take] at hfl
 have hal := congrArg List.length hA
 rw [List.length_append] at hal
 refine RunL.rdOpen pk hR (flat_ne (k := 7) (fun _ => rfl) (by decide) hx) fun b o e hrd => ?_
 subst e
 refine sx 1 ?_
 refine RunL.op rfl rfl (OpJ.loadA T40 rfl pk (hrd.elem (fun _ => rfl) hx) rfl ?_)
 refine RunL.op rfl rfl (OpJ.alloc Z40 fun b6 => ?_)
 refine RunL.op rfl rfl (OpJ.storeW T40 rfl rfl rfl rfl (by simp [Value.oneCell', Tg.c, Ln.c, En.c, Ac.c, Cl.c, Ky.c, Qy.c, Sb, Iv, Cs.c, Rt.c]) up ?_)
 refine kp [0, 6, 7, 8, 9] rfl ?_
 refine sr ?_
 refine sx 3 ?_
 refine kp [0, 6, 7, 8, 9, 15] rfl ?_
 first | refine Run.if rfl (fun h2 => ?_) (fun h2 => ?_) | refine Run.cond rfl (fun h2 => ?_) (fun h2 => ?_)
 refine Run.region ?_
 refine sx 2 ?_
 refine RunL.op rfl rfl (OpJ.buildSlice1 S28 rfl rfl rfl (by decide) (by decide) Z40 rfl fun b18 => ?_)
 refine RunL.op rfl rfl (OpJ.append1 x S28 M40 rfl rfl pk pk rfl rfl (by simp [Value.oneCell', Tg.c, Ln.c, En.c, Ac.c, Cl.c, Ky.c, Qy.c, Sb, Iv, Cs.c, Rt.c]) rfl (by omega) (by omega) fun a19 c19 => ?_)
 refine asg rfl rfl ?_
 refine kp [0, 7, 8, 9] rfl ?_
 refine Run.region ?_
 refine sx 2 ?_
 have hst := nz_step hx
 rw [if_pos (by unfold nzB; simp_all)] at hst
 exact RunL.next (Keep.sub (kt (ks := [0, 7, 8, 9]) rfl)) _ ⟨_, by omega, i + 1, acc2 ++ [x], a19, c19, rfl, by omega, (by rw [hst, hA, List.append_assoc]), rfl, rfl⟩ gv
 refine Run.skip ?_
 refine Run.region ?_
 refine sx 2 ?_
 have hst := nz_step hx
 rw [if_neg (by unfold nzB; simp_all)] at hst
 exact RunL.next (Keep.sub (kt (ks := [0, 7, 8, 9]) rfl)) _ ⟨_, by omega, i + 1, acc2, aa, ac, rfl, by omega, (by rw [hst, hA, List.append_nil]), rfl, rfl⟩ gv
 refine Run.exit ?_
 refine sr ?_
 refine sx 2 ?_
 refine kp [4] rfl ?_
 refine Run.ret ?_
 rw [List.take_of_length_le (by omega)] at hA
 subst hA
 exact ret_out (aa, ac) (.tmp rfl .nil) trivial rfl gv
theorem c_diff (b bm : Nat) (base : ByteArray) (n : Int) (m : List Sr) (l : List Rt) (hT : TabI m l) (hok : fxB base l = true) (x : Cl) (ha : i64 x.amt) (hb : -1000000000000000 ≤ x.base ∧ x.base ≤ 1000000000000000) (on mode : Int) (b8 b10 b11 : Nat) (R : HP) (hR : Rd R ⟨0, 0, none⟩ lensC) (hz : (x.k.cur.size : Int) ≤ 9223372036854775807) (hz2 : (base.size : Int) ≤ 9223372036854775807) : AC Tryz.prog 88 ⟨[.agg ⟨x.c⟩, .pointer (some ⟨b8, 0, none⟩), .pointer (some ⟨b10, 0, none⟩), .pointer (some ⟨b11, 0, none⟩)]⟩ (stars [pt b8 (blk [.pointer (some ⟨b, 0, none⟩)] 59), pt b10 (blk [I on] 3), pt b11 (blk [I mode] 3), pt b (blk [St base, I n, .map (some bm)] 103), amap bm srF srG m, big (srH 107) m, R]) (Ret (.tuple ⟨[I ((convM base l x.amt x.k.cur base 1 on mode).1 - x.base), I (convM base l x.amt x.k.cur base 1 on mode).2]⟩) [pt b8 (blk [.pointer (some ⟨b, 0, none⟩)] 59), pt b10 (blk [I on] 3), pt b11 (blk [I mode] 3), pt b (blk [St base, I n, .map (some bm)] 103), amap bm srF srG m, big (srH 107) m, R]) := by
 have hcb := conv_bd base l x.amt x.k.cur base 1 on mode
 refine AC.go Tryz.func88 rfl (Nat.le_of_ble_eq_true rfl) fun β => ?_
 refine sr ?_
 refine RunL.op rfl rfl (OpJ.boxA rfl fun b4 => ?_)
 refine sx 2 ?_
 refine kp [1, 2, 3, 4] rfl ?_
 refine Run.seq ?_
 refine regionD HM ?_
 first | refine RunD.takeF 0 rfl rfl kr T59 rfl pk (by rfl) ?_ | refine RunD.takeO 0 rfl rfl kr T59 rfl pk (by assumption) (by rfl) (by exact fun _ => rfl) ?_
 refine tk 1 rfl rfl rfl (DetJ.fieldAddr F48_1 rfl) ?_
 first | refine RunD.takeF 2 rfl rfl kr T3 rfl pk (by rfl) ?_ | refine RunD.takeO 2 rfl rfl kr T3 rfl pk (by assumption) (by rfl) (by exact fun _ => rfl) ?_
 refine tk 3 rfl rfl rfl (DetJ.fieldAddr F48_0 rfl) ?_
 refine tk 4 rfl rfl rfl (DetJ.fieldAddr F46_2 rfl) ?_
 first | refine RunD.takeF 5 rfl rfl kr T9 rfl pk (by rfl) ?_ | refine RunD.takeO 5 rfl rfl kr T9 rfl pk (by assumption) (by rfl) (by exact fun _ => rfl) ?_
 first | refine RunD.takeF 6 rfl rfl kr T59 rfl pk (by rfl) ?_ | refine RunD.takeO 6 rfl rfl kr T59 rfl pk (by assumption) (by rfl) (by exact fun _ => rfl) ?_
 first | refine RunD.takeF 8 rfl rfl kr T3 rfl pk (by rfl) ?_ | refine RunD.takeO 8 rfl rfl kr T3 rfl pk (by assumption) (by rfl) (by exact fun _ => rfl) ?_
 first | refine RunD.takeF 9 rfl rfl kr T3 rfl pk (by rfl) ?_ | refine RunD.takeO 9 rfl rfl kr T3 rfl pk (by assumption) (by rfl) (by exact fun _ => rfl) ?_
 refine RunD.op 7 [true, true, false, true, true, true, true, true, true] rfl rfl rfl kr kr (OpJ.callRet C90 rfl rfl (c_fxBase b bm base n) tks ⟨po, ?_⟩)
 refine RunD.op 10 [false, false, false, false, false, false, false, false] rfl rfl rfl kr kr (OpJ.callRet C89 rfl rfl (c_conv b bm base n m l hT hok x.amt ha x.k.cur base 1 on mode R hR hz hz2) tks ⟨po, ?_⟩)
 refine tk 11 rfl rfl rfl (DetJ.move rfl) ?_
 refine tk 12 rfl rfl rfl (DetJ.extract rfl rfl) ?_
 refine tk 13 rfl rfl rfl (DetJ.extract rfl rfl) ?_
 refine tk 14 rfl rfl rfl (DetJ.assign rfl) ?_
 refine tk 15 rfl rfl rfl (DetJ.assign rfl) ?_
 refine kd [4, 6, 7] rfl ?_
 refine sr ?_
 refine sx 7 ?_
 refine kp [5, 6] rfl ?_
 refine Run.ret ?_
 exact ret_one (.tmp rfl (.tmp rfl .nil)) (rfl) gv
end
theorem c_it (b3 b5 b4 : Nat) (oa : Option Addr) (cap : Nat) (xs : List Cl) (all : Bool) (ent : ByteArray) (hl : xs.length ≤ 140737488355328) : ItC Tryz.prog 94 ⟨[.pointer (some ⟨b3, 0, none⟩), .pointer (some ⟨b5, 0, none⟩), .pointer (some ⟨b4, 0, none⟩)]⟩ (selE all ent xs).length (encC (selE all ent xs)) (stars [pt b3 (blk [.slice oa xs.length cap] 24), pt b5 (blk [Bo all] 4), pt b4 (blk [St ent] 9)]) (fun J => RdS J oa (xs.flatMap Cl.c)) :=
  ItC.of (As := [pt b3 (blk [.slice oa xs.length cap] 24), pt b5 (blk [Bo all] 4), pt b4 (blk [St ent] 9)]) (v := .tuple ⟨[]⟩) fun l J Jx hJ hY => c_of1 l b3 b5 b4 oa cap xs all ent J Jx hJ hl fun i x hx => by
    have h := hY i (List.getElem?_eq_some_iff.1 hx).1
    rw [encC_at hx] at h; exact h
section
attribute [local irreducible] OpJ RunL Run RunD DetJ pt own star Rd RdS
theorem c_lines (b3 b5 b4 : Nat) (oa : Option Addr) (cap : Nat) (xs : List Cl) (all : Bool) (ent : ByteArray) (cb cm : Nat) (v w : Value) (cs : List Ac) (hm6 : ∀ a ∈ cs, a.need.length ≤ 6) (b bm : Nat) (base : ByteArray) (n : Int) (m : List Sr) (l : List Rt) (hT : TabI m l) (hok : fxB base l = true) (on mode : Int) (gain loss : ByteArray) (R : HP) (m0 : Int) (hR0 : Rd R ⟨0, 0, none⟩ lensC) (hM : Rd R ⟨1, 0, none⟩ [I m0]) (hR : RdS R oa (xs.flatMap Cl.c)) (hl : xs.length ≤ 1000) (hxz : ∀ x ∈ xs, ClSz x) (hbz : (base.size : Int) ≤ 9223372036854775807) : AC Tryz.prog 51 ⟨[.pointer (some ⟨cb, 0, none⟩), .pointer (some ⟨b, 0, none⟩), .func (.func 94) ⟨[]⟩ ⟨[.pointer (some ⟨b3, 0, none⟩), .pointer (some ⟨b5, 0, none⟩), .pointer (some ⟨b4, 0, none⟩)]⟩, I on, I mode, St gain, St loss]⟩ (stars [stars [pt b3 (blk [.slice oa xs.length cap] 24), pt b5 (blk [Bo all] 4), pt b4 (blk [St ent] 9)], pt cb (blk [.map (some cm), v, w] 97), amap cm acF acG cs, big (ndH 9) cs, pt b (blk [St base, I n, .map (some bm)] 103), amap bm srF srG m, big (srH 107) m, R]) (Outs (fun y : Option Addr × Nat × List Ln => y.2.2.map Ln.e = ((⟨cs, base, l, on, mode, gain, loss⟩ : Rv).go (selE all ent xs)).1) (fun y => .tuple ⟨[.slice y.1 y.2.2.length y.2.1, I ((⟨cs, base, l, on, mode, gain, loss⟩ : Rv).go (selE all ent xs)).2]⟩) (fun y => [own 40 7 y.1 y.2.2.length y.2.1 (y.2.2.flatMap Ln.c), big (tagH 83) y.2.2, pt cb (blk [.map (some cm), v, w] 97), amap cm acF acG cs, big (ndH 9) cs, pt b (blk [St base, I n, .map (some bm)] 103), amap bm srF srG m, big (srH 107) m, R])) := by
 refine AC.go Tryz.func51 rfl (Nat.le_of_ble_eq_true rfl) fun β => ?_
 refine sr ?_
 refine RunL.op rfl rfl (OpJ.box rfl rfl fun b7 => ?_)
 refine RunL.op rfl rfl (OpJ.box rfl rfl fun b8 => ?_)
 refine RunL.op rfl rfl (OpJ.box rfl rfl fun b10 => ?_)
 refine RunL.op rfl rfl (OpJ.box rfl rfl fun b11 => ?_)
 refine RunL.op rfl rfl (OpJ.box rfl rfl fun b12 => ?_)
 refine RunL.op rfl rfl (OpJ.box rfl rfl fun b13 => ?_)
 refine RunL.op rfl rfl (OpJ.alloc Z28 fun b14 => ?_)
 refine RunL.op rfl rfl (OpJ.alloc Z31 fun b15 => ?_)
 refine kp [2, 7, 8, 10, 11, 12, 13, 14, 15] rfl ?_
 refine sr ?_
 refine sx 1 ?_
 refine RunL.op rfl rfl (OpJ.alloc Z158 fun b16 => ?_)
 refine sx 1 ?_
 refine kp [2, 7, 8, 12, 13, 14, 15, 16] rfl ?_
 refine rangeS rfl ?_
 refine Run.region ?_
 refine RunL.ownNil 40 7 ?_
 refine RunL.bigNil (tagH 83) ?_
 refine mvo rfl rfl ?_
 refine kp [7, 8, 12, 13, 14, 15, 16, 25] rfl ?_
 refine rangeC (fun i L => ∃ (acc : List Ln) (ca : Option Addr) (cc : Nat), acc.length ≤ 2 * i ∧ RvI (⟨cs, base, l, on, mode, gain, loss⟩ : Rv) (selE all ent xs) i (acc.map Ln.e) ∧ L = [pt b14 (blk [.slice ca acc.length cc] 28), own 40 7 ca acc.length cc (acc.flatMap Ln.c), big (tagH 83) acc, pt b7 (blk [.pointer (some ⟨cb, 0, none⟩)] 56), pt b8 (blk [.pointer (some ⟨b, 0, none⟩)] 59), pt b10 (blk [I on] 3), pt b11 (blk [I mode] 3), pt b12 (blk [St gain] 9), pt b13 (blk [St loss] 9), pt b15 (blk [I 0] 31), pt b16 (blk [.func (.func 88) ⟨[]⟩ ⟨[.pointer (some ⟨b8, 0, none⟩), .pointer (some ⟨b10, 0, none⟩), .pointer (some ⟨b11, 0, none⟩)]⟩] 158), pt cb (blk [.map (some cm), v, w] 97), amap cm acF acG cs, big (ndH 9) cs, pt b (blk [St base, I n, .map (some bm)] 103), amap bm srF srG m, big (srH 107) m, R]) rfl C94 (c_it b3 b5 b4 oa cap xs all ent (by omega)) rfl ⟨[], none, 0, Nat.zero_le _, RvI.start, rfl⟩ (fun J hJ => RdS.of fun h hj => by obtain ⟨i, L, B, D, ⟨acc, ca, cc, _, _, rfl⟩, hh⟩ := hJ h hj; exact ⟨_, hh, RdS.inr (RdS.inr (RdS.pick pk hR))⟩) ?_ ?_ gv
 rintro β1 i L ⟨acc, ca, cc, hal, hI, rfl⟩ hi
 obtain ⟨x, hx⟩ : ∃ x, (selE all ent xs)[i]? = some x := ⟨_, List.getElem?_eq_getElem hi⟩
 rw [encC_at hx]
 have hxs := List.mem_of_getElem? hx; have hxz2 := hxz x (List.mem_filter.1 hxs).1
 have hil : i < 1000 := Nat.lt_of_lt_of_le hi (Nat.le_trans (List.length_filter_le ..) hl)
 refine Run.region ?_
 refine RunL.op rfl rfl (OpJ.alloc Z48 fun b17 => ?_)
 refine RunL.op rfl rfl (OpJ.storeW T48 rfl rfl rfl rfl (by simp [Value.oneCell', Tg.c, Ln.c, En.c, Ac.c, Cl.c, Ky.c, Qy.c, Sb, Iv, Cs.c, Rt.c]) up ?_)
 refine kp [7, 8, 12, 13, 14, 15, 16, 17] rfl ?_
 refine ⟨rfl, fun β2 => ?_⟩
 refine Run.block ?_
 refine sr ?_
 refine sx 4 ?_
 refine RunL.callX C91 rfl rfl rfl (c_Get cb cm v w cs hm6 x.k.acc) tks fun ⟨na, nc⟩ _ => ?_
 refine sx 3 ?_
 refine RunL.op rfl rfl (OpJ.alloc Z78 fun b18 => ?_)
 refine RunL.op rfl rfl (OpJ.storeW T78 rfl rfl rfl rfl (by simp [Value.oneCell', Tg.c, Ln.c, En.c, Ac.c, Cl.c, Ky.c, Qy.c, Sb, Iv, Cs.c, Rt.c]) up ?_)
 refine asg rfl rfl ?_
 refine kp [8, 12, 13, 14, 15, 16, 17, 18, 19] rfl ?_
 refine Run.seq ?_
 refine sr ?_
 refine sx 2 ?_
 refine kp [8, 12, 13, 14, 15, 16, 17, 18, 36] rfl ?_
 first | refine Run.if rfl (fun h1 => ?_) (fun h1 => ?_) | refine Run.cond rfl (fun h1 => ?_) (fun h1 => ?_)
 refine sr ?_
 have hgn : getL cs x.k.acc = none := (by cases hq : getL cs x.k.acc <;> simp_all)
 have hgo := hI.bad hx (by rw [rv_none (p := (⟨cs, base, l, on, mode, gain, loss⟩ : Rv)) hgn]; decide)
 rw [rv_none (p := (⟨cs, base, l, on, mode, gain, loss⟩ : Rv)) hgn] at hgo
 refine RunL.ownNil 40 7 ?_
 refine RunL.bigNil (tagH 83) ?_
 refine sx 2 ?_
 refine kp [14, 15] rfl ?_
 refine Run.ret ?_
 exact ret_out (none, 0, []) (.cell1 T28 rfl pk (.cell1 T31 rfl pk .nil)) (by rw [hgo]; rfl) (by rw [hgo]; rfl) gv
 refine Run.skip ?_
 refine sr ?_
 have hga : getL cs x.k.acc = some (lkA cs x.k.acc) := (by unfold lkA; cases hq : getL cs x.k.acc <;> simp_all)
 have hcode : (lkA cs x.k.acc).code = x.k.acc := by simpa using List.find?_some hga
 refine sx 3 ?_
 refine RunL.callX C92 rfl rfl rfl (c_Parse x.k.tags m0 R hM hxz2.tags) tks fun ⟨ta, tc⟩ _ => ?_
 generalize hts0 : (parseT x.k.tags).getD [] = ts
 refine sx 5 ?_
 refine kp [8, 12, 13, 14, 15, 16, 17, 18, 20, 21] rfl ?_
 refine Run.seq ?_
 refine sr ?_
 refine sx 2 ?_
 refine kp [8, 12, 13, 14, 15, 16, 17, 18, 20, 45] rfl ?_
 first | refine Run.if rfl (fun h2 => ?_) (fun h2 => ?_) | refine Run.cond rfl (fun h2 => ?_) (fun h2 => ?_)
 refine sr ?_
 have htn : parseT x.k.tags = none := (by cases hq : parseT x.k.tags <;> simp_all)
 have hgo := hI.bad hx (by rw [rv_tag (p := (⟨cs, base, l, on, mode, gain, loss⟩ : Rv)) hga htn]; decide)
 rw [rv_tag (p := (⟨cs, base, l, on, mode, gain, loss⟩ : Rv)) hga htn] at hgo
 refine RunL.ownNil 40 7 ?_
 refine RunL.bigNil (tagH 83) ?_
 refine sx 2 ?_
 refine kp [14, 15] rfl ?_
 refine Run.ret ?_
 exact ret_out (none, 0, []) (.cell1 T28 rfl pk (.cell1 T31 rfl pk .nil)) (by rw [hgo]; rfl) (by rw [hgo]; rfl) gv
 refine Run.skip ?_
 refine Run.seq ?_
 refine Run.seq ?_
 refine regionD HM ?_
 have hts : parseT x.k.tags = some ts := (by cases hq : parseT x.k.tags <;> simp_all)
 refine tk 0 rfl rfl rfl (DetJ.fieldAddr F78_5 rfl) ?_
 first | refine RunD.takeF 1 rfl rfl kr T4 rfl pk (by rfl) ?_ | refine RunD.takeO 1 rfl rfl kr T4 rfl pk (by assumption) (by rfl) (by exact fun _ => rfl) ?_
 refine tk 2 rfl rfl rfl (DetJ.not rfl) ?_
 skip
 rcases Bool.eq_false_or_eq_true (lkA cs x.k.acc).mon with hmon | hmon
 refine RunD.set (v := Bo false) (by show Bo (!(lkA cs x.k.acc).mon) = _; rw [hmon]; rfl) ?_
 refine tk 3 rfl rfl rfl (DetJ.move rfl) ?_
 refine RunD.takeG 4 rfl rfl rfl rfl rfl kr (DetJ.fieldAddr F48_0 rfl) .nil ?_
 refine RunD.takeG 5 rfl rfl rfl rfl rfl kr (DetJ.fieldAddr F46_2 rfl) .nil ?_
 first | refine RunD.takeGF 6 rfl rfl rfl rfl kr T9 rfl pk (by rfl) ?_ | refine RunD.takeGO 6 rfl rfl rfl rfl kr T9 rfl pk (by assumption) (by rfl) (by exact fun _ => rfl) ?_
 first | refine RunD.takeGF 7 rfl rfl rfl rfl kr T59 rfl pk (by rfl) ?_ | refine RunD.takeGO 7 rfl rfl rfl rfl kr T59 rfl pk (by assumption) (by rfl) (by exact fun _ => rfl) ?_
 refine RunD.opG 8 [false, true, true, true, false, false, false, true] rfl rfl rfl rfl rfl kr kr (OpJ.callRet C90 rfl rfl (c_fxBase b bm base n) tks ⟨po, ?_⟩)
 refine RunD.takeG 9 rfl rfl rfl rfl rfl kr (DetJ.eqlS rfl rfl) .nil ?_
 refine tk 10 rfl rfl rfl (DetJ.pickF rfl rfl) ?_
 refine kd [12, 13, 14, 15, 16, 17, 18, 20, 56] rfl ?_
 first | refine Run.if rfl (fun h3 => ?_) (fun h3 => ?_) | refine Run.cond rfl (fun h3 => ?_) (fun h3 => ?_)
 have hst := hI.step hx (by rw [rv_skip (p := (⟨cs, base, l, on, mode, gain, loss⟩ : Rv)) hga hts (by simp_all)])
 rw [rv_skip (p := (⟨cs, base, l, on, mode, gain, loss⟩ : Rv)) hga hts (by simp_all), List.append_nil] at hst
 exact Run.exitTo _ ⟨acc, ca, cc, by omega, hst, rfl⟩ gv
 refine Run.skip ?_
 refine sr ?_
 refine sx 2 ?_
 refine RunL.call C88 rfl rfl rfl (c_diff b bm base n m l hT hok x hxz2.amt hxz2.base on mode b8 b10 b11 R hR0 hxz2.cur hbz) tks ?_
 refine sx 5 ?_
 refine kp [12, 13, 14, 15, 17, 18, 20, 21, 22] rfl ?_
 refine Run.seq ?_
 refine sr ?_
 refine sx 2 ?_
 refine kp [12, 13, 14, 15, 17, 18, 20, 21, 22, 64] rfl ?_
 first | refine Run.if rfl (fun h4 => ?_) (fun h4 => ?_) | refine Run.cond rfl (fun h4 => ?_) (fun h4 => ?_)
 refine sr ?_
 have hob := rv_bad (p := (⟨cs, base, l, on, mode, gain, loss⟩ : Rv)) (x := x) hga hts (fun h => h.elim (fun h => by simp_all) (fun h => by simp_all)) (by simpa using h4)
 have hgo := hI.bad hx (by rw [hob]; simpa using h4)
 rw [hob] at hgo
 refine RunL.ownNil 40 7 ?_
 refine RunL.bigNil (tagH 83) ?_
 refine sx 3 ?_
 refine kp [14, 15] rfl ?_
 refine Run.ret ?_
 exact ret_out (none, 0, []) (.cell1 T28 rfl pk (.cell1 T31 rfl pk .nil)) (by rw [hgo]; rfl) (by rw [hgo]; rfl) gv
 refine Run.skip ?_
 refine sr ?_
 refine sx 2 ?_
 refine kp [13, 14, 17, 18, 20, 22, 23] rfl ?_
 refine Run.seq ?_
 refine sr ?_
 refine sx 2 ?_
 refine kp [13, 14, 17, 18, 20, 22, 23, 68] rfl ?_
 first | refine Run.if rfl (fun h5 => ?_) (fun h5 => ?_) | refine Run.cond rfl (fun h5 => ?_) (fun h5 => ?_)
 refine Run.region ?_
 refine sx 2 ?_
 refine kp [14, 17, 18, 20, 22, 23] rfl ?_
 refine Run.region ?_
 refine sx 18 ?_
 refine RunL.set (v := I (-((convM base l x.amt x.k.cur base 1 on mode).1 - x.base))) (congrArg I (by have := conv_bd base l x.amt x.k.cur base 1 on mode; have := hxz2.base; rw [wrap_i64_in (by omega)]; omega)) ?_
 refine sx 1 ?_
 refine RunL.op rfl rfl (OpJ.buildSliceN (cs := ([(⟨(lkA cs x.k.acc).code, x.k.cur, 0, (convM base l x.amt x.k.cur base 1 on mode).1 - x.base, x.k.partner, bs0, ta, tc, ts⟩ : Ln), (⟨loss, x.k.cur, 0, -((convM base l x.amt x.k.cur base 1 on mode).1 - x.base), bs0, bs0, none, 0, []⟩ : Ln)].flatMap Ln.c)) S28 Z40 rfl (by decide) (by decide) rfl (by rfl) (by rfl) fun b89 => ?_)
 refine RunL.callX C93 rfl rfl rfl (c_nz (pt b89 (blk ([(⟨(lkA cs x.k.acc).code, x.k.cur, 0, (convM base l x.amt x.k.cur base 1 on mode).1 - x.base, x.k.partner, bs0, ta, tc, ts⟩ : Ln), (⟨loss, x.k.cur, 0, -((convM base l x.amt x.k.cur base 1 on mode).1 - x.base), bs0, bs0, none, 0, []⟩ : Ln)].flatMap Ln.c) 40)) (some ⟨b89, 0, none⟩) 2 [(⟨(lkA cs x.k.acc).code, x.k.cur, 0, (convM base l x.amt x.k.cur base 1 on mode).1 - x.base, x.k.partner, bs0, ta, tc, ts⟩ : Ln), (⟨loss, x.k.cur, 0, -((convM base l x.amt x.k.cur base 1 on mode).1 - x.base), bs0, bs0, none, 0, []⟩ : Ln)] Rd.whole.rds (Nat.le_of_ble_eq_true rfl) ca cc acc (by omega)) tks fun ⟨za, zc⟩ _ => ?_
 by_cases hd : (convM base l x.amt x.k.cur base 1 on mode).1 - x.base = 0
 rw [show acc ++ List.filter nzB [(⟨(lkA cs x.k.acc).code, x.k.cur, 0, (convM base l x.amt x.k.cur base 1 on mode).1 - x.base, x.k.partner, bs0, ta, tc, ts⟩ : Ln), (⟨loss, x.k.cur, 0, -((convM base l x.amt x.k.cur base 1 on mode).1 - x.base), bs0, bs0, none, 0, []⟩ : Ln)] = acc from by rw [nz_none hd]; exact List.append_nil _]
 refine sx 1 ?_
 have hone := rv_ok (p := (⟨cs, base, l, on, mode, gain, loss⟩ : Rv)) (x := x) hga hts (fun h => h.elim (fun h => by simp_all) (fun h => by simp_all)) (by simpa using h4)
 have hst := hI.step hx (by rw [hone])
 rw [hone, Rv.lns, if_pos hd, List.append_nil] at hst
 exact RunL.next (Keep.sub (kt (ks := []) rfl)) _ ⟨acc, za, zc, by omega, hst, rfl⟩ gv
 rw [show acc ++ List.filter nzB [(⟨(lkA cs x.k.acc).code, x.k.cur, 0, (convM base l x.amt x.k.cur base 1 on mode).1 - x.base, x.k.partner, bs0, ta, tc, ts⟩ : Ln), (⟨loss, x.k.cur, 0, -((convM base l x.amt x.k.cur base 1 on mode).1 - x.base), bs0, bs0, none, 0, []⟩ : Ln)] = acc ++ [(⟨(lkA cs x.k.acc).code, x.k.cur, 0, (convM base l x.amt x.k.cur base 1 on mode).1 - x.base, x.k.partner, bs0, ta, tc, ts⟩ : Ln)] ++ [(⟨loss, x.k.cur, 0, -((convM base l x.amt x.k.cur base 1 on mode).1 - x.base), bs0, bs0, none, 0, []⟩ : Ln)] from by rw [nz_both hd]; simp]
 have hoth : (if (convM base l x.amt x.k.cur base 1 on mode).1 - x.base < 0 then loss else gain) = loss := by rw [if_pos (by assumption)]
 refine sx 1 ?_
 have hone := rv_ok (p := (⟨cs, base, l, on, mode, gain, loss⟩ : Rv)) (x := x) hga hts (fun h => h.elim (fun h => by simp_all) (fun h => by simp_all)) (by simpa using h4)
 have hst := hI.step hx (by rw [hone])
 rw [hone, Rv.lns, if_neg hd] at hst
 refine RunL.bigApp (tagH 83) acc (⟨(lkA cs x.k.acc).code, x.k.cur, 0, (convM base l x.amt x.k.cur base 1 on mode).1 - x.base, x.k.partner, bs0, ta, tc, ts⟩ : Ln) pk pk ?_
 refine RunL.ownNil 83 2 ?_
 refine RunL.bigApp (tagH 83) (acc ++ [(⟨(lkA cs x.k.acc).code, x.k.cur, 0, (convM base l x.amt x.k.cur base 1 on mode).1 - x.base, x.k.partner, bs0, ta, tc, ts⟩ : Ln)]) (⟨loss, x.k.cur, 0, -((convM base l x.amt x.k.cur base 1 on mode).1 - x.base), bs0, bs0, none, 0, []⟩ : Ln) pk pk ?_
 exact RunL.next (Keep.sub (kt (ks := []) rfl)) _ ⟨acc ++ [(⟨(lkA cs x.k.acc).code, x.k.cur, 0, (convM base l x.amt x.k.cur base 1 on mode).1 - x.base, x.k.partner, bs0, ta, tc, ts⟩ : Ln)] ++ [(⟨loss, x.k.cur, 0, -((convM base l x.amt x.k.cur base 1 on mode).1 - x.base), bs0, bs0, none, 0, []⟩ : Ln)], za, zc, by simp only [List.length_append, List.length_cons, List.length_nil]; omega, (by rw [List.append_assoc, List.map_append]; exact (by simpa [Ln.e, hcode, hoth] using hst)), rfl⟩ gv
 refine Run.skip ?_
 refine Run.region ?_
 refine sx 18 ?_
 refine RunL.set (v := I (-((convM base l x.amt x.k.cur base 1 on mode).1 - x.base))) (congrArg I (by have := conv_bd base l x.amt x.k.cur base 1 on mode; have := hxz2.base; rw [wrap_i64_in (by omega)]; omega)) ?_
 refine sx 1 ?_
 refine RunL.op rfl rfl (OpJ.buildSliceN (cs := ([(⟨(lkA cs x.k.acc).code, x.k.cur, 0, (convM base l x.amt x.k.cur base 1 on mode).1 - x.base, x.k.partner, bs0, ta, tc, ts⟩ : Ln), (⟨gain, x.k.cur, 0, -((convM base l x.amt x.k.cur base 1 on mode).1 - x.base), bs0, bs0, none, 0, []⟩ : Ln)].flatMap Ln.c)) S28 Z40 rfl (by decide) (by decide) rfl (by rfl) (by rfl) fun b89 => ?_)
 refine RunL.callX C93 rfl rfl rfl (c_nz (pt b89 (blk ([(⟨(lkA cs x.k.acc).code, x.k.cur, 0, (convM base l x.amt x.k.cur base 1 on mode).1 - x.base, x.k.partner, bs0, ta, tc, ts⟩ : Ln), (⟨gain, x.k.cur, 0, -((convM base l x.amt x.k.cur base 1 on mode).1 - x.base), bs0, bs0, none, 0, []⟩ : Ln)].flatMap Ln.c) 40)) (some ⟨b89, 0, none⟩) 2 [(⟨(lkA cs x.k.acc).code, x.k.cur, 0, (convM base l x.amt x.k.cur base 1 on mode).1 - x.base, x.k.partner, bs0, ta, tc, ts⟩ : Ln), (⟨gain, x.k.cur, 0, -((convM base l x.amt x.k.cur base 1 on mode).1 - x.base), bs0, bs0, none, 0, []⟩ : Ln)] Rd.whole.rds (Nat.le_of_ble_eq_true rfl) ca cc acc (by omega)) tks fun ⟨za, zc⟩ _ => ?_
 by_cases hd : (convM base l x.amt x.k.cur base 1 on mode).1 - x.base = 0
 rw [show acc ++ List.filter nzB [(⟨(lkA cs x.k.acc).code, x.k.cur, 0, (convM base l x.amt x.k.cur base 1 on mode).1 - x.base, x.k.partner, bs0, ta, tc, ts⟩ : Ln), (⟨gain, x.k.cur, 0, -((convM base l x.amt x.k.cur base 1 on mode).1 - x.base), bs0, bs0, none, 0, []⟩ : Ln)] = acc from by rw [nz_none hd]; exact List.append_nil _]
 refine sx 1 ?_
 have hone := rv_ok (p := (⟨cs, base, l, on, mode, gain, loss⟩ : Rv)) (x := x) hga hts (fun h => h.elim (fun h => by simp_all) (fun h => by simp_all)) (by simpa using h4)
 have hst := hI.step hx (by rw [hone])
 rw [hone, Rv.lns, if_pos hd, List.append_nil] at hst
 exact RunL.next (Keep.sub (kt (ks := []) rfl)) _ ⟨acc, za, zc, by omega, hst, rfl⟩ gv
 rw [show acc ++ List.filter nzB [(⟨(lkA cs x.k.acc).code, x.k.cur, 0, (convM base l x.amt x.k.cur base 1 on mode).1 - x.base, x.k.partner, bs0, ta, tc, ts⟩ : Ln), (⟨gain, x.k.cur, 0, -((convM base l x.amt x.k.cur base 1 on mode).1 - x.base), bs0, bs0, none, 0, []⟩ : Ln)] = acc ++ [(⟨(lkA cs x.k.acc).code, x.k.cur, 0, (convM base l x.amt x.k.cur base 1 on mode).1 - x.base, x.k.partner, bs0, ta, tc, ts⟩ : Ln)] ++ [(⟨gain, x.k.cur, 0, -((convM base l x.amt x.k.cur base 1 on mode).1 - x.base), bs0, bs0, none, 0, []⟩ : Ln)] from by rw [nz_both hd]; simp]
 have hoth : (if (convM base l x.amt x.k.cur base 1 on mode).1 - x.base < 0 then loss else gain) = gain := by rw [if_neg (by assumption)]
 refine sx 1 ?_
 have hone := rv_ok (p := (⟨cs, base, l, on, mode, gain, loss⟩ : Rv)) (x := x) hga hts (fun h => h.elim (fun h => by simp_all) (fun h => by simp_all)) (by simpa using h4)
 have hst := hI.step hx (by rw [hone])
 rw [hone, Rv.lns, if_neg hd] at hst
 refine RunL.bigApp (tagH 83) acc (⟨(lkA cs x.k.acc).code, x.k.cur, 0, (convM base l x.amt x.k.cur base 1 on mode).1 - x.base, x.k.partner, bs0, ta, tc, ts⟩ : Ln) pk pk ?_
 refine RunL.ownNil 83 2 ?_
 refine RunL.bigApp (tagH 83) (acc ++ [(⟨(lkA cs x.k.acc).code, x.k.cur, 0, (convM base l x.amt x.k.cur base 1 on mode).1 - x.base, x.k.partner, bs0, ta, tc, ts⟩ : Ln)]) (⟨gain, x.k.cur, 0, -((convM base l x.amt x.k.cur base 1 on mode).1 - x.base), bs0, bs0, none, 0, []⟩ : Ln) pk pk ?_
 exact RunL.next (Keep.sub (kt (ks := []) rfl)) _ ⟨acc ++ [(⟨(lkA cs x.k.acc).code, x.k.cur, 0, (convM base l x.amt x.k.cur base 1 on mode).1 - x.base, x.k.partner, bs0, ta, tc, ts⟩ : Ln)] ++ [(⟨gain, x.k.cur, 0, -((convM base l x.amt x.k.cur base 1 on mode).1 - x.base), bs0, bs0, none, 0, []⟩ : Ln)], za, zc, by simp only [List.length_append, List.length_cons, List.length_nil]; omega, (by rw [List.append_assoc, List.map_append]; exact (by simpa [Ln.e, hcode, hoth] using hst)), rfl⟩ gv
 refine RunD.set (v := Bo true) (by show Bo (!(lkA cs x.k.acc).mon) = _; rw [hmon]; rfl) ?_
 refine tk 3 rfl rfl rfl (DetJ.move rfl) ?_
 refine RunD.takeN 4 rfl rfl rfl rfl rfl kr ?_
 refine RunD.takeN 5 rfl rfl rfl rfl rfl kr ?_
 refine RunD.takeN 6 rfl rfl rfl rfl rfl kr ?_
 refine RunD.takeN 7 rfl rfl rfl rfl rfl kr ?_
 refine RunD.takeN 8 rfl rfl rfl rfl rfl kr ?_
 refine RunD.takeN 9 rfl rfl rfl rfl rfl kr ?_
 refine tk 10 rfl rfl rfl (DetJ.pickT rfl rfl) ?_
 refine kd [12, 13, 14, 15, 16, 17, 18, 20, 56] rfl ?_
 refine Run.true rfl ?_
 have hst := hI.step hx (by rw [rv_skip (p := (⟨cs, base, l, on, mode, gain, loss⟩ : Rv)) hga hts (by simp_all)])
 rw [rv_skip (p := (⟨cs, base, l, on, mode, gain, loss⟩ : Rv)) hga hts (by simp_all), List.append_nil] at hst
 exact Run.exitTo _ ⟨acc, ca, cc, by omega, hst, rfl⟩ gv
 rintro β3 L ⟨acc, ca, cc, hal, hI, rfl⟩
 refine sr ?_
 refine sx 3 ?_
 refine kp [14, 15] rfl ?_
 refine Run.ret ?_
 have hgo := hI.done (Nat.le_refl _)
 exact ret_out (ca, cc, acc) (.cell1 T28 rfl pk (.cell1 T31 rfl pk .nil)) (by rw [hgo]) (by rw [hgo]; rfl) gv
theorem c_nsz (n : Int) (hn : i64 n) : AC Tryz.prog 173 ⟨[I n]⟩ (stars []) (Ret (U (mag n)) []) := by
 refine AC.go Tryz.func173 rfl (Nat.le_of_ble_eq_true rfl) fun β => ?_
 refine sr ?_
 refine asg rfl rfl ?_
 refine kp [0] rfl ?_
 refine Run.seq ?_
 refine sr ?_
 refine sx 2 ?_
 refine kp [0, 4] rfl ?_
 first | refine Run.if rfl (fun h1 => ?_) (fun h1 => ?_) | refine Run.cond rfl (fun h1 => ?_) (fun h1 => ?_)
 refine sr ?_
 refine sx 4 ?_
 refine kp [2] rfl ?_
 refine Run.ret ?_
 exact ret_one (.tmp rfl .nil) (congrArg U (mag_conv_neg hn h1)) gv
 refine Run.skip ?_
 refine sr ?_
 refine sx 3 ?_
 refine kp [2] rfl ?_
 refine Run.ret ?_
 exact ret_one (.tmp rfl .nil) (congrArg U (mag_conv_pos hn h1)) gv
theorem c_Text1 (n : Nat) (hn : n < 100) : AC Tryz.prog 130 ⟨[I n]⟩ (stars []) (Ret (St (strOfNums (dgN n))) []) := by
 have hmag : mag (n : Int) = n := by unfold mag; rw [if_neg (by omega)]
 refine AC.go Tryz.func130 rfl (Nat.le_of_ble_eq_true rfl) fun β => ?_
 refine sr ?_
 refine asg rfl rfl ?_
 refine kp [0] rfl ?_
 refine sr ?_
 refine RunL.op rfl rfl (OpJ.alloc Z229 fun b3 => ?_)
 refine kp [0, 3] rfl ?_
 refine sr ?_
 refine asg rfl rfl ?_
 refine kp [0, 3, 4] rfl ?_
 refine sr ?_
 refine mvo rfl rfl ?_
 refine RunL.call C173 rfl rfl rfl (c_nsz _ (by unfold i64; omega)) .nil ?_
 refine asg rfl rfl ?_
 refine kp [0, 3, 4, 5] rfl ?_
 refine Run.seq ?_
 refine sr ?_
 refine mvo rfl rfl ?_
 refine kp [0, 3, 4, 5, 8] rfl ?_
 refine Run.block ?_
 refine Run.weak (L' := [pt b3 (blk (tcN n 0) 229)]) (fun _ _ h => h) gv ?_
 refine Run.loop (fun mm E L => ∃ k : Nat, mm = 2 - k ∧ k ≤ 1 ∧ (k = 1 → 10 ≤ n) ∧ E = [(0, I n), (3, .pointer (some ⟨b3, 0, none⟩)), (4, I (20 - (k : Int))), (5, U (if k = 0 then (n : Int) else (n : Int) / 10)), (8, I k)] ∧ L = [pt b3 (blk (tcN n k) 229)]) ⟨_, 0, rfl, by omega, (fun h => by cases h), (by rw [hmag]; rfl), rfl⟩ ?_
 rintro _ _ _ ⟨k, rfl, hk1, hk10, rfl, rfl⟩
 refine sr ?_
 refine sx 1 ?_
 rcases (show k = 0 ∨ k = 1 by omega) with rfl | rfl
 refine RunL.set (congrArg Bo (decide_eq_true (by omega))) ?_
 rw [if_pos rfl]
 refine kp [0, 3, 4, 5, 8, 9] rfl ?_
 refine Run.seq ?_
 refine Run.true rfl ?_
 refine Run.skip ?_
 refine Run.seq ?_
 refine Run.block ?_
 refine sr ?_
 refine sx 3 ?_
 refine kp [0, 3, 4, 5, 8] rfl ?_
 refine sr ?_
 refine sx 3 ?_
 refine RunL.set (congrArg U (show _ = (n : Int) % 10 by rw [Int.tmod_eq_emod_of_nonneg (by omega)])) ?_
 refine sx 1 ?_
 refine RunL.set (v := .int .u8 ((n : Int) % 10)) (congrArg (Value.int .u8) (by rw [IntKind.wrap_u8]; omega)) ?_
 refine RunL.op rfl rfl (OpJ.add rfl rfl ?_)
 refine RunL.set (v := .int .u8 (48 + (n : Int) % 10)) (congrArg (Value.int .u8) (by rw [IntKind.wrap_u8]; omega)) ?_
 refine sx 1 ?_
 refine RunL.op rfl rfl (OpJ.store1 T5 rfl rfl rfl up (by exact (by decide : 19 < 20)) ?_)
 refine kp [0, 3, 4, 5, 8] rfl ?_
 refine sr ?_
 refine sx 2 ?_
 refine RunL.set (v := U ((n : Int) / 10)) (congrArg U (by rw [Int.tdiv_eq_ediv_of_nonneg (by omega), wrap_u64_in (by constructor <;> omega)])) ?_
 refine asg rfl rfl ?_
 refine kp [0, 3, 4, 5, 8] rfl ?_
 refine sr ?_
 refine sx 2 ?_
 refine kp [0, 3, 4, 5, 8, 21] rfl ?_
 first | refine Run.if rfl (fun h1 => ?_) (fun h1 => ?_) | refine Run.cond rfl (fun h1 => ?_) (fun h1 => ?_)
 refine Run.exit ?_
 refine Run.seq ?_
 refine sr ?_
 refine sx 2 ?_
 refine RunL.set (congrArg Bo (decide_eq_false (by omega))) ?_
 refine kp [3, 4, 24] rfl ?_
 refine Run.false rfl ?_
 refine Run.skip ?_
 refine sr ?_
 refine mvo rfl rfl ?_
 refine RunL.op rfl rfl (OpJ.sliceArrLo A229 rfl rfl (i := 19) (by omega) ?_)
 refine RunL.op rfl rfl (OpJ.bytesStr (xs := dgN n) (e := 5) Tryz.underlying230 Tryz.underlying5 Tryz.underlying9 rfl pk (by rw [dgN_1 (by omega), show (48 : Int) + n = 48 + n % 10 by omega]; exact rd_dig1) (by rw [dgN_1 (by omega)]; rfl) ?_)
 refine asg rfl rfl ?_
 refine kp [2] rfl ?_
 refine Run.ret ?_
 exact ret_one (.tmp rfl .nil) (rfl) gv
 refine Run.skip ?_
 refine Run.region ?_
 refine sx 2 ?_
 exact RunL.next (Keep.sub (kt (ks := [0, 3, 4, 5, 8]) rfl)) _ ⟨_, by omega, 1, rfl, by omega, (fun _ => by omega), rfl, rfl⟩ gv
 refine RunL.set (congrArg Bo (decide_eq_true (by omega))) ?_
 rw [if_neg (by decide)]
 have hn10 := hk10 rfl
 refine kp [0, 3, 4, 5, 8, 9] rfl ?_
 refine Run.seq ?_
 refine Run.true rfl ?_
 refine Run.skip ?_
 refine Run.seq ?_
 refine Run.block ?_
 refine sr ?_
 refine sx 3 ?_
 refine kp [0, 3, 4, 5, 8] rfl ?_
 refine sr ?_
 refine sx 3 ?_
 refine RunL.set (congrArg U (show _ = (n : Int) / 10 by rw [Int.tmod_eq_emod_of_nonneg (by omega)]; omega)) ?_
 refine sx 1 ?_
 refine RunL.set (v := .int .u8 ((n : Int) / 10)) (congrArg (Value.int .u8) (by rw [IntKind.wrap_u8]; omega)) ?_
 refine RunL.op rfl rfl (OpJ.add rfl rfl ?_)
 refine RunL.set (v := .int .u8 (48 + (n : Int) / 10)) (congrArg (Value.int .u8) (by rw [IntKind.wrap_u8]; omega)) ?_
 refine sx 1 ?_
 refine RunL.op rfl rfl (OpJ.store1 T5 rfl rfl rfl up (by exact (by decide : 18 < 20)) ?_)
 refine kp [0, 3, 4, 5, 8] rfl ?_
 refine sr ?_
 refine sx 2 ?_
 refine RunL.set (v := U (0)) (congrArg U (by rw [Int.tdiv_eq_ediv_of_nonneg (by omega), wrap_u64_in (by constructor <;> omega)]; omega)) ?_
 refine asg rfl rfl ?_
 refine kp [0, 3, 4, 5, 8] rfl ?_
 refine sr ?_
 refine sx 2 ?_
 refine RunL.set (congrArg Bo (decide_eq_true rfl)) ?_
 refine kp [0, 3, 4, 5, 8, 21] rfl ?_
 refine Run.true rfl ?_
 refine Run.exit ?_
 refine Run.seq ?_
 refine sr ?_
 refine sx 2 ?_
 refine RunL.set (congrArg Bo (decide_eq_false (by omega))) ?_
 refine kp [3, 4, 24] rfl ?_
 refine Run.false rfl ?_
 refine Run.skip ?_
 refine sr ?_
 refine mvo rfl rfl ?_
 refine RunL.op rfl rfl (OpJ.sliceArrLo A229 rfl rfl (i := 18) (by omega) ?_)
 refine RunL.op rfl rfl (OpJ.bytesStr (xs := dgN n) (e := 5) Tryz.underlying230 Tryz.underlying5 Tryz.underlying9 rfl pk (by rw [dgN_2 (by omega)]; exact rd_dig2) (by rw [dgN_2 (by omega)]; rfl) ?_)
 refine asg rfl rfl ?_
 refine kp [2] rfl ?_
 refine Run.ret ?_
 exact ret_one (.tmp rfl .nil) (rfl) gv
end
theorem kaKey : KeyAgg Tryz.prog 171 encK := kaK (by kernel_rfl) (.of (by kernel_rfl))
instance mpCK : MPI Tryz.prog 166 171 175 := ⟨by kernel_rfl⟩
instance mpSK : MPI Tryz.prog 173 171 4 := ⟨by kernel_rfl⟩
instance zvBo : ZVI Tryz.prog 4 (Bo false) := ⟨by kernel_rfl⟩
structure TgR (R : HP) (l : Ln) : Prop where
  rd : RdS R l.ta (l.tags.flatMap Tg.c)
  s : LnS l
  len : l.tags.length ≤ 1000
section
attribute [local irreducible] OpJ RunL Run RunD DetJ pt own star Rd RdS
theorem c_keyOf (l : Ln) (R : HP) (hT : TgR R l) : AC Tryz.prog 97 ⟨[.agg ⟨l.c⟩]⟩ (stars [R]) (Ret (.agg ⟨(keyL l).c⟩) [R]) := by
 have htl := hT.len
 refine AC.go Tryz.func97 rfl (Nat.le_of_ble_eq_true rfl) fun β => ?_
 refine sr ?_
 refine RunL.op rfl rfl (OpJ.boxA rfl fun b1 => ?_)
 refine RunL.op rfl rfl (OpJ.alloc Z171 fun b2 => ?_)
 refine kp [1, 2] rfl ?_
 refine sr ?_
 refine sx 9 ?_
 refine RunL.op rfl rfl (OpJ.alloc Z171 fun b3 => ?_)
 refine RunL.op rfl rfl (OpJ.storeW T171 rfl rfl rfl rfl (by simp [Value.oneCell', Tg.c, Ln.c, En.c, Ac.c, Cl.c, Ky.c, Qy.c, Sb, Iv, Cs.c, Rt.c]) up ?_)
 refine kp [1, 2, 3] rfl ?_
 refine Run.seq ?_
 refine sr ?_
 refine sx 4 ?_
 refine kp [2, 3, 16, 17, 18] rfl ?_
 refine Run.block ?_
 refine Run.weak (L' := [pt b1 (blk l.c 40), pt b2 (blk [St bs0, St bs0, St bs0, St bs0, St bs0] 171), pt b3 (blk [St l.acc, St l.cur, St l.partner, St l.party, St (tagsT (l.tags.take 0))] 171), R]) (fun _ _ h => h) gv ?_
 refine Run.loop (fun mm E L => ∃ i : Nat, mm = l.tags.length - i ∧ i ≤ l.tags.length ∧ E = [(2, .pointer (some ⟨b2, 0, none⟩)), (3, .pointer (some ⟨b3, 0, none⟩)), (16, .slice l.ta l.tags.length l.tc), (17, I l.tags.length), (18, I i)] ∧ L = [pt b1 (blk l.c 40), pt b2 (blk [St bs0, St bs0, St bs0, St bs0, St bs0] 171), pt b3 (blk [St l.acc, St l.cur, St l.partner, St l.party, St (tagsT (l.tags.take i))] 171), R]) ⟨_, 0, rfl, Nat.zero_le _, rfl, rfl⟩ ?_
 rintro _ _ _ ⟨i, rfl, hi, rfl, rfl⟩
 refine sr ?_
 refine sx 1 ?_
 refine kp [2, 3, 16, 17, 18, 19] rfl ?_
 refine Run.seq ?_
 first | refine Run.if rfl (fun h1 => ?_) (fun h1 => ?_) | refine Run.cond rfl (fun h1 => ?_) (fun h1 => ?_)
 refine Run.skip ?_
 refine Run.seq ?_
 refine Run.block ?_
 refine sr ?_
 obtain ⟨t, ht⟩ := get_ex (xs := l.tags) (i := i) (by omega)
 have hts : tgS t := hT.s t (List.mem_of_getElem? ht)
 have htz := tags_sz hT.s (i := i) (by omega)
 refine RunL.rdOpen pk hT.rd (flat_ne (k := 2) (fun _ => rfl) (by decide) ht) fun bo oo ebo hrd => ?_
 rw [ebo]
 refine sx 1 ?_
 refine RunL.op rfl rfl (OpJ.loadA T83 rfl pk (hrd.elem (fun _ => rfl) ht) rfl ?_)
 refine RunL.op rfl rfl (OpJ.alloc Z83 fun b5 => ?_)
 refine RunL.op rfl rfl (OpJ.storeW T83 rfl rfl rfl rfl (by simp [Value.oneCell', Tg.c, Ln.c, En.c, Ac.c, Cl.c, Ky.c, Qy.c, Sb, Iv, Cs.c, Rt.c]) up ?_)
 refine kp [2, 3, 5, 16, 17, 18] rfl ?_
 refine regionD HM ?_
 refine tk 0 rfl rfl rfl (DetJ.fieldAddr F171_4 rfl) ?_
 first | refine RunD.takeF 1 rfl rfl kr T9 rfl pk (by rfl) ?_ | refine RunD.takeO 1 rfl rfl kr T9 rfl pk (by assumption) (by rfl) (by exact fun _ => rfl) ?_
 refine tk 2 rfl rfl rfl (DetJ.fieldAddr F83_0 rfl) ?_
 first | refine RunD.takeF 3 rfl rfl kr T9 rfl pk (by rfl) ?_ | refine RunD.takeO 3 rfl rfl kr T9 rfl pk (by assumption) (by rfl) (by exact fun _ => rfl) ?_
 refine tk 4 rfl rfl rfl (DetJ.lenS U9 rfl) ?_
 refine tk 7 rfl rfl rfl (DetJ.fieldAddr F83_0 rfl) ?_
 first | refine RunD.takeF 8 rfl rfl kr T9 rfl pk (by rfl) ?_ | refine RunD.takeO 8 rfl rfl kr T9 rfl pk (by assumption) (by rfl) (by exact fun _ => rfl) ?_
 refine tk 10 rfl rfl rfl (DetJ.fieldAddr F83_1 rfl) ?_
 first | refine RunD.takeF 11 rfl rfl kr T9 rfl pk (by rfl) ?_ | refine RunD.takeO 11 rfl rfl kr T9 rfl pk (by assumption) (by rfl) (by exact fun _ => rfl) ?_
 refine tk 12 rfl rfl rfl (DetJ.lenS U9 rfl) ?_
 refine tk 16 rfl rfl rfl (DetJ.fieldAddr F83_1 rfl) ?_
 first | refine RunD.takeF 17 rfl rfl kr T9 rfl pk (by rfl) ?_ | refine RunD.takeO 17 rfl rfl kr T9 rfl pk (by assumption) (by rfl) (by exact fun _ => rfl) ?_
 refine RunD.op 5 [true, true, true, true, true, true, true, false, false, false, true, true] rfl rfl rfl kr kr (OpJ.callRet C130 rfl rfl (c_Text1 t.name.size hts.1) .nil ⟨po, ?_⟩)
 refine tk 6 rfl rfl rfl (DetJ.addS rfl rfl (by (try simp only [ByteArray.size_append]); have := dg_sz t.name.size; have := dg_sz t.value.size; have := hts.1; have := hts.2; have hc1 : (⟨#[58]⟩ : ByteArray).size = 1 := rfl; have := htz; have := tg_sz hts; omega)) ?_
 refine tk 9 rfl rfl rfl (DetJ.addS rfl rfl (by (try simp only [ByteArray.size_append]); have := dg_sz t.name.size; have := dg_sz t.value.size; have := hts.1; have := hts.2; have hc1 : (⟨#[58]⟩ : ByteArray).size = 1 := rfl; have := htz; have := tg_sz hts; omega)) ?_
 refine RunD.op 13 [true, true, true, true, false, false, false, true, true, true, true] rfl rfl rfl kr kr (OpJ.callRet C130 rfl rfl (c_Text1 t.value.size hts.2) .nil ⟨po, ?_⟩)
 refine tk 14 rfl rfl rfl (DetJ.addS rfl rfl (by (try simp only [ByteArray.size_append]); have := dg_sz t.name.size; have := dg_sz t.value.size; have := hts.1; have := hts.2; have hc1 : (⟨#[58]⟩ : ByteArray).size = 1 := rfl; have := htz; have := tg_sz hts; omega)) ?_
 refine tk 15 rfl rfl rfl (DetJ.addS rfl rfl (by (try simp only [ByteArray.size_append]); have := dg_sz t.name.size; have := dg_sz t.value.size; have := hts.1; have := hts.2; have hc1 : (⟨#[58]⟩ : ByteArray).size = 1 := rfl; have := htz; have := tg_sz hts; omega)) ?_
 refine tk 18 rfl rfl rfl (DetJ.addS rfl rfl (by (try simp only [ByteArray.size_append]); have := dg_sz t.name.size; have := dg_sz t.value.size; have := hts.1; have := hts.2; have hc1 : (⟨#[58]⟩ : ByteArray).size = 1 := rfl; have := htz; have := tg_sz hts; omega)) ?_
 refine tk 19 rfl rfl rfl (DetJ.addS rfl rfl (by (try simp only [ByteArray.size_append]); have := dg_sz t.name.size; have := dg_sz t.value.size; have := hts.1; have := hts.2; have hc1 : (⟨#[58]⟩ : ByteArray).size = 1 := rfl; have := htz; have := tg_sz hts; omega)) ?_
 refine tk 20 rfl rfl rfl (DetJ.fieldAddr F171_4 rfl) ?_
 refine RunD.op 21 [false, false, false, false, false, false, false, false, false, false, false, false, false] rfl rfl rfl kr kr (OpJ.store1 T9 rfl rfl rfl up (by simp) ⟨po, ?_⟩)
 refine kd [2, 3, 16, 17, 18] rfl ?_
 refine Run.region ?_
 refine sx 2 ?_
 refine RunL.weak (L' := [pt b1 (blk l.c 40), pt b2 (blk [St bs0, St bs0, St bs0, St bs0, St bs0] 171), pt b3 (blk [St l.acc, St l.cur, St l.partner, St l.party, St ((tagsT (l.tags.take i)) ++ tgT t)] 171), R]) (Keep.sub (kt (ks := [2, 3, 16, 17, 18]) rfl)) gv (RunL.nil ?_)
 exact ⟨_, by omega, i + 1, rfl, by omega, rfl, (by rw [tagsT_snoc ht])⟩
 refine Run.exit ?_
 refine sr ?_
 obtain rfl : i = l.tags.length := by omega
 rw [List.take_length]
 refine sx 1 ?_
 refine RunL.op rfl rfl (OpJ.storeW T171 rfl rfl rfl rfl (by simp [Value.oneCell', Tg.c, Ln.c, En.c, Ac.c, Cl.c, Ky.c, Qy.c, Sb, Iv, Cs.c, Rt.c]) up ?_)
 refine kp [2] rfl ?_
 refine Run.ret ?_
 exact ret_one (.cellA T171 rfl pk (by rfl) .nil) (rfl) gv
theorem c_colsK (R : HP) (oa : Option Addr) (cap : Nat) (ls : List Ln) (hR : RdS R oa (ls.flatMap Ln.c)) (hl : ls.length ≤ 1000) (hTR : ∀ l ∈ ls, TgR R l) : AC Tryz.prog 96 ⟨[.slice oa ls.length cap, .func (.func 97) #[] #[]]⟩ (stars [R]) (Outs (fun y : Nat × List (Colg Ky) × Option Addr × Nat => KinvG keyL y.2.1 ls) (fun y => .tuple ⟨[.map (some y.1), .slice y.2.2.1 (y.2.1.map Colg.cur).length y.2.2.2]⟩) (fun y => [amap y.1 ckF cbG (y.2.1.map Colg.cb), big colH y.2.1, own 171 5 y.2.2.1 (y.2.1.map Colg.cur).length y.2.2.2 ((y.2.1.map Colg.cur).flatMap Ky.c), R])) := by
 refine AC.go Tryz.func96 rfl (Nat.le_of_ble_eq_true rfl) fun β => ?_
 refine sr ?_
 refine sx 2 ?_
 refine kp [0, 1] rfl ?_
 refine sr ?_
 refine RunL.op rfl rfl (OpJ.makeMap fun bm => ?_)
 refine asg rfl rfl ?_
 refine kp [0, 1, 6] rfl ?_
 refine sr ?_
 refine asg rfl rfl ?_
 refine kp [0, 1, 6, 7] rfl ?_
 refine Run.seq ?_
 refine sr ?_
 refine RunL.ownNil 171 5 ?_
 refine RunL.bigNil (colH (κ := Ky)) ?_
 refine sx 3 ?_
 refine kp [1, 6, 7, 12, 13, 14] rfl ?_
 refine Run.block ?_
 refine Run.weak (L' := [amap bm ckF cbG (([] : List (Colg Ky)).map Colg.cb), big (colH (κ := Ky)) [], own 171 5 none (([] : List (Colg Ky)).map Colg.cur).length 0 ((([] : List (Colg Ky)).map Colg.cur).flatMap Ky.c), R]) (fun _ _ h => h) gv ?_
 refine Run.loop (fun mm E L => ∃ (i : Nat) (ks : List (Colg Ky)) (ka : Option Addr) (kc : Nat), mm = ls.length - i ∧ i ≤ ls.length ∧ KinvG keyL ks (ls.take i) ∧ E = [(1, .func (.func 97) #[] #[]), (6, .map (some bm)), (7, .slice ka (ks.map Colg.cur).length kc), (12, .slice oa ls.length cap), (13, I ls.length), (14, I i)] ∧ L = [amap bm ckF cbG (ks.map Colg.cb), big colH ks, own 171 5 ka (ks.map Colg.cur).length kc ((ks.map Colg.cur).flatMap Ky.c), R]) ⟨_, 0, [], none, 0, rfl, Nat.zero_le _, KinvG.nil, rfl, rfl⟩ ?_
 rintro _ _ _ ⟨i, ks, ka, kc, rfl, hi, hK, rfl, rfl⟩
 refine sr ?_
 refine sx 1 ?_
 refine kp [1, 6, 7, 12, 13, 14, 15] rfl ?_
 refine Run.seq ?_
 first | refine Run.if rfl (fun h1 => ?_) (fun h1 => ?_) | refine Run.cond rfl (fun h1 => ?_) (fun h1 => ?_)
 refine Run.skip ?_
 refine Run.seq ?_
 refine Run.block ?_
 refine sr ?_
 obtain ⟨l, hli⟩ := get_ex (xs := ls) (i := i) (by omega)
 have hlm := List.mem_of_getElem? hli
 refine RunL.rdOpen pk hR (flat_ne (k := 7) (fun _ => rfl) (by decide) hli) fun b o e hrd => ?_
 subst e
 refine sx 1 ?_
 refine RunL.op rfl rfl (OpJ.loadA inferInstance rfl pk (hrd.elem (fun _ => rfl) hli) rfl ?_)
 refine RunL.op rfl rfl (OpJ.alloc Z40 fun b9 => ?_)
 refine RunL.op rfl rfl (OpJ.storeW T40 rfl rfl rfl rfl (by simp [Value.oneCell', Tg.c, Ln.c, En.c, Ac.c, Cl.c, Ky.c, Qy.c, Sb, Iv, Cs.c, Rt.c]) up ?_)
 refine kp [1, 6, 7, 9, 12, 13, 14] rfl ?_
 refine sr ?_
 refine sx 2 ?_
 refine RunL.call C97 rfl rfl rfl (c_keyOf l R (hTR l hlm)) tks ?_
 refine RunL.op rfl rfl (OpJ.alloc Z171 fun b10 => ?_)
 refine RunL.op rfl rfl (OpJ.storeW T171 rfl rfl rfl rfl (by simp [Value.oneCell', Tg.c, Ln.c, En.c, Ac.c, Cl.c, Ky.c, Qy.c, Sb, Iv, Cs.c, Rt.c]) up ?_)
 refine kp [1, 6, 7, 9, 10, 12, 13, 14] rfl ?_
 refine Run.seq ?_
 refine sr ?_
 refine sx 2 ?_
 refine RunL.op rfl rfl (OpJ.lookup1A (k := keyL l) kaKey mpCK zvCol rfl rfl pk ?_)
 rcases hk : kAt (Prod.fst : Ky × Nat → Ky) (keyL l) (ks.map Colg.cb) with _ | q
 refine sx 1 ?_
 refine kp [1, 6, 7, 9, 10, 12, 13, 14, 24] rfl ?_
 refine Run.true rfl ?_
 refine sr ?_
 refine sx 3 ?_
 refine RunL.op rfl rfl (OpJ.boxA rfl fun b28 => ?_)
 refine RunL.op rfl rfl (OpJ.mapUpdateA ((((keyL l), b28)) : Ky × Nat) kaKey mpCK rfl rfl rfl up ?_)
 refine kp [1, 6, 7, 9, 10, 12, 13, 14] rfl ?_
 refine Run.region ?_
 rw [kSet_new hk]
 refine RunL.ownNil 3 1 ?_
 refine RunL.ownNil 3 1 ?_
 have hk2 := kAt_new (y := ((keyL l), b28)) hk rfl
 refine sx 2 ?_
 refine RunL.op rfl rfl (OpJ.buildSlice1 S167 rfl rfl rfl (by decide) (by decide) Z171 rfl fun b31 => ?_)
 have hkl := hK.lenk
 rw [List.length_take] at hkl
 have hml : (ks.map Colg.cur).length = ks.length := List.length_map ..
 refine RunL.op rfl rfl (OpJ.append1 (keyL l) S167 M171 rfl rfl pk pk rfl rfl (by simp [Value.oneCell', Tg.c, Ln.c, En.c, Ac.c, Cl.c, Ky.c, Qy.c, Sb, Iv, Cs.c, Rt.c]) rfl (by omega) (by omega) fun a32 c32 => ?_)
 refine asg rfl rfl ?_
 refine kp [1, 6, 7, 9, 10, 12, 13, 14] rfl ?_
 refine regionD HM ?_
 refine tk 0 rfl rfl rfl (DetJ.move rfl) ?_
 first | refine RunD.takeW 1 rfl rfl kr T171 rfl pk (by rfl) ?_ | refine RunD.takeP 1 rfl rfl kr T171 rfl pk (by simp) ?_ | refine RunD.takeE 1 rfl rfl kr T171 rfl pk (by assumption) (by exact fun _ => rfl) rfl (by decide) ?_
 first | refine RunD.takeW 3 rfl rfl kr T40 rfl pk (by rfl) ?_ | refine RunD.takeP 3 rfl rfl kr T40 rfl pk (by simp) ?_ | refine RunD.takeE 3 rfl rfl kr T40 rfl pk (by assumption) (by exact fun _ => rfl) rfl (by decide) ?_
 refine RunD.op 2 [true, false, false] rfl rfl rfl kr kr (OpJ.lookup1A (k := keyL l) kaKey mpCK zvCol rfl rfl pk ⟨po, ?_⟩)
 refine RunD.set (v := .pointer (some ⟨b28, 0, none⟩)) (by rw [hk2]) ?_
 refine RunD.op 4 [false] rfl rfl rfl kr kr (OpJ.callOuts C129 rfl rfl (c_add (⟨(keyL l), b28, none, 0, none, 0, [], []⟩ : Colg Ky) l (by simp)) tks fun ⟨a1, c1, a2, c2⟩ _ => ⟨po, ?_⟩)
 refine kd [1, 6, 7, 12, 13, 14] rfl ?_
 refine Run.region ?_
 refine RunL.packs [CB b28 a1 [l.amt].length c1 a2 [l.base].length c2, own 3 1 a1 [l.amt].length c1 ([l.amt].flatMap Iv), own 3 1 a2 [l.base].length c2 ([l.base].flatMap Iv)] tks ?_
 refine RunL.bigApp colH ks ⟨(keyL l), b28, a1, c1, a2, c2, [l.amt], [l.base]⟩ pk pk ?_
 refine sx 2 ?_
 have hm1 : (ks ++ [(⟨(keyL l), b28, a1, c1, a2, c2, [l.amt], [l.base]⟩ : Colg Ky)]).map Colg.cb = ks.map Colg.cb ++ [((keyL l), b28)] := by simp [Colg.cb]
 have hm2 : (ks ++ [(⟨(keyL l), b28, a1, c1, a2, c2, [l.amt], [l.base]⟩ : Colg Ky)]).map Colg.cur = ks.map Colg.cur ++ [(keyL l)] := by simp
 rw [← hm1, ← hm2]
 exact RunL.next (Keep.sub (kt (ks := [1, 6, 7, 12, 13, 14]) rfl)) _ ⟨_, by omega, i + 1, _, _, _, rfl, by omega, (by rw [take_step hli]; exact hK.new (fun x hx e => kAt_none hk (x.cb) (List.mem_map_of_mem hx) e) b28 a1 c1 a2 c2), rfl, rfl⟩ gv
 obtain ⟨iq, x, rfl, hkx, hxc⟩ := col_find hk
 refine RunL.bigOut pk hkx ?_
 refine RunL.unstar (As := [CB x.b x.a1 x.xs.length x.c1 x.a2 x.ys.length x.c2, own 3 1 x.a1 x.xs.length x.c1 (x.xs.flatMap Iv), own 3 1 x.a2 x.ys.length x.c2 (x.ys.flatMap Iv)]) pk ?_
 have hxl := hK.len (List.mem_of_getElem? hkx)
 rw [List.length_take] at hxl
 refine sx 1 ?_
 refine kp [1, 6, 7, 9, 10, 12, 13, 14, 24] rfl ?_
 refine Run.false rfl ?_
 refine Run.skip ?_
 refine regionD HM ?_
 refine tk 0 rfl rfl rfl (DetJ.move rfl) ?_
 first | refine RunD.takeW 1 rfl rfl kr T171 rfl pk (by rfl) ?_ | refine RunD.takeP 1 rfl rfl kr T171 rfl pk (by simp) ?_ | refine RunD.takeE 1 rfl rfl kr T171 rfl pk (by assumption) (by exact fun _ => rfl) rfl (by decide) ?_
 first | refine RunD.takeW 3 rfl rfl kr T40 rfl pk (by rfl) ?_ | refine RunD.takeP 3 rfl rfl kr T40 rfl pk (by simp) ?_ | refine RunD.takeE 3 rfl rfl kr T40 rfl pk (by assumption) (by exact fun _ => rfl) rfl (by decide) ?_
 refine RunD.op 2 [true, false, false] rfl rfl rfl kr kr (OpJ.lookup1A (k := keyL l) kaKey mpCK zvCol rfl rfl pk ⟨po, ?_⟩)
 refine RunD.set (v := .pointer (some ⟨x.b, 0, none⟩)) (by rw [hk]) ?_
 refine RunD.op 4 [false] rfl rfl rfl kr kr (OpJ.callOuts C129 rfl rfl (c_add x l (by omega)) tks fun ⟨a1, c1, a2, c2⟩ _ => ⟨po, ?_⟩)
 refine kd [1, 6, 7, 12, 13, 14] rfl ?_
 refine Run.region ?_
 refine RunL.packs [CB x.b a1 (x.xs ++ [l.amt]).length c1 a2 (x.ys ++ [l.base]).length c2, own 3 1 a1 (x.xs ++ [l.amt]).length c1 ((x.xs ++ [l.amt]).flatMap Iv), own 3 1 a2 (x.ys ++ [l.base]).length c2 ((x.ys ++ [l.base]).flatMap Iv)] tks ?_
 refine RunL.bigIn colH ks iq ⟨x.cur, x.b, a1, c1, a2, c2, x.xs ++ [l.amt], x.ys ++ [l.base]⟩ pk pk (List.getElem?_eq_some_iff.1 hkx).1 ?_
 refine sx 2 ?_
 obtain ⟨hm1, hm2⟩ := col_set (y := ⟨x.cur, x.b, a1, c1, a2, c2, x.xs ++ [l.amt], x.ys ++ [l.base]⟩) hkx rfl rfl
 rw [← hm1, ← hm2]
 exact RunL.next (Keep.sub (kt (ks := [1, 6, 7, 12, 13, 14]) rfl)) _ ⟨_, by omega, i + 1, _, _, _, rfl, by omega, (by rw [take_step hli]; exact hK.old hkx hxc a1 c1 a2 c2), rfl, rfl⟩ gv
 refine Run.exit ?_
 refine sr ?_
 refine sx 4 ?_
 refine kp [4, 5] rfl ?_
 refine Run.ret ?_
 exact ret_out (bm, ks, ka, kc) (.tmp rfl (.tmp rfl .nil)) (by rw [List.take_of_length_le (by omega)] at hK; exact hK) rfl gv
end
theorem tg1 : ∀ x : Tg, ∀ v ∈ Tg.c x, v.oneCell' = true := fun x v hv => by simp [Tg.c] at hv; rcases hv with rfl | rfl <;> rfl
section
attribute [local irreducible] OpJ RunL Run RunD DetJ pt own star Rd RdS
theorem c_Merge (R : HP) (oa : Option Addr) (cap : Nat) (ls : List Ln) (hR : RdS R oa (ls.flatMap Ln.c)) (hl : ls.length ≤ 1000) (hTR : ∀ l ∈ ls, TgR R l) (hb : ∀ l ∈ ls, i64 l.amt ∧ i64 l.base) : AC Tryz.prog 55 ⟨[.slice oa ls.length cap]⟩ (stars [R]) (Outs (fun y : Option Addr × Nat × List Ln => y.2.2.map Ln.e = (mergeL ls).1) (fun y => .tuple ⟨[.slice y.1 y.2.2.length y.2.1, I (mergeL ls).2]⟩) (fun y => [own 40 7 y.1 y.2.2.length y.2.1 (y.2.2.flatMap Ln.c), big (tagH 83) y.2.2, R])) := by
 refine AC.go Tryz.func55 rfl (Nat.le_of_ble_eq_true rfl) fun β => ?_
 refine sr ?_
 refine sx 2 ?_
 refine kp [0, 2] rfl ?_
 refine sr ?_
 refine mvo rfl rfl ?_
 refine RunL.callX C96 rfl rfl rfl (c_colsK R oa cap ls hR hl hTR) tks fun ⟨bm, kcs, ka, kc⟩ hK => ?_
 refine sx 5 ?_
 refine kp [0, 2, 4] rfl ?_
 refine sr ?_
 refine RunL.op rfl rfl (OpJ.makeMap fun sb => ?_)
 refine asg rfl rfl ?_
 refine kp [0, 2, 4, 6] rfl ?_
 refine Run.seq ?_
 refine sr ?_
 refine RunL.ownNil 40 7 ?_
 refine RunL.bigNil (tagH 83) ?_
 refine sx 3 ?_
 refine kp [2, 4, 6, 19, 20, 21] rfl ?_
 refine Run.block ?_
 refine Run.weak (L' := [own 40 7 none ([] : List Ln).length 0 (([] : List Ln).flatMap Ln.c), big (tagH 83) [], amap sb encK (fun _ => Bo true) [], amap bm ckF cbG (kcs.map Colg.cb), big colH kcs, R]) (fun _ _ h => h) gv ?_
 refine Run.loop (fun mm E L => ∃ (i : Nat) (acc : List Ln) (ca : Option Addr) (cc : Nat) (sk : List Ky), mm = ls.length - i ∧ i ≤ ls.length ∧ acc.length ≤ i ∧ MgI ls i (acc.map Ln.e) ∧ Seen sk (ls.take i) ∧ E = [(2, .slice ca acc.length cc), (4, .map (some bm)), (6, .map (some sb)), (19, .slice oa ls.length cap), (20, I ls.length), (21, I i)] ∧ L = [own 40 7 ca acc.length cc (acc.flatMap Ln.c), big (tagH 83) acc, amap sb encK (fun _ => Bo true) sk, amap bm ckF cbG (kcs.map Colg.cb), big colH kcs, R]) ⟨_, 0, [], none, 0, [], rfl, Nat.zero_le _, Nat.zero_le _, MgI.start, Seen.start, rfl, rfl⟩ ?_
 rintro _ _ _ ⟨i, acc, ca, cc, sk, rfl, hi, hal, hM, hS, rfl, rfl⟩
 refine sr ?_
 refine sx 1 ?_
 refine kp [2, 4, 6, 19, 20, 21, 22] rfl ?_
 refine Run.seq ?_
 first | refine Run.if rfl (fun h1 => ?_) (fun h1 => ?_) | refine Run.cond rfl (fun h1 => ?_) (fun h1 => ?_)
 refine Run.skip ?_
 refine Run.seq ?_
 refine Run.block ?_
 refine sr ?_
 obtain ⟨y, hyi⟩ := get_ex (xs := ls) (i := i) (by omega)
 have hym := List.mem_of_getElem? hyi
 have hyt := hTR y hym
 have hyl := hyt.len
 refine RunL.rdOpen pk hR (flat_ne (k := 7) (fun _ => rfl) (by decide) hyi) fun b o e hrd => ?_
 subst e
 refine sx 1 ?_
 refine RunL.op rfl rfl (OpJ.loadA T40 rfl pk (hrd.elem (fun _ => rfl) hyi) rfl ?_)
 refine RunL.op rfl rfl (OpJ.alloc Z40 fun b8 => ?_)
 refine RunL.op rfl rfl (OpJ.storeW T40 rfl rfl rfl rfl (by simp [Value.oneCell', Tg.c, Ln.c, En.c, Ac.c, Cl.c, Ky.c, Qy.c, Sb, Iv, Cs.c, Rt.c]) up ?_)
 refine kp [2, 4, 6, 8, 19, 20, 21] rfl ?_
 refine sr ?_
 refine sx 1 ?_
 refine RunL.call C97 rfl rfl rfl (c_keyOf y R hyt) tks ?_
 refine RunL.op rfl rfl (OpJ.alloc Z171 fun b9 => ?_)
 refine RunL.op rfl rfl (OpJ.storeW T171 rfl rfl rfl rfl (by simp [Value.oneCell', Tg.c, Ln.c, En.c, Ac.c, Cl.c, Ky.c, Qy.c, Sb, Iv, Cs.c, Rt.c]) up ?_)
 refine kp [2, 4, 6, 8, 9, 19, 20, 21] rfl ?_
 refine Run.seq ?_
 refine sr ?_
 refine sx 2 ?_
 refine RunL.op rfl rfl (OpJ.lookup1A (kf := fun k : Ky => k) (g := fun _ => Bo true) (k := keyL y) kaKey mpSK zvBo rfl rfl pk ?_)
 rcases hk : kAt (fun k : Ky => k) (keyL y) sk with _ | q
 refine RunL.set (v := Bo false) rfl ?_
 refine kp [2, 4, 6, 8, 9, 19, 20, 21, 29] rfl ?_
 refine Run.false rfl ?_
 refine Run.skip ?_
 refine sr ?_
 refine sx 2 ?_
 refine RunL.op rfl rfl (OpJ.mapUpdateA (kf := fun k : Ky => k) (g := fun _ => Bo true) (keyL y) kaKey mpSK rfl rfl rfl up ?_)
 refine kp [2, 4, 6, 8, 9, 19, 20, 21] rfl ?_
 refine sr ?_
 have hany : (ls.take i).any (fun z => alB z y) = false := by rw [hS.any (fun z hz => (hTR z (List.mem_of_mem_take hz)).s) hyt.s, hk]; rfl
 obtain ⟨x, hxm, hxc⟩ := hK.all y hym
 obtain ⟨iq, hkx⟩ := List.getElem?_of_mem hxm
 have hfnd := hK.find hkx
 rw [hxc] at hfnd
 have hxl := hK.len hxm
 have hxv := col_fit hK (fun z hz => (hTR z hz).s) hxm hyt.s hxc
 have hin : ∀ n, (n ∈ x.xs → i64 n) ∧ (n ∈ x.ys → i64 n) := fun n => ⟨fun h => by { rw [hxv.1] at h; obtain ⟨l, hlm, rfl⟩ := List.mem_map.1 h; exact (hb l (List.mem_filter.1 hlm).1).1 }, fun h => by { rw [hxv.2] at h; obtain ⟨l, hlm, rfl⟩ := List.mem_map.1 h; exact (hb l (List.mem_filter.1 hlm).1).2 }⟩
 refine sx 2 ?_
 refine RunL.op rfl rfl (OpJ.lookup1A (k := keyL y) kaKey mpCK zvCol rfl rfl pk ?_)
 refine RunL.set (v := .pointer (some ⟨x.b, 0, none⟩)) (by rw [hfnd]) ?_
 refine RunL.bigOut pk hkx ?_
 refine RunL.unstar (As := [CB x.b x.a1 x.xs.length x.c1 x.a2 x.ys.length x.c2, own 3 1 x.a1 x.xs.length x.c1 (x.xs.flatMap Iv), own 3 1 x.a2 x.ys.length x.c2 (x.ys.flatMap Iv)]) pk ?_
 refine RunL.call C98 rfl rfl rfl (c_both x 1000000000000 (by decide) (fun n h => (hin n).1 h) (fun n h => (hin n).2 h) (by omega)) tks ?_
 refine RunL.packs [CB x.b x.a1 x.xs.length x.c1 x.a2 x.ys.length x.c2, own 3 1 x.a1 x.xs.length x.c1 (x.xs.flatMap Iv), own 3 1 x.a2 x.ys.length x.c2 (x.ys.flatMap Iv)] tks ?_
 refine RunL.bigIn colH kcs iq x pk pk (List.getElem?_eq_some_iff.1 hkx).1 ?_
 rw [setId hkx]
 rcases Bool.eq_false_or_eq_true (wiB x.xs.sum 1000000000000 && wiB x.ys.sum 1000000000000) with hw | hw
 simp only [hw, if_true]
 have hfit : fitL ls y = true := by unfold fitL; rw [← hxv.1, ← hxv.2]; exact hw
 refine sx 7 ?_
 refine kp [2, 4, 6, 8, 10, 11, 12, 19, 20, 21] rfl ?_
 refine Run.seq ?_
 refine sr ?_
 refine sx 2 ?_
 refine kp [2, 4, 6, 8, 10, 11, 12, 19, 20, 21, 41] rfl ?_
 refine Run.false rfl ?_
 refine Run.skip ?_
 refine sr ?_
 refine sx 3 ?_
 first | refine RunL.splitP (t := 45) rfl (fun g2 => ?_) (fun g2 => ?_) | refine RunL.split (t := 45) rfl (fun g2 => ?_) (fun g2 => ?_)
 refine sx 3 ?_
 refine kp [2, 4, 6, 8, 10, 11, 19, 20, 21, 48] rfl ?_
 refine Run.true rfl ?_
 refine sr ?_
 refine sx 3 ?_
 refine RunL.op rfl rfl (OpJ.store1 T3 rfl rfl rfl up (by simp [Ln.c]) ?_)
 refine sx 1 ?_
 refine RunL.op rfl rfl (OpJ.store1 T3 rfl rfl rfl up (by simp [Ln.c]) ?_)
 refine kp [2, 4, 6, 8, 19, 20, 21] rfl ?_
 refine sr ?_
 refine RunL.ownNil 83 2 ?_
 refine sx 2 ?_
 refine RunL.op rfl rfl (OpJ.appendAll S38 M83 rfl rfl pk pk hyt.rd (flat_len (enc := Tg.c) (k := 2) (fun _ => rfl) _) (by decide) (flat_one tg1 _) (by omega) (by omega) fun a55 c55 => ?_)
 simp only [Nat.zero_add, List.nil_append]
 refine sx 1 ?_
 refine RunL.op rfl rfl (OpJ.store1 T38 rfl rfl rfl up (by simp [Ln.c]) ?_)
 refine kp [2, 4, 6, 8, 19, 20, 21] rfl ?_
 refine Run.region ?_
 refine sx 2 ?_
 refine RunL.op rfl rfl (OpJ.buildSlice1 S28 rfl rfl rfl (by decide) (by decide) Z40 rfl fun b59 => ?_)
 refine RunL.op rfl rfl (OpJ.append1 (⟨y.acc, y.cur, x.xs.sum, x.ys.sum, y.partner, y.party, a55, c55, y.tags⟩ : Ln) S28 M40 rfl rfl pk pk rfl rfl (by simp [Value.oneCell', Tg.c, Ln.c, En.c, Ac.c, Cl.c, Ky.c, Qy.c, Sb, Iv, Cs.c, Rt.c]) rfl (by omega) (by omega) fun a60 c60 => ?_)
 refine asg rfl rfl ?_
 refine kp [2, 4, 6, 19, 20, 21] rfl ?_
 refine Run.region ?_
 refine sx 2 ?_
 have hst := hM.step hyi hany hfit
 rw [show nzL ls y = [(⟨y.acc, y.cur, x.xs.sum, x.ys.sum, y.partner, y.party, a55, c55, y.tags⟩ : Ln)].map Ln.e from nz_some hxv (by first | exact .inl (by assumption) | exact .inr (by assumption))] at hst
 refine RunL.bigApp (tagH 83) acc (⟨y.acc, y.cur, x.xs.sum, x.ys.sum, y.partner, y.party, a55, c55, y.tags⟩ : Ln) pk pk ?_
 exact RunL.next (Keep.sub (kt (ks := [2, 4, 6, 19, 20, 21]) rfl)) _ ⟨_, by omega, i + 1, acc ++ [(⟨y.acc, y.cur, x.xs.sum, x.ys.sum, y.partner, y.party, a55, c55, y.tags⟩ : Ln)], a60, c60, _, rfl, by omega, (by simp only [List.length_append, List.length_cons, List.length_nil]; omega), (by rw [List.map_append]; exact hst), hS.step hyi, rfl, rfl⟩ gv
 refine sx 3 ?_
 refine kp [2, 4, 6, 8, 10, 11, 19, 20, 21, 48] rfl ?_
 first | refine Run.if rfl (fun h3 => ?_) (fun h3 => ?_) | refine Run.cond rfl (fun h3 => ?_) (fun h3 => ?_)
 refine sr ?_
 refine sx 3 ?_
 refine RunL.op rfl rfl (OpJ.store1 T3 rfl rfl rfl up (by simp [Ln.c]) ?_)
 refine sx 1 ?_
 refine RunL.op rfl rfl (OpJ.store1 T3 rfl rfl rfl up (by simp [Ln.c]) ?_)
 refine kp [2, 4, 6, 8, 19, 20, 21] rfl ?_
 refine sr ?_
 refine RunL.ownNil 83 2 ?_
 refine sx 2 ?_
 refine RunL.op rfl rfl (OpJ.appendAll S38 M83 rfl rfl pk pk hyt.rd (flat_len (enc := Tg.c) (k := 2) (fun _ => rfl) _) (by decide) (flat_one tg1 _) (by omega) (by omega) fun a55 c55 => ?_)
 simp only [Nat.zero_add, List.nil_append]
 refine sx 1 ?_
 refine RunL.op rfl rfl (OpJ.store1 T38 rfl rfl rfl up (by simp [Ln.c]) ?_)
 refine kp [2, 4, 6, 8, 19, 20, 21] rfl ?_
 refine Run.region ?_
 refine sx 2 ?_
 refine RunL.op rfl rfl (OpJ.buildSlice1 S28 rfl rfl rfl (by decide) (by decide) Z40 rfl fun b59 => ?_)
 refine RunL.op rfl rfl (OpJ.append1 (⟨y.acc, y.cur, x.xs.sum, x.ys.sum, y.partner, y.party, a55, c55, y.tags⟩ : Ln) S28 M40 rfl rfl pk pk rfl rfl (by simp [Value.oneCell', Tg.c, Ln.c, En.c, Ac.c, Cl.c, Ky.c, Qy.c, Sb, Iv, Cs.c, Rt.c]) rfl (by omega) (by omega) fun a60 c60 => ?_)
 refine asg rfl rfl ?_
 refine kp [2, 4, 6, 19, 20, 21] rfl ?_
 refine Run.region ?_
 refine sx 2 ?_
 have hst := hM.step hyi hany hfit
 rw [show nzL ls y = [(⟨y.acc, y.cur, x.xs.sum, x.ys.sum, y.partner, y.party, a55, c55, y.tags⟩ : Ln)].map Ln.e from nz_some hxv (by first | exact .inl (by assumption) | exact .inr (by assumption))] at hst
 refine RunL.bigApp (tagH 83) acc (⟨y.acc, y.cur, x.xs.sum, x.ys.sum, y.partner, y.party, a55, c55, y.tags⟩ : Ln) pk pk ?_
 exact RunL.next (Keep.sub (kt (ks := [2, 4, 6, 19, 20, 21]) rfl)) _ ⟨_, by omega, i + 1, acc ++ [(⟨y.acc, y.cur, x.xs.sum, x.ys.sum, y.partner, y.party, a55, c55, y.tags⟩ : Ln)], a60, c60, _, rfl, by omega, (by simp only [List.length_append, List.length_cons, List.length_nil]; omega), (by rw [List.map_append]; exact hst), hS.step hyi, rfl, rfl⟩ gv
 refine Run.skip ?_
 refine Run.region ?_
 refine sx 2 ?_
 have hst := hM.step hyi hany hfit
 rw [show nzL ls y = [] from if_pos (by rw [← hxv.1, ← hxv.2]; omega), List.append_nil] at hst
 exact RunL.next (Keep.sub (kt (ks := [2, 4, 6, 19, 20, 21]) rfl)) _ ⟨_, by omega, i + 1, acc, ca, cc, _, rfl, by omega, (by omega), hst, hS.step hyi, rfl, rfl⟩ gv
 simp only [hw, Bool.false_eq_true, if_false]
 have hfit : fitL ls y = false := by unfold fitL; rw [← hxv.1, ← hxv.2]; exact hw
 refine sx 7 ?_
 refine kp [2, 4, 6, 8, 10, 11, 12, 19, 20, 21] rfl ?_
 refine Run.seq ?_
 refine sr ?_
 refine sx 2 ?_
 refine kp [2, 4, 6, 8, 10, 11, 12, 19, 20, 21, 41] rfl ?_
 refine Run.true rfl ?_
 refine sr ?_
 refine RunL.ownNil 40 7 ?_
 refine RunL.bigNil (tagH 83) ?_
 refine sx 3 ?_
 refine kp [2, 3] rfl ?_
 refine Run.ret ?_
 have hbad := hM.bad hyi hany hfit
 exact ret_out (none, 0, []) (.tmp rfl (.tmp rfl .nil)) (by rw [hbad]; rfl) (by rw [hbad]; rfl) gv
 refine RunL.set (v := Bo true) rfl ?_
 refine kp [2, 4, 6, 8, 9, 19, 20, 21, 29] rfl ?_
 refine Run.true rfl ?_
 refine Run.exit ?_
 refine Run.region ?_
 refine sx 2 ?_
 have hany : (ls.take i).any (fun z => alB z y) = true := by rw [hS.any (fun z hz => (hTR z (List.mem_of_mem_take hz)).s) hyt.s, hk]; rfl
 exact RunL.next (Keep.sub (kt (ks := [2, 4, 6, 19, 20, 21]) rfl)) _ ⟨_, by omega, i + 1, acc, ca, cc, _, rfl, by omega, (by omega), (hM.skip hyi hany), (hS.again hyi (by rw [hk]; rfl)), rfl, rfl⟩ gv
 refine Run.exit ?_
 refine sr ?_
 refine sx 3 ?_
 refine kp [2, 3] rfl ?_
 refine Run.ret ?_
 have hdn := hM.done (by omega)
 exact ret_out (ca, cc, acc) (.tmp rfl (.tmp rfl .nil)) (by rw [hdn]) (by rw [hdn]; rfl) gv
end
instance xCmp : XI Tryz.prog 188 Extern.BytealgCompare.compare := ⟨⟨Tryz.f188, Tryz.func188, by kernel_rfl, by kernel_rfl, by kernel_rfl, by kernel_rfl⟩⟩
section
attribute [local irreducible] OpJ RunL Run RunD DetJ pt own star Rd RdS
theorem c_cmpStr (a b : ByteArray) : AC Tryz.prog 184 ⟨[St a, St b]⟩ (stars []) (Ret (I (cmpS a b)) []) := by
 refine AC.go Tryz.func184 rfl (Nat.le_of_ble_eq_true rfl) fun β => ?_
 refine sr ?_
 refine asg rfl rfl ?_
 refine kp [0, 1] rfl ?_
 refine sr ?_
 refine sx 2 ?_
 refine RunL.op rfl rfl (OpJ.ext xCmp rfl (fun w => run_cmpS _ _ w) ?_)
 refine asg rfl rfl ?_
 refine kp [4] rfl ?_
 refine Run.ret ?_
 exact ret_one (.tmp rfl .nil) (by simp [tup, *]) gv
theorem c_Compare (a b : ByteArray) : AC Tryz.prog 163 ⟨[St a, St b]⟩ (stars []) (Ret (I (cmpS a b)) []) := by
 refine AC.go Tryz.func163 rfl (Nat.le_of_ble_eq_true rfl) fun β => ?_
 refine sr ?_
 refine asg rfl rfl ?_
 refine kp [0, 1] rfl ?_
 refine sr ?_
 refine sx 2 ?_
 refine RunL.call C184 rfl rfl rfl (c_cmpStr _ _) .nil ?_
 refine asg rfl rfl ?_
 refine kp [4] rfl ?_
 refine Run.ret ?_
 exact ret_one (.tmp rfl .nil) (by simp [tup, *]) gv
theorem c_parts (k : Ky) : AC Tryz.prog 162 ⟨[.agg ⟨k.c⟩]⟩ (stars []) (Ret (.agg ⟨k.c⟩) []) := by
 refine AC.go Tryz.func162 rfl (Nat.le_of_ble_eq_true rfl) fun β => ?_
 refine sr ?_
 refine RunL.op rfl rfl (OpJ.boxA rfl fun b1 => ?_)
 refine RunL.op rfl rfl (OpJ.alloc Z219 fun b2 => ?_)
 refine kp [1, 2] rfl ?_
 refine sr ?_
 refine sx 11 ?_
 refine RunL.op rfl rfl (OpJ.storeW T219 rfl rfl rfl rfl (by simp [Value.oneCell', Tg.c, Ln.c, En.c, Ac.c, Cl.c, Ky.c, Qy.c, Sb, Iv]) up ?_)
 refine kp [2] rfl ?_
 refine Run.ret ?_
 exact ret_one (.cellA T219 rfl pk (by rfl) .nil) (rfl) gv
theorem c_Cmp (a b : Ky) : AC Tryz.prog 123 ⟨[.agg ⟨a.c⟩, .agg ⟨b.c⟩]⟩ (stars []) (Ret (I (cmpK a b)) []) := by
 refine AC.go Tryz.func123 rfl (Nat.le_of_ble_eq_true rfl) fun β => ?_
 refine sr ?_
 refine RunL.op rfl rfl (OpJ.boxA rfl fun b2 => ?_)
 refine RunL.op rfl rfl (OpJ.boxA rfl fun b3 => ?_)
 refine asg rfl rfl ?_
 refine kp [2, 3] rfl ?_
 refine Run.seq ?_
 refine regionD HM ?_
 refine RunD.mono (K' := fun E' L' => ∃ b5 : Nat, ∃ b6 : Nat, E' = [(5, .pointer (some ⟨b5, 0, none⟩)), (6, .pointer (some ⟨b6, 0, none⟩))] ∧ L' = [pt b5 (blk a.c 219), pt b6 (blk b.c 219)]) ?_ ?_
 first | refine RunD.takeW 0 rfl rfl kr T46 rfl pk (by rfl) ?_ | refine RunD.takeP 0 rfl rfl kr T46 rfl pk (by simp) ?_ | refine RunD.takeE 0 rfl rfl kr T46 rfl pk (by assumption) (by exact fun _ => rfl) rfl (by decide) ?_
 first | refine RunD.takeW 2 rfl rfl kr T46 rfl pk (by rfl) ?_ | refine RunD.takeP 2 rfl rfl kr T46 rfl pk (by simp) ?_ | refine RunD.takeE 2 rfl rfl kr T46 rfl pk (by assumption) (by exact fun _ => rfl) rfl (by decide) ?_
 refine RunD.three 1 4 5 [true, false] [true, true] [true, true] rfl rfl rfl rfl rfl rfl rfl rfl rfl kr kr kr kr (OpJ.callRet C162 rfl rfl (c_parts a) .nil ⟨po, ?_⟩) (OpJ.alloc Z219 fun b5 => ⟨po, ?_⟩) (OpJ.alloc Z219 fun b6 => ⟨po, ?_⟩)
 refine RunD.three 3 4 5 [false] [true] [true] rfl rfl rfl rfl rfl rfl rfl rfl rfl kr kr kr kr (OpJ.callRet C162 rfl rfl (c_parts b) .nil ⟨po, ?_⟩) (OpJ.alloc Z219 fun b5 => ⟨po, ?_⟩) (OpJ.alloc Z219 fun b6 => ⟨po, ?_⟩)
 refine RunD.two 4 5 [] [] rfl rfl rfl rfl rfl rfl kr kr kr (OpJ.alloc Z219 fun b5 => ⟨po, ?_⟩) (OpJ.alloc Z219 fun b6 => ⟨po, ?_⟩)
 refine RunD.op 5 [] rfl rfl rfl kr kr (OpJ.alloc Z219 fun b6 => ⟨po, ?_⟩)
 refine RunD.op 6 [] rfl rfl rfl kr kr (OpJ.storeW T219 rfl rfl rfl rfl (by simp [Value.oneCell', Tg.c, Ln.c, En.c, Ac.c, Cl.c, Ky.c, Qy.c, Sb, Iv]) up ⟨po, ?_⟩)
 refine RunD.op 7 [] rfl rfl rfl kr kr (OpJ.storeW T219 rfl rfl rfl rfl (by simp [Value.oneCell', Tg.c, Ln.c, En.c, Ac.c, Cl.c, Ky.c, Qy.c, Sb, Iv]) up ⟨po, ?_⟩)
 exact RunD.weak (E' := [(5, .pointer (some ⟨b5, 0, none⟩)), (6, .pointer (some ⟨b6, 0, none⟩))]) (L' := [pt b5 (blk a.c 219), pt b6 (blk b.c 219)]) (Keep.sub (kt (ks := [5, 6]) rfl)) gv (RunD.done kr ⟨_, _, rfl, rfl⟩)
 refine RunD.op 4 [] rfl rfl rfl kr kr (OpJ.alloc Z219 fun b5 => ⟨po, ?_⟩)
 refine RunD.op 6 [] rfl rfl rfl kr kr (OpJ.storeW T219 rfl rfl rfl rfl (by simp [Value.oneCell', Tg.c, Ln.c, En.c, Ac.c, Cl.c, Ky.c, Qy.c, Sb, Iv]) up ⟨po, ?_⟩)
 refine RunD.op 7 [] rfl rfl rfl kr kr (OpJ.storeW T219 rfl rfl rfl rfl (by simp [Value.oneCell', Tg.c, Ln.c, En.c, Ac.c, Cl.c, Ky.c, Qy.c, Sb, Iv]) up ⟨po, ?_⟩)
 exact RunD.weak (E' := [(5, .pointer (some ⟨b5, 0, none⟩)), (6, .pointer (some ⟨b6, 0, none⟩))]) (L' := [pt b5 (blk a.c 219), pt b6 (blk b.c 219)]) (Keep.sub (kt (ks := [5, 6]) rfl)) gv (RunD.done kr ⟨_, _, rfl, rfl⟩)
 refine RunD.two 3 5 [false] [true] rfl rfl rfl rfl rfl rfl kr kr kr (OpJ.callRet C162 rfl rfl (c_parts b) .nil ⟨po, ?_⟩) (OpJ.alloc Z219 fun b6 => ⟨po, ?_⟩)
 refine RunD.op 5 [] rfl rfl rfl kr kr (OpJ.alloc Z219 fun b6 => ⟨po, ?_⟩)
 refine RunD.op 6 [] rfl rfl rfl kr kr (OpJ.storeW T219 rfl rfl rfl rfl (by simp [Value.oneCell', Tg.c, Ln.c, En.c, Ac.c, Cl.c, Ky.c, Qy.c, Sb, Iv]) up ⟨po, ?_⟩)
 refine RunD.op 7 [] rfl rfl rfl kr kr (OpJ.storeW T219 rfl rfl rfl rfl (by simp [Value.oneCell', Tg.c, Ln.c, En.c, Ac.c, Cl.c, Ky.c, Qy.c, Sb, Iv]) up ⟨po, ?_⟩)
 exact RunD.weak (E' := [(5, .pointer (some ⟨b5, 0, none⟩)), (6, .pointer (some ⟨b6, 0, none⟩))]) (L' := [pt b5 (blk a.c 219), pt b6 (blk b.c 219)]) (Keep.sub (kt (ks := [5, 6]) rfl)) gv (RunD.done kr ⟨_, _, rfl, rfl⟩)
 refine RunD.op 3 [false] rfl rfl rfl kr kr (OpJ.callRet C162 rfl rfl (c_parts b) .nil ⟨po, ?_⟩)
 refine RunD.op 6 [] rfl rfl rfl kr kr (OpJ.storeW T219 rfl rfl rfl rfl (by simp [Value.oneCell', Tg.c, Ln.c, En.c, Ac.c, Cl.c, Ky.c, Qy.c, Sb, Iv]) up ⟨po, ?_⟩)
 refine RunD.op 7 [] rfl rfl rfl kr kr (OpJ.storeW T219 rfl rfl rfl rfl (by simp [Value.oneCell', Tg.c, Ln.c, En.c, Ac.c, Cl.c, Ky.c, Qy.c, Sb, Iv]) up ⟨po, ?_⟩)
 exact RunD.weak (E' := [(5, .pointer (some ⟨b5, 0, none⟩)), (6, .pointer (some ⟨b6, 0, none⟩))]) (L' := [pt b5 (blk a.c 219), pt b6 (blk b.c 219)]) (Keep.sub (kt (ks := [5, 6]) rfl)) gv (RunD.done kr ⟨_, _, rfl, rfl⟩)
 refine RunD.two 3 4 [false] [true] rfl rfl rfl rfl rfl rfl kr kr kr (OpJ.callRet C162 rfl rfl (c_parts b) .nil ⟨po, ?_⟩) (OpJ.alloc Z219 fun b5 => ⟨po, ?_⟩)
 refine RunD.op 4 [] rfl rfl rfl kr kr (OpJ.alloc Z219 fun b5 => ⟨po, ?_⟩)
 refine RunD.op 6 [] rfl rfl rfl kr kr (OpJ.storeW T219 rfl rfl rfl rfl (by simp [Value.oneCell', Tg.c, Ln.c, En.c, Ac.c, Cl.c, Ky.c, Qy.c, Sb, Iv]) up ⟨po, ?_⟩)
 refine RunD.op 7 [] rfl rfl rfl kr kr (OpJ.storeW T219 rfl rfl rfl rfl (by simp [Value.oneCell', Tg.c, Ln.c, En.c, Ac.c, Cl.c, Ky.c, Qy.c, Sb, Iv]) up ⟨po, ?_⟩)
 exact RunD.weak (E' := [(5, .pointer (some ⟨b5, 0, none⟩)), (6, .pointer (some ⟨b6, 0, none⟩))]) (L' := [pt b5 (blk a.c 219), pt b6 (blk b.c 219)]) (Keep.sub (kt (ks := [5, 6]) rfl)) gv (RunD.done kr ⟨_, _, rfl, rfl⟩)
 refine RunD.op 3 [false] rfl rfl rfl kr kr (OpJ.callRet C162 rfl rfl (c_parts b) .nil ⟨po, ?_⟩)
 refine RunD.op 6 [] rfl rfl rfl kr kr (OpJ.storeW T219 rfl rfl rfl rfl (by simp [Value.oneCell', Tg.c, Ln.c, En.c, Ac.c, Cl.c, Ky.c, Qy.c, Sb, Iv]) up ⟨po, ?_⟩)
 refine RunD.op 7 [] rfl rfl rfl kr kr (OpJ.storeW T219 rfl rfl rfl rfl (by simp [Value.oneCell', Tg.c, Ln.c, En.c, Ac.c, Cl.c, Ky.c, Qy.c, Sb, Iv]) up ⟨po, ?_⟩)
 exact RunD.weak (E' := [(5, .pointer (some ⟨b5, 0, none⟩)), (6, .pointer (some ⟨b6, 0, none⟩))]) (L' := [pt b5 (blk a.c 219), pt b6 (blk b.c 219)]) (Keep.sub (kt (ks := [5, 6]) rfl)) gv (RunD.done kr ⟨_, _, rfl, rfl⟩)
 refine RunD.two 1 5 [true, false] [true, true] rfl rfl rfl rfl rfl rfl kr kr kr (OpJ.callRet C162 rfl rfl (c_parts a) .nil ⟨po, ?_⟩) (OpJ.alloc Z219 fun b6 => ⟨po, ?_⟩)
 refine RunD.two 3 5 [false] [true] rfl rfl rfl rfl rfl rfl kr kr kr (OpJ.callRet C162 rfl rfl (c_parts b) .nil ⟨po, ?_⟩) (OpJ.alloc Z219 fun b6 => ⟨po, ?_⟩)
 refine RunD.op 5 [] rfl rfl rfl kr kr (OpJ.alloc Z219 fun b6 => ⟨po, ?_⟩)
 refine RunD.op 6 [] rfl rfl rfl kr kr (OpJ.storeW T219 rfl rfl rfl rfl (by simp [Value.oneCell', Tg.c, Ln.c, En.c, Ac.c, Cl.c, Ky.c, Qy.c, Sb, Iv]) up ⟨po, ?_⟩)
 refine RunD.op 7 [] rfl rfl rfl kr kr (OpJ.storeW T219 rfl rfl rfl rfl (by simp [Value.oneCell', Tg.c, Ln.c, En.c, Ac.c, Cl.c, Ky.c, Qy.c, Sb, Iv]) up ⟨po, ?_⟩)
 exact RunD.weak (E' := [(5, .pointer (some ⟨b5, 0, none⟩)), (6, .pointer (some ⟨b6, 0, none⟩))]) (L' := [pt b5 (blk a.c 219), pt b6 (blk b.c 219)]) (Keep.sub (kt (ks := [5, 6]) rfl)) gv (RunD.done kr ⟨_, _, rfl, rfl⟩)
 refine RunD.op 3 [false] rfl rfl rfl kr kr (OpJ.callRet C162 rfl rfl (c_parts b) .nil ⟨po, ?_⟩)
 refine RunD.op 6 [] rfl rfl rfl kr kr (OpJ.storeW T219 rfl rfl rfl rfl (by simp [Value.oneCell', Tg.c, Ln.c, En.c, Ac.c, Cl.c, Ky.c, Qy.c, Sb, Iv]) up ⟨po, ?_⟩)
 refine RunD.op 7 [] rfl rfl rfl kr kr (OpJ.storeW T219 rfl rfl rfl rfl (by simp [Value.oneCell', Tg.c, Ln.c, En.c, Ac.c, Cl.c, Ky.c, Qy.c, Sb, Iv]) up ⟨po, ?_⟩)
 exact RunD.weak (E' := [(5, .pointer (some ⟨b5, 0, none⟩)), (6, .pointer (some ⟨b6, 0, none⟩))]) (L' := [pt b5 (blk a.c 219), pt b6 (blk b.c 219)]) (Keep.sub (kt (ks := [5, 6]) rfl)) gv (RunD.done kr ⟨_, _, rfl, rfl⟩)
 refine RunD.op 1 [true, false] rfl rfl rfl kr kr (OpJ.callRet C162 rfl rfl (c_parts a) .nil ⟨po, ?_⟩)
 refine RunD.op 3 [false] rfl rfl rfl kr kr (OpJ.callRet C162 rfl rfl (c_parts b) .nil ⟨po, ?_⟩)
 refine RunD.op 6 [] rfl rfl rfl kr kr (OpJ.storeW T219 rfl rfl rfl rfl (by simp [Value.oneCell', Tg.c, Ln.c, En.c, Ac.c, Cl.c, Ky.c, Qy.c, Sb, Iv]) up ⟨po, ?_⟩)
 refine RunD.op 7 [] rfl rfl rfl kr kr (OpJ.storeW T219 rfl rfl rfl rfl (by simp [Value.oneCell', Tg.c, Ln.c, En.c, Ac.c, Cl.c, Ky.c, Qy.c, Sb, Iv]) up ⟨po, ?_⟩)
 exact RunD.weak (E' := [(5, .pointer (some ⟨b5, 0, none⟩)), (6, .pointer (some ⟨b6, 0, none⟩))]) (L' := [pt b5 (blk a.c 219), pt b6 (blk b.c 219)]) (Keep.sub (kt (ks := [5, 6]) rfl)) gv (RunD.done kr ⟨_, _, rfl, rfl⟩)
 refine RunD.two 1 4 [true, false] [true, true] rfl rfl rfl rfl rfl rfl kr kr kr (OpJ.callRet C162 rfl rfl (c_parts a) .nil ⟨po, ?_⟩) (OpJ.alloc Z219 fun b5 => ⟨po, ?_⟩)
 refine RunD.two 3 4 [false] [true] rfl rfl rfl rfl rfl rfl kr kr kr (OpJ.callRet C162 rfl rfl (c_parts b) .nil ⟨po, ?_⟩) (OpJ.alloc Z219 fun b5 => ⟨po, ?_⟩)
 refine RunD.op 4 [] rfl rfl rfl kr kr (OpJ.alloc Z219 fun b5 => ⟨po, ?_⟩)
 refine RunD.op 6 [] rfl rfl rfl kr kr (OpJ.storeW T219 rfl rfl rfl rfl (by simp [Value.oneCell', Tg.c, Ln.c, En.c, Ac.c, Cl.c, Ky.c, Qy.c, Sb, Iv]) up ⟨po, ?_⟩)
 refine RunD.op 7 [] rfl rfl rfl kr kr (OpJ.storeW T219 rfl rfl rfl rfl (by simp [Value.oneCell', Tg.c, Ln.c, En.c, Ac.c, Cl.c, Ky.c, Qy.c, Sb, Iv]) up ⟨po, ?_⟩)
 exact RunD.weak (E' := [(5, .pointer (some ⟨b5, 0, none⟩)), (6, .pointer (some ⟨b6, 0, none⟩))]) (L' := [pt b5 (blk a.c 219), pt b6 (blk b.c 219)]) (Keep.sub (kt (ks := [5, 6]) rfl)) gv (RunD.done kr ⟨_, _, rfl, rfl⟩)
 refine RunD.op 3 [false] rfl rfl rfl kr kr (OpJ.callRet C162 rfl rfl (c_parts b) .nil ⟨po, ?_⟩)
 refine RunD.op 6 [] rfl rfl rfl kr kr (OpJ.storeW T219 rfl rfl rfl rfl (by simp [Value.oneCell', Tg.c, Ln.c, En.c, Ac.c, Cl.c, Ky.c, Qy.c, Sb, Iv]) up ⟨po, ?_⟩)
 refine RunD.op 7 [] rfl rfl rfl kr kr (OpJ.storeW T219 rfl rfl rfl rfl (by simp [Value.oneCell', Tg.c, Ln.c, En.c, Ac.c, Cl.c, Ky.c, Qy.c, Sb, Iv]) up ⟨po, ?_⟩)
 exact RunD.weak (E' := [(5, .pointer (some ⟨b5, 0, none⟩)), (6, .pointer (some ⟨b6, 0, none⟩))]) (L' := [pt b5 (blk a.c 219), pt b6 (blk b.c 219)]) (Keep.sub (kt (ks := [5, 6]) rfl)) gv (RunD.done kr ⟨_, _, rfl, rfl⟩)
 refine RunD.op 1 [true, false] rfl rfl rfl kr kr (OpJ.callRet C162 rfl rfl (c_parts a) .nil ⟨po, ?_⟩)
 refine RunD.op 3 [false] rfl rfl rfl kr kr (OpJ.callRet C162 rfl rfl (c_parts b) .nil ⟨po, ?_⟩)
 refine RunD.op 6 [] rfl rfl rfl kr kr (OpJ.storeW T219 rfl rfl rfl rfl (by simp [Value.oneCell', Tg.c, Ln.c, En.c, Ac.c, Cl.c, Ky.c, Qy.c, Sb, Iv]) up ⟨po, ?_⟩)
 refine RunD.op 7 [] rfl rfl rfl kr kr (OpJ.storeW T219 rfl rfl rfl rfl (by simp [Value.oneCell', Tg.c, Ln.c, En.c, Ac.c, Cl.c, Ky.c, Qy.c, Sb, Iv]) up ⟨po, ?_⟩)
 exact RunD.weak (E' := [(5, .pointer (some ⟨b5, 0, none⟩)), (6, .pointer (some ⟨b6, 0, none⟩))]) (L' := [pt b5 (blk a.c 219), pt b6 (blk b.c 219)]) (Keep.sub (kt (ks := [5, 6]) rfl)) gv (RunD.done kr ⟨_, _, rfl, rfl⟩)
 rintro _ _ ⟨b5, b6, rfl, rfl⟩
 refine Run.seq ?_
 refine sr ?_
 refine mvo rfl rfl ?_
 refine kp [5, 6, 13] rfl ?_
 refine Run.block ?_
 refine Run.loop (fun mm E L => ∃ i : Nat, mm = 5 - i ∧ i ≤ 5 ∧ cmpK a b = cmpL (a.l.drop i) (b.l.drop i) ∧ E = [(5, .pointer (some ⟨b5, 0, none⟩)), (6, .pointer (some ⟨b6, 0, none⟩)), (13, I i)] ∧ L = [pt b5 (blk a.c 219), pt b6 (blk b.c 219)]) ⟨_, 0, rfl, Nat.zero_le _, rfl, rfl, rfl⟩ ?_
 rintro _ _ _ ⟨i, rfl, hi, hc, rfl, rfl⟩
 refine sr ?_
 refine sx 1 ?_
 refine kp [5, 6, 13, 14] rfl ?_
 refine Run.seq ?_
 first | refine Run.if rfl (fun h1 => ?_) (fun h1 => ?_) | refine Run.cond rfl (fun h1 => ?_) (fun h1 => ?_)
 refine Run.skip ?_
 refine Run.seq ?_
 refine Run.block ?_
 refine sr ?_
 refine sx 2 ?_
 refine kp [5, 6, 7, 13] rfl ?_
 refine Run.seq ?_
 refine regionD HM ?_
 obtain ⟨x, hx⟩ := get_ex (xs := a.l) (i := i) (by have : a.l.length = 5 := rfl; omega)
 obtain ⟨y, hy⟩ := get_ex (xs := b.l) (i := i) (by have : b.l.length = 5 := rfl; omega)
 have hx2 := Ky.c_at hx
 have hy2 := Ky.c_at hy
 refine tk 0 rfl rfl rfl (DetJ.move rfl) ?_
 refine tk 1 rfl rfl rfl (DetJ.indexAddrArr A219 rfl rfl (by omega)) ?_
 refine RunD.takeF 2 rfl rfl kr T9 rfl pk (by simpa using hx2) ?_
 refine tk 3 rfl rfl rfl (DetJ.move rfl) ?_
 refine tk 4 rfl rfl rfl (DetJ.indexAddrArr A219 rfl rfl (by omega)) ?_
 refine RunD.takeF 5 rfl rfl kr T9 rfl pk (by simpa using hy2) ?_
 refine RunD.op 6 [false, false, false, false, false, false] rfl rfl rfl kr kr (OpJ.callRet C163 rfl rfl (c_Compare _ _) .nil ⟨po, ?_⟩)
 refine tk 7 rfl rfl rfl (DetJ.assign rfl) ?_
 refine kd [5, 6, 8, 13] rfl ?_
 refine sr ?_
 refine sx 2 ?_
 refine kp [5, 6, 8, 13, 24] rfl ?_
 first | refine Run.if rfl (fun h2 => ?_) (fun h2 => ?_) | refine Run.cond rfl (fun h2 => ?_) (fun h2 => ?_)
 refine sr ?_
 refine sx 2 ?_
 refine kp [4] rfl ?_
 refine Run.ret ?_
 exact ret_one (.tmp rfl .nil) (by rw [hc, cmpL_diff hx hy (by simpa using h2)]; rfl) gv
 refine Run.skip ?_
 refine Run.region ?_
 refine sx 2 ?_
 exact RunL.next (Keep.sub (kt (ks := [5, 6, 13]) rfl)) _ ⟨_, by omega, i + 1, rfl, by omega, (by rw [hc]; exact cmpL_same hx hy (by simpa using h2)), rfl, rfl⟩ gv
 refine Run.exit ?_
 refine sr ?_
 refine asg rfl rfl ?_
 refine kp [4] rfl ?_
 refine Run.ret ?_
 exact ret_one (.tmp rfl .nil) (by rw [hc, List.drop_eq_nil_of_le (show a.l.length ≤ i from (by have : a.l.length = 5 := rfl; omega))]; rfl) gv
theorem c_sfar (n : Int) : AC Tryz.prog 122 ⟨[I n]⟩ (stars []) (Ret (Bo (largeB n)) []) := by
 refine AC.go Tryz.func122 rfl (Nat.le_of_ble_eq_true rfl) fun β => ?_
 refine sr ?_
 refine asg rfl rfl ?_
 refine kp [0] rfl ?_
 refine sr ?_
 refine sx 3 ?_
 first | refine RunL.splitP (t := 5) rfl (fun g1 => ?_) (fun g1 => ?_) | refine RunL.split (t := 5) rfl (fun g1 => ?_) (fun g1 => ?_)
 refine sx 4 ?_
 refine kp [2] rfl ?_
 refine Run.ret ?_
 exact ret_one (.tmp rfl .nil) (by first | (simp [tup, largeB,  *]; done) | (exfalso; omega)) gv
 refine sx 4 ?_
 refine kp [2] rfl ?_
 refine Run.ret ?_
 exact ret_one (.tmp rfl .nil) (by first | (simp [tup, largeB,  *]; done) | (exfalso; omega)) gv
theorem c_shR (R : HP) (oa : Option Addr) (cap : Nat) (s : List Cl) (hR : RdS R oa (s.flatMap Cl.c)) (hl : s.length ≤ 100000) : AC Tryz.prog 87 ⟨[.slice oa s.length cap]⟩ (stars [R]) (Ret (Bo (shB s)) [R]) := by
 refine AC.go Tryz.func87 rfl (Nat.le_of_ble_eq_true rfl) fun β => ?_
 refine sr ?_
 refine asg rfl rfl ?_
 refine kp [0] rfl ?_
 refine Run.seq ?_
 refine sr ?_
 refine sx 3 ?_
 refine kp [0, 5, 6, 7] rfl ?_
 refine Run.block ?_
 refine Run.loop (fun mm E L => ∃ i : Nat, mm = s.length - i ∧ i ≤ s.length ∧ shTo s i ∧ E = [(0, .slice oa s.length cap), (5, .slice oa s.length cap), (6, I s.length), (7, I i)] ∧ L = [R]) ⟨_, 0, rfl, Nat.zero_le _, shTo.zero, rfl, rfl⟩ ?_
 rintro _ _ _ ⟨i, rfl, hi, hI, rfl, rfl⟩
 refine sr ?_
 refine sx 1 ?_
 refine kp [0, 5, 6, 7, 8] rfl ?_
 refine Run.seq ?_
 first | refine Run.if rfl (fun h1 => ?_) (fun h1 => ?_) | refine Run.cond rfl (fun h1 => ?_) (fun h1 => ?_)
 refine Run.skip ?_
 refine Run.seq ?_
 refine Run.block ?_
 refine sr ?_
 obtain ⟨x, hx⟩ := get_ex (xs := s) (i := i) (by omega)
 refine RunL.rdOpen pk hR (flat_ne (k := 7) (fun _ => rfl) (by decide) hx) fun bx ox ebx hrdx => ?_
 rw [ebx]
 refine sx 2 ?_
 refine RunL.op rfl rfl (OpJ.loadA inferInstance rfl pk (hrdx.elem (fun _ => rfl) hx) rfl ?_)
 refine RunL.op rfl rfl (OpJ.alloc Z48 fun b4 => ?_)
 refine asg rfl rfl ?_
 refine RunL.op rfl rfl (OpJ.storeW T48 rfl rfl rfl rfl (by simp [Value.oneCell', Tg.c, Ln.c, En.c, Ac.c, Cl.c, Ky.c, Qy.c, Sb, Iv, Cs.c, Rt.c]) up ?_)
 refine kp [0, 3, 4, 5, 6, 7] rfl ?_
 refine Run.seq ?_
 refine regionD HM ?_
 refine tk 0 rfl rfl rfl (DetJ.fieldAddr F48_1 rfl) ?_
 first | refine RunD.takeF 1 rfl rfl kr T3 rfl pk (by rfl) ?_ | refine RunD.takeO 1 rfl rfl kr T3 rfl pk (by assumption) (by rfl) (by exact fun _ => rfl) ?_
 refine tk 2 rfl rfl rfl (DetJ.eql rfl rfl) ?_
 refine tk 3 rfl rfl rfl (DetJ.move rfl) ?_
 by_cases hz : x.amt = 0
 refine RunD.set (congrArg Bo (decide_eq_true hz)) ?_
 refine RunD.takeG 4 rfl rfl rfl rfl rfl kr (DetJ.fieldAddr F48_2 rfl) .nil ?_
 first | refine RunD.takeGF 5 rfl rfl rfl rfl kr T3 rfl pk (by rfl) ?_ | refine RunD.takeGO 5 rfl rfl rfl rfl kr T3 rfl pk (by assumption) (by rfl) (by exact fun _ => rfl) ?_
 refine RunD.takeG 6 rfl rfl rfl rfl rfl kr (DetJ.eql rfl rfl) .nil ?_
 refine tk 7 rfl rfl rfl (DetJ.pickT rfl rfl) ?_
 refine tk 8 rfl rfl rfl (DetJ.move rfl) ?_
 by_cases hz2 : x.base = 0
 refine RunD.set (congrArg Bo (decide_eq_true hz2)) ?_
 refine RunD.takeN 9 rfl rfl rfl rfl rfl kr ?_
 refine RunD.takeN 10 rfl rfl rfl rfl rfl kr ?_
 refine RunD.takeN 11 rfl rfl rfl rfl rfl kr ?_
 refine tk 12 rfl rfl rfl (DetJ.pickT rfl rfl) ?_
 refine tk 13 rfl rfl rfl (DetJ.move rfl) ?_
 refine RunD.takeN 14 rfl rfl rfl rfl rfl kr ?_
 refine RunD.takeN 15 rfl rfl rfl rfl rfl kr ?_
 refine RunD.takeN 16 rfl rfl rfl rfl rfl kr ?_
 refine tk 17 rfl rfl rfl (DetJ.pickT rfl rfl) ?_
 refine tk 18 rfl rfl rfl (DetJ.move rfl) ?_
 refine RunD.takeN 19 rfl rfl rfl rfl rfl kr ?_
 refine RunD.takeN 20 rfl rfl rfl rfl rfl kr ?_
 refine RunD.takeN 21 rfl rfl rfl rfl rfl kr ?_
 refine RunD.takeU 22 rfl rfl rfl rfl rfl ?_
 refine RunD.takeU 23 rfl rfl rfl rfl rfl ?_
 refine RunD.takeU 24 rfl rfl rfl rfl rfl ?_
 refine RunD.takeU 25 rfl rfl rfl rfl rfl ?_
 refine RunD.takeU 26 rfl rfl rfl rfl rfl ?_
 refine RunD.takeU 27 rfl rfl rfl rfl rfl ?_
 refine RunD.takeU 28 rfl rfl rfl rfl rfl ?_
 refine RunD.takeU 29 rfl rfl rfl rfl rfl ?_
 refine RunD.takeU 30 rfl rfl rfl rfl rfl ?_
 refine RunD.takeU 31 rfl rfl rfl rfl rfl ?_
 refine RunD.takeN 32 rfl rfl rfl rfl rfl kr ?_
 refine tk 33 rfl rfl rfl (DetJ.pickT rfl rfl) ?_
 refine kd [0, 5, 6, 7, 45] rfl ?_
 refine Run.true rfl ?_
 refine sr ?_
 refine asg rfl rfl ?_
 refine kp [2] rfl ?_
 refine Run.ret ?_
 exact ret_one (.tmp rfl .nil) (by first | (rw [sh_bad hx (cel_zero hz hz2)]; rfl) | (rw [sh_bad hx (cel_fara hfa)]; rfl) | (rw [sh_bad hx (cel_farb hfb)]; rfl) | (rw [sh_fall hx hy hlt]; rfl) | (rw [hI.all (by omega)]; rfl)) gv
 refine RunD.set (congrArg Bo (decide_eq_false hz2)) ?_
 have hz3 : ¬ (x.amt = 0 ∧ x.base = 0) := fun h => hz2 h.2
 refine RunD.takeG 9 rfl rfl rfl rfl rfl kr (DetJ.fieldAddr F48_1 rfl) .nil ?_
 first | refine RunD.takeGF 10 rfl rfl rfl rfl kr T3 rfl pk (by rfl) ?_ | refine RunD.takeGO 10 rfl rfl rfl rfl kr T3 rfl pk (by assumption) (by rfl) (by exact fun _ => rfl) ?_
 refine RunD.opG 11 [false, false, false, false, false, true, true, false, false, true, true] rfl rfl rfl rfl rfl kr kr (OpJ.callRet C122 rfl rfl (c_sfar _) .nil ⟨po, ?_⟩)
 refine tk 12 rfl rfl rfl (DetJ.pickF rfl rfl) ?_
 refine tk 13 rfl rfl rfl (DetJ.move rfl) ?_
 rcases Bool.eq_false_or_eq_true (largeB x.amt) with hfa | hfa
 refine RunD.set (v := Bo true) (congrArg Bo hfa) ?_
 refine RunD.takeN 14 rfl rfl rfl rfl rfl kr ?_
 refine RunD.takeN 15 rfl rfl rfl rfl rfl kr ?_
 refine RunD.takeN 16 rfl rfl rfl rfl rfl kr ?_
 refine tk 17 rfl rfl rfl (DetJ.pickT rfl rfl) ?_
 refine tk 18 rfl rfl rfl (DetJ.move rfl) ?_
 refine RunD.takeN 19 rfl rfl rfl rfl rfl kr ?_
 refine RunD.takeN 20 rfl rfl rfl rfl rfl kr ?_
 refine RunD.takeN 21 rfl rfl rfl rfl rfl kr ?_
 refine RunD.takeU 22 rfl rfl rfl rfl rfl ?_
 refine RunD.takeU 23 rfl rfl rfl rfl rfl ?_
 refine RunD.takeU 24 rfl rfl rfl rfl rfl ?_
 refine RunD.takeU 25 rfl rfl rfl rfl rfl ?_
 refine RunD.takeU 26 rfl rfl rfl rfl rfl ?_
 refine RunD.takeU 27 rfl rfl rfl rfl rfl ?_
 refine RunD.takeU 28 rfl rfl rfl rfl rfl ?_
 refine RunD.takeU 29 rfl rfl rfl rfl rfl ?_
 refine RunD.takeU 30 rfl rfl rfl rfl rfl ?_
 refine RunD.takeU 31 rfl rfl rfl rfl rfl ?_
 refine RunD.takeN 32 rfl rfl rfl rfl rfl kr ?_
 refine tk 33 rfl rfl rfl (DetJ.pickT rfl rfl) ?_
 refine kd [0, 5, 6, 7, 45] rfl ?_
 refine Run.true rfl ?_
 refine sr ?_
 refine asg rfl rfl ?_
 refine kp [2] rfl ?_
 refine Run.ret ?_
 exact ret_one (.tmp rfl .nil) (by first | (rw [sh_bad hx (cel_zero hz hz2)]; rfl) | (rw [sh_bad hx (cel_fara hfa)]; rfl) | (rw [sh_bad hx (cel_farb hfb)]; rfl) | (rw [sh_fall hx hy hlt]; rfl) | (rw [hI.all (by omega)]; rfl)) gv
 refine RunD.set (v := Bo false) (congrArg Bo hfa) ?_
 refine RunD.takeG 14 rfl rfl rfl rfl rfl kr (DetJ.fieldAddr F48_2 rfl) .nil ?_
 first | refine RunD.takeGF 15 rfl rfl rfl rfl kr T3 rfl pk (by rfl) ?_ | refine RunD.takeGO 15 rfl rfl rfl rfl kr T3 rfl pk (by assumption) (by rfl) (by exact fun _ => rfl) ?_
 refine RunD.opG 16 [false, false, false, false, true, true, true, true] rfl rfl rfl rfl rfl kr kr (OpJ.callRet C122 rfl rfl (c_sfar _) .nil ⟨po, ?_⟩)
 refine tk 17 rfl rfl rfl (DetJ.pickF rfl rfl) ?_
 refine tk 18 rfl rfl rfl (DetJ.move rfl) ?_
 rcases Bool.eq_false_or_eq_true (largeB x.base) with hfb | hfb
 refine RunD.set (v := Bo true) (congrArg Bo hfb) ?_
 refine RunD.takeN 19 rfl rfl rfl rfl rfl kr ?_
 refine RunD.takeN 20 rfl rfl rfl rfl rfl kr ?_
 refine RunD.takeN 21 rfl rfl rfl rfl rfl kr ?_
 refine RunD.takeU 22 rfl rfl rfl rfl rfl ?_
 refine RunD.takeU 23 rfl rfl rfl rfl rfl ?_
 refine RunD.takeU 24 rfl rfl rfl rfl rfl ?_
 refine RunD.takeU 25 rfl rfl rfl rfl rfl ?_
 refine RunD.takeU 26 rfl rfl rfl rfl rfl ?_
 refine RunD.takeU 27 rfl rfl rfl rfl rfl ?_
 refine RunD.takeU 28 rfl rfl rfl rfl rfl ?_
 refine RunD.takeU 29 rfl rfl rfl rfl rfl ?_
 refine RunD.takeU 30 rfl rfl rfl rfl rfl ?_
 refine RunD.takeU 31 rfl rfl rfl rfl rfl ?_
 refine RunD.takeN 32 rfl rfl rfl rfl rfl kr ?_
 refine tk 33 rfl rfl rfl (DetJ.pickT rfl rfl) ?_
 refine kd [0, 5, 6, 7, 45] rfl ?_
 refine Run.true rfl ?_
 refine sr ?_
 refine asg rfl rfl ?_
 refine kp [2] rfl ?_
 refine Run.ret ?_
 exact ret_one (.tmp rfl .nil) (by first | (rw [sh_bad hx (cel_zero hz hz2)]; rfl) | (rw [sh_bad hx (cel_fara hfa)]; rfl) | (rw [sh_bad hx (cel_farb hfb)]; rfl) | (rw [sh_fall hx hy hlt]; rfl) | (rw [hI.all (by omega)]; rfl)) gv
 refine RunD.set (v := Bo false) (congrArg Bo hfb) ?_
 refine RunD.takeG 19 rfl rfl rfl rfl rfl kr (DetJ.move rfl) .nil ?_
 refine RunD.takeG 20 rfl rfl rfl rfl rfl kr (DetJ.gtr rfl rfl) .nil ?_
 refine RunD.takeG 21 rfl rfl rfl rfl rfl kr (DetJ.move rfl) .nil ?_
 by_cases hp : 0 < i
 obtain ⟨j, rfl⟩ : ∃ j, i = j + 1 := ⟨i - 1, by omega⟩
 obtain ⟨y, hy⟩ := get_ex (xs := s) (i := j) (by omega)
 have hkx : Rd (pt b4 (blk x.c 48)) ⟨b4, 0 + 0, none⟩ x.k.c := Rd.pre (vs := [I x.amt, I x.base]) Rd.whole
 have hkey : Rd R ⟨bx, ox + j * 7 + 0, none⟩ y.k.c := Rd.pre (vs := [I y.amt, I y.base]) (Rd.elem (enc := Cl.c) (k := 7) (fun _ => rfl) hrdx hy)
 refine RunD.set (congrArg Bo (decide_eq_true (by omega))) ?_
 refine RunD.takeG 22 rfl rfl rfl rfl rfl kr (DetJ.move rfl) .nil ?_
 refine RunD.takeG 23 rfl rfl rfl rfl rfl kr (DetJ.move rfl) .nil ?_
 first | refine RunD.takeG 24 rfl rfl rfl rfl rfl kr (DetJ.subI rfl rfl (by omega)) .nil ?_ | refine RunD.takeG 24 rfl rfl rfl rfl rfl kr (DetJ.sub rfl rfl) .nil ?_
 refine RunD.set (v := I (j : Int)) (congrArg I (by omega)) ?_
 refine RunD.takeG 25 rfl rfl rfl rfl rfl kr (DetJ.indexAddr S24 rfl rfl (by omega)) .nil ?_
 refine RunD.takeG 26 rfl rfl rfl rfl rfl kr (DetJ.fieldAddr F48_0 rfl) .nil ?_
 refine RunD.takeGR 27 rfl rfl rfl rfl kr T46 rfl pk hkey rfl ?_
 refine RunD.takeG 28 rfl rfl rfl rfl rfl kr (DetJ.fieldAddr F48_0 rfl) .nil ?_
 refine RunD.takeGR 29 rfl rfl rfl rfl kr T46 rfl pk hkx rfl ?_
 refine RunD.opG 30 [false, false, false, false, false, true, true, true, false, false, false, false, false, true, true, true, true] rfl rfl rfl rfl rfl kr kr (OpJ.callRet C123 rfl rfl (c_Cmp y.k x.k) .nil ⟨po, ?_⟩)
 refine RunD.takeG 31 rfl rfl rfl rfl rfl kr (DetJ.geq rfl rfl) .nil ?_
 refine RunD.takeG 32 rfl rfl rfl rfl rfl kr (DetJ.pickT rfl rfl) .nil ?_
 refine tk 33 rfl rfl rfl (DetJ.pickF rfl rfl) ?_
 by_cases hlt : cmpK y.k x.k < 0
 refine RunD.set (congrArg Bo (decide_eq_false (by omega))) ?_
 refine kd [0, 5, 6, 7, 45] rfl ?_
 refine Run.false rfl ?_
 refine Run.skip ?_
 refine Run.region ?_
 refine sx 2 ?_
 have hcel := cel_ok (x := x) hz3 hfa hfb
 exact RunL.next (Keep.sub (kt (ks := [0, 5, 6, 7]) rfl)) _ ⟨_, by omega, j + 2, rfl, by omega, (hI.step hx hcel fun j2 y2 e h2 => by { obtain rfl : j2 = j := (by omega); rw [hy] at h2; cases h2; exact hlt }), rfl, rfl⟩ gv
 refine RunD.set (congrArg Bo (decide_eq_true (by omega))) ?_
 refine kd [0, 5, 6, 7, 45] rfl ?_
 refine Run.true rfl ?_
 refine sr ?_
 refine asg rfl rfl ?_
 refine kp [2] rfl ?_
 refine Run.ret ?_
 exact ret_one (.tmp rfl .nil) (by first | (rw [sh_bad hx (cel_zero hz hz2)]; rfl) | (rw [sh_bad hx (cel_fara hfa)]; rfl) | (rw [sh_bad hx (cel_farb hfb)]; rfl) | (rw [sh_fall hx hy hlt]; rfl) | (rw [hI.all (by omega)]; rfl)) gv
 refine RunD.set (congrArg Bo (decide_eq_false (by omega))) ?_
 refine RunD.takeN 22 rfl rfl rfl rfl rfl kr ?_
 refine RunD.takeN 23 rfl rfl rfl rfl rfl kr ?_
 refine RunD.takeN 24 rfl rfl rfl rfl rfl kr ?_
 refine RunD.takeN 25 rfl rfl rfl rfl rfl kr ?_
 refine RunD.takeN 26 rfl rfl rfl rfl rfl kr ?_
 refine RunD.takeN 27 rfl rfl rfl rfl rfl kr ?_
 refine RunD.takeN 28 rfl rfl rfl rfl rfl kr ?_
 refine RunD.takeN 29 rfl rfl rfl rfl rfl kr ?_
 refine RunD.takeN 30 rfl rfl rfl rfl rfl kr ?_
 refine RunD.takeN 31 rfl rfl rfl rfl rfl kr ?_
 refine RunD.takeG 32 rfl rfl rfl rfl rfl kr (DetJ.pickF rfl rfl) .nil ?_
 refine tk 33 rfl rfl rfl (DetJ.pickF rfl rfl) ?_
 skip
 refine RunD.set (v := Bo false) rfl ?_
 refine kd [0, 5, 6, 7, 45] rfl ?_
 refine Run.false rfl ?_
 refine Run.skip ?_
 refine Run.region ?_
 refine sx 2 ?_
 have hcel := cel_ok (x := x) hz3 hfa hfb
 exact RunL.next (Keep.sub (kt (ks := [0, 5, 6, 7]) rfl)) _ ⟨_, by omega, i + 1, rfl, by omega, (hI.step hx hcel fun j2 y2 e h2 => absurd e (by omega)), rfl, rfl⟩ gv
 refine RunD.set (congrArg Bo (decide_eq_false hz)) ?_
 refine RunD.takeN 4 rfl rfl rfl rfl rfl kr ?_
 refine RunD.takeN 5 rfl rfl rfl rfl rfl kr ?_
 refine RunD.takeN 6 rfl rfl rfl rfl rfl kr ?_
 refine tk 7 rfl rfl rfl (DetJ.pickF rfl rfl) ?_
 refine tk 8 rfl rfl rfl (DetJ.move rfl) ?_
 skip
 refine RunD.set (v := Bo false) rfl ?_
 have hz3 : ¬ (x.amt = 0 ∧ x.base = 0) := fun h => hz h.1
 refine RunD.takeG 9 rfl rfl rfl rfl rfl kr (DetJ.fieldAddr F48_1 rfl) .nil ?_
 first | refine RunD.takeGF 10 rfl rfl rfl rfl kr T3 rfl pk (by rfl) ?_ | refine RunD.takeGO 10 rfl rfl rfl rfl kr T3 rfl pk (by assumption) (by rfl) (by exact fun _ => rfl) ?_
 refine RunD.opG 11 [false, false, false, false, false, true, true, false, false, true, true] rfl rfl rfl rfl rfl kr kr (OpJ.callRet C122 rfl rfl (c_sfar _) .nil ⟨po, ?_⟩)
 refine tk 12 rfl rfl rfl (DetJ.pickF rfl rfl) ?_
 refine tk 13 rfl rfl rfl (DetJ.move rfl) ?_
 rcases Bool.eq_false_or_eq_true (largeB x.amt) with hfa | hfa
 refine RunD.set (v := Bo true) (congrArg Bo hfa) ?_
 refine RunD.takeN 14 rfl rfl rfl rfl rfl kr ?_
 refine RunD.takeN 15 rfl rfl rfl rfl rfl kr ?_
 refine RunD.takeN 16 rfl rfl rfl rfl rfl kr ?_
 refine tk 17 rfl rfl rfl (DetJ.pickT rfl rfl) ?_
 refine tk 18 rfl rfl rfl (DetJ.move rfl) ?_
 refine RunD.takeN 19 rfl rfl rfl rfl rfl kr ?_
 refine RunD.takeN 20 rfl rfl rfl rfl rfl kr ?_
 refine RunD.takeN 21 rfl rfl rfl rfl rfl kr ?_
 refine RunD.takeU 22 rfl rfl rfl rfl rfl ?_
 refine RunD.takeU 23 rfl rfl rfl rfl rfl ?_
 refine RunD.takeU 24 rfl rfl rfl rfl rfl ?_
 refine RunD.takeU 25 rfl rfl rfl rfl rfl ?_
 refine RunD.takeU 26 rfl rfl rfl rfl rfl ?_
 refine RunD.takeU 27 rfl rfl rfl rfl rfl ?_
 refine RunD.takeU 28 rfl rfl rfl rfl rfl ?_
 refine RunD.takeU 29 rfl rfl rfl rfl rfl ?_
 refine RunD.takeU 30 rfl rfl rfl rfl rfl ?_
 refine RunD.takeU 31 rfl rfl rfl rfl rfl ?_
 refine RunD.takeN 32 rfl rfl rfl rfl rfl kr ?_
 refine tk 33 rfl rfl rfl (DetJ.pickT rfl rfl) ?_
 refine kd [0, 5, 6, 7, 45] rfl ?_
 refine Run.true rfl ?_
 refine sr ?_
 refine asg rfl rfl ?_
 refine kp [2] rfl ?_
 refine Run.ret ?_
 exact ret_one (.tmp rfl .nil) (by first | (rw [sh_bad hx (cel_zero hz hz2)]; rfl) | (rw [sh_bad hx (cel_fara hfa)]; rfl) | (rw [sh_bad hx (cel_farb hfb)]; rfl) | (rw [sh_fall hx hy hlt]; rfl) | (rw [hI.all (by omega)]; rfl)) gv
 refine RunD.set (v := Bo false) (congrArg Bo hfa) ?_
 refine RunD.takeG 14 rfl rfl rfl rfl rfl kr (DetJ.fieldAddr F48_2 rfl) .nil ?_
 first | refine RunD.takeGF 15 rfl rfl rfl rfl kr T3 rfl pk (by rfl) ?_ | refine RunD.takeGO 15 rfl rfl rfl rfl kr T3 rfl pk (by assumption) (by rfl) (by exact fun _ => rfl) ?_
 refine RunD.opG 16 [false, false, false, false, true, true, true, true] rfl rfl rfl rfl rfl kr kr (OpJ.callRet C122 rfl rfl (c_sfar _) .nil ⟨po, ?_⟩)
 refine tk 17 rfl rfl rfl (DetJ.pickF rfl rfl) ?_
 refine tk 18 rfl rfl rfl (DetJ.move rfl) ?_
 rcases Bool.eq_false_or_eq_true (largeB x.base) with hfb | hfb
 refine RunD.set (v := Bo true) (congrArg Bo hfb) ?_
 refine RunD.takeN 19 rfl rfl rfl rfl rfl kr ?_
 refine RunD.takeN 20 rfl rfl rfl rfl rfl kr ?_
 refine RunD.takeN 21 rfl rfl rfl rfl rfl kr ?_
 refine RunD.takeU 22 rfl rfl rfl rfl rfl ?_
 refine RunD.takeU 23 rfl rfl rfl rfl rfl ?_
 refine RunD.takeU 24 rfl rfl rfl rfl rfl ?_
 refine RunD.takeU 25 rfl rfl rfl rfl rfl ?_
 refine RunD.takeU 26 rfl rfl rfl rfl rfl ?_
 refine RunD.takeU 27 rfl rfl rfl rfl rfl ?_
 refine RunD.takeU 28 rfl rfl rfl rfl rfl ?_
 refine RunD.takeU 29 rfl rfl rfl rfl rfl ?_
 refine RunD.takeU 30 rfl rfl rfl rfl rfl ?_
 refine RunD.takeU 31 rfl rfl rfl rfl rfl ?_
 refine RunD.takeN 32 rfl rfl rfl rfl rfl kr ?_
 refine tk 33 rfl rfl rfl (DetJ.pickT rfl rfl) ?_
 refine kd [0, 5, 6, 7, 45] rfl ?_
 refine Run.true rfl ?_
 refine sr ?_
 refine asg rfl rfl ?_
 refine kp [2] rfl ?_
 refine Run.ret ?_
 exact ret_one (.tmp rfl .nil) (by first | (rw [sh_bad hx (cel_zero hz hz2)]; rfl) | (rw [sh_bad hx (cel_fara hfa)]; rfl) | (rw [sh_bad hx (cel_farb hfb)]; rfl) | (rw [sh_fall hx hy hlt]; rfl) | (rw [hI.all (by omega)]; rfl)) gv
 refine RunD.set (v := Bo false) (congrArg Bo hfb) ?_
 refine RunD.takeG 19 rfl rfl rfl rfl rfl kr (DetJ.move rfl) .nil ?_
 refine RunD.takeG 20 rfl rfl rfl rfl rfl kr (DetJ.gtr rfl rfl) .nil ?_
 refine RunD.takeG 21 rfl rfl rfl rfl rfl kr (DetJ.move rfl) .nil ?_
 by_cases hp : 0 < i
 obtain ⟨j, rfl⟩ : ∃ j, i = j + 1 := ⟨i - 1, by omega⟩
 obtain ⟨y, hy⟩ := get_ex (xs := s) (i := j) (by omega)
 have hkx : Rd (pt b4 (blk x.c 48)) ⟨b4, 0 + 0, none⟩ x.k.c := Rd.pre (vs := [I x.amt, I x.base]) Rd.whole
 have hkey : Rd R ⟨bx, ox + j * 7 + 0, none⟩ y.k.c := Rd.pre (vs := [I y.amt, I y.base]) (Rd.elem (enc := Cl.c) (k := 7) (fun _ => rfl) hrdx hy)
 refine RunD.set (congrArg Bo (decide_eq_true (by omega))) ?_
 refine RunD.takeG 22 rfl rfl rfl rfl rfl kr (DetJ.move rfl) .nil ?_
 refine RunD.takeG 23 rfl rfl rfl rfl rfl kr (DetJ.move rfl) .nil ?_
 first | refine RunD.takeG 24 rfl rfl rfl rfl rfl kr (DetJ.subI rfl rfl (by omega)) .nil ?_ | refine RunD.takeG 24 rfl rfl rfl rfl rfl kr (DetJ.sub rfl rfl) .nil ?_
 refine RunD.set (v := I (j : Int)) (congrArg I (by omega)) ?_
 refine RunD.takeG 25 rfl rfl rfl rfl rfl kr (DetJ.indexAddr S24 rfl rfl (by omega)) .nil ?_
 refine RunD.takeG 26 rfl rfl rfl rfl rfl kr (DetJ.fieldAddr F48_0 rfl) .nil ?_
 refine RunD.takeGR 27 rfl rfl rfl rfl kr T46 rfl pk hkey rfl ?_
 refine RunD.takeG 28 rfl rfl rfl rfl rfl kr (DetJ.fieldAddr F48_0 rfl) .nil ?_
 refine RunD.takeGR 29 rfl rfl rfl rfl kr T46 rfl pk hkx rfl ?_
 refine RunD.opG 30 [false, false, false, false, false, true, true, true, false, false, false, false, false, true, true, true, true] rfl rfl rfl rfl rfl kr kr (OpJ.callRet C123 rfl rfl (c_Cmp y.k x.k) .nil ⟨po, ?_⟩)
 refine RunD.takeG 31 rfl rfl rfl rfl rfl kr (DetJ.geq rfl rfl) .nil ?_
 refine RunD.takeG 32 rfl rfl rfl rfl rfl kr (DetJ.pickT rfl rfl) .nil ?_
 refine tk 33 rfl rfl rfl (DetJ.pickF rfl rfl) ?_
 by_cases hlt : cmpK y.k x.k < 0
 refine RunD.set (congrArg Bo (decide_eq_false (by omega))) ?_
 refine kd [0, 5, 6, 7, 45] rfl ?_
 refine Run.false rfl ?_
 refine Run.skip ?_
 refine Run.region ?_
 refine sx 2 ?_
 have hcel := cel_ok (x := x) hz3 hfa hfb
 exact RunL.next (Keep.sub (kt (ks := [0, 5, 6, 7]) rfl)) _ ⟨_, by omega, j + 2, rfl, by omega, (hI.step hx hcel fun j2 y2 e h2 => by { obtain rfl : j2 = j := (by omega); rw [hy] at h2; cases h2; exact hlt }), rfl, rfl⟩ gv
 refine RunD.set (congrArg Bo (decide_eq_true (by omega))) ?_
 refine kd [0, 5, 6, 7, 45] rfl ?_
 refine Run.true rfl ?_
 refine sr ?_
 refine asg rfl rfl ?_
 refine kp [2] rfl ?_
 refine Run.ret ?_
 exact ret_one (.tmp rfl .nil) (by first | (rw [sh_bad hx (cel_zero hz hz2)]; rfl) | (rw [sh_bad hx (cel_fara hfa)]; rfl) | (rw [sh_bad hx (cel_farb hfb)]; rfl) | (rw [sh_fall hx hy hlt]; rfl) | (rw [hI.all (by omega)]; rfl)) gv
 refine RunD.set (congrArg Bo (decide_eq_false (by omega))) ?_
 refine RunD.takeN 22 rfl rfl rfl rfl rfl kr ?_
 refine RunD.takeN 23 rfl rfl rfl rfl rfl kr ?_
 refine RunD.takeN 24 rfl rfl rfl rfl rfl kr ?_
 refine RunD.takeN 25 rfl rfl rfl rfl rfl kr ?_
 refine RunD.takeN 26 rfl rfl rfl rfl rfl kr ?_
 refine RunD.takeN 27 rfl rfl rfl rfl rfl kr ?_
 refine RunD.takeN 28 rfl rfl rfl rfl rfl kr ?_
 refine RunD.takeN 29 rfl rfl rfl rfl rfl kr ?_
 refine RunD.takeN 30 rfl rfl rfl rfl rfl kr ?_
 refine RunD.takeN 31 rfl rfl rfl rfl rfl kr ?_
 refine RunD.takeG 32 rfl rfl rfl rfl rfl kr (DetJ.pickF rfl rfl) .nil ?_
 refine tk 33 rfl rfl rfl (DetJ.pickF rfl rfl) ?_
 skip
 refine RunD.set (v := Bo false) rfl ?_
 refine kd [0, 5, 6, 7, 45] rfl ?_
 refine Run.false rfl ?_
 refine Run.skip ?_
 refine Run.region ?_
 refine sx 2 ?_
 have hcel := cel_ok (x := x) hz3 hfa hfb
 exact RunL.next (Keep.sub (kt (ks := [0, 5, 6, 7]) rfl)) _ ⟨_, by omega, i + 1, rfl, by omega, (hI.step hx hcel fun j2 y2 e h2 => absurd e (by omega)), rfl, rfl⟩ gv
 refine Run.exit ?_
 refine sr ?_
 refine asg rfl rfl ?_
 refine kp [2] rfl ?_
 refine Run.ret ?_
 exact ret_one (.tmp rfl .nil) (by first | (rw [sh_bad hx (cel_zero hz hz2)]; rfl) | (rw [sh_bad hx (cel_fara hfa)]; rfl) | (rw [sh_bad hx (cel_farb hfb)]; rfl) | (rw [sh_fall hx hy hlt]; rfl) | (rw [hI.all (by omega)]; rfl)) gv
theorem c_rof (oa : Option Addr) (cap : Nat) (xs : List Cl) (ent : ByteArray) (all : Bool) : AC Tryz.prog 52 ⟨[.slice oa xs.length cap, St ent, Bo all]⟩ (stars []) (Outs (fun _ : Nat × Nat × Nat => True) (fun y => .func (.func 94) ⟨[]⟩ ⟨[.pointer (some ⟨y.1, 0, none⟩), .pointer (some ⟨y.2.1, 0, none⟩), .pointer (some ⟨y.2.2, 0, none⟩)]⟩) (fun y => [pt y.1 (blk [.slice oa xs.length cap] 24), pt y.2.1 (blk [Bo all] 4), pt y.2.2 (blk [St ent] 9)])) := by
 refine AC.go Tryz.func52 rfl (Nat.le_of_ble_eq_true rfl) fun β => ?_
 refine sr ?_
 refine RunL.op rfl rfl (OpJ.box rfl rfl fun b3 => ?_)
 refine RunL.op rfl rfl (OpJ.box rfl rfl fun b4 => ?_)
 refine RunL.op rfl rfl (OpJ.box rfl rfl fun b5 => ?_)
 refine asg rfl rfl ?_
 refine kp [3, 4, 5] rfl ?_
 refine sr ?_
 refine sx 2 ?_
 refine kp [6] rfl ?_
 refine Run.ret ?_
 exact ret_out (b3, b5, b4) (.tmp rfl .nil) trivial rfl gv
theorem c_rchk (p q : Nat) (R : HP) (oa : Option Addr) (cap : Nat) (s : List Cl) (hR : RdS R oa (s.flatMap Cl.c)) (hl : s.length ≤ 100000) : AC Tryz.prog 50 ⟨[.pointer (some ⟨p, 0, none⟩), .pointer (some ⟨q, 0, none⟩), .slice oa s.length cap]⟩ (stars [R]) (Ret (I (if shB s = true then 0 else 2)) [R]) := by
 refine AC.go Tryz.func50 rfl (Nat.le_of_ble_eq_true rfl) fun β => ?_
 refine sr ?_
 refine asg rfl rfl ?_
 refine kp [0, 1, 2] rfl ?_
 refine Run.seq ?_
 refine Run.block ?_
 refine sr ?_
 refine sx 7 ?_
 refine kp [2, 7] rfl ?_
 refine Run.false rfl ?_
 refine sr ?_
 refine mvo rfl rfl ?_
 refine RunL.call C87 rfl rfl rfl (c_shR R oa cap s hR hl) tks ?_
 refine sx 2 ?_
 refine kp [14] rfl ?_
 first | refine Run.if rfl (fun h1 => ?_) (fun h1 => ?_) | refine Run.cond rfl (fun h1 => ?_) (fun h1 => ?_)
 refine sr ?_
 refine asg rfl rfl ?_
 refine kp [6] rfl ?_
 refine Run.ret ?_
 exact ret_one (.tmp rfl .nil) (by simp_all; rfl) gv
 refine Run.skip ?_
 refine sr ?_
 refine asg rfl rfl ?_
 refine kp [6] rfl ?_
 refine Run.ret ?_
 exact ret_one (.tmp rfl .nil) (by simp_all; rfl) gv
theorem c_rvEntry (oa : Option Addr) (cap : Nat) (xs : List Cl) (ent : ByteArray) (cb cm : Nat) (v w : Value) (cs : List Ac) (hm6 : ∀ a ∈ cs, a.need.length ≤ 6) (b bm : Nat) (base : ByteArray) (n : Int) (m : List Sr) (l : List Rt) (hT : TabI m l) (hok : fxB base l = true) (on mode : Int) (gain loss : ByteArray) (R : HP) (m0 : Int) (hR0 : Rd R ⟨0, 0, none⟩ lensC) (hM : Rd R ⟨1, 0, none⟩ [I m0]) (hR : RdS R oa (xs.flatMap Cl.c)) (hl : xs.length ≤ 500) (hxz : ∀ x ∈ xs, ClQ x) (hbz : (base.size : Int) ≤ 9223372036854775807) (book : Int) (who : ByteArray) : AC Tryz.prog 27 ⟨[.pointer (some ⟨cb, 0, none⟩), .pointer (some ⟨b, 0, none⟩), .slice oa xs.length cap, St ent, I on, I book, I mode, St gain, St loss, St who]⟩ (stars [pt cb (blk [.map (some cm), v, w] 97), amap cm acF acG cs, big (ndH 9) cs, pt b (blk [St base, I n, .map (some bm)] 103), amap bm srF srG m, big (srH 107) m, R]) (Outs (fun y : En => y.e = ((⟨cs, base, l, on, mode, gain, loss⟩ : Rv).entry xs ent who book).1) (fun y => .tuple ⟨[.agg ⟨y.c⟩, I ((⟨cs, base, l, on, mode, gain, loss⟩ : Rv).entry xs ent who book).2]⟩) (fun y => [own 40 7 y.la y.lines.length y.lc (y.lines.flatMap Ln.c), big (tagH 83) y.lines, pt cb (blk [.map (some cm), v, w] 97), amap cm acF acG cs, big (ndH 9) cs, pt b (blk [St base, I n, .map (some bm)] 103), amap bm srF srG m, big (srH 107) m, R])) := by
 refine AC.go Tryz.func27 rfl (Nat.le_of_ble_eq_true rfl) fun β => ?_
 refine sr ?_
 refine RunL.op rfl rfl (OpJ.alloc Z30 fun b20 => ?_)
 refine asg rfl rfl ?_
 refine kp [0, 1, 2, 3, 4, 5, 6, 7, 8, 9, 20] rfl ?_
 refine Run.seq ?_
 refine sr ?_
 refine sx 3 ?_
 refine RunL.call C50 rfl rfl rfl (c_rchk cb b R oa cap xs hR (by omega)) tks ?_
 refine asg rfl rfl ?_
 refine kp [0, 1, 2, 3, 4, 5, 6, 7, 8, 9, 20, 22] rfl ?_
 refine sr ?_
 refine sx 2 ?_
 refine kp [0, 1, 2, 3, 4, 5, 6, 7, 8, 9, 20, 22, 31] rfl ?_
 first | refine Run.if rfl (fun h1 => ?_) (fun h1 => ?_) | refine Run.cond rfl (fun h1 => ?_) (fun h1 => ?_)
 refine sr ?_
 refine RunL.ownNil 40 7 ?_
 refine RunL.bigNil (tagH 83) ?_
 refine sx 2 ?_
 refine RunL.op rfl rfl (OpJ.storeW T30 rfl rfl rfl rfl (by simp [Value.oneCell', Tg.c, Ln.c, En.c, Ac.c, Cl.c, Ky.c, Qy.c, Sb, Iv, Cs.c, Rt.c]) up ?_)
 refine asg rfl rfl ?_
 refine kp [20, 21] rfl ?_
 refine Run.ret ?_
 have hsh : shB xs = false := (by cases hq : shB xs <;> simp_all)
 rw [rve_sh hsh, hsh]
 exact ret_out en0 (.cellA T30 rfl pk (by rfl) (.tmp rfl .nil)) rfl rfl gv
 refine Run.skip ?_
 refine sr ?_
 have hsh : shB xs = true := by cases hq : shB xs <;> simp_all
 have hcz := ClQ.sz hxz hsh
 refine sx 4 ?_
 refine RunL.callX C52 rfl rfl rfl (c_rof oa cap xs ent false) tks fun ⟨y1, y2, y3⟩ _ => ?_
 refine RunL.packs [pt y1 (blk [.slice oa xs.length cap] 24), pt y2 (blk [Bo false] 4), pt y3 (blk [St ent] 9)] tks ?_
 refine sx 4 ?_
 refine RunL.callX C51 rfl rfl rfl (c_lines y1 y2 y3 oa cap xs false ent cb cm v w cs hm6 b bm base n m l hT hok on mode gain loss R m0 hR0 hM hR (by omega) hcz hbz) tks fun ⟨a41, c41, l41⟩ hgo => ?_
 refine sx 5 ?_
 refine kp [3, 4, 5, 9, 20, 21, 23] rfl ?_
 refine Run.seq ?_
 refine sr ?_
 rw [sel_ent] at hgo
 rw [sel_ent]
 refine sx 2 ?_
 refine kp [3, 4, 5, 9, 20, 21, 23, 48] rfl ?_
 first | refine Run.if rfl (fun h2 => ?_) (fun h2 => ?_) | refine Run.cond rfl (fun h2 => ?_) (fun h2 => ?_)
 refine sr ?_
 refine RunL.ownNil 40 7 ?_
 refine RunL.bigNil (tagH 83) ?_
 refine sx 2 ?_
 refine RunL.op rfl rfl (OpJ.storeW T30 rfl rfl rfl rfl (by simp [Value.oneCell', Tg.c, Ln.c, En.c, Ac.c, Cl.c, Ky.c, Qy.c, Sb, Iv, Cs.c, Rt.c]) up ?_)
 refine asg rfl rfl ?_
 refine kp [20, 21] rfl ?_
 refine Run.ret ?_
 rw [rve_go (p := (⟨cs, base, l, on, mode, gain, loss⟩ : Rv)) hsh (by simpa using h2)]
 exact ret_out en0 (.cellA T30 rfl pk (by rfl) (.tmp rfl .nil)) rfl rfl gv
 refine Run.skip ?_
 refine sr ?_
 have hsz : ∀ x ∈ ofE ent xs, ClSz x := fun x hx => hcz x (List.mem_filter.1 hx).1
 have hgk := go_ok (p := (⟨cs, base, l, on, mode, gain, loss⟩ : Rv)) (l := ofE ent xs) hsz
 have hok1 := ok_e hgo hgk.1
 have hln : l41.length = _ := e_len hgo
 have hof : (ofE ent xs).length ≤ xs.length := List.length_filter_le ..
 refine mvo rfl rfl ?_
 refine RunL.packs [own 40 7 a41 l41.length c41 (l41.flatMap Ln.c), big (tagH 83) l41, R] tks ?_
 refine RunL.callX C55 rfl rfl rfl (c_Merge (stars [own 40 7 a41 l41.length c41 (l41.flatMap Ln.c), big (tagH 83) l41, R]) a41 c41 l41 (RdS.inl own.rds) (by omega) (fun z hz => ⟨RdS.inr (RdS.inl (big_rds (f := tagH 83) hz own.rds)), (hok1 z hz).s, Nat.le_trans (hok1 z hz).len (by decide)⟩) (fun z hz => ⟨by rw [(hok1 z hz).amt]; decide, by have := (hok1 z hz).base; unfold i64; omega⟩)) tks fun ⟨a42, c42, l42⟩ hmg => ?_
 refine RunL.unstar (As := [own 40 7 a41 l41.length c41 (l41.flatMap Ln.c), big (tagH 83) l41, R]) pk ?_
 refine sx 5 ?_
 refine kp [3, 4, 5, 9, 20, 21, 23] rfl ?_
 refine Run.seq ?_
 refine Run.block ?_
 refine sr ?_
 refine sx 3 ?_
 refine kp [3, 4, 5, 9, 20, 21, 23, 56] rfl ?_
 first | refine Run.if rfl (fun h3 => ?_) (fun h3 => ?_) | refine Run.cond rfl (fun h3 => ?_) (fun h3 => ?_)
 refine sr ?_
 refine RunL.ownNil 40 7 ?_
 refine RunL.bigNil (tagH 83) ?_
 refine sx 2 ?_
 refine RunL.op rfl rfl (OpJ.storeW T30 rfl rfl rfl rfl (by simp [Value.oneCell', Tg.c, Ln.c, En.c, Ac.c, Cl.c, Ky.c, Qy.c, Sb, Iv, Cs.c, Rt.c]) up ?_)
 refine asg rfl rfl ?_
 refine kp [20, 21] rfl ?_
 refine Run.ret ?_
 rw [rve_mg (p := (⟨cs, base, l, on, mode, gain, loss⟩ : Rv)) hsh (by simpa using h2) hgo (by simpa using h3)]
 exact ret_out en0 (.cellA T30 rfl pk (by rfl) (.tmp rfl .nil)) rfl rfl gv
 refine sr ?_
 refine sx 4 ?_
 refine kp [3, 4, 5, 9, 20, 23, 61] rfl ?_
 first | refine Run.if rfl (fun h4 => ?_) (fun h4 => ?_) | refine Run.cond rfl (fun h4 => ?_) (fun h4 => ?_)
 refine sr ?_
 refine RunL.ownNil 40 7 ?_
 refine RunL.bigNil (tagH 83) ?_
 refine sx 1 ?_
 refine RunL.op rfl rfl (OpJ.storeW T30 rfl rfl rfl rfl (by simp [Value.oneCell', Tg.c, Ln.c, En.c, Ac.c, Cl.c, Ky.c, Qy.c, Sb, Iv, Cs.c, Rt.c]) up ?_)
 refine asg rfl rfl ?_
 refine kp [20, 21] rfl ?_
 refine Run.ret ?_
 rw [rve_no (p := (⟨cs, base, l, on, mode, gain, loss⟩ : Rv)) hsh (by simpa using h2) hgo (by simpa using h3) (by have h9 : l42.length = (mergeL l41).1.length := e_len hmg; have h10 : l42.length = 0 := (by first | omega | simpa using h4); exact List.eq_nil_of_length_eq_zero (show (mergeL l41).1.length = 0 by omega))]
 exact ret_out en0 (.cellA T30 rfl pk (by rfl) (.tmp rfl .nil)) rfl rfl gv
 refine Run.skip ?_
 refine sr ?_
 refine sx 6 ?_
 refine RunL.op rfl rfl (OpJ.storeW T30 rfl rfl rfl rfl (by simp [Value.oneCell', Tg.c, Ln.c, En.c, Ac.c, Cl.c, Ky.c, Qy.c, Sb, Iv, Cs.c, Rt.c]) up ?_)
 refine kp [20] rfl ?_
 refine Run.seq ?_
 refine sr ?_
 have hok2 := merge_rd hok1 hmg
 refine sx 1 ?_
 refine RunL.packs [own 40 7 a42 l42.length c42 (l42.flatMap Ln.c), big (tagH 83) l42, R] tks ?_
 refine RunL.call C56 rfl rfl rfl (c_Check (⟨0, ent, book, on, 6, bs0, who, 0, a42, c42, l42⟩ : En) (stars [own 40 7 a42 l42.length c42 (l42.flatMap Ln.c), big (tagH 83) l42, R]) (en_R0 hR0) ⟨RdS.inl own.rds, fun z hz => ⟨RdS.inr (RdS.inl (big_rds (f := tagH 83) hz own.rds)), hok2 z hz⟩⟩) tks ?_
 refine RunL.unstar (As := [own 40 7 a42 l42.length c42 (l42.flatMap Ln.c), big (tagH 83) l42, R]) pk ?_
 refine sx 5 ?_
 refine kp [20, 25] rfl ?_
 refine sr ?_
 refine sx 2 ?_
 refine kp [20, 25, 78] rfl ?_
 first | refine Run.if rfl (fun h5 => ?_) (fun h5 => ?_) | refine Run.cond rfl (fun h5 => ?_) (fun h5 => ?_)
 refine sr ?_
 refine RunL.ownNil 40 7 ?_
 refine RunL.bigNil (tagH 83) ?_
 refine sx 2 ?_
 refine RunL.op rfl rfl (OpJ.storeW T30 rfl rfl rfl rfl (by simp [Value.oneCell', Tg.c, Ln.c, En.c, Ac.c, Cl.c, Ky.c, Qy.c, Sb, Iv, Cs.c, Rt.c]) up ?_)
 refine asg rfl rfl ?_
 refine kp [20, 21] rfl ?_
 refine Run.ret ?_
 have hE := rve_fin (p := (⟨cs, base, l, on, mode, gain, loss⟩ : Rv)) (la := a42) (lc := c42) (ent := ent) (who := who) (book := book) hsh (by simpa using h2) hgo (by simpa using h3) hmg (by omega)
 rw [if_neg (by simpa using h5)] at hE
 rw [hE]
 exact ret_out en0 (.cellA T30 rfl pk (by rfl) (.tmp rfl .nil)) rfl rfl gv
 refine Run.skip ?_
 refine sr ?_
 refine sx 1 ?_
 refine RunL.op rfl rfl (OpJ.storeW T30 rfl rfl rfl rfl (by simp [Value.oneCell', Tg.c, Ln.c, En.c, Ac.c, Cl.c, Ky.c, Qy.c, Sb, Iv, Cs.c, Rt.c]) up ?_)
 refine asg rfl rfl ?_
 refine kp [20, 21] rfl ?_
 refine Run.ret ?_
 have hE := rve_fin (p := (⟨cs, base, l, on, mode, gain, loss⟩ : Rv)) (la := a42) (lc := c42) (ent := ent) (who := who) (book := book) hsh (by simpa using h2) hgo (by simpa using h3) hmg (by omega)
 rw [if_pos (by simpa using h5)] at hE
 rw [hE]
 exact ret_out (⟨0, ent, book, on, 6, bs0, who, 0, a42, c42, l42⟩ : En) (.cellA T30 rfl pk (by rfl) (.tmp rfl .nil)) rfl rfl gv
theorem c_rchkC (q : Option Addr) (sv : Value) : AC Tryz.prog 50 ⟨[.pointer none, .pointer q, sv]⟩ (stars []) (Ret (I 1) []) := by
 refine AC.go Tryz.func50 rfl (Nat.le_of_ble_eq_true rfl) fun β => ?_
 refine sr ?_
 refine asg rfl rfl ?_
 refine kp [0, 1, 2] rfl ?_
 refine Run.seq ?_
 refine Run.block ?_
 refine sr ?_
 refine sx 7 ?_
 refine kp [2, 7] rfl ?_
 refine Run.true rfl ?_
 refine sr ?_
 refine asg rfl rfl ?_
 refine kp [6] rfl ?_
 refine Run.ret ?_
 exact ret_one (.tmp rfl .nil) (rfl) gv
theorem c_rchkT (p : Nat) (sv : Value) : AC Tryz.prog 50 ⟨[.pointer (some ⟨p, 0, none⟩), .pointer none, sv]⟩ (stars []) (Ret (I 1) []) := by
 refine AC.go Tryz.func50 rfl (Nat.le_of_ble_eq_true rfl) fun β => ?_
 refine sr ?_
 refine asg rfl rfl ?_
 refine kp [0, 1, 2] rfl ?_
 refine Run.seq ?_
 refine Run.block ?_
 refine sr ?_
 refine sx 7 ?_
 refine kp [2, 7] rfl ?_
 refine Run.true rfl ?_
 refine sr ?_
 refine asg rfl rfl ?_
 refine kp [6] rfl ?_
 refine Run.ret ?_
 exact ret_one (.tmp rfl .nil) (rfl) gv
theorem c_rEntryC (q : Option Addr) (sv : Value) (ent : ByteArray) (on book mode : Int) (gain loss who : ByteArray) : AC Tryz.prog 27 ⟨[.pointer none, .pointer q, sv, St ent, I on, I book, I mode, St gain, St loss, St who]⟩ (stars []) (Ret (.tuple ⟨[.agg ⟨en0.c⟩, I 1]⟩) []) := by
 refine AC.go Tryz.func27 rfl (Nat.le_of_ble_eq_true rfl) fun β => ?_
 refine sr ?_
 refine RunL.op rfl rfl (OpJ.alloc Z30 fun b20 => ?_)
 refine asg rfl rfl ?_
 refine kp [0, 1, 2, 3, 4, 5, 6, 7, 8, 9, 20] rfl ?_
 refine Run.seq ?_
 refine sr ?_
 refine sx 3 ?_
 refine RunL.call C50 rfl rfl rfl (c_rchkC q sv) .nil ?_
 refine asg rfl rfl ?_
 refine kp [0, 1, 2, 3, 4, 5, 6, 7, 8, 9, 20, 22] rfl ?_
 refine sr ?_
 refine sx 2 ?_
 refine kp [0, 1, 2, 3, 4, 5, 6, 7, 8, 9, 20, 22, 31] rfl ?_
 refine Run.true rfl ?_
 refine sr ?_
 refine sx 2 ?_
 refine RunL.op rfl rfl (OpJ.storeW T30 rfl rfl rfl rfl (by simp [Value.oneCell', Tg.c, Ln.c, En.c, Ac.c, Cl.c, Ky.c, Qy.c, Sb, Iv, Cs.c, Rt.c]) up ?_)
 refine asg rfl rfl ?_
 refine kp [20, 21] rfl ?_
 refine Run.ret ?_
 exact ret_one (.cellA T30 rfl pk (by rfl) (.tmp rfl .nil)) (rfl) gv
theorem c_rEntryT (p : Nat) (sv : Value) (ent : ByteArray) (on book mode : Int) (gain loss who : ByteArray) : AC Tryz.prog 27 ⟨[.pointer (some ⟨p, 0, none⟩), .pointer none, sv, St ent, I on, I book, I mode, St gain, St loss, St who]⟩ (stars []) (Ret (.tuple ⟨[.agg ⟨en0.c⟩, I 1]⟩) []) := by
 refine AC.go Tryz.func27 rfl (Nat.le_of_ble_eq_true rfl) fun β => ?_
 refine sr ?_
 refine RunL.op rfl rfl (OpJ.alloc Z30 fun b20 => ?_)
 refine asg rfl rfl ?_
 refine kp [0, 1, 2, 3, 4, 5, 6, 7, 8, 9, 20] rfl ?_
 refine Run.seq ?_
 refine sr ?_
 refine sx 3 ?_
 refine RunL.call C50 rfl rfl rfl (c_rchkT p sv) .nil ?_
 refine asg rfl rfl ?_
 refine kp [0, 1, 2, 3, 4, 5, 6, 7, 8, 9, 20, 22] rfl ?_
 refine sr ?_
 refine sx 2 ?_
 refine kp [0, 1, 2, 3, 4, 5, 6, 7, 8, 9, 20, 22, 31] rfl ?_
 refine Run.true rfl ?_
 refine sr ?_
 refine sx 2 ?_
 refine RunL.op rfl rfl (OpJ.storeW T30 rfl rfl rfl rfl (by simp [Value.oneCell', Tg.c, Ln.c, En.c, Ac.c, Cl.c, Ky.c, Qy.c, Sb, Iv, Cs.c, Rt.c]) up ?_)
 refine asg rfl rfl ?_
 refine kp [20, 21] rfl ?_
 refine Run.ret ?_
 exact ret_one (.cellA T30 rfl pk (by rfl) (.tmp rfl .nil)) (rfl) gv
end
set_option maxHeartbeats 400000 in
set_option maxHeartbeats 400000 in
theorem c_EntO41 (o : Option Chv) (u : Option Fxv) (cs : List Ac) (base : ByteArray) (l : List Rt) (hs : ChOk o cs) (hu : FxOk u base l) (oa : Option Addr) (cap : Nat) (xs : List Cl) (on mode : Int) (gain loss : ByteArray) (R : HP) (m0 : Int) (hR0 : Rd R ⟨0, 0, none⟩ lensC) (hM : Rd R ⟨1, 0, none⟩ [I m0]) (hR : RdS R oa (xs.flatMap Cl.c)) (hl : xs.length ≤ 500) (hxz : ∀ x ∈ xs, ClQ x) (hbz : (base.size : Int) ≤ 9223372036854775807) (ent : ByteArray) (book : Int) (who : ByteArray) : AC Tryz.prog 27 ⟨[chV o, fxV u, .slice oa xs.length cap, St ent, I on, I book, I mode, St gain, St loss, St who]⟩ (stars [chH 97 9 o, fxH 103 107 u, R]) (Outs (fun y : En => y.e = (reX o u (⟨cs, base, l, on, mode, gain, loss⟩ : Rv) xs ent who book).1) (fun y => .tuple ⟨[.agg ⟨y.c⟩, I (reX o u (⟨cs, base, l, on, mode, gain, loss⟩ : Rv) xs ent who book).2]⟩) (fun y => [own 40 7 y.la y.lines.length y.lc (y.lines.flatMap Ln.c), big (tagH 83) y.lines, chH 97 9 o, fxH 103 107 u, R])) := by
  cases o with
  | none =>
    rw [reX_no (fun h => absurd h.1 (by decide)), show chV none = .pointer none from rfl, show fxV u = .pointer (u.map fun y => ⟨y.b, 0, none⟩) from rfl]
    have h1 := c_rEntryC (u.map fun y => ⟨y.b, 0, none⟩) (.slice oa xs.length cap) ent on book mode gain loss who
    refine AC.addF h1 en0 ?_ ?_ ?_
    · rfl
    · rfl
    · exact Imp.trans (Imp.bigNil' (tagH 83)) (Imp.ownNil _ _)
  | some c =>
    cases u with
    | none =>
      rw [reX_no (fun h => absurd h.2 (by decide)), show chV (some c) = .pointer (some ⟨c.b, 0, none⟩) from rfl, show fxV none = .pointer none from rfl]
      have h1 := c_rEntryT c.b (.slice oa xs.length cap) ent on book mode gain loss who
      refine AC.addF h1 en0 ?_ ?_ ?_
      · rfl
      · rfl
      · exact Imp.trans (Imp.bigNil' (tagH 83)) (Imp.ownNil _ _)
    | some z =>
      obtain ⟨rfl, hT⟩ := hu.1 z rfl
      rw [show reX (some c) (some z) (⟨cs, z.base, l, on, mode, gain, loss⟩ : Rv) xs ent who book = (⟨c.m, z.base, l, on, mode, gain, loss⟩ : Rv).entry xs ent who book from by unfold reX; rw [if_pos ⟨rfl, rfl⟩, ← rve_st (p := (⟨cs, z.base, l, on, mode, gain, loss⟩ : Rv)) (hs.1 c rfl)]; rfl, show chV (some c) = .pointer (some ⟨c.b, 0, none⟩) from rfl, show fxV (some z) = .pointer (some ⟨z.b, 0, none⟩) from rfl]
      have h1 := c_rvEntry oa cap xs ent c.b c.bm c.v c.w c.m hs.need z.b z.bm z.base z.n z.m l hT (hu.2 rfl) on mode gain loss R m0 hR0 hM hR hl hxz hbz book who
      refine AC.pre (AC.outs h1 fun y hy => ⟨y, hy, rfl, cf_out⟩) fun h hh => cf_in hh
section
attribute [local irreducible] OpJ RunL Run RunD DetJ pt own star Rd RdS
end
theorem c_NewO41 (R : HP) (oa : Option Addr) (cap : Nat) (xs : List Ac) (hR : RdS R oa (xs.flatMap Ac.c)) (hrd : ∀ a ∈ xs, a.rd R) (hl : xs.length ≤ 140737488355328) : AC Tryz.prog 22 ⟨[.slice oa xs.length cap]⟩ (stars [R]) (Outs (fun y : Option Chv × Int × Int => y.1.isSome = chartB xs ∧ ChOk y.1 xs) (fun y => .tuple ⟨[chV y.1, I y.2.1, I y.2.2]⟩) (fun y => [chH 97 9 y.1, R])) :=
  AC.outs (c_New R oa cap xs hR hrd hl) fun y hy => by
    by_cases hc : chartB xs = true
    · rw [if_pos hc, if_pos hc]
      exact ⟨(some y.1, 0, 0), ⟨hc.symm, (fun c e => by cases e; exact hy hc), fun _ => hc⟩, rfl, Imp.pack0 (As := [_, _, _])⟩
    · rw [if_neg hc, if_neg hc]
      exact ⟨(none, y.2), ⟨by simp at hc; rw [hc]; rfl, (fun c e => by cases e), fun h => by cases h⟩, rfl, Imp.emp⟩
section
attribute [local irreducible] OpJ RunL Run RunD DetJ pt own star Rd RdS
theorem c_large41 (x : Rk) (R : HP) (hx : x.rd R) : AC Tryz.prog 8 ⟨[.agg ⟨x.c⟩]⟩ (stars [R]) (Outs (fun b : Bool => b = false → x.few) (fun b => Bo b) (fun _ => [R])) := by
 obtain ⟨hxr, hxe, hxl, hrr, hre, hrl, hcr, hce, hcl, hid, hib, him, hzb, hze, hzg, hzl, hzw⟩ := hx
 refine AC.go Tryz.func8 rfl (Nat.le_of_ble_eq_true rfl) fun β => ?_
 refine sr ?_
 refine RunL.op rfl rfl (OpJ.boxA rfl fun b1 => ?_)
 refine asg rfl rfl ?_
 refine kp [1] rfl ?_
 refine sr ?_
 refine sx 5 ?_
 first | refine RunL.splitP (t := 7) rfl (fun g1 => ?_) (fun g1 => ?_) | refine RunL.split (t := 7) rfl (fun g1 => ?_) (fun g1 => ?_)
 refine sx 12 ?_
 refine kp [2] rfl ?_
 refine Run.ret ?_
 exact ret_out true (.tmp rfl .nil) (fun h => by cases h) rfl gv
 refine sx 6 ?_
 first | refine RunL.splitP (t := 13) rfl (fun g2 => ?_) (fun g2 => ?_) | refine RunL.split (t := 13) rfl (fun g2 => ?_) (fun g2 => ?_)
 refine sx 6 ?_
 refine kp [2] rfl ?_
 refine Run.ret ?_
 exact ret_out true (.tmp rfl .nil) (fun h => by cases h) rfl gv
 refine sx 6 ?_
 refine kp [2] rfl ?_
 refine Run.ret ?_
 exact ret_out (decide ((60 : Int) < x.cs.length)) (.tmp rfl .nil) (fun h => ⟨by omega, by omega, by have := of_decide_eq_false h; omega⟩) rfl gv
theorem c_run41 (x : Rk) (R : HP) (m0 : Int) (hR0 : Rd R ⟨0, 0, none⟩ lensC) (hM : Rd R ⟨1, 0, none⟩ [I m0]) (hx : x.rd R) (hf : x.few) : AC Tryz.prog 9 ⟨[.agg ⟨x.c⟩]⟩ (stars [R]) (Outs (fun y : En => y.e = x.run.1) (fun y => .tuple ⟨[.agg ⟨y.c⟩, I x.run.2]⟩) (fun y => [own 40 7 y.la y.lines.length y.lc (y.lines.flatMap Ln.c), big (tagH 83) y.lines, R])) := by
 have hf3 := hf.cs
 obtain ⟨hxr, hxe, hxl, hrr, hre, hrl, hcr, hce, hcl, hid, hib, him, hzb, hze, hzg, hzl, hzw⟩ := hx
 refine AC.go Tryz.func9 rfl (Nat.le_of_ble_eq_true rfl) fun β => ?_
 refine sr ?_
 refine RunL.op rfl rfl (OpJ.boxA rfl fun b1 => ?_)
 refine RunL.op rfl rfl (OpJ.alloc Z30 fun b2 => ?_)
 refine asg rfl rfl ?_
 refine kp [1, 2] rfl ?_
 refine sr ?_
 refine sx 2 ?_
 refine RunL.callX C22 rfl rfl rfl (c_NewO41 R _ _ x.xs hxr (fun a ha => (hxe a ha).1) hxl) tks fun ⟨o, p1, p2⟩ ⟨ho1, ho2⟩ => ?_
 refine sx 7 ?_
 refine kp [1, 2, 4] rfl ?_
 refine sr ?_
 refine sx 4 ?_
 refine RunL.callX C23 rfl rfl rfl (c_fxNew R hR0 x.base hzb _ _ x.rs hrr (fun r hr => ⟨(hre r hr).cur, (hre r hr).n, (hre r hr).d⟩) hrl) tks fun ⟨u, q1, q2⟩ ⟨hu1, hu2⟩ => ?_
 refine sx 7 ?_
 refine kp [1, 2, 4, 7] rfl ?_
 refine sr ?_
 refine sx 18 ?_
 refine RunL.callX C27 rfl rfl rfl (c_EntO41 o u x.xs x.base x.rs ho2 hu2 _ _ x.cs x.day x.mode x.gain x.loss R m0 hR0 hM hcr (by omega) (fun c hc => (hce c hc).q) hzb x.ent x.book x.who) tks fun y hye => ?_
 rw [run_of ho1 hu1] at hye
 rw [run_of ho1 hu1]
 refine sx 2 ?_
 refine RunL.op rfl rfl (OpJ.storeW T30 rfl rfl rfl rfl (by simp [Value.oneCell', Tg.c, Ln.c, En.c, Ac.c, Cl.c, Ky.c, Qy.c, Sb, Iv, Cs.c, Rt.c, Rk.c]) up ?_)
 refine asg rfl rfl ?_
 refine kp [2, 3] rfl ?_
 refine Run.ret ?_
 exact ret_out y (.cellA T30 rfl pk (by rfl) (.tmp rfl .nil)) hye rfl gv
theorem c_ex41 : AC Tryz.prog 30 ⟨[]⟩ (stars []) (Outs (fun _ : Nat × Nat × Nat => True) (fun y => .agg ⟨(exK y.1 y.2.1 y.2.2).c⟩) (fun y => [pt y.1 (blk (xsK.flatMap Ac.c) 78), pt y.2.1 (blk (rsK.flatMap Rt.c) 107), pt y.2.2 (blk (csK.flatMap Cl.c) 48)])) := by
 refine AC.go Tryz.func30 rfl (Nat.le_of_ble_eq_true rfl) fun β => ?_
 refine sr ?_
 refine RunL.op rfl rfl (OpJ.alloc Z26 fun b0 => ?_)
 refine kp [0] rfl ?_
 refine sr ?_
 refine sx 3 ?_
 refine RunL.op rfl rfl (OpJ.buildSliceN (cs := xsK.flatMap Ac.c) inferInstance Z78 rfl (by decide) (by decide) rfl (by rfl) (by rfl) fun b6 => ?_)
 refine asg rfl rfl ?_
 refine kp [0, 1] rfl ?_
 refine sr ?_
 refine sx 6 ?_
 refine RunL.op rfl rfl (OpJ.buildSliceN (cs := csK.flatMap Cl.c) inferInstance Z48 rfl (by decide) (by decide) rfl (by rfl) (by rfl) fun b13 => ?_)
 refine asg rfl rfl ?_
 refine kp [0, 1, 2] rfl ?_
 refine sr ?_
 refine sx 3 ?_
 refine RunL.op rfl rfl (OpJ.buildSlice1 S23 rfl rfl rfl (by decide) (by decide) Z107 rfl fun b17 => ?_)
 refine sx 2 ?_
 refine RunL.op rfl rfl (OpJ.storeW T26 rfl rfl rfl rfl (by simp [Value.oneCell', Tg.c, Ln.c, En.c, Ac.c, Cl.c, Ky.c, Qy.c, Sb, Iv, Cs.c, Rt.c, Rk.c]) up ?_)
 refine kp [0] rfl ?_
 refine Run.ret ?_
 exact ret_out (b6, b17, b13) (.cellA T26 rfl pk (by rfl) .nil) trivial rfl gv
end
instance cEq : CEq Tryz.prog 48 := .of Tryz.underlying48 (by kernel_rfl) (by kernel_rfl) ⟨by decide, rfl, rfl⟩ ⟨by decide, rfl, rfl⟩ ⟨by decide, rfl, rfl⟩ Tryz.underlying46 (by kernel_rfl) (by decide) (by kernel_rfl) (by kernel_rfl) (by kernel_rfl)
section
attribute [local irreducible] OpJ RunL Run RunD DetJ pt own star Rd RdS
theorem c_lives41 (R : HP) (m0 : Int) (hR0 : Rd R ⟨0, 0, none⟩ lensC) (hM : Rd R ⟨1, 0, none⟩ [I m0]) : AC Tryz.prog 12 ⟨[]⟩ (stars [R]) (Ret (Bo true) [R]) := by
 refine AC.go Tryz.func12 rfl (Nat.le_of_ble_eq_true rfl) fun β => ?_
 refine sr ?_
 refine asg rfl rfl ?_
 refine kp [] rfl ?_
 refine sr ?_
 refine RunL.callX C30 rfl rfl rfl c_ex41 tks fun ⟨b6, b17, b13⟩ _ => ?_
 refine RunL.packs [pt b6 (blk (xsK.flatMap Ac.c) 78), pt b17 (blk (rsK.flatMap Rt.c) 107), pt b13 (blk (csK.flatMap Cl.c) 48), R] tks ?_
 refine RunL.callX C9 rfl rfl rfl (c_run41 (exK b6 b17 b13) (exR 78 107 48 b6 b17 b13 R) m0 (exk_0 hR0) (exk_1 hM) exk_rd exk_few) tks fun y hye => ?_
 refine RunL.unstar (As := [pt b6 (blk (xsK.flatMap Ac.c) 78), pt b17 (blk (rsK.flatMap Rt.c) 107), pt b13 (blk (csK.flatMap Cl.c) 48), R]) pk ?_
 obtain ⟨hv, hk, hb, hl⟩ := livk_lines hye
 obtain ⟨hl2, hlt⟩ := livk_sz hl
 clear hye
 obtain ⟨yno, yent, ybook, yvalue, ykind, yref, ywho, yrev, yla, ylc, ylines⟩ := y
 dsimp only at hv hk hb hl hl2 hlt
 subst hv hk hb
 rw [liv_run]
 refine sx 3 ?_
 refine RunL.op rfl rfl (OpJ.alloc Z30 fun b1 => ?_)
 refine RunL.op rfl rfl (OpJ.storeW T30 rfl rfl rfl rfl (by simp [Value.oneCell', Tg.c, Ln.c, En.c, Ac.c, Cl.c, Ky.c, Qy.c, Sb, Iv, Cs.c, Rt.c, Rk.c]) up ?_)
 refine asg rfl rfl ?_
 refine kp [1, 2] rfl ?_
 refine sr ?_
 refine sx 2 ?_
 refine RunL.op rfl rfl (OpJ.buildSliceN (cs := lnK.flatMap Ln.c) inferInstance Z40 rfl (by decide) (by decide) rfl (by rfl) (by rfl) fun b11 => ?_)
 refine asg rfl rfl ?_
 refine kp [1, 2, 3] rfl ?_
 refine sr ?_
 refine sx 2 ?_
 refine RunL.set (v := Bo true) (rfl) ?_
 refine sx 4 ?_
 refine RunL.packs [own 40 7 yla ylines.length ylc (ylines.flatMap Ln.c), big (tagH 83) ylines] tks ?_
 refine RunL.callG C26 rfl rfl rfl rfl rfl (c_r12lines (stars [own 40 7 yla ylines.length ylc (ylines.flatMap Ln.c), big (tagH 83) ylines]) (pt b11 (blk (lnK.flatMap Ln.c) 40)) _ _ _ _ ylines lnK hl (RdS.inl own.rds) (Rd.rds Rd.whole) (fun z hz => RdS.inr (RdS.inl (big_rds (f := tagH 83) hz own.rds))) lnk_rds (by omega) (fun z hz => by rw [hlt z hz]; exact Nat.zero_le _)) tks ?_
 refine RunL.unstar (As := [own 40 7 yla ylines.length ylc (ylines.flatMap Ln.c), big (tagH 83) ylines]) pk ?_
 refine sx 5 ?_
 refine RunL.set (v := Bo true) (rfl) ?_
 refine sx 5 ?_
 refine RunL.set (v := Bo true) (rfl) ?_
 refine sx 5 ?_
 refine RunL.set (v := Bo true) (rfl) ?_
 refine sx 2 ?_
 refine kp [0] rfl ?_
 refine Run.ret ?_
 exact ret_one (.tmp rfl .nil) (rfl) gv
end
end Go.Proofs.YtncidoakeflboaaGreatDoor
