/- Laws of the walks and of the models, part 4 (merged by program). -/
import Derived.Test.YtglaahpagjjmoaaGreatDoorD3
set_option linter.unusedVariables false
set_option linter.unusedSimpArgs false
set_option maxRecDepth 20000
set_option maxHeartbeats 4000000
namespace Go.Proofs.YtglaahpagjjmoaaGreatDoor
open Go Go.SL Go.Proofs
section
attribute [local irreducible] OpJ RunL Run RunD DetJ pt own star Rd RdS
theorem c_symS (s m e : Nat) (fid : Nat) (cp : List Value) (F : HP) (C : CI Tryz.prog fid) (hf : ∀ x y : Cl, AC Tryz.prog fid ⟨[.agg ⟨x.c⟩, .agg ⟨y.c⟩] ++ cp⟩ (stars [F]) (Ret (I (cmpK x.k y.k)) [F])) (b cap n : Nat) (f : Nat → Cl) (hn : n ≤ 100000) (hse : s < m ∧ m < e ∧ e ≤ n) (hs1 : So leK s m f) (hs2 : So leK m e f) (ih : ∀ (s' m' e' : Nat) (f' : Nat → Cl), e' - s' < e - s → s' < m' ∧ m' < e' ∧ e' ≤ n → So leK s' m' f' → So leK m' e' f' → AC Tryz.prog 186 ⟨[.slice (some ⟨b, 0, none⟩) n cap, I s', I m', I e', .func (.func fid) ⟨[]⟩ ⟨cp⟩]⟩ (stars [own 63 7 (some ⟨b, 0, none⟩) n cap ((asL n (f')).flatMap Cl.c), F]) (Outs (fun g : Nat → Cl => Re s' e' f' g ∧ So leK s' e' g) (fun _ => .tuple ⟨[]⟩) (fun g => [own 63 7 (some ⟨b, 0, none⟩) n cap ((asL n (g)).flatMap Cl.c), F]))) : AC Tryz.prog 186 ⟨[.slice (some ⟨b, 0, none⟩) n cap, I s, I m, I e, .func (.func fid) ⟨[]⟩ ⟨cp⟩]⟩ (stars [own 63 7 (some ⟨b, 0, none⟩) n cap ((asL n (f)).flatMap Cl.c), F]) (Outs (fun g : Nat → Cl => Re s e f g ∧ So leK s e g) (fun _ => .tuple ⟨[]⟩) (fun g => [own 63 7 (some ⟨b, 0, none⟩) n cap ((asL n (g)).flatMap Cl.c), F])) := by
 refine AC.go Tryz.func186 rfl (Nat.le_of_ble_eq_true rfl) fun β => ?_
 refine Run.seq ?_
 refine sr ?_
 refine sx 4 ?_
 refine kp [0, 1, 2, 3, 4, 28] rfl ?_
 first | refine Run.if rfl (fun h1 => ?_) (fun h1 => ?_) | refine Run.cond rfl (fun h1 => ?_) (fun h1 => ?_)
 refine sr ?_
 obtain rfl : m = s + 1 := by omega
 refine sx 2 ?_
 refine kp [0, 1, 3, 4, 10] rfl ?_
 refine sr ?_
 refine sx 2 ?_
 refine kp [0, 1, 4, 10, 11] rfl ?_
 refine Run.seq ?_
 refine Run.block ?_
 refine Run.loop (fun mm E L => ∃ (i j : Nat), mm = j - i ∧ s + 1 ≤ i ∧ i ≤ j ∧ j ≤ e ∧ (∀ k, s + 1 ≤ k → k < i → leK (f k) (f s)) ∧ (∀ k, j ≤ k → k < e → leK (f s) (f k)) ∧ E = [(0, .slice (some ⟨b, 0, none⟩) n cap), (1, I s), (4, .func (.func fid) ⟨[]⟩ ⟨cp⟩), (10, I i), (11, I j)] ∧ L = [own 63 7 (some ⟨b, 0, none⟩) n cap ((asL n (f)).flatMap Cl.c), F]) ⟨_, s + 1, e, rfl, Nat.le_refl _, by omega, Nat.le_refl _, (fun k _ _ => by omega), (fun k _ _ => by omega), rfl, rfl⟩ ?_
 rintro _ _ _ ⟨i, j, rfl, hi1, hij, hje, hlo, hhi, rfl, rfl⟩
 refine Run.seq ?_
 refine sr ?_
 refine sx 3 ?_
 refine kp [0, 1, 4, 10, 11, 33] rfl ?_
 first | refine Run.if rfl (fun h2 => ?_) (fun h2 => ?_) | refine Run.cond rfl (fun h2 => ?_) (fun h2 => ?_)
 refine Run.skip ?_
 refine Run.block ?_
 refine sr ?_
 refine sx 4 ?_
 refine RunL.set (congrArg U (show _ = ((i : Int) + j) by rw [wrap_u64]; omega)) ?_
 refine RunL.op rfl rfl (OpJ.shrU (k := 1) rfl rfl (by omega) ?_)
 refine sx 1 ?_
 refine RunL.set (v := I (((i + j) / 2 : Nat) : Int)) (congrArg I (by rw [wrap_i64_in (by omega)]; omega)) ?_
 refine asg rfl rfl ?_
 refine kp [0, 1, 4, 10, 11, 12] rfl ?_
 refine Run.seq ?_
 refine regionD HM ?_
 have hj0 : (asL n f)[(i + j) / 2]? = some (f ((i + j) / 2)) := asL_get (by omega)
 have hj1 : (asL n f)[s]? = some (f (s)) := asL_get (by omega)
 refine tk 0 rfl rfl rfl (DetJ.move rfl) ?_
 refine tk 1 rfl rfl rfl (DetJ.move rfl) ?_
 refine tk 2 rfl rfl rfl (DetJ.move rfl) ?_
 refine tk 3 rfl rfl rfl (DetJ.indexAddr S32 rfl rfl (by omega)) ?_
 first | refine RunD.takeW 4 rfl rfl kr T63 rfl pk (by rfl) ?_ | refine RunD.takeP 4 rfl rfl kr T63 rfl pk (by simp) ?_ | refine RunD.takeE 4 rfl rfl kr T63 rfl pk (by assumption) (by exact fun _ => rfl) rfl (by decide) ?_
 refine tk 5 rfl rfl rfl (DetJ.move rfl) ?_
 refine tk 6 rfl rfl rfl (DetJ.move rfl) ?_
 refine tk 7 rfl rfl rfl (DetJ.indexAddr S32 rfl rfl (by omega)) ?_
 first | refine RunD.takeW 8 rfl rfl kr T63 rfl pk (by rfl) ?_ | refine RunD.takeP 8 rfl rfl kr T63 rfl pk (by simp) ?_ | refine RunD.takeE 8 rfl rfl kr T63 rfl pk (by assumption) (by exact fun _ => rfl) rfl (by decide) ?_
 refine RunD.op 9 [false, false, false, false, false, false, false, false, false] rfl rfl rfl kr kr (OpJ.callRet C rfl rfl (hf (f ((i + j) / 2)) (f s)) tks ⟨po, ?_⟩)
 refine tk 10 rfl rfl rfl (DetJ.lss rfl rfl) ?_
 refine kd [0, 1, 4, 10, 11, 12, 50] rfl ?_
 first | refine Run.if rfl (fun h3 => ?_) (fun h3 => ?_) | refine Run.cond rfl (fun h3 => ?_) (fun h3 => ?_)
 refine Run.region ?_
 refine sx 3 ?_
 exact RunL.next (Keep.sub (kt (ks := [0, 1, 4, 10, 11]) rfl)) _ ⟨_, by omega, (i + j) / 2 + 1, j, rfl, by omega, by omega, hje, (fun k z1 z2 => leK_trans _ _ _ (hs2 k ((i + j) / 2) z1 (by omega) (by omega)) (Int.le_of_lt (by assumption))), hhi, rfl, rfl⟩ gv
 refine Run.region ?_
 refine sx 2 ?_
 exact RunL.next (Keep.sub (kt (ks := [0, 1, 4, 10, 11]) rfl)) _ ⟨_, by omega, i, (i + j) / 2, rfl, hi1, by omega, by omega, hlo, (fun k z1 z2 => leK_trans _ _ _ (leK_not (by assumption)) (hs2 ((i + j) / 2) k (by omega) z1 z2)), rfl, rfl⟩ gv
 refine Run.exit ?_
 refine Run.seq ?_
 refine sr ?_
 obtain rfl : i = j := by omega
 refine sx 2 ?_
 refine kp [0, 10, 13] rfl ?_
 refine Run.block ?_
 refine Run.loop (fun mm E L => ∃ k : Nat, mm = i - k ∧ s ≤ k ∧ k ≤ i - 1 ∧ E = [(0, .slice (some ⟨b, 0, none⟩) n cap), (10, I i), (13, I k)] ∧ L = [own 63 7 (some ⟨b, 0, none⟩) n cap ((asL n (rot s (s + 1) (k + 1) f)).flatMap Cl.c), F]) ⟨_, s, rfl, Nat.le_refl _, by omega, rfl, (by rw [rotl_base])⟩ ?_
 rintro _ _ _ ⟨k, rfl, hk1, hk2, rfl, rfl⟩
 refine Run.seq ?_
 refine sr ?_
 refine sx 4 ?_
 refine kp [0, 10, 13, 58] rfl ?_
 first | refine Run.if rfl (fun h4 => ?_) (fun h4 => ?_) | refine Run.cond rfl (fun h4 => ?_) (fun h4 => ?_)
 refine Run.skip ?_
 refine Run.seq ?_
 refine Run.block ?_
 refine regionD HM ?_
 have hj0 : (asL n (rot s (s + 1) (k + 1) f))[k + 1]? = some ((rot s (s + 1) (k + 1) f) (k + 1)) := asL_get (by omega)
 have hj1 : (asL n (rot s (s + 1) (k + 1) f))[k]? = some ((rot s (s + 1) (k + 1) f) (k)) := asL_get (by omega)
 refine tk 0 rfl rfl rfl (DetJ.move rfl) ?_
 refine tk 1 rfl rfl rfl (DetJ.move rfl) ?_
 refine tk 2 rfl rfl rfl (DetJ.move rfl) ?_
 refine tk 3 rfl rfl rfl (DetJ.move rfl) ?_
 first | refine tk 4 rfl rfl rfl (DetJ.addI rfl rfl (by omega)) ?_ | refine tk 4 rfl rfl rfl (DetJ.add rfl rfl) ?_
 refine tk 5 rfl rfl rfl (DetJ.move rfl) ?_
 refine tk 6 rfl rfl rfl (DetJ.move rfl) ?_
 first | refine tk 7 rfl rfl rfl (DetJ.addI rfl rfl (by omega)) ?_ | refine tk 7 rfl rfl rfl (DetJ.add rfl rfl) ?_
 refine tk 8 rfl rfl rfl (DetJ.indexAddr S32 rfl rfl (by omega)) ?_
 first | refine RunD.takeW 9 rfl rfl kr T63 rfl pk (by rfl) ?_ | refine RunD.takeP 9 rfl rfl kr T63 rfl pk (by simp) ?_ | refine RunD.takeE 9 rfl rfl kr T63 rfl pk (by assumption) (by exact fun _ => rfl) rfl (by decide) ?_
 refine tk 10 rfl rfl rfl (DetJ.move rfl) ?_
 refine tk 11 rfl rfl rfl (DetJ.move rfl) ?_
 refine tk 12 rfl rfl rfl (DetJ.indexAddr S32 rfl rfl (by omega)) ?_
 first | refine RunD.takeW 13 rfl rfl kr T63 rfl pk (by rfl) ?_ | refine RunD.takeP 13 rfl rfl kr T63 rfl pk (by simp) ?_ | refine RunD.takeE 13 rfl rfl kr T63 rfl pk (by assumption) (by exact fun _ => rfl) rfl (by decide) ?_
 refine tk 14 rfl rfl rfl (DetJ.indexAddr S32 rfl rfl (by omega)) ?_
 refine RunD.op 15 [false, false, false, false, false, false, false, false, false, false, true, true, true, false, false] rfl rfl rfl kr kr (OpJ.storeE (xs := asL n (rot s (s + 1) (k + 1) f)) (i := k) (u' := rot s (s + 1) (k + 1) f (k + 1)) inferInstance rfl rfl (cl1 _) (by rw [asL_len]; omega) (fun _ => rfl) (by decide) up ⟨po, ?_⟩)
 rw [asL_set]
 refine tk 16 rfl rfl rfl (DetJ.indexAddr S32 rfl rfl (by omega)) ?_
 refine RunD.op 17 [false, false, false, false] rfl rfl rfl kr kr (OpJ.storeE (xs := asL n (upd k (rot s (s + 1) (k + 1) f (k + 1)) (rot s (s + 1) (k + 1) f))) (i := k + 1) (u' := rot s (s + 1) (k + 1) f k) inferInstance rfl rfl (cl1 _) (by rw [asL_len]; omega) (fun _ => rfl) (by decide) up ⟨po, ?_⟩)
 rw [asL_set, upd_swp, rotl_step (by omega)]
 refine kd [0, 10, 13] rfl ?_
 refine Run.region ?_
 refine sx 3 ?_
 exact RunL.next (Keep.sub (kt (ks := [0, 10, 13]) rfl)) _ ⟨_, by omega, k + 1, rfl, by omega, by omega, rfl, rfl⟩ gv
 refine Run.exit ?_
 refine Run.ret ?_
 exact ret_out (rot s (s + 1) (k + 1) f) .nil ⟨(Re.rot (by omega) (by omega)).wide (by omega) (by omega), merge_left (i := k + 1) (b := e) ⟨by omega, by omega⟩ hs2 leK_refl (fun q z1 z2 => hlo q z1 (by omega)) (fun q z1 z2 => hhi q (by omega) z2)⟩ rfl gv
 refine Run.skip ?_
 refine Run.seq ?_
 refine sr ?_
 refine sx 4 ?_
 refine kp [0, 1, 2, 3, 4, 80] rfl ?_
 first | refine Run.if rfl (fun h5 => ?_) (fun h5 => ?_) | refine Run.cond rfl (fun h5 => ?_) (fun h5 => ?_)
 refine sr ?_
 obtain rfl : e = m + 1 := by omega
 refine sx 2 ?_
 refine kp [0, 2, 4, 14] rfl ?_
 refine sr ?_
 refine sx 2 ?_
 refine kp [0, 2, 4, 14, 15] rfl ?_
 refine Run.seq ?_
 refine Run.block ?_
 refine Run.loop (fun mm E L => ∃ (i j : Nat), mm = j - i ∧ s ≤ i ∧ i ≤ j ∧ j ≤ m ∧ (∀ k, s ≤ k → k < i → leK (f k) (f m)) ∧ (∀ k, j ≤ k → k < m → leK (f m) (f k)) ∧ E = [(0, .slice (some ⟨b, 0, none⟩) n cap), (2, I m), (4, .func (.func fid) ⟨[]⟩ ⟨cp⟩), (14, I i), (15, I j)] ∧ L = [own 63 7 (some ⟨b, 0, none⟩) n cap ((asL n (f)).flatMap Cl.c), F]) ⟨_, s, m, rfl, Nat.le_refl _, by omega, Nat.le_refl _, (fun k _ _ => by omega), (fun k _ _ => by omega), rfl, rfl⟩ ?_
 rintro _ _ _ ⟨i, j, rfl, hi1, hij, hje, hlo, hhi, rfl, rfl⟩
 refine Run.seq ?_
 refine sr ?_
 refine sx 3 ?_
 refine kp [0, 2, 4, 14, 15, 85] rfl ?_
 first | refine Run.if rfl (fun h6 => ?_) (fun h6 => ?_) | refine Run.cond rfl (fun h6 => ?_) (fun h6 => ?_)
 refine Run.skip ?_
 refine Run.block ?_
 refine sr ?_
 refine sx 4 ?_
 refine RunL.set (congrArg U (show _ = ((i : Int) + j) by rw [wrap_u64]; omega)) ?_
 refine RunL.op rfl rfl (OpJ.shrU (k := 1) rfl rfl (by omega) ?_)
 refine sx 1 ?_
 refine RunL.set (v := I (((i + j) / 2 : Nat) : Int)) (congrArg I (by rw [wrap_i64_in (by omega)]; omega)) ?_
 refine asg rfl rfl ?_
 refine kp [0, 2, 4, 14, 15, 16] rfl ?_
 refine Run.seq ?_
 refine regionD HM ?_
 have hj0 : (asL n f)[m]? = some (f (m)) := asL_get (by omega)
 have hj1 : (asL n f)[(i + j) / 2]? = some (f ((i + j) / 2)) := asL_get (by omega)
 refine tk 0 rfl rfl rfl (DetJ.move rfl) ?_
 refine tk 1 rfl rfl rfl (DetJ.move rfl) ?_
 refine tk 2 rfl rfl rfl (DetJ.move rfl) ?_
 refine tk 3 rfl rfl rfl (DetJ.indexAddr S32 rfl rfl (by omega)) ?_
 first | refine RunD.takeW 4 rfl rfl kr T63 rfl pk (by rfl) ?_ | refine RunD.takeP 4 rfl rfl kr T63 rfl pk (by simp) ?_ | refine RunD.takeE 4 rfl rfl kr T63 rfl pk (by assumption) (by exact fun _ => rfl) rfl (by decide) ?_
 refine tk 5 rfl rfl rfl (DetJ.move rfl) ?_
 refine tk 6 rfl rfl rfl (DetJ.move rfl) ?_
 refine tk 7 rfl rfl rfl (DetJ.indexAddr S32 rfl rfl (by omega)) ?_
 first | refine RunD.takeW 8 rfl rfl kr T63 rfl pk (by rfl) ?_ | refine RunD.takeP 8 rfl rfl kr T63 rfl pk (by simp) ?_ | refine RunD.takeE 8 rfl rfl kr T63 rfl pk (by assumption) (by exact fun _ => rfl) rfl (by decide) ?_
 refine RunD.op 9 [false, false, false, false, false, false, false, false, false] rfl rfl rfl kr kr (OpJ.callRet C rfl rfl (hf (f m) (f ((i + j) / 2))) tks ⟨po, ?_⟩)
 refine tk 10 rfl rfl rfl (DetJ.lss rfl rfl) ?_
 refine tk 11 rfl rfl rfl (DetJ.not rfl) ?_
 refine kd [0, 2, 4, 14, 15, 16, 103] rfl ?_
 first | refine Run.if rfl (fun h7 => ?_) (fun h7 => ?_) | refine Run.cond rfl (fun h7 => ?_) (fun h7 => ?_)
 refine Run.region ?_
 refine sx 3 ?_
 exact RunL.next (Keep.sub (kt (ks := [0, 2, 4, 14, 15]) rfl)) _ ⟨_, by omega, (i + j) / 2 + 1, j, rfl, by omega, by omega, hje, (fun k z1 z2 => leK_trans _ _ _ (hs1 k ((i + j) / 2) z1 (by omega) (by omega)) (leK_not (by simpa using h7))), hhi, rfl, rfl⟩ gv
 refine Run.region ?_
 refine sx 2 ?_
 exact RunL.next (Keep.sub (kt (ks := [0, 2, 4, 14, 15]) rfl)) _ ⟨_, by omega, i, (i + j) / 2, rfl, hi1, by omega, by omega, hlo, (fun k z1 z2 => leK_trans _ _ _ (Int.le_of_lt (by simpa using h7)) (hs1 ((i + j) / 2) k (by omega) z1 z2)), rfl, rfl⟩ gv
 refine Run.exit ?_
 refine Run.seq ?_
 refine sr ?_
 obtain rfl : i = j := by omega
 refine sx 2 ?_
 refine kp [0, 14, 17] rfl ?_
 refine Run.block ?_
 refine Run.loop (fun mm E L => ∃ k : Nat, mm = k - i ∧ i ≤ k ∧ k ≤ m ∧ E = [(0, .slice (some ⟨b, 0, none⟩) n cap), (14, I i), (17, I k)] ∧ L = [own 63 7 (some ⟨b, 0, none⟩) n cap ((asL n (rot k m (m + 1) f)).flatMap Cl.c), F]) ⟨_, m, rfl, by omega, Nat.le_refl _, rfl, (by rw [rotr_base])⟩ ?_
 rintro _ _ _ ⟨k, rfl, hk1, hk2, rfl, rfl⟩
 refine Run.seq ?_
 refine sr ?_
 refine sx 3 ?_
 refine kp [0, 14, 17, 110] rfl ?_
 first | refine Run.if rfl (fun h8 => ?_) (fun h8 => ?_) | refine Run.cond rfl (fun h8 => ?_) (fun h8 => ?_)
 refine Run.skip ?_
 refine Run.seq ?_
 refine Run.block ?_
 refine regionD HM ?_
 have hj0 : (asL n (rot k m (m + 1) f))[k - 1]? = some ((rot k m (m + 1) f) (k - 1)) := asL_get (by omega)
 have hj1 : (asL n (rot k m (m + 1) f))[k]? = some ((rot k m (m + 1) f) (k)) := asL_get (by omega)
 refine tk 0 rfl rfl rfl (DetJ.move rfl) ?_
 refine tk 1 rfl rfl rfl (DetJ.move rfl) ?_
 refine tk 2 rfl rfl rfl (DetJ.move rfl) ?_
 refine tk 3 rfl rfl rfl (DetJ.move rfl) ?_
 first | refine tk 4 rfl rfl rfl (DetJ.subI rfl rfl (by omega)) ?_ | refine tk 4 rfl rfl rfl (DetJ.sub rfl rfl) ?_
 refine RunD.set (v := I ((k - 1 : Nat) : Int)) (congrArg I (by omega)) ?_
 refine tk 5 rfl rfl rfl (DetJ.move rfl) ?_
 refine tk 6 rfl rfl rfl (DetJ.move rfl) ?_
 first | refine tk 7 rfl rfl rfl (DetJ.subI rfl rfl (by omega)) ?_ | refine tk 7 rfl rfl rfl (DetJ.sub rfl rfl) ?_
 refine RunD.set (v := I ((k - 1 : Nat) : Int)) (congrArg I (by omega)) ?_
 refine tk 8 rfl rfl rfl (DetJ.indexAddr S32 rfl rfl (by omega)) ?_
 first | refine RunD.takeW 9 rfl rfl kr T63 rfl pk (by rfl) ?_ | refine RunD.takeP 9 rfl rfl kr T63 rfl pk (by simp) ?_ | refine RunD.takeE 9 rfl rfl kr T63 rfl pk (by assumption) (by exact fun _ => rfl) rfl (by decide) ?_
 refine tk 10 rfl rfl rfl (DetJ.move rfl) ?_
 refine tk 11 rfl rfl rfl (DetJ.move rfl) ?_
 refine tk 12 rfl rfl rfl (DetJ.indexAddr S32 rfl rfl (by omega)) ?_
 first | refine RunD.takeW 13 rfl rfl kr T63 rfl pk (by rfl) ?_ | refine RunD.takeP 13 rfl rfl kr T63 rfl pk (by simp) ?_ | refine RunD.takeE 13 rfl rfl kr T63 rfl pk (by assumption) (by exact fun _ => rfl) rfl (by decide) ?_
 refine tk 14 rfl rfl rfl (DetJ.indexAddr S32 rfl rfl (by omega)) ?_
 refine RunD.op 15 [false, false, false, false, false, false, false, false, false, false, true, true, true, false, false] rfl rfl rfl kr kr (OpJ.storeE (xs := asL n (rot k m (m + 1) f)) (i := k) (u' := rot k m (m + 1) f (k - 1)) inferInstance rfl rfl (cl1 _) (by rw [asL_len]; omega) (fun _ => rfl) (by decide) up ⟨po, ?_⟩)
 rw [asL_set]
 refine tk 16 rfl rfl rfl (DetJ.indexAddr S32 rfl rfl (by omega)) ?_
 refine RunD.op 17 [false, false, false, false] rfl rfl rfl kr kr (OpJ.storeE (xs := asL n (upd k (rot k m (m + 1) f (k - 1)) (rot k m (m + 1) f))) (i := k - 1) (u' := rot k m (m + 1) f k) inferInstance rfl rfl (cl1 _) (by rw [asL_len]; omega) (fun _ => rfl) (by decide) up ⟨po, ?_⟩)
 rw [asL_set, upd_swp, rotr_step (by omega) (by omega)]
 refine kd [0, 14, 17] rfl ?_
 refine Run.region ?_
 refine sx 2 ?_
 refine RunL.set (v := I ((k - 1 : Nat) : Int)) (congrArg I (by omega)) ?_
 refine asg rfl rfl ?_
 exact RunL.next (Keep.sub (kt (ks := [0, 14, 17]) rfl)) _ ⟨_, by omega, k - 1, rfl, by omega, by omega, rfl, rfl⟩ gv
 refine Run.exit ?_
 refine Run.ret ?_
 exact ret_out (rot k m (m + 1) f) .nil ⟨(Re.rot (by omega) (by omega)).wide (by omega) (by omega), merge_right (i := k) (a := s) ⟨by omega, by omega⟩ hs1 leK_refl (fun q z1 z2 => hlo q z1 (by omega)) (fun q z1 z2 => hhi q (by omega) z2)⟩ rfl gv
 refine Run.skip ?_
 refine sr ?_
 obtain ⟨d, hd⟩ : ∃ d : Nat, d = (s + e) / 2 := ⟨_, rfl⟩
 obtain ⟨s0, hs0⟩ : ∃ s0 : Nat, s0 = if d < m then d + m - e else s := ⟨_, rfl⟩
 obtain ⟨r0, hr0⟩ : ∃ r0 : Nat, r0 = if d < m then d else m := ⟨_, rfl⟩
 have h0 : m > d ∧ s0 = d + m - e ∧ r0 = d ∨ ¬ m > d ∧ s0 = s ∧ r0 = m := by { by_cases q : d < m; (rw [if_pos q] at hs0 hr0; omega); (rw [if_neg q] at hs0 hr0; omega) }
 refine sx 4 ?_
 refine RunL.set (congrArg U (show _ = ((s : Int) + e) by rw [wrap_u64]; omega)) ?_
 refine RunL.op rfl rfl (OpJ.shrU (k := 1) rfl rfl (by omega) ?_)
 refine sx 1 ?_
 refine RunL.set (v := I (d : Int)) (congrArg I (by rw [wrap_i64_in (by omega)]; omega)) ?_
 refine asg rfl rfl ?_
 refine kp [0, 1, 2, 3, 4, 18] rfl ?_
 refine sr ?_
 refine sx 3 ?_
 refine RunL.set (v := I ((d + m : Nat) : Int)) (congrArg I (by omega)) ?_
 refine asg rfl rfl ?_
 refine kp [0, 1, 2, 3, 4, 18, 19] rfl ?_
 refine sr ?_
 refine sx 2 ?_
 refine kp [0, 1, 2, 3, 4, 18, 19] rfl ?_
 refine Run.seqJ (fun (g : Unit) => [(0, .slice (some ⟨b, 0, none⟩) n cap), (1, I s), (2, I m), (3, I e), (4, .func (.func fid) ⟨[]⟩ ⟨cp⟩), (18, I d), (19, I ((d + m : Nat) : Int)), (20, I s0), (21, I r0)]) (fun (g : Unit) => [own 63 7 (some ⟨b, 0, none⟩) n cap ((asL n (f)).flatMap Cl.c), F]) ?_ ?_
 refine sr ?_
 refine sx 3 ?_
 refine kp [0, 1, 2, 3, 4, 18, 19, 140] rfl ?_
 first | refine Run.if rfl (fun h9 => ?_) (fun h9 => ?_) | refine Run.cond rfl (fun h9 => ?_) (fun h9 => ?_)
 refine sr ?_
 refine sx 3 ?_
 refine RunL.set (v := I ((s0 : Nat) : Int)) (congrArg I (by omega)) ?_
 refine asg rfl rfl ?_
 refine kp [0, 1, 2, 3, 4, 18, 19, 20] rfl ?_
 refine Run.region ?_
 refine mvo rfl rfl ?_
 refine RunL.set (v := I ((r0 : Nat) : Int)) (congrArg I (by omega)) ?_
 refine asg rfl rfl ?_
 refine kp [0, 1, 2, 3, 4, 18, 19, 20, 21] rfl ?_
 exact ⟨(), Keep.sub (kt (ks := [0, 1, 2, 3, 4, 18, 19, 20, 21]) rfl), gv⟩
 refine sr ?_
 refine mvo rfl rfl ?_
 refine RunL.set (v := I ((s0 : Nat) : Int)) (congrArg I (by omega)) ?_
 refine asg rfl rfl ?_
 refine kp [0, 1, 2, 3, 4, 18, 19, 20] rfl ?_
 refine Run.region ?_
 refine mvo rfl rfl ?_
 refine RunL.set (v := I ((r0 : Nat) : Int)) (congrArg I (by omega)) ?_
 refine asg rfl rfl ?_
 refine kp [0, 1, 2, 3, 4, 18, 19, 20, 21] rfl ?_
 exact ⟨(), Keep.sub (kt (ks := [0, 1, 2, 3, 4, 18, 19, 20, 21]) rfl), gv⟩
 rintro _
 refine sr ?_
 refine sx 2 ?_
 refine RunL.set (v := I ((d + m - 1 : Nat) : Int)) (congrArg I (by omega)) ?_
 refine asg rfl rfl ?_
 refine kp [0, 1, 2, 3, 4, 18, 19, 20, 21, 22] rfl ?_
 refine Run.seq ?_
 refine Run.block ?_
 refine Run.loop (fun mm E L => ∃ (x y : Nat), mm = y - x ∧ s0 ≤ x ∧ x ≤ y ∧ y ≤ r0 ∧ (∀ c, s0 ≤ c → c < x → leK (f c) (f (d + m - 1 - c))) ∧ (∀ c, y ≤ c → c < r0 → leK (f (d + m - 1 - c)) (f c)) ∧ E = [(0, .slice (some ⟨b, 0, none⟩) n cap), (1, I s), (2, I m), (3, I e), (4, .func (.func fid) ⟨[]⟩ ⟨cp⟩), (18, I d), (19, I ((d + m : Nat) : Int)), (20, I x), (21, I y), (22, I ((d + m - 1 : Nat) : Int))] ∧ L = [own 63 7 (some ⟨b, 0, none⟩) n cap ((asL n (f)).flatMap Cl.c), F]) ⟨_, s0, r0, rfl, Nat.le_refl _, by omega, Nat.le_refl _, (fun k _ _ => by omega), (fun k _ _ => by omega), rfl, rfl⟩ ?_
 rintro _ _ _ ⟨x, y, rfl, hx1, hx2, hx3, hlo, hhi, rfl, rfl⟩
 refine Run.seq ?_
 refine sr ?_
 refine sx 3 ?_
 refine kp [0, 1, 2, 3, 4, 18, 19, 20, 21, 22, 151] rfl ?_
 first | refine Run.if rfl (fun h10 => ?_) (fun h10 => ?_) | refine Run.cond rfl (fun h10 => ?_) (fun h10 => ?_)
 refine Run.skip ?_
 refine Run.block ?_
 refine sr ?_
 refine sx 4 ?_
 refine RunL.set (congrArg U (show _ = ((x : Int) + y) by rw [wrap_u64]; omega)) ?_
 refine RunL.op rfl rfl (OpJ.shrU (k := 1) rfl rfl (by omega) ?_)
 refine sx 1 ?_
 refine RunL.set (v := I (((x + y) / 2 : Nat) : Int)) (congrArg I (by rw [wrap_i64_in (by omega)]; omega)) ?_
 refine asg rfl rfl ?_
 refine kp [0, 1, 2, 3, 4, 18, 19, 20, 21, 22, 23] rfl ?_
 refine Run.seq ?_
 refine regionD HM ?_
 have hj0 : (asL n f)[d + m - 1 - (x + y) / 2]? = some (f (d + m - 1 - (x + y) / 2)) := asL_get (by omega)
 have hj1 : (asL n f)[(x + y) / 2]? = some (f ((x + y) / 2)) := asL_get (by omega)
 refine tk 0 rfl rfl rfl (DetJ.move rfl) ?_
 refine tk 1 rfl rfl rfl (DetJ.move rfl) ?_
 refine tk 2 rfl rfl rfl (DetJ.move rfl) ?_
 refine tk 3 rfl rfl rfl (DetJ.move rfl) ?_
 first | refine tk 4 rfl rfl rfl (DetJ.subI rfl rfl (by omega)) ?_ | refine tk 4 rfl rfl rfl (DetJ.sub rfl rfl) ?_
 refine RunD.set (v := I ((d + m - 1 - (x + y) / 2 : Nat) : Int)) (congrArg I (by omega)) ?_
 refine tk 5 rfl rfl rfl (DetJ.indexAddr S32 rfl rfl (by omega)) ?_
 first | refine RunD.takeW 6 rfl rfl kr T63 rfl pk (by rfl) ?_ | refine RunD.takeP 6 rfl rfl kr T63 rfl pk (by simp) ?_ | refine RunD.takeE 6 rfl rfl kr T63 rfl pk (by assumption) (by exact fun _ => rfl) rfl (by decide) ?_
 refine tk 7 rfl rfl rfl (DetJ.move rfl) ?_
 refine tk 8 rfl rfl rfl (DetJ.move rfl) ?_
 refine tk 9 rfl rfl rfl (DetJ.indexAddr S32 rfl rfl (by omega)) ?_
 first | refine RunD.takeW 10 rfl rfl kr T63 rfl pk (by rfl) ?_ | refine RunD.takeP 10 rfl rfl kr T63 rfl pk (by simp) ?_ | refine RunD.takeE 10 rfl rfl kr T63 rfl pk (by assumption) (by exact fun _ => rfl) rfl (by decide) ?_
 refine RunD.op 11 [false, false, false, false, false, false, false, true, true, false, false] rfl rfl rfl kr kr (OpJ.callRet C rfl rfl (hf (f (d + m - 1 - (x + y) / 2)) (f ((x + y) / 2))) tks ⟨po, ?_⟩)
 refine tk 12 rfl rfl rfl (DetJ.lss rfl rfl) ?_
 refine tk 13 rfl rfl rfl (DetJ.not rfl) ?_
 refine kd [0, 1, 2, 3, 4, 18, 19, 20, 21, 22, 23, 171] rfl ?_
 first | refine Run.if rfl (fun h11 => ?_) (fun h11 => ?_) | refine Run.cond rfl (fun h11 => ?_) (fun h11 => ?_)
 refine Run.region ?_
 refine sx 3 ?_
 exact RunL.next (Keep.sub (kt (ks := [0, 1, 2, 3, 4, 18, 19, 20, 21, 22]) rfl)) _ ⟨_, by omega, (x + y) / 2 + 1, y, rfl, by omega, by omega, hx3, (fun k z1 z2 => leK_trans _ _ _ (hs1 k ((x + y) / 2) (by omega) (by omega) (by omega)) (leK_trans _ _ _ (leK_not (by simpa using h11)) (hs2 (d + m - 1 - (x + y) / 2) (d + m - 1 - k) (by omega) (by omega) (by omega)))), hhi, rfl, rfl⟩ gv
 refine Run.region ?_
 refine sx 2 ?_
 exact RunL.next (Keep.sub (kt (ks := [0, 1, 2, 3, 4, 18, 19, 20, 21, 22]) rfl)) _ ⟨_, by omega, x, (x + y) / 2, rfl, hx1, by omega, by omega, hlo, (fun k z1 z2 => leK_trans _ _ _ (hs2 (d + m - 1 - k) (d + m - 1 - (x + y) / 2) (by omega) (by omega) (by omega)) (leK_trans _ _ _ (Int.le_of_lt (by simpa using h11)) (hs1 ((x + y) / 2) k (by omega) (by omega) (by omega)))), rfl, rfl⟩ gv
 refine Run.exit ?_
 refine sr ?_
 obtain rfl : x = y := by omega
 obtain ⟨q1, q2, q3, q4, q5, q6, hc⟩ := cutd leK_trans hs1 hs2 (by omega) (by omega) (d := d) (by omega) h0 ⟨hx1, hx3⟩ hlo hhi
 refine sx 3 ?_
 refine RunL.set (v := I ((d + m - x : Nat) : Int)) (congrArg I (by omega)) ?_
 refine asg rfl rfl ?_
 refine kp [0, 1, 2, 3, 4, 18, 20, 24] rfl ?_
 refine Run.seqJ (fun (g : Unit) => [(0, .slice (some ⟨b, 0, none⟩) n cap), (1, I s), (3, I e), (4, .func (.func fid) ⟨[]⟩ ⟨cp⟩), (18, I d), (20, I x), (24, I ((d + m - x : Nat) : Int))]) (fun (g : Unit) => [own 63 7 (some ⟨b, 0, none⟩) n cap ((asL n (rot x m (d + m - x) f)).flatMap Cl.c), F]) ?_ ?_
 refine sr ?_
 refine RunL.cut (t := 185) (v := Bo (decide (x < m ∧ m < d + m - x))) (kt (ks := [0, 1, 2, 3, 4, 18, 20, 24]) rfl) ?_ ?_
 refine sx 4 ?_
 first | refine RunL.splitP (t := 181) rfl (fun g12 => ?_) (fun g12 => ?_) | refine RunL.split (t := 181) rfl (fun g12 => ?_) (fun g12 => ?_)
 refine sx 4 ?_
 exact RunL.nil ⟨.cons (by first | rfl | (show some (Value.bool _) = some (Value.bool _); rw [decide_eq_false (show ¬ (x < m ∧ m < d + m - x) by omega)]) | (show some (Value.bool _) = some (Value.bool _); exact congrArg (fun b => some (Value.bool b)) (decide_eq_decide.2 (by omega))) | (show some (Value.bool _) = some (Value.bool _); simp_all)) (kt (ks := [0, 1, 2, 3, 4, 18, 20, 24]) rfl), rfl⟩
 refine sx 4 ?_
 exact RunL.nil ⟨.cons (by first | rfl | (show some (Value.bool _) = some (Value.bool _); rw [decide_eq_false (show ¬ (x < m ∧ m < d + m - x) by omega)]) | (show some (Value.bool _) = some (Value.bool _); exact congrArg (fun b => some (Value.bool b)) (decide_eq_decide.2 (by omega))) | (show some (Value.bool _) = some (Value.bool _); simp_all)) (kt (ks := [0, 1, 2, 3, 4, 18, 20, 24]) rfl), rfl⟩
 first | refine Run.if rfl (fun h13 => ?_) (fun h13 => ?_) | refine Run.cond rfl (fun h13 => ?_) (fun h13 => ?_)
 refine Run.region ?_
 refine sx 5 ?_
 refine RunL.call C198 rfl rfl rfl (c_rotate x m (d + m - x) _ F b cap n f hn (by omega)) tks ?_
 refine kp [0, 1, 3, 4, 18, 20, 24] rfl ?_
 exact ⟨(), Keep.sub (kt (ks := [0, 1, 3, 4, 18, 20, 24]) rfl), gv⟩
 have hrt : rot x m (d + m - x) f = f := rot_none (by assumption) q2 q4
 refine Run.weak (L' := [own 63 7 (some ⟨b, 0, none⟩) n cap ((asL n (rot x m (d + m - x) f)).flatMap Cl.c), F]) (fun _ _ h => h) (by rw [hrt]; exact gv) ?_
 refine Run.skip ?_
 exact ⟨(), Keep.sub (kt (ks := [0, 1, 3, 4, 18, 20, 24]) rfl), gv⟩
 rintro _
 refine Run.seq ?_
 refine sr ?_
 refine RunL.cut (t := 199) (v := Bo (decide (s < x ∧ x < d))) (kt (ks := [0, 1, 3, 4, 18, 20, 24]) rfl) ?_ ?_
 refine sx 4 ?_
 first | refine RunL.splitP (t := 195) rfl (fun g14 => ?_) (fun g14 => ?_) | refine RunL.split (t := 195) rfl (fun g14 => ?_) (fun g14 => ?_)
 refine sx 4 ?_
 exact RunL.nil ⟨.cons (by first | rfl | (show some (Value.bool _) = some (Value.bool _); rw [decide_eq_false (show ¬ (s < x ∧ x < d) by omega)]) | (show some (Value.bool _) = some (Value.bool _); exact congrArg (fun b => some (Value.bool b)) (decide_eq_decide.2 (by omega))) | (show some (Value.bool _) = some (Value.bool _); simp_all)) (kt (ks := [0, 1, 3, 4, 18, 20, 24]) rfl), rfl⟩
 refine sx 4 ?_
 exact RunL.nil ⟨.cons (by first | rfl | (show some (Value.bool _) = some (Value.bool _); rw [decide_eq_false (show ¬ (s < x ∧ x < d) by omega)]) | (show some (Value.bool _) = some (Value.bool _); exact congrArg (fun b => some (Value.bool b)) (decide_eq_decide.2 (by omega))) | (show some (Value.bool _) = some (Value.bool _); simp_all)) (kt (ks := [0, 1, 3, 4, 18, 20, 24]) rfl), rfl⟩
 first | refine Run.if rfl (fun h15 => ?_) (fun h15 => ?_) | refine Run.cond rfl (fun h15 => ?_) (fun h15 => ?_)
 refine Run.region ?_
 refine sx 5 ?_
 refine RunL.callX C186 rfl rfl rfl (ih s x d (rot x m (d + m - x) f) (by omega) (by omega) hc.p1 hc.p2) tks fun g2 hg2 => ?_
 refine kp [0, 3, 4, 18, 24] rfl ?_
 refine sr ?_
 refine RunL.cut (t := 213) (v := Bo (decide (d < d + m - x ∧ d + m - x < e))) (kt (ks := [0, 3, 4, 18, 24]) rfl) ?_ ?_
 refine sx 4 ?_
 first | refine RunL.splitP (t := 209) rfl (fun g16 => ?_) (fun g16 => ?_) | refine RunL.split (t := 209) rfl (fun g16 => ?_) (fun g16 => ?_)
 refine sx 4 ?_
 exact RunL.nil ⟨.cons (by first | rfl | (show some (Value.bool _) = some (Value.bool _); rw [decide_eq_false (show ¬ (d < d + m - x ∧ d + m - x < e) by omega)]) | (show some (Value.bool _) = some (Value.bool _); exact congrArg (fun b => some (Value.bool b)) (decide_eq_decide.2 (by omega))) | (show some (Value.bool _) = some (Value.bool _); simp_all)) (kt (ks := [0, 3, 4, 18, 24]) rfl), rfl⟩
 refine sx 4 ?_
 exact RunL.nil ⟨.cons (by first | rfl | (show some (Value.bool _) = some (Value.bool _); rw [decide_eq_false (show ¬ (d < d + m - x ∧ d + m - x < e) by omega)]) | (show some (Value.bool _) = some (Value.bool _); exact congrArg (fun b => some (Value.bool b)) (decide_eq_decide.2 (by omega))) | (show some (Value.bool _) = some (Value.bool _); simp_all)) (kt (ks := [0, 3, 4, 18, 24]) rfl), rfl⟩
 first | refine Run.if rfl (fun h17 => ?_) (fun h17 => ?_) | refine Run.cond rfl (fun h17 => ?_) (fun h17 => ?_)
 refine Run.region ?_
 refine sx 5 ?_
 refine RunL.callX C186 rfl rfl rfl (ih d (d + m - x) e g2 (by omega) (by omega) (hc.p3.congr fun k z1 z2 => hg2.1.out (by omega)) (hc.p4.congr fun k z1 z2 => hg2.1.out (by omega))) tks fun g3 hg3 => ?_
 refine kp [] rfl ?_
 exact ret_out g3 .nil ⟨(((Re.rot (by omega) (by omega)).wide (by omega) (by omega)).trans (hg2.1.wide (by omega) (by omega))).trans (hg3.1.wide (by omega) (by omega)), So.join hc.lr hg2.1 hg2.2 hg3.1 hg3.2⟩ rfl gv
 obtain ⟨g3, e3, hg3⟩ : ∃ g3, g3 = g2 ∧ Re d e g2 g3 ∧ So leK d e g3 := ⟨_, rfl, Re.refl, (hc.right (by assumption) q6 q5).congr fun k z1 z2 => hg2.1.out (by omega)⟩
 rw [← e3]
 refine Run.skip ?_
 exact ret_out g3 .nil ⟨(((Re.rot (by omega) (by omega)).wide (by omega) (by omega)).trans (hg2.1.wide (by omega) (by omega))).trans (hg3.1.wide (by omega) (by omega)), So.join hc.lr hg2.1 hg2.2 hg3.1 hg3.2⟩ rfl gv
 obtain ⟨g2, e2, hg2⟩ : ∃ g2, g2 = rot x m (d + m - x) f ∧ Re s d (rot x m (d + m - x) f) g2 ∧ So leK s d g2 := ⟨_, rfl, Re.refl, hc.left (by assumption) q1 q3⟩
 rw [← e2]
 refine Run.skip ?_
 refine sr ?_
 refine RunL.cut (t := 213) (v := Bo (decide (d < d + m - x ∧ d + m - x < e))) (kt (ks := [0, 3, 4, 18, 24]) rfl) ?_ ?_
 refine sx 4 ?_
 first | refine RunL.splitP (t := 209) rfl (fun g18 => ?_) (fun g18 => ?_) | refine RunL.split (t := 209) rfl (fun g18 => ?_) (fun g18 => ?_)
 refine sx 4 ?_
 exact RunL.nil ⟨.cons (by first | rfl | (show some (Value.bool _) = some (Value.bool _); rw [decide_eq_false (show ¬ (d < d + m - x ∧ d + m - x < e) by omega)]) | (show some (Value.bool _) = some (Value.bool _); exact congrArg (fun b => some (Value.bool b)) (decide_eq_decide.2 (by omega))) | (show some (Value.bool _) = some (Value.bool _); simp_all)) (kt (ks := [0, 3, 4, 18, 24]) rfl), rfl⟩
 refine sx 4 ?_
 exact RunL.nil ⟨.cons (by first | rfl | (show some (Value.bool _) = some (Value.bool _); rw [decide_eq_false (show ¬ (d < d + m - x ∧ d + m - x < e) by omega)]) | (show some (Value.bool _) = some (Value.bool _); exact congrArg (fun b => some (Value.bool b)) (decide_eq_decide.2 (by omega))) | (show some (Value.bool _) = some (Value.bool _); simp_all)) (kt (ks := [0, 3, 4, 18, 24]) rfl), rfl⟩
 first | refine Run.if rfl (fun h19 => ?_) (fun h19 => ?_) | refine Run.cond rfl (fun h19 => ?_) (fun h19 => ?_)
 refine Run.region ?_
 refine sx 5 ?_
 refine RunL.callX C186 rfl rfl rfl (ih d (d + m - x) e g2 (by omega) (by omega) (hc.p3.congr fun k z1 z2 => hg2.1.out (by omega)) (hc.p4.congr fun k z1 z2 => hg2.1.out (by omega))) tks fun g3 hg3 => ?_
 refine kp [] rfl ?_
 exact ret_out g3 .nil ⟨(((Re.rot (by omega) (by omega)).wide (by omega) (by omega)).trans (hg2.1.wide (by omega) (by omega))).trans (hg3.1.wide (by omega) (by omega)), So.join hc.lr hg2.1 hg2.2 hg3.1 hg3.2⟩ rfl gv
 obtain ⟨g3, e3, hg3⟩ : ∃ g3, g3 = g2 ∧ Re d e g2 g3 ∧ So leK d e g3 := ⟨_, rfl, Re.refl, (hc.right (by assumption) q6 q5).congr fun k z1 z2 => hg2.1.out (by omega)⟩
 rw [← e3]
 refine Run.skip ?_
 exact ret_out g3 .nil ⟨(((Re.rot (by omega) (by omega)).wide (by omega) (by omega)).trans (hg2.1.wide (by omega) (by omega))).trans (hg3.1.wide (by omega) (by omega)), So.join hc.lr hg2.1 hg2.2 hg3.1 hg3.2⟩ rfl gv
end
theorem c_symM (N s m e : Nat) (fid : Nat) (cp : List Value) (F : HP) (C : CI Tryz.prog fid) (hf : ∀ x y : Cl, AC Tryz.prog fid ⟨[.agg ⟨x.c⟩, .agg ⟨y.c⟩] ++ cp⟩ (stars [F]) (Ret (I (cmpK x.k y.k)) [F])) (b cap n : Nat) (f : Nat → Cl) (hn : n ≤ 100000) (hse : s < m ∧ m < e ∧ e ≤ n) (hs1 : So leK s m f) (hs2 : So leK m e f) (hN : e - s ≤ N) : AC Tryz.prog 186 ⟨[.slice (some ⟨b, 0, none⟩) n cap, I s, I m, I e, .func (.func fid) ⟨[]⟩ ⟨cp⟩]⟩ (stars [own 63 7 (some ⟨b, 0, none⟩) n cap ((asL n (f)).flatMap Cl.c), F]) (Outs (fun g : Nat → Cl => Re s e f g ∧ So leK s e g) (fun _ => .tuple ⟨[]⟩) (fun g => [own 63 7 (some ⟨b, 0, none⟩) n cap ((asL n (g)).flatMap Cl.c), F])) := by
  induction N generalizing s m e f with
  | zero => omega
  | succ N ih => exact c_symS s m e fid cp F C hf b cap n f hn hse hs1 hs2 fun s' m' e' f' hlt h1 h2 h3 => ih s' m' e' f' h1 h2 h3 (by omega)
section
attribute [local irreducible] OpJ RunL Run RunD DetJ pt own star Rd RdS
theorem c_stable (fid : Nat) (cp : List Value) (F : HP) (C : CI Tryz.prog fid) (hf : ∀ x y : Cl, AC Tryz.prog fid ⟨[.agg ⟨x.c⟩, .agg ⟨y.c⟩] ++ cp⟩ (stars [F]) (Ret (I (cmpK x.k y.k)) [F])) (b cap n : Nat) (f : Nat → Cl) (hn : n ≤ 100000) : AC Tryz.prog 169 ⟨[.slice (some ⟨b, 0, none⟩) n cap, I n, .func (.func fid) ⟨[]⟩ ⟨cp⟩]⟩ (stars [own 63 7 (some ⟨b, 0, none⟩) n cap ((asL n (f)).flatMap Cl.c), F]) (Outs (fun g : Nat → Cl => Re 0 n f g ∧ So leK 0 n g) (fun _ => .tuple ⟨[]⟩) (fun g => [own 63 7 (some ⟨b, 0, none⟩) n cap ((asL n (g)).flatMap Cl.c), F])) := by
 refine AC.go Tryz.func169 rfl (Nat.le_of_ble_eq_true rfl) fun β => ?_
 refine sr ?_
 refine asg rfl rfl ?_
 refine kp [0, 1, 2, 6] rfl ?_
 refine sr ?_
 refine sx 3 ?_
 refine kp [0, 1, 2, 6, 7, 8] rfl ?_
 refine Run.seq ?_
 refine Run.block ?_
 refine Run.loop (fun mm E L => ∃ (k : Nat) (g : Nat → Cl), mm = n + 20 - k * 20 ∧ k * 20 ≤ n ∧ Re 0 n f g ∧ (∀ q, q < k → So leK (q * 20) (q * 20 + 20) g) ∧ E = [(0, .slice (some ⟨b, 0, none⟩) n cap), (1, I n), (2, .func (.func fid) ⟨[]⟩ ⟨cp⟩), (6, I 20), (7, I ((k * 20 : Nat) : Int)), (8, I ((k * 20 + 20 : Nat) : Int))] ∧ L = [own 63 7 (some ⟨b, 0, none⟩) n cap ((asL n (g)).flatMap Cl.c), F]) ⟨_, 0, f, rfl, by omega, Re.refl, (fun q hq => by omega), rfl, rfl⟩ ?_
 rintro _ _ _ ⟨k, g, rfl, hk, hre, hso, rfl, rfl⟩
 refine Run.seq ?_
 refine sr ?_
 refine sx 3 ?_
 refine kp [0, 1, 2, 6, 7, 8, 13] rfl ?_
 first | refine Run.if rfl (fun h1 => ?_) (fun h1 => ?_) | refine Run.cond rfl (fun h1 => ?_) (fun h1 => ?_)
 refine Run.skip ?_
 refine Run.block ?_
 refine sr ?_
 refine sx 4 ?_
 refine RunL.callX C185 rfl rfl rfl (c_isort (k * 20) (k * 20 + 20) fid cp F C hf b cap n g hn (by omega)) tks fun h hh => ?_
 refine kp [0, 1, 2, 6, 8] rfl ?_
 refine sr ?_
 refine sx 2 ?_
 refine kp [0, 1, 2, 6, 7, 8] rfl ?_
 refine Run.region ?_
 refine sx 4 ?_
 refine RunL.weak (E' := [(0, .slice (some ⟨b, 0, none⟩) n cap), (1, I n), (2, .func (.func fid) ⟨[]⟩ ⟨cp⟩), (6, I 20), (7, I (((k + 1) * 20 : Nat) : Int)), (8, I (((k + 1) * 20 + 20 : Nat) : Int))]) (L' := [own 63 7 (some ⟨b, 0, none⟩) n cap ((asL n (h)).flatMap Cl.c), F]) (by rw [show (((k + 1) * 20 : Nat) : Int) = ((k * 20 + 20 : Nat) : Int) by omega, show (((k + 1) * 20 + 20 : Nat) : Int) = ((k * 20 + 20 : Nat) : Int) + 20 by omega]; exact Keep.sub (kt (ks := [0, 1, 2, 6, 7, 8]) rfl)) gv (RunL.nil ?_)
 exact ⟨_, by omega, k + 1, h, rfl, by omega, hre.trans (hh.1.wide (by omega) (by omega)), (fun q hq => by { by_cases e : q = k; (subst e; exact hh.2); exact (hso q (by omega)).congr fun i z1 z2 => hh.1.out (by omega) }), rfl, rfl⟩
 refine Run.exit ?_
 refine sr ?_
 refine sx 4 ?_
 refine RunL.callX C185 rfl rfl rfl (c_isort (k * 20) n fid cp F C hf b cap n g hn (by omega)) tks fun h hh => ?_
 refine kp [0, 1, 2, 6] rfl ?_
 refine Run.block ?_
 have hblk : Blk leK 20 n h := Blk.of (k := k) (fun q hq => (hso q hq).congr fun i z1 z2 => hh.1.out (by omega)) (by omega) (by omega) hh.2
 have hre2 := hre.trans (hh.1.wide (by omega) (by omega))
 refine Run.loop (fun mm E L => ∃ (w : Nat) (g : Nat → Cl), mm = n - w ∧ 20 ≤ w ∧ w ≤ 200000 ∧ Re 0 n f g ∧ Blk leK w n g ∧ E = [(0, .slice (some ⟨b, 0, none⟩) n cap), (1, I n), (2, .func (.func fid) ⟨[]⟩ ⟨cp⟩), (6, I w)] ∧ L = [own 63 7 (some ⟨b, 0, none⟩) n cap ((asL n (g)).flatMap Cl.c), F]) ⟨_, 20, h, rfl, by omega, by omega, hre2, hblk, rfl, rfl⟩ ?_
 rintro _ _ _ ⟨w, g, rfl, hw, hw2, hre3, hbl, rfl, rfl⟩
 refine Run.seq ?_
 refine sr ?_
 refine sx 3 ?_
 refine kp [0, 1, 2, 6, 30] rfl ?_
 first | refine Run.if rfl (fun h2 => ?_) (fun h2 => ?_) | refine Run.cond rfl (fun h2 => ?_) (fun h2 => ?_)
 refine Run.skip ?_
 refine Run.block ?_
 refine sr ?_
 refine sx 2 ?_
 refine RunL.set (v := I ((0 * (2 * w) + 2 * w : Nat) : Int)) (congrArg I (by rw [wrap_i64_in (by omega)]; omega)) ?_
 refine sx 2 ?_
 refine kp [0, 1, 2, 6, 7, 8] rfl ?_
 refine Run.seq ?_
 refine Run.block ?_
 refine Run.loop (fun mm E L => ∃ (k : Nat) (h : Nat → Cl), mm = n + 2 * w - k * (2 * w) ∧ k * (2 * w) ≤ n ∧ Re 0 n f h ∧ Mid leK w n k h ∧ E = [(0, .slice (some ⟨b, 0, none⟩) n cap), (1, I n), (2, .func (.func fid) ⟨[]⟩ ⟨cp⟩), (6, I w), (7, I ((k * (2 * w) : Nat) : Int)), (8, I ((k * (2 * w) + 2 * w : Nat) : Int))] ∧ L = [own 63 7 (some ⟨b, 0, none⟩) n cap ((asL n (h)).flatMap Cl.c), F]) ⟨_, 0, g, rfl, by omega, hre3, Mid.start hbl, (by simp only [Nat.zero_mul, Nat.zero_add]; rfl), rfl⟩ ?_
 rintro _ _ _ ⟨k, h, rfl, hk, hre4, hmid, rfl, rfl⟩
 refine Run.seq ?_
 refine sr ?_
 refine sx 3 ?_
 refine kp [0, 1, 2, 6, 7, 8, 35] rfl ?_
 first | refine Run.if rfl (fun h3 => ?_) (fun h3 => ?_) | refine Run.cond rfl (fun h3 => ?_) (fun h3 => ?_)
 refine Run.skip ?_
 refine Run.block ?_
 refine sr ?_
 refine sx 5 ?_
 refine RunL.set (v := I ((k * (2 * w) + w : Nat) : Int)) (congrArg I (by omega)) ?_
 refine sx 2 ?_
 refine RunL.callX C186 rfl rfl rfl (c_symM _ (k * (2 * w)) (k * (2 * w) + w) (k * (2 * w) + 2 * w) fid cp F C hf b cap n h hn (by omega) (hmid.left (by omega)) (by have := hmid.right; rw [Nat.min_eq_left (by omega)] at this; exact this) (Nat.le_refl _)) tks fun u hu => ?_
 refine kp [0, 1, 2, 6, 8] rfl ?_
 refine sr ?_
 refine sx 2 ?_
 refine kp [0, 1, 2, 6, 7, 8] rfl ?_
 refine Run.region ?_
 refine sx 3 ?_
 refine RunL.set (v := I (2 * (w : Int))) (congrArg I (by rw [wrap_i64_in (by omega)])) ?_
 refine sx 2 ?_
 have hkm : (k + 1) * (2 * w) = k * (2 * w) + 2 * w := by rw [Nat.add_mul, Nat.one_mul]
 refine RunL.weak (E' := [(0, .slice (some ⟨b, 0, none⟩) n cap), (1, I n), (2, .func (.func fid) ⟨[]⟩ ⟨cp⟩), (6, I w), (7, I (((k + 1) * (2 * w) : Nat) : Int)), (8, I (((k + 1) * (2 * w) + 2 * w : Nat) : Int))]) (L' := [own 63 7 (some ⟨b, 0, none⟩) n cap ((asL n (u)).flatMap Cl.c), F]) (by rw [hkm, show ((k * (2 * w) + 2 * w + 2 * w : Nat) : Int) = ((k * (2 * w) + 2 * w : Nat) : Int) + 2 * (w : Int) by omega]; exact Keep.sub (kt (ks := [0, 1, 2, 6, 7, 8]) rfl)) gv (RunL.nil ?_)
 exact ⟨_, by omega, k + 1, u, rfl, by omega, hre4.trans (hu.1.wide (by omega) (by omega)), hmid.next (by omega) hu.1 hu.2, rfl, rfl⟩
 refine Run.exit ?_
 refine Run.seq ?_
 refine sr ?_
 refine sx 3 ?_
 refine RunL.set (v := I ((k * (2 * w) + w : Nat) : Int)) (congrArg I (by omega)) ?_
 refine asg rfl rfl ?_
 refine kp [0, 1, 2, 6, 7, 9] rfl ?_
 refine sr ?_
 refine sx 3 ?_
 refine kp [0, 1, 2, 6, 7, 9, 54] rfl ?_
 first | refine Run.if rfl (fun h4 => ?_) (fun h4 => ?_) | refine Run.cond rfl (fun h4 => ?_) (fun h4 => ?_)
 refine Run.region ?_
 refine sx 5 ?_
 refine RunL.callX C186 rfl rfl rfl (c_symM _ (k * (2 * w)) (k * (2 * w) + w) n fid cp F C hf b cap n h hn (by omega) (hmid.left (by omega)) (by have := hmid.right; rw [Nat.min_eq_right (by omega)] at this; exact this) (Nat.le_refl _)) tks fun u hu => ?_
 refine kp [0, 1, 2, 6] rfl ?_
 refine Run.region ?_
 refine sx 2 ?_
 refine RunL.set (v := I ((w * 2 : Nat) : Int)) (congrArg I (by rw [wrap_i64_in (by omega)]; omega)) ?_
 refine asg rfl rfl ?_
 refine RunL.weak (L' := [own 63 7 (some ⟨b, 0, none⟩) n cap ((asL n (u)).flatMap Cl.c), F]) (Keep.sub (kt (ks := [0, 1, 2, 6]) rfl)) gv (RunL.nil ?_)
 exact ⟨_, by omega, w * 2, u, rfl, by omega, by omega, hre4.trans (hu.1.wide (by omega) (by omega)), (by rw [Nat.mul_comm w 2]; exact hmid.done (by omega) hk hu.1 hu.2), rfl, rfl⟩
 refine Run.skip ?_
 refine Run.region ?_
 refine sx 2 ?_
 refine RunL.set (v := I ((w * 2 : Nat) : Int)) (congrArg I (by rw [wrap_i64_in (by omega)]; omega)) ?_
 refine asg rfl rfl ?_
 refine RunL.weak (L' := [own 63 7 (some ⟨b, 0, none⟩) n cap ((asL n (h)).flatMap Cl.c), F]) (Keep.sub (kt (ks := [0, 1, 2, 6]) rfl)) gv (RunL.nil ?_)
 exact ⟨_, by omega, w * 2, h, rfl, by omega, by omega, hre4, (by rw [Nat.mul_comm w 2]; exact hmid.done (by omega) hk Re.refl (hmid.tail (by omega) (by omega))), rfl, rfl⟩
 refine Run.exit ?_
 exact ret_out g .nil ⟨hre3, hbl.all (by omega)⟩ rfl gv
theorem c_SortS (fid : Nat) (cp : List Value) (F : HP) (C : CI Tryz.prog fid) (hf : ∀ x y : Cl, AC Tryz.prog fid ⟨[.agg ⟨x.c⟩, .agg ⟨y.c⟩] ++ cp⟩ (stars [F]) (Ret (I (cmpK x.k y.k)) [F])) (b cap n : Nat) (f : Nat → Cl) (hn : n ≤ 100000) : AC Tryz.prog 146 ⟨[.slice (some ⟨b, 0, none⟩) n cap, .func (.func fid) ⟨[]⟩ ⟨cp⟩]⟩ (stars [own 63 7 (some ⟨b, 0, none⟩) n cap ((asL n (f)).flatMap Cl.c), F]) (Outs (fun g : Nat → Cl => Re 0 n f g ∧ So leK 0 n g) (fun _ => .tuple ⟨[]⟩) (fun g => [own 63 7 (some ⟨b, 0, none⟩) n cap ((asL n (g)).flatMap Cl.c), F])) := by
 refine AC.go Tryz.func146 rfl (Nat.le_of_ble_eq_true rfl) fun β => ?_
 refine Run.region ?_
 refine sx 4 ?_
 refine RunL.callX C169 rfl rfl rfl (c_stable fid cp F C hf b cap n f hn) tks fun g hg => ?_
 refine kp [] rfl ?_
 exact ret_out g .nil hg rfl gv
end
instance xCmp : XI Tryz.prog 187 Extern.BytealgCompare.compare := ⟨⟨Tryz.f187, Tryz.func187, by kernel_rfl, by kernel_rfl, by kernel_rfl, by kernel_rfl⟩⟩
section
attribute [local irreducible] OpJ RunL Run RunD DetJ pt own star Rd RdS
theorem c_cmpStr (a b : ByteArray) : AC Tryz.prog 170 ⟨[St a, St b]⟩ (stars []) (Ret (I (cmpS a b)) []) := by
 refine AC.go Tryz.func170 rfl (Nat.le_of_ble_eq_true rfl) fun β => ?_
 refine sr ?_
 refine asg rfl rfl ?_
 refine kp [0, 1] rfl ?_
 refine sr ?_
 refine sx 2 ?_
 refine RunL.op rfl rfl (OpJ.ext xCmp rfl (fun w => run_cmpS _ _ w) ?_)
 refine asg rfl rfl ?_
 refine kp [4] rfl ?_
 refine Run.ret ?_
 exact ret_one (.tmp rfl .nil) (by simp [tup, *]) gv
theorem c_Compare (a b : ByteArray) : AC Tryz.prog 149 ⟨[St a, St b]⟩ (stars []) (Ret (I (cmpS a b)) []) := by
 refine AC.go Tryz.func149 rfl (Nat.le_of_ble_eq_true rfl) fun β => ?_
 refine sr ?_
 refine asg rfl rfl ?_
 refine kp [0, 1] rfl ?_
 refine sr ?_
 refine sx 2 ?_
 refine RunL.call C170 rfl rfl rfl (c_cmpStr _ _) .nil ?_
 refine asg rfl rfl ?_
 refine kp [4] rfl ?_
 refine Run.ret ?_
 exact ret_one (.tmp rfl .nil) (by simp [tup, *]) gv
theorem c_parts (k : Ky) : AC Tryz.prog 148 ⟨[.agg ⟨k.c⟩]⟩ (stars []) (Ret (.agg ⟨k.c⟩) []) := by
 refine AC.go Tryz.func148 rfl (Nat.le_of_ble_eq_true rfl) fun β => ?_
 refine sr ?_
 refine RunL.op rfl rfl (OpJ.boxA rfl fun b1 => ?_)
 refine RunL.op rfl rfl (OpJ.alloc Z204 fun b2 => ?_)
 refine kp [1, 2] rfl ?_
 refine sr ?_
 refine sx 11 ?_
 refine RunL.op rfl rfl (OpJ.storeW T204 rfl rfl rfl rfl (by simp [Value.oneCell', Tg.c, Ln.c, En.c, Ac.c, Cl.c, Ky.c, Qy.c, Sb, Iv]) up ?_)
 refine kp [2] rfl ?_
 refine Run.ret ?_
 exact ret_one (.cellA T204 rfl pk (by rfl) .nil) (rfl) gv
theorem c_Cmp (a b : Ky) : AC Tryz.prog 97 ⟨[.agg ⟨a.c⟩, .agg ⟨b.c⟩]⟩ (stars []) (Ret (I (cmpK a b)) []) := by
 refine AC.go Tryz.func97 rfl (Nat.le_of_ble_eq_true rfl) fun β => ?_
 refine sr ?_
 refine RunL.op rfl rfl (OpJ.boxA rfl fun b2 => ?_)
 refine RunL.op rfl rfl (OpJ.boxA rfl fun b3 => ?_)
 refine asg rfl rfl ?_
 refine kp [2, 3] rfl ?_
 refine Run.seq ?_
 refine regionD HM ?_
 refine RunD.mono (K' := fun E' L' => ∃ b5 : Nat, ∃ b6 : Nat, E' = [(5, .pointer (some ⟨b5, 0, none⟩)), (6, .pointer (some ⟨b6, 0, none⟩))] ∧ L' = [pt b5 (blk a.c 204), pt b6 (blk b.c 204)]) ?_ ?_
 first | refine RunD.takeW 0 rfl rfl kr T61 rfl pk (by rfl) ?_ | refine RunD.takeP 0 rfl rfl kr T61 rfl pk (by simp) ?_ | refine RunD.takeE 0 rfl rfl kr T61 rfl pk (by assumption) (by exact fun _ => rfl) rfl (by decide) ?_
 first | refine RunD.takeW 2 rfl rfl kr T61 rfl pk (by rfl) ?_ | refine RunD.takeP 2 rfl rfl kr T61 rfl pk (by simp) ?_ | refine RunD.takeE 2 rfl rfl kr T61 rfl pk (by assumption) (by exact fun _ => rfl) rfl (by decide) ?_
 refine RunD.three 1 4 5 [true, false] [true, true] [true, true] rfl rfl rfl rfl rfl rfl rfl rfl rfl kr kr kr kr (OpJ.callRet C148 rfl rfl (c_parts a) .nil ⟨po, ?_⟩) (OpJ.alloc Z204 fun b5 => ⟨po, ?_⟩) (OpJ.alloc Z204 fun b6 => ⟨po, ?_⟩)
 refine RunD.three 3 4 5 [false] [true] [true] rfl rfl rfl rfl rfl rfl rfl rfl rfl kr kr kr kr (OpJ.callRet C148 rfl rfl (c_parts b) .nil ⟨po, ?_⟩) (OpJ.alloc Z204 fun b5 => ⟨po, ?_⟩) (OpJ.alloc Z204 fun b6 => ⟨po, ?_⟩)
 refine RunD.two 4 5 [] [] rfl rfl rfl rfl rfl rfl kr kr kr (OpJ.alloc Z204 fun b5 => ⟨po, ?_⟩) (OpJ.alloc Z204 fun b6 => ⟨po, ?_⟩)
 refine RunD.op 5 [] rfl rfl rfl kr kr (OpJ.alloc Z204 fun b6 => ⟨po, ?_⟩)
 refine RunD.op 6 [] rfl rfl rfl kr kr (OpJ.storeW T204 rfl rfl rfl rfl (by simp [Value.oneCell', Tg.c, Ln.c, En.c, Ac.c, Cl.c, Ky.c, Qy.c, Sb, Iv]) up ⟨po, ?_⟩)
 refine RunD.op 7 [] rfl rfl rfl kr kr (OpJ.storeW T204 rfl rfl rfl rfl (by simp [Value.oneCell', Tg.c, Ln.c, En.c, Ac.c, Cl.c, Ky.c, Qy.c, Sb, Iv]) up ⟨po, ?_⟩)
 exact RunD.weak (E' := [(5, .pointer (some ⟨b5, 0, none⟩)), (6, .pointer (some ⟨b6, 0, none⟩))]) (L' := [pt b5 (blk a.c 204), pt b6 (blk b.c 204)]) (Keep.sub (kt (ks := [5, 6]) rfl)) gv (RunD.done kr ⟨_, _, rfl, rfl⟩)
 refine RunD.op 4 [] rfl rfl rfl kr kr (OpJ.alloc Z204 fun b5 => ⟨po, ?_⟩)
 refine RunD.op 6 [] rfl rfl rfl kr kr (OpJ.storeW T204 rfl rfl rfl rfl (by simp [Value.oneCell', Tg.c, Ln.c, En.c, Ac.c, Cl.c, Ky.c, Qy.c, Sb, Iv]) up ⟨po, ?_⟩)
 refine RunD.op 7 [] rfl rfl rfl kr kr (OpJ.storeW T204 rfl rfl rfl rfl (by simp [Value.oneCell', Tg.c, Ln.c, En.c, Ac.c, Cl.c, Ky.c, Qy.c, Sb, Iv]) up ⟨po, ?_⟩)
 exact RunD.weak (E' := [(5, .pointer (some ⟨b5, 0, none⟩)), (6, .pointer (some ⟨b6, 0, none⟩))]) (L' := [pt b5 (blk a.c 204), pt b6 (blk b.c 204)]) (Keep.sub (kt (ks := [5, 6]) rfl)) gv (RunD.done kr ⟨_, _, rfl, rfl⟩)
 refine RunD.two 3 5 [false] [true] rfl rfl rfl rfl rfl rfl kr kr kr (OpJ.callRet C148 rfl rfl (c_parts b) .nil ⟨po, ?_⟩) (OpJ.alloc Z204 fun b6 => ⟨po, ?_⟩)
 refine RunD.op 5 [] rfl rfl rfl kr kr (OpJ.alloc Z204 fun b6 => ⟨po, ?_⟩)
 refine RunD.op 6 [] rfl rfl rfl kr kr (OpJ.storeW T204 rfl rfl rfl rfl (by simp [Value.oneCell', Tg.c, Ln.c, En.c, Ac.c, Cl.c, Ky.c, Qy.c, Sb, Iv]) up ⟨po, ?_⟩)
 refine RunD.op 7 [] rfl rfl rfl kr kr (OpJ.storeW T204 rfl rfl rfl rfl (by simp [Value.oneCell', Tg.c, Ln.c, En.c, Ac.c, Cl.c, Ky.c, Qy.c, Sb, Iv]) up ⟨po, ?_⟩)
 exact RunD.weak (E' := [(5, .pointer (some ⟨b5, 0, none⟩)), (6, .pointer (some ⟨b6, 0, none⟩))]) (L' := [pt b5 (blk a.c 204), pt b6 (blk b.c 204)]) (Keep.sub (kt (ks := [5, 6]) rfl)) gv (RunD.done kr ⟨_, _, rfl, rfl⟩)
 refine RunD.op 3 [false] rfl rfl rfl kr kr (OpJ.callRet C148 rfl rfl (c_parts b) .nil ⟨po, ?_⟩)
 refine RunD.op 6 [] rfl rfl rfl kr kr (OpJ.storeW T204 rfl rfl rfl rfl (by simp [Value.oneCell', Tg.c, Ln.c, En.c, Ac.c, Cl.c, Ky.c, Qy.c, Sb, Iv]) up ⟨po, ?_⟩)
 refine RunD.op 7 [] rfl rfl rfl kr kr (OpJ.storeW T204 rfl rfl rfl rfl (by simp [Value.oneCell', Tg.c, Ln.c, En.c, Ac.c, Cl.c, Ky.c, Qy.c, Sb, Iv]) up ⟨po, ?_⟩)
 exact RunD.weak (E' := [(5, .pointer (some ⟨b5, 0, none⟩)), (6, .pointer (some ⟨b6, 0, none⟩))]) (L' := [pt b5 (blk a.c 204), pt b6 (blk b.c 204)]) (Keep.sub (kt (ks := [5, 6]) rfl)) gv (RunD.done kr ⟨_, _, rfl, rfl⟩)
 refine RunD.two 3 4 [false] [true] rfl rfl rfl rfl rfl rfl kr kr kr (OpJ.callRet C148 rfl rfl (c_parts b) .nil ⟨po, ?_⟩) (OpJ.alloc Z204 fun b5 => ⟨po, ?_⟩)
 refine RunD.op 4 [] rfl rfl rfl kr kr (OpJ.alloc Z204 fun b5 => ⟨po, ?_⟩)
 refine RunD.op 6 [] rfl rfl rfl kr kr (OpJ.storeW T204 rfl rfl rfl rfl (by simp [Value.oneCell', Tg.c, Ln.c, En.c, Ac.c, Cl.c, Ky.c, Qy.c, Sb, Iv]) up ⟨po, ?_⟩)
 refine RunD.op 7 [] rfl rfl rfl kr kr (OpJ.storeW T204 rfl rfl rfl rfl (by simp [Value.oneCell', Tg.c, Ln.c, En.c, Ac.c, Cl.c, Ky.c, Qy.c, Sb, Iv]) up ⟨po, ?_⟩)
 exact RunD.weak (E' := [(5, .pointer (some ⟨b5, 0, none⟩)), (6, .pointer (some ⟨b6, 0, none⟩))]) (L' := [pt b5 (blk a.c 204), pt b6 (blk b.c 204)]) (Keep.sub (kt (ks := [5, 6]) rfl)) gv (RunD.done kr ⟨_, _, rfl, rfl⟩)
 refine RunD.op 3 [false] rfl rfl rfl kr kr (OpJ.callRet C148 rfl rfl (c_parts b) .nil ⟨po, ?_⟩)
 refine RunD.op 6 [] rfl rfl rfl kr kr (OpJ.storeW T204 rfl rfl rfl rfl (by simp [Value.oneCell', Tg.c, Ln.c, En.c, Ac.c, Cl.c, Ky.c, Qy.c, Sb, Iv]) up ⟨po, ?_⟩)
 refine RunD.op 7 [] rfl rfl rfl kr kr (OpJ.storeW T204 rfl rfl rfl rfl (by simp [Value.oneCell', Tg.c, Ln.c, En.c, Ac.c, Cl.c, Ky.c, Qy.c, Sb, Iv]) up ⟨po, ?_⟩)
 exact RunD.weak (E' := [(5, .pointer (some ⟨b5, 0, none⟩)), (6, .pointer (some ⟨b6, 0, none⟩))]) (L' := [pt b5 (blk a.c 204), pt b6 (blk b.c 204)]) (Keep.sub (kt (ks := [5, 6]) rfl)) gv (RunD.done kr ⟨_, _, rfl, rfl⟩)
 refine RunD.two 1 5 [true, false] [true, true] rfl rfl rfl rfl rfl rfl kr kr kr (OpJ.callRet C148 rfl rfl (c_parts a) .nil ⟨po, ?_⟩) (OpJ.alloc Z204 fun b6 => ⟨po, ?_⟩)
 refine RunD.two 3 5 [false] [true] rfl rfl rfl rfl rfl rfl kr kr kr (OpJ.callRet C148 rfl rfl (c_parts b) .nil ⟨po, ?_⟩) (OpJ.alloc Z204 fun b6 => ⟨po, ?_⟩)
 refine RunD.op 5 [] rfl rfl rfl kr kr (OpJ.alloc Z204 fun b6 => ⟨po, ?_⟩)
 refine RunD.op 6 [] rfl rfl rfl kr kr (OpJ.storeW T204 rfl rfl rfl rfl (by simp [Value.oneCell', Tg.c, Ln.c, En.c, Ac.c, Cl.c, Ky.c, Qy.c, Sb, Iv]) up ⟨po, ?_⟩)
 refine RunD.op 7 [] rfl rfl rfl kr kr (OpJ.storeW T204 rfl rfl rfl rfl (by simp [Value.oneCell', Tg.c, Ln.c, En.c, Ac.c, Cl.c, Ky.c, Qy.c, Sb, Iv]) up ⟨po, ?_⟩)
 exact RunD.weak (E' := [(5, .pointer (some ⟨b5, 0, none⟩)), (6, .pointer (some ⟨b6, 0, none⟩))]) (L' := [pt b5 (blk a.c 204), pt b6 (blk b.c 204)]) (Keep.sub (kt (ks := [5, 6]) rfl)) gv (RunD.done kr ⟨_, _, rfl, rfl⟩)
 refine RunD.op 3 [false] rfl rfl rfl kr kr (OpJ.callRet C148 rfl rfl (c_parts b) .nil ⟨po, ?_⟩)
 refine RunD.op 6 [] rfl rfl rfl kr kr (OpJ.storeW T204 rfl rfl rfl rfl (by simp [Value.oneCell', Tg.c, Ln.c, En.c, Ac.c, Cl.c, Ky.c, Qy.c, Sb, Iv]) up ⟨po, ?_⟩)
 refine RunD.op 7 [] rfl rfl rfl kr kr (OpJ.storeW T204 rfl rfl rfl rfl (by simp [Value.oneCell', Tg.c, Ln.c, En.c, Ac.c, Cl.c, Ky.c, Qy.c, Sb, Iv]) up ⟨po, ?_⟩)
 exact RunD.weak (E' := [(5, .pointer (some ⟨b5, 0, none⟩)), (6, .pointer (some ⟨b6, 0, none⟩))]) (L' := [pt b5 (blk a.c 204), pt b6 (blk b.c 204)]) (Keep.sub (kt (ks := [5, 6]) rfl)) gv (RunD.done kr ⟨_, _, rfl, rfl⟩)
 refine RunD.op 1 [true, false] rfl rfl rfl kr kr (OpJ.callRet C148 rfl rfl (c_parts a) .nil ⟨po, ?_⟩)
 refine RunD.op 3 [false] rfl rfl rfl kr kr (OpJ.callRet C148 rfl rfl (c_parts b) .nil ⟨po, ?_⟩)
 refine RunD.op 6 [] rfl rfl rfl kr kr (OpJ.storeW T204 rfl rfl rfl rfl (by simp [Value.oneCell', Tg.c, Ln.c, En.c, Ac.c, Cl.c, Ky.c, Qy.c, Sb, Iv]) up ⟨po, ?_⟩)
 refine RunD.op 7 [] rfl rfl rfl kr kr (OpJ.storeW T204 rfl rfl rfl rfl (by simp [Value.oneCell', Tg.c, Ln.c, En.c, Ac.c, Cl.c, Ky.c, Qy.c, Sb, Iv]) up ⟨po, ?_⟩)
 exact RunD.weak (E' := [(5, .pointer (some ⟨b5, 0, none⟩)), (6, .pointer (some ⟨b6, 0, none⟩))]) (L' := [pt b5 (blk a.c 204), pt b6 (blk b.c 204)]) (Keep.sub (kt (ks := [5, 6]) rfl)) gv (RunD.done kr ⟨_, _, rfl, rfl⟩)
 refine RunD.two 1 4 [true, false] [true, true] rfl rfl rfl rfl rfl rfl kr kr kr (OpJ.callRet C148 rfl rfl (c_parts a) .nil ⟨po, ?_⟩) (OpJ.alloc Z204 fun b5 => ⟨po, ?_⟩)
 refine RunD.two 3 4 [false] [true] rfl rfl rfl rfl rfl rfl kr kr kr (OpJ.callRet C148 rfl rfl (c_parts b) .nil ⟨po, ?_⟩) (OpJ.alloc Z204 fun b5 => ⟨po, ?_⟩)
 refine RunD.op 4 [] rfl rfl rfl kr kr (OpJ.alloc Z204 fun b5 => ⟨po, ?_⟩)
 refine RunD.op 6 [] rfl rfl rfl kr kr (OpJ.storeW T204 rfl rfl rfl rfl (by simp [Value.oneCell', Tg.c, Ln.c, En.c, Ac.c, Cl.c, Ky.c, Qy.c, Sb, Iv]) up ⟨po, ?_⟩)
 refine RunD.op 7 [] rfl rfl rfl kr kr (OpJ.storeW T204 rfl rfl rfl rfl (by simp [Value.oneCell', Tg.c, Ln.c, En.c, Ac.c, Cl.c, Ky.c, Qy.c, Sb, Iv]) up ⟨po, ?_⟩)
 exact RunD.weak (E' := [(5, .pointer (some ⟨b5, 0, none⟩)), (6, .pointer (some ⟨b6, 0, none⟩))]) (L' := [pt b5 (blk a.c 204), pt b6 (blk b.c 204)]) (Keep.sub (kt (ks := [5, 6]) rfl)) gv (RunD.done kr ⟨_, _, rfl, rfl⟩)
 refine RunD.op 3 [false] rfl rfl rfl kr kr (OpJ.callRet C148 rfl rfl (c_parts b) .nil ⟨po, ?_⟩)
 refine RunD.op 6 [] rfl rfl rfl kr kr (OpJ.storeW T204 rfl rfl rfl rfl (by simp [Value.oneCell', Tg.c, Ln.c, En.c, Ac.c, Cl.c, Ky.c, Qy.c, Sb, Iv]) up ⟨po, ?_⟩)
 refine RunD.op 7 [] rfl rfl rfl kr kr (OpJ.storeW T204 rfl rfl rfl rfl (by simp [Value.oneCell', Tg.c, Ln.c, En.c, Ac.c, Cl.c, Ky.c, Qy.c, Sb, Iv]) up ⟨po, ?_⟩)
 exact RunD.weak (E' := [(5, .pointer (some ⟨b5, 0, none⟩)), (6, .pointer (some ⟨b6, 0, none⟩))]) (L' := [pt b5 (blk a.c 204), pt b6 (blk b.c 204)]) (Keep.sub (kt (ks := [5, 6]) rfl)) gv (RunD.done kr ⟨_, _, rfl, rfl⟩)
 refine RunD.op 1 [true, false] rfl rfl rfl kr kr (OpJ.callRet C148 rfl rfl (c_parts a) .nil ⟨po, ?_⟩)
 refine RunD.op 3 [false] rfl rfl rfl kr kr (OpJ.callRet C148 rfl rfl (c_parts b) .nil ⟨po, ?_⟩)
 refine RunD.op 6 [] rfl rfl rfl kr kr (OpJ.storeW T204 rfl rfl rfl rfl (by simp [Value.oneCell', Tg.c, Ln.c, En.c, Ac.c, Cl.c, Ky.c, Qy.c, Sb, Iv]) up ⟨po, ?_⟩)
 refine RunD.op 7 [] rfl rfl rfl kr kr (OpJ.storeW T204 rfl rfl rfl rfl (by simp [Value.oneCell', Tg.c, Ln.c, En.c, Ac.c, Cl.c, Ky.c, Qy.c, Sb, Iv]) up ⟨po, ?_⟩)
 exact RunD.weak (E' := [(5, .pointer (some ⟨b5, 0, none⟩)), (6, .pointer (some ⟨b6, 0, none⟩))]) (L' := [pt b5 (blk a.c 204), pt b6 (blk b.c 204)]) (Keep.sub (kt (ks := [5, 6]) rfl)) gv (RunD.done kr ⟨_, _, rfl, rfl⟩)
 rintro _ _ ⟨b5, b6, rfl, rfl⟩
 refine Run.seq ?_
 refine sr ?_
 refine mvo rfl rfl ?_
 refine kp [5, 6, 13] rfl ?_
 refine Run.block ?_
 refine Run.loop (fun mm E L => ∃ i : Nat, mm = 5 - i ∧ i ≤ 5 ∧ cmpK a b = cmpL (a.l.drop i) (b.l.drop i) ∧ E = [(5, .pointer (some ⟨b5, 0, none⟩)), (6, .pointer (some ⟨b6, 0, none⟩)), (13, I i)] ∧ L = [pt b5 (blk a.c 204), pt b6 (blk b.c 204)]) ⟨_, 0, rfl, Nat.zero_le _, rfl, rfl, rfl⟩ ?_
 rintro _ _ _ ⟨i, rfl, hi, hc, rfl, rfl⟩
 refine sr ?_
 refine sx 1 ?_
 refine kp [5, 6, 13, 14] rfl ?_
 refine Run.seq ?_
 first | refine Run.if rfl (fun h1 => ?_) (fun h1 => ?_) | refine Run.cond rfl (fun h1 => ?_) (fun h1 => ?_)
 refine Run.skip ?_
 refine Run.seq ?_
 refine Run.block ?_
 refine sr ?_
 refine sx 2 ?_
 refine kp [5, 6, 7, 13] rfl ?_
 refine Run.seq ?_
 refine regionD HM ?_
 obtain ⟨x, hx⟩ := get_ex (xs := a.l) (i := i) (by have : a.l.length = 5 := rfl; omega)
 obtain ⟨y, hy⟩ := get_ex (xs := b.l) (i := i) (by have : b.l.length = 5 := rfl; omega)
 have hx2 := Ky.c_at hx
 have hy2 := Ky.c_at hy
 refine tk 0 rfl rfl rfl (DetJ.move rfl) ?_
 refine tk 1 rfl rfl rfl (DetJ.indexAddrArr A204 rfl rfl (by omega)) ?_
 refine RunD.takeF 2 rfl rfl kr T9 rfl pk (by simpa using hx2) ?_
 refine tk 3 rfl rfl rfl (DetJ.move rfl) ?_
 refine tk 4 rfl rfl rfl (DetJ.indexAddrArr A204 rfl rfl (by omega)) ?_
 refine RunD.takeF 5 rfl rfl kr T9 rfl pk (by simpa using hy2) ?_
 refine RunD.op 6 [false, false, false, false, false, false] rfl rfl rfl kr kr (OpJ.callRet C149 rfl rfl (c_Compare _ _) .nil ⟨po, ?_⟩)
 refine tk 7 rfl rfl rfl (DetJ.assign rfl) ?_
 refine kd [5, 6, 8, 13] rfl ?_
 refine sr ?_
 refine sx 2 ?_
 refine kp [5, 6, 8, 13, 24] rfl ?_
 first | refine Run.if rfl (fun h2 => ?_) (fun h2 => ?_) | refine Run.cond rfl (fun h2 => ?_) (fun h2 => ?_)
 refine sr ?_
 refine sx 2 ?_
 refine kp [4] rfl ?_
 refine Run.ret ?_
 exact ret_one (.tmp rfl .nil) (by rw [hc, cmpL_diff hx hy (by simpa using h2)]; rfl) gv
 refine Run.skip ?_
 refine Run.region ?_
 refine sx 2 ?_
 exact RunL.next (Keep.sub (kt (ks := [5, 6, 13]) rfl)) _ ⟨_, by omega, i + 1, rfl, by omega, (by rw [hc]; exact cmpL_same hx hy (by simpa using h2)), rfl, rfl⟩ gv
 refine Run.exit ?_
 refine sr ?_
 refine asg rfl rfl ?_
 refine kp [4] rfl ?_
 refine Run.ret ?_
 exact ret_one (.tmp rfl .nil) (by rw [hc, List.drop_eq_nil_of_le (show a.l.length ≤ i from (by have : a.l.length = 5 := rfl; omega))]; rfl) gv
theorem c_sfar (n : Int) : AC Tryz.prog 100 ⟨[I n]⟩ (stars []) (Ret (Bo (largeB n)) []) := by
 refine AC.go Tryz.func100 rfl (Nat.le_of_ble_eq_true rfl) fun β => ?_
 refine sr ?_
 refine asg rfl rfl ?_
 refine kp [0] rfl ?_
 refine sr ?_
 refine sx 3 ?_
 first | refine RunL.splitP (t := 5) rfl (fun g1 => ?_) (fun g1 => ?_) | refine RunL.split (t := 5) rfl (fun g1 => ?_) (fun g1 => ?_)
 refine sx 4 ?_
 refine kp [2] rfl ?_
 refine Run.ret ?_
 exact ret_one (.tmp rfl .nil) (by first | (simp [tup, largeB,  *]; done) | (exfalso; omega)) gv
 refine sx 4 ?_
 refine kp [2] rfl ?_
 refine Run.ret ?_
 exact ret_one (.tmp rfl .nil) (by first | (simp [tup, largeB,  *]; done) | (exfalso; omega)) gv
theorem c_total (R : HP) (oa : Option Addr) (cap : Nat) (xs : List Int) (hR : RdS R oa (xs.flatMap Iv)) (hx : ∀ x ∈ xs, i64 x) (hl : xs.length ≤ 1000000) : AC Tryz.prog 54 ⟨[.slice oa xs.length cap]⟩ (stars [R]) (Ret (.tuple ⟨[I (sumV xs), Bo (withinB xs.sum)]⟩) [R]) := by
 refine AC.go Tryz.func54 rfl (Nat.le_of_ble_eq_true rfl) fun β => ?_
 refine sr ?_
 refine sx 2 ?_
 refine kp [0] rfl ?_
 refine sr ?_
 refine mvo rfl rfl ?_
 refine RunL.call C99 rfl rfl rfl (c_Sum R _ _ _ (by assumption) (by assumption) (by assumption)) tks ?_
 refine sx 5 ?_
 refine kp [2, 3] rfl ?_
 refine sr ?_
 refine sx 3 ?_
 first | refine RunL.splitP (t := 11) rfl (fun g1 => ?_) (fun g1 => ?_) | refine RunL.split (t := 11) rfl (fun g1 => ?_) (fun g1 => ?_)
 refine sx 1 ?_
 refine RunL.callG C100 rfl rfl rfl rfl rfl (c_sfar _) .nil ?_
 refine sx 4 ?_
 refine kp [2, 3] rfl ?_
 refine Run.ret ?_
 exact ret_one (.tmp rfl (.tmp rfl .nil)) (by rw [within_sum]; simp_all [tup]) gv
 refine sx 6 ?_
 refine kp [2, 3] rfl ?_
 refine Run.ret ?_
 exact ret_one (.tmp rfl (.tmp rfl .nil)) (by rw [within_sum]; simp_all [tup]) gv
theorem c_keyF (x : Cl) : AC Tryz.prog 96 ⟨[.agg ⟨x.c⟩]⟩ (stars []) (Ret (.agg ⟨x.k.c⟩) []) := by
 refine AC.go Tryz.func96 rfl (Nat.le_of_ble_eq_true rfl) fun β => ?_
 refine sr ?_
 refine RunL.op rfl rfl (OpJ.boxA rfl fun b1 => ?_)
 refine RunL.op rfl rfl (OpJ.alloc Z61 fun b2 => ?_)
 refine kp [1, 2] rfl ?_
 refine sr ?_
 refine sx 1 ?_
 refine RunL.op rfl rfl (OpJ.loadP T61 rfl pk (by simp [Cl.c]) ?_)
 refine RunL.op rfl rfl (OpJ.storeW T61 rfl rfl rfl rfl (by simp [Value.oneCell', Tg.c, Ln.c, En.c, Ac.c, Cl.c, Ky.c, Qy.c, Sb, Iv]) up ?_)
 refine kp [2] rfl ?_
 refine Run.ret ?_
 exact ret_one (.cellA T61 rfl pk (by rfl) .nil) (rfl) gv
theorem c_lessF (bc bk : Nat) (x y : Cl) : AC Tryz.prog 147 ⟨[.agg ⟨x.c⟩, .agg ⟨y.c⟩, .pointer (some ⟨bc, 0, none⟩), .pointer (some ⟨bk, 0, none⟩)]⟩ (stars [pt bc (blk [.func (.func 97) ⟨[]⟩ ⟨[]⟩] 167), pt bk (blk [.func (.func 96) ⟨[]⟩ ⟨[]⟩] 166)]) (Ret (I (cmpK x.k y.k)) [pt bc (blk [.func (.func 97) ⟨[]⟩ ⟨[]⟩] 167), pt bk (blk [.func (.func 96) ⟨[]⟩ ⟨[]⟩] 166)]) := by
 refine AC.go Tryz.func147 rfl (Nat.le_of_ble_eq_true rfl) fun β => ?_
 refine sr ?_
 refine RunL.op rfl rfl (OpJ.boxA rfl fun b4 => ?_)
 refine RunL.op rfl rfl (OpJ.boxA rfl fun b5 => ?_)
 refine asg rfl rfl ?_
 refine kp [2, 3, 4, 5] rfl ?_
 refine Run.seq ?_
 refine regionD HM ?_
 first | refine RunD.takeF 0 rfl rfl kr T167 rfl pk (by rfl) ?_ | refine RunD.takeO 0 rfl rfl kr T167 rfl pk (by assumption) (by rfl) (by exact fun _ => rfl) ?_
 first | refine RunD.takeF 1 rfl rfl kr T166 rfl pk (by rfl) ?_ | refine RunD.takeO 1 rfl rfl kr T166 rfl pk (by assumption) (by rfl) (by exact fun _ => rfl) ?_
 first | refine RunD.takeW 2 rfl rfl kr T63 rfl pk (by rfl) ?_ | refine RunD.takeP 2 rfl rfl kr T63 rfl pk (by simp) ?_ | refine RunD.takeE 2 rfl rfl kr T63 rfl pk (by assumption) (by exact fun _ => rfl) rfl (by decide) ?_
 first | refine RunD.takeF 4 rfl rfl kr T166 rfl pk (by rfl) ?_ | refine RunD.takeO 4 rfl rfl kr T166 rfl pk (by assumption) (by rfl) (by exact fun _ => rfl) ?_
 first | refine RunD.takeW 5 rfl rfl kr T63 rfl pk (by rfl) ?_ | refine RunD.takeP 5 rfl rfl kr T63 rfl pk (by simp) ?_ | refine RunD.takeE 5 rfl rfl kr T63 rfl pk (by assumption) (by exact fun _ => rfl) rfl (by decide) ?_
 refine RunD.op 3 [true, true, false, false, true] rfl rfl rfl kr kr (OpJ.callRet C96 rfl rfl (c_keyF x) .nil ⟨po, ?_⟩)
 refine RunD.op 6 [false, false, true] rfl rfl rfl kr kr (OpJ.callRet C96 rfl rfl (c_keyF y) .nil ⟨po, ?_⟩)
 refine RunD.op 7 [false] rfl rfl rfl kr kr (OpJ.callRet C97 rfl rfl (c_Cmp x.k y.k) .nil ⟨po, ?_⟩)
 refine tk 8 rfl rfl rfl (DetJ.assign rfl) ?_
 refine kd [6] rfl ?_
 refine Run.ret ?_
 exact ret_one (.tmp rfl .nil) (by simp [tup, *]) gv
theorem cl_Cell (R : HP) (oa : Option Addr) (cap : Nat) (ls : List Cl) (hR : RdS R oa (ls.flatMap Cl.c)) (hlen : ls.length ≤ 1000000) : AC Tryz.prog 145 ⟨[.slice oa ls.length cap]⟩ (stars [R]) (Outs (fun _ : Option Addr × Nat => True) (fun x => .slice x.1 ls.length x.2) (fun x => [own 63 7 x.1 ls.length x.2 (ls.flatMap Cl.c), R])) := by
 refine AC.go Tryz.func145 rfl (Nat.le_of_ble_eq_true rfl) fun β => ?_
 refine sr ?_
 refine asg rfl rfl ?_
 refine kp [0] rfl ?_
 refine Run.seq ?_
 refine sr ?_
 refine sx 2 ?_
 refine kp [0, 4] rfl ?_
 first | refine Run.if rfl (fun h1 => ?_) (fun h1 => ?_) | refine Run.cond rfl (fun h1 => ?_) (fun h1 => ?_)
 refine sr ?_
 by_cases hne : ls.flatMap Cl.c ≠ []
 refine RunL.rdOpen pk hR hne fun b o e hrd => ?_
 rw [e] at h1
 cases h1
 obtain rfl : ls = [] := by
   cases ls with
   | nil => rfl
   | cons l ls => exact absurd (by simp [Cl.c]) hne
 refine RunL.ownNil 63 7 ?_
 refine asg rfl rfl ?_
 refine kp [2] rfl ?_
 refine Run.ret ?_
 exact ret_out (none, 0) (.tmp rfl .nil) trivial rfl gv
 refine Run.skip ?_
 refine sr ?_
 refine RunL.op rfl rfl (OpJ.buildSlice0 S32 fun b5 => ?_)
 refine mvo rfl rfl ?_
 refine RunL.op rfl rfl (OpJ.appendAll S32 M63 rfl rfl pk pk hR (flat_len (enc := Cl.c) (k := 7) (fun _ => rfl) _) (by decide) (flat_one cl1 _) (by omega) (by omega) fun a7 c7 => ?_)
 simp only [Nat.zero_add, List.nil_append]
 refine asg rfl rfl ?_
 refine kp [2] rfl ?_
 refine Run.ret ?_
 exact ret_out (a7, c7) (.tmp rfl .nil) trivial rfl gv
end
theorem c_totalN (R : HP) (oa : Option Addr) (cap n : Nat) (xs : List Int) (hn : n = xs.length) (hR : RdS R oa (xs.flatMap Iv)) (hx : ∀ x ∈ xs, i64 x) (hl : xs.length ≤ 1000000) : AC Tryz.prog 54 ⟨[.slice oa n cap]⟩ (stars [R]) (Ret (.tuple ⟨[I (sumV xs), Bo (withinB xs.sum)]⟩) [R]) := by subst hn; exact c_total R oa cap xs hR hx hl
section
attribute [local irreducible] OpJ RunL Run RunD DetJ pt own star Rd RdS
theorem c_Ofadd (R : HP) (gb go gc : Nat) (g : List Cl) (hR : Rd R ⟨gb, go, none⟩ (g.flatMap Cl.c)) (hg : g ≠ []) (hl : g.length ≤ 100000) (h64 : ∀ x ∈ g, i64 x.amt ∧ i64 x.base) (k : Ky) (hk : ∀ x ∈ g, x.k = k) (bp : Nat) (aa : Option Addr) (ac : Nat) (acc : List Cl) (hacc : acc.length ≤ 1000000) : AC Tryz.prog 94 ⟨[.slice (some ⟨gb, go, none⟩) g.length gc, .pointer (some ⟨bp, 0, none⟩)]⟩ (stars [R, pt bp (blk [.slice aa acc.length ac] 32), own 63 7 aa acc.length ac (acc.flatMap Cl.c)]) (Outs (fun _ : Option Addr × Nat => True) (fun _ => Bo (okG g)) (fun y => [R, pt bp (blk [.slice y.1 (accG acc g k).length y.2] 32), own 63 7 y.1 (accG acc g k).length y.2 ((accG acc g k).flatMap Cl.c)])) := by
 have hpos : 0 < g.length := List.length_pos_iff.2 hg
 obtain ⟨x0, hx0⟩ := get_ex (xs := g) (i := 0) (by omega)
 have hk0 := hk x0 (List.mem_of_getElem? hx0)
 have hkey : Rd R ⟨gb, go + 0 * 7 + 0, none⟩ k.c := by { have h := Rd.elem (k := 7) (fun _ => rfl) hR hx0; rw [← hk0]; exact Rd.pre (vs := [I x0.amt, I x0.base]) h }
 have ham : ∀ v ∈ g.map Cl.amt, i64 v := fun v hv => by { obtain ⟨x, hx, rfl⟩ := List.mem_map.1 hv; exact (h64 x hx).1 }
 have hbm : ∀ v ∈ g.map Cl.base, i64 v := fun v hv => by { obtain ⟨x, hx, rfl⟩ := List.mem_map.1 hv; exact (h64 x hx).2 }
 refine AC.go Tryz.func94 rfl (Nat.le_of_ble_eq_true rfl) fun β => ?_
 refine sr ?_
 refine asg rfl rfl ?_
 refine kp [0, 1] rfl ?_
 refine Run.seq ?_
 refine regionD HM ?_
 refine RunD.mono (K' := fun E' L' => ∃ b14 : Nat, ∃ b17 : Nat, E' = [(0, .slice (some ⟨gb, go, none⟩) g.length gc), (1, .pointer (some ⟨bp, 0, none⟩)), (4, .slice (some ⟨b14, 0, none⟩) g.length g.length), (5, .slice (some ⟨b17, 0, none⟩) g.length g.length)] ∧ L' = [pt b14 (blk (List.replicate g.length [I 0]).flatten 3), pt b17 (blk (List.replicate g.length [I 0]).flatten 3), R, pt bp (blk [.slice aa acc.length ac] 32), own 63 7 aa acc.length ac (acc.flatMap Cl.c)]) ?_ ?_
 refine tk 0 rfl rfl rfl (DetJ.move rfl) ?_
 refine tk 1 rfl rfl rfl (DetJ.len S32 rfl) ?_
 refine tk 3 rfl rfl rfl (DetJ.move rfl) ?_
 refine tk 4 rfl rfl rfl (DetJ.len S32 rfl) ?_
 refine RunD.two 2 5 [true, true, false, false] [false, false, true, true] rfl rfl rfl rfl rfl rfl kr kr kr (OpJ.make S112 M3 rfl rfl (by omega) (by omega) fun b14 => ⟨po, ?_⟩) (OpJ.make S112 M3 rfl rfl (by omega) (by omega) fun b17 => ⟨po, ?_⟩)
 refine tk 6 rfl rfl rfl (DetJ.assign rfl) ?_
 refine RunD.op 5 [true, false, false] rfl rfl rfl kr kr (OpJ.make S112 M3 rfl rfl (by omega) (by omega) fun b17 => ⟨po, ?_⟩)
 refine tk 7 rfl rfl rfl (DetJ.assign rfl) ?_
 exact RunD.weak (E' := [(0, .slice (some ⟨gb, go, none⟩) g.length gc), (1, .pointer (some ⟨bp, 0, none⟩)), (4, .slice (some ⟨b14, 0, none⟩) g.length g.length), (5, .slice (some ⟨b17, 0, none⟩) g.length g.length)]) (L' := [pt b14 (blk (List.replicate g.length [I 0]).flatten 3), pt b17 (blk (List.replicate g.length [I 0]).flatten 3), R, pt bp (blk [.slice aa acc.length ac] 32), own 63 7 aa acc.length ac (acc.flatMap Cl.c)]) (Keep.sub (kt (ks := [0, 1, 4, 5]) rfl)) gv (RunD.done kr ⟨_, _, rfl, rfl⟩)
 refine RunD.op 2 [false, false] rfl rfl rfl kr kr (OpJ.make S112 M3 rfl rfl (by omega) (by omega) fun b14 => ⟨po, ?_⟩)
 refine tk 6 rfl rfl rfl (DetJ.assign rfl) ?_
 refine tk 7 rfl rfl rfl (DetJ.assign rfl) ?_
 exact RunD.weak (E' := [(0, .slice (some ⟨gb, go, none⟩) g.length gc), (1, .pointer (some ⟨bp, 0, none⟩)), (4, .slice (some ⟨b14, 0, none⟩) g.length g.length), (5, .slice (some ⟨b17, 0, none⟩) g.length g.length)]) (L' := [pt b14 (blk (List.replicate g.length [I 0]).flatten 3), pt b17 (blk (List.replicate g.length [I 0]).flatten 3), R, pt bp (blk [.slice aa acc.length ac] 32), own 63 7 aa acc.length ac (acc.flatMap Cl.c)]) (Keep.sub (kt (ks := [0, 1, 4, 5]) rfl)) gv (RunD.done kr ⟨_, _, rfl, rfl⟩)
 rintro _ _ ⟨b14, b17, rfl, rfl⟩
 refine Run.seq ?_
 refine sr ?_
 refine RunL.imp (pt b14 (blk (List.replicate g.length [I 0]).flatten 3)) (own 3 1 (some ⟨b14, 0, none⟩) g.length g.length ((fillL g Cl.amt 0).flatMap Iv)) up (fun h hh => own.of_pt (by rw [zeros_flat] at hh; rw [fillL_zero]; exact hh) (by rw [fillL_zero, flat_len (k := 1) (fun _ => rfl), List.length_replicate])) ?_
 refine RunL.imp (pt b17 (blk (List.replicate g.length [I 0]).flatten 3)) (own 3 1 (some ⟨b17, 0, none⟩) g.length g.length ((fillL g Cl.base 0).flatMap Iv)) up (fun h hh => own.of_pt (by rw [zeros_flat] at hh; rw [fillL_zero]; exact hh) (by rw [fillL_zero, flat_len (k := 1) (fun _ => rfl), List.length_replicate])) ?_
 refine sx 3 ?_
 refine kp [0, 1, 4, 5, 18, 19, 20] rfl ?_
 refine Run.block ?_
 have hl10 : g.length ≤ 1000000 := by omega
 refine Run.loop (fun mm E L => ∃ i : Nat, mm = g.length - i ∧ i ≤ g.length ∧ E = [(0, .slice (some ⟨gb, go, none⟩) g.length gc), (1, .pointer (some ⟨bp, 0, none⟩)), (4, .slice (some ⟨b14, 0, none⟩) g.length g.length), (5, .slice (some ⟨b17, 0, none⟩) g.length g.length), (18, .slice (some ⟨gb, go, none⟩) g.length gc), (19, I g.length), (20, I i)] ∧ L = [own 3 1 (some ⟨b14, 0, none⟩) g.length g.length ((fillL g Cl.amt i).flatMap Iv), own 3 1 (some ⟨b17, 0, none⟩) g.length g.length ((fillL g Cl.base i).flatMap Iv), R, pt bp (blk [.slice aa acc.length ac] 32), own 63 7 aa acc.length ac (acc.flatMap Cl.c)]) ⟨_, 0, rfl, Nat.zero_le _, rfl, rfl⟩ ?_
 rintro _ _ _ ⟨i, rfl, hi, rfl, rfl⟩
 refine sr ?_
 refine sx 1 ?_
 refine kp [0, 1, 4, 5, 18, 19, 20, 21] rfl ?_
 refine Run.seq ?_
 first | refine Run.if rfl (fun h1 => ?_) (fun h1 => ?_) | refine Run.cond rfl (fun h1 => ?_) (fun h1 => ?_)
 refine Run.skip ?_
 refine Run.seq ?_
 refine Run.block ?_
 refine sr ?_
 obtain ⟨x, hx⟩ := get_ex (xs := g) (i := i) (by omega)
 refine sx 2 ?_
 refine RunL.op rfl rfl (OpJ.loadA inferInstance rfl pk (Rd.elem (enc := Cl.c) (k := 7) (fun _ => rfl) hR hx) rfl ?_)
 refine RunL.op rfl rfl (OpJ.alloc Z63 fun b7 => ?_)
 refine asg rfl rfl ?_
 refine RunL.op rfl rfl (OpJ.storeW T63 rfl rfl rfl rfl (by simp [Value.oneCell', Tg.c, Ln.c, En.c, Ac.c, Cl.c, Ky.c, Qy.c, Sb, Iv]) up ?_)
 refine kp [0, 1, 4, 5, 6, 7, 18, 19, 20] rfl ?_
 refine regionD HM ?_
 refine tk 0 rfl rfl rfl (DetJ.move rfl) ?_
 refine tk 1 rfl rfl rfl (DetJ.move rfl) ?_
 refine tk 2 rfl rfl rfl (DetJ.move rfl) ?_
 refine tk 3 rfl rfl rfl (DetJ.move rfl) ?_
 refine tk 4 rfl rfl rfl (DetJ.fieldAddr F63_1 rfl) ?_
 first | refine RunD.takeF 5 rfl rfl kr T3 rfl pk (by rfl) ?_ | refine RunD.takeO 5 rfl rfl kr T3 rfl pk (by assumption) (by rfl) (by exact fun _ => rfl) ?_
 refine tk 6 rfl rfl rfl (DetJ.fieldAddr F63_2 rfl) ?_
 first | refine RunD.takeF 7 rfl rfl kr T3 rfl pk (by rfl) ?_ | refine RunD.takeO 7 rfl rfl kr T3 rfl pk (by assumption) (by rfl) (by exact fun _ => rfl) ?_
 refine tk 8 rfl rfl rfl (DetJ.indexAddr S112 rfl rfl (by omega)) ?_
 refine RunD.op 9 [false, true, true, false, false, true, true, false, false] rfl rfl rfl kr kr (OpJ.storeO (enc := Iv) (k := 1) (j := 0) (xs := fillL g Cl.amt i) (i := i) (u := 0) (u' := x.amt) inferInstance rfl rfl rfl (fillL_at (by omega)) (fun _ => rfl) (by decide) rfl up ⟨po, ?_⟩)
 rw [fillL_set hx]
 refine tk 10 rfl rfl rfl (DetJ.indexAddr S112 rfl rfl (by omega)) ?_
 refine RunD.op 11 [false, false, false, false, false] rfl rfl rfl kr kr (OpJ.storeO (enc := Iv) (k := 1) (j := 0) (xs := fillL g Cl.base i) (i := i) (u := 0) (u' := x.base) inferInstance rfl rfl rfl (fillL_at (by omega)) (fun _ => rfl) (by decide) rfl up ⟨po, ?_⟩)
 rw [fillL_set hx]
 refine kd [0, 1, 4, 5, 18, 19, 20] rfl ?_
 refine Run.region ?_
 refine sx 2 ?_
 exact RunL.next (Keep.sub (kt (ks := [0, 1, 4, 5, 18, 19, 20]) rfl)) _ ⟨_, by omega, i + 1, rfl, by omega, rfl, rfl⟩ gv
 refine Run.exit ?_
 refine sr ?_
 obtain rfl : i = g.length := by omega
 rw [fillL_all, fillL_all]
 refine mvo rfl rfl ?_
 refine RunL.call C54 rfl rfl rfl (c_totalN _ _ _ _ (g.map Cl.amt) (by simp) own.rds ham (by simpa using hl10)) tks ?_
 refine sx 4 ?_
 rcases Bool.eq_false_or_eq_true (withinB (sumA g)) with ha | ha
 refine RunL.set (v := I (sumA g)) (congrArg I (sumV_of (xs := g.map Cl.amt) (within64 ha))) ?_
 refine asg rfl rfl ?_
 refine RunL.set (congrArg Bo ha) ?_
 refine kp [0, 1, 5, 8, 9] rfl ?_
 refine sr ?_
 refine mvo rfl rfl ?_
 refine RunL.call C54 rfl rfl rfl (c_totalN _ _ _ _ (g.map Cl.base) (by simp) own.rds hbm (by simpa using hl10)) tks ?_
 refine sx 4 ?_
 rcases Bool.eq_false_or_eq_true (withinB (sumB g)) with hb | hb
 refine RunL.set (v := I (sumB g)) (congrArg I (sumV_of (xs := g.map Cl.base) (within64 hb))) ?_
 refine asg rfl rfl ?_
 refine RunL.set (congrArg Bo hb) ?_
 refine kp [0, 1, 8, 9, 10, 11] rfl ?_
 refine Run.seq ?_
 refine sr ?_
 refine sx 8 ?_
 first | refine RunL.splitP (t := 53) rfl (fun g2 => ?_) (fun g2 => ?_) | refine RunL.split (t := 53) rfl (fun g2 => ?_) (fun g2 => ?_)
 refine sx 4 ?_
 refine kp [0, 1, 8, 9, 10, 11, 57] rfl ?_
 refine Run.true rfl ?_
 refine regionD HM ?_
 first | refine RunD.takeF 0 rfl rfl kr T32 rfl pk (by rfl) ?_ | refine RunD.takeO 0 rfl rfl kr T32 rfl pk (by assumption) (by rfl) (by exact fun _ => rfl) ?_
 refine tk 1 rfl rfl rfl (DetJ.move rfl) ?_
 refine tk 2 rfl rfl rfl (DetJ.indexAddr S32 rfl rfl (by omega)) ?_
 refine tk 3 rfl rfl rfl (DetJ.fieldAddr F63_0 rfl) ?_
 refine RunD.takeR 4 rfl rfl kr T61 rfl pk hkey rfl ?_
 refine tk 5 rfl rfl rfl (DetJ.move rfl) ?_
 refine tk 6 rfl rfl rfl (DetJ.move rfl) ?_
 refine RunD.takeB 7 rfl rfl kr B63 rfl rfl fun cs hcs => ?_
 simp only [Tg.c, Ln.c, En.c, Ac.c, Cl.c, Ky.c, Qy.c, bldL, bldA, Value.cells, bs, Nat.reduceAdd, Nat.reduceLeDiff, Nat.reduceLT] at hcs; subst hcs
 refine RunD.op 8 [false, false, false, false, false, true, true, true] rfl rfl rfl kr kr (OpJ.buildSlice1 S32 rfl rfl rfl (by decide) (by decide) Z63 rfl fun b66 => ⟨po, ?_⟩)
 refine RunD.op 9 [true, true, false] rfl rfl rfl kr kr (OpJ.append1 (⟨k, sumA g, sumB g⟩ : Cl) S32 M63 rfl rfl pk pk rfl rfl (by simp [Value.oneCell', Tg.c, Ln.c, En.c, Ac.c, Cl.c, Ky.c, Qy.c, Sb, Iv]) rfl (by omega) (by omega) fun a67 c67 => ⟨po, ?_⟩)
 refine RunD.op 10 [false, false] rfl rfl rfl kr kr (OpJ.store1 T32 rfl rfl rfl up (by simp) ⟨po, ?_⟩)
 refine kd [9, 11] rfl ?_
 refine sr ?_
 refine sx 5 ?_
 refine kp [3] rfl ?_
 refine Run.ret ?_
 have hO : okG g = true := by { unfold okG; rw [ha, hb]; rfl }
 have hG : accG acc g k = acc ++ [⟨k, sumA g, sumB g⟩] := by { unfold accG; rw [hO]; rw [if_pos rfl, if_neg (by omega)] }
 rw [hG, hO]
 exact ret_out (a67, c67) (.tmp rfl .nil) trivial rfl gv
 refine sx 4 ?_
 refine kp [0, 1, 8, 9, 10, 11, 57] rfl ?_
 first | refine Run.if rfl (fun h3 => ?_) (fun h3 => ?_) | refine Run.cond rfl (fun h3 => ?_) (fun h3 => ?_)
 refine regionD HM ?_
 first | refine RunD.takeF 0 rfl rfl kr T32 rfl pk (by rfl) ?_ | refine RunD.takeO 0 rfl rfl kr T32 rfl pk (by assumption) (by rfl) (by exact fun _ => rfl) ?_
 refine tk 1 rfl rfl rfl (DetJ.move rfl) ?_
 refine tk 2 rfl rfl rfl (DetJ.indexAddr S32 rfl rfl (by omega)) ?_
 refine tk 3 rfl rfl rfl (DetJ.fieldAddr F63_0 rfl) ?_
 refine RunD.takeR 4 rfl rfl kr T61 rfl pk hkey rfl ?_
 refine tk 5 rfl rfl rfl (DetJ.move rfl) ?_
 refine tk 6 rfl rfl rfl (DetJ.move rfl) ?_
 refine RunD.takeB 7 rfl rfl kr B63 rfl rfl fun cs hcs => ?_
 simp only [Tg.c, Ln.c, En.c, Ac.c, Cl.c, Ky.c, Qy.c, bldL, bldA, Value.cells, bs, Nat.reduceAdd, Nat.reduceLeDiff, Nat.reduceLT] at hcs; subst hcs
 refine RunD.op 8 [false, false, false, false, false, true, true, true] rfl rfl rfl kr kr (OpJ.buildSlice1 S32 rfl rfl rfl (by decide) (by decide) Z63 rfl fun b66 => ⟨po, ?_⟩)
 refine RunD.op 9 [true, true, false] rfl rfl rfl kr kr (OpJ.append1 (⟨k, sumA g, sumB g⟩ : Cl) S32 M63 rfl rfl pk pk rfl rfl (by simp [Value.oneCell', Tg.c, Ln.c, En.c, Ac.c, Cl.c, Ky.c, Qy.c, Sb, Iv]) rfl (by omega) (by omega) fun a67 c67 => ⟨po, ?_⟩)
 refine RunD.op 10 [false, false] rfl rfl rfl kr kr (OpJ.store1 T32 rfl rfl rfl up (by simp) ⟨po, ?_⟩)
 refine kd [9, 11] rfl ?_
 refine sr ?_
 refine sx 5 ?_
 refine kp [3] rfl ?_
 refine Run.ret ?_
 have hO : okG g = true := by { unfold okG; rw [ha, hb]; rfl }
 have hG : accG acc g k = acc ++ [⟨k, sumA g, sumB g⟩] := by { unfold accG; rw [hO]; rw [if_pos rfl, if_neg (by omega)] }
 rw [hG, hO]
 exact ret_out (a67, c67) (.tmp rfl .nil) trivial rfl gv
 refine Run.skip ?_
 refine sr ?_
 refine sx 5 ?_
 refine kp [3] rfl ?_
 refine Run.ret ?_
 have hO : okG g = true := by { unfold okG; rw [ha, hb]; rfl }
 have hG : accG acc g k = acc := by { unfold accG; rw [hO]; rw [if_pos rfl, if_pos (by omega), List.append_nil] }
 rw [hG, hO]
 exact ret_out (aa, ac) (.tmp rfl .nil) trivial rfl gv
 refine asg rfl rfl ?_
 refine RunL.set (congrArg Bo hb) ?_
 refine kp [0, 1, 8, 9, 10, 11] rfl ?_
 refine Run.seq ?_
 refine sr ?_
 refine sx 12 ?_
 refine kp [0, 1, 8, 9, 10, 11, 57] rfl ?_
 refine Run.false rfl ?_
 refine Run.skip ?_
 refine sr ?_
 refine sx 5 ?_
 refine kp [3] rfl ?_
 refine Run.ret ?_
 have hO : okG g = false := by { unfold okG; rw [ha, hb]; rfl }
 have hG : accG acc g k = acc := by { unfold accG; rw [hO]; rfl }
 rw [hG, hO]
 exact ret_out (aa, ac) (.tmp rfl .nil) trivial rfl gv
 refine asg rfl rfl ?_
 refine RunL.set (congrArg Bo ha) ?_
 refine kp [0, 1, 5, 8, 9] rfl ?_
 refine sr ?_
 refine mvo rfl rfl ?_
 refine RunL.call C54 rfl rfl rfl (c_totalN _ _ _ _ (g.map Cl.base) (by simp) own.rds hbm (by simpa using hl10)) tks ?_
 refine sx 4 ?_
 rcases Bool.eq_false_or_eq_true (withinB (sumB g)) with hb | hb
 refine RunL.set (v := I (sumB g)) (congrArg I (sumV_of (xs := g.map Cl.base) (within64 hb))) ?_
 refine asg rfl rfl ?_
 refine RunL.set (congrArg Bo hb) ?_
 refine kp [0, 1, 8, 9, 10, 11] rfl ?_
 refine Run.seq ?_
 refine sr ?_
 refine sx 12 ?_
 refine kp [0, 1, 8, 9, 10, 11, 57] rfl ?_
 refine Run.false rfl ?_
 refine Run.skip ?_
 refine sr ?_
 refine sx 5 ?_
 refine kp [3] rfl ?_
 refine Run.ret ?_
 have hO : okG g = false := by { unfold okG; rw [ha]; rfl }
 have hG : accG acc g k = acc := by { unfold accG; rw [hO]; rfl }
 rw [hG, hO]
 exact ret_out (aa, ac) (.tmp rfl .nil) trivial rfl gv
 refine asg rfl rfl ?_
 refine RunL.set (congrArg Bo hb) ?_
 refine kp [0, 1, 8, 9, 10, 11] rfl ?_
 refine Run.seq ?_
 refine sr ?_
 refine sx 12 ?_
 refine kp [0, 1, 8, 9, 10, 11, 57] rfl ?_
 refine Run.false rfl ?_
 refine Run.skip ?_
 refine sr ?_
 refine sx 5 ?_
 refine kp [3] rfl ?_
 refine Run.ret ?_
 have hO : okG g = false := by { unfold okG; rw [ha]; rfl }
 have hG : accG acc g k = acc := by { unfold accG; rw [hO]; rfl }
 rw [hG, hO]
 exact ret_out (aa, ac) (.tmp rfl .nil) trivial rfl gv
theorem c_isort0 (sl fv : Value) : AC Tryz.prog 185 ⟨[sl, I 0, I 0, fv]⟩ (stars []) (Ret (.tuple ⟨[]⟩) []) := by
 refine AC.go Tryz.func185 rfl (Nat.le_of_ble_eq_true rfl) fun β => ?_
 refine sr ?_
 refine sx 3 ?_
 refine kp [0, 1, 2, 3, 8] rfl ?_
 refine Run.block ?_
 refine Run.loop (fun mm E L => mm = 0 ∧ E = [(0, sl), (1, I 0), (2, I 0), (3, fv), (8, I 1)] ∧ L = []) ⟨_, rfl, rfl, rfl⟩ ?_
 rintro _ _ _ ⟨rfl, rfl, rfl⟩
 refine Run.seq ?_
 refine sr ?_
 refine sx 3 ?_
 skip
 refine RunL.set (congrArg Bo (decide_eq_false (by omega))) ?_
 refine kp [0, 1, 2, 3, 8, 14] rfl ?_
 refine Run.false rfl ?_
 refine Run.exit ?_
 exact ret_one .nil (rfl) gv
theorem c_stable0 (sl fv : Value) : AC Tryz.prog 169 ⟨[sl, I 0, fv]⟩ (stars []) (Ret (.tuple ⟨[]⟩) []) := by
 refine AC.go Tryz.func169 rfl (Nat.le_of_ble_eq_true rfl) fun β => ?_
 refine sr ?_
 refine asg rfl rfl ?_
 refine kp [0, 1, 2, 6] rfl ?_
 refine sr ?_
 refine sx 3 ?_
 refine kp [0, 1, 2, 6, 7, 8] rfl ?_
 refine Run.seq ?_
 refine Run.block ?_
 refine Run.loop (fun mm E L => mm = 0 ∧ E = [(0, sl), (1, I 0), (2, fv), (6, I 20), (7, I 0), (8, I 20)] ∧ L = []) ⟨_, rfl, rfl, rfl⟩ ?_
 rintro _ _ _ ⟨rfl, rfl, rfl⟩
 refine Run.seq ?_
 refine sr ?_
 refine sx 3 ?_
 skip
 refine RunL.set (congrArg Bo (decide_eq_false (by omega))) ?_
 refine kp [0, 1, 2, 6, 7, 8, 13] rfl ?_
 refine Run.false rfl ?_
 refine Run.exit ?_
 refine sr ?_
 refine sx 4 ?_
 refine RunL.call C185 rfl rfl rfl (c_isort0 _ _) .nil ?_
 refine kp [0, 1, 2, 6] rfl ?_
 refine Run.block ?_
 refine Run.loop (fun mm E L => mm = 0 ∧ E = [(0, sl), (1, I 0), (2, fv), (6, I 20)] ∧ L = []) ⟨_, rfl, rfl, rfl⟩ ?_
 rintro _ _ _ ⟨rfl, rfl, rfl⟩
 refine Run.seq ?_
 refine sr ?_
 refine sx 3 ?_
 skip
 refine RunL.set (congrArg Bo (decide_eq_false (by omega))) ?_
 refine kp [0, 1, 2, 6, 30] rfl ?_
 refine Run.false rfl ?_
 refine Run.exit ?_
 exact ret_one .nil (rfl) gv
theorem c_SortS0 (oa : Option Addr) (cap : Nat) (fv : Value) : AC Tryz.prog 146 ⟨[.slice oa 0 cap, fv]⟩ (stars []) (Ret (.tuple ⟨[]⟩) []) := by
 refine AC.go Tryz.func146 rfl (Nat.le_of_ble_eq_true rfl) fun β => ?_
 refine Run.region ?_
 refine sx 4 ?_
 refine RunL.call C169 rfl rfl rfl (c_stable0 _ _) .nil ?_
 refine kp [] rfl ?_
 exact ret_one .nil (rfl) gv
theorem c_grouped0 (R : HP) (oa : Option Addr) (cap : Nat) (fv : Value) : AC Tryz.prog 95 ⟨[.slice oa 0 cap, .func (.func 96) ⟨[]⟩ ⟨[]⟩, .func (.func 97) ⟨[]⟩ ⟨[]⟩, fv]⟩ (stars [R]) (Ret (Bo true) [R]) := by
 refine AC.go Tryz.func95 rfl (Nat.le_of_ble_eq_true rfl) fun β => ?_
 refine sr ?_
 refine RunL.op rfl rfl (OpJ.box rfl rfl fun b5 => ?_)
 refine RunL.op rfl rfl (OpJ.box rfl rfl fun b6 => ?_)
 refine asg rfl rfl ?_
 refine kp [0, 3, 5, 6] rfl ?_
 refine sr ?_
 refine mvo rfl rfl ?_
 refine RunL.callX C145 rfl rfl rfl (cl_Cell R oa cap [] RdS.nil (by decide)) tks fun ⟨sa, sc⟩ _ => ?_
 refine asg rfl rfl ?_
 refine kp [3, 5, 6, 9] rfl ?_
 refine sr ?_
 refine sx 2 ?_
 refine RunL.call C146 rfl rfl rfl (c_SortS0 sa sc _) .nil ?_
 refine kp [3, 5, 6, 9] rfl ?_
 refine Run.seq ?_
 refine sr ?_
 refine RunL.weak (L' := [R]) (fun _ _ h => h) gv ?_
 refine asg rfl rfl ?_
 refine kp [3, 5, 6, 9, 10] rfl ?_
 refine Run.block ?_
 refine Run.loop (fun mm E L => mm = 0 ∧ E = [(3, fv), (5, .pointer (some ⟨b5, 0, none⟩)), (6, .pointer (some ⟨b6, 0, none⟩)), (9, .slice sa 0 sc), (10, I 0)] ∧ L = [R]) ⟨_, rfl, rfl, rfl⟩ ?_
 rintro _ _ _ ⟨rfl, rfl, rfl⟩
 refine Run.seq ?_
 refine sr ?_
 refine sx 4 ?_
 skip
 refine RunL.set (congrArg Bo (decide_eq_false (by omega))) ?_
 refine kp [3, 5, 6, 9, 10, 20] rfl ?_
 refine Run.false rfl ?_
 refine Run.exit ?_
 refine sr ?_
 refine asg rfl rfl ?_
 refine kp [8] rfl ?_
 refine Run.ret ?_
 exact ret_one (.tmp rfl .nil) (rfl) gv
theorem c_grouped (R : HP) (oa : Option Addr) (cap : Nat) (xs : List Cl) (hR : RdS R oa (xs.flatMap Cl.c)) (hl : xs.length ≤ 100000) (h64 : ∀ x ∈ xs, i64 x.amt ∧ i64 x.base) (hne : xs ≠ []) (bp : Nat) : AC Tryz.prog 95 ⟨[.slice oa xs.length cap, .func (.func 96) ⟨[]⟩ ⟨[]⟩, .func (.func 97) ⟨[]⟩ ⟨[]⟩, .func (.func 94) ⟨[]⟩ ⟨[.pointer (some ⟨bp, 0, none⟩)]⟩]⟩ (stars [R, pt bp (blk [.slice none 0 0] 32)]) (Outs (fun y : List Cl × Option Addr × Nat => ∀ s, sheetL xs = some s → y.1 = s) (fun _ => Bo (sheetL xs).isSome) (fun y => [pt bp (blk [.slice y.2.1 y.1.length y.2.2] 32), own 63 7 y.2.1 y.1.length y.2.2 (y.1.flatMap Cl.c), R])) := by
 obtain ⟨z0, hz0⟩ := List.exists_mem_of_ne_nil xs hne
 have hfx := asL_ex xs z0
 have hnl : 0 < xs.length := List.length_pos_iff.2 hne
 refine AC.go Tryz.func95 rfl (Nat.le_of_ble_eq_true rfl) fun β => ?_
 refine sr ?_
 refine RunL.op rfl rfl (OpJ.box rfl rfl fun b5 => ?_)
 refine RunL.op rfl rfl (OpJ.box rfl rfl fun b6 => ?_)
 refine asg rfl rfl ?_
 refine kp [0, 3, 5, 6] rfl ?_
 refine sr ?_
 refine mvo rfl rfl ?_
 refine RunL.callX C145 rfl rfl rfl (cl_Cell R oa cap xs hR (by omega)) tks fun ⟨sa, sc⟩ _ => ?_
 refine asg rfl rfl ?_
 refine kp [3, 5, 6, 9] rfl ?_
 refine sr ?_
 obtain ⟨i0, hi0, _⟩ := List.getElem_of_mem hz0
 refine RunL.ownAddr pk (flat_ne (k := 7) (fun _ => rfl) (by decide) (List.getElem?_eq_getElem hi0)) fun b e hcap => ?_
 subst e
 refine RunL.imp (own 63 7 (some ⟨b, 0, none⟩) xs.length sc (xs.flatMap Cl.c)) (own 63 7 (some ⟨b, 0, none⟩) xs.length sc ((asL xs.length (fun i => xs.getD i z0)).flatMap Cl.c)) up (fun h hh => by rw [← hfx]; exact hh) ?_
 refine RunL.packs [pt b6 (blk [.func (.func 97) ⟨[]⟩ ⟨[]⟩] 167), pt b5 (blk [.func (.func 96) ⟨[]⟩ ⟨[]⟩] 166)] tks ?_
 refine sx 2 ?_
 refine RunL.callX C146 rfl rfl rfl (c_SortS 147 [.pointer (some ⟨b6, 0, none⟩), .pointer (some ⟨b5, 0, none⟩)] (stars [pt b6 (blk [.func (.func 97) ⟨[]⟩ ⟨[]⟩] 167), pt b5 (blk [.func (.func 96) ⟨[]⟩ ⟨[]⟩] 166)]) C147 (fun x y => AC.one (c_lessF b6 b5 x y)) b sc xs.length (fun i => xs.getD i z0) (by omega)) tks fun h hh => ?_
 refine RunL.unstar (As := [pt b6 (blk [.func (.func 97) ⟨[]⟩ ⟨[]⟩] 167), pt b5 (blk [.func (.func 96) ⟨[]⟩ ⟨[]⟩] 166)]) pk ?_
 obtain ⟨ss, hss⟩ : ∃ ss, ss = asL xs.length h := ⟨_, rfl⟩
 rw [← hss]
 have hpair : ss.Pairwise leK := by { rw [hss]; exact hh.2.pair }
 have hperm : ss.Perm xs := by { rw [hss]; have h2 := hh.1.perm (Nat.le_refl xs.length); rw [← hfx] at h2; exact h2 }
 have hsl : ss.length = xs.length := hperm.length_eq
 have hsne : ss.flatMap Cl.c ≠ [] := fun e => by { have h2 := congrArg List.length e; rw [flat_len (k := 7) (fun _ => rfl), hsl] at h2; simp at h2; omega }
 refine kp [3, 5, 6, 9] rfl ?_
 refine Run.seq ?_
 refine sr ?_
 refine RunL.ownNil 63 7 ?_
 refine asg rfl rfl ?_
 refine kp [3, 5, 6, 9, 10] rfl ?_
 refine Run.block ?_
 refine Run.weak (L' := [pt b6 (blk [.func (.func 97) ⟨[]⟩ ⟨[]⟩] 167), pt b5 (blk [.func (.func 96) ⟨[]⟩ ⟨[]⟩] 166), own 63 7 (some ⟨b, 0, none⟩) xs.length sc (ss.flatMap Cl.c), pt bp (blk [.slice none 0 0] 32), own 63 7 none 0 0 [], R]) (fun _ _ h => h) gv ?_
 refine Run.loop (fun mm E L => ∃ (p r acc : List Cl) (aa : Option Addr) (ac : Nat), mm = r.length ∧ Cum xs ss p r acc ∧ acc.length ≤ p.length ∧ p.length ≤ xs.length ∧ E = [(3, .func (.func 94) ⟨[]⟩ ⟨[.pointer (some ⟨bp, 0, none⟩)]⟩), (5, .pointer (some ⟨b5, 0, none⟩)), (6, .pointer (some ⟨b6, 0, none⟩)), (9, .slice (some ⟨b, 0, none⟩) xs.length sc), (10, I p.length)] ∧ L = [pt b6 (blk [.func (.func 97) ⟨[]⟩ ⟨[]⟩] 167), pt b5 (blk [.func (.func 96) ⟨[]⟩ ⟨[]⟩] 166), own 63 7 (some ⟨b, 0, none⟩) xs.length sc (ss.flatMap Cl.c), pt bp (blk [.slice aa acc.length ac] 32), own 63 7 aa acc.length ac (acc.flatMap Cl.c), R]) ⟨_, [], ss, [], none, 0, rfl, Cum.start hpair hperm, Nat.le_refl _, Nat.zero_le _, rfl, rfl⟩ ?_
 rintro _ _ _ ⟨p, r, acc, aa, ac, rfl, hcum, hal, hpx, rfl, rfl⟩
 refine Run.seq ?_
 refine sr ?_
 refine sx 4 ?_
 refine kp [3, 5, 6, 9, 10, 20] rfl ?_
 first | refine Run.if rfl (fun h1 => ?_) (fun h1 => ?_) | refine Run.cond rfl (fun h1 => ?_) (fun h1 => ?_)
 refine Run.skip ?_
 refine Run.block ?_
 refine sr ?_
 have hpl : p.length + r.length = xs.length := by { have h2 := congrArg List.length hcum.2.2.1; rw [List.length_append] at h2; omega }
 obtain ⟨y0, r1, rfl⟩ : ∃ y0 r1, r = y0 :: r1 := List.exists_cons_of_length_pos (by omega)
 refine sx 3 ?_
 refine kp [3, 5, 6, 9, 10, 11] rfl ?_
 refine Run.seq ?_
 refine Run.block ?_
 refine Run.loop (fun mm E L => ∃ (g r2 : List Cl), mm = r2.length ∧ Cum xs ss p (g ++ r2) acc ∧ g ≠ [] ∧ (g ++ r2)[0]? = some y0 ∧ (∀ x ∈ g, x.k = y0.k) ∧ r2.length ≤ r1.length ∧ E = [(3, .func (.func 94) ⟨[]⟩ ⟨[.pointer (some ⟨bp, 0, none⟩)]⟩), (5, .pointer (some ⟨b5, 0, none⟩)), (6, .pointer (some ⟨b6, 0, none⟩)), (9, .slice (some ⟨b, 0, none⟩) xs.length sc), (10, I p.length), (11, I ((p.length + g.length : Nat) : Int))] ∧ L = [pt b6 (blk [.func (.func 97) ⟨[]⟩ ⟨[]⟩] 167), pt b5 (blk [.func (.func 96) ⟨[]⟩ ⟨[]⟩] 166), own 63 7 (some ⟨b, 0, none⟩) xs.length sc (ss.flatMap Cl.c), pt bp (blk [.slice aa acc.length ac] 32), own 63 7 aa acc.length ac (acc.flatMap Cl.c), R]) ⟨_, [y0], r1, rfl, hcum, (by simp), rfl, (fun x hx => by rw [List.mem_singleton.1 hx]), Nat.le_refl _, rfl, rfl⟩ ?_
 rintro _ _ _ ⟨g, r2, rfl, hcum, hgne, hg0, hgk, hrl, rfl, rfl⟩
 refine Run.seq ?_
 refine Run.seq ?_
 refine regionD HM ?_
 have hgl : 0 < g.length := List.length_pos_iff.2 hgne
 have hx1 : ss[p.length]? = some y0 := by { rw [hcum.2.2.1, List.getElem?_append_right (Nat.le_refl _), Nat.sub_self]; exact hg0 }
 have hql : p.length + g.length + r2.length = xs.length := by { have h2 := congrArg List.length hcum.2.2.1; simp only [List.length_append] at h2; omega }
 refine tk 0 rfl rfl rfl (DetJ.move rfl) ?_
 refine tk 1 rfl rfl rfl (DetJ.move rfl) ?_
 refine tk 2 rfl rfl rfl (DetJ.len S32 rfl) ?_
 refine tk 3 rfl rfl rfl (DetJ.lss rfl rfl) ?_
 refine tk 4 rfl rfl rfl (DetJ.move rfl) ?_
 rcases r2 with _ | ⟨y, r3⟩
 refine RunD.set (congrArg Bo (decide_eq_false (by simp at hql; omega))) ?_
 refine RunD.takeN 5 rfl rfl rfl rfl rfl kr ?_
 refine RunD.takeN 6 rfl rfl rfl rfl rfl kr ?_
 refine RunD.takeN 7 rfl rfl rfl rfl rfl kr ?_
 refine RunD.takeN 8 rfl rfl rfl rfl rfl kr ?_
 refine RunD.takeN 9 rfl rfl rfl rfl rfl kr ?_
 refine RunD.takeN 10 rfl rfl rfl rfl rfl kr ?_
 refine RunD.takeN 11 rfl rfl rfl rfl rfl kr ?_
 refine RunD.takeN 12 rfl rfl rfl rfl rfl kr ?_
 refine RunD.takeN 13 rfl rfl rfl rfl rfl kr ?_
 refine RunD.takeN 14 rfl rfl rfl rfl rfl kr ?_
 refine RunD.takeN 15 rfl rfl rfl rfl rfl kr ?_
 refine RunD.takeN 16 rfl rfl rfl rfl rfl kr ?_
 refine RunD.takeN 17 rfl rfl rfl rfl rfl kr ?_
 refine RunD.takeN 18 rfl rfl rfl rfl rfl kr ?_
 refine RunD.takeN 19 rfl rfl rfl rfl rfl kr ?_
 refine tk 20 rfl rfl rfl (DetJ.pickF rfl rfl) ?_
 refine kd [3, 5, 6, 9, 10, 11, 43] rfl ?_
 refine Run.false rfl ?_
 refine Run.exit ?_
 refine Run.seq ?_
 refine sr ?_
 have hhd : ∀ z, List.head? ([] : List Cl) = some z → z.k ≠ y0.k := fun z hz => by cases hz
 have hgm : ∀ x ∈ g, x ∈ xs := fun x hx => hperm.mem_iff.1 (by rw [hcum.2.2.1]; exact List.mem_append_right _ (List.mem_append_left _ hx))
 have hcu := hcum.step hgne hgk hhd
 have hgl : 0 < g.length := List.length_pos_iff.2 hgne
 have hRg : Rd (own 63 7 (some ⟨b, 0, none⟩) xs.length sc (ss.flatMap Cl.c)) ⟨b, 0 + p.length * 7, none⟩ (g.flatMap Cl.c) := by { have h := own.rd (T := 63) (k := 7) (b := b) (n := xs.length) (cap := sc) (cs := ss.flatMap Cl.c) hsne; rw [show ss.flatMap Cl.c = (p ++ (g ++ [])).flatMap Cl.c from congrArg (List.flatMap Cl.c) hcum.2.2.1] at h ⊢; have h2 := Rd.drop (k := 7) (fun _ => rfl) h; rw [show List.flatMap Cl.c (g ++ ([] : List Cl)) = List.flatMap Cl.c g ++ List.flatMap Cl.c ([] : List Cl) from List.flatMap_append ..] at h2; exact Rd.pre h2 }
 refine sx 4 ?_
 refine RunL.op rfl rfl (OpJ.sliceLH inferInstance rfl rfl rfl (by omega) (by omega) ?_)
 refine RunL.set (v := .slice (some ⟨b, 0 + p.length * 7, none⟩) g.length (sc - p.length)) (by rw [Nat.add_sub_cancel_left]) ?_
 refine RunL.callX C94 rfl rfl rfl (c_Ofadd (own 63 7 (some ⟨b, 0, none⟩) xs.length sc (ss.flatMap Cl.c)) b (0 + p.length * 7) (sc - p.length) g hRg hgne (by omega) (fun x hx => h64 x (hgm x hx)) y0.k hgk bp aa ac acc (by omega)) tks fun ⟨a2, c2⟩ _ => ?_
 refine RunL.op rfl rfl (OpJ.not rfl ?_)
 refine kp [3, 5, 6, 9, 11, 52] rfl ?_
 first | refine Run.if rfl (fun h2 => ?_) (fun h2 => ?_) | refine Run.cond rfl (fun h2 => ?_) (fun h2 => ?_)
 refine sr ?_
 refine asg rfl rfl ?_
 refine kp [8] rfl ?_
 refine Run.ret ?_
 have hno : okG g = false := by simpa using h2
 have hsn : sheetL xs = none := hcu.1 (fun h => by unfold okG at hno; rw [h.1, h.2] at hno; cases hno)
 exact ret_out (accG acc g y0.k, a2, c2) (.tmp rfl .nil) (fun s hs => by rw [hsn] at hs; cases hs) (by rw [hsn]; rfl) gv
 refine Run.skip ?_
 refine Run.region ?_
 refine sx 2 ?_
 have hok : okG g = true := by simpa using h2
 have hok2 := hok
 unfold okG at hok2
 rw [Bool.and_eq_true] at hok2
 have hag : accG acc g y0.k = acc ++ if sumA g = 0 ∧ sumB g = 0 then [] else [⟨y0.k, sumA g, sumB g⟩] := by { unfold accG; rw [if_pos hok] }
 have hag2 : (accG acc g y0.k).length ≤ acc.length + 1 := by { rw [hag]; split <;> simp }
 have hc2 := hcu.2 hok2
 rw [← hag] at hc2
 refine RunL.weak (E' := [(3, .func (.func 94) ⟨[]⟩ ⟨[.pointer (some ⟨bp, 0, none⟩)]⟩), (5, .pointer (some ⟨b5, 0, none⟩)), (6, .pointer (some ⟨b6, 0, none⟩)), (9, .slice (some ⟨b, 0, none⟩) xs.length sc), (10, I (p ++ g).length)]) (L' := [pt b6 (blk [.func (.func 97) ⟨[]⟩ ⟨[]⟩] 167), pt b5 (blk [.func (.func 96) ⟨[]⟩ ⟨[]⟩] 166), own 63 7 (some ⟨b, 0, none⟩) xs.length sc (ss.flatMap Cl.c), pt bp (blk [.slice a2 (accG acc g y0.k).length c2] 32), own 63 7 a2 (accG acc g y0.k).length c2 ((accG acc g y0.k).flatMap Cl.c), R]) (by rw [List.length_append]; exact Keep.sub (kt (ks := [3, 5, 6, 9, 10]) rfl)) gv (RunL.nil ?_)
 exact ⟨_, (by simp only [List.length_append, List.length_cons, List.length_nil]; omega), p ++ g, [], accG acc g y0.k, a2, c2, rfl, hc2, (by rw [List.length_append]; omega), (by rw [List.length_append]; omega), rfl, rfl⟩
 have hx2 : ss[p.length + g.length]? = some y := by { rw [hcum.2.2.1, List.getElem?_append_right (by omega), List.getElem?_append_right (by omega)]; simp }
 have hq2 : p.length + g.length < xs.length := by { simp at hql; omega }
 have hrl2 : r3.length + 1 ≤ r1.length := by simpa using hrl
 refine RunD.set (congrArg Bo (decide_eq_true (by omega))) ?_
 first | refine RunD.takeGF 5 rfl rfl rfl rfl kr T167 rfl pk (by rfl) ?_ | refine RunD.takeGO 5 rfl rfl rfl rfl kr T167 rfl pk (by assumption) (by rfl) (by exact fun _ => rfl) ?_
 first | refine RunD.takeGF 6 rfl rfl rfl rfl kr T166 rfl pk (by rfl) ?_ | refine RunD.takeGO 6 rfl rfl rfl rfl kr T166 rfl pk (by assumption) (by rfl) (by exact fun _ => rfl) ?_
 refine RunD.takeG 7 rfl rfl rfl rfl rfl kr (DetJ.move rfl) .nil ?_
 refine RunD.takeG 8 rfl rfl rfl rfl rfl kr (DetJ.move rfl) .nil ?_
 refine RunD.takeG 9 rfl rfl rfl rfl rfl kr (DetJ.indexAddr S32 rfl rfl (by omega)) .nil ?_
 first | refine RunD.takeGW 10 rfl rfl rfl rfl kr T63 rfl pk (by rfl) ?_ | refine RunD.takeGE 10 rfl rfl rfl rfl kr T63 rfl pk (by assumption) (by exact fun _ => rfl) rfl (by decide) ?_
 first | refine RunD.takeGF 12 rfl rfl rfl rfl kr T166 rfl pk (by rfl) ?_ | refine RunD.takeGO 12 rfl rfl rfl rfl kr T166 rfl pk (by assumption) (by rfl) (by exact fun _ => rfl) ?_
 refine RunD.takeG 13 rfl rfl rfl rfl rfl kr (DetJ.move rfl) .nil ?_
 refine RunD.takeG 14 rfl rfl rfl rfl rfl kr (DetJ.move rfl) .nil ?_
 refine RunD.takeG 15 rfl rfl rfl rfl rfl kr (DetJ.indexAddr S32 rfl rfl (by omega)) .nil ?_
 first | refine RunD.takeGW 16 rfl rfl rfl rfl kr T63 rfl pk (by rfl) ?_ | refine RunD.takeGE 16 rfl rfl rfl rfl kr T63 rfl pk (by assumption) (by exact fun _ => rfl) rfl (by decide) ?_
 refine RunD.opG 11 [true, true, true, true, true, false, false, false, false, false, true, false, false, false, true, false] rfl rfl rfl rfl rfl kr kr (OpJ.callRet C96 rfl rfl (c_keyF y0) .nil ⟨po, ?_⟩)
 refine RunD.opG 17 [false, false, false, false, false, true, true] rfl rfl rfl rfl rfl kr kr (OpJ.callRet C96 rfl rfl (c_keyF y) .nil ⟨po, ?_⟩)
 refine RunD.opG 18 [false, true] rfl rfl rfl rfl rfl kr kr (OpJ.callRet C97 rfl rfl (c_Cmp y0.k y.k) .nil ⟨po, ?_⟩)
 refine RunD.takeG 19 rfl rfl rfl rfl rfl kr (DetJ.eql rfl rfl) .nil ?_
 refine tk 20 rfl rfl rfl (DetJ.pickT rfl rfl) ?_
 refine kd [3, 5, 6, 9, 10, 11, 43] rfl ?_
 first | refine Run.if rfl (fun h3 => ?_) (fun h3 => ?_) | refine Run.cond rfl (fun h3 => ?_) (fun h3 => ?_)
 refine Run.skip ?_
 refine Run.block ?_
 refine Run.region ?_
 refine sx 3 ?_
 refine RunL.weak (E' := [(3, .func (.func 94) ⟨[]⟩ ⟨[.pointer (some ⟨bp, 0, none⟩)]⟩), (5, .pointer (some ⟨b5, 0, none⟩)), (6, .pointer (some ⟨b6, 0, none⟩)), (9, .slice (some ⟨b, 0, none⟩) xs.length sc), (10, I p.length), (11, I ((p.length + (g ++ [y]).length : Nat) : Int))]) (L' := [pt b6 (blk [.func (.func 97) ⟨[]⟩ ⟨[]⟩] 167), pt b5 (blk [.func (.func 96) ⟨[]⟩ ⟨[]⟩] 166), own 63 7 (some ⟨b, 0, none⟩) xs.length sc (ss.flatMap Cl.c), pt bp (blk [.slice aa acc.length ac] 32), own 63 7 aa acc.length ac (acc.flatMap Cl.c), R]) (by rw [List.length_append, ← Nat.add_assoc]; exact Keep.sub (kt (ks := [3, 5, 6, 9, 10, 11]) rfl)) gv (RunL.nil ?_)
 exact ⟨_, (by simp), g ++ [y], r3, rfl, (by rw [List.append_assoc]; exact hcum), (by simp), (by rw [List.append_assoc]; exact hg0), (fun x hx => by { rcases List.mem_append.1 hx with hx | hx; exact hgk x hx; rw [List.mem_singleton.1 hx]; exact (cmpK_eq.1 (by assumption)).symm }), (by simp at hrl; omega), rfl, rfl⟩
 refine Run.exit ?_
 refine Run.seq ?_
 refine sr ?_
 have hhd : ∀ z, List.head? ((y :: r3) : List Cl) = some z → z.k ≠ y0.k := fun z hz => by { cases hz; exact fun e => (show ¬ cmpK y0.k _ = 0 by assumption) (cmpK_eq.2 e.symm) }
 have hgm : ∀ x ∈ g, x ∈ xs := fun x hx => hperm.mem_iff.1 (by rw [hcum.2.2.1]; exact List.mem_append_right _ (List.mem_append_left _ hx))
 have hcu := hcum.step hgne hgk hhd
 have hgl : 0 < g.length := List.length_pos_iff.2 hgne
 have hRg : Rd (own 63 7 (some ⟨b, 0, none⟩) xs.length sc (ss.flatMap Cl.c)) ⟨b, 0 + p.length * 7, none⟩ (g.flatMap Cl.c) := by { have h := own.rd (T := 63) (k := 7) (b := b) (n := xs.length) (cap := sc) (cs := ss.flatMap Cl.c) hsne; rw [show ss.flatMap Cl.c = (p ++ (g ++ (y :: r3))).flatMap Cl.c from congrArg (List.flatMap Cl.c) hcum.2.2.1] at h ⊢; have h2 := Rd.drop (k := 7) (fun _ => rfl) h; rw [show List.flatMap Cl.c (g ++ ((y :: r3) : List Cl)) = List.flatMap Cl.c g ++ List.flatMap Cl.c ((y :: r3) : List Cl) from List.flatMap_append ..] at h2; exact Rd.pre h2 }
 refine sx 4 ?_
 refine RunL.op rfl rfl (OpJ.sliceLH inferInstance rfl rfl rfl (by omega) (by omega) ?_)
 refine RunL.set (v := .slice (some ⟨b, 0 + p.length * 7, none⟩) g.length (sc - p.length)) (by rw [Nat.add_sub_cancel_left]) ?_
 refine RunL.callX C94 rfl rfl rfl (c_Ofadd (own 63 7 (some ⟨b, 0, none⟩) xs.length sc (ss.flatMap Cl.c)) b (0 + p.length * 7) (sc - p.length) g hRg hgne (by omega) (fun x hx => h64 x (hgm x hx)) y0.k hgk bp aa ac acc (by omega)) tks fun ⟨a2, c2⟩ _ => ?_
 refine RunL.op rfl rfl (OpJ.not rfl ?_)
 refine kp [3, 5, 6, 9, 11, 52] rfl ?_
 first | refine Run.if rfl (fun h4 => ?_) (fun h4 => ?_) | refine Run.cond rfl (fun h4 => ?_) (fun h4 => ?_)
 refine sr ?_
 refine asg rfl rfl ?_
 refine kp [8] rfl ?_
 refine Run.ret ?_
 have hno : okG g = false := by simpa using h4
 have hsn : sheetL xs = none := hcu.1 (fun h => by unfold okG at hno; rw [h.1, h.2] at hno; cases hno)
 exact ret_out (accG acc g y0.k, a2, c2) (.tmp rfl .nil) (fun s hs => by rw [hsn] at hs; cases hs) (by rw [hsn]; rfl) gv
 refine Run.skip ?_
 refine Run.region ?_
 refine sx 2 ?_
 have hok : okG g = true := by simpa using h4
 have hok2 := hok
 unfold okG at hok2
 rw [Bool.and_eq_true] at hok2
 have hag : accG acc g y0.k = acc ++ if sumA g = 0 ∧ sumB g = 0 then [] else [⟨y0.k, sumA g, sumB g⟩] := by { unfold accG; rw [if_pos hok] }
 have hag2 : (accG acc g y0.k).length ≤ acc.length + 1 := by { rw [hag]; split <;> simp }
 have hc2 := hcu.2 hok2
 rw [← hag] at hc2
 refine RunL.weak (E' := [(3, .func (.func 94) ⟨[]⟩ ⟨[.pointer (some ⟨bp, 0, none⟩)]⟩), (5, .pointer (some ⟨b5, 0, none⟩)), (6, .pointer (some ⟨b6, 0, none⟩)), (9, .slice (some ⟨b, 0, none⟩) xs.length sc), (10, I (p ++ g).length)]) (L' := [pt b6 (blk [.func (.func 97) ⟨[]⟩ ⟨[]⟩] 167), pt b5 (blk [.func (.func 96) ⟨[]⟩ ⟨[]⟩] 166), own 63 7 (some ⟨b, 0, none⟩) xs.length sc (ss.flatMap Cl.c), pt bp (blk [.slice a2 (accG acc g y0.k).length c2] 32), own 63 7 a2 (accG acc g y0.k).length c2 ((accG acc g y0.k).flatMap Cl.c), R]) (by rw [List.length_append]; exact Keep.sub (kt (ks := [3, 5, 6, 9, 10]) rfl)) gv (RunL.nil ?_)
 exact ⟨_, (by simp only [List.length_append, List.length_cons, List.length_nil]; omega), p ++ g, (y :: r3), accG acc g y0.k, a2, c2, rfl, hc2, (by rw [List.length_append]; omega), (by rw [List.length_append]; omega), rfl, rfl⟩
 refine Run.exit ?_
 refine sr ?_
 refine asg rfl rfl ?_
 refine kp [8] rfl ?_
 refine Run.ret ?_
 have hpl : p.length + r.length = xs.length := by { have h2 := congrArg List.length hcum.2.2.1; rw [List.length_append] at h2; omega }
 obtain rfl : r = [] := List.eq_nil_of_length_eq_zero (by omega)
 have hd := hcum.done
 exact ret_out (acc, aa, ac) (.tmp rfl .nil) (fun s hs => by rw [hd] at hs; cases hs; rfl) (by rw [hd]; rfl) gv
theorem c_Of0 (R : HP) (oa : Option Addr) (cap : Nat) : AC Tryz.prog 52 ⟨[.slice oa 0 cap]⟩ (stars [R]) (Outs (fun _ : Option Addr × Nat => True) (fun y => .tuple ⟨[.slice y.1 0 y.2, I 0]⟩) (fun y => [own 63 7 y.1 0 y.2 [], R])) := by
 refine AC.go Tryz.func52 rfl (Nat.le_of_ble_eq_true rfl) fun β => ?_
 refine sr ?_
 refine RunL.op rfl rfl (OpJ.alloc Z32 fun b2 => ?_)
 refine asg rfl rfl ?_
 refine kp [0, 2] rfl ?_
 refine sr ?_
 refine sx 2 ?_
 refine kp [0, 2, 4] rfl ?_
 refine Run.seq ?_
 refine sr ?_
 refine sx 2 ?_
 refine RunL.call C95 rfl rfl rfl (c_grouped0 R oa cap _) tks ?_
 refine RunL.op rfl rfl (OpJ.not rfl ?_)
 skip
 refine RunL.set (v := Bo false) rfl ?_
 refine kp [2, 9] rfl ?_
 refine Run.false rfl ?_
 refine Run.skip ?_
 refine sr ?_
 refine RunL.ownNil 63 7 ?_
 refine sx 3 ?_
 refine kp [2, 3] rfl ?_
 refine Run.ret ?_
 exact ret_out (none, 0) (.cell1 T32 rfl pk (.tmp rfl .nil)) trivial rfl gv
theorem c_Of1 (R : HP) (oa : Option Addr) (cap : Nat) (xs : List Cl) (hR : RdS R oa (xs.flatMap Cl.c)) (hl : xs.length ≤ 100000) (h64 : ∀ x ∈ xs, i64 x.amt ∧ i64 x.base) (hne : xs ≠ []) : AC Tryz.prog 52 ⟨[.slice oa xs.length cap]⟩ (stars [R]) (Outs (fun _ : Option Addr × Nat => True) (fun y => .tuple ⟨[.slice y.1 (ofL xs).1.length y.2, I (ofL xs).2]⟩) (fun y => [own 63 7 y.1 (ofL xs).1.length y.2 ((ofL xs).1.flatMap Cl.c), R])) := by
 refine AC.go Tryz.func52 rfl (Nat.le_of_ble_eq_true rfl) fun β => ?_
 refine sr ?_
 refine RunL.op rfl rfl (OpJ.alloc Z32 fun b2 => ?_)
 refine asg rfl rfl ?_
 refine kp [0, 2] rfl ?_
 refine sr ?_
 refine sx 2 ?_
 refine kp [0, 2, 4] rfl ?_
 refine Run.seq ?_
 refine sr ?_
 refine sx 2 ?_
 refine RunL.callX C95 rfl rfl rfl (c_grouped R oa cap xs hR hl h64 hne b2) tks fun ⟨s, sa, sc⟩ hs => ?_
 refine RunL.op rfl rfl (OpJ.not rfl ?_)
 rcases hsl : sheetL xs with _ | t
 have hof : ofL xs = ([], 4) := by { unfold ofL; rw [hsl] }
 refine RunL.set (v := Bo true) rfl ?_
 refine kp [2, 9] rfl ?_
 refine Run.true rfl ?_
 refine sr ?_
 refine RunL.ownNil 63 7 ?_
 refine sx 2 ?_
 refine kp [2, 3] rfl ?_
 refine Run.ret ?_
 rw [hof]
 exact ret_out (none, 0) (.cell1 T32 rfl pk (.tmp rfl .nil)) trivial rfl gv
 have hof : ofL xs = (t, 0) := by { unfold ofL; rw [hsl] }
 obtain rfl := hs t hsl
 refine RunL.set (v := Bo false) rfl ?_
 refine kp [2, 9] rfl ?_
 refine Run.false rfl ?_
 refine Run.skip ?_
 refine sr ?_
 refine sx 3 ?_
 refine kp [2, 3] rfl ?_
 refine Run.ret ?_
 rw [hof]
 exact ret_out (sa, sc) (.cell1 T32 rfl pk (.tmp rfl .nil)) trivial rfl gv
end
theorem c_sOf (R : HP) (oa : Option Addr) (cap : Nat) (xs : List Cl) (hR : RdS R oa (xs.flatMap Cl.c)) (hl : xs.length ≤ 100000) (h64 : ∀ x ∈ xs, i64 x.amt ∧ i64 x.base) : AC Tryz.prog 52 ⟨[.slice oa xs.length cap]⟩ (stars [R]) (Outs (fun _ : Option Addr × Nat => True) (fun y => .tuple ⟨[.slice y.1 (ofL xs).1.length y.2, I (ofL xs).2]⟩) (fun y => [own 63 7 y.1 (ofL xs).1.length y.2 ((ofL xs).1.flatMap Cl.c), R])) := by
  by_cases hne : xs = []
  · subst hne; exact c_Of0 R oa cap
  · exact c_Of1 R oa cap xs hR hl h64 hne
section
attribute [local irreducible] OpJ RunL Run RunD DetJ pt own star Rd RdS
theorem c_Text (R : HP) (oa : Option Addr) (cap : Nat) (ts : List Tg) (hR : RdS R oa (ts.flatMap Tg.c)) : AC Tryz.prog 93 ⟨[.slice oa ts.length cap]⟩ (stars [R]) (Ret (.tuple ⟨[St (textV ts), I (if rightB ts = true then 0 else 14)]⟩) [R]) := by
 refine AC.go Tryz.func93 rfl (Nat.le_of_ble_eq_true rfl) fun β => ?_
 refine sr ?_
 refine sx 2 ?_
 refine kp [0, 2] rfl ?_
 refine Run.seq ?_
 refine sr ?_
 refine mvo rfl rfl ?_
 refine RunL.call C125 rfl rfl rfl (c_dRight R _ _ _ (by assumption)) tks ?_
 refine RunL.op rfl rfl (OpJ.not rfl ?_)
 refine kp [0, 2, 8] rfl ?_
 first | refine Run.if rfl (fun h1 => ?_) (fun h1 => ?_) | refine Run.cond rfl (fun h1 => ?_) (fun h1 => ?_)
 refine sr ?_
 refine sx 2 ?_
 refine kp [2, 3] rfl ?_
 refine Run.ret ?_
 exact ret_one (.tmp rfl (.tmp rfl .nil)) (by have hn : ¬ rightB ts = true := (by simpa using h1); unfold textV; rw [if_neg hn, if_neg hn]; rfl) gv
 refine Run.skip ?_
 refine Run.seq ?_
 refine sr ?_
 have hrt : rightB ts = true := by simpa using h1
 have hl6 := right_len hrt
 refine sx 3 ?_
 refine kp [2, 9, 10, 11] rfl ?_
 refine Run.block ?_
 refine Run.loop (fun mm E L => ∃ (i : Nat) (s : ByteArray), mm = ts.length - i ∧ i ≤ ts.length ∧ textI i s (ts.drop i) = textL ts ∧ s.size ≤ 30 * i ∧ E = [(2, St s), (9, .slice oa ts.length cap), (10, I ts.length), (11, I i)] ∧ L = [R]) ⟨_, 0, bs0, rfl, Nat.zero_le _, rfl, by decide, rfl, rfl⟩ ?_
 rintro _ _ _ ⟨i, s, rfl, hi, htx, hsz, rfl, rfl⟩
 refine sr ?_
 refine sx 1 ?_
 refine kp [2, 9, 10, 11, 12] rfl ?_
 refine Run.seq ?_
 first | refine Run.if rfl (fun h2 => ?_) (fun h2 => ?_) | refine Run.cond rfl (fun h2 => ?_) (fun h2 => ?_)
 refine Run.skip ?_
 refine Run.seq ?_
 refine Run.block ?_
 refine sr ?_
 obtain ⟨t, ht⟩ := get_ex (xs := ts) (i := i) (by omega)
 have htg := tg_size (right_at hrt ht)
 refine RunL.rdOpen pk hR (flat_ne (k := 2) (fun _ => rfl) (by decide) ht) fun b o e hrd => ?_
 subst e
 refine sx 2 ?_
 refine RunL.op rfl rfl (OpJ.loadA inferInstance rfl pk (hrd.elem (fun _ => rfl) ht) rfl ?_)
 refine RunL.op rfl rfl (OpJ.alloc Z151 fun b5 => ?_)
 refine asg rfl rfl ?_
 refine RunL.op rfl rfl (OpJ.storeW T151 rfl rfl rfl rfl (by simp [Value.oneCell', Tg.c, Ln.c, En.c, Ac.c, Cl.c, Ky.c, Qy.c, Sb, Iv]) up ?_)
 refine kp [2, 4, 5, 9, 10, 11] rfl ?_
 refine Run.seq ?_
 refine sr ?_
 refine sx 2 ?_
 refine kp [2, 5, 9, 10, 11, 17] rfl ?_
 first | refine Run.if rfl (fun h3 => ?_) (fun h3 => ?_) | refine Run.cond rfl (fun h3 => ?_) (fun h3 => ?_)
 refine Run.region ?_
 refine mvo rfl rfl ?_
 refine RunL.op rfl rfl (OpJ.addS rfl rfl (by rw [comma_size]; omega) ?_)
 refine asg rfl rfl ?_
 refine kp [2, 5, 9, 10, 11] rfl ?_
 refine Run.region ?_
 refine sx 3 ?_
 refine RunL.op rfl rfl (OpJ.addS rfl rfl (by rw [equals_size]; omega) ?_)
 refine sx 2 ?_
 refine RunL.op rfl rfl (OpJ.addS rfl rfl (by rw [app_size, equals_size]; omega) ?_)
 refine RunL.op rfl rfl (OpJ.addS rfl rfl (by simp only [app_size, equals_size, comma_size]; omega) ?_)
 refine asg rfl rfl ?_
 refine kp [2, 9, 10, 11] rfl ?_
 refine Run.region ?_
 refine sx 2 ?_
 have hst := textI_step (s := s) ht
 rw [if_neg (by omega)] at hst
 exact RunL.next (Keep.sub (kt (ks := [2, 9, 10, 11]) rfl)) _ ⟨_, by omega, i + 1, _, rfl, by omega, (by rw [← hst]; exact htx), (by simp only [app_size, equals_size, comma_size]; omega), rfl, rfl⟩ gv
 refine Run.skip ?_
 refine Run.region ?_
 refine sx 3 ?_
 refine RunL.op rfl rfl (OpJ.addS rfl rfl (by rw [equals_size]; omega) ?_)
 refine sx 2 ?_
 refine RunL.op rfl rfl (OpJ.addS rfl rfl (by rw [app_size, equals_size]; omega) ?_)
 refine RunL.op rfl rfl (OpJ.addS rfl rfl (by simp only [app_size, equals_size, comma_size]; omega) ?_)
 refine asg rfl rfl ?_
 refine kp [2, 9, 10, 11] rfl ?_
 refine Run.region ?_
 refine sx 2 ?_
 have hst := textI_step (s := s) ht
 rw [if_pos (by omega)] at hst
 exact RunL.next (Keep.sub (kt (ks := [2, 9, 10, 11]) rfl)) _ ⟨_, by omega, i + 1, _, rfl, by omega, (by rw [← hst]; exact htx), (by simp only [app_size, equals_size, comma_size]; omega), rfl, rfl⟩ gv
 refine Run.exit ?_
 refine sr ?_
 refine sx 3 ?_
 refine kp [2, 3] rfl ?_
 refine Run.ret ?_
 exact ret_one (.tmp rfl (.tmp rfl .nil)) (by rw [textI_end (by omega)] at htx; unfold textV; rw [if_pos hrt, if_pos hrt, htx]; rfl) gv
theorem c_raw (e : En) (R : HP) (he : e.rd R) (hl : e.lines.length ≤ 1000) : AC Tryz.prog 51 ⟨[.agg ⟨e.c⟩]⟩ (stars [R]) (Outs (fun _ : Option Addr × Nat => True) (fun y => .slice y.1 (rawL e).length y.2) (fun y => [own 63 7 y.1 (rawL e).length y.2 ((rawL e).flatMap Cl.c), R])) := by
 refine AC.go Tryz.func51 rfl (Nat.le_of_ble_eq_true rfl) fun β => ?_
 refine sr ?_
 refine RunL.op rfl rfl (OpJ.boxA rfl fun b1 => ?_)
 refine asg rfl rfl ?_
 refine kp [1] rfl ?_
 refine sr ?_
 refine sx 3 ?_
 refine RunL.op rfl rfl (OpJ.make0 inferInstance inferInstance rfl rfl (by omega) (by omega) fun b12 => ?_)
 refine asg rfl rfl ?_
 refine kp [1, 3] rfl ?_
 refine Run.seq ?_
 refine sr ?_
 refine sx 4 ?_
 refine kp [1, 3, 14, 15, 16] rfl ?_
 refine Run.block ?_
 refine Run.weak (L' := [pt b1 (blk e.c 42), own 63 7 (some ⟨b12, 0, none⟩) ((rawL e).take 0).length e.lines.length (((rawL e).take 0).flatMap Cl.c), R]) (fun _ _ h => h) gv ?_
 refine Run.loop (fun mm E L => ∃ (i : Nat) (ca : Option Addr) (cc : Nat), mm = e.lines.length - i ∧ i ≤ e.lines.length ∧ E = [(1, .pointer (some ⟨b1, 0, none⟩)), (3, .slice ca ((rawL e).take i).length cc), (14, .slice e.la e.lines.length e.lc), (15, I e.lines.length), (16, I i)] ∧ L = [pt b1 (blk e.c 42), own 63 7 ca ((rawL e).take i).length cc (((rawL e).take i).flatMap Cl.c), R]) ⟨_, 0, some ⟨b12, 0, none⟩, e.lines.length, rfl, Nat.zero_le _, rfl, rfl⟩ ?_
 rintro _ _ _ ⟨i, ca, cc, rfl, hi, rfl, rfl⟩
 refine sr ?_
 refine sx 1 ?_
 refine kp [1, 3, 14, 15, 16, 17] rfl ?_
 refine Run.seq ?_
 first | refine Run.if rfl (fun h1 => ?_) (fun h1 => ?_) | refine Run.cond rfl (fun h1 => ?_) (fun h1 => ?_)
 refine Run.skip ?_
 refine Run.seq ?_
 refine Run.block ?_
 refine sr ?_
 obtain ⟨l, hli⟩ := get_ex (xs := e.lines) (i := i) (by omega)
 have hlr := he.2 l (List.mem_of_getElem? hli)
 refine RunL.rdOpen pk he.1 (flat_ne (k := 7) (fun _ => rfl) (by decide) hli) fun b o ebo hrd => ?_
 rw [ebo]
 refine sx 1 ?_
 refine RunL.op rfl rfl (OpJ.loadA inferInstance rfl pk (hrd.elem (fun _ => rfl) hli) rfl ?_)
 refine RunL.op rfl rfl (OpJ.alloc Z73 fun b5 => ?_)
 refine RunL.op rfl rfl (OpJ.storeW T73 rfl rfl rfl rfl (by simp [Value.oneCell', Tg.c, Ln.c, En.c, Ac.c, Cl.c, Ky.c, Qy.c, Sb, Iv]) up ?_)
 refine kp [1, 3, 5, 14, 15, 16] rfl ?_
 refine sr ?_
 refine sx 2 ?_
 refine RunL.call C93 rfl rfl rfl (c_Text R _ _ _ hlr.1) tks ?_
 refine sx 5 ?_
 refine kp [1, 3, 5, 6, 14, 15, 16] rfl ?_
 refine sr ?_
 refine sx 10 ?_
 refine RunL.op rfl rfl (OpJ.alloc Z61 fun b8 => ?_)
 refine RunL.op rfl rfl (OpJ.storeW T61 rfl rfl rfl rfl (by simp [Value.oneCell', Tg.c, Ln.c, En.c, Ac.c, Cl.c, Ky.c, Qy.c, Sb, Iv]) up ?_)
 refine kp [1, 3, 5, 8, 14, 15, 16] rfl ?_
 refine Run.region ?_
 refine sx 7 ?_
 refine RunL.op rfl rfl (OpJ.buildSlice1 S32 rfl rfl rfl (by decide) (by decide) Z63 rfl fun b43 => ?_)
 have hrl : ((rawL e).take i).length ≤ 1000 := by { rw [List.length_take]; omega }
 refine RunL.op rfl rfl (OpJ.append1 (rawF e l) S32 M63 rfl rfl pk pk rfl rfl (by simp [Value.oneCell', Tg.c, Ln.c, En.c, Ac.c, Cl.c, Ky.c, Qy.c, Sb, Iv]) rfl (by omega) (by omega) fun a44 c44 => ?_)
 refine asg rfl rfl ?_
 refine kp [1, 3, 14, 15, 16] rfl ?_
 refine Run.region ?_
 refine sx 2 ?_
 rw [← raw_at hli]
 exact RunL.next (Keep.sub (kt (ks := [1, 3, 14, 15, 16]) rfl)) _ ⟨_, by omega, i + 1, a44, c44, rfl, by omega, rfl, rfl⟩ gv
 refine Run.exit ?_
 refine sr ?_
 refine sx 2 ?_
 refine kp [2] rfl ?_
 refine Run.ret ?_
 have hfull : (rawL e).take i = rawL e := List.take_of_length_le (by rw [raw_eq, List.length_map]; omega)
 rw [hfull]
 exact ret_out (ca, cc) (.tmp rfl .nil) trivial rfl gv
theorem c_selector (q : Qy) : AC Tryz.prog 50 ⟨[.agg ⟨q.c⟩]⟩ (stars []) (Outs (fun _ : Nat => True) (fun qb => .func (.func 92) ⟨[]⟩ ⟨[.pointer (some ⟨qb, 0, none⟩)]⟩) (fun qb => [pt qb (blk q.c 54)])) := by
 refine AC.go Tryz.func50 rfl (Nat.le_of_ble_eq_true rfl) fun β => ?_
 refine sr ?_
 refine RunL.op rfl rfl (OpJ.boxA rfl fun b1 => ?_)
 refine asg rfl rfl ?_
 refine kp [1] rfl ?_
 refine sr ?_
 refine sx 2 ?_
 refine kp [2] rfl ?_
 refine Run.ret ?_
 exact ret_out b1 (.tmp rfl .nil) trivial rfl gv
theorem c_sel (q : Qy) (e : En) (qb : Nat) : AC Tryz.prog 92 ⟨[.agg ⟨e.c⟩, .pointer (some ⟨qb, 0, none⟩)]⟩ (stars [pt qb (blk q.c 54)]) (Ret (Bo (selB q e)) [pt qb (blk q.c 54)]) := by
 refine AC.go Tryz.func92 rfl (Nat.le_of_ble_eq_true rfl) fun β => ?_
 refine sr ?_
 refine RunL.op rfl rfl (OpJ.boxA rfl fun b2 => ?_)
 refine asg rfl rfl ?_
 refine kp [1, 2] rfl ?_
 refine sr ?_
 refine sx 4 ?_
 first | refine RunL.splitP (t := 7) rfl (fun g1 => ?_) (fun g1 => ?_) | refine RunL.split (t := 7) rfl (fun g1 => ?_) (fun g1 => ?_)
 refine sx 14 ?_
 first | refine RunL.splitP (t := 21) rfl (fun g2 => ?_) (fun g2 => ?_) | refine RunL.split (t := 21) rfl (fun g2 => ?_) (fun g2 => ?_)
 refine sx 7 ?_
 first | refine RunL.splitP (t := 28) rfl (fun g3 => ?_) (fun g3 => ?_) | refine RunL.split (t := 28) rfl (fun g3 => ?_) (fun g3 => ?_)
 refine sx 7 ?_
 refine kp [3] rfl ?_
 refine Run.ret ?_
 exact ret_one (.tmp rfl .nil) (congrArg Bo (by rw [Bool.eq_iff_iff]; first | (simp [selB, *]; done) | (simp [selB, *]; omega))) gv
 refine sx 7 ?_
 refine kp [3] rfl ?_
 refine Run.ret ?_
 exact ret_one (.tmp rfl .nil) (congrArg Bo (by rw [Bool.eq_iff_iff]; first | (simp [selB, *]; done) | (simp [selB, *]; omega))) gv
 refine sx 14 ?_
 refine kp [3] rfl ?_
 refine Run.ret ?_
 exact ret_one (.tmp rfl .nil) (congrArg Bo (by rw [Bool.eq_iff_iff]; first | (simp [selB, *]; done) | (simp [selB, *]; omega))) gv
 refine sx 7 ?_
 first | refine RunL.splitP (t := 14) rfl (fun g4 => ?_) (fun g4 => ?_) | refine RunL.split (t := 14) rfl (fun g4 => ?_) (fun g4 => ?_)
 refine sx 7 ?_
 first | refine RunL.splitP (t := 21) rfl (fun g5 => ?_) (fun g5 => ?_) | refine RunL.split (t := 21) rfl (fun g5 => ?_) (fun g5 => ?_)
 refine sx 7 ?_
 first | refine RunL.splitP (t := 28) rfl (fun g6 => ?_) (fun g6 => ?_) | refine RunL.split (t := 28) rfl (fun g6 => ?_) (fun g6 => ?_)
 refine sx 7 ?_
 refine kp [3] rfl ?_
 refine Run.ret ?_
 exact ret_one (.tmp rfl .nil) (congrArg Bo (by rw [Bool.eq_iff_iff]; first | (simp [selB, *]; done) | (simp [selB, *]; omega))) gv
 refine sx 7 ?_
 refine kp [3] rfl ?_
 refine Run.ret ?_
 exact ret_one (.tmp rfl .nil) (congrArg Bo (by rw [Bool.eq_iff_iff]; first | (simp [selB, *]; done) | (simp [selB, *]; omega))) gv
 refine sx 14 ?_
 refine kp [3] rfl ?_
 refine Run.ret ?_
 exact ret_one (.tmp rfl .nil) (congrArg Bo (by rw [Bool.eq_iff_iff]; first | (simp [selB, *]; done) | (simp [selB, *]; omega))) gv
 refine sx 21 ?_
 refine kp [3] rfl ?_
 refine Run.ret ?_
 exact ret_one (.tmp rfl .nil) (congrArg Bo (by rw [Bool.eq_iff_iff]; first | (simp [selB, *]; done) | (simp [selB, *]; omega))) gv
theorem c_Replay (R : HP) (oa : Option Addr) (cap : Nat) (l : List En) (q : Qy) (hR0 : Rd R ⟨0, 0, none⟩ lensC) (hR : RdS R oa (l.flatMap En.c)) (hrd : ∀ e ∈ l, e.rd R) (hl : l.length ≤ 1000) : AC Tryz.prog 20 ⟨[.slice oa l.length cap, .agg ⟨q.c⟩]⟩ (stars [R]) (Outs (fun _ : Option Addr × Nat => True) (fun y => .tuple ⟨[.slice y.1 (replayL l q).1.length y.2, I (replayL l q).2]⟩) (fun y => [own 63 7 y.1 (replayL l q).1.length y.2 ((replayL l q).1.flatMap Cl.c), R])) := by
 refine AC.go Tryz.func20 rfl (Nat.le_of_ble_eq_true rfl) fun β => ?_
 refine sr ?_
 refine RunL.op rfl rfl (OpJ.boxA rfl fun b3 => ?_)
 refine sx 2 ?_
 refine kp [0, 3] rfl ?_
 refine sr ?_
 refine sx 1 ?_
 refine RunL.callX C50 rfl rfl rfl (c_selector q) tks fun qb _ => ?_
 refine asg rfl rfl ?_
 refine kp [0, 6] rfl ?_
 refine sr ?_
 refine asg rfl rfl ?_
 refine kp [0, 6, 7] rfl ?_
 refine Run.seq ?_
 refine sr ?_
 refine RunL.ownNil 63 7 ?_
 refine sx 3 ?_
 refine kp [6, 7, 14, 15, 16] rfl ?_
 refine Run.block ?_
 refine Run.weak (L' := [pt qb (blk q.c 54), own 63 7 none (cellsL q (l.take 0)).length 0 ((cellsL q (l.take 0)).flatMap Cl.c), R]) (fun _ _ h => h) gv ?_
 refine Run.loop (fun mm E L => ∃ (i : Nat) (ca : Option Addr) (cc : Nat), mm = l.length - i ∧ i ≤ l.length ∧ (∀ (j : Nat) (y : En), j < i → l[j]? = some y → (chkN y).2 = 0) ∧ E = [(6, .func (.func 92) ⟨[]⟩ ⟨[.pointer (some ⟨qb, 0, none⟩)]⟩), (7, .slice ca (cellsL q (l.take i)).length cc), (14, .slice oa l.length cap), (15, I l.length), (16, I i)] ∧ L = [pt qb (blk q.c 54), own 63 7 ca (cellsL q (l.take i)).length cc ((cellsL q (l.take i)).flatMap Cl.c), R]) ⟨_, 0, none, 0, rfl, Nat.zero_le _, (fun _ _ h => by omega), rfl, rfl⟩ ?_
 rintro _ _ _ ⟨i, ca, cc, rfl, hi, hI0, rfl, rfl⟩
 refine sr ?_
 refine sx 1 ?_
 refine kp [6, 7, 14, 15, 16, 17] rfl ?_
 refine Run.seq ?_
 first | refine Run.if rfl (fun h1 => ?_) (fun h1 => ?_) | refine Run.cond rfl (fun h1 => ?_) (fun h1 => ?_)
 refine Run.skip ?_
 refine Run.seq ?_
 refine Run.block ?_
 refine sr ?_
 obtain ⟨e, hel⟩ := get_ex (xs := l) (i := i) (by omega)
 have hem := List.mem_of_getElem? hel
 have her := hrd e hem
 have hcl := cells_len (q := q) (l := l.take i) (fun x hx => by { obtain ⟨j, hj, rfl⟩ := List.getElem_of_mem hx; rw [List.length_take] at hj; refine chk_len (hI0 j _ (by omega) ?_); rw [List.getElem_take]; exact List.getElem?_eq_getElem _ })
 rw [List.length_take] at hcl
 refine RunL.rdOpen pk hR (flat_ne (k := 9) (fun _ => rfl) (by decide) hel) fun b o ebo hrdx => ?_
 subst ebo
 refine sx 1 ?_
 refine RunL.op rfl rfl (OpJ.loadA inferInstance rfl pk (hrdx.elem (fun _ => rfl) hel) rfl ?_)
 refine RunL.op rfl rfl (OpJ.alloc Z42 fun b9 => ?_)
 refine RunL.op rfl rfl (OpJ.storeW T42 rfl rfl rfl rfl (by simp [Value.oneCell', Tg.c, Ln.c, En.c, Ac.c, Cl.c, Ky.c, Qy.c, Sb, Iv]) up ?_)
 refine kp [6, 7, 9, 14, 15, 16] rfl ?_
 refine Run.seq ?_
 refine sr ?_
 refine sx 1 ?_
 refine RunL.call C39 rfl rfl rfl (c_Check e R hR0 her) tks ?_
 refine sx 5 ?_
 refine kp [6, 7, 9, 11, 14, 15, 16] rfl ?_
 refine sr ?_
 refine sx 2 ?_
 refine kp [6, 7, 9, 11, 14, 15, 16, 26] rfl ?_
 first | refine Run.if rfl (fun h2 => ?_) (fun h2 => ?_) | refine Run.cond rfl (fun h2 => ?_) (fun h2 => ?_)
 refine sr ?_
 refine RunL.ownNil 63 7 ?_
 refine sx 3 ?_
 refine kp [4, 5] rfl ?_
 refine Run.ret ?_
 have hn : ¬ (chkN e).2 = 0 := by simpa using h2
 have her2 := errL_at hI0 hel hn
 have hrep : replayL l q = ([], (chkN e).2) := by { unfold replayL; rw [her2, if_neg hn] }
 rw [hrep]
 exact ret_out (none, 0) (.tmp rfl (.tmp rfl .nil)) trivial rfl gv
 refine Run.skip ?_
 refine sr ?_
 have hck : (chkN e).2 = 0 := by simpa using h2
 have hel100 := chk_len hck
 have hr1 : (rawL e).length ≤ 100 := by { rw [raw_eq, List.length_map]; exact hel100 }
 refine sx 2 ?_
 refine RunL.call C92 rfl rfl rfl (c_sel q e qb) tks ?_
 refine kp [6, 7, 9, 14, 15, 16, 30] rfl ?_
 first | refine Run.if rfl (fun h3 => ?_) (fun h3 => ?_) | refine Run.cond rfl (fun h3 => ?_) (fun h3 => ?_)
 refine Run.region ?_
 refine sx 2 ?_
 refine RunL.callX C51 rfl rfl rfl (c_raw e R her (by omega)) tks fun ⟨ra, rc⟩ _ => ?_
 refine RunL.op rfl rfl (OpJ.appendAll S32 M63 rfl rfl pk pk own.rds (flat_len (enc := Cl.c) (k := 7) (fun _ => rfl) _) (by decide) (flat_one cl1 _) (by omega) (by omega) fun a34 c34 => ?_)
 refine asg rfl rfl ?_
 refine kp [6, 7, 14, 15, 16] rfl ?_
 refine Run.region ?_
 refine sx 2 ?_
 have hcs := cells_step (q := q) hel
 rw [if_pos (by assumption)] at hcs
 rw [← List.length_append, ← List.flatMap_append, ← hcs]
 exact RunL.next (Keep.sub (kt (ks := [6, 7, 14, 15, 16]) rfl)) _ ⟨_, by omega, i + 1, a34, c34, rfl, by omega, (fun j y hj hy => by { by_cases e2 : j = i; (subst e2; rw [hel] at hy; cases hy; exact hck); exact hI0 j y (by omega) hy }), rfl, rfl⟩ gv
 refine Run.skip ?_
 refine Run.region ?_
 refine sx 2 ?_
 have hcs := cells_step (q := q) hel
 rw [if_neg (by simpa using h3), List.append_nil] at hcs
 rw [← hcs]
 exact RunL.next (Keep.sub (kt (ks := [6, 7, 14, 15, 16]) rfl)) _ ⟨_, by omega, i + 1, ca, cc, rfl, by omega, (fun j y hj hy => by { by_cases e2 : j = i; (subst e2; rw [hel] at hy; cases hy; exact hck); exact hI0 j y (by omega) hy }), rfl, rfl⟩ gv
 refine Run.exit ?_
 refine sr ?_
 have htk : l.take i = l := List.take_of_length_le (by omega)
 rw [htk]
 have hcl := cells_len (q := q) (l := l) (fun x hx => by { obtain ⟨j, hj, rfl⟩ := List.getElem_of_mem hx; exact chk_len (hI0 j _ (by omega) (List.getElem?_eq_getElem hj)) })
 have herr : errL l = 0 := errL_none fun x hx => by { obtain ⟨j, hj, rfl⟩ := List.getElem_of_mem hx; exact hI0 j _ (by omega) (List.getElem?_eq_getElem hj) }
 have hrep : replayL l q = ofL (cellsL q l) := by { unfold replayL ofL; rw [if_pos herr]; cases sheetL (cellsL q l) <;> rfl }
 refine mvo rfl rfl ?_
 refine RunL.callX C52 rfl rfl rfl (c_sOf _ ca cc (cellsL q l) own.rds (by omega) (cells_64 hrd)) tks fun ⟨sa, sc⟩ _ => ?_
 refine sx 4 ?_
 refine kp [4, 5] rfl ?_
 refine Run.ret ?_
 rw [hrep]
 exact ret_out (sa, sc) (.tmp rfl (.tmp rfl .nil)) trivial rfl gv
theorem c_Get (b bm : Nat) (v w : Value) (m : List Ac) (hm6 : ∀ a ∈ m, a.need.length ≤ 6) (s : ByteArray) : AC Tryz.prog 21 ⟨[.pointer (some ⟨b, 0, none⟩), St s]⟩ (stars [pt b (blk [.map (some bm), v, w] 110), amap bm acF acG m, big (ndH 9) m]) (Outs (fun _ : Option Addr × Nat => True) (fun y => .tuple ⟨[.agg ⟨((lkA m s).put y).c⟩, Bo (getL m s).isSome]⟩) (fun y => [own 9 1 y.1 (lkA m s).need.length y.2 ((lkA m s).need.flatMap Sb), pt b (blk [.map (some bm), v, w] 110), amap bm acF acG m, big (ndH 9) m])) := by
 have hn6 := lk_need (c := s) hm6
 refine AC.go Tryz.func21 rfl (Nat.le_of_ble_eq_true rfl) fun β => ?_
 refine sr ?_
 refine RunL.op rfl rfl (OpJ.alloc Z57 fun b4 => ?_)
 refine asg rfl rfl ?_
 refine kp [0, 1, 4] rfl ?_
 refine Run.seq ?_
 refine sr ?_
 refine sx 2 ?_
 refine kp [0, 1, 4, 7] rfl ?_
 refine Run.false rfl ?_
 refine Run.skip ?_
 refine sr ?_
 refine sx 5 ?_
 refine RunL.op rfl rfl (OpJ.lookupA2 inferInstance inferInstance inferInstance rfl rfl pk ?_)
 refine sx 3 ?_
 refine RunL.op rfl rfl (OpJ.storeW T57 rfl rfl rfl rfl (by simp [Value.oneCell', Tg.c, Ln.c, En.c, Ac.c, Cl.c, Ky.c, Qy.c, Sb, Iv]) up ?_)
 refine asg rfl rfl ?_
 refine kp [4, 5] rfl ?_
 refine sr ?_
 refine sx 1 ?_
 refine RunL.callX C53 rfl rfl rfl (c_copied (lkA m s) (big (ndH 9) m) lk_rds (by omega) (by omega)) tks fun ⟨na, nc⟩ _ => ?_
 refine mvo rfl rfl ?_
 refine RunL.op rfl rfl (OpJ.storeW T57 rfl rfl rfl rfl (by simp [Value.oneCell', Tg.c, Ln.c, En.c, Ac.c, Cl.c, Ky.c, Qy.c, Sb, Iv]) up ?_)
 refine asg rfl rfl ?_
 refine kp [4, 5] rfl ?_
 refine Run.ret ?_
 exact ret_out (na, nc) (.cellA T57 rfl pk (by rfl) (.tmp rfl .nil)) trivial rfl gv
theorem c_balances (R : HP) (oa : Option Addr) (cap : Nat) (l : List En) (hR0 : Rd R ⟨0, 0, none⟩ lensC) (hR : RdS R oa (l.flatMap En.c)) (hrd : ∀ e ∈ l, e.rd R) (hl : l.length ≤ 1000) (ent : ByteArray) (last book : Int) : AC Tryz.prog 69 ⟨[.slice oa l.length cap, St ent, I last, I book]⟩ (stars [R]) (Outs (fun _ : Option Addr × Nat => True) (fun y => .tuple ⟨[.slice y.1 (replayL l ⟨ent, 0, last, book⟩).1.length y.2, I (replayL l ⟨ent, 0, last, book⟩).2]⟩) (fun y => [own 63 7 y.1 (replayL l ⟨ent, 0, last, book⟩).1.length y.2 ((replayL l ⟨ent, 0, last, book⟩).1.flatMap Cl.c), R])) := by
 refine AC.go Tryz.func69 rfl (Nat.le_of_ble_eq_true rfl) fun β => ?_
 refine sr ?_
 refine sx 2 ?_
 refine kp [0, 1, 2, 3] rfl ?_
 refine sr ?_
 refine sx 5 ?_
 refine RunL.callX C20 rfl rfl rfl (c_Replay R oa cap l ⟨ent, 0, last, book⟩ hR0 hR hrd hl) tks fun ⟨sa, sc⟩ _ => ?_
 refine sx 4 ?_
 refine kp [8, 9] rfl ?_
 refine Run.ret ?_
 exact ret_out (sa, sc) (.tmp rfl (.tmp rfl .nil)) trivial rfl gv
theorem c_result (b bm : Nat) (v w : Value) (m : List Ac) (hm6 : ∀ a ∈ m, a.need.length ≤ 6) (R : HP) (oa : Option Addr) (cap : Nat) (l : List En) (hR0 : Rd R ⟨0, 0, none⟩ lensC) (hR : RdS R oa (l.flatMap En.c)) (hrd : ∀ e ∈ l, e.rd R) (hl : l.length ≤ 1000) (first : Int) (ent : ByteArray) (year book : Int) : AC Tryz.prog 34 ⟨[.pointer (some ⟨b, 0, none⟩), .agg ⟨[I first]⟩, .slice oa l.length cap, St ent, I year, I book]⟩ (stars [pt b (blk [.map (some bm), v, w] 110), amap bm acF acG m, big (ndH 9) m, R]) (Outs (fun _ : Option Addr × Nat => True) (fun y => .tuple ⟨[.slice y.1 (resM m first l ent year book).1.length y.2, I (lastR m first l ent year book), I (resM m first l ent year book).2]⟩) (fun y => [own 63 7 y.1 (resM m first l ent year book).1.length y.2 ((resM m first l ent year book).1.flatMap Cl.c), pt b (blk [.map (some bm), v, w] 110), amap bm acF acG m, big (ndH 9) m, R])) := by
 refine AC.go Tryz.func34 rfl (Nat.le_of_ble_eq_true rfl) fun β => ?_
 refine sr ?_
 refine RunL.op rfl rfl (OpJ.boxA rfl fun b7 => ?_)
 refine sx 3 ?_
 refine kp [0, 2, 3, 4, 5, 7, 12] rfl ?_
 refine Run.seq ?_
 refine sr ?_
 refine sx 2 ?_
 refine kp [0, 2, 3, 4, 5, 7, 12, 21] rfl ?_
 refine Run.false rfl ?_
 refine Run.skip ?_
 refine sr ?_
 refine sx 3 ?_
 refine RunL.call C19 rfl rfl rfl (c_Span first year 13 R hR0) tks ?_
 refine sx 6 ?_
 refine kp [0, 2, 3, 5, 12, 13, 14] rfl ?_
 refine Run.seq ?_
 refine sr ?_
 refine sx 2 ?_
 refine kp [0, 2, 3, 5, 12, 13, 14, 31] rfl ?_
 first | refine Run.if rfl (fun h1 => ?_) (fun h1 => ?_) | refine Run.cond rfl (fun h1 => ?_) (fun h1 => ?_)
 refine sr ?_
 refine RunL.ownNil 63 7 ?_
 refine sx 4 ?_
 refine kp [12, 13, 14] rfl ?_
 refine Run.ret ?_
 have hr := res_span (first := first) (year := year) (by simpa using h1) m l ent book
 have hlr : lastR m first l ent year book = 0 := by { unfold lastR; rw [hr]; exact if_neg (by first | decide | simpa using h2 | simpa using h1) }
 rw [hlr, hr]
 exact ret_out (none, 0) (.tmp rfl (.tmp rfl (.tmp rfl .nil))) trivial rfl gv
 refine Run.skip ?_
 refine sr ?_
 obtain ⟨hf, hy, hla⟩ := span13 (first := first) (year := year) (by simpa using h1)
 rw [hla]
 refine sx 4 ?_
 refine RunL.callX C69 rfl rfl rfl (c_balances R oa cap l hR0 hR hrd hl ent (lastF first year) book) tks fun ⟨sa, sc⟩ _ => ?_
 refine sx 5 ?_
 refine kp [0, 12, 13, 14, 15] rfl ?_
 refine Run.seq ?_
 refine sr ?_
 refine sx 2 ?_
 refine kp [0, 12, 13, 14, 15, 42] rfl ?_
 first | refine Run.if rfl (fun h2 => ?_) (fun h2 => ?_) | refine Run.cond rfl (fun h2 => ?_) (fun h2 => ?_)
 refine sr ?_
 refine RunL.ownNil 63 7 ?_
 refine sx 4 ?_
 refine kp [12, 13, 14] rfl ?_
 refine Run.ret ?_
 have hr := res_play hf hy m l ent book (by simpa using h2)
 have hlr : lastR m first l ent year book = 0 := by { unfold lastR; rw [hr]; exact if_neg (by first | decide | simpa using h2 | simpa using h1) }
 rw [hlr, hr]
 exact ret_out (none, 0) (.tmp rfl (.tmp rfl (.tmp rfl .nil))) trivial rfl gv
 refine Run.skip ?_
 refine Run.seq ?_
 refine sr ?_
 refine RunL.ownNil 63 7 ?_
 have hrl : (replayL l ⟨ent, 0, lastF first year, book⟩).1.length ≤ 100000 := replay_len hl
 refine sx 3 ?_
 refine kp [0, 12, 13, 44, 45, 46] rfl ?_
 refine Run.block ?_
 refine Run.weak (L' := [own 63 7 none ([] : List Cl).length 0 (([] : List Cl).flatMap Cl.c), own 63 7 sa (replayL l ⟨ent, 0, lastF first year, book⟩).1.length sc ((replayL l ⟨ent, 0, lastF first year, book⟩).1.flatMap Cl.c), pt b (blk [.map (some bm), v, w] 110), amap bm acF acG m, big (ndH 9) m, R]) (fun _ _ h => h) gv ?_
 refine Run.loop (fun mm E L => ∃ (i : Nat) (acc : List Cl) (ca : Option Addr) (cc : Nat), mm = (replayL l ⟨ent, 0, lastF first year, book⟩).1.length - i ∧ i ≤ (replayL l ⟨ent, 0, lastF first year, book⟩).1.length ∧ PickI m (replayL l ⟨ent, 0, lastF first year, book⟩).1 i acc ∧ E = [(0, .pointer (some ⟨b, 0, none⟩)), (12, .slice ca acc.length cc), (13, I (lastF first year)), (44, .slice sa (replayL l ⟨ent, 0, lastF first year, book⟩).1.length sc), (45, I (replayL l ⟨ent, 0, lastF first year, book⟩).1.length), (46, I i)] ∧ L = [own 63 7 ca acc.length cc (acc.flatMap Cl.c), own 63 7 sa (replayL l ⟨ent, 0, lastF first year, book⟩).1.length sc ((replayL l ⟨ent, 0, lastF first year, book⟩).1.flatMap Cl.c), pt b (blk [.map (some bm), v, w] 110), amap bm acF acG m, big (ndH 9) m, R]) ⟨_, 0, [], none, 0, rfl, Nat.zero_le _, PickI.start, rfl, rfl⟩ ?_
 rintro _ _ _ ⟨i, acc, ca, cc, rfl, hi, hI0, rfl, rfl⟩
 refine sr ?_
 refine sx 1 ?_
 refine kp [0, 12, 13, 44, 45, 46, 47] rfl ?_
 refine Run.seq ?_
 first | refine Run.if rfl (fun h3 => ?_) (fun h3 => ?_) | refine Run.cond rfl (fun h3 => ?_) (fun h3 => ?_)
 refine Run.skip ?_
 refine Run.seq ?_
 refine Run.block ?_
 refine sr ?_
 obtain ⟨x, hx⟩ := get_ex (xs := (replayL l ⟨ent, 0, lastF first year, book⟩).1) (i := i) (by omega)
 refine RunL.ownAddr pk (flat_ne (k := 7) (fun _ => rfl) (by decide) hx) fun bs1 e hcap => ?_
 subst e
 have hal := hI0.2
 refine sx 1 ?_
 refine RunL.op rfl rfl (OpJ.loadA inferInstance rfl pk (own.el (enc := Cl.c) hx (by decide) (fun _ => rfl)) rfl ?_)
 refine RunL.op rfl rfl (OpJ.alloc Z63 fun b17 => ?_)
 refine RunL.op rfl rfl (OpJ.storeW T63 rfl rfl rfl rfl (by simp [Value.oneCell', Tg.c, Ln.c, En.c, Ac.c, Cl.c, Ky.c, Qy.c, Sb, Iv]) up ?_)
 refine kp [0, 12, 13, 17, 44, 45, 46] rfl ?_
 refine sr ?_
 refine sx 4 ?_
 refine RunL.callX C21 rfl rfl rfl (c_Get b bm v w m hm6 x.k.acc) tks fun ⟨na, nc⟩ _ => ?_
 rcases hg : getL m x.k.acc with _ | a
 rw [lk_none hg]
 refine sx 3 ?_
 refine RunL.op rfl rfl (OpJ.alloc Z57 fun b18 => ?_)
 refine RunL.op rfl rfl (OpJ.storeW T57 rfl rfl rfl rfl (by simp [Value.oneCell', Tg.c, Ln.c, En.c, Ac.c, Cl.c, Ky.c, Qy.c, Sb, Iv]) up ?_)
 refine asg rfl rfl ?_
 refine kp [0, 12, 13, 17, 18, 19, 44, 45, 46] rfl ?_
 refine Run.seq ?_
 refine sr ?_
 refine sx 7 ?_
 refine kp [0, 12, 13, 17, 18, 44, 45, 46, 64] rfl ?_
 refine Run.true rfl ?_
 refine sr ?_
 refine RunL.ownNil 63 7 ?_
 refine sx 3 ?_
 refine kp [12, 13, 14] rfl ?_
 refine Run.ret ?_
 have hr := res_pickN hf hy (by simpa using h2) (hI0.bad hx hg)
 have hlr : lastR m first l ent year book = 0 := by { unfold lastR; rw [hr]; exact if_neg (by first | decide | simpa using h2 | simpa using h1) }
 rw [hlr, hr]
 exact ret_out (none, 0) (.tmp rfl (.tmp rfl (.tmp rfl .nil))) trivial rfl gv
 rw [lk_some hg]
 refine sx 3 ?_
 refine RunL.op rfl rfl (OpJ.alloc Z57 fun b18 => ?_)
 refine RunL.op rfl rfl (OpJ.storeW T57 rfl rfl rfl rfl (by simp [Value.oneCell', Tg.c, Ln.c, En.c, Ac.c, Cl.c, Ky.c, Qy.c, Sb, Iv]) up ?_)
 refine asg rfl rfl ?_
 refine kp [0, 12, 13, 17, 18, 19, 44, 45, 46] rfl ?_
 refine Run.seq ?_
 refine sr ?_
 refine sx 7 ?_
 refine kp [0, 12, 13, 17, 18, 44, 45, 46, 64] rfl ?_
 first | refine Run.if rfl (fun h4 => ?_) (fun h4 => ?_) | refine Run.cond rfl (fun h4 => ?_) (fun h4 => ?_)
 refine sr ?_
 refine RunL.ownNil 63 7 ?_
 refine sx 3 ?_
 refine kp [12, 13, 14] rfl ?_
 refine Run.ret ?_
 have hr := res_pickN hf hy (by simpa using h2) (hI0.shut hx hg (by simpa [Ac.put] using h4))
 have hlr : lastR m first l ent year book = 0 := by { unfold lastR; rw [hr]; exact if_neg (by first | decide | simpa using h2 | simpa using h1) }
 rw [hlr, hr]
 exact ret_out (none, 0) (.tmp rfl (.tmp rfl (.tmp rfl .nil))) trivial rfl gv
 refine Run.skip ?_
 refine sr ?_
 refine sx 4 ?_
 first | refine RunL.splitP (t := 68) rfl (fun g5 => ?_) (fun g5 => ?_) | refine RunL.split (t := 68) rfl (fun g5 => ?_) (fun g5 => ?_)
 refine sx 4 ?_
 refine kp [0, 12, 13, 17, 44, 45, 46, 72] rfl ?_
 refine Run.true rfl ?_
 refine Run.region ?_
 refine sx 2 ?_
 refine RunL.op rfl rfl (OpJ.buildSlice1 S32 rfl rfl rfl (by decide) (by decide) Z63 rfl fun b75 => ?_)
 refine RunL.op rfl rfl (OpJ.append1 x S32 M63 rfl rfl pk pk rfl rfl (by simp [Value.oneCell', Tg.c, Ln.c, En.c, Ac.c, Cl.c, Ky.c, Qy.c, Sb, Iv]) rfl (by omega) (by omega) fun a76 c76 => ?_)
 refine asg rfl rfl ?_
 refine kp [0, 12, 13, 44, 45, 46] rfl ?_
 refine Run.region ?_
 refine sx 2 ?_
 have hst := hI0.step hx hg (by simpa [Ac.put] using h4)
 first
 | have hk : a.kind = 4 ∨ a.kind = 5 := (by first | exact Or.inl g5 | exact Or.inr h6 | exact Or.inr h5)
   rw [if_pos hk] at hst
   exact RunL.next (Keep.sub (kt (ks := [0, 12, 13, 44, 45, 46]) rfl)) _ ⟨_, by omega, i + 1, acc ++ [x], a76, c76, rfl, by omega, hst, rfl, rfl⟩ gv
 | have hk : ¬ (a.kind = 4 ∨ a.kind = 5) := (by first | exact fun h => h.elim g5 h6 | exact fun h => h.elim g5 h5)
   rw [if_neg hk] at hst
   exact RunL.next (Keep.sub (kt (ks := [0, 12, 13, 44, 45, 46]) rfl)) _ ⟨_, by omega, i + 1, acc, ca, cc, rfl, by omega, hst, rfl, rfl⟩ gv
 refine sx 4 ?_
 refine kp [0, 12, 13, 17, 44, 45, 46, 72] rfl ?_
 first | refine Run.if rfl (fun h6 => ?_) (fun h6 => ?_) | refine Run.cond rfl (fun h6 => ?_) (fun h6 => ?_)
 refine Run.region ?_
 refine sx 2 ?_
 refine RunL.op rfl rfl (OpJ.buildSlice1 S32 rfl rfl rfl (by decide) (by decide) Z63 rfl fun b75 => ?_)
 refine RunL.op rfl rfl (OpJ.append1 x S32 M63 rfl rfl pk pk rfl rfl (by simp [Value.oneCell', Tg.c, Ln.c, En.c, Ac.c, Cl.c, Ky.c, Qy.c, Sb, Iv]) rfl (by omega) (by omega) fun a76 c76 => ?_)
 refine asg rfl rfl ?_
 refine kp [0, 12, 13, 44, 45, 46] rfl ?_
 refine Run.region ?_
 refine sx 2 ?_
 have hst := hI0.step hx hg (by simpa [Ac.put] using h4)
 first
 | have hk : a.kind = 4 ∨ a.kind = 5 := (by first | exact Or.inl g5 | exact Or.inr h6 | exact Or.inr h5)
   rw [if_pos hk] at hst
   exact RunL.next (Keep.sub (kt (ks := [0, 12, 13, 44, 45, 46]) rfl)) _ ⟨_, by omega, i + 1, acc ++ [x], a76, c76, rfl, by omega, hst, rfl, rfl⟩ gv
 | have hk : ¬ (a.kind = 4 ∨ a.kind = 5) := (by first | exact fun h => h.elim g5 h6 | exact fun h => h.elim g5 h5)
   rw [if_neg hk] at hst
   exact RunL.next (Keep.sub (kt (ks := [0, 12, 13, 44, 45, 46]) rfl)) _ ⟨_, by omega, i + 1, acc, ca, cc, rfl, by omega, hst, rfl, rfl⟩ gv
 refine Run.skip ?_
 refine Run.region ?_
 refine sx 2 ?_
 have hst := hI0.step hx hg (by simpa [Ac.put] using h4)
 first
 | have hk : a.kind = 4 ∨ a.kind = 5 := (by first | exact Or.inl g5 | exact Or.inr h6 | exact Or.inr h5)
   rw [if_pos hk] at hst
   exact RunL.next (Keep.sub (kt (ks := [0, 12, 13, 44, 45, 46]) rfl)) _ ⟨_, by omega, i + 1, acc ++ [x], a76, c76, rfl, by omega, hst, rfl, rfl⟩ gv
 | have hk : ¬ (a.kind = 4 ∨ a.kind = 5) := (by first | exact fun h => h.elim g5 h6 | exact fun h => h.elim g5 h5)
   rw [if_neg hk] at hst
   exact RunL.next (Keep.sub (kt (ks := [0, 12, 13, 44, 45, 46]) rfl)) _ ⟨_, by omega, i + 1, acc, ca, cc, rfl, by omega, hst, rfl, rfl⟩ gv
 refine Run.exit ?_
 refine sr ?_
 refine sx 5 ?_
 refine kp [12, 13, 14] rfl ?_
 refine Run.ret ?_
 have hr := res_pickS hf hy (by simpa using h2) (hI0.done (by omega))
 have hlr : lastR m first l ent year book = lastF first year := by { unfold lastR; rw [hr]; exact if_pos rfl }
 rw [hlr, hr]
 exact ret_out (ca, cc) (.tmp rfl (.tmp rfl (.tmp rfl .nil))) trivial rfl gv
end
theorem ln1 : ∀ x : Ln, ∀ v ∈ x.c, v.oneCell' = true := fun x v hv => by simp [Ln.c] at hv; rcases hv with rfl | rfl | rfl | rfl | rfl | rfl | rfl <;> rfl
section
attribute [local irreducible] OpJ RunL Run RunD DetJ pt own star Rd RdS
theorem c_result0 (fc ls : Value) (hls : True) (ent : ByteArray) (year book : Int) (first : Int) : AC Tryz.prog 34 ⟨[.pointer none, .agg ⟨[I first]⟩, ls, St ent, I year, I book]⟩ (stars []) (Ret (.tuple ⟨[.slice none 0 0, I 0, I 1]⟩) []) := by
 refine AC.go Tryz.func34 rfl (Nat.le_of_ble_eq_true rfl) fun β => ?_
 refine sr ?_
 refine RunL.op rfl rfl (OpJ.boxA rfl fun b7 => ?_)
 refine sx 3 ?_
 refine kp [0, 2, 3, 4, 5, 7, 12] rfl ?_
 refine Run.seq ?_
 refine sr ?_
 refine sx 2 ?_
 refine kp [0, 2, 3, 4, 5, 7, 12, 21] rfl ?_
 refine Run.true rfl ?_
 refine sr ?_
 refine sx 3 ?_
 refine kp [12, 13, 14] rfl ?_
 refine Run.ret ?_
 exact ret_one (.tmp rfl (.tmp rfl (.tmp rfl .nil))) (rfl) gv
theorem c_Result0 (ls : Value) (ent : ByteArray) (year book : Int) (first : Int) : AC Tryz.prog 13 ⟨[.pointer none, .agg ⟨[I first]⟩, ls, St ent, I year, I book]⟩ (stars []) (Ret (.tuple ⟨[.slice none 0 0, I 1]⟩) []) := by
 refine AC.go Tryz.func13 rfl (Nat.le_of_ble_eq_true rfl) fun β => ?_
 refine sr ?_
 refine RunL.op rfl rfl (OpJ.boxA rfl fun b7 => ?_)
 refine sx 2 ?_
 refine kp [0, 2, 3, 4, 5, 7] rfl ?_
 refine sr ?_
 refine sx 6 ?_
 refine RunL.call C34 rfl rfl rfl (c_result0 (I 0) ls trivial ent year book first) .nil ?_
 refine sx 6 ?_
 refine kp [12, 13] rfl ?_
 refine sr ?_
 refine sx 4 ?_
 refine kp [12, 13] rfl ?_
 refine Run.ret ?_
 exact ret_one (.tmp rfl (.tmp rfl .nil)) (rfl) gv
theorem c_Result (b bm : Nat) (v w : Value) (m : List Ac) (hm6 : ∀ a ∈ m, a.need.length ≤ 6) (R : HP) (oa : Option Addr) (cap : Nat) (l : List En) (hR0 : Rd R ⟨0, 0, none⟩ lensC) (hR : RdS R oa (l.flatMap En.c)) (hrd : ∀ e ∈ l, e.rd R) (hl : l.length ≤ 1000) (first : Int) (ent : ByteArray) (year book : Int) : AC Tryz.prog 13 ⟨[.pointer (some ⟨b, 0, none⟩), .agg ⟨[I first]⟩, .slice oa l.length cap, St ent, I year, I book]⟩ (stars [pt b (blk [.map (some bm), v, w] 110), amap bm acF acG m, big (ndH 9) m, R]) (Outs (fun _ : Option Addr × Nat => True) (fun y => .tuple ⟨[.slice y.1 (resM m first l ent year book).1.length y.2, I (resM m first l ent year book).2]⟩) (fun y => [own 63 7 y.1 (resM m first l ent year book).1.length y.2 ((resM m first l ent year book).1.flatMap Cl.c), pt b (blk [.map (some bm), v, w] 110), amap bm acF acG m, big (ndH 9) m, R])) := by
 refine AC.go Tryz.func13 rfl (Nat.le_of_ble_eq_true rfl) fun β => ?_
 refine sr ?_
 refine RunL.op rfl rfl (OpJ.boxA rfl fun b7 => ?_)
 refine sx 2 ?_
 refine kp [0, 2, 3, 4, 5, 7] rfl ?_
 refine sr ?_
 refine sx 6 ?_
 refine RunL.callX C34 rfl rfl rfl (c_result b bm v w m hm6 R oa cap l hR0 hR hrd hl first ent year book) tks fun ⟨ca, cc⟩ _ => ?_
 refine sx 6 ?_
 refine kp [12, 13] rfl ?_
 refine sr ?_
 refine sx 4 ?_
 refine kp [12, 13] rfl ?_
 refine Run.ret ?_
 exact ret_out (ca, cc) (.tmp rfl (.tmp rfl .nil)) trivial rfl gv
theorem c_put (pb xb : Nat) (aa : Option Addr) (ac : Nat) (acc : List Ln) (x : Ln) (hl : acc.length ≤ 1000000) : AC Tryz.prog 77 ⟨[.slice (some ⟨xb, 0, none⟩) 1 1, .pointer (some ⟨pb, 0, none⟩)]⟩ (stars [pt pb (blk [.slice aa acc.length ac] 40), own 73 7 aa acc.length ac (acc.flatMap Ln.c), pt xb (blk x.c 73)]) (Outs (fun _ : Option Addr × Nat => True) (fun _ => .tuple ⟨[]⟩) (fun y => [pt pb (blk [.slice y.1 (acc ++ [x]).length y.2] 40), own 73 7 y.1 (acc ++ [x]).length y.2 ((acc ++ [x]).flatMap Ln.c)])) := by
 have hRx : RdS (pt xb (blk x.c 73)) (some ⟨xb, 0, none⟩) ([x].flatMap Ln.c) := Rd.rds Rd.whole
 refine AC.go Tryz.func77 rfl (Nat.le_of_ble_eq_true rfl) fun β => ?_
 refine Run.region ?_
 refine sx 2 ?_
 refine RunL.op rfl rfl (OpJ.appendAll S40 M73 rfl rfl pk pk hRx (flat_len (enc := Ln.c) (k := 7) (fun _ => rfl) [x]) (by decide) (flat_one ln1 [x]) (by omega) (by omega) fun a5 c5 => ?_)
 rw [← List.flatMap_append]
 refine sx 1 ?_
 refine kp [] rfl ?_
 have hxl : (acc ++ [x]).length = acc.length + 1 := by simp
 rw [hxl]
 exact ret_out (a5, c5) .nil trivial rfl gv
end
def lCutRen : Go.Shelf.Ren := { f := fun x => match x with | 145 => 124 | 220 => 158 | 219 => 184 | 217 => 194 | 225 => 195 | 224 => 196 | 267 => 197 | 266 => 200 | 314 => 201 | n => n, t := fun x => match x with | 9 => 9 | 4 => 4 | 59 => 148 | 3 => 3 | 5 => 5 | 46 => 210 | 146 => 247 | 51 => 234 | n => n, g := fun x => match x with | 1 => 1 | n => n }
open Go.Shelf Go.Lib in
theorem lCut : Go.Proofs.Lays.n145 Tryz.prog lCutRen :=
  { mixed := by kernel_rfl, f145 := Eq.trans Tryz.func124 (congrArg some (by kernel_rfl)), f217 := Eq.trans Tryz.func194 (congrArg some (by kernel_rfl)), f219 := Eq.trans Tryz.func184 (congrArg some (by kernel_rfl)), f220 := Eq.trans Tryz.func158 (congrArg some (by kernel_rfl)), f224 := Eq.trans Tryz.func196 (congrArg some (by kernel_rfl)), f225 := Eq.trans Tryz.func195 (congrArg some (by kernel_rfl)), f266 := Eq.trans Tryz.func200 (congrArg some (by kernel_rfl)), f267 := Eq.trans Tryz.func197 (congrArg some (by kernel_rfl)), f314 := Eq.trans Tryz.func201 (congrArg some (by kernel_rfl)), t3 := Tryz.underlying3, a3 := Tryz.isAgg3, z3 := Tryz.sizeOf3, v3 := Tryz.zeroValue3, t4 := Tryz.underlying4, a4 := Tryz.isAgg4, z4 := Tryz.sizeOf4, v4 := Tryz.zeroValue4, t5 := Tryz.underlying5, a5 := Tryz.isAgg5, z5 := Tryz.sizeOf5, v5 := Tryz.zeroValue5, t9 := Tryz.underlying9, a9 := Tryz.isAgg9, z9 := Tryz.sizeOf9, v9 := Tryz.zeroValue9, t46 := Tryz.underlying210, a46 := Tryz.isAgg210, z46 := Tryz.sizeOf210, v46 := Tryz.zeroValue210, t51 := Tryz.underlying234, a51 := Tryz.isAgg234, z51 := Tryz.sizeOf234, v51 := Tryz.zeroValue234, t59 := Tryz.underlying148, a59 := Tryz.isAgg148, z59 := Tryz.sizeOf148, v59 := Tryz.zeroValue148, t146 := Tryz.underlying247, a146 := Tryz.isAgg247, z146 := Tryz.sizeOf247, v146 := Tryz.zeroValue247, g1 := by kernel_rfl }
section
attribute [local irreducible] OpJ RunL Run RunD DetJ pt own star Rd RdS
end
theorem c_cut (l : List UInt8) (c : UInt8) (m0 : Int) (R : HP) (hM : Rd R ⟨1, 0, none⟩ [I m0]) (hs : l.length < 4294967281) : AC Tryz.prog 124 ⟨[St (ba l), St (ba [c])]⟩ (stars [R]) (Ret (.tuple ⟨[St (ba (cut1 c l).1), St (ba (cut1 c l).2.1), Bo (cut1 c l).2.2]⟩) [R]) := ac_cut lCut (ba l) c m0 R hM hs
section
attribute [local irreducible] OpJ RunL Run RunD DetJ pt own star Rd RdS
theorem c_Parse (s : ByteArray) (m0 : Int) (R : HP) (hM : Rd R ⟨1, 0, none⟩ [I m0]) (hs : s.size < 4294967281) : AC Tryz.prog 78 ⟨[St s]⟩ (stars [R]) (Outs (fun _ : Option Addr × Nat => True) (fun y => .tuple ⟨[.slice y.1 ((parseT s).getD []).length y.2, I (if (parseT s).isSome = true then 0 else 5)]⟩) (fun y => [own 151 2 y.1 ((parseT s).getD []).length y.2 (((parseT s).getD []).flatMap Tg.c), R])) := by
 refine AC.go Tryz.func78 rfl (Nat.le_of_ble_eq_true rfl) fun β => ?_
 refine sr ?_
 refine sx 2 ?_
 refine kp [0, 2] rfl ?_
 refine Run.seq ?_
 refine sr ?_
 refine RunL.ownNil 151 2 ?_
 refine sx 3 ?_
 refine kp [0, 2, 4] rfl ?_
 refine Run.block ?_
 refine Run.weak (L' := [own 151 2 none ([] : List Tg).length 0 (([] : List Tg).flatMap Tg.c), R]) (fun _ _ h => h) gv ?_
 refine Run.loop (fun mm E L => ∃ (more : Bool) (l : List UInt8) (acc : List Tg) (ta : Option Addr) (tc : Nat), mm = paM more l ∧ PaI s more l acc ∧ E = [(0, St (ba l)), (2, .slice ta acc.length tc), (4, Bo more)] ∧ L = [own 151 2 ta acc.length tc (acc.flatMap Tg.c), R]) ⟨_, _, _, [], none, 0, rfl, PaI.start, rfl, rfl⟩ ?_
 rintro _ _ _ ⟨more, l, acc, ta, tc, rfl, hI0, rfl, rfl⟩
 refine Run.seq ?_
 refine sr ?_
 refine mvo rfl rfl ?_
 refine kp [0, 2, 11] rfl ?_
 first | refine Run.if rfl (fun h1 => ?_) (fun h1 => ?_) | refine Run.cond rfl (fun h1 => ?_) (fun h1 => ?_)
 refine Run.skip ?_
 refine Run.block ?_
 refine sr ?_
 refine asg rfl rfl ?_
 refine kp [0, 2] rfl ?_
 refine sr ?_
 obtain rfl : more = true := by simpa using h1
 refine mvo rfl rfl ?_
 refine RunL.call C124 rfl rfl rfl (c_cut l 44 m0 R hM (by have := hI0.sz; omega)) tks ?_
 refine sx 7 ?_
 refine kp [0, 2, 4, 5] rfl ?_
 refine sr ?_
 refine mvo rfl rfl ?_
 refine RunL.call C124 rfl rfl rfl (c_cut (it1 l) 61 m0 R hM (by have h1 := hI0.sz; have h2 : (it1 l).length ≤ l.length := cut1_fst 44 l; omega)) tks ?_
 refine sx 7 ?_
 refine kp [0, 2, 4, 6, 7, 8] rfl ?_
 refine Run.seq ?_
 refine sr ?_
 refine sx 3 ?_
 first | refine RunL.splitP (t := 26) rfl (fun g2 => ?_) (fun g2 => ?_) | refine RunL.split (t := 26) rfl (fun g2 => ?_) (fun g2 => ?_)
 refine sx 4 ?_
 refine kp [0, 2, 4, 6, 7, 30] rfl ?_
 refine Run.true rfl ?_
 refine sr ?_
 refine RunL.ownNil 151 2 ?_
 refine sx 2 ?_
 refine kp [2, 3] rfl ?_
 refine Run.ret ?_
 have hp := hI0.bad (Or.inl (by simpa using g2))
 rw [hp]
 exact ret_out (none, 0) (.tmp rfl (.tmp rfl .nil)) trivial rfl gv
 refine sx 4 ?_
 refine kp [0, 2, 4, 6, 7, 30] rfl ?_
 first | refine Run.if rfl (fun h3 => ?_) (fun h3 => ?_) | refine Run.cond rfl (fun h3 => ?_) (fun h3 => ?_)
 refine sr ?_
 refine RunL.ownNil 151 2 ?_
 refine sx 2 ?_
 refine kp [2, 3] rfl ?_
 refine Run.ret ?_
 have hp := hI0.bad (Or.inr (by omega))
 rw [hp]
 exact ret_out (none, 0) (.tmp rfl (.tmp rfl .nil)) trivial rfl gv
 refine Run.skip ?_
 refine Run.region ?_
 have hal := hI0.len
 refine sx 4 ?_
 refine RunL.op rfl rfl (OpJ.buildSlice1 S71 rfl rfl rfl (by decide) (by decide) Z151 rfl fun b35 => ?_)
 refine RunL.op rfl rfl (OpJ.append1 (⟨ba (cut1 61 (it1 l)).1, ba (cut1 61 (it1 l)).2.1⟩ : Tg) S71 M151 rfl rfl pk pk rfl rfl (by simp [Value.oneCell', Tg.c, Ln.c, En.c, Ac.c, Cl.c, Ky.c, Qy.c, Sb, Iv]) rfl (by omega) (by omega) fun a36 c36 => ?_)
 refine asg rfl rfl ?_
 have hst := hI0.step (by rintro (h | h); (rw [h] at g2; cases g2); omega)
 exact RunL.next (Keep.sub (kt (ks := [0, 2, 4]) rfl)) _ ⟨_, paM_lt, _, _, nxT l acc, a36, c36, rfl, hst, rfl, rfl⟩ gv
 refine Run.exit ?_
 refine Run.seq ?_
 refine sr ?_
 obtain rfl : more = false := by simpa using h1
 refine mvo rfl rfl ?_
 refine RunL.call C125 rfl rfl rfl (c_dRight (own 151 2 ta acc.length tc (acc.flatMap Tg.c)) ta tc acc own.rds) tks ?_
 refine RunL.op rfl rfl (OpJ.not rfl ?_)
 refine kp [2, 39] rfl ?_
 first | refine Run.if rfl (fun h4 => ?_) (fun h4 => ?_) | refine Run.cond rfl (fun h4 => ?_) (fun h4 => ?_)
 refine sr ?_
 refine RunL.ownNil 151 2 ?_
 refine sx 2 ?_
 refine kp [2, 3] rfl ?_
 refine Run.ret ?_
 have hp := hI0.wrong (by simpa using h4)
 rw [hp]
 exact ret_out (none, 0) (.tmp rfl (.tmp rfl .nil)) trivial rfl gv
 refine Run.skip ?_
 refine sr ?_
 refine sx 3 ?_
 refine kp [2, 3] rfl ?_
 refine Run.ret ?_
 have hp := hI0.right (by simpa using h4)
 rw [hp]
 exact ret_out (ta, tc) (.tmp rfl (.tmp rfl .nil)) trivial rfl gv
end
def lKeysRen : Go.Shelf.Ren := { f := fun x => match x with | 7 => 80 | 10 => 127 | n => n, t := fun x => match x with | 23 => 137 | 26 => 9 | 3 => 141 | 28 => 144 | 0 => 0 | 27 => 143 | 33 => 181 | 4 => 4 | n => n, g := fun x => x }
open Go.Shelf Go.Lib in
theorem lKeys : Go.Proofs.SlLaysZ.n7 Tryz.prog lKeysRen :=
  { mixed := by kernel_rfl, f7 := ⟨"maps.Keys[map[string]accounting/closing.amounts,string,accounting/closing.amounts]", by decide, Eq.trans Tryz.func80 (congrArg some (by kernel_rfl))⟩, f10 := ⟨"maps.Keys[map[string]accounting/closing.amounts,string,accounting/closing.amounts]$1", by decide, Eq.trans Tryz.func127 (congrArg some (by kernel_rfl))⟩, t0 := Tryz.underlying0, a0 := Tryz.isAgg0, z0 := Tryz.sizeOf0, v0 := Tryz.zeroValue0, t4 := Tryz.underlying4, a4 := Tryz.isAgg4, z4 := Tryz.sizeOf4, v4 := Tryz.zeroValue4, t23 := Tryz.underlying137, a23 := Tryz.isAgg137, z23 := Tryz.sizeOf137, v23 := Tryz.zeroValue137, t26 := Tryz.underlying9, a26 := Tryz.isAgg9, z26 := Tryz.sizeOf9, v26 := Tryz.zeroValue9, t27 := Tryz.underlying143, a27 := Tryz.isAgg143, z27 := Tryz.sizeOf143, v27 := Tryz.zeroValue143, t28 := Tryz.underlying144, a28 := Tryz.isAgg144, z28 := Tryz.sizeOf144, v28 := Tryz.zeroValue144, t33 := Tryz.underlying181, a33 := Tryz.isAgg181, z33 := Tryz.sizeOf181, v33 := Tryz.zeroValue181 }
section
attribute [local irreducible] OpJ RunL Run RunD DetJ pt own star Rd RdS
end
def lSortedRen : Go.Shelf.Ren := { f := fun x => match x with | 6 => 79 | 8 => 126 | 9 => 116 | 11 => 160 | 13 => 153 | 12 => 152 | 23 => 181 | 24 => 182 | 14 => 172 | 15 => 173 | 16 => 174 | 17 => 175 | 18 => 176 | 19 => 177 | 20 => 178 | 21 => 179 | 22 => 180 | 25 => 188 | 26 => 189 | 27 => 190 | 28 => 191 | 29 => 192 | 30 => 193 | 31 => 199 | n => n, t := fun x => match x with | 26 => 9 | 28 => 144 | 24 => 55 | 0 => 0 | 3 => 3 | 37 => 210 | 48 => 234 | 50 => 207 | 4 => 4 | 40 => 227 | 39 => 226 | 45 => 100 | 5 => 5 | 9 => 9 | 51 => 238 | 55 => 242 | 57 => 245 | 58 => 75 | 33 => 181 | n => n, g := fun x => x }
open Go.Shelf Go.Lib in
theorem lSorted : Go.Proofs.SlLaysZ.n6 Tryz.prog lSortedRen :=
  { mixed := by kernel_rfl, f6 := ⟨"slices.Sorted[string]", by decide, Eq.trans Tryz.func79 (congrArg some (by kernel_rfl))⟩, f8 := ⟨"slices.Collect[string]", by decide, Eq.trans Tryz.func126 (congrArg some (by kernel_rfl))⟩, f11 := ⟨"slices.AppendSeq[[]string,string]", by decide, Eq.trans Tryz.func160 (congrArg some (by kernel_rfl))⟩, t0 := Tryz.underlying0, a0 := Tryz.isAgg0, z0 := Tryz.sizeOf0, v0 := Tryz.zeroValue0, t24 := Tryz.underlying55, a24 := Tryz.isAgg55, z24 := Tryz.sizeOf55, v24 := Tryz.zeroValue55, t26 := Tryz.underlying9, a26 := Tryz.isAgg9, z26 := Tryz.sizeOf9, v26 := Tryz.zeroValue9, t28 := Tryz.underlying144, a28 := Tryz.isAgg144, z28 := Tryz.sizeOf144, v28 := Tryz.zeroValue144, i26 := by kernel_rfl }
section
attribute [local irreducible] OpJ RunL Run RunD DetJ pt own star Rd RdS
end
open Go.Shelf Go.RowKit Go.Maps in
theorem lSorts (n : Nat) : Go.Proofs.AnyZ.SortsIn Tryz.prog lSortedRen Fence.wide n :=
  ⟨fun blk off cap ss W hH hblk hsz => callsIn_wide.2 (calls_of_every_depth fun D => AnyS.slices_Sort_string_alone lSort D blk off cap ss W hH hblk hsz), fun p cap W => callsIn_wide.2 (calls_of_every_depth fun D => AnyS.slices_Sort_string_none_alone lSort D p cap W)⟩
open Go.Shelf Go.RowKit Go.Maps in
theorem c_sortedKeys {α : Type} (nb bm : Nat) (kf : α → ByteArray) (gv : α → Value) (xs : List α) (hk : ∀ x ∈ xs, (kf x).size ≤ maxLen) (hnd : (xs.map kf).Nodup) (hl : xs.length ≤ 1000000) :
    AC Tryz.prog 79 ⟨[.func (.func 127) ⟨[]⟩ ⟨[.pointer (some ⟨nb, 0, none⟩)]⟩]⟩ (stars [pt nb (blk [.map (some bm)] 137), amap bm (fun x => St (kf x)) gv xs])
      (Outs (fun _ : Option Addr × Nat => True) (fun y => .slice y.1 xs.length y.2) (fun y => [own 9 1 y.1 xs.length y.2 ((srtS (xs.map kf)).flatMap Sb), pt nb (blk [.map (some bm)] 137), amap bm (fun x => St (kf x)) gv xs])) :=
  ac_sortedKeys (by kernel_rfl) hk hnd hl fun W D0 hnb hcell hown hmax hbytes =>
    have hseq : SeqGives Fence.wide 2 Tryz.prog 127 #[.pointer (some ⟨nb, 0, none⟩)] encStr (fun ss => ss.Perm (strKeys D0)) (Maps.size D0) W := AnyZ.keys_gives (ρ := lKeysRen) { lKeys with } Fence.wide _ trivial rfl (by omega) nb bm xs.length D0 W hnb hcell hown
    callsIn_wide.1 (AnyZ.sorted_in lSorted Fence.wide 5 trivial trivial trivial trivial rfl (by omega) (lSorts _) (enters_of Tryz.func116 (by kernel_rfl) rfl) 127 #[.pointer (some ⟨nb, 0, none⟩)] trivial (enters_of Tryz.func127 (by kernel_rfl) rfl) _ _ hmax hbytes _ hseq)
section
attribute [local irreducible] OpJ RunL Run RunD DetJ pt own star Rd RdS
theorem c_Keys (bm : Nat) : AC Tryz.prog 80 ⟨[.map (some bm)]⟩ (stars []) (Outs (fun _ : Nat => True) (fun nb => .func (.func 127) ⟨[]⟩ ⟨[.pointer (some ⟨nb, 0, none⟩)]⟩) (fun nb => [pt nb (blk [.map (some bm)] 137)])) := by
 refine AC.go Tryz.func80 rfl (Nat.le_of_ble_eq_true rfl) fun β => ?_
 refine sr ?_
 refine RunL.op rfl rfl (OpJ.box rfl rfl fun b1 => ?_)
 refine asg rfl rfl ?_
 refine kp [1] rfl ?_
 refine sr ?_
 refine sx 2 ?_
 refine kp [2] rfl ?_
 refine Run.ret ?_
 exact ret_out b1 (.tmp rfl .nil) trivial rfl gv
end
instance mpAm : MPI Tryz.prog 137 9 141 := ⟨by kernel_rfl⟩
instance zvAm : ZVI Tryz.prog 141 (.agg ⟨[I 0, I 0]⟩) := ⟨by kernel_rfl⟩
instance uvAm : UI Tryz.prog 9 .string := ⟨by kernel_rfl⟩
section
attribute [local irreducible] OpJ RunL Run RunD DetJ pt own star Rd RdS
theorem c_transfer (S R : HP) (oa : Option Addr) (cap : Nat) (s : List Cl) (to : ByteArray) (m0 : Int) (hS : RdS S oa (s.flatMap Cl.c)) (hM : Rd R ⟨1, 0, none⟩ [I m0]) (hl : s.length ≤ 100000) (hz : ∀ x ∈ s, x.k.tags.size < 4294967281 ∧ x.k.cur.size ≤ maxLen ∧ (-1000000000000000 ≤ x.amt ∧ x.amt ≤ 1000000000000000) ∧ (-1000000000000000 ≤ x.base ∧ x.base ≤ 1000000000000000)) : AC Tryz.prog 38 ⟨[.slice oa s.length cap, St to]⟩ (stars [S, R]) (Outs (fun y : List Ln × Option Addr × Nat => y.1.map Ln.e = transW s to) (fun y => .slice y.2.1 y.1.length y.2.2) (fun y => [own 73 7 y.2.1 y.1.length y.2.2 (y.1.flatMap Ln.c), big (tagH 151) y.1, S, R])) := by
 refine AC.go Tryz.func38 rfl (Nat.le_of_ble_eq_true rfl) fun β => ?_
 refine sr ?_
 refine asg rfl rfl ?_
 refine kp [0, 1] rfl ?_
 refine sr ?_
 refine RunL.op rfl rfl (OpJ.alloc Z40 fun b5 => ?_)
 refine kp [0, 1, 5] rfl ?_
 refine sr ?_
 refine sx 2 ?_
 refine kp [0, 1, 5, 6] rfl ?_
 refine sr ?_
 refine RunL.op rfl rfl (OpJ.makeMap fun bm => ?_)
 refine asg rfl rfl ?_
 refine kp [0, 1, 5, 6, 7] rfl ?_
 refine Run.seq ?_
 refine sr ?_
 refine RunL.ownNil 73 7 ?_
 refine RunL.bigNil (tagH 151) ?_
 refine sx 3 ?_
 refine kp [1, 5, 6, 7, 18, 19, 20] rfl ?_
 refine Run.block ?_
 refine Run.weak (L' := [pt b5 (blk [.slice none ([] : List Ln).length 0] 40), own 73 7 none ([] : List Ln).length 0 (([] : List Ln).flatMap Ln.c), big (tagH 151) [], amap bm amF amG [], S, R]) (fun _ _ h => h) gv ?_
 refine Run.loop (fun mm E L => ∃ (i : Nat) (ls : List Ln) (ms : List Am) (la : Option Addr) (lc : Nat), mm = s.length - i ∧ i ≤ s.length ∧ ls.map Ln.e = (s.take i).map negL ∧ AmI ms (s.take i) ∧ E = [(1, St to), (5, .pointer (some ⟨b5, 0, none⟩)), (6, .func (.func 77) ⟨[]⟩ ⟨[.pointer (some ⟨b5, 0, none⟩)]⟩), (7, .map (some bm)), (18, .slice oa s.length cap), (19, I s.length), (20, I i)] ∧ L = [pt b5 (blk [.slice la ls.length lc] 40), own 73 7 la ls.length lc (ls.flatMap Ln.c), big (tagH 151) ls, amap bm amF amG ms, S, R]) ⟨_, 0, [], [], none, 0, rfl, Nat.zero_le _, rfl, AmI.start, rfl, rfl⟩ ?_
 rintro _ _ _ ⟨i, ls, ms, la, lc, rfl, hi, hls, hA, rfl, rfl⟩
 refine sr ?_
 refine sx 1 ?_
 refine kp [1, 5, 6, 7, 18, 19, 20, 21] rfl ?_
 refine Run.seq ?_
 first | refine Run.if rfl (fun h1 => ?_) (fun h1 => ?_) | refine Run.cond rfl (fun h1 => ?_) (fun h1 => ?_)
 refine Run.skip ?_
 refine Run.seq ?_
 refine Run.block ?_
 refine sr ?_
 obtain ⟨x, hx⟩ := get_ex (xs := s) (i := i) (by omega)
 have hzx := hz x (List.mem_of_getElem? hx)
 refine RunL.rdOpen pk hS (flat_ne (k := 7) (fun _ => rfl) (by decide) hx) fun bx ox ebx hrdx => ?_
 rw [ebx]
 have hll := tr_len hls
 rw [List.length_take] at hll
 refine sx 1 ?_
 refine RunL.op rfl rfl (OpJ.loadA inferInstance rfl pk (hrdx.elem (fun _ => rfl) hx) rfl ?_)
 refine RunL.op rfl rfl (OpJ.alloc Z63 fun b9 => ?_)
 refine RunL.op rfl rfl (OpJ.storeW T63 rfl rfl rfl rfl (by simp [Value.oneCell', Tg.c, Ln.c, En.c, Ac.c, Cl.c, Ky.c, Qy.c, Sb, Iv]) up ?_)
 refine kp [1, 5, 6, 7, 9, 18, 19, 20] rfl ?_
 refine sr ?_
 refine sx 3 ?_
 refine RunL.callX C78 rfl rfl rfl (c_Parse x.k.tags m0 R hM hzx.1) tks fun ⟨ta, tc⟩ _ => ?_
 refine sx 5 ?_
 refine kp [1, 5, 6, 7, 9, 10, 18, 19, 20] rfl ?_
 refine sr ?_
 refine sx 14 ?_
 refine RunL.set (congrArg I (show _ = -x.amt by rw [wrap_i64_in (by omega)]; omega)) ?_
 refine sx 3 ?_
 refine RunL.set (congrArg I (show _ = -x.base by rw [wrap_i64_in (by omega)]; omega)) ?_
 refine sx 1 ?_
 refine RunL.op rfl rfl (OpJ.buildSlice1 S40 rfl rfl rfl (by decide) (by decide) Z73 rfl fun b49 => ?_)
 refine RunL.callX C77 rfl rfl rfl (c_put b5 b49 la lc ls (⟨x.k.acc, x.k.cur, -x.amt, -x.base, x.k.partner, bs0, ta, tc, (parseT x.k.tags).getD []⟩ : Ln) (by omega)) tks fun ⟨la2, lc2⟩ _ => ?_
 refine kp [1, 5, 6, 7, 9, 18, 19, 20] rfl ?_
 refine sr ?_
 refine RunL.bigApp (tagH 151) ls (⟨x.k.acc, x.k.cur, -x.amt, -x.base, x.k.partner, bs0, ta, tc, (parseT x.k.tags).getD []⟩ : Ln) pk pk ?_
 refine sx 4 ?_
 refine RunL.op rfl rfl (OpJ.lookupM inferInstance inferInstance inferInstance rfl rfl pk ?_)
 refine RunL.op rfl rfl (OpJ.alloc Z141 fun b12 => ?_)
 refine RunL.op rfl rfl (OpJ.storeW T141 rfl rfl rfl rfl (by simp [Value.oneCell', Tg.c, Ln.c, En.c, Ac.c, Cl.c, Ky.c, Qy.c, Sb, Iv]) up ?_)
 refine kp [1, 5, 6, 7, 9, 12, 18, 19, 20] rfl ?_
 refine Run.region ?_
 refine sx 15 ?_
 refine RunL.op rfl rfl (OpJ.mapUpdate (amNew ms x) keyStr inferInstance inferInstance rfl rfl rfl up ?_)
 refine kp [1, 5, 6, 7, 18, 19, 20] rfl ?_
 refine Run.region ?_
 refine sx 2 ?_
 exact RunL.next (Keep.sub (kt (ks := [1, 5, 6, 7, 18, 19, 20]) rfl)) _ ⟨_, by omega, i + 1, ls ++ [(⟨x.k.acc, x.k.cur, -x.amt, -x.base, x.k.partner, bs0, ta, tc, (parseT x.k.tags).getD []⟩ : Ln)], kSet Am.cur (amNew ms x) ms, la2, lc2, rfl, by omega, (by rw [take_step hx, List.map_append, List.map_append, hls]; rfl), (by rw [take_step hx]; exact hA.step x), rfl, rfl⟩ gv
 refine Run.exit ?_
 refine Run.seq ?_
 refine sr ?_
 obtain rfl : i = s.length := by omega
 rw [List.take_length] at hls hA
 have hml := hA.len
 refine mvo rfl rfl ?_
 refine RunL.callX C80 rfl rfl rfl (c_Keys bm) tks fun nb _ => ?_
 refine RunL.callX C79 rfl rfl rfl (c_sortedKeys nb bm Am.cur amG ms (am_size hA hz) hA.nod (by have := hA.len; omega)) tks fun ⟨ka, kc⟩ _ => ?_
 rw [hA.keys]
 refine sx 2 ?_
 refine kp [1, 5, 6, 7, 74, 75, 76] rfl ?_
 refine Run.block ?_
 have hcl : (curS s).length = ms.length := by rw [← hA.keys, srtS_len, List.length_map]
 refine Run.weak (L' := [pt b5 (blk [.slice la ls.length lc] 40), own 73 7 la ls.length lc (ls.flatMap Ln.c), big (tagH 151) ls, own 9 1 ka ms.length kc ((curS s).flatMap Sb), amap bm amF amG ms, S, R]) (fun _ _ h => h) gv ?_
 refine Run.loop (fun mm E L => ∃ (i : Nat) (ls : List Ln) (la : Option Addr) (lc : Nat), mm = ms.length - i ∧ i ≤ ms.length ∧ ls.map Ln.e = s.map negL ++ ((curS s).take i).filterMap (againstW s to) ∧ E = [(1, St to), (5, .pointer (some ⟨b5, 0, none⟩)), (6, .func (.func 77) ⟨[]⟩ ⟨[.pointer (some ⟨b5, 0, none⟩)]⟩), (7, .map (some bm)), (74, .slice ka ms.length kc), (75, I ms.length), (76, I i)] ∧ L = [pt b5 (blk [.slice la ls.length lc] 40), own 73 7 la ls.length lc (ls.flatMap Ln.c), big (tagH 151) ls, own 9 1 ka ms.length kc ((curS s).flatMap Sb), amap bm amF amG ms, S, R]) ⟨_, 0, ls, la, lc, rfl, Nat.zero_le _, (by rw [hls]; simp), rfl, rfl⟩ ?_
 rintro _ _ _ ⟨i, ls, la, lc, rfl, hi, hlw, rfl, rfl⟩
 refine sr ?_
 refine sx 1 ?_
 refine kp [1, 5, 6, 7, 74, 75, 76, 77] rfl ?_
 refine Run.seq ?_
 first | refine Run.if rfl (fun h2 => ?_) (fun h2 => ?_) | refine Run.cond rfl (fun h2 => ?_) (fun h2 => ?_)
 refine Run.skip ?_
 refine Run.seq ?_
 refine Run.block ?_
 refine sr ?_
 obtain ⟨c, hx⟩ := get_ex (xs := curS s) (i := i) (by omega)
 refine RunL.ownAddr pk (flat_ne (k := 1) (fun _ => rfl) (by decide) hx) fun bs1 e hcap => ?_
 subst e
 have hv := hA.val c
 have hll : ls.length ≤ s.length + i := trw_len hlw
 refine sx 1 ?_
 refine RunL.op rfl rfl (OpJ.load1 inferInstance rfl pk (own.el (enc := Sb) hx (by decide) (fun _ => rfl)) ?_)
 refine asg rfl rfl ?_
 refine kp [1, 5, 6, 7, 14, 74, 75, 76] rfl ?_
 refine sr ?_
 refine sx 2 ?_
 refine RunL.op rfl rfl (OpJ.lookupM inferInstance inferInstance inferInstance rfl rfl pk ?_)
 refine RunL.set (v := .agg ⟨[I (wr (sumA (byC c s))), I (wr (sumB (byC c s)))]⟩) (by rw [amG, hv.1, hv.2]) ?_
 refine RunL.op rfl rfl (OpJ.alloc Z141 fun b15 => ?_)
 refine RunL.op rfl rfl (OpJ.storeW T141 rfl rfl rfl rfl (by simp [Value.oneCell', Tg.c, Ln.c, En.c, Ac.c, Cl.c, Ky.c, Qy.c, Sb, Iv]) up ?_)
 refine kp [1, 5, 6, 7, 14, 15, 74, 75, 76] rfl ?_
 refine sr ?_
 refine sx 3 ?_
 refine kp [1, 5, 6, 7, 14, 15, 74, 75, 76, 85] rfl ?_
 first | refine Run.if rfl (fun h3 => ?_) (fun h3 => ?_) | refine Run.cond rfl (fun h3 => ?_) (fun h3 => ?_)
 refine Run.region ?_
 refine sx 8 ?_
 refine RunL.op rfl rfl (OpJ.buildSlice1 S40 rfl rfl rfl (by decide) (by decide) Z73 rfl fun b94 => ?_)
 refine RunL.callX C77 rfl rfl rfl (c_put b5 b94 la lc ls (⟨to, c, wr (sumA (byC c s)), wr (sumB (byC c s)), bs0, bs0, none, 0, []⟩ : Ln) (by omega)) tks fun ⟨la2, lc2⟩ _ => ?_
 refine RunL.ownNil 151 2 ?_
 refine RunL.bigApp (tagH 151) ls (⟨to, c, wr (sumA (byC c s)), wr (sumB (byC c s)), bs0, bs0, none, 0, []⟩ : Ln) pk pk ?_
 refine kp [1, 5, 6, 7, 74, 75, 76] rfl ?_
 refine Run.region ?_
 refine sx 2 ?_
 first
 | have hag : againstW s to c = some (⟨to, c, wr (sumA (byC c s)), wr (sumB (byC c s)), bs0, bs0, none, 0, []⟩ : Ln) := if_neg (fun h => by rw [decide_eq_true h.1, decide_eq_true h.2] at h3; cases h3)
   exact RunL.next (Keep.sub (kt (ks := [1, 5, 6, 7, 74, 75, 76]) rfl)) _ ⟨_, by omega, i + 1, ls ++ [(⟨to, c, wr (sumA (byC c s)), wr (sumB (byC c s)), bs0, bs0, none, 0, []⟩ : Ln)], la2, lc2, rfl, by omega, (by rw [ag_step hx, hag, List.map_append, hlw, List.append_assoc]; rfl), rfl, rfl⟩ gv
 | have hag : againstW s to c = none := if_pos (by simpa using h3)
   exact RunL.next (Keep.sub (kt (ks := [1, 5, 6, 7, 74, 75, 76]) rfl)) _ ⟨_, by omega, i + 1, ls, la, lc, rfl, by omega, (by rw [ag_step hx, hag, hlw]; simp), rfl, rfl⟩ gv
 refine Run.skip ?_
 refine Run.region ?_
 refine sx 2 ?_
 first
 | have hag : againstW s to c = some (⟨to, c, wr (sumA (byC c s)), wr (sumB (byC c s)), bs0, bs0, none, 0, []⟩ : Ln) := if_neg (fun h => by rw [decide_eq_true h.1, decide_eq_true h.2] at h3; cases h3)
   exact RunL.next (Keep.sub (kt (ks := [1, 5, 6, 7, 74, 75, 76]) rfl)) _ ⟨_, by omega, i + 1, ls ++ [(⟨to, c, wr (sumA (byC c s)), wr (sumB (byC c s)), bs0, bs0, none, 0, []⟩ : Ln)], la2, lc2, rfl, by omega, (by rw [ag_step hx, hag, List.map_append, hlw, List.append_assoc]; rfl), rfl, rfl⟩ gv
 | have hag : againstW s to c = none := if_pos (by simpa using h3)
   exact RunL.next (Keep.sub (kt (ks := [1, 5, 6, 7, 74, 75, 76]) rfl)) _ ⟨_, by omega, i + 1, ls, la, lc, rfl, by omega, (by rw [ag_step hx, hag, hlw]; simp), rfl, rfl⟩ gv
 refine Run.exit ?_
 refine sr ?_
 refine sx 2 ?_
 refine kp [4] rfl ?_
 refine Run.ret ?_
 exact ret_out (ls, la, lc) (.tmp rfl .nil) (by rw [hlw, List.take_of_length_le (by omega)]; rfl) rfl gv
theorem c_Entry0 (ls : Value) (ent : ByteArray) (year book first : Int) (to who : ByteArray) : AC Tryz.prog 16 ⟨[.pointer none, .agg ⟨[I first]⟩, ls, St ent, I year, I book, St to, St who]⟩ (stars []) (Ret (.tuple ⟨[.agg ⟨en0.c⟩, I 1]⟩) []) := by
 refine AC.go Tryz.func16 rfl (Nat.le_of_ble_eq_true rfl) fun β => ?_
 refine sr ?_
 refine RunL.op rfl rfl (OpJ.boxA rfl fun b9 => ?_)
 refine RunL.op rfl rfl (OpJ.alloc Z42 fun b16 => ?_)
 refine asg rfl rfl ?_
 refine kp [0, 2, 3, 4, 5, 6, 7, 9, 16] rfl ?_
 refine sr ?_
 refine sx 6 ?_
 refine RunL.call C34 rfl rfl rfl (c_result0 (I 0) ls trivial ent year book first) .nil ?_
 refine sx 7 ?_
 refine kp [0, 3, 5, 6, 7, 16, 17, 18, 19] rfl ?_
 refine Run.seq ?_
 refine sr ?_
 refine sx 2 ?_
 refine kp [0, 3, 5, 6, 7, 16, 17, 18, 19, 36] rfl ?_
 refine Run.true rfl ?_
 refine sr ?_
 refine sx 2 ?_
 refine RunL.op rfl rfl (OpJ.storeW T42 rfl rfl rfl rfl (by simp [Value.oneCell', Tg.c, Ln.c, En.c, Ac.c, Cl.c, Ky.c, Qy.c, Sb, Iv]) up ?_)
 refine asg rfl rfl ?_
 refine kp [16, 17] rfl ?_
 refine Run.ret ?_
 exact ret_one (.cellA T42 rfl pk (by rfl) (.tmp rfl .nil)) (rfl) gv
theorem c_Entry (b bm : Nat) (v w : Value) (m : List Ac) (hm6 : ∀ a ∈ m, a.need.length ≤ 6) (R : HP) (oa : Option Addr) (cap : Nat) (l : List En) (hR0 : Rd R ⟨0, 0, none⟩ lensC) (hR : RdS R oa (l.flatMap En.c)) (hrd : ∀ e ∈ l, e.rd R) (hl : l.length ≤ 1000) (first : Int) (ent : ByteArray) (year book : Int) (to who : ByteArray) (m0 : Int) (hM : Rd R ⟨1, 0, none⟩ [I m0]) (hz : ∀ x ∈ (resM m first l ent year book).1, x.k.tags.size < 4294967281 ∧ x.k.cur.size ≤ maxLen ∧ (-1000000000000000 ≤ x.amt ∧ x.amt ≤ 1000000000000000) ∧ (-1000000000000000 ≤ x.base ∧ x.base ≤ 1000000000000000)) : AC Tryz.prog 16 ⟨[.pointer (some ⟨b, 0, none⟩), .agg ⟨[I first]⟩, .slice oa l.length cap, St ent, I year, I book, St to, St who]⟩ (stars [pt b (blk [.map (some bm), v, w] 110), amap bm acF acG m, big (ndH 9) m, R]) (Outs (fun y : En => y.e = (entM m first l ent year book to who).1) (fun y => .tuple ⟨[.agg ⟨y.c⟩, I (entM m first l ent year book to who).2]⟩) (fun y => [own 73 7 y.la y.lines.length y.lc (y.lines.flatMap Ln.c), big (tagH 151) y.lines, pt b (blk [.map (some bm), v, w] 110), amap bm acF acG m, big (ndH 9) m, R])) := by
 refine AC.go Tryz.func16 rfl (Nat.le_of_ble_eq_true rfl) fun β => ?_
 refine sr ?_
 refine RunL.op rfl rfl (OpJ.boxA rfl fun b9 => ?_)
 refine RunL.op rfl rfl (OpJ.alloc Z42 fun b16 => ?_)
 refine asg rfl rfl ?_
 refine kp [0, 2, 3, 4, 5, 6, 7, 9, 16] rfl ?_
 refine sr ?_
 refine sx 6 ?_
 refine RunL.callX C34 rfl rfl rfl (c_result b bm v w m hm6 R oa cap l hR0 hR hrd hl first ent year book) tks fun ⟨sa, sc⟩ _ => ?_
 refine sx 7 ?_
 refine kp [0, 3, 5, 6, 7, 16, 17, 18, 19] rfl ?_
 refine Run.seq ?_
 refine sr ?_
 refine sx 2 ?_
 refine kp [0, 3, 5, 6, 7, 16, 17, 18, 19, 36] rfl ?_
 first | refine Run.if rfl (fun h1 => ?_) (fun h1 => ?_) | refine Run.cond rfl (fun h1 => ?_) (fun h1 => ?_)
 refine sr ?_
 refine RunL.ownNil 73 7 ?_
 refine RunL.bigNil (tagH 151) ?_
 refine sx 2 ?_
 refine RunL.op rfl rfl (OpJ.storeW T42 rfl rfl rfl rfl (by simp [Value.oneCell', Tg.c, Ln.c, En.c, Ac.c, Cl.c, Ky.c, Qy.c, Sb, Iv]) up ?_)
 refine asg rfl rfl ?_
 refine kp [16, 17] rfl ?_
 refine Run.ret ?_
 have hE := ent_err (to := to) (who := who) (by simpa using h1)
 rw [hE]
 exact ret_out en0 (.cellA T42 rfl pk (by rfl) (.tmp rfl .nil)) rfl rfl gv
 refine Run.skip ?_
 refine Run.seq ?_
 refine sr ?_
 refine sx 2 ?_
 refine RunL.callX C21 rfl rfl rfl (c_Get b bm v w m hm6 to) tks fun ⟨na, nc⟩ _ => ?_
 rcases hg : getL m to with _ | a
 rw [lk_none hg]
 refine sx 3 ?_
 refine RunL.op rfl rfl (OpJ.alloc Z57 fun b20 => ?_)
 refine RunL.op rfl rfl (OpJ.storeW T57 rfl rfl rfl rfl (by simp [Value.oneCell', Tg.c, Ln.c, En.c, Ac.c, Cl.c, Ky.c, Qy.c, Sb, Iv]) up ?_)
 refine asg rfl rfl ?_
 refine kp [3, 5, 6, 7, 16, 18, 19, 20, 21] rfl ?_
 refine sr ?_
 refine sx 12 ?_
 refine kp [3, 5, 6, 7, 16, 18, 19, 56] rfl ?_
 refine Run.true rfl ?_
 refine sr ?_
 refine RunL.ownNil 73 7 ?_
 refine RunL.bigNil (tagH 151) ?_
 refine sx 1 ?_
 refine RunL.op rfl rfl (OpJ.storeW T42 rfl rfl rfl rfl (by simp [Value.oneCell', Tg.c, Ln.c, En.c, Ac.c, Cl.c, Ky.c, Qy.c, Sb, Iv]) up ?_)
 refine asg rfl rfl ?_
 refine kp [16, 17] rfl ?_
 refine Run.ret ?_
 have hE := ent_no (who := who) (by simpa using h1) hg
 rw [hE]
 exact ret_out en0 (.cellA T42 rfl pk (by rfl) (.tmp rfl .nil)) rfl rfl gv
 rw [lk_some hg]
 refine sx 3 ?_
 refine RunL.op rfl rfl (OpJ.alloc Z57 fun b20 => ?_)
 refine RunL.op rfl rfl (OpJ.storeW T57 rfl rfl rfl rfl (by simp [Value.oneCell', Tg.c, Ln.c, En.c, Ac.c, Cl.c, Ky.c, Qy.c, Sb, Iv]) up ?_)
 refine asg rfl rfl ?_
 refine kp [3, 5, 6, 7, 16, 18, 19, 20, 21] rfl ?_
 refine sr ?_
 refine sx 8 ?_
 first | refine RunL.splitP (t := 52) rfl (fun g2 => ?_) (fun g2 => ?_) | refine RunL.split (t := 52) rfl (fun g2 => ?_) (fun g2 => ?_)
 refine sx 4 ?_
 refine kp [3, 5, 6, 7, 16, 18, 19, 56] rfl ?_
 refine Run.true rfl ?_
 refine sr ?_
 refine RunL.ownNil 73 7 ?_
 refine RunL.bigNil (tagH 151) ?_
 refine sx 1 ?_
 refine RunL.op rfl rfl (OpJ.storeW T42 rfl rfl rfl rfl (by simp [Value.oneCell', Tg.c, Ln.c, En.c, Ac.c, Cl.c, Ky.c, Qy.c, Sb, Iv]) up ?_)
 refine asg rfl rfl ?_
 refine kp [16, 17] rfl ?_
 refine Run.ret ?_
 have hE := ent_bad (who := who) (by simpa using h1) hg (by have hq : a.post = false := (by simpa [Ac.put] using g2); rw [hq]; rfl)
 rw [hE]
 exact ret_out en0 (.cellA T42 rfl pk (by rfl) (.tmp rfl .nil)) rfl rfl gv
 refine sx 4 ?_
 refine kp [3, 5, 6, 7, 16, 18, 19, 56] rfl ?_
 first | refine Run.if rfl (fun h3 => ?_) (fun h3 => ?_) | refine Run.cond rfl (fun h3 => ?_) (fun h3 => ?_)
 refine sr ?_
 refine RunL.ownNil 73 7 ?_
 refine RunL.bigNil (tagH 151) ?_
 refine sx 1 ?_
 refine RunL.op rfl rfl (OpJ.storeW T42 rfl rfl rfl rfl (by simp [Value.oneCell', Tg.c, Ln.c, En.c, Ac.c, Cl.c, Ky.c, Qy.c, Sb, Iv]) up ?_)
 refine asg rfl rfl ?_
 refine kp [16, 17] rfl ?_
 refine Run.ret ?_
 have hE := ent_bad (who := who) (by simpa using h1) hg (by have hq : ¬ a.kind = 3 := (by simpa [Ac.put] using h3); rw [decide_eq_false hq, Bool.and_false])
 rw [hE]
 exact ret_out en0 (.cellA T42 rfl pk (by rfl) (.tmp rfl .nil)) rfl rfl gv
 refine Run.skip ?_
 refine Run.seq ?_
 refine sr ?_
 refine sx 3 ?_
 refine kp [3, 5, 6, 7, 16, 18, 19, 60] rfl ?_
 first | refine Run.if rfl (fun h4 => ?_) (fun h4 => ?_) | refine Run.cond rfl (fun h4 => ?_) (fun h4 => ?_)
 refine sr ?_
 refine RunL.ownNil 73 7 ?_
 refine RunL.bigNil (tagH 151) ?_
 refine sx 1 ?_
 refine RunL.op rfl rfl (OpJ.storeW T42 rfl rfl rfl rfl (by simp [Value.oneCell', Tg.c, Ln.c, En.c, Ac.c, Cl.c, Ky.c, Qy.c, Sb, Iv]) up ?_)
 refine asg rfl rfl ?_
 refine kp [16, 17] rfl ?_
 refine Run.ret ?_
 have hE := ent_nil (who := who) (by simpa using h1) hg ⟨by simpa [Ac.put] using g2, by simpa [Ac.put] using h3⟩ (by omega)
 rw [hE]
 exact ret_out en0 (.cellA T42 rfl pk (by rfl) (.tmp rfl .nil)) rfl rfl gv
 refine Run.skip ?_
 refine sr ?_
 refine sx 6 ?_
 have hrl : (resM m first l ent year book).1.length ≤ 100000 := res_len hl
 refine RunL.callX C38 rfl rfl rfl (c_transfer (own 63 7 sa (resM m first l ent year book).1.length sc ((resM m first l ent year book).1.flatMap Cl.c)) R sa sc (resM m first l ent year book).1 to m0 own.rds hM hrl hz) tks fun ⟨ls, la, lc⟩ hls => ?_
 refine sx 1 ?_
 refine RunL.op rfl rfl (OpJ.storeW T42 rfl rfl rfl rfl (by simp [Value.oneCell', Tg.c, Ln.c, En.c, Ac.c, Cl.c, Ky.c, Qy.c, Sb, Iv]) up ?_)
 refine kp [16] rfl ?_
 refine Run.seq ?_
 refine sr ?_
 refine sx 1 ?_
 refine RunL.packs [own 73 7 la ls.length lc (ls.flatMap Ln.c), big (tagH 151) ls, R] tks ?_
 refine RunL.call C39 rfl rfl rfl (c_Check ⟨0, ent, book, lastR m first l ent year book, 4, bs0, who, 0, la, lc, ls⟩ (stars [own 73 7 la ls.length lc (ls.flatMap Ln.c), big (tagH 151) ls, R]) (en_R0 hR0) (en_rd hls hz)) tks ?_
 refine RunL.unstar (As := [own 73 7 la ls.length lc (ls.flatMap Ln.c), big (tagH 151) ls, R]) pk ?_
 refine sx 5 ?_
 refine kp [16, 23] rfl ?_
 refine sr ?_
 refine sx 2 ?_
 refine kp [16, 23, 76] rfl ?_
 first | refine Run.if rfl (fun h5 => ?_) (fun h5 => ?_) | refine Run.cond rfl (fun h5 => ?_) (fun h5 => ?_)
 refine sr ?_
 refine RunL.ownNil 73 7 ?_
 refine RunL.bigNil (tagH 151) ?_
 refine sx 2 ?_
 refine RunL.op rfl rfl (OpJ.storeW T42 rfl rfl rfl rfl (by simp [Value.oneCell', Tg.c, Ln.c, En.c, Ac.c, Cl.c, Ky.c, Qy.c, Sb, Iv]) up ?_)
 refine asg rfl rfl ?_
 refine kp [16, 17] rfl ?_
 refine Run.ret ?_
 have hE := ent_fin (who := who) (la := la) (lc := lc) (by simpa using h1) hg ⟨by simpa [Ac.put] using g2, by simpa [Ac.put] using h3⟩ (by omega) hls hz
 rw [if_neg (by simpa using h5)] at hE
 rw [hE]
 exact ret_out en0 (.cellA T42 rfl pk (by rfl) (.tmp rfl .nil)) rfl rfl gv
 refine Run.skip ?_
 refine sr ?_
 refine sx 1 ?_
 refine RunL.op rfl rfl (OpJ.storeW T42 rfl rfl rfl rfl (by simp [Value.oneCell', Tg.c, Ln.c, En.c, Ac.c, Cl.c, Ky.c, Qy.c, Sb, Iv]) up ?_)
 refine asg rfl rfl ?_
 refine kp [16, 17] rfl ?_
 refine Run.ret ?_
 have hE := ent_fin (who := who) (la := la) (lc := lc) (by simpa using h1) hg ⟨by simpa [Ac.put] using g2, by simpa [Ac.put] using h3⟩ (by omega) hls hz
 rw [if_pos (by simpa using h5)] at hE
 rw [hE]
 exact ret_out (⟨0, ent, book, lastR m first l ent year book, 4, bs0, who, 0, la, lc, ls⟩ : En) (.cellA T42 rfl pk (by rfl) (.tmp rfl .nil)) rfl rfl gv
end
theorem c_NewO (R : HP) (oa : Option Addr) (cap : Nat) (xs : List Ac) (hR : RdS R oa (xs.flatMap Ac.c)) (hrd : ∀ a ∈ xs, a.rd R) (hl : xs.length ≤ 140737488355328) : AC Tryz.prog 31 ⟨[.slice oa xs.length cap]⟩ (stars [R]) (Outs (fun y : Option Chv × Int × Int => y.1.isSome = chartB xs ∧ ChOk y.1 xs) (fun y => .tuple ⟨[chV y.1, I y.2.1, I y.2.2]⟩) (fun y => [chH 110 9 y.1, R])) :=
  AC.outs (c_New R oa cap xs hR hrd hl) fun y hy => by
    by_cases hc : chartB xs = true
    · rw [if_pos hc, if_pos hc]
      exact ⟨(some y.1, 0, 0), ⟨hc.symm, (fun c e => by cases e; exact hy hc), fun _ => hc⟩, rfl, Imp.pack0 (As := [_, _, _])⟩
    · rw [if_neg hc, if_neg hc]
      exact ⟨(none, y.2), ⟨by simp at hc; rw [hc]; rfl, (fun c e => by cases e), fun h => by cases h⟩, rfl, Imp.emp⟩
theorem c_ResO (o : Option Chv) (xs : List Ac) (hs : ChOk o xs) (R : HP) (oa : Option Addr) (cap : Nat) (l : List En) (hR0 : Rd R ⟨0, 0, none⟩ lensC) (hR : RdS R oa (l.flatMap En.c)) (hrd : ∀ e ∈ l, e.rd R) (hl : o.isSome = true → l.length ≤ 1000) (first : Int) (ent : ByteArray) (year book : Int) : AC Tryz.prog 13 ⟨[chV o, .agg ⟨[I first]⟩, .slice oa l.length cap, St ent, I year, I book]⟩ (stars [chH 110 9 o, R]) (Outs (fun _ : Option Addr × Nat => True) (fun y => .tuple ⟨[.slice y.1 (resX o xs first l ent year book).1.length y.2, I (resX o xs first l ent year book).2]⟩) (fun y => [own 63 7 y.1 (resX o xs first l ent year book).1.length y.2 ((resX o xs first l ent year book).1.flatMap Cl.c), chH 110 9 o, R])) := by
  cases o with
  | none => exact AC.addF (c_Result0 (.slice oa l.length cap) ent year book first) (none, 0) trivial rfl (Imp.ownNil _ _)
  | some y =>
    rw [show resX (some y) xs first l ent year book = resM y.m first l ent year book from (res_st (hs.1 y rfl) ..).symm]
    exact AC.pre (AC.outs (c_Result y.b y.bm y.v y.w y.m hs.need R oa cap l hR0 hR hrd (hl rfl) first ent year book) fun z _ => ⟨z, trivial, rfl, Imp.pack1 (As := [_, _, _])⟩) fun h hh => stars_mk hh
theorem c_EntO (o : Option Chv) (xs : List Ac) (hs : ChOk o xs) (R : HP) (oa : Option Addr) (cap : Nat) (l : List En) (hR0 : Rd R ⟨0, 0, none⟩ lensC) (hR : RdS R oa (l.flatMap En.c)) (hrd : ∀ e ∈ l, e.rd R) (hl : o.isSome = true → l.length ≤ 1000) (first : Int) (ent : ByteArray) (year book : Int) (to who : ByteArray) (m0 : Int) (hM : Rd R ⟨1, 0, none⟩ [I m0]) : AC Tryz.prog 16 ⟨[chV o, .agg ⟨[I first]⟩, .slice oa l.length cap, St ent, I year, I book, St to, St who]⟩ (stars [chH 110 9 o, R]) (Outs (fun y : En => y.e = (entX o xs first l ent year book to who).1) (fun y => .tuple ⟨[.agg ⟨y.c⟩, I (entX o xs first l ent year book to who).2]⟩) (fun y => [own 73 7 y.la y.lines.length y.lc (y.lines.flatMap Ln.c), big (tagH 151) y.lines, chH 110 9 o, R])) := by
  cases o with
  | none => exact AC.addF (c_Entry0 (.slice oa l.length cap) ent year book first to who) en0 rfl rfl (Imp.trans (Imp.bigNil' (tagH 151)) (Imp.ownNil _ _))
  | some y =>
    rw [show entX (some y) xs first l ent year book to who = entM y.m first l ent year book to who from (ent_st (hs.1 y rfl) ..).symm]
    exact AC.pre (AC.outs (c_Entry y.b y.bm y.v y.w y.m hs.need R oa cap l hR0 hR hrd (hl rfl) first ent year book to who m0 hM res_ok) fun z hz => ⟨z, hz, rfl, Imp.pack2 (As := [_, _, _])⟩) fun h hh => stars_mk hh
section
attribute [local irreducible] OpJ RunL Run RunD DetJ pt own star Rd RdS
theorem c_large (x : Cs) (R : HP) (hx : x.rd R) : AC Tryz.prog 28 ⟨[.agg ⟨x.c⟩]⟩ (stars [R]) (Outs (fun b : Bool => b = false → x.few) (fun b => Bo b) (fun _ => [R])) := by
 obtain ⟨hxr, hxe, hxl, hlr, hle, hls, hll, hiy, hib, hzw⟩ := hx
 refine AC.go Tryz.func28 rfl (Nat.le_of_ble_eq_true rfl) fun β => ?_
 refine sr ?_
 refine RunL.op rfl rfl (OpJ.boxA rfl fun b1 => ?_)
 refine asg rfl rfl ?_
 refine kp [1] rfl ?_
 refine Run.seq ?_
 refine sr ?_
 refine sx 5 ?_
 first | refine RunL.splitP (t := 11) rfl (fun g1 => ?_) (fun g1 => ?_) | refine RunL.split (t := 11) rfl (fun g1 => ?_) (fun g1 => ?_)
 refine sx 19 ?_
 refine kp [1, 30] rfl ?_
 refine Run.true rfl ?_
 refine sr ?_
 refine asg rfl rfl ?_
 refine kp [2] rfl ?_
 refine Run.ret ?_
 first | exact ret_out true (.tmp rfl .nil) (fun h => by cases h) rfl gv | exact ret_out false (.tmp rfl .nil) (fun _ => ⟨by omega, by omega, by rw [tot_all (Nat.le_refl _)] at hI0; exact hI0⟩) rfl gv
 refine sx 6 ?_
 first | refine RunL.splitP (t := 17) rfl (fun g2 => ?_) (fun g2 => ?_) | refine RunL.split (t := 17) rfl (fun g2 => ?_) (fun g2 => ?_)
 refine sx 13 ?_
 refine kp [1, 30] rfl ?_
 refine Run.true rfl ?_
 refine sr ?_
 refine asg rfl rfl ?_
 refine kp [2] rfl ?_
 refine Run.ret ?_
 first | exact ret_out true (.tmp rfl .nil) (fun h => by cases h) rfl gv | exact ret_out false (.tmp rfl .nil) (fun _ => ⟨by omega, by omega, by rw [tot_all (Nat.le_refl _)] at hI0; exact hI0⟩) rfl gv
 refine sx 13 ?_
 refine kp [1, 30] rfl ?_
 first | refine Run.if rfl (fun h3 => ?_) (fun h3 => ?_) | refine Run.cond rfl (fun h3 => ?_) (fun h3 => ?_)
 refine sr ?_
 refine asg rfl rfl ?_
 refine kp [2] rfl ?_
 refine Run.ret ?_
 first | exact ret_out true (.tmp rfl .nil) (fun h => by cases h) rfl gv | exact ret_out false (.tmp rfl .nil) (fun _ => ⟨by omega, by omega, by rw [tot_all (Nat.le_refl _)] at hI0; exact hI0⟩) rfl gv
 refine Run.skip ?_
 refine sr ?_
 refine asg rfl rfl ?_
 refine kp [1, 3] rfl ?_
 refine Run.seq ?_
 refine sr ?_
 refine asg rfl rfl ?_
 refine kp [1, 3, 4] rfl ?_
 refine Run.block ?_
 refine Run.weak (L' := [pt b1 (blk x.c 27), R]) (fun _ _ h => h) gv ?_
 refine Run.loop (fun mm E L => ∃ i : Nat, mm = x.l.length - i ∧ i ≤ x.l.length ∧ totL (x.l.take i) ≤ 400 ∧ E = [(1, .pointer (some ⟨b1, 0, none⟩)), (3, I (totL (x.l.take i) : Int)), (4, I i)] ∧ L = [pt b1 (blk x.c 27), R]) ⟨_, 0, rfl, Nat.zero_le _, Nat.zero_le _, rfl, rfl⟩ ?_
 rintro _ _ _ ⟨i, rfl, hi, hI0, rfl, rfl⟩
 refine Run.seq ?_
 refine sr ?_
 refine sx 5 ?_
 refine kp [1, 3, 4, 35] rfl ?_
 first | refine Run.if rfl (fun h4 => ?_) (fun h4 => ?_) | refine Run.cond rfl (fun h4 => ?_) (fun h4 => ?_)
 refine Run.skip ?_
 refine Run.seq ?_
 refine Run.block ?_
 refine sr ?_
 obtain ⟨e, hex⟩ := get_ex (xs := x.l) (i := i) (by omega)
 have hem := hle e (List.mem_of_getElem? hex)
 have htk := tot_take hex
 refine RunL.rdOpen pk hlr (flat_ne (k := 9) (fun _ => rfl) (by decide) hex) fun bo oo ebo hrd => ?_
 refine sx 3 ?_
 rw [ebo]
 refine sx 3 ?_
 refine RunL.op rfl rfl (OpJ.load1 inferInstance rfl pk (hrd.at (enc := En.c) 9 (fun _ => rfl) hex 8 (.slice e.la e.lines.length e.lc) rfl) ?_)
 refine sx 3 ?_
 refine kp [1, 3, 4] rfl ?_
 refine Run.seq ?_
 refine Run.seq ?_
 refine regionD HM ?_
 refine tk 0 rfl rfl rfl (DetJ.move rfl) ?_
 refine tk 1 rfl rfl rfl (DetJ.gtr rfl rfl) ?_
 refine tk 2 rfl rfl rfl (DetJ.move rfl) ?_
 by_cases hn : 400 < (totL (x.l.take i) : Int) + e.lines.length
 refine RunD.set (congrArg Bo (decide_eq_true hn)) ?_
 refine RunD.takeN 3 rfl rfl rfl rfl rfl kr ?_
 refine RunD.takeN 4 rfl rfl rfl rfl rfl kr ?_
 refine RunD.takeN 5 rfl rfl rfl rfl rfl kr ?_
 refine RunD.takeN 6 rfl rfl rfl rfl rfl kr ?_
 refine RunD.takeN 7 rfl rfl rfl rfl rfl kr ?_
 refine RunD.takeN 8 rfl rfl rfl rfl rfl kr ?_
 refine RunD.takeN 9 rfl rfl rfl rfl rfl kr ?_
 refine RunD.takeN 10 rfl rfl rfl rfl rfl kr ?_
 refine RunD.takeN 11 rfl rfl rfl rfl rfl kr ?_
 refine RunD.takeN 12 rfl rfl rfl rfl rfl kr ?_
 refine RunD.takeN 13 rfl rfl rfl rfl rfl kr ?_
 refine RunD.takeN 14 rfl rfl rfl rfl rfl kr ?_
 refine RunD.takeN 15 rfl rfl rfl rfl rfl kr ?_
 refine RunD.takeN 16 rfl rfl rfl rfl rfl kr ?_
 refine RunD.takeN 17 rfl rfl rfl rfl rfl kr ?_
 refine RunD.takeN 18 rfl rfl rfl rfl rfl kr ?_
 refine RunD.takeN 19 rfl rfl rfl rfl rfl kr ?_
 refine RunD.takeN 20 rfl rfl rfl rfl rfl kr ?_
 refine RunD.takeN 21 rfl rfl rfl rfl rfl kr ?_
 refine RunD.takeN 22 rfl rfl rfl rfl rfl kr ?_
 refine RunD.takeN 23 rfl rfl rfl rfl rfl kr ?_
 refine RunD.takeN 24 rfl rfl rfl rfl rfl kr ?_
 refine RunD.takeN 25 rfl rfl rfl rfl rfl kr ?_
 refine RunD.takeN 26 rfl rfl rfl rfl rfl kr ?_
 refine tk 27 rfl rfl rfl (DetJ.pickT rfl rfl) ?_
 refine kd [1, 3, 4, 74] rfl ?_
 refine Run.true rfl ?_
 refine sr ?_
 refine asg rfl rfl ?_
 refine kp [2] rfl ?_
 refine Run.ret ?_
 first | exact ret_out true (.tmp rfl .nil) (fun h => by cases h) rfl gv | exact ret_out false (.tmp rfl .nil) (fun _ => ⟨by omega, by omega, by rw [tot_all (Nat.le_refl _)] at hI0; exact hI0⟩) rfl gv
 refine RunD.set (congrArg Bo (decide_eq_false hn)) ?_
 refine RunD.takeG 3 rfl rfl rfl rfl rfl kr (DetJ.fieldAddr F27_2 rfl) .nil ?_
 first | refine RunD.takeGF 4 rfl rfl rfl rfl kr T25 rfl pk (by rfl) ?_ | refine RunD.takeGO 4 rfl rfl rfl rfl kr T25 rfl pk (by assumption) (by rfl) (by exact fun _ => rfl) ?_
 rw [ebo]
 refine RunD.takeG 5 rfl rfl rfl rfl rfl kr (DetJ.move rfl) .nil ?_
 refine RunD.takeG 6 rfl rfl rfl rfl rfl kr (DetJ.indexAddr S25 rfl rfl (by omega)) .nil ?_
 refine RunD.takeG 7 rfl rfl rfl rfl rfl kr (DetJ.fieldAddr F42_1 rfl) .nil ?_
 refine RunD.takeGR1 8 rfl rfl rfl rfl kr T9 rfl pk (hrd.at (enc := En.c) 9 (fun _ => rfl) hex 1 (St e.ent) rfl) ?_
 refine RunD.takeG 9 rfl rfl rfl rfl rfl kr (DetJ.lenS U9 rfl) .nil ?_
 refine RunD.takeG 10 rfl rfl rfl rfl rfl kr (DetJ.fieldAddr F27_2 rfl) .nil ?_
 first | refine RunD.takeGF 11 rfl rfl rfl rfl kr T25 rfl pk (by rfl) ?_ | refine RunD.takeGO 11 rfl rfl rfl rfl kr T25 rfl pk (by assumption) (by rfl) (by exact fun _ => rfl) ?_
 rw [ebo]
 refine RunD.takeG 12 rfl rfl rfl rfl rfl kr (DetJ.move rfl) .nil ?_
 refine RunD.takeG 13 rfl rfl rfl rfl rfl kr (DetJ.indexAddr S25 rfl rfl (by omega)) .nil ?_
 refine RunD.takeG 14 rfl rfl rfl rfl rfl kr (DetJ.fieldAddr F42_5 rfl) .nil ?_
 refine RunD.takeGR1 15 rfl rfl rfl rfl kr T9 rfl pk (hrd.at (enc := En.c) 9 (fun _ => rfl) hex 5 (St e.ref) rfl) ?_
 refine RunD.takeG 16 rfl rfl rfl rfl rfl kr (DetJ.lenS U9 rfl) .nil ?_
 first | refine RunD.takeG 17 rfl rfl rfl rfl rfl kr (DetJ.addI rfl rfl (by omega)) .nil ?_ | refine RunD.takeG 17 rfl rfl rfl rfl rfl kr (DetJ.add rfl rfl) .nil ?_
 refine RunD.takeG 18 rfl rfl rfl rfl rfl kr (DetJ.fieldAddr F27_2 rfl) .nil ?_
 first | refine RunD.takeGF 19 rfl rfl rfl rfl kr T25 rfl pk (by rfl) ?_ | refine RunD.takeGO 19 rfl rfl rfl rfl kr T25 rfl pk (by assumption) (by rfl) (by exact fun _ => rfl) ?_
 rw [ebo]
 refine RunD.takeG 20 rfl rfl rfl rfl rfl kr (DetJ.move rfl) .nil ?_
 refine RunD.takeG 21 rfl rfl rfl rfl rfl kr (DetJ.indexAddr S25 rfl rfl (by omega)) .nil ?_
 refine RunD.takeG 22 rfl rfl rfl rfl rfl kr (DetJ.fieldAddr F42_6 rfl) .nil ?_
 refine RunD.takeGR1 23 rfl rfl rfl rfl kr T9 rfl pk (hrd.at (enc := En.c) 9 (fun _ => rfl) hex 6 (St e.who) rfl) ?_
 refine RunD.takeG 24 rfl rfl rfl rfl rfl kr (DetJ.lenS U9 rfl) .nil ?_
 first | refine RunD.takeG 25 rfl rfl rfl rfl rfl kr (DetJ.addI rfl rfl (by omega)) .nil ?_ | refine RunD.takeG 25 rfl rfl rfl rfl rfl kr (DetJ.add rfl rfl) .nil ?_
 refine RunD.takeG 26 rfl rfl rfl rfl rfl kr (DetJ.gtr rfl rfl) .nil ?_
 refine tk 27 rfl rfl rfl (DetJ.pickF rfl rfl) ?_
 refine kd [1, 3, 4, 74] rfl ?_
 first | refine Run.if rfl (fun h5 => ?_) (fun h5 => ?_) | refine Run.cond rfl (fun h5 => ?_) (fun h5 => ?_)
 refine sr ?_
 refine asg rfl rfl ?_
 refine kp [2] rfl ?_
 refine Run.ret ?_
 first | exact ret_out true (.tmp rfl .nil) (fun h => by cases h) rfl gv | exact ret_out false (.tmp rfl .nil) (fun _ => ⟨by omega, by omega, by rw [tot_all (Nat.le_refl _)] at hI0; exact hI0⟩) rfl gv
 refine Run.skip ?_
 refine sr ?_
 refine asg rfl rfl ?_
 refine kp [1, 3, 4, 5] rfl ?_
 refine Run.block ?_
 refine Run.weak (L' := [pt b1 (blk x.c 27), R]) (fun _ _ h => h) gv ?_
 refine Run.loop (fun mm E L => ∃ k : Nat, mm = e.lines.length - k ∧ k ≤ e.lines.length ∧ E = [(1, .pointer (some ⟨b1, 0, none⟩)), (3, I ((totL (x.l.take i) : Int) + e.lines.length)), (4, I i), (5, I k)] ∧ L = [pt b1 (blk x.c 27), R]) ⟨_, 0, rfl, Nat.zero_le _, rfl, rfl⟩ ?_
 rintro _ _ _ ⟨k, rfl, hk, rfl, rfl⟩
 refine Run.seq ?_
 refine sr ?_
 refine sx 3 ?_
 rw [ebo]
 refine sx 3 ?_
 refine RunL.op rfl rfl (OpJ.load1 inferInstance rfl pk (hrd.at (enc := En.c) 9 (fun _ => rfl) hex 8 (.slice e.la e.lines.length e.lc) rfl) ?_)
 refine sx 2 ?_
 refine kp [1, 3, 4, 5, 83] rfl ?_
 first | refine Run.if rfl (fun h6 => ?_) (fun h6 => ?_) | refine Run.cond rfl (fun h6 => ?_) (fun h6 => ?_)
 refine Run.skip ?_
 refine Run.seq ?_
 refine Run.block ?_
 refine sr ?_
 obtain ⟨y, hy⟩ := get_ex (xs := e.lines) (i := k) (by omega)
 refine RunL.rdOpen pk hem.1.1 (flat_ne (k := 7) (fun _ => rfl) (by decide) hy) fun bq oq ebq hrq => ?_
 refine sx 2 ?_
 rw [ebo]
 refine sx 3 ?_
 refine RunL.op rfl rfl (OpJ.load1 inferInstance rfl pk (hrd.at (enc := En.c) 9 (fun _ => rfl) hex 8 (.slice e.la e.lines.length e.lc) rfl) ?_)
 rw [ebq]
 refine sx 2 ?_
 refine RunL.op rfl rfl (OpJ.loadA inferInstance rfl pk (hrq.elem (fun _ => rfl) hy) rfl ?_)
 refine RunL.op rfl rfl (OpJ.alloc Z73 fun b6 => ?_)
 refine RunL.op rfl rfl (OpJ.storeW T73 rfl rfl rfl rfl (by simp [Value.oneCell', Tg.c, Ln.c, En.c, Ac.c, Cl.c, Ky.c, Qy.c, Sb, Iv, Cs.c]) up ?_)
 refine kp [1, 3, 4, 5, 6] rfl ?_
 refine sr ?_
 refine sx 5 ?_
 first | refine RunL.splitP (t := 99) rfl (fun g7 => ?_) (fun g7 => ?_) | refine RunL.split (t := 99) rfl (fun g7 => ?_) (fun g7 => ?_)
 refine sx 17 ?_
 refine kp [1, 3, 4, 5, 116] rfl ?_
 refine Run.true rfl ?_
 refine sr ?_
 refine asg rfl rfl ?_
 refine kp [2] rfl ?_
 refine Run.ret ?_
 first | exact ret_out true (.tmp rfl .nil) (fun h => by cases h) rfl gv | exact ret_out false (.tmp rfl .nil) (fun _ => ⟨by omega, by omega, by rw [tot_all (Nat.le_refl _)] at hI0; exact hI0⟩) rfl gv
 refine sx 17 ?_
 refine kp [1, 3, 4, 5, 116] rfl ?_
 first | refine Run.if rfl (fun h8 => ?_) (fun h8 => ?_) | refine Run.cond rfl (fun h8 => ?_) (fun h8 => ?_)
 refine sr ?_
 refine asg rfl rfl ?_
 refine kp [2] rfl ?_
 refine Run.ret ?_
 first | exact ret_out true (.tmp rfl .nil) (fun h => by cases h) rfl gv | exact ret_out false (.tmp rfl .nil) (fun _ => ⟨by omega, by omega, by rw [tot_all (Nat.le_refl _)] at hI0; exact hI0⟩) rfl gv
 refine Run.skip ?_
 refine Run.region ?_
 refine sx 3 ?_
 exact RunL.next (Keep.sub (kt (ks := [1, 3, 4, 5]) rfl)) _ ⟨_, by omega, k + 1, rfl, by omega, rfl, rfl⟩ gv
 refine Run.exit ?_
 refine Run.region ?_
 refine sx 3 ?_
 rw [show (totL (x.l.take i) : Int) + e.lines.length = (totL (x.l.take (i + 1)) : Int) by omega]
 exact RunL.next (Keep.sub (kt (ks := [1, 3, 4]) rfl)) _ ⟨_, by omega, i + 1, rfl, by omega, by omega, rfl, rfl⟩ gv
 refine Run.exit ?_
 refine sr ?_
 obtain rfl : i = x.l.length := by omega
 refine asg rfl rfl ?_
 refine kp [2] rfl ?_
 refine Run.ret ?_
 first | exact ret_out true (.tmp rfl .nil) (fun h => by cases h) rfl gv | exact ret_out false (.tmp rfl .nil) (fun _ => ⟨by omega, by omega, by rw [tot_all (Nat.le_refl _)] at hI0; exact hI0⟩) rfl gv
theorem c_small : AC Tryz.prog 32 ⟨[]⟩ (stars []) (Outs (fun _ : Nat => True) (fun b => .slice (bpt b) 4 4) (fun b => [pt b (blk (xsX.flatMap Ac.c) 57)])) := by
 refine AC.go Tryz.func32 rfl (Nat.le_of_ble_eq_true rfl) fun β => ?_
 refine sr ?_
 refine asg rfl rfl ?_
 refine kp [] rfl ?_
 refine sr ?_
 refine sx 4 ?_
 refine RunL.op rfl rfl (OpJ.buildSliceN (cs := xsX.flatMap Ac.c) inferInstance Z57 rfl (by decide) (by decide) rfl (by rfl) (by rfl) fun b5 => ?_)
 refine asg rfl rfl ?_
 refine kp [0] rfl ?_
 refine Run.ret ?_
 exact ret_out b5 (.tmp rfl .nil) trivial rfl gv
theorem c_sale (no value : Int) (code : ByteArray) (n : Int) (hn : -1000000 ≤ n ∧ n ≤ 1000000) : AC Tryz.prog 33 ⟨[I no, I value, St code, I n]⟩ (stars []) (Outs (fun _ : Nat => True) (fun b => .agg ⟨(saleX no value code n (bpt b) 2).c⟩) (fun b => [pt b (blk (lineX code n) 73)])) := by
 refine AC.go Tryz.func33 rfl (Nat.le_of_ble_eq_true rfl) fun β => ?_
 refine sr ?_
 refine RunL.op rfl rfl (OpJ.alloc Z42 fun b8 => ?_)
 refine kp [0, 1, 2, 3, 8] rfl ?_
 refine sr ?_
 refine sx 8 ?_
 refine RunL.set (congrArg I (show _ = -n by rw [wrap_i64_in (by omega)]; omega)) ?_
 refine sx 2 ?_
 refine RunL.set (congrArg I (show _ = -n by rw [wrap_i64_in (by omega)]; omega)) ?_
 refine sx 1 ?_
 refine RunL.op rfl rfl (OpJ.buildSliceN (cs := lineX code n) inferInstance Z73 rfl (by decide) (by decide) rfl (by rfl) (by rfl) fun b20 => ?_)
 refine sx 1 ?_
 refine RunL.op rfl rfl (OpJ.storeW T42 rfl rfl rfl rfl (by simp [Value.oneCell', Tg.c, Ln.c, En.c, Ac.c, Cl.c, Ky.c, Qy.c, Sb, Iv, Cs.c]) up ?_)
 refine kp [8] rfl ?_
 refine Run.ret ?_
 exact ret_out b20 (.cellA T42 rfl pk (by rfl) .nil) trivial rfl gv
theorem c_lives (R : HP) (m0 : Int) (hR0 : Rd R ⟨0, 0, none⟩ lensC) (hM : Rd R ⟨1, 0, none⟩ [I m0]) : AC Tryz.prog 12 ⟨[]⟩ (stars [R]) (Ret (Bo true) [R]) := by
 refine AC.go Tryz.func12 rfl (Nat.le_of_ble_eq_true rfl) fun β => ?_
 refine sr ?_
 refine asg rfl rfl ?_
 refine kp [] rfl ?_
 refine sr ?_
 refine RunL.callX C32 rfl rfl rfl c_small tks fun b16 _ => ?_
 refine RunL.callX C31 rfl rfl rfl (c_NewO (pt b16 (blk (xsX.flatMap Ac.c) 57)) (bpt b16) 4 xsX (Rd.rds Rd.whole) liv_x (by decide)) tks fun ⟨o, p1, p2⟩ hy => ?_
 have ho : o.isSome = true := hy.1.trans liv_chart
 have hs := hy.2
 refine mvo rfl rfl ?_
 refine RunL.op rfl rfl (OpJ.extract rfl rfl ?_)
 refine RunL.op rfl rfl (OpJ.extract rfl rfl ?_)
 refine RunL.op rfl rfl (OpJ.extract rfl rfl ?_)
 refine asg rfl rfl ?_
 refine asg rfl rfl ?_
 refine asg rfl rfl ?_
 refine kp [1] rfl ?_
 refine sr ?_
 refine RunL.callX C33 rfl rfl rfl (c_sale 1 46000 s40 9 (by decide)) tks fun b21 _ => ?_
 refine RunL.callX C33 rfl rfl rfl (c_sale 2 46010 s50 (-4) (by decide)) tks fun b22 _ => ?_
 refine RunL.callX C33 rfl rfl rfl (c_sale 3 46021 s40 100 (by decide)) tks fun b23 _ => ?_
 refine RunL.op rfl rfl (OpJ.buildSliceN (cs := (lXb b21 b22 b23).flatMap En.c) inferInstance Z42 rfl (by decide) (by decide) rfl (by rfl) (by rfl) fun b24 => ?_)
 refine asg rfl rfl ?_
 refine kp [1, 4] rfl ?_
 refine sr ?_
 refine RunL.packs [pt b24 (blk ((lXb b21 b22 b23).flatMap En.c) 42), pt b23 (blk (lineX s40 100) 73), pt b22 (blk (lineX s50 (-4)) 73), pt b21 (blk (lineX s40 9) 73), R] tks ?_
 refine mvo rfl rfl ?_
 refine RunL.op rfl rfl (OpJ.build B24 rfl rfl fun cs hcs => ?_)
 simp only [Tg.c, Ln.c, En.c, Ac.c, Cl.c, Ky.c, Qy.c, Cs.c, bldL, bldA, Value.cells, bs, Nat.reduceAdd, Nat.reduceLeDiff, Nat.reduceLT] at hcs; subst hcs
 refine mvo rfl rfl ?_
 refine RunL.callX C13 rfl rfl rfl (c_ResO o xsX hs (livR 42 73 b21 b22 b23 b24 R) (bpt b24) 3 (lXb b21 b22 b23) (liv_0 hR0) liv_l liv_e (fun _ => Nat.le_of_ble_eq_true rfl) 1 sa 2025 46100) tks fun ⟨ra, rc⟩ _ => ?_
 rw [resX_some ho, liv_res]
 dsimp only
 refine mvo rfl rfl ?_
 refine RunL.op rfl rfl (OpJ.extract rfl rfl ?_)
 refine RunL.op rfl rfl (OpJ.extract rfl rfl ?_)
 refine asg rfl rfl ?_
 refine asg rfl rfl ?_
 refine kp [1, 4, 5, 6] rfl ?_
 refine sr ?_
 refine mvo rfl rfl ?_
 refine RunL.op rfl rfl (OpJ.build B24 rfl rfl fun cs hcs => ?_)
 simp only [Tg.c, Ln.c, En.c, Ac.c, Cl.c, Ky.c, Qy.c, Cs.c, bldL, bldA, Value.cells, bs, Nat.reduceAdd, Nat.reduceLeDiff, Nat.reduceLT] at hcs; subst hcs
 refine mvo rfl rfl ?_
 refine RunL.callX C16 rfl rfl rfl (c_EntO o xsX hs (livR 42 73 b21 b22 b23 b24 R) (bpt b24) 3 (lXb b21 b22 b23) (liv_0 hR0) liv_l liv_e (fun _ => Nat.le_of_ble_eq_true rfl) 1 sa 2025 46100 s30 su m0 (liv_m hM)) tks fun y hye => ?_
 obtain ⟨hv, hk, a1, c1, a2, c2, a3, c3, hl⟩ := liv_lines ho hye
 clear hye
 obtain ⟨yno, yent, ybook, yvalue, ykind, yref, ywho, yrev, yla, ylc, ylines⟩ := y
 dsimp only at hv hk hl
 subst hv hk hl
 rw [entX_some ho, liv_ent]
 dsimp only
 refine mvo rfl rfl ?_
 refine RunL.op rfl rfl (OpJ.extract rfl rfl ?_)
 refine RunL.op rfl rfl (OpJ.extract rfl rfl ?_)
 refine RunL.op rfl rfl (OpJ.alloc Z42 fun b7 => ?_)
 refine RunL.op rfl rfl (OpJ.storeW T42 rfl rfl rfl rfl (by simp [Value.oneCell', Tg.c, Ln.c, En.c, Ac.c, Cl.c, Ky.c, Qy.c, Sb, Iv, Cs.c]) up ?_)
 refine asg rfl rfl ?_
 refine kp [1, 4, 5, 6, 7, 8] rfl ?_
 refine sr ?_
 refine mvo rfl rfl ?_
 refine RunL.op rfl rfl (OpJ.build B24 rfl rfl fun cs hcs => ?_)
 simp only [Tg.c, Ln.c, En.c, Ac.c, Cl.c, Ky.c, Qy.c, Cs.c, bldL, bldA, Value.cells, bs, Nat.reduceAdd, Nat.reduceLeDiff, Nat.reduceLT] at hcs; subst hcs
 refine mvo rfl rfl ?_
 refine RunL.callX C16 rfl rfl rfl (c_EntO o xsX hs (livR 42 73 b21 b22 b23 b24 R) (bpt b24) 3 (lXb b21 b22 b23) (liv_0 hR0) liv_l liv_e (fun _ => Nat.le_of_ble_eq_true rfl) 1 sa 2025 46100 s10 su m0 (liv_m hM)) tks fun y2 _ => ?_
 rw [entX_some ho, liv_ent2]
 refine mvo rfl rfl ?_
 refine RunL.op rfl rfl (OpJ.extract rfl rfl ?_)
 refine RunL.op rfl rfl (OpJ.extract rfl rfl ?_)
 refine RunL.op rfl rfl (OpJ.alloc Z42 fun b9 => ?_)
 refine RunL.op rfl rfl (OpJ.storeW T42 rfl rfl rfl rfl (by simp [Value.oneCell', Tg.c, Ln.c, En.c, Ac.c, Cl.c, Ky.c, Qy.c, Sb, Iv, Cs.c]) up ?_)
 refine asg rfl rfl ?_
 refine kp [1, 4, 5, 6, 7, 8, 10] rfl ?_
 refine sr ?_
 refine mvo rfl rfl ?_
 refine RunL.op rfl rfl (OpJ.build B24 rfl rfl fun cs hcs => ?_)
 simp only [Tg.c, Ln.c, En.c, Ac.c, Cl.c, Ky.c, Qy.c, Cs.c, bldL, bldA, Value.cells, bs, Nat.reduceAdd, Nat.reduceLeDiff, Nat.reduceLT] at hcs; subst hcs
 refine mvo rfl rfl ?_
 refine RunL.callX C16 rfl rfl rfl (c_EntO o xsX hs (livR 42 73 b21 b22 b23 b24 R) (bpt b24) 3 (lXb b21 b22 b23) (liv_0 hR0) liv_l liv_e (fun _ => Nat.le_of_ble_eq_true rfl) 1 sa 2024 46100 s30 su m0 (liv_m hM)) tks fun y3 _ => ?_
 rw [entX_some ho, liv_ent3]
 refine mvo rfl rfl ?_
 refine RunL.op rfl rfl (OpJ.extract rfl rfl ?_)
 refine RunL.op rfl rfl (OpJ.extract rfl rfl ?_)
 refine RunL.op rfl rfl (OpJ.alloc Z42 fun b11 => ?_)
 refine RunL.op rfl rfl (OpJ.storeW T42 rfl rfl rfl rfl (by simp [Value.oneCell', Tg.c, Ln.c, En.c, Ac.c, Cl.c, Ky.c, Qy.c, Sb, Iv, Cs.c]) up ?_)
 refine asg rfl rfl ?_
 refine kp [1, 4, 5, 6, 7, 8, 10, 12] rfl ?_
 refine sr ?_
 refine mvo rfl rfl ?_
 refine RunL.op rfl rfl (OpJ.build B24 rfl rfl fun cs hcs => ?_)
 simp only [Tg.c, Ln.c, En.c, Ac.c, Cl.c, Ky.c, Qy.c, Cs.c, bldL, bldA, Value.cells, bs, Nat.reduceAdd, Nat.reduceLeDiff, Nat.reduceLT] at hcs; subst hcs
 refine mvo rfl rfl ?_
 refine RunL.callX C13 rfl rfl rfl (c_ResO o xsX hs (livR 42 73 b21 b22 b23 b24 R) (bpt b24) 3 (lXb b21 b22 b23) (liv_0 hR0) liv_l liv_e (fun _ => Nat.le_of_ble_eq_true rfl) 1 sa 2200 46100) tks fun ⟨rb, rd⟩ _ => ?_
 rw [resX_some ho, liv_res2]
 refine mvo rfl rfl ?_
 refine RunL.op rfl rfl (OpJ.extract rfl rfl ?_)
 refine RunL.op rfl rfl (OpJ.extract rfl rfl ?_)
 refine asg rfl rfl ?_
 refine asg rfl rfl ?_
 refine kp [5, 6, 7, 8, 10, 12, 14] rfl ?_
 refine Run.seq ?_
 refine sr ?_
 refine RunL.ownAddr (oa := ra) pk (by simp [Cl.c]) fun bs1 e1 hcap1 => ?_
 subst e1
 refine RunL.ownAddr (oa := yla) pk (by simp [Ln.c]) fun bs2 e2 hcap2 => ?_
 subst e2
 have z2 : ([⟨⟨sa, s40, sEUR, bs0, bs0⟩, -9, -9⟩, ⟨⟨sa, s50, sEUR, bs0, bs0⟩, 4, 4⟩] : List Cl).length = 2 := rfl
 have z3 : ([⟨s40, sEUR, 9, 9, bs0, bs0, a1, c1, []⟩, ⟨s50, sEUR, -4, -4, bs0, bs0, a2, c2, []⟩, ⟨s30, sEUR, -5, -5, bs0, bs0, a3, c3, []⟩] : List Ln).length = 3 := rfl
 have z4 : (⟨yno, yent, ybook, 46020, 4, yref, ywho, yrev, some ⟨bs2, 0, none⟩, ylc, [⟨s40, sEUR, 9, 9, bs0, bs0, a1, c1, []⟩, ⟨s50, sEUR, -4, -4, bs0, bs0, a2, c2, []⟩, ⟨s30, sEUR, -5, -5, bs0, bs0, a3, c3, []⟩]⟩ : En).lines.length = 3 := rfl
 refine mvo rfl rfl ?_
 refine RunL.op rfl rfl (OpJ.neq rfl rfl ?_)
 refine mvo rfl rfl ?_
 refine RunL.yes rfl rfl rfl rfl (OpJ.move rfl ?_)
 refine RunL.yes rfl rfl rfl rfl (OpJ.neq rfl rfl ?_)
 refine RunL.op rfl rfl (OpJ.pickF rfl rfl ?_)
 refine mvo rfl rfl ?_
 refine RunL.yes rfl rfl rfl rfl (OpJ.move rfl ?_)
 refine RunL.yes rfl rfl rfl rfl (OpJ.neq rfl rfl ?_)
 refine RunL.op rfl rfl (OpJ.pickF rfl rfl ?_)
 refine mvo rfl rfl ?_
 refine RunL.yes rfl rfl rfl rfl (OpJ.move rfl ?_)
 refine RunL.yes rfl rfl rfl rfl (OpJ.neq rfl rfl ?_)
 refine RunL.op rfl rfl (OpJ.pickF rfl rfl ?_)
 refine mvo rfl rfl ?_
 refine RunL.yes rfl rfl rfl rfl (OpJ.move rfl ?_)
 refine RunL.yes rfl rfl rfl rfl (OpJ.neq rfl rfl ?_)
 refine RunL.op rfl rfl (OpJ.pickF rfl rfl ?_)
 refine mvo rfl rfl ?_
 refine RunL.yes rfl rfl rfl rfl (OpJ.move rfl ?_)
 refine RunL.yes rfl rfl rfl rfl (OpJ.len S32 rfl ?_)
 refine RunL.yes rfl rfl rfl rfl (OpJ.neq rfl rfl ?_)
 refine RunL.op rfl rfl (OpJ.pickF rfl rfl ?_)
 refine mvo rfl rfl ?_
 refine RunL.yes rfl rfl rfl rfl (OpJ.fieldAddr F42_8 rfl ?_)
 first | refine RunL.yes rfl rfl rfl rfl (OpJ.loadF T40 rfl pk (by rfl) ?_) | refine RunL.yes rfl rfl rfl rfl (OpJ.loadO T40 rfl pk (by assumption) (by rfl) (by exact fun _ => rfl) ?_)
 refine RunL.yes rfl rfl rfl rfl (OpJ.len S40 rfl ?_)
 refine RunL.yes rfl rfl rfl rfl (OpJ.neq rfl rfl ?_)
 refine RunL.op rfl rfl (OpJ.pickF rfl rfl ?_)
 refine kp [5, 7, 88] rfl ?_
 refine Run.false rfl ?_
 refine Run.skip ?_
 refine sr ?_
 refine mvo rfl rfl ?_
 refine RunL.op rfl rfl (OpJ.indexAddr S32 rfl rfl (by omega) ?_)
 refine RunL.op rfl rfl (OpJ.fieldAddr F63_2 rfl ?_)
 refine RunL.op rfl rfl (OpJ.load1 inferInstance rfl pk (own.fld (enc := Cl.c) (k := 7) (xs := resL) (i := 0) (j := 6) rfl rfl (fun _ => rfl)) ?_)
 refine RunL.op rfl rfl (OpJ.eql rfl rfl ?_)
 refine mvo rfl rfl ?_
 refine RunL.yes rfl rfl rfl rfl (OpJ.move rfl ?_)
 refine RunL.yes rfl rfl rfl rfl (OpJ.indexAddr S32 rfl rfl (by omega) ?_)
 refine RunL.yes rfl rfl rfl rfl (OpJ.fieldAddr F63_2 rfl ?_)
 refine RunL.yes rfl rfl rfl rfl (OpJ.load1 inferInstance rfl pk (own.fld (enc := Cl.c) (k := 7) (xs := resL) (i := 1) (j := 6) rfl rfl (fun _ => rfl)) ?_)
 refine RunL.yes rfl rfl rfl rfl (OpJ.eql rfl rfl ?_)
 refine RunL.op rfl rfl (OpJ.pickT rfl rfl ?_)
 refine mvo rfl rfl ?_
 refine RunL.yes rfl rfl rfl rfl (OpJ.fieldAddr F42_3 rfl ?_)
 first | refine RunL.yes rfl rfl rfl rfl (OpJ.loadF T3 rfl pk (by rfl) ?_) | refine RunL.yes rfl rfl rfl rfl (OpJ.loadO T3 rfl pk (by assumption) (by rfl) (by exact fun _ => rfl) ?_)
 refine RunL.yes rfl rfl rfl rfl (OpJ.eql rfl rfl ?_)
 refine RunL.op rfl rfl (OpJ.pickT rfl rfl ?_)
 refine mvo rfl rfl ?_
 refine RunL.yes rfl rfl rfl rfl (OpJ.fieldAddr F42_4 rfl ?_)
 first | refine RunL.yes rfl rfl rfl rfl (OpJ.loadF T3 rfl pk (by rfl) ?_) | refine RunL.yes rfl rfl rfl rfl (OpJ.loadO T3 rfl pk (by assumption) (by rfl) (by exact fun _ => rfl) ?_)
 refine RunL.yes rfl rfl rfl rfl (OpJ.eql rfl rfl ?_)
 refine RunL.op rfl rfl (OpJ.pickT rfl rfl ?_)
 refine mvo rfl rfl ?_
 refine RunL.yes rfl rfl rfl rfl (OpJ.fieldAddr F42_8 rfl ?_)
 first | refine RunL.yes rfl rfl rfl rfl (OpJ.loadF T40 rfl pk (by rfl) ?_) | refine RunL.yes rfl rfl rfl rfl (OpJ.loadO T40 rfl pk (by assumption) (by rfl) (by exact fun _ => rfl) ?_)
 refine RunL.yes rfl rfl rfl rfl (OpJ.indexAddr S40 rfl rfl (by omega) ?_)
 refine RunL.yes rfl rfl rfl rfl (OpJ.fieldAddr F73_3 rfl ?_)
 refine RunL.yes rfl rfl rfl rfl (OpJ.load1 inferInstance rfl pk (own.fld (enc := Ln.c) (k := 7) (xs := [⟨s40, sEUR, 9, 9, bs0, bs0, a1, c1, []⟩, ⟨s50, sEUR, -4, -4, bs0, bs0, a2, c2, []⟩, ⟨s30, sEUR, -5, -5, bs0, bs0, a3, c3, []⟩]) (i := 0) (j := 3) rfl rfl (fun _ => rfl)) ?_)
 refine RunL.yes rfl rfl rfl rfl (OpJ.eql rfl rfl ?_)
 refine RunL.op rfl rfl (OpJ.pickT rfl rfl ?_)
 refine mvo rfl rfl ?_
 refine RunL.yes rfl rfl rfl rfl (OpJ.fieldAddr F42_8 rfl ?_)
 first | refine RunL.yes rfl rfl rfl rfl (OpJ.loadF T40 rfl pk (by rfl) ?_) | refine RunL.yes rfl rfl rfl rfl (OpJ.loadO T40 rfl pk (by assumption) (by rfl) (by exact fun _ => rfl) ?_)
 refine RunL.yes rfl rfl rfl rfl (OpJ.indexAddr S40 rfl rfl (by omega) ?_)
 refine RunL.yes rfl rfl rfl rfl (OpJ.fieldAddr F73_3 rfl ?_)
 refine RunL.yes rfl rfl rfl rfl (OpJ.load1 inferInstance rfl pk (own.fld (enc := Ln.c) (k := 7) (xs := [⟨s40, sEUR, 9, 9, bs0, bs0, a1, c1, []⟩, ⟨s50, sEUR, -4, -4, bs0, bs0, a2, c2, []⟩, ⟨s30, sEUR, -5, -5, bs0, bs0, a3, c3, []⟩]) (i := 1) (j := 3) rfl rfl (fun _ => rfl)) ?_)
 refine RunL.yes rfl rfl rfl rfl (OpJ.eql rfl rfl ?_)
 refine RunL.op rfl rfl (OpJ.pickT rfl rfl ?_)
 refine mvo rfl rfl ?_
 refine RunL.yes rfl rfl rfl rfl (OpJ.fieldAddr F42_8 rfl ?_)
 first | refine RunL.yes rfl rfl rfl rfl (OpJ.loadF T40 rfl pk (by rfl) ?_) | refine RunL.yes rfl rfl rfl rfl (OpJ.loadO T40 rfl pk (by assumption) (by rfl) (by exact fun _ => rfl) ?_)
 refine RunL.yes rfl rfl rfl rfl (OpJ.indexAddr S40 rfl rfl (by omega) ?_)
 refine RunL.yes rfl rfl rfl rfl (OpJ.fieldAddr F73_0 rfl ?_)
 refine RunL.yes rfl rfl rfl rfl (OpJ.load1 inferInstance rfl pk (own.fld (enc := Ln.c) (k := 7) (xs := [⟨s40, sEUR, 9, 9, bs0, bs0, a1, c1, []⟩, ⟨s50, sEUR, -4, -4, bs0, bs0, a2, c2, []⟩, ⟨s30, sEUR, -5, -5, bs0, bs0, a3, c3, []⟩]) (i := 2) (j := 0) rfl rfl (fun _ => rfl)) ?_)
 refine RunL.yes rfl rfl rfl rfl (OpJ.eqlS rfl rfl ?_)
 refine RunL.op rfl rfl (OpJ.pickT rfl rfl ?_)
 refine mvo rfl rfl ?_
 refine RunL.yes rfl rfl rfl rfl (OpJ.fieldAddr F42_8 rfl ?_)
 first | refine RunL.yes rfl rfl rfl rfl (OpJ.loadF T40 rfl pk (by rfl) ?_) | refine RunL.yes rfl rfl rfl rfl (OpJ.loadO T40 rfl pk (by assumption) (by rfl) (by exact fun _ => rfl) ?_)
 refine RunL.yes rfl rfl rfl rfl (OpJ.indexAddr S40 rfl rfl (by omega) ?_)
 refine RunL.yes rfl rfl rfl rfl (OpJ.fieldAddr F73_3 rfl ?_)
 refine RunL.yes rfl rfl rfl rfl (OpJ.load1 inferInstance rfl pk (own.fld (enc := Ln.c) (k := 7) (xs := [⟨s40, sEUR, 9, 9, bs0, bs0, a1, c1, []⟩, ⟨s50, sEUR, -4, -4, bs0, bs0, a2, c2, []⟩, ⟨s30, sEUR, -5, -5, bs0, bs0, a3, c3, []⟩]) (i := 2) (j := 3) rfl rfl (fun _ => rfl)) ?_)
 refine RunL.yes rfl rfl rfl rfl (OpJ.eql rfl rfl ?_)
 refine RunL.op rfl rfl (OpJ.pickT rfl rfl ?_)
 refine RunL.unstar (As := [pt b24 (blk ((lXb b21 b22 b23).flatMap En.c) 42), pt b23 (blk (lineX s40 100) 73), pt b22 (blk (lineX s50 (-4)) 73), pt b21 (blk (lineX s40 9) 73), R]) pk ?_
 refine asg rfl rfl ?_
 refine kp [0] rfl ?_
 refine Run.ret ?_
 exact ret_one (.tmp rfl .nil) (rfl) gv
end
end Go.Proofs.YtglaahpagjjmoaaGreatDoor
