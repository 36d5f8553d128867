/- Laws of the walks and of the models, part 5 (merged by program). -/
import Derived.Test.YtglaahpagjjmoaaGreatDoorD4
set_option linter.unusedVariables false
set_option linter.unusedSimpArgs false
set_option maxRecDepth 20000
set_option maxHeartbeats 4000000
namespace Go.Proofs.YtglaahpagjjmoaaGreatDoor
open Go Go.SL Go.Proofs
section
attribute [local irreducible] OpJ RunL Run RunD DetJ pt own star Rd RdS
theorem c_rCode (s : ByteArray) (hs : (s.size : Int) ≤ 9223372036854775807) : AC Tryz.prog 107 ⟨[St s]⟩ (stars []) (Ret (Bo (codeB s)) []) := by
 refine AC.go Tryz.func107 rfl (Nat.le_of_ble_eq_true rfl) fun β => ?_
 refine sr ?_
 refine asg rfl rfl ?_
 refine kp [0] rfl ?_
 refine Run.seq ?_
 refine sr ?_
 refine asg rfl rfl ?_
 refine kp [0, 3] rfl ?_
 refine Run.block ?_
 refine Run.loop (fun mm E L => ∃ i : Nat, mm = s.size - i ∧ i ≤ s.size ∧ (∀ (j : Nat) u, j < i → s[j]? = some u → byteOk u = true) ∧ E = [(0, St s), (3, I i)] ∧ L = []) ⟨_, 0, rfl, Nat.zero_le _, fun _ _ h => by omega, rfl, rfl⟩ ?_
 rintro _ _ _ ⟨i, rfl, hi, hI0, rfl, rfl⟩
 refine Run.seq ?_
 refine sr ?_
 refine sx 4 ?_
 refine kp [0, 3, 8] rfl ?_
 first | refine Run.if rfl (fun h1 => ?_) (fun h1 => ?_) | refine Run.cond rfl (fun h1 => ?_) (fun h1 => ?_)
 refine Run.skip ?_
 refine Run.seq ?_
 refine Run.block ?_
 refine sr ?_
 obtain ⟨u, hu⟩ := byte_ex (s := s) (i := i) (by omega)
 refine sx 2 ?_
 refine RunL.op rfl rfl (OpJ.indexS U9 rfl rfl (by omega) hu ?_)
 refine asg rfl rfl ?_
 refine kp [0, 3, 4] rfl ?_
 refine sr ?_
 refine RunL.cut (t := 40) (v := Bo (!byteOk u)) (kt (ks := [0, 3]) rfl) ?_ ?_
 refine sx 3 ?_
 first | refine RunL.splitP (t := 16) rfl (fun g2 => ?_) (fun g2 => ?_) | refine RunL.split (t := 16) rfl (fun g2 => ?_) (fun g2 => ?_)
 refine sx 4 ?_
 first | refine RunL.splitP (t := 20) rfl (fun g3 => ?_) (fun g3 => ?_) | refine RunL.split (t := 20) rfl (fun g3 => ?_) (fun g3 => ?_)
 refine sx 20 ?_
 exact RunL.nil ⟨.cons (by first | rfl | (show some (Value.bool _) = some (Value.bool _); congr 2; unfold byteOk letterB digitB; rw [Bool.eq_iff_iff]; simp; omega) | (show some (Value.bool _) = some (Value.bool _); simp_all)) (kt (ks := [0, 3]) rfl), rfl⟩
 refine sx 3 ?_
 first | refine RunL.splitP (t := 23) rfl (fun g4 => ?_) (fun g4 => ?_) | refine RunL.split (t := 23) rfl (fun g4 => ?_) (fun g4 => ?_)
 refine sx 5 ?_
 first | refine RunL.splitP (t := 28) rfl (fun g5 => ?_) (fun g5 => ?_) | refine RunL.split (t := 28) rfl (fun g5 => ?_) (fun g5 => ?_)
 refine sx 12 ?_
 exact RunL.nil ⟨.cons (by first | rfl | (show some (Value.bool _) = some (Value.bool _); congr 2; unfold byteOk letterB digitB; rw [Bool.eq_iff_iff]; simp; omega) | (show some (Value.bool _) = some (Value.bool _); simp_all)) (kt (ks := [0, 3]) rfl), rfl⟩
 refine sx 3 ?_
 first | refine RunL.splitP (t := 31) rfl (fun g6 => ?_) (fun g6 => ?_) | refine RunL.split (t := 31) rfl (fun g6 => ?_) (fun g6 => ?_)
 refine sx 5 ?_
 first | refine RunL.splitP (t := 36) rfl (fun g7 => ?_) (fun g7 => ?_) | refine RunL.split (t := 36) rfl (fun g7 => ?_) (fun g7 => ?_)
 refine sx 4 ?_
 exact RunL.nil ⟨.cons (by first | rfl | (show some (Value.bool _) = some (Value.bool _); congr 2; unfold byteOk letterB digitB; rw [Bool.eq_iff_iff]; simp; omega) | (show some (Value.bool _) = some (Value.bool _); simp_all)) (kt (ks := [0, 3]) rfl), rfl⟩
 refine sx 4 ?_
 exact RunL.nil ⟨.cons (by first | rfl | (show some (Value.bool _) = some (Value.bool _); congr 2; unfold byteOk letterB digitB; rw [Bool.eq_iff_iff]; simp; omega) | (show some (Value.bool _) = some (Value.bool _); simp_all)) (kt (ks := [0, 3]) rfl), rfl⟩
 refine sx 9 ?_
 exact RunL.nil ⟨.cons (by first | rfl | (show some (Value.bool _) = some (Value.bool _); congr 2; unfold byteOk letterB digitB; rw [Bool.eq_iff_iff]; simp; omega) | (show some (Value.bool _) = some (Value.bool _); simp_all)) (kt (ks := [0, 3]) rfl), rfl⟩
 refine sx 8 ?_
 first | refine RunL.splitP (t := 31) rfl (fun g8 => ?_) (fun g8 => ?_) | refine RunL.split (t := 31) rfl (fun g8 => ?_) (fun g8 => ?_)
 refine sx 5 ?_
 first | refine RunL.splitP (t := 36) rfl (fun g9 => ?_) (fun g9 => ?_) | refine RunL.split (t := 36) rfl (fun g9 => ?_) (fun g9 => ?_)
 refine sx 4 ?_
 exact RunL.nil ⟨.cons (by first | rfl | (show some (Value.bool _) = some (Value.bool _); congr 2; unfold byteOk letterB digitB; rw [Bool.eq_iff_iff]; simp; omega) | (show some (Value.bool _) = some (Value.bool _); simp_all)) (kt (ks := [0, 3]) rfl), rfl⟩
 refine sx 4 ?_
 exact RunL.nil ⟨.cons (by first | rfl | (show some (Value.bool _) = some (Value.bool _); congr 2; unfold byteOk letterB digitB; rw [Bool.eq_iff_iff]; simp; omega) | (show some (Value.bool _) = some (Value.bool _); simp_all)) (kt (ks := [0, 3]) rfl), rfl⟩
 refine sx 9 ?_
 exact RunL.nil ⟨.cons (by first | rfl | (show some (Value.bool _) = some (Value.bool _); congr 2; unfold byteOk letterB digitB; rw [Bool.eq_iff_iff]; simp; omega) | (show some (Value.bool _) = some (Value.bool _); simp_all)) (kt (ks := [0, 3]) rfl), rfl⟩
 refine sx 7 ?_
 first | refine RunL.splitP (t := 23) rfl (fun g10 => ?_) (fun g10 => ?_) | refine RunL.split (t := 23) rfl (fun g10 => ?_) (fun g10 => ?_)
 refine sx 5 ?_
 first | refine RunL.splitP (t := 28) rfl (fun g11 => ?_) (fun g11 => ?_) | refine RunL.split (t := 28) rfl (fun g11 => ?_) (fun g11 => ?_)
 refine sx 12 ?_
 exact RunL.nil ⟨.cons (by first | rfl | (show some (Value.bool _) = some (Value.bool _); congr 2; unfold byteOk letterB digitB; rw [Bool.eq_iff_iff]; simp; omega) | (show some (Value.bool _) = some (Value.bool _); simp_all)) (kt (ks := [0, 3]) rfl), rfl⟩
 refine sx 3 ?_
 first | refine RunL.splitP (t := 31) rfl (fun g12 => ?_) (fun g12 => ?_) | refine RunL.split (t := 31) rfl (fun g12 => ?_) (fun g12 => ?_)
 refine sx 5 ?_
 first | refine RunL.splitP (t := 36) rfl (fun g13 => ?_) (fun g13 => ?_) | refine RunL.split (t := 36) rfl (fun g13 => ?_) (fun g13 => ?_)
 refine sx 4 ?_
 exact RunL.nil ⟨.cons (by first | rfl | (show some (Value.bool _) = some (Value.bool _); congr 2; unfold byteOk letterB digitB; rw [Bool.eq_iff_iff]; simp; omega) | (show some (Value.bool _) = some (Value.bool _); simp_all)) (kt (ks := [0, 3]) rfl), rfl⟩
 refine sx 4 ?_
 exact RunL.nil ⟨.cons (by first | rfl | (show some (Value.bool _) = some (Value.bool _); congr 2; unfold byteOk letterB digitB; rw [Bool.eq_iff_iff]; simp; omega) | (show some (Value.bool _) = some (Value.bool _); simp_all)) (kt (ks := [0, 3]) rfl), rfl⟩
 refine sx 9 ?_
 exact RunL.nil ⟨.cons (by first | rfl | (show some (Value.bool _) = some (Value.bool _); congr 2; unfold byteOk letterB digitB; rw [Bool.eq_iff_iff]; simp; omega) | (show some (Value.bool _) = some (Value.bool _); simp_all)) (kt (ks := [0, 3]) rfl), rfl⟩
 refine sx 8 ?_
 first | refine RunL.splitP (t := 31) rfl (fun g14 => ?_) (fun g14 => ?_) | refine RunL.split (t := 31) rfl (fun g14 => ?_) (fun g14 => ?_)
 refine sx 5 ?_
 first | refine RunL.splitP (t := 36) rfl (fun g15 => ?_) (fun g15 => ?_) | refine RunL.split (t := 36) rfl (fun g15 => ?_) (fun g15 => ?_)
 refine sx 4 ?_
 exact RunL.nil ⟨.cons (by first | rfl | (show some (Value.bool _) = some (Value.bool _); congr 2; unfold byteOk letterB digitB; rw [Bool.eq_iff_iff]; simp; omega) | (show some (Value.bool _) = some (Value.bool _); simp_all)) (kt (ks := [0, 3]) rfl), rfl⟩
 refine sx 4 ?_
 exact RunL.nil ⟨.cons (by first | rfl | (show some (Value.bool _) = some (Value.bool _); congr 2; unfold byteOk letterB digitB; rw [Bool.eq_iff_iff]; simp; omega) | (show some (Value.bool _) = some (Value.bool _); simp_all)) (kt (ks := [0, 3]) rfl), rfl⟩
 refine sx 9 ?_
 exact RunL.nil ⟨.cons (by first | rfl | (show some (Value.bool _) = some (Value.bool _); congr 2; unfold byteOk letterB digitB; rw [Bool.eq_iff_iff]; simp; omega) | (show some (Value.bool _) = some (Value.bool _); simp_all)) (kt (ks := [0, 3]) rfl), rfl⟩
 first | refine Run.if rfl (fun h16 => ?_) (fun h16 => ?_) | refine Run.cond rfl (fun h16 => ?_) (fun h16 => ?_)
 refine sr ?_
 refine asg rfl rfl ?_
 refine kp [2] rfl ?_
 refine Run.ret ?_
 first | exact ret_one (.tmp rfl .nil) (by unfold codeB; rw [everyB_false hu (by simp_all), Bool.and_false]; rfl) gv | exact ret_one (.tmp rfl .nil) (by have he := everyB_true fun j u hj hu => hI0 j u (by omega) hu; unfold codeB; rw [he, Bool.and_true]; show Value.bool _ = Value.bool _; congr 1; rw [Bool.eq_iff_iff]; simp_all) gv
 refine Run.skip ?_
 refine Run.region ?_
 refine sx 3 ?_
 exact RunL.next (Keep.sub (kt (ks := [0, 3]) rfl)) _ ⟨_, by omega, i + 1, rfl, by omega, (fun j v hj hv => by { by_cases e : j = i; (subst e; rw [hu] at hv; cases hv; simp_all); exact hI0 j v (by omega) hv }), rfl, rfl⟩ gv
 refine Run.exit ?_
 refine sr ?_
 refine sx 3 ?_
 first | refine RunL.splitP (t := 43) rfl (fun g17 => ?_) (fun g17 => ?_) | refine RunL.split (t := 43) rfl (fun g17 => ?_) (fun g17 => ?_)
 refine sx 5 ?_
 refine kp [2] rfl ?_
 refine Run.ret ?_
 first | exact ret_one (.tmp rfl .nil) (by unfold codeB; rw [everyB_false hu (by simp_all), Bool.and_false]; rfl) gv | exact ret_one (.tmp rfl .nil) (by have he := everyB_true fun j u hj hu => hI0 j u (by omega) hu; unfold codeB; rw [he, Bool.and_true]; show Value.bool _ = Value.bool _; congr 1; rw [Bool.eq_iff_iff]; simp_all) gv
 refine sx 5 ?_
 refine kp [2] rfl ?_
 refine Run.ret ?_
 first | exact ret_one (.tmp rfl .nil) (by unfold codeB; rw [everyB_false hu (by simp_all), Bool.and_false]; rfl) gv | exact ret_one (.tmp rfl .nil) (by have he := everyB_true fun j u hj hu => hI0 j u (by omega) hu; unfold codeB; rw [he, Bool.and_true]; show Value.bool _ = Value.bool _; congr 1; rw [Bool.eq_iff_iff]; simp_all) gv
theorem c_rFind (R : HP) (oa : Option Addr) (cap : Nat) (xs : List Ac) (hR : RdS R oa (xs.flatMap Ac.c)) (hl : xs.length ≤ 140737488355328) (c : ByteArray) : AC Tryz.prog 76 ⟨[.slice oa xs.length cap, St c]⟩ (stars [R]) (Ret (I (findX xs c)) [R]) := by
 refine AC.go Tryz.func76 rfl (Nat.le_of_ble_eq_true rfl) fun β => ?_
 refine sr ?_
 refine asg rfl rfl ?_
 refine kp [0, 1] rfl ?_
 refine Run.seq ?_
 refine sr ?_
 refine asg rfl rfl ?_
 refine kp [0, 1, 5] rfl ?_
 refine Run.block ?_
 refine Run.loop (fun mm E L => ∃ i : Nat, mm = xs.length - i ∧ i ≤ xs.length ∧ noTo xs c i ∧ E = [(0, .slice oa xs.length cap), (1, St c), (5, I i)] ∧ L = [R]) ⟨_, 0, rfl, Nat.zero_le _, noTo.zero, rfl, rfl⟩ ?_
 rintro _ _ _ ⟨i, rfl, hi, hI0, rfl, rfl⟩
 refine Run.seq ?_
 refine sr ?_
 refine sx 4 ?_
 refine kp [0, 1, 5, 9] rfl ?_
 first | refine Run.if rfl (fun h1 => ?_) (fun h1 => ?_) | refine Run.cond rfl (fun h1 => ?_) (fun h1 => ?_)
 refine Run.skip ?_
 refine Run.seq ?_
 refine Run.block ?_
 refine sr ?_
 obtain ⟨a, hx⟩ := get_ex (xs := xs) (i := i) (by omega)
 refine RunL.rdOpen pk hR (flat_ne (k := 8) (fun _ => rfl) (by decide) hx) fun b o eb hrd => ?_
 subst eb
 refine sx 4 ?_
 refine RunL.op rfl rfl (OpJ.load1 inferInstance rfl pk (hrd.at (enc := Ac.c) 8 (fun _ => rfl) hx 0 (St a.code) rfl) ?_)
 refine sx 2 ?_
 refine kp [0, 1, 5, 18] rfl ?_
 first | refine Run.if rfl (fun h2 => ?_) (fun h2 => ?_) | refine Run.cond rfl (fun h2 => ?_) (fun h2 => ?_)
 refine sr ?_
 refine sx 2 ?_
 refine kp [4] rfl ?_
 refine Run.ret ?_
 exact ret_one (.tmp rfl .nil) (congrArg I (find_at hI0 hx (by simpa using h2)).symm) gv
 refine Run.skip ?_
 refine Run.region ?_
 refine sx 3 ?_
 exact RunL.next (Keep.sub (kt (ks := [0, 1, 5]) rfl)) _ ⟨_, by omega, i + 1, rfl, by omega, hI0.step hx (by simpa using h2), rfl, rfl⟩ gv
 refine Run.exit ?_
 refine sr ?_
 refine asg rfl rfl ?_
 refine kp [4] rfl ?_
 refine Run.ret ?_
 exact ret_one (.tmp rfl .nil) (congrArg I (find_all hI0 (by omega)).symm) gv
theorem c_rAnc (R : HP) (oa : Option Addr) (cap : Nat) (xs : List Ac) (hR : RdS R oa (xs.flatMap Ac.c)) (hl : xs.length ≤ 140737488355328) (h4 : xs.length ≤ 400) (up c : ByteArray) : AC Tryz.prog 109 ⟨[.slice oa xs.length cap, St up, St c]⟩ (stars [R]) (Ret (Bo (ancN xs up xs.length c)) [R]) := by
 refine AC.go Tryz.func109 rfl (Nat.le_of_ble_eq_true rfl) fun β => ?_
 refine sr ?_
 refine asg rfl rfl ?_
 refine kp [0, 1, 2] rfl ?_
 refine sr ?_
 refine sx 2 ?_
 refine RunL.call C76 rfl rfl rfl (c_rFind R _ _ _ hR (by omega) _) tks ?_
 refine asg rfl rfl ?_
 refine kp [0, 1, 7] rfl ?_
 refine Run.seq ?_
 refine sr ?_
 refine asg rfl rfl ?_
 refine kp [0, 1, 7, 8] rfl ?_
 refine Run.block ?_
 refine Run.loop (fun mm E L => ∃ (k : Nat) (d : ByteArray), mm = xs.length - k ∧ k ≤ xs.length ∧ ancN xs up xs.length c = ancN xs up (xs.length - k) d ∧ E = [(0, .slice oa xs.length cap), (1, St up), (7, I (findX xs d)), (8, I k)] ∧ L = [R]) ⟨_, 0, c, rfl, Nat.zero_le _, rfl, rfl, rfl⟩ ?_
 rintro _ _ _ ⟨k, d, rfl, hkl, hI0, rfl, rfl⟩
 refine Run.seq ?_
 refine sr ?_
 refine sx 5 ?_
 by_cases hkk : k < xs.length
 refine RunL.set (congrArg Bo (decide_eq_true (by omega))) ?_
 refine sx 4 ?_
 rcases find_or xs d with ⟨hf, hg⟩ | ⟨q, a, hf, hx, hc, hg⟩
 refine RunL.set (v := Bo false) (by rw [hf]; rfl) ?_
 refine sx 7 ?_
 refine kp [0, 1, 7, 8, 27] rfl ?_
 refine Run.false rfl ?_
 refine Run.exit ?_
 refine sr ?_
 refine asg rfl rfl ?_
 refine kp [6] rfl ?_
 refine Run.ret ?_
 first | exact ret_one (.tmp rfl .nil) (by obtain ⟨n, hn⟩ : ∃ n, xs.length - k = n + 1 := ⟨xs.length - k - 1, by omega⟩; rw [hI0, hn, anc_hit hg (by simp_all) (by simp_all)]; rfl) gv | exact ret_one (.tmp rfl .nil) (by rw [hI0, show xs.length - k = 0 by omega]; rfl) gv | exact ret_one (.tmp rfl .nil) (by rw [hI0, anc_none hg]; rfl) gv | exact ret_one (.tmp rfl .nil) (by rw [hI0, anc_root hg (by simp_all)]; rfl) gv
 rw [hf]
 refine RunL.set (v := Bo true) (by simp) ?_
 refine RunL.rdOpen pk hR (flat_ne (k := 8) (fun _ => rfl) (by decide) hx) fun b o eb hrd => ?_
 subst eb
 have hql := (List.getElem?_eq_some_iff.1 hx).1
 refine sx 4 ?_
 refine RunL.yes rfl rfl rfl rfl (OpJ.load1 inferInstance rfl pk (hrd.at (enc := Ac.c) 8 (fun _ => rfl) hx 1 (St a.parent) rfl) ?_)
 refine sx 2 ?_
 refine kp [0, 1, 7, 8, 27] rfl ?_
 first | refine Run.if rfl (fun h1 => ?_) (fun h1 => ?_) | refine Run.cond rfl (fun h1 => ?_) (fun h1 => ?_)
 refine Run.skip ?_
 refine Run.seq ?_
 refine Run.block ?_
 refine Run.seq ?_
 refine sr ?_
 refine sx 4 ?_
 refine RunL.op rfl rfl (OpJ.load1 inferInstance rfl pk (hrd.at (enc := Ac.c) 8 (fun _ => rfl) hx 1 (St a.parent) rfl) ?_)
 refine sx 2 ?_
 refine kp [0, 1, 7, 8, 36] rfl ?_
 first | refine Run.if rfl (fun h2 => ?_) (fun h2 => ?_) | refine Run.cond rfl (fun h2 => ?_) (fun h2 => ?_)
 refine sr ?_
 refine asg rfl rfl ?_
 refine kp [6] rfl ?_
 refine Run.ret ?_
 first | exact ret_one (.tmp rfl .nil) (by obtain ⟨n, hn⟩ : ∃ n, xs.length - k = n + 1 := ⟨xs.length - k - 1, by omega⟩; rw [hI0, hn, anc_hit hg (by simp_all) (by simp_all)]; rfl) gv | exact ret_one (.tmp rfl .nil) (by rw [hI0, show xs.length - k = 0 by omega]; rfl) gv | exact ret_one (.tmp rfl .nil) (by rw [hI0, anc_none hg]; rfl) gv | exact ret_one (.tmp rfl .nil) (by rw [hI0, anc_root hg (by simp_all)]; rfl) gv
 refine Run.skip ?_
 refine Run.region ?_
 refine sx 5 ?_
 refine RunL.op rfl rfl (OpJ.load1 inferInstance rfl pk (hrd.at (enc := Ac.c) 8 (fun _ => rfl) hx 1 (St a.parent) rfl) ?_)
 refine RunL.call C76 rfl rfl rfl (c_rFind R _ _ _ hR (by omega) _) tks ?_
 refine asg rfl rfl ?_
 refine kp [0, 1, 7, 8] rfl ?_
 refine Run.region ?_
 refine sx 3 ?_
 obtain ⟨n, hn⟩ : ∃ n, xs.length - k = n + 1 := ⟨xs.length - k - 1, by omega⟩
 exact RunL.next (Keep.sub (kt (ks := [0, 1, 7, 8]) rfl)) _ ⟨_, by omega, k + 1, a.parent, rfl, by omega, (by rw [hI0, hn, anc_step hg (by simp_all) (by simp_all), show xs.length - (k + 1) = n by omega]), rfl, rfl⟩ gv
 refine Run.exit ?_
 refine sr ?_
 refine asg rfl rfl ?_
 refine kp [6] rfl ?_
 refine Run.ret ?_
 first | exact ret_one (.tmp rfl .nil) (by obtain ⟨n, hn⟩ : ∃ n, xs.length - k = n + 1 := ⟨xs.length - k - 1, by omega⟩; rw [hI0, hn, anc_hit hg (by simp_all) (by simp_all)]; rfl) gv | exact ret_one (.tmp rfl .nil) (by rw [hI0, show xs.length - k = 0 by omega]; rfl) gv | exact ret_one (.tmp rfl .nil) (by rw [hI0, anc_none hg]; rfl) gv | exact ret_one (.tmp rfl .nil) (by rw [hI0, anc_root hg (by simp_all)]; rfl) gv
 refine RunL.set (congrArg Bo (decide_eq_false (by omega))) ?_
 refine sx 11 ?_
 refine kp [0, 1, 7, 8, 27] rfl ?_
 refine Run.false rfl ?_
 refine Run.exit ?_
 refine sr ?_
 refine asg rfl rfl ?_
 refine kp [6] rfl ?_
 refine Run.ret ?_
 first | exact ret_one (.tmp rfl .nil) (by obtain ⟨n, hn⟩ : ∃ n, xs.length - k = n + 1 := ⟨xs.length - k - 1, by omega⟩; rw [hI0, hn, anc_hit hg (by simp_all) (by simp_all)]; rfl) gv | exact ret_one (.tmp rfl .nil) (by rw [hI0, show xs.length - k = 0 by omega]; rfl) gv | exact ret_one (.tmp rfl .nil) (by rw [hI0, anc_none hg]; rfl) gv | exact ret_one (.tmp rfl .nil) (by rw [hI0, anc_root hg (by simp_all)]; rfl) gv
theorem c_r7 (s : ByteArray) : AC Tryz.prog 108 ⟨[St s]⟩ (stars []) (Ret (Bo (curB s)) []) := by
 refine AC.go Tryz.func108 rfl (Nat.le_of_ble_eq_true rfl) fun β => ?_
 refine sr ?_
 refine asg rfl rfl ?_
 refine kp [0] rfl ?_
 refine Run.seq ?_
 refine sr ?_
 refine sx 3 ?_
 refine kp [0, 6] rfl ?_
 first | refine Run.if rfl (fun h1 => ?_) (fun h1 => ?_) | refine Run.cond rfl (fun h1 => ?_) (fun h1 => ?_)
 refine sr ?_
 refine asg rfl rfl ?_
 refine kp [2] rfl ?_
 refine Run.ret ?_
 first | exact ret_one (.tmp rfl .nil) (by unfold curB; rw [decide_eq_false (by omega)]; rfl) gv | exact ret_one (.tmp rfl .nil) (by unfold curB; rw [all_false hu (by unfold capB; rw [decide_eq_false_iff_not]; omega), Bool.and_false]; rfl) gv | exact ret_one (.tmp rfl .nil) (by unfold curB; rw [all_true fun j u hj hu => hI0 j u (by omega) hu, decide_eq_true (by omega)]; rfl) gv
 refine Run.skip ?_
 refine Run.seq ?_
 refine sr ?_
 refine asg rfl rfl ?_
 refine kp [0, 3] rfl ?_
 refine Run.block ?_
 refine Run.loop (fun mm E L => ∃ i : Nat, mm = 3 - i ∧ i ≤ 3 ∧ (∀ (j : Nat) u, j < i → s[j]? = some u → capB u = true) ∧ E = [(0, St s), (3, I i)] ∧ L = []) ⟨_, 0, rfl, Nat.zero_le _, fun _ _ h => by omega, rfl, rfl⟩ ?_
 rintro _ _ _ ⟨i, rfl, hi, hI0, rfl, rfl⟩
 refine Run.seq ?_
 refine sr ?_
 refine sx 2 ?_
 refine kp [0, 3, 8] rfl ?_
 first | refine Run.if rfl (fun h2 => ?_) (fun h2 => ?_) | refine Run.cond rfl (fun h2 => ?_) (fun h2 => ?_)
 refine Run.skip ?_
 refine Run.seq ?_
 refine Run.block ?_
 refine sr ?_
 obtain ⟨u, hu⟩ := byte_ex (s := s) (i := i) (by omega)
 refine sx 2 ?_
 refine RunL.op rfl rfl (OpJ.indexS U9 rfl rfl (by omega) hu ?_)
 refine sx 2 ?_
 by_cases hn : (u.toNat : Int) < 65
 refine RunL.set (congrArg Bo (decide_eq_true hn)) ?_
 refine sx 5 ?_
 refine kp [0, 3, 20] rfl ?_
 refine Run.true rfl ?_
 refine sr ?_
 refine asg rfl rfl ?_
 refine kp [2] rfl ?_
 refine Run.ret ?_
 first | exact ret_one (.tmp rfl .nil) (by unfold curB; rw [decide_eq_false (by omega)]; rfl) gv | exact ret_one (.tmp rfl .nil) (by unfold curB; rw [all_false hu (by unfold capB; rw [decide_eq_false_iff_not]; omega), Bool.and_false]; rfl) gv | exact ret_one (.tmp rfl .nil) (by unfold curB; rw [all_true fun j u hj hu => hI0 j u (by omega) hu, decide_eq_true (by omega)]; rfl) gv
 refine RunL.set (congrArg Bo (decide_eq_false hn)) ?_
 refine sx 2 ?_
 refine RunL.yes rfl rfl rfl rfl (OpJ.indexS U9 rfl rfl (by omega) hu ?_)
 refine sx 2 ?_
 refine kp [0, 3, 20] rfl ?_
 first | refine Run.if rfl (fun h3 => ?_) (fun h3 => ?_) | refine Run.cond rfl (fun h3 => ?_) (fun h3 => ?_)
 refine sr ?_
 refine asg rfl rfl ?_
 refine kp [2] rfl ?_
 refine Run.ret ?_
 first | exact ret_one (.tmp rfl .nil) (by unfold curB; rw [decide_eq_false (by omega)]; rfl) gv | exact ret_one (.tmp rfl .nil) (by unfold curB; rw [all_false hu (by unfold capB; rw [decide_eq_false_iff_not]; omega), Bool.and_false]; rfl) gv | exact ret_one (.tmp rfl .nil) (by unfold curB; rw [all_true fun j u hj hu => hI0 j u (by omega) hu, decide_eq_true (by omega)]; rfl) gv
 refine Run.skip ?_
 refine Run.region ?_
 refine sx 3 ?_
 exact RunL.next (Keep.sub (kt (ks := [0, 3]) rfl)) _ ⟨_, by omega, i + 1, rfl, by omega, (fun j v hj hv => by { by_cases e : j = i; (subst e; rw [hu] at hv; cases hv; unfold capB; rw [decide_eq_true_eq]; omega); exact hI0 j v (by omega) hv }), rfl, rfl⟩ gv
 refine Run.exit ?_
 refine sr ?_
 refine asg rfl rfl ?_
 refine kp [2] rfl ?_
 refine Run.ret ?_
 first | exact ret_one (.tmp rfl .nil) (by unfold curB; rw [decide_eq_false (by omega)]; rfl) gv | exact ret_one (.tmp rfl .nil) (by unfold curB; rw [all_false hu (by unfold capB; rw [decide_eq_false_iff_not]; omega), Bool.and_false]; rfl) gv | exact ret_one (.tmp rfl .nil) (by unfold curB; rw [all_true fun j u hj hu => hI0 j u (by omega) hu, decide_eq_true (by omega)]; rfl) gv
theorem c_rAlone (R : HP) (b o cap : Nat) (xs : List Ac) (hrd : Rd R ⟨b, o, none⟩ (xs.flatMap Ac.c)) (hl : xs.length ≤ 140737488355328) (i : Nat) (a : Ac) (hx : xs[i]? = some a) (hA : a.rd R) (hz : a.sz) : AC Tryz.prog 64 ⟨[.slice (some ⟨b, o, none⟩) xs.length cap, I i]⟩ (stars [R]) (Outs (fun e : Int => e = 0 → aloneB (xs.take i) a = true) (fun e => I e) (fun _ => [R])) := by
 have hil := (List.getElem?_eq_some_iff.1 hx).1
 obtain ⟨z1, z2, z3, z4⟩ := hz
 obtain ⟨hA1, hA2, hA3⟩ := hA
 refine AC.go Tryz.func64 rfl (Nat.le_of_ble_eq_true rfl) fun β => ?_
 refine sr ?_
 refine asg rfl rfl ?_
 refine kp [0, 1] rfl ?_
 refine sr ?_
 refine sx 3 ?_
 refine RunL.op rfl rfl (OpJ.loadA inferInstance rfl pk (hrd.elem (fun _ => rfl) hx) rfl ?_)
 refine RunL.op rfl rfl (OpJ.alloc Z57 fun b5 => ?_)
 refine RunL.op rfl rfl (OpJ.storeW T57 rfl rfl rfl rfl (by simp [Value.oneCell', Tg.c, Ln.c, En.c, Ac.c, Cl.c, Ky.c, Qy.c, Sb, Iv, Cs.c]) up ?_)
 refine kp [0, 1, 5] rfl ?_
 refine Run.seq ?_
 refine sr ?_
 refine RunL.cut (t := 26) (v := Bo (!codeB a.code || (decide (a.parent ≠ bs0) && !codeB a.parent))) (kt (ks := [0, 1, 5]) rfl) ?_ ?_
 refine sx 2 ?_
 refine RunL.call C107 rfl rfl rfl (c_rCode _ (by assumption)) .nil ?_
 refine sx 2 ?_
 first | refine RunL.splitP (t := 16) rfl (fun g1 => ?_) (fun g1 => ?_) | refine RunL.split (t := 16) rfl (fun g1 => ?_) (fun g1 => ?_)
 refine sx 10 ?_
 exact RunL.nil ⟨.cons (by first | rfl | (show some (Value.bool _) = some (Value.bool _); simp_all)) (kt (ks := [0, 1, 5]) rfl), rfl⟩
 refine sx 4 ?_
 first | refine RunL.splitP (t := 20) rfl (fun g2 => ?_) (fun g2 => ?_) | refine RunL.split (t := 20) rfl (fun g2 => ?_) (fun g2 => ?_)
 refine sx 2 ?_
 refine RunL.callG C107 rfl rfl rfl rfl rfl (c_rCode _ (by assumption)) .nil ?_
 refine sx 3 ?_
 exact RunL.nil ⟨.cons (by first | rfl | (show some (Value.bool _) = some (Value.bool _); simp_all)) (kt (ks := [0, 1, 5]) rfl), rfl⟩
 refine sx 6 ?_
 exact RunL.nil ⟨.cons (by first | rfl | (show some (Value.bool _) = some (Value.bool _); simp_all)) (kt (ks := [0, 1, 5]) rfl), rfl⟩
 first | refine Run.if rfl (fun h3 => ?_) (fun h3 => ?_) | refine Run.cond rfl (fun h3 => ?_) (fun h3 => ?_)
 refine sr ?_
 refine asg rfl rfl ?_
 refine kp [4] rfl ?_
 refine Run.ret ?_
 first | exact ret_out 7 (.tmp rfl .nil) (fun h => absurd h (by decide)) rfl gv | exact ret_out 10 (.tmp rfl .nil) (fun h => absurd h (by decide)) rfl gv | exact ret_out 13 (.tmp rfl .nil) (fun h => absurd h (by decide)) rfl gv | exact ret_out 8 (.tmp rfl .nil) (fun h => absurd h (by decide)) rfl gv | exact ret_out 14 (.tmp rfl .nil) (fun h => absurd h (by decide)) rfl gv | exact ret_out 0 (.tmp rfl .nil) (fun _ => ref_alone hcp.1 hcp.2 hall (by omega) hu (by omega) (hI1.all (by omega)) (by omega)) rfl gv
 refine Run.skip ?_
 refine Run.seq ?_
 refine sr ?_
 have hcp : codeB a.code = true ∧ (a.parent = bs0 ∨ codeB a.parent = true) := (by have hq0 := ‹(!codeB a.code || (decide (a.parent ≠ bs0) && !codeB a.parent)) = false›; revert hq0; cases codeB a.code <;> cases codeB a.parent <;> by_cases hq : a.parent = bs0 <;> simp [hq])
 refine asg rfl rfl ?_
 refine kp [0, 1, 5, 6] rfl ?_
 refine Run.block ?_
 refine Run.loop (fun mm E L => ∃ k : Nat, mm = a.need.length - k ∧ k ≤ a.need.length ∧ codeTo a.need k ∧ E = [(0, .slice (some ⟨b, o, none⟩) xs.length cap), (1, I i), (5, .pointer (some ⟨b5, 0, none⟩)), (6, I k)] ∧ L = [pt b5 (blk a.c 57), R]) ⟨_, 0, rfl, Nat.zero_le _, (fun j x h => by omega), rfl, rfl⟩ ?_
 rintro _ _ _ ⟨k, rfl, hk, hI0, rfl, rfl⟩
 refine Run.seq ?_
 refine sr ?_
 refine sx 5 ?_
 refine kp [0, 1, 5, 6, 31] rfl ?_
 first | refine Run.if rfl (fun h4 => ?_) (fun h4 => ?_) | refine Run.cond rfl (fun h4 => ?_) (fun h4 => ?_)
 refine Run.skip ?_
 refine Run.seq ?_
 refine Run.block ?_
 refine sr ?_
 obtain ⟨n, hn⟩ := get_ex (xs := a.need) (i := k) (by omega)
 refine RunL.rdOpen pk hA1 (flat_ne (k := 1) (fun _ => rfl) (by decide) hn) fun b2 o2 e2 hr2 => ?_
 refine sx 2 ?_
 rw [e2]
 refine sx 2 ?_
 refine RunL.op rfl rfl (OpJ.load1 inferInstance rfl pk (hr2.elem (enc := Sb) (fun _ => rfl) hn) ?_)
 refine RunL.call C107 rfl rfl rfl (c_rCode _ (z4 _ (List.mem_of_getElem? hn))) .nil ?_
 refine RunL.op rfl rfl (OpJ.not rfl ?_)
 refine kp [0, 1, 5, 6, 40] rfl ?_
 first | refine Run.if rfl (fun h5 => ?_) (fun h5 => ?_) | refine Run.cond rfl (fun h5 => ?_) (fun h5 => ?_)
 refine sr ?_
 refine asg rfl rfl ?_
 refine kp [4] rfl ?_
 refine Run.ret ?_
 first | exact ret_out 7 (.tmp rfl .nil) (fun h => absurd h (by decide)) rfl gv | exact ret_out 10 (.tmp rfl .nil) (fun h => absurd h (by decide)) rfl gv | exact ret_out 13 (.tmp rfl .nil) (fun h => absurd h (by decide)) rfl gv | exact ret_out 8 (.tmp rfl .nil) (fun h => absurd h (by decide)) rfl gv | exact ret_out 14 (.tmp rfl .nil) (fun h => absurd h (by decide)) rfl gv | exact ret_out 0 (.tmp rfl .nil) (fun _ => ref_alone hcp.1 hcp.2 hall (by omega) hu (by omega) (hI1.all (by omega)) (by omega)) rfl gv
 refine Run.skip ?_
 refine Run.region ?_
 refine sx 3 ?_
 exact RunL.next (Keep.sub (kt (ks := [0, 1, 5, 6]) rfl)) _ ⟨_, by omega, k + 1, rfl, by omega, (fun j y hj hy => by { by_cases e : j = k; (subst e; rw [hn] at hy; cases hy; simp_all); exact hI0 j y (by omega) hy }), rfl, rfl⟩ gv
 refine Run.exit ?_
 refine Run.seq ?_
 refine sr ?_
 refine RunL.cut (t := 48) (v := Bo (decide (a.kind < 1 ∨ 5 < a.kind))) (kt (ks := [0, 1, 5]) rfl) ?_ ?_
 refine sx 4 ?_
 first | refine RunL.splitP (t := 44) rfl (fun g6 => ?_) (fun g6 => ?_) | refine RunL.split (t := 44) rfl (fun g6 => ?_) (fun g6 => ?_)
 refine sx 4 ?_
 exact RunL.nil ⟨.cons (by first | rfl | (show some (Value.bool _) = some (Value.bool _); congr 2; simp; omega) | (show some (Value.bool _) = some (Value.bool _); simp_all)) (kt (ks := [0, 1, 5]) rfl), rfl⟩
 refine sx 4 ?_
 exact RunL.nil ⟨.cons (by first | rfl | (show some (Value.bool _) = some (Value.bool _); congr 2; simp; omega) | (show some (Value.bool _) = some (Value.bool _); simp_all)) (kt (ks := [0, 1, 5]) rfl), rfl⟩
 first | refine Run.if rfl (fun h7 => ?_) (fun h7 => ?_) | refine Run.cond rfl (fun h7 => ?_) (fun h7 => ?_)
 refine sr ?_
 refine asg rfl rfl ?_
 refine kp [4] rfl ?_
 refine Run.ret ?_
 first | exact ret_out 7 (.tmp rfl .nil) (fun h => absurd h (by decide)) rfl gv | exact ret_out 10 (.tmp rfl .nil) (fun h => absurd h (by decide)) rfl gv | exact ret_out 13 (.tmp rfl .nil) (fun h => absurd h (by decide)) rfl gv | exact ret_out 8 (.tmp rfl .nil) (fun h => absurd h (by decide)) rfl gv | exact ret_out 14 (.tmp rfl .nil) (fun h => absurd h (by decide)) rfl gv | exact ret_out 0 (.tmp rfl .nil) (fun _ => ref_alone hcp.1 hcp.2 hall (by omega) hu (by omega) (hI1.all (by omega)) (by omega)) rfl gv
 refine Run.skip ?_
 refine Run.seq ?_
 refine sr ?_
 refine RunL.cut (t := 57) (v := Bo (decide (a.cur ≠ bs0) && !curB a.cur)) (kt (ks := [0, 1, 5]) rfl) ?_ ?_
 refine sx 4 ?_
 first | refine RunL.splitP (t := 52) rfl (fun g8 => ?_) (fun g8 => ?_) | refine RunL.split (t := 52) rfl (fun g8 => ?_) (fun g8 => ?_)
 refine sx 2 ?_
 refine RunL.callG C108 rfl rfl rfl rfl rfl (c_r7 _) .nil ?_
 refine sx 2 ?_
 exact RunL.nil ⟨.cons (by first | rfl | (show some (Value.bool _) = some (Value.bool _); simp_all)) (kt (ks := [0, 1, 5]) rfl), rfl⟩
 refine sx 5 ?_
 exact RunL.nil ⟨.cons (by first | rfl | (show some (Value.bool _) = some (Value.bool _); simp_all)) (kt (ks := [0, 1, 5]) rfl), rfl⟩
 first | refine Run.if rfl (fun h9 => ?_) (fun h9 => ?_) | refine Run.cond rfl (fun h9 => ?_) (fun h9 => ?_)
 refine sr ?_
 refine asg rfl rfl ?_
 refine kp [4] rfl ?_
 refine Run.ret ?_
 first | exact ret_out 7 (.tmp rfl .nil) (fun h => absurd h (by decide)) rfl gv | exact ret_out 10 (.tmp rfl .nil) (fun h => absurd h (by decide)) rfl gv | exact ret_out 13 (.tmp rfl .nil) (fun h => absurd h (by decide)) rfl gv | exact ret_out 8 (.tmp rfl .nil) (fun h => absurd h (by decide)) rfl gv | exact ret_out 14 (.tmp rfl .nil) (fun h => absurd h (by decide)) rfl gv | exact ret_out 0 (.tmp rfl .nil) (fun _ => ref_alone hcp.1 hcp.2 hall (by omega) hu (by omega) (hI1.all (by omega)) (by omega)) rfl gv
 refine Run.skip ?_
 refine Run.seq ?_
 refine sr ?_
 have hall := hI0.all (by omega)
 have hu : a.cur = bs0 ∨ curB a.cur = true := (by have hq0 := ‹(decide (a.cur ≠ bs0) && !curB a.cur) = false›; revert hq0; cases curB a.cur <;> by_cases hq : a.cur = bs0 <;> simp [hq])
 refine sx 3 ?_
 refine RunL.call C76 rfl rfl rfl (c_rFind R _ _ _ (Rd.rds hrd) (by omega) _) tks ?_
 refine sx 2 ?_
 refine kp [5, 63] rfl ?_
 first | refine Run.if rfl (fun h10 => ?_) (fun h10 => ?_) | refine Run.cond rfl (fun h10 => ?_) (fun h10 => ?_)
 refine sr ?_
 refine asg rfl rfl ?_
 refine kp [4] rfl ?_
 refine Run.ret ?_
 first | exact ret_out 7 (.tmp rfl .nil) (fun h => absurd h (by decide)) rfl gv | exact ret_out 10 (.tmp rfl .nil) (fun h => absurd h (by decide)) rfl gv | exact ret_out 13 (.tmp rfl .nil) (fun h => absurd h (by decide)) rfl gv | exact ret_out 8 (.tmp rfl .nil) (fun h => absurd h (by decide)) rfl gv | exact ret_out 14 (.tmp rfl .nil) (fun h => absurd h (by decide)) rfl gv | exact ret_out 0 (.tmp rfl .nil) (fun _ => ref_alone hcp.1 hcp.2 hall (by omega) hu (by omega) (hI1.all (by omega)) (by omega)) rfl gv
 refine Run.skip ?_
 refine Run.seq ?_
 refine sr ?_
 refine asg rfl rfl ?_
 refine kp [5, 7] rfl ?_
 refine Run.block ?_
 refine Run.weak (L' := [pt b5 (blk a.c 57), R]) (fun _ _ h => h) gv ?_
 refine Run.loop (fun mm E L => ∃ k : Nat, mm = a.need.length - k ∧ risTo a.need (k + 1) ∧ E = [(5, .pointer (some ⟨b5, 0, none⟩)), (7, I ((k + 1 : Nat) : Int))] ∧ L = [pt b5 (blk a.c 57), R]) ⟨_, 0, rfl, risTo.one, rfl, rfl⟩ ?_
 rintro _ _ _ ⟨k, rfl, hI1, rfl, rfl⟩
 refine Run.seq ?_
 refine sr ?_
 refine sx 5 ?_
 refine kp [5, 7, 68] rfl ?_
 first | refine Run.if rfl (fun h11 => ?_) (fun h11 => ?_) | refine Run.cond rfl (fun h11 => ?_) (fun h11 => ?_)
 refine Run.skip ?_
 refine Run.seq ?_
 refine Run.block ?_
 refine Run.seq ?_
 refine regionD HM ?_
 obtain ⟨n, hn⟩ := get_ex (xs := a.need) (i := k) (by omega)
 obtain ⟨m, hm⟩ := get_ex (xs := a.need) (i := k + 1) (by omega)
 refine RunD.rdOpen pk hA1 (flat_ne (k := 1) (fun _ => rfl) (by decide) hn) fun b2 o2 e2 hr2 => ?_
 refine tk 0 rfl rfl rfl (DetJ.fieldAddr F57_7 rfl) ?_
 first | refine RunD.takeF 1 rfl rfl kr T55 rfl pk (by rfl) ?_ | refine RunD.takeO 1 rfl rfl kr T55 rfl pk (by assumption) (by rfl) (by exact fun _ => rfl) ?_
 rw [e2]
 refine tk 2 rfl rfl rfl (DetJ.move rfl) ?_
 first | refine tk 3 rfl rfl rfl (DetJ.subI rfl rfl (by omega)) ?_ | refine tk 3 rfl rfl rfl (DetJ.sub rfl rfl) ?_
 refine RunD.set (v := I (k : Int)) (congrArg I (by omega)) ?_
 refine tk 4 rfl rfl rfl (DetJ.indexAddr S55 rfl rfl (by omega)) ?_
 refine RunD.takeR1 5 rfl rfl kr T9 rfl pk (hr2.elem (enc := Sb) (fun _ => rfl) hn) ?_
 refine tk 6 rfl rfl rfl (DetJ.fieldAddr F57_7 rfl) ?_
 first | refine RunD.takeF 7 rfl rfl kr T55 rfl pk (by rfl) ?_ | refine RunD.takeO 7 rfl rfl kr T55 rfl pk (by assumption) (by rfl) (by exact fun _ => rfl) ?_
 rw [e2]
 refine tk 8 rfl rfl rfl (DetJ.move rfl) ?_
 refine tk 9 rfl rfl rfl (DetJ.indexAddr S55 rfl rfl (by omega)) ?_
 refine RunD.takeR1 10 rfl rfl kr T9 rfl pk (hr2.elem (enc := Sb) (fun _ => rfl) hm) ?_
 refine tk 11 rfl rfl rfl (DetJ.geqS rfl rfl) ?_
 refine kd [5, 7, 82] rfl ?_
 first | refine Run.if rfl (fun h12 => ?_) (fun h12 => ?_) | refine Run.cond rfl (fun h12 => ?_) (fun h12 => ?_)
 refine sr ?_
 refine asg rfl rfl ?_
 refine kp [4] rfl ?_
 refine Run.ret ?_
 first | exact ret_out 7 (.tmp rfl .nil) (fun h => absurd h (by decide)) rfl gv | exact ret_out 10 (.tmp rfl .nil) (fun h => absurd h (by decide)) rfl gv | exact ret_out 13 (.tmp rfl .nil) (fun h => absurd h (by decide)) rfl gv | exact ret_out 8 (.tmp rfl .nil) (fun h => absurd h (by decide)) rfl gv | exact ret_out 14 (.tmp rfl .nil) (fun h => absurd h (by decide)) rfl gv | exact ret_out 0 (.tmp rfl .nil) (fun _ => ref_alone hcp.1 hcp.2 hall (by omega) hu (by omega) (hI1.all (by omega)) (by omega)) rfl gv
 refine Run.skip ?_
 refine Run.region ?_
 refine sx 3 ?_
 exact RunL.next (Keep.sub (kt (ks := [5, 7]) rfl)) _ ⟨_, by omega, k + 1, rfl, hI1.step hn hm (by simp_all [blt]), rfl, rfl⟩ gv
 refine Run.exit ?_
 refine Run.seq ?_
 refine sr ?_
 refine sx 4 ?_
 refine kp [86] rfl ?_
 first | refine Run.if rfl (fun h13 => ?_) (fun h13 => ?_) | refine Run.cond rfl (fun h13 => ?_) (fun h13 => ?_)
 refine sr ?_
 refine asg rfl rfl ?_
 refine kp [4] rfl ?_
 refine Run.ret ?_
 first | exact ret_out 7 (.tmp rfl .nil) (fun h => absurd h (by decide)) rfl gv | exact ret_out 10 (.tmp rfl .nil) (fun h => absurd h (by decide)) rfl gv | exact ret_out 13 (.tmp rfl .nil) (fun h => absurd h (by decide)) rfl gv | exact ret_out 8 (.tmp rfl .nil) (fun h => absurd h (by decide)) rfl gv | exact ret_out 14 (.tmp rfl .nil) (fun h => absurd h (by decide)) rfl gv | exact ret_out 0 (.tmp rfl .nil) (fun _ => ref_alone hcp.1 hcp.2 hall (by omega) hu (by omega) (hI1.all (by omega)) (by omega)) rfl gv
 refine Run.skip ?_
 refine sr ?_
 refine asg rfl rfl ?_
 refine kp [4] rfl ?_
 refine Run.ret ?_
 first | exact ret_out 7 (.tmp rfl .nil) (fun h => absurd h (by decide)) rfl gv | exact ret_out 10 (.tmp rfl .nil) (fun h => absurd h (by decide)) rfl gv | exact ret_out 13 (.tmp rfl .nil) (fun h => absurd h (by decide)) rfl gv | exact ret_out 8 (.tmp rfl .nil) (fun h => absurd h (by decide)) rfl gv | exact ret_out 14 (.tmp rfl .nil) (fun h => absurd h (by decide)) rfl gv | exact ret_out 0 (.tmp rfl .nil) (fun _ => ref_alone hcp.1 hcp.2 hall (by omega) hu (by omega) (hI1.all (by omega)) (by omega)) rfl gv
theorem c_rPlaced (R : HP) (oa : Option Addr) (cap : Nat) (xs : List Ac) (hR : RdS R oa (xs.flatMap Ac.c)) (hl : xs.length ≤ 140737488355328) (h4 : xs.length ≤ 400) (h0 : aloneTo xs xs.length) (i : Nat) (a : Ac) (hx : xs[i]? = some a) : AC Tryz.prog 65 ⟨[.slice oa xs.length cap, .agg ⟨a.c⟩]⟩ (stars [R]) (Outs (fun e : Int => e = 0 → belowB xs a = true) (fun e => I e) (fun _ => [R])) := by
 refine AC.go Tryz.func65 rfl (Nat.le_of_ble_eq_true rfl) fun β => ?_
 refine sr ?_
 refine RunL.op rfl rfl (OpJ.boxA rfl fun b3 => ?_)
 refine asg rfl rfl ?_
 refine kp [0, 3] rfl ?_
 refine Run.seq ?_
 refine sr ?_
 refine sx 3 ?_
 refine kp [0, 3, 8] rfl ?_
 first | refine Run.if rfl (fun h1 => ?_) (fun h1 => ?_) | refine Run.cond rfl (fun h1 => ?_) (fun h1 => ?_)
 refine sr ?_
 refine asg rfl rfl ?_
 refine kp [4] rfl ?_
 refine Run.ret ?_
 first | exact ret_out 28 (.tmp rfl .nil) (fun h => absurd h (by decide)) rfl gv | exact ret_out 10 (.tmp rfl .nil) (fun h => absurd h (by decide)) rfl gv | exact ret_out 12 (.tmp rfl .nil) (fun h => absurd h (by decide)) rfl gv | exact ret_out 24 (.tmp rfl .nil) (fun h => absurd h (by decide)) rfl gv | exact ret_out 0 (.tmp rfl .nil) (fun _ => ref_below h0 (alone_code (h0 i a (List.getElem?_eq_some_iff.1 hx).1 hx)) hg (by omega) (by assumption) (by assumption)) rfl gv | exact ret_out 0 (.tmp rfl .nil) (fun _ => ref_root (by simp_all)) rfl gv
 refine Run.skip ?_
 refine sr ?_
 refine sx 3 ?_
 refine RunL.call C76 rfl rfl rfl (c_rFind R _ _ _ hR (by omega) _) tks ?_
 rcases find_or xs a.parent with ⟨hf, hg⟩ | ⟨q, up, hf, hy, hyc, hg⟩
 rw [hf]
 refine asg rfl rfl ?_
 refine kp [0, 3, 5] rfl ?_
 refine Run.seq ?_
 refine sr ?_
 refine sx 2 ?_
 refine kp [0, 3, 5, 14] rfl ?_
 refine Run.true rfl ?_
 refine sr ?_
 refine asg rfl rfl ?_
 refine kp [4] rfl ?_
 refine Run.ret ?_
 first | exact ret_out 28 (.tmp rfl .nil) (fun h => absurd h (by decide)) rfl gv | exact ret_out 10 (.tmp rfl .nil) (fun h => absurd h (by decide)) rfl gv | exact ret_out 12 (.tmp rfl .nil) (fun h => absurd h (by decide)) rfl gv | exact ret_out 24 (.tmp rfl .nil) (fun h => absurd h (by decide)) rfl gv | exact ret_out 0 (.tmp rfl .nil) (fun _ => ref_below h0 (alone_code (h0 i a (List.getElem?_eq_some_iff.1 hx).1 hx)) hg (by omega) (by assumption) (by assumption)) rfl gv | exact ret_out 0 (.tmp rfl .nil) (fun _ => ref_root (by simp_all)) rfl gv
 rw [hf]
 refine asg rfl rfl ?_
 refine kp [0, 3, 5] rfl ?_
 refine Run.seq ?_
 refine sr ?_
 refine sx 2 ?_
 refine RunL.set (congrArg Bo (decide_eq_false (by omega))) ?_
 refine kp [0, 3, 5, 14] rfl ?_
 refine Run.false rfl ?_
 refine Run.skip ?_
 refine Run.seq ?_
 refine Run.seq ?_
 refine regionD HM ?_
 refine RunD.rdOpen pk hR (flat_ne (k := 8) (fun _ => rfl) (by decide) hy) fun b o eb hrd => ?_
 subst eb
 have hql := (List.getElem?_eq_some_iff.1 hy).1
 refine tk 0 rfl rfl rfl (DetJ.move rfl) ?_
 refine tk 1 rfl rfl rfl (DetJ.move rfl) ?_
 refine tk 2 rfl rfl rfl (DetJ.indexAddr S22 rfl rfl (by omega)) ?_
 refine tk 3 rfl rfl rfl (DetJ.fieldAddr F57_2 rfl) ?_
 refine RunD.takeR1 4 rfl rfl kr T3 rfl pk (hrd.at (enc := Ac.c) 8 (fun _ => rfl) hy 2 (I up.kind) rfl) ?_
 refine tk 5 rfl rfl rfl (DetJ.fieldAddr F57_2 rfl) ?_
 first | refine RunD.takeF 6 rfl rfl kr T3 rfl pk (by rfl) ?_ | refine RunD.takeO 6 rfl rfl kr T3 rfl pk (by assumption) (by rfl) (by exact fun _ => rfl) ?_
 refine tk 7 rfl rfl rfl (DetJ.neq rfl rfl) ?_
 refine kd [0, 3, 5, 22] rfl ?_
 first | refine Run.if rfl (fun h2 => ?_) (fun h2 => ?_) | refine Run.cond rfl (fun h2 => ?_) (fun h2 => ?_)
 refine sr ?_
 refine asg rfl rfl ?_
 refine kp [4] rfl ?_
 refine Run.ret ?_
 first | exact ret_out 28 (.tmp rfl .nil) (fun h => absurd h (by decide)) rfl gv | exact ret_out 10 (.tmp rfl .nil) (fun h => absurd h (by decide)) rfl gv | exact ret_out 12 (.tmp rfl .nil) (fun h => absurd h (by decide)) rfl gv | exact ret_out 24 (.tmp rfl .nil) (fun h => absurd h (by decide)) rfl gv | exact ret_out 0 (.tmp rfl .nil) (fun _ => ref_below h0 (alone_code (h0 i a (List.getElem?_eq_some_iff.1 hx).1 hx)) hg (by omega) (by assumption) (by assumption)) rfl gv | exact ret_out 0 (.tmp rfl .nil) (fun _ => ref_root (by simp_all)) rfl gv
 refine Run.skip ?_
 refine Run.seq ?_
 refine sr ?_
 refine sx 4 ?_
 refine RunL.op rfl rfl (OpJ.load1 inferInstance rfl pk (hrd.at (enc := Ac.c) 8 (fun _ => rfl) hy 3 (Bo up.post) rfl) ?_)
 refine kp [0, 3, 27] rfl ?_
 first | refine Run.if rfl (fun h3 => ?_) (fun h3 => ?_) | refine Run.cond rfl (fun h3 => ?_) (fun h3 => ?_)
 refine sr ?_
 refine asg rfl rfl ?_
 refine kp [4] rfl ?_
 refine Run.ret ?_
 first | exact ret_out 28 (.tmp rfl .nil) (fun h => absurd h (by decide)) rfl gv | exact ret_out 10 (.tmp rfl .nil) (fun h => absurd h (by decide)) rfl gv | exact ret_out 12 (.tmp rfl .nil) (fun h => absurd h (by decide)) rfl gv | exact ret_out 24 (.tmp rfl .nil) (fun h => absurd h (by decide)) rfl gv | exact ret_out 0 (.tmp rfl .nil) (fun _ => ref_below h0 (alone_code (h0 i a (List.getElem?_eq_some_iff.1 hx).1 hx)) hg (by omega) (by assumption) (by assumption)) rfl gv | exact ret_out 0 (.tmp rfl .nil) (fun _ => ref_root (by simp_all)) rfl gv
 refine Run.skip ?_
 refine Run.seq ?_
 refine sr ?_
 refine sx 5 ?_
 refine RunL.call C109 rfl rfl rfl (c_rAnc R _ _ _ hR (by omega) h4 _ _) tks ?_
 refine kp [33] rfl ?_
 first | refine Run.if rfl (fun h4 => ?_) (fun h4 => ?_) | refine Run.cond rfl (fun h4 => ?_) (fun h4 => ?_)
 refine sr ?_
 refine asg rfl rfl ?_
 refine kp [4] rfl ?_
 refine Run.ret ?_
 first | exact ret_out 28 (.tmp rfl .nil) (fun h => absurd h (by decide)) rfl gv | exact ret_out 10 (.tmp rfl .nil) (fun h => absurd h (by decide)) rfl gv | exact ret_out 12 (.tmp rfl .nil) (fun h => absurd h (by decide)) rfl gv | exact ret_out 24 (.tmp rfl .nil) (fun h => absurd h (by decide)) rfl gv | exact ret_out 0 (.tmp rfl .nil) (fun _ => ref_below h0 (alone_code (h0 i a (List.getElem?_eq_some_iff.1 hx).1 hx)) hg (by omega) (by assumption) (by assumption)) rfl gv | exact ret_out 0 (.tmp rfl .nil) (fun _ => ref_root (by simp_all)) rfl gv
 refine Run.skip ?_
 refine sr ?_
 refine asg rfl rfl ?_
 refine kp [4] rfl ?_
 refine Run.ret ?_
 first | exact ret_out 28 (.tmp rfl .nil) (fun h => absurd h (by decide)) rfl gv | exact ret_out 10 (.tmp rfl .nil) (fun h => absurd h (by decide)) rfl gv | exact ret_out 12 (.tmp rfl .nil) (fun h => absurd h (by decide)) rfl gv | exact ret_out 24 (.tmp rfl .nil) (fun h => absurd h (by decide)) rfl gv | exact ret_out 0 (.tmp rfl .nil) (fun _ => ref_below h0 (alone_code (h0 i a (List.getElem?_eq_some_iff.1 hx).1 hx)) hg (by omega) (by assumption) (by assumption)) rfl gv | exact ret_out 0 (.tmp rfl .nil) (fun _ => ref_root (by simp_all)) rfl gv
theorem c_rCheck (R : HP) (oa : Option Addr) (cap : Nat) (xs : List Ac) (hR : RdS R oa (xs.flatMap Ac.c)) (hl : xs.length ≤ 140737488355328) (hA : ∀ a ∈ xs, a.rd R ∧ a.sz) : AC Tryz.prog 30 ⟨[.slice oa xs.length cap]⟩ (stars [R]) (Outs (fun y : Int × Int => y.2 = 0 → chartB xs = true) (fun y => .tuple ⟨[I y.1, I y.2]⟩) (fun _ => [R])) := by
 refine AC.go Tryz.func30 rfl (Nat.le_of_ble_eq_true rfl) fun β => ?_
 refine sr ?_
 refine sx 2 ?_
 refine kp [0] rfl ?_
 refine Run.seq ?_
 refine sr ?_
 refine sx 3 ?_
 refine kp [0, 10] rfl ?_
 first | refine Run.if rfl (fun h1 => ?_) (fun h1 => ?_) | refine Run.cond rfl (fun h1 => ?_) (fun h1 => ?_)
 refine sr ?_
 refine sx 2 ?_
 refine kp [2, 3] rfl ?_
 refine Run.ret ?_
 first | exact ret_out (0, 9) (.tmp rfl (.tmp rfl .nil)) (fun h => absurd h (by decide)) rfl gv | exact ret_out ((i : Int), e) (.tmp rfl (.tmp rfl .nil)) (fun h => absurd h (by simp_all)) rfl gv | exact ret_out ((k : Int), e) (.tmp rfl (.tmp rfl .nil)) (fun h => absurd h (by simp_all)) rfl gv | exact ret_out (0, 0) (.tmp rfl (.tmp rfl .nil)) (fun _ => chart_good (by omega) h0 (by obtain rfl : k = xs.length := (by omega); exact hI1)) rfl gv
 refine Run.skip ?_
 refine Run.seq ?_
 refine sr ?_
 refine asg rfl rfl ?_
 refine kp [0, 4] rfl ?_
 refine Run.block ?_
 refine Run.loop (fun mm E L => ∃ i : Nat, mm = xs.length - i ∧ i ≤ xs.length ∧ aloneTo xs i ∧ E = [(0, .slice oa xs.length cap), (4, I i)] ∧ L = [R]) ⟨_, 0, rfl, Nat.zero_le _, (fun j x h => by omega), rfl, rfl⟩ ?_
 rintro _ _ _ ⟨i, rfl, hi, hI0, rfl, rfl⟩
 refine Run.seq ?_
 refine sr ?_
 refine sx 4 ?_
 refine kp [0, 4, 14] rfl ?_
 first | refine Run.if rfl (fun h2 => ?_) (fun h2 => ?_) | refine Run.cond rfl (fun h2 => ?_) (fun h2 => ?_)
 refine Run.skip ?_
 refine Run.seq ?_
 refine Run.block ?_
 refine sr ?_
 obtain ⟨a, hx⟩ := get_ex (xs := xs) (i := i) (by omega)
 refine RunL.rdOpen pk hR (flat_ne (k := 8) (fun _ => rfl) (by decide) hx) fun b o eb hrd => ?_
 subst eb
 refine sx 2 ?_
 refine RunL.callX C64 rfl rfl rfl (c_rAlone R b o _ xs hrd (by omega) i a hx (hA a (List.mem_of_getElem? hx)).1 (hA a (List.mem_of_getElem? hx)).2) tks fun e he => ?_
 refine asg rfl rfl ?_
 refine kp [0, 4, 5] rfl ?_
 refine sr ?_
 refine sx 2 ?_
 refine kp [0, 4, 5, 21] rfl ?_
 first | refine Run.if rfl (fun h3 => ?_) (fun h3 => ?_) | refine Run.cond rfl (fun h3 => ?_) (fun h3 => ?_)
 refine sr ?_
 refine sx 4 ?_
 refine kp [2, 3] rfl ?_
 refine Run.ret ?_
 first | exact ret_out (0, 9) (.tmp rfl (.tmp rfl .nil)) (fun h => absurd h (by decide)) rfl gv | exact ret_out ((i : Int), e) (.tmp rfl (.tmp rfl .nil)) (fun h => absurd h (by simp_all)) rfl gv | exact ret_out ((k : Int), e) (.tmp rfl (.tmp rfl .nil)) (fun h => absurd h (by simp_all)) rfl gv | exact ret_out (0, 0) (.tmp rfl (.tmp rfl .nil)) (fun _ => chart_good (by omega) h0 (by obtain rfl : k = xs.length := (by omega); exact hI1)) rfl gv
 refine Run.skip ?_
 refine Run.region ?_
 refine sx 3 ?_
 exact RunL.next (Keep.sub (kt (ks := [0, 4]) rfl)) _ ⟨_, by omega, i + 1, rfl, by omega, hI0.at hx (he (by simpa using h3)), rfl, rfl⟩ gv
 refine Run.exit ?_
 refine Run.seq ?_
 refine sr ?_
 obtain rfl : i = xs.length := by omega
 have h0 := hI0
 refine asg rfl rfl ?_
 refine kp [0, 6] rfl ?_
 refine Run.block ?_
 refine Run.loop (fun mm E L => ∃ k : Nat, mm = xs.length - k ∧ k ≤ xs.length ∧ belowTo xs k ∧ E = [(0, .slice oa xs.length cap), (6, I k)] ∧ L = [R]) ⟨_, 0, rfl, Nat.zero_le _, (fun j x h => by omega), rfl, rfl⟩ ?_
 rintro _ _ _ ⟨k, rfl, hk, hI1, rfl, rfl⟩
 refine Run.seq ?_
 refine sr ?_
 refine sx 4 ?_
 refine kp [0, 6, 27] rfl ?_
 first | refine Run.if rfl (fun h4 => ?_) (fun h4 => ?_) | refine Run.cond rfl (fun h4 => ?_) (fun h4 => ?_)
 refine Run.skip ?_
 refine Run.seq ?_
 refine Run.block ?_
 refine sr ?_
 obtain ⟨a, hx⟩ := get_ex (xs := xs) (i := k) (by omega)
 refine RunL.rdOpen pk hR (flat_ne (k := 8) (fun _ => rfl) (by decide) hx) fun b o eb hrd => ?_
 subst eb
 refine sx 4 ?_
 refine RunL.op rfl rfl (OpJ.loadA inferInstance rfl pk (hrd.elem (fun _ => rfl) hx) rfl ?_)
 refine RunL.callX C65 rfl rfl rfl (c_rPlaced R _ _ xs hR (by omega) (by omega) h0 k a hx) tks fun e he => ?_
 refine asg rfl rfl ?_
 refine kp [0, 6, 7] rfl ?_
 refine sr ?_
 refine sx 2 ?_
 refine kp [0, 6, 7, 37] rfl ?_
 first | refine Run.if rfl (fun h5 => ?_) (fun h5 => ?_) | refine Run.cond rfl (fun h5 => ?_) (fun h5 => ?_)
 refine sr ?_
 refine sx 4 ?_
 refine kp [2, 3] rfl ?_
 refine Run.ret ?_
 first | exact ret_out (0, 9) (.tmp rfl (.tmp rfl .nil)) (fun h => absurd h (by decide)) rfl gv | exact ret_out ((i : Int), e) (.tmp rfl (.tmp rfl .nil)) (fun h => absurd h (by simp_all)) rfl gv | exact ret_out ((k : Int), e) (.tmp rfl (.tmp rfl .nil)) (fun h => absurd h (by simp_all)) rfl gv | exact ret_out (0, 0) (.tmp rfl (.tmp rfl .nil)) (fun _ => chart_good (by omega) h0 (by obtain rfl : k = xs.length := (by omega); exact hI1)) rfl gv
 refine Run.skip ?_
 refine Run.region ?_
 refine sx 3 ?_
 exact RunL.next (Keep.sub (kt (ks := [0, 6]) rfl)) _ ⟨_, by omega, k + 1, rfl, by omega, hI1.at hx (he (by first | simpa using h3 | simpa using h4 | simpa using h5)), rfl, rfl⟩ gv
 refine Run.exit ?_
 refine sr ?_
 refine sx 2 ?_
 refine kp [2, 3] rfl ?_
 refine Run.ret ?_
 first | exact ret_out (0, 9) (.tmp rfl (.tmp rfl .nil)) (fun h => absurd h (by decide)) rfl gv | exact ret_out ((i : Int), e) (.tmp rfl (.tmp rfl .nil)) (fun h => absurd h (by simp_all)) rfl gv | exact ret_out ((k : Int), e) (.tmp rfl (.tmp rfl .nil)) (fun h => absurd h (by simp_all)) rfl gv | exact ret_out (0, 0) (.tmp rfl (.tmp rfl .nil)) (fun _ => chart_good (by omega) h0 (by obtain rfl : k = xs.length := (by omega); exact hI1)) rfl gv
theorem c_rGet (R : HP) (oa : Option Addr) (cap : Nat) (xs : List Ac) (hR : RdS R oa (xs.flatMap Ac.c)) (hl : xs.length ≤ 140737488355328) (c : ByteArray) : AC Tryz.prog 37 ⟨[.slice oa xs.length cap, St c]⟩ (stars [R]) (Ret (.tuple ⟨[.agg ⟨(lkA xs c).c⟩, Bo (getL xs c).isSome]⟩) [R]) := by
 refine AC.go Tryz.func37 rfl (Nat.le_of_ble_eq_true rfl) fun β => ?_
 refine sr ?_
 refine RunL.op rfl rfl (OpJ.alloc Z57 fun b4 => ?_)
 refine asg rfl rfl ?_
 refine kp [0, 1, 4] rfl ?_
 refine sr ?_
 refine sx 2 ?_
 refine RunL.call C76 rfl rfl rfl (c_rFind R _ _ _ hR (by omega) _) tks ?_
 rcases find_or xs c with ⟨hf, hg⟩ | ⟨q, a, hf, hx, hyc, hg⟩
 rw [hf]
 refine asg rfl rfl ?_
 refine kp [0, 4, 6] rfl ?_
 refine Run.seq ?_
 refine sr ?_
 refine sx 2 ?_
 refine kp [0, 4, 6, 11] rfl ?_
 refine Run.true rfl ?_
 refine sr ?_
 refine sx 1 ?_
 refine RunL.op rfl rfl (OpJ.storeW T57 rfl rfl rfl rfl (by simp [Value.oneCell', Tg.c, Ln.c, En.c, Ac.c, Cl.c, Ky.c, Qy.c, Sb, Iv, Cs.c]) up ?_)
 refine asg rfl rfl ?_
 refine kp [4, 5] rfl ?_
 refine Run.ret ?_
 exact ret_one (.cellA T57 rfl pk (by rfl) (.tmp rfl .nil)) (by rw [lk_none hg, hg]; rfl) gv
 rw [hf]
 refine asg rfl rfl ?_
 refine kp [0, 4, 6] rfl ?_
 refine Run.seq ?_
 refine sr ?_
 refine sx 2 ?_
 refine RunL.set (congrArg Bo (decide_eq_false (by omega))) ?_
 refine kp [0, 4, 6, 11] rfl ?_
 refine Run.false rfl ?_
 refine Run.skip ?_
 refine sr ?_
 refine RunL.rdOpen pk hR (flat_ne (k := 8) (fun _ => rfl) (by decide) hx) fun b o eb hrd => ?_
 subst eb
 have hql := (List.getElem?_eq_some_iff.1 hx).1
 refine sx 3 ?_
 refine RunL.op rfl rfl (OpJ.loadA inferInstance rfl pk (hrd.elem (fun _ => rfl) hx) rfl ?_)
 refine RunL.op rfl rfl (OpJ.storeW T57 rfl rfl rfl rfl (by simp [Value.oneCell', Tg.c, Ln.c, En.c, Ac.c, Cl.c, Ky.c, Qy.c, Sb, Iv, Cs.c]) up ?_)
 refine asg rfl rfl ?_
 refine kp [4, 5] rfl ?_
 refine Run.ret ?_
 exact ret_one (.cellA T57 rfl pk (by rfl) (.tmp rfl .nil)) (by rw [lk_some hg, hg]; rfl) gv
end
instance cEq : CEq Tryz.prog 63 := .of Tryz.underlying63 (by kernel_rfl) (by kernel_rfl) ⟨by decide, rfl, rfl⟩ ⟨by decide, rfl, rfl⟩ ⟨by decide, rfl, rfl⟩ Tryz.underlying61 (by kernel_rfl) (by decide) (by kernel_rfl) (by kernel_rfl) (by kernel_rfl)
section
attribute [local irreducible] OpJ RunL Run RunD DetJ pt own star Rd RdS
theorem c_whole (x : Cs) (R : HP) (hx : x.rd R) : AC Tryz.prog 11 ⟨[.agg ⟨x.c⟩]⟩ (stars [R]) (Outs (fun y : Option Chv × Bool => ChOk y.1 x.xs ∧ (y.1.isSome = true → x.few) ∧ (y.2 = true → y.1.isSome = true)) (fun y => .tuple ⟨[chV y.1, Bo y.2]⟩) (fun y => [chH 110 9 y.1, R])) := by
 have hx2 := hx
 obtain ⟨hxr, hxe, hxl, hlr, hle, hls, hll, hiy, hib, hzw⟩ := hx
 refine AC.go Tryz.func11 rfl (Nat.le_of_ble_eq_true rfl) fun β => ?_
 refine sr ?_
 refine RunL.op rfl rfl (OpJ.boxA rfl fun b1 => ?_)
 refine sx 2 ?_
 refine kp [1] rfl ?_
 refine Run.seq ?_
 refine sr ?_
 refine sx 1 ?_
 refine RunL.callX C28 rfl rfl rfl (c_large x R hx2) tks fun bl hbl => ?_
 refine kp [1, 10] rfl ?_
 first | refine Run.if rfl (fun h1 => ?_) (fun h1 => ?_) | refine Run.cond rfl (fun h1 => ?_) (fun h1 => ?_)
 refine sr ?_
 refine RunL.chNone 110 9 ?_
 refine sx 2 ?_
 refine kp [2, 3] rfl ?_
 refine Run.ret ?_
 exact ret_out (none, false) (.tmp rfl (.tmp rfl .nil)) ⟨⟨(fun c h => by cases h), fun h => by cases h⟩, (fun h => by cases h), fun h => by cases h⟩ rfl gv
 refine Run.skip ?_
 refine sr ?_
 refine sx 2 ?_
 refine RunL.callX C30 rfl rfl rfl (c_rCheck R _ _ x.xs hxr hxl hxe) tks fun ⟨e1, e2⟩ hc => ?_
 refine sx 5 ?_
 refine kp [1, 5] rfl ?_
 refine sr ?_
 refine sx 2 ?_
 refine RunL.callX C31 rfl rfl rfl (c_NewO R _ _ x.xs hxr (fun a ha => (hxe a ha).1) hxl) tks fun ⟨o, p1, p2⟩ hy => ?_
 refine sx 7 ?_
 refine kp [5, 6] rfl ?_
 refine sr ?_
 refine sx 5 ?_
 refine kp [2, 3] rfl ?_
 refine Run.ret ?_
 exact ret_out (o, decide (e2 = 0)) (.tmp rfl (.tmp rfl .nil)) ⟨hy.2, (fun _ => hbl (by simpa using h1)), fun h => hy.1.trans (hc (by simpa using h))⟩ rfl gv
theorem c_rSum (R : HP) (oa : Option Addr) (cap : Nat) (xs : List Int) (hR : RdS R oa (xs.flatMap Iv)) (hx64 : ∀ x ∈ xs, i64 x) (hl : xs.length ≤ 1000000) (hs : i64 xs.sum) : AC Tryz.prog 122 ⟨[.slice oa xs.length cap]⟩ (stars [R]) (Ret (.tuple ⟨[I xs.sum, Bo true]⟩) [R]) := by
 have hft := half_fit hs
 have hal := half_all xs
 unfold i64 at hs
 refine AC.go Tryz.func122 rfl (Nat.le_of_ble_eq_true rfl) fun β => ?_
 refine sr ?_
 refine sx 2 ?_
 refine kp [0] rfl ?_
 refine sr ?_
 refine sx 2 ?_
 refine kp [0, 4, 5] rfl ?_
 refine Run.seq ?_
 refine sr ?_
 refine asg rfl rfl ?_
 refine kp [0, 4, 5, 6] rfl ?_
 refine Run.block ?_
 refine Run.loop (fun mm E L => ∃ i : Nat, mm = xs.length - i ∧ i ≤ xs.length ∧ E = [(0, .slice oa xs.length cap), (4, I (hiS (xs.take i))), (5, I (loS (xs.take i))), (6, I i)] ∧ L = [R]) ⟨_, 0, rfl, Nat.zero_le _, rfl, rfl⟩ ?_
 rintro _ _ _ ⟨i, rfl, hi, rfl, rfl⟩
 refine Run.seq ?_
 refine sr ?_
 refine sx 4 ?_
 refine kp [0, 4, 5, 6, 10] rfl ?_
 first | refine Run.if rfl (fun h1 => ?_) (fun h1 => ?_) | refine Run.cond rfl (fun h1 => ?_) (fun h1 => ?_)
 refine Run.skip ?_
 refine Run.seq ?_
 refine Run.block ?_
 refine sr ?_
 obtain ⟨x, hx⟩ := get_ex (xs := xs) (i := i) (by omega)
 have hx6 := hx64 x (List.mem_of_getElem? hx)
 have hb0 := half_take hx64 hl i
 have hxb := hx6
 unfold i64 at hxb
 refine RunL.rdOpen pk hR (flat_ne (k := 1) (fun _ => rfl) (by decide) hx) fun b o eb hrd => ?_
 subst eb
 refine sx 4 ?_
 refine RunL.op rfl rfl (OpJ.load1 inferInstance rfl pk (hrd.elem (enc := Iv) (fun _ => rfl) hx) ?_)
 refine sx 1 ?_
 refine RunL.set (congrArg I (shr32 x)) ?_
 refine sx 2 ?_
 refine kp [0, 4, 5, 6] rfl ?_
 refine Run.region ?_
 refine sx 4 ?_
 refine RunL.op rfl rfl (OpJ.load1 inferInstance rfl pk (hrd.elem (enc := Iv) (fun _ => rfl) hx) ?_)
 refine sx 1 ?_
 refine RunL.set (congrArg I (and32 hx6)) ?_
 refine sx 2 ?_
 refine kp [0, 4, 5, 6] rfl ?_
 refine Run.region ?_
 refine sx 3 ?_
 rw [← hiS_step hx, ← loS_step hx]
 exact RunL.next (Keep.sub (kt (ks := [0, 4, 5, 6]) rfl)) _ ⟨_, by omega, i + 1, rfl, by omega, rfl, rfl⟩ gv
 refine Run.exit ?_
 refine sr ?_
 obtain rfl : i = xs.length := by omega
 have hb0 := half_take hx64 hl xs.length
 rw [List.take_length]
 rw [List.take_length] at hb0
 refine sx 3 ?_
 refine RunL.set (congrArg I (shr32 _)) ?_
 refine sx 2 ?_
 refine kp [4, 5] rfl ?_
 refine sr ?_
 refine sx 2 ?_
 refine RunL.set (congrArg I (and32 (by unfold i64; omega))) ?_
 refine asg rfl rfl ?_
 refine kp [4, 5] rfl ?_
 refine Run.seq ?_
 refine sr ?_
 refine sx 2 ?_
 refine RunL.set (congrArg Bo (decide_eq_false (by omega))) ?_
 refine sx 3 ?_
 refine RunL.set (congrArg Bo (decide_eq_false (by omega))) ?_
 refine sx 1 ?_
 refine kp [4, 5, 38] rfl ?_
 refine Run.false rfl ?_
 refine Run.skip ?_
 refine sr ?_
 refine sx 2 ?_
 refine RunL.set (congrArg I (shl32i (by omega))) ?_
 refine sx 4 ?_
 refine kp [2, 3] rfl ?_
 refine Run.ret ?_
 exact ret_one (.tmp rfl (.tmp rfl .nil)) (by rw [hal]; rfl) gv
theorem c_rLeap (y : Int) : AC Tryz.prog 155 ⟨[I y]⟩ (stars []) (Ret (Bo (leapB y)) []) := by
 refine AC.go Tryz.func155 rfl (Nat.le_of_ble_eq_true rfl) fun β => ?_
 refine sr ?_
 refine asg rfl rfl ?_
 refine kp [0] rfl ?_
 refine sr ?_
 refine sx 4 ?_
 first | refine RunL.splitP (t := 6) rfl (fun g1 => ?_) (fun g1 => ?_) | refine RunL.split (t := 6) rfl (fun g1 => ?_) (fun g1 => ?_)
 refine sx 5 ?_
 first | refine RunL.splitP (t := 11) rfl (fun g2 => ?_) (fun g2 => ?_) | refine RunL.split (t := 11) rfl (fun g2 => ?_) (fun g2 => ?_)
 refine sx 5 ?_
 refine kp [2] rfl ?_
 refine Run.ret ?_
 exact ret_one (.tmp rfl .nil) (by first | (simp [tup, leapB,  *]; done) | (exfalso; omega)) gv
 refine sx 5 ?_
 refine kp [2] rfl ?_
 refine Run.ret ?_
 exact ret_one (.tmp rfl .nil) (by first | (simp [tup, leapB,  *]; done) | (exfalso; omega)) gv
 refine sx 10 ?_
 refine kp [2] rfl ?_
 refine Run.ret ?_
 exact ret_one (.tmp rfl .nil) (by first | (simp [tup, leapB,  *]; done) | (exfalso; omega)) gv
theorem c_rLength (y m : Int) : AC Tryz.prog 119 ⟨[I y, I m]⟩ (stars []) (Ret (I (lenM (leapB y) m)) []) := by
 refine AC.go Tryz.func119 rfl (Nat.le_of_ble_eq_true rfl) fun β => ?_
 refine sr ?_
 refine asg rfl rfl ?_
 refine kp [0, 1] rfl ?_
 refine Run.seq ?_
 refine sr ?_
 refine sx 3 ?_
 first | refine RunL.splitP (t := 7) rfl (fun g1 => ?_) (fun g1 => ?_) | refine RunL.split (t := 7) rfl (fun g1 => ?_) (fun g1 => ?_)
 refine sx 3 ?_
 refine kp [0, 1, 10] rfl ?_
 refine Run.true rfl ?_
 refine sr ?_
 refine asg rfl rfl ?_
 refine kp [4] rfl ?_
 refine Run.ret ?_
 first | exact ret_one (.tmp rfl .nil) (congrArg I (show _ = _ by rw [lenM]; simp [*]; try omega)) gv
 refine sx 3 ?_
 refine kp [0, 1, 10] rfl ?_
 first | refine Run.if rfl (fun h2 => ?_) (fun h2 => ?_) | refine Run.cond rfl (fun h2 => ?_) (fun h2 => ?_)
 refine sr ?_
 refine asg rfl rfl ?_
 refine kp [4] rfl ?_
 refine Run.ret ?_
 first | exact ret_one (.tmp rfl .nil) (congrArg I (show _ = _ by rw [lenM]; simp [*]; try omega)) gv
 refine Run.skip ?_
 refine Run.seq ?_
 refine sr ?_
 refine sx 3 ?_
 first | refine RunL.splitP (t := 13) rfl (fun g3 => ?_) (fun g3 => ?_) | refine RunL.split (t := 13) rfl (fun g3 => ?_) (fun g3 => ?_)
 refine sx 1 ?_
 refine RunL.callG C155 rfl rfl rfl rfl rfl (c_rLeap _) .nil ?_
 refine sx 1 ?_
 refine kp [1, 16] rfl ?_
 first | refine Run.if rfl (fun h4 => ?_) (fun h4 => ?_) | refine Run.cond rfl (fun h4 => ?_) (fun h4 => ?_)
 refine sr ?_
 refine asg rfl rfl ?_
 refine kp [4] rfl ?_
 refine Run.ret ?_
 first | exact ret_one (.tmp rfl .nil) (congrArg I (show _ = _ by rw [lenM]; simp [*]; try omega)) gv
 refine Run.skip ?_
 refine sr ?_
 refine RunL.op rfl rfl (OpJ.buildSliceN (cs := lensL.flatMap Iv) inferInstance Z3 rfl (by decide) (by decide) rfl (by rfl) (by rfl) fun b17 => ?_)
 refine sx 3 ?_
 refine RunL.op rfl rfl (OpJ.load1 inferInstance rfl pk (Rd.elem (enc := Iv) (k := 1) (fun _ => rfl) (Rd.whole (cs := lensL.flatMap Iv)) (lensL_get (m := m) (by omega) (by omega))) ?_)
 refine asg rfl rfl ?_
 refine kp [4] rfl ?_
 refine Run.ret ?_
 first | exact ret_one (.tmp rfl .nil) (congrArg I (show _ = _ by rw [lenM]; simp [*]; try omega)) gv
 refine sx 3 ?_
 refine kp [1, 16] rfl ?_
 refine Run.false rfl ?_
 refine Run.skip ?_
 refine sr ?_
 refine RunL.op rfl rfl (OpJ.buildSliceN (cs := lensL.flatMap Iv) inferInstance Z3 rfl (by decide) (by decide) rfl (by rfl) (by rfl) fun b17 => ?_)
 refine sx 3 ?_
 refine RunL.op rfl rfl (OpJ.load1 inferInstance rfl pk (Rd.elem (enc := Iv) (k := 1) (fun _ => rfl) (Rd.whole (cs := lensL.flatMap Iv)) (lensL_get (m := m) (by omega) (by omega))) ?_)
 refine asg rfl rfl ?_
 refine kp [4] rfl ?_
 refine Run.ret ?_
 first | exact ret_one (.tmp rfl .nil) (congrArg I (show _ = _ by rw [lenM]; simp [*]; try omega)) gv
theorem c_rFirst (n : Int) (hn : 0 ≤ n ∧ n ≤ 3599) : AC Tryz.prog 154 ⟨[I n]⟩ (stars []) (Ret (I (sumM n.toNat)) []) := by
 refine AC.go Tryz.func154 rfl (Nat.le_of_ble_eq_true rfl) fun β => ?_
 refine sr ?_
 refine asg rfl rfl ?_
 refine kp [0] rfl ?_
 refine sr ?_
 refine asg rfl rfl ?_
 refine kp [0, 3] rfl ?_
 refine Run.seq ?_
 refine sr ?_
 refine asg rfl rfl ?_
 refine kp [0, 3, 4] rfl ?_
 refine Run.block ?_
 refine Run.loop (fun mm E L => ∃ i : Nat, mm = n.toNat - i ∧ i ≤ n.toNat ∧ E = [(0, I n), (3, I (sumM i)), (4, I i)] ∧ L = []) ⟨_, 0, rfl, Nat.zero_le _, rfl, rfl⟩ ?_
 rintro _ _ _ ⟨i, rfl, hi, rfl, rfl⟩
 refine Run.seq ?_
 refine sr ?_
 refine sx 3 ?_
 refine kp [0, 3, 4, 7] rfl ?_
 first | refine Run.if rfl (fun h1 => ?_) (fun h1 => ?_) | refine Run.cond rfl (fun h1 => ?_) (fun h1 => ?_)
 refine Run.skip ?_
 refine Run.seq ?_
 refine Run.block ?_
 refine Run.region ?_
 have hsr := sumM_range (i := i) (by omega)
 have hlr := @lenM_range (leapB (1900 + (i : Int) / 12)) ((i : Int) % 12 + 1)
 refine sx 3 ?_
 refine RunL.set (congrArg I (show _ = (i : Int) / 12 by rw [Int.tdiv_eq_ediv_of_nonneg (by omega)]; exact wrap_i64_in ⟨by omega, by omega⟩)) ?_
 refine sx 3 ?_
 refine RunL.set (congrArg I (show _ = (i : Int) % 12 by rw [Int.tmod_eq_emod_of_nonneg (by omega)])) ?_
 refine sx 1 ?_
 refine RunL.call C119 rfl rfl rfl (c_rLength _ _) .nil ?_
 refine sx 2 ?_
 refine kp [0, 3, 4] rfl ?_
 refine Run.region ?_
 refine sx 3 ?_
 exact RunL.next (Keep.sub (kt (ks := [0, 3, 4]) rfl)) _ ⟨_, by omega, i + 1, rfl, by omega, rfl, rfl⟩ gv
 refine Run.exit ?_
 refine sr ?_
 refine sx 2 ?_
 refine kp [2] rfl ?_
 refine Run.ret ?_
 exact ret_one (.tmp rfl .nil) (by obtain rfl : i = n.toNat := (by omega); rfl) gv
theorem c_rOf4 (y m d : Int) : AC Tryz.prog 118 ⟨[.agg ⟨[I y, I m, I d]⟩]⟩ (stars []) (Ret (.tuple ⟨[I (if ofB y m d = true then dayF y m d else 0), I (if ofB y m d = true then 0 else 11)]⟩) []) := by
 refine AC.go Tryz.func118 rfl (Nat.le_of_ble_eq_true rfl) fun β => ?_
 refine sr ?_
 refine RunL.op rfl rfl (OpJ.boxA rfl fun b1 => ?_)
 refine sx 2 ?_
 refine kp [1] rfl ?_
 refine Run.seq ?_
 refine Run.seq ?_
 refine regionD HM ?_
 refine tk 0 rfl rfl rfl (DetJ.fieldAddr F157_0 rfl) ?_
 first | refine RunD.takeF 1 rfl rfl kr T3 rfl pk (by rfl) ?_ | refine RunD.takeO 1 rfl rfl kr T3 rfl pk (by assumption) (by rfl) (by exact fun _ => rfl) ?_
 refine tk 2 rfl rfl rfl (DetJ.lss rfl rfl) ?_
 refine tk 3 rfl rfl rfl (DetJ.move rfl) ?_
 by_cases g1 : y < 1900
 refine RunD.set (congrArg Bo (decide_eq_true g1)) ?_
 refine RunD.takeN 4 rfl rfl rfl rfl rfl kr ?_
 refine RunD.takeN 5 rfl rfl rfl rfl rfl kr ?_
 refine RunD.takeN 6 rfl rfl rfl rfl rfl kr ?_
 refine tk 7 rfl rfl rfl (DetJ.pickT rfl rfl) ?_
 refine tk 8 rfl rfl rfl (DetJ.move rfl) ?_
 refine RunD.takeN 9 rfl rfl rfl rfl rfl kr ?_
 refine RunD.takeN 10 rfl rfl rfl rfl rfl kr ?_
 refine RunD.takeN 11 rfl rfl rfl rfl rfl kr ?_
 refine tk 12 rfl rfl rfl (DetJ.pickT rfl rfl) ?_
 refine tk 13 rfl rfl rfl (DetJ.move rfl) ?_
 refine RunD.takeN 14 rfl rfl rfl rfl rfl kr ?_
 refine RunD.takeN 15 rfl rfl rfl rfl rfl kr ?_
 refine RunD.takeN 16 rfl rfl rfl rfl rfl kr ?_
 refine RunD.takeN 17 rfl rfl rfl rfl rfl kr ?_
 refine RunD.takeN 18 rfl rfl rfl rfl rfl kr ?_
 refine RunD.takeN 19 rfl rfl rfl rfl rfl kr ?_
 refine RunD.takeN 20 rfl rfl rfl rfl rfl kr ?_
 refine RunD.takeN 21 rfl rfl rfl rfl rfl kr ?_
 refine tk 22 rfl rfl rfl (DetJ.pickT rfl rfl) ?_
 refine kd [1, 26] rfl ?_
 refine Run.true rfl ?_
 refine sr ?_
 refine sx 2 ?_
 refine kp [2, 3] rfl ?_
 refine Run.ret ?_
 first | exact ret_one (.tmp rfl (.tmp rfl .nil)) (by have ho : ¬ ofB y m d = true := by { unfold ofB; simp only [decide_eq_true_eq]; omega }; rw [if_neg ho, if_neg ho]; rfl) gv | exact ret_one (.tmp rfl (.tmp rfl .nil)) (by rw [if_pos ho, if_pos ho, ← sumM_day ho]; rfl) gv
 refine RunD.set (congrArg Bo (decide_eq_false g1)) ?_
 refine RunD.takeG 4 rfl rfl rfl rfl rfl kr (DetJ.fieldAddr F157_0 rfl) .nil ?_
 first | refine RunD.takeGF 5 rfl rfl rfl rfl kr T3 rfl pk (by rfl) ?_ | refine RunD.takeGO 5 rfl rfl rfl rfl kr T3 rfl pk (by assumption) (by rfl) (by exact fun _ => rfl) ?_
 refine RunD.takeG 6 rfl rfl rfl rfl rfl kr (DetJ.gtr rfl rfl) .nil ?_
 refine tk 7 rfl rfl rfl (DetJ.pickF rfl rfl) ?_
 refine tk 8 rfl rfl rfl (DetJ.move rfl) ?_
 by_cases g2 : 2199 < y
 refine RunD.set (congrArg Bo (decide_eq_true g2)) ?_
 refine RunD.takeN 9 rfl rfl rfl rfl rfl kr ?_
 refine RunD.takeN 10 rfl rfl rfl rfl rfl kr ?_
 refine RunD.takeN 11 rfl rfl rfl rfl rfl kr ?_
 refine tk 12 rfl rfl rfl (DetJ.pickT rfl rfl) ?_
 refine tk 13 rfl rfl rfl (DetJ.move rfl) ?_
 refine RunD.takeN 14 rfl rfl rfl rfl rfl kr ?_
 refine RunD.takeN 15 rfl rfl rfl rfl rfl kr ?_
 refine RunD.takeN 16 rfl rfl rfl rfl rfl kr ?_
 refine RunD.takeN 17 rfl rfl rfl rfl rfl kr ?_
 refine RunD.takeN 18 rfl rfl rfl rfl rfl kr ?_
 refine RunD.takeN 19 rfl rfl rfl rfl rfl kr ?_
 refine RunD.takeN 20 rfl rfl rfl rfl rfl kr ?_
 refine RunD.takeN 21 rfl rfl rfl rfl rfl kr ?_
 refine tk 22 rfl rfl rfl (DetJ.pickT rfl rfl) ?_
 refine kd [1, 26] rfl ?_
 refine Run.true rfl ?_
 refine sr ?_
 refine sx 2 ?_
 refine kp [2, 3] rfl ?_
 refine Run.ret ?_
 first | exact ret_one (.tmp rfl (.tmp rfl .nil)) (by have ho : ¬ ofB y m d = true := by { unfold ofB; simp only [decide_eq_true_eq]; omega }; rw [if_neg ho, if_neg ho]; rfl) gv | exact ret_one (.tmp rfl (.tmp rfl .nil)) (by rw [if_pos ho, if_pos ho, ← sumM_day ho]; rfl) gv
 refine RunD.set (congrArg Bo (decide_eq_false g2)) ?_
 refine RunD.takeG 9 rfl rfl rfl rfl rfl kr (DetJ.fieldAddr F157_2 rfl) .nil ?_
 first | refine RunD.takeGF 10 rfl rfl rfl rfl kr T3 rfl pk (by rfl) ?_ | refine RunD.takeGO 10 rfl rfl rfl rfl kr T3 rfl pk (by assumption) (by rfl) (by exact fun _ => rfl) ?_
 refine RunD.takeG 11 rfl rfl rfl rfl rfl kr (DetJ.lss rfl rfl) .nil ?_
 refine tk 12 rfl rfl rfl (DetJ.pickF rfl rfl) ?_
 refine tk 13 rfl rfl rfl (DetJ.move rfl) ?_
 by_cases g3 : d < 1
 refine RunD.set (congrArg Bo (decide_eq_true g3)) ?_
 refine RunD.takeN 14 rfl rfl rfl rfl rfl kr ?_
 refine RunD.takeN 15 rfl rfl rfl rfl rfl kr ?_
 refine RunD.takeN 16 rfl rfl rfl rfl rfl kr ?_
 refine RunD.takeN 17 rfl rfl rfl rfl rfl kr ?_
 refine RunD.takeN 18 rfl rfl rfl rfl rfl kr ?_
 refine RunD.takeN 19 rfl rfl rfl rfl rfl kr ?_
 refine RunD.takeN 20 rfl rfl rfl rfl rfl kr ?_
 refine RunD.takeN 21 rfl rfl rfl rfl rfl kr ?_
 refine tk 22 rfl rfl rfl (DetJ.pickT rfl rfl) ?_
 refine kd [1, 26] rfl ?_
 refine Run.true rfl ?_
 refine sr ?_
 refine sx 2 ?_
 refine kp [2, 3] rfl ?_
 refine Run.ret ?_
 first | exact ret_one (.tmp rfl (.tmp rfl .nil)) (by have ho : ¬ ofB y m d = true := by { unfold ofB; simp only [decide_eq_true_eq]; omega }; rw [if_neg ho, if_neg ho]; rfl) gv | exact ret_one (.tmp rfl (.tmp rfl .nil)) (by rw [if_pos ho, if_pos ho, ← sumM_day ho]; rfl) gv
 refine RunD.set (congrArg Bo (decide_eq_false g3)) ?_
 refine RunD.takeG 14 rfl rfl rfl rfl rfl kr (DetJ.fieldAddr F157_2 rfl) .nil ?_
 first | refine RunD.takeGF 15 rfl rfl rfl rfl kr T3 rfl pk (by rfl) ?_ | refine RunD.takeGO 15 rfl rfl rfl rfl kr T3 rfl pk (by assumption) (by rfl) (by exact fun _ => rfl) ?_
 refine RunD.takeG 16 rfl rfl rfl rfl rfl kr (DetJ.fieldAddr F157_0 rfl) .nil ?_
 first | refine RunD.takeGF 17 rfl rfl rfl rfl kr T3 rfl pk (by rfl) ?_ | refine RunD.takeGO 17 rfl rfl rfl rfl kr T3 rfl pk (by assumption) (by rfl) (by exact fun _ => rfl) ?_
 refine RunD.takeG 18 rfl rfl rfl rfl rfl kr (DetJ.fieldAddr F157_1 rfl) .nil ?_
 first | refine RunD.takeGF 19 rfl rfl rfl rfl kr T3 rfl pk (by rfl) ?_ | refine RunD.takeGO 19 rfl rfl rfl rfl kr T3 rfl pk (by assumption) (by rfl) (by exact fun _ => rfl) ?_
 refine RunD.opG 20 [false, false, false, false, true, true, false, false, false, true, true, false, false, true, true, true, false, true, true, true] rfl rfl rfl rfl rfl kr kr (OpJ.callRet C119 rfl rfl (c_rLength _ _) .nil ⟨po, ?_⟩)
 refine RunD.takeG 21 rfl rfl rfl rfl rfl kr (DetJ.gtr rfl rfl) .nil ?_
 refine tk 22 rfl rfl rfl (DetJ.pickF rfl rfl) ?_
 refine kd [1, 26] rfl ?_
 first | refine Run.if rfl (fun h1 => ?_) (fun h1 => ?_) | refine Run.cond rfl (fun h1 => ?_) (fun h1 => ?_)
 refine sr ?_
 refine sx 2 ?_
 refine kp [2, 3] rfl ?_
 refine Run.ret ?_
 first | exact ret_one (.tmp rfl (.tmp rfl .nil)) (by have ho : ¬ ofB y m d = true := by { unfold ofB; simp only [decide_eq_true_eq]; omega }; rw [if_neg ho, if_neg ho]; rfl) gv | exact ret_one (.tmp rfl (.tmp rfl .nil)) (by rw [if_pos ho, if_pos ho, ← sumM_day ho]; rfl) gv
 refine Run.skip ?_
 refine Run.seq ?_
 refine regionD HM ?_
 have ho : ofB y m d = true := by unfold ofB; simp only [decide_eq_true_eq]; omega
 have hm := ofB_month ho
 have hsr := sumM_range (i := ((y - 1900) * 12 + m - 1).toNat) (by omega)
 have hlr := @lenM_range (leapB y) m
 refine tk 0 rfl rfl rfl (DetJ.fieldAddr F157_0 rfl) ?_
 first | refine RunD.takeF 1 rfl rfl kr T3 rfl pk (by rfl) ?_ | refine RunD.takeO 1 rfl rfl kr T3 rfl pk (by assumption) (by rfl) (by exact fun _ => rfl) ?_
 first | refine tk 2 rfl rfl rfl (DetJ.subI rfl rfl (by omega)) ?_ | refine tk 2 rfl rfl rfl (DetJ.sub rfl rfl) ?_
 refine tk 3 rfl rfl rfl (DetJ.mul rfl rfl) ?_
 refine RunD.set (congrArg I (show _ = (y - 1900) * 12 by exact wrap_i64_in ⟨by omega, by omega⟩)) ?_
 refine tk 4 rfl rfl rfl (DetJ.fieldAddr F157_1 rfl) ?_
 first | refine RunD.takeF 5 rfl rfl kr T3 rfl pk (by rfl) ?_ | refine RunD.takeO 5 rfl rfl kr T3 rfl pk (by assumption) (by rfl) (by exact fun _ => rfl) ?_
 first | refine tk 6 rfl rfl rfl (DetJ.addI rfl rfl (by omega)) ?_ | refine tk 6 rfl rfl rfl (DetJ.add rfl rfl) ?_
 first | refine tk 7 rfl rfl rfl (DetJ.subI rfl rfl (by omega)) ?_ | refine tk 7 rfl rfl rfl (DetJ.sub rfl rfl) ?_
 refine tk 9 rfl rfl rfl (DetJ.fieldAddr F157_2 rfl) ?_
 first | refine RunD.takeF 10 rfl rfl kr T3 rfl pk (by rfl) ?_ | refine RunD.takeO 10 rfl rfl kr T3 rfl pk (by assumption) (by rfl) (by exact fun _ => rfl) ?_
 refine RunD.op 8 [true, true, false, false, false, true, false, true, true, true] rfl rfl rfl kr kr (OpJ.callRet C154 rfl rfl (c_rFirst _ (by omega)) .nil ⟨po, ?_⟩)
 first | refine tk 11 rfl rfl rfl (DetJ.addI rfl rfl (by omega)) ?_ | refine tk 11 rfl rfl rfl (DetJ.add rfl rfl) ?_
 first | refine tk 12 rfl rfl rfl (DetJ.subI rfl rfl (by omega)) ?_ | refine tk 12 rfl rfl rfl (DetJ.sub rfl rfl) ?_
 refine tk 13 rfl rfl rfl (DetJ.assign rfl) ?_
 refine tk 14 rfl rfl rfl (DetJ.assign rfl) ?_
 refine kd [2, 3] rfl ?_
 refine Run.ret ?_
 first | exact ret_one (.tmp rfl (.tmp rfl .nil)) (by have ho : ¬ ofB y m d = true := by { unfold ofB; simp only [decide_eq_true_eq]; omega }; rw [if_neg ho, if_neg ho]; rfl) gv | exact ret_one (.tmp rfl (.tmp rfl .nil)) (by rw [if_pos ho, if_pos ho, ← sumM_day ho]; rfl) gv
theorem c_r5Right (first : Int) : AC Tryz.prog 70 ⟨[.agg ⟨[I first]⟩]⟩ (stars []) (Ret (Bo (inB first 1 12)) []) := by
 refine AC.go Tryz.func70 rfl (Nat.le_of_ble_eq_true rfl) fun β => ?_
 refine sr ?_
 refine RunL.op rfl rfl (OpJ.boxA rfl fun b1 => ?_)
 refine asg rfl rfl ?_
 refine kp [1] rfl ?_
 refine sr ?_
 refine sx 4 ?_
 first | refine RunL.splitP (t := 6) rfl (fun g1 => ?_) (fun g1 => ?_) | refine RunL.split (t := 6) rfl (fun g1 => ?_) (fun g1 => ?_)
 refine sx 5 ?_
 refine kp [2] rfl ?_
 refine Run.ret ?_
 exact ret_one (.tmp rfl .nil) (by first | (simp [tup, inB,  *]; done) | (exfalso; omega)) gv
 refine sx 5 ?_
 refine kp [2] rfl ?_
 refine Run.ret ?_
 exact ret_one (.tmp rfl .nil) (by first | (simp [tup, inB,  *]; done) | (exfalso; omega)) gv
theorem c_r5Month (first year k : Int) (hf : 1 ≤ first ∧ first ≤ 12) (hk : 0 ≤ k ∧ k ≤ 11) : AC Tryz.prog 72 ⟨[.agg ⟨[I first]⟩, I year, I k]⟩ (stars []) (Ret (.tuple ⟨[I (if monB first year k = true then fisD first year k else 0), I (if monB first year k = true then fisE first year k else 0), Bo (monB first year k)]⟩) []) := by
 have hfw := fis_wrap (year := year) hf hk
 refine AC.go Tryz.func72 rfl (Nat.le_of_ble_eq_true rfl) fun β => ?_
 refine sr ?_
 refine RunL.op rfl rfl (OpJ.boxA rfl fun b3 => ?_)
 refine sx 3 ?_
 refine kp [1, 2, 3] rfl ?_
 refine Run.seq ?_
 refine sr ?_
 refine RunL.cut (t := 20) (v := Bo (!inY year)) (kt (ks := [1, 2, 3]) rfl) ?_ ?_
 refine sx 3 ?_
 first | refine RunL.splitP (t := 17) rfl (fun g1 => ?_) (fun g1 => ?_) | refine RunL.split (t := 17) rfl (fun g1 => ?_) (fun g1 => ?_)
 refine sx 3 ?_
 exact RunL.nil ⟨.cons (by first | rfl | (show some (Value.bool _) = some (Value.bool _); congr 2; unfold inY; rw [Bool.eq_iff_iff]; simp; omega) | (show some (Value.bool _) = some (Value.bool _); simp_all)) (kt (ks := [1, 2, 3]) rfl), rfl⟩
 refine sx 3 ?_
 exact RunL.nil ⟨.cons (by first | rfl | (show some (Value.bool _) = some (Value.bool _); congr 2; unfold inY; rw [Bool.eq_iff_iff]; simp; omega) | (show some (Value.bool _) = some (Value.bool _); simp_all)) (kt (ks := [1, 2, 3]) rfl), rfl⟩
 first | refine Run.if rfl (fun h2 => ?_) (fun h2 => ?_) | refine Run.cond rfl (fun h2 => ?_) (fun h2 => ?_)
 refine sr ?_
 refine sx 3 ?_
 refine kp [6, 7, 8] rfl ?_
 refine Run.ret ?_
 first | exact ret_one (.tmp rfl (.tmp rfl (.tmp rfl .nil))) (by have hb : monB first year k = false := (by unfold monB; rw [show inY year = false by simpa using ‹(!inY year) = true›]; rfl); rw [hb]; rfl) gv | exact ret_one (.tmp rfl (.tmp rfl (.tmp rfl .nil))) (by have hb : monB first year k = false := (by unfold monB fisB; rw [hfb, Bool.and_false]); rw [hb]; rfl) gv | exact ret_one (.tmp rfl (.tmp rfl (.tmp rfl .nil))) (by have hb : monB first year k = true := (by unfold monB fisB; rw [hfb, show inY year = true by simpa using ‹(!inY year) = false›]; rfl); rw [hb]; rfl) gv
 refine Run.skip ?_
 refine sr ?_
 have hyy : 1900 ≤ year ∧ year ≤ 2199 := (by have h := ‹(!inY year) = false›; unfold inY at h; simpa using h)
 have hmr := (fis_of hf hk hyy.1)
 refine sx 6 ?_
 refine kp [1, 9] rfl ?_
 refine sr ?_
 refine sx 2 ?_
 refine kp [9, 10] rfl ?_
 refine Run.seq ?_
 refine sr ?_
 refine sx 2 ?_
 refine kp [9, 10, 28] rfl ?_
 first | refine Run.if rfl (fun h3 => ?_) (fun h3 => ?_) | refine Run.cond rfl (fun h3 => ?_) (fun h3 => ?_)
 refine sr ?_
 refine sx 3 ?_
 refine kp [9, 10] rfl ?_
 refine Run.region ?_
 refine sx 3 ?_
 refine kp [9, 10] rfl ?_
 refine sr ?_
 have hq := hfw.1 (by omega)
 rw [show first - 1 + k - 12 = fisM first k - 1 by omega, show year + 1 = fisY first year k by omega]
 refine sx 3 ?_
 refine RunL.set (congrArg I (show _ = fisM first k by omega)) ?_
 refine sx 1 ?_
 refine RunL.call C118 rfl rfl rfl (c_rOf4 (fisY first year k) (fisM first k) 1) .nil ?_
 refine sx 5 ?_
 refine kp [9, 10, 11, 12] rfl ?_
 refine sr ?_
 refine sx 3 ?_
 refine RunL.set (congrArg I (show _ = fisM first k by omega)) ?_
 refine sx 3 ?_
 refine RunL.set (congrArg I (show _ = fisM first k by omega)) ?_
 refine RunL.call C119 rfl rfl rfl (c_rLength _ _) .nil ?_
 refine sx 1 ?_
 refine RunL.call C118 rfl rfl rfl (c_rOf4 (fisY first year k) (fisM first k) (lenM (leapB (fisY first year k)) (fisM first k))) .nil ?_
 rw [fis_len2 ⟨hmr.1, hmr.2.1⟩]
 refine sx 5 ?_
 refine kp [11, 12, 13, 14] rfl ?_
 refine sr ?_
 refine sx 4 ?_
 cases hfb : ofB (fisY first year k) (fisM first k) 1
 refine RunL.set (congrArg Bo (decide_eq_false (by simp))) ?_
 refine sx 7 ?_
 refine kp [6, 7, 8] rfl ?_
 refine Run.ret ?_
 first | exact ret_one (.tmp rfl (.tmp rfl (.tmp rfl .nil))) (by have hb : monB first year k = false := (by unfold monB; rw [show inY year = false by simpa using ‹(!inY year) = true›]; rfl); rw [hb]; rfl) gv | exact ret_one (.tmp rfl (.tmp rfl (.tmp rfl .nil))) (by have hb : monB first year k = false := (by unfold monB fisB; rw [hfb, Bool.and_false]); rw [hb]; rfl) gv | exact ret_one (.tmp rfl (.tmp rfl (.tmp rfl .nil))) (by have hb : monB first year k = true := (by unfold monB fisB; rw [hfb, show inY year = true by simpa using ‹(!inY year) = false›]; rfl); rw [hb]; rfl) gv
 refine RunL.set (congrArg Bo (decide_eq_true (by simp))) ?_
 refine sx 7 ?_
 refine kp [6, 7, 8] rfl ?_
 refine Run.ret ?_
 first | exact ret_one (.tmp rfl (.tmp rfl (.tmp rfl .nil))) (by have hb : monB first year k = false := (by unfold monB; rw [show inY year = false by simpa using ‹(!inY year) = true›]; rfl); rw [hb]; rfl) gv | exact ret_one (.tmp rfl (.tmp rfl (.tmp rfl .nil))) (by have hb : monB first year k = false := (by unfold monB fisB; rw [hfb, Bool.and_false]); rw [hb]; rfl) gv | exact ret_one (.tmp rfl (.tmp rfl (.tmp rfl .nil))) (by have hb : monB first year k = true := (by unfold monB fisB; rw [hfb, show inY year = true by simpa using ‹(!inY year) = false›]; rfl); rw [hb]; rfl) gv
 refine Run.skip ?_
 refine sr ?_
 have hq := hfw.2 (by omega)
 rw [show first - 1 + k = fisM first k - 1 by omega]
 rw [show I year = I (fisY first year k) by rw [hq.2]]
 refine sx 3 ?_
 refine RunL.set (congrArg I (show _ = fisM first k by omega)) ?_
 refine sx 1 ?_
 refine RunL.call C118 rfl rfl rfl (c_rOf4 (fisY first year k) (fisM first k) 1) .nil ?_
 refine sx 5 ?_
 refine kp [9, 10, 11, 12] rfl ?_
 refine sr ?_
 refine sx 3 ?_
 refine RunL.set (congrArg I (show _ = fisM first k by omega)) ?_
 refine sx 3 ?_
 refine RunL.set (congrArg I (show _ = fisM first k by omega)) ?_
 refine RunL.call C119 rfl rfl rfl (c_rLength _ _) .nil ?_
 refine sx 1 ?_
 refine RunL.call C118 rfl rfl rfl (c_rOf4 (fisY first year k) (fisM first k) (lenM (leapB (fisY first year k)) (fisM first k))) .nil ?_
 rw [fis_len2 ⟨hmr.1, hmr.2.1⟩]
 refine sx 5 ?_
 refine kp [11, 12, 13, 14] rfl ?_
 refine sr ?_
 refine sx 4 ?_
 cases hfb : ofB (fisY first year k) (fisM first k) 1
 refine RunL.set (congrArg Bo (decide_eq_false (by simp))) ?_
 refine sx 7 ?_
 refine kp [6, 7, 8] rfl ?_
 refine Run.ret ?_
 first | exact ret_one (.tmp rfl (.tmp rfl (.tmp rfl .nil))) (by have hb : monB first year k = false := (by unfold monB; rw [show inY year = false by simpa using ‹(!inY year) = true›]; rfl); rw [hb]; rfl) gv | exact ret_one (.tmp rfl (.tmp rfl (.tmp rfl .nil))) (by have hb : monB first year k = false := (by unfold monB fisB; rw [hfb, Bool.and_false]); rw [hb]; rfl) gv | exact ret_one (.tmp rfl (.tmp rfl (.tmp rfl .nil))) (by have hb : monB first year k = true := (by unfold monB fisB; rw [hfb, show inY year = true by simpa using ‹(!inY year) = false›]; rfl); rw [hb]; rfl) gv
 refine RunL.set (congrArg Bo (decide_eq_true (by simp))) ?_
 refine sx 7 ?_
 refine kp [6, 7, 8] rfl ?_
 refine Run.ret ?_
 first | exact ret_one (.tmp rfl (.tmp rfl (.tmp rfl .nil))) (by have hb : monB first year k = false := (by unfold monB; rw [show inY year = false by simpa using ‹(!inY year) = true›]; rfl); rw [hb]; rfl) gv | exact ret_one (.tmp rfl (.tmp rfl (.tmp rfl .nil))) (by have hb : monB first year k = false := (by unfold monB fisB; rw [hfb, Bool.and_false]); rw [hb]; rfl) gv | exact ret_one (.tmp rfl (.tmp rfl (.tmp rfl .nil))) (by have hb : monB first year k = true := (by unfold monB fisB; rw [hfb, show inY year = true by simpa using ‹(!inY year) = false›]; rfl); rw [hb]; rfl) gv
theorem c_r5Year (first year : Int) (hf : 1 ≤ first ∧ first ≤ 12) : AC Tryz.prog 117 ⟨[.agg ⟨[I first]⟩, I year]⟩ (stars []) (Ret (Bo (yearB first year)) []) := by
 refine AC.go Tryz.func117 rfl (Nat.le_of_ble_eq_true rfl) fun β => ?_
 refine sr ?_
 refine RunL.op rfl rfl (OpJ.boxA rfl fun b2 => ?_)
 refine asg rfl rfl ?_
 refine kp [1, 2] rfl ?_
 refine sr ?_
 refine sx 2 ?_
 refine RunL.call C72 rfl rfl rfl (c_r5Month _ _ _ hf (by omega)) .nil ?_
 refine sx 7 ?_
 refine kp [1, 2, 7] rfl ?_
 refine sr ?_
 refine sx 2 ?_
 refine RunL.call C72 rfl rfl rfl (c_r5Month _ _ _ hf (by omega)) .nil ?_
 refine sx 7 ?_
 refine kp [7, 10] rfl ?_
 refine sr ?_
 refine sx 2 ?_
 first | refine RunL.splitP (t := 26) rfl (fun g1 => ?_) (fun g1 => ?_) | refine RunL.split (t := 26) rfl (fun g1 => ?_) (fun g1 => ?_)
 refine sx 3 ?_
 refine kp [4] rfl ?_
 refine Run.ret ?_
 exact ret_one (.tmp rfl .nil) (congrArg Bo (by rw [← mon_year hf]; simp_all)) gv
 refine sx 3 ?_
 refine kp [4] rfl ?_
 refine Run.ret ?_
 exact ret_one (.tmp rfl .nil) (congrArg Bo (by rw [← mon_year hf]; simp_all)) gv
theorem c_r5Exists (first year no : Int) (hf : 1 ≤ first ∧ first ≤ 12) : AC Tryz.prog 71 ⟨[.agg ⟨[I first]⟩, .agg ⟨[I year, I no]⟩]⟩ (stars []) (Ret (Bo (yearB first year && inB no 1 13)) []) := by
 refine AC.go Tryz.func71 rfl (Nat.le_of_ble_eq_true rfl) fun β => ?_
 refine sr ?_
 refine RunL.op rfl rfl (OpJ.boxA rfl fun b2 => ?_)
 refine RunL.op rfl rfl (OpJ.boxA rfl fun b3 => ?_)
 refine asg rfl rfl ?_
 refine kp [2, 3] rfl ?_
 refine sr ?_
 refine sx 4 ?_
 first | refine RunL.splitP (t := 8) rfl (fun g1 => ?_) (fun g1 => ?_) | refine RunL.split (t := 8) rfl (fun g1 => ?_) (fun g1 => ?_)
 refine sx 5 ?_
 first | refine RunL.splitP (t := 13) rfl (fun g2 => ?_) (fun g2 => ?_) | refine RunL.split (t := 13) rfl (fun g2 => ?_) (fun g2 => ?_)
 refine sx 3 ?_
 refine RunL.callG C117 rfl rfl rfl rfl rfl (c_r5Year _ _ hf) .nil ?_
 refine sx 2 ?_
 refine kp [4] rfl ?_
 refine Run.ret ?_
 exact ret_one (.tmp rfl .nil) (congrArg Bo (by rw [Bool.eq_iff_iff]; first | (simp [inB, *]; done) | (simp [inB, *]; omega))) gv
 refine sx 6 ?_
 refine kp [4] rfl ?_
 refine Run.ret ?_
 exact ret_one (.tmp rfl .nil) (congrArg Bo (by rw [Bool.eq_iff_iff]; first | (simp [inB, *]; done) | (simp [inB, *]; omega))) gv
 refine sx 11 ?_
 refine kp [4] rfl ?_
 refine Run.ret ?_
 exact ret_one (.tmp rfl .nil) (congrArg Bo (by rw [Bool.eq_iff_iff]; first | (simp [inB, *]; done) | (simp [inB, *]; omega))) gv
theorem c_r5Span (first year no : Int) : AC Tryz.prog 35 ⟨[.agg ⟨[I first]⟩, .agg ⟨[I year, I no]⟩]⟩ (stars []) (Ret (.tuple ⟨[I (spanM first year no).1, I (spanM first year no).2.1, I (spanM first year no).2.2]⟩) []) := by
 refine AC.go Tryz.func35 rfl (Nat.le_of_ble_eq_true rfl) fun β => ?_
 refine sr ?_
 refine RunL.op rfl rfl (OpJ.boxA rfl fun b2 => ?_)
 refine RunL.op rfl rfl (OpJ.boxA rfl fun b3 => ?_)
 refine sx 3 ?_
 refine kp [2, 3] rfl ?_
 refine Run.seq ?_
 refine sr ?_
 refine sx 1 ?_
 refine RunL.call C70 rfl rfl rfl (c_r5Right _) .nil ?_
 refine RunL.op rfl rfl (OpJ.not rfl ?_)
 refine kp [2, 3, 15] rfl ?_
 first | refine Run.if rfl (fun h1 => ?_) (fun h1 => ?_) | refine Run.cond rfl (fun h1 => ?_) (fun h1 => ?_)
 refine sr ?_
 refine sx 3 ?_
 refine kp [4, 5, 6] rfl ?_
 refine Run.ret ?_
 exact ret_one (.tmp rfl (.tmp rfl (.tmp rfl .nil))) (by have hs : spanM first year no = (0, 0, 2) := (by { unfold spanM; rw [if_pos]; intro h; have := inB_iff.2 h; simp_all }); rw [hs]; rfl) gv
 refine Run.skip ?_
 refine Run.seq ?_
 refine sr ?_
 have hf := inB_iff.1 (show inB first 1 12 = true by simpa using h1)
 refine sx 2 ?_
 refine RunL.call C71 rfl rfl rfl (c_r5Exists _ _ _ hf) .nil ?_
 refine RunL.op rfl rfl (OpJ.not rfl ?_)
 refine kp [2, 3, 19] rfl ?_
 first | refine Run.if rfl (fun h2 => ?_) (fun h2 => ?_) | refine Run.cond rfl (fun h2 => ?_) (fun h2 => ?_)
 refine sr ?_
 refine sx 3 ?_
 refine kp [4, 5, 6] rfl ?_
 refine Run.ret ?_
 exact ret_one (.tmp rfl (.tmp rfl (.tmp rfl .nil))) (by have hs : spanM first year no = (0, 0, 16) := (by { unfold spanM; rw [if_neg (fun h => h hf), if_pos (by rw [Bool.and_eq_false_iff]; simpa using h2)] }); rw [hs]; rfl) gv
 refine Run.skip ?_
 refine Run.seq ?_
 refine sr ?_
 have hb : (yearB first year && inB no 1 13) = true := by simpa using h2
 have hbb := hb
 rw [Bool.and_eq_true] at hbb
 have hno := inB_iff.1 hbb.2
 have hyr := year_in hbb.1
 have hmy := hbb.1
 rw [← mon_year hf, Bool.and_eq_true] at hmy
 refine sx 3 ?_
 refine kp [2, 3, 22] rfl ?_
 first | refine Run.if rfl (fun h3 => ?_) (fun h3 => ?_) | refine Run.cond rfl (fun h3 => ?_) (fun h3 => ?_)
 refine sr ?_
 refine sx 3 ?_
 refine RunL.call C72 rfl rfl rfl (c_r5Month _ _ _ hf (by omega)) .nil ?_
 refine sx 7 ?_
 refine kp [8] rfl ?_
 refine sr ?_
 refine sx 5 ?_
 refine kp [4, 5, 6] rfl ?_
 refine Run.ret ?_
 exact ret_one (.tmp rfl (.tmp rfl (.tmp rfl .nil))) (by have hs : spanM first year no = (lastF first year, lastF first year, 0) := (by { unfold spanM; rw [if_neg (fun h => h hf), if_neg (by simp [hb]), if_pos (by assumption)] }); rw [hs, if_pos hmy.2]; rfl) gv
 refine Run.skip ?_
 refine sr ?_
 have hmk : monB first year (no - 1) = true := (by unfold monB; rw [year_all hf (k := no - 1) (by omega) hbb.1, Bool.and_true]; unfold inY; rw [decide_eq_true hyr])
 refine sx 6 ?_
 refine RunL.call C72 rfl rfl rfl (c_r5Month _ _ _ hf (by omega)) .nil ?_
 refine sx 7 ?_
 refine kp [10, 11] rfl ?_
 refine sr ?_
 refine sx 5 ?_
 refine kp [4, 5, 6] rfl ?_
 refine Run.ret ?_
 exact ret_one (.tmp rfl (.tmp rfl (.tmp rfl .nil))) (by have hs : spanM first year no = (fisD first year (no - 1), fisE first year (no - 1), 0) := (by { unfold spanM; rw [if_neg (fun h => h hf), if_neg (by simp [hb]), if_neg (by assumption)] }); rw [hs, if_pos hmk, if_pos hmk]; rfl) gv
theorem c_r6Let (c : Int) : AC Tryz.prog 166 ⟨[.int .u8 c]⟩ (stars []) (Ret (Bo (letterB c)) []) := by
 refine AC.go Tryz.func166 rfl (Nat.le_of_ble_eq_true rfl) fun β => ?_
 refine sr ?_
 refine asg rfl rfl ?_
 refine kp [0] rfl ?_
 refine sr ?_
 refine sx 3 ?_
 first | refine RunL.splitP (t := 5) rfl (fun g1 => ?_) (fun g1 => ?_) | refine RunL.split (t := 5) rfl (fun g1 => ?_) (fun g1 => ?_)
 refine sx 4 ?_
 first | refine RunL.splitP (t := 9) rfl (fun g2 => ?_) (fun g2 => ?_) | refine RunL.split (t := 9) rfl (fun g2 => ?_) (fun g2 => ?_)
 refine sx 12 ?_
 refine kp [2] rfl ?_
 refine Run.ret ?_
 exact ret_one (.tmp rfl .nil) (by first | (simp [tup, letterB,  *]; done) | (exfalso; omega)) gv
 refine sx 3 ?_
 first | refine RunL.splitP (t := 12) rfl (fun g3 => ?_) (fun g3 => ?_) | refine RunL.split (t := 12) rfl (fun g3 => ?_) (fun g3 => ?_)
 refine sx 5 ?_
 first | refine RunL.splitP (t := 17) rfl (fun g4 => ?_) (fun g4 => ?_) | refine RunL.split (t := 17) rfl (fun g4 => ?_) (fun g4 => ?_)
 refine sx 4 ?_
 refine kp [2] rfl ?_
 refine Run.ret ?_
 exact ret_one (.tmp rfl .nil) (by first | (simp [tup, letterB,  *]; done) | (exfalso; omega)) gv
 refine sx 4 ?_
 refine kp [2] rfl ?_
 refine Run.ret ?_
 exact ret_one (.tmp rfl .nil) (by first | (simp [tup, letterB,  *]; done) | (exfalso; omega)) gv
 refine sx 9 ?_
 refine kp [2] rfl ?_
 refine Run.ret ?_
 exact ret_one (.tmp rfl .nil) (by first | (simp [tup, letterB,  *]; done) | (exfalso; omega)) gv
 refine sx 7 ?_
 first | refine RunL.splitP (t := 12) rfl (fun g5 => ?_) (fun g5 => ?_) | refine RunL.split (t := 12) rfl (fun g5 => ?_) (fun g5 => ?_)
 refine sx 5 ?_
 first | refine RunL.splitP (t := 17) rfl (fun g6 => ?_) (fun g6 => ?_) | refine RunL.split (t := 17) rfl (fun g6 => ?_) (fun g6 => ?_)
 refine sx 4 ?_
 refine kp [2] rfl ?_
 refine Run.ret ?_
 exact ret_one (.tmp rfl .nil) (by first | (simp [tup, letterB,  *]; done) | (exfalso; omega)) gv
 refine sx 4 ?_
 refine kp [2] rfl ?_
 refine Run.ret ?_
 exact ret_one (.tmp rfl .nil) (by first | (simp [tup, letterB,  *]; done) | (exfalso; omega)) gv
 refine sx 9 ?_
 refine kp [2] rfl ?_
 refine Run.ret ?_
 exact ret_one (.tmp rfl .nil) (by first | (simp [tup, letterB,  *]; done) | (exfalso; omega)) gv
theorem c_r6Dig (c : Int) : AC Tryz.prog 167 ⟨[.int .u8 c]⟩ (stars []) (Ret (Bo (digitB c)) []) := by
 refine AC.go Tryz.func167 rfl (Nat.le_of_ble_eq_true rfl) fun β => ?_
 refine sr ?_
 refine asg rfl rfl ?_
 refine kp [0] rfl ?_
 refine sr ?_
 refine sx 3 ?_
 first | refine RunL.splitP (t := 5) rfl (fun g1 => ?_) (fun g1 => ?_) | refine RunL.split (t := 5) rfl (fun g1 => ?_) (fun g1 => ?_)
 refine sx 4 ?_
 refine kp [2] rfl ?_
 refine Run.ret ?_
 exact ret_one (.tmp rfl .nil) (by first | (simp [tup, digitB,  *]; done) | (exfalso; omega)) gv
 refine sx 4 ?_
 refine kp [2] rfl ?_
 refine Run.ret ?_
 exact ret_one (.tmp rfl .nil) (by first | (simp [tup, digitB,  *]; done) | (exfalso; omega)) gv
theorem c_r6Code (s : ByteArray) (hs : (s.size : Int) ≤ 9223372036854775807) : AC Tryz.prog 134 ⟨[St s]⟩ (stars []) (Ret (Bo (codeB s)) []) := by
 refine AC.go Tryz.func134 rfl (Nat.le_of_ble_eq_true rfl) fun β => ?_
 refine sr ?_
 refine asg rfl rfl ?_
 refine kp [0] rfl ?_
 refine Run.seq ?_
 refine sr ?_
 refine asg rfl rfl ?_
 refine kp [0, 3] rfl ?_
 refine Run.block ?_
 refine Run.loop (fun mm E L => ∃ i : Nat, mm = s.size - i ∧ i ≤ s.size ∧ (∀ (j : Nat) u, j < i → s[j]? = some u → byteOk u = true) ∧ E = [(0, St s), (3, I i)] ∧ L = []) ⟨_, 0, rfl, Nat.zero_le _, fun _ _ h => by omega, rfl, rfl⟩ ?_
 rintro _ _ _ ⟨i, rfl, hi, hI0, rfl, rfl⟩
 refine Run.seq ?_
 refine sr ?_
 refine sx 4 ?_
 refine kp [0, 3, 7] rfl ?_
 first | refine Run.if rfl (fun h1 => ?_) (fun h1 => ?_) | refine Run.cond rfl (fun h1 => ?_) (fun h1 => ?_)
 refine Run.skip ?_
 refine Run.seq ?_
 refine Run.block ?_
 refine sr ?_
 obtain ⟨u, hu⟩ := byte_ex (s := s) (i := i) (by omega)
 have hbo : byteOk u = (letterB (u.toNat : Int) || digitB (u.toNat : Int)) := rfl
 refine sx 2 ?_
 refine RunL.op rfl rfl (OpJ.indexS U9 rfl rfl (by omega) hu ?_)
 refine RunL.call C166 rfl rfl rfl (c_r6Let _) .nil ?_
 refine sx 2 ?_
 first | refine RunL.splitP (t := 15) rfl (fun g2 => ?_) (fun g2 => ?_) | refine RunL.split (t := 15) rfl (fun g2 => ?_) (fun g2 => ?_)
 refine sx 2 ?_
 refine RunL.yes rfl rfl rfl rfl (OpJ.indexS U9 rfl rfl (by omega) hu ?_)
 refine RunL.callG C167 rfl rfl rfl rfl rfl (c_r6Dig _) .nil ?_
 refine sx 2 ?_
 refine kp [0, 3, 21] rfl ?_
 first | refine Run.if rfl (fun h3 => ?_) (fun h3 => ?_) | refine Run.cond rfl (fun h3 => ?_) (fun h3 => ?_)
 refine sr ?_
 refine asg rfl rfl ?_
 refine kp [2] rfl ?_
 refine Run.ret ?_
 first | exact ret_one (.tmp rfl .nil) (by unfold codeB; rw [everyB_false hu (by simp_all), Bool.and_false]; rfl) gv | exact ret_one (.tmp rfl .nil) (by have he := everyB_true fun j u hj hu => hI0 j u (by omega) hu; rw [code_eq, he, Bool.and_true]; show Value.bool _ = Value.bool _; congr 1; first | (simp_all; done) | (simp_all; omega)) gv
 refine Run.skip ?_
 refine Run.region ?_
 refine sx 3 ?_
 exact RunL.next (Keep.sub (kt (ks := [0, 3]) rfl)) _ ⟨_, by omega, i + 1, rfl, by omega, (fun j v hj hv => by { by_cases e : j = i; (subst e; rw [hu] at hv; cases hv; simp_all); exact hI0 j v (by omega) hv }), rfl, rfl⟩ gv
 refine sx 6 ?_
 refine kp [0, 3, 21] rfl ?_
 refine Run.false rfl ?_
 refine Run.skip ?_
 refine Run.region ?_
 refine sx 3 ?_
 exact RunL.next (Keep.sub (kt (ks := [0, 3]) rfl)) _ ⟨_, by omega, i + 1, rfl, by omega, (fun j v hj hv => by { by_cases e : j = i; (subst e; rw [hu] at hv; cases hv; simp_all); exact hI0 j v (by omega) hv }), rfl, rfl⟩ gv
 refine Run.exit ?_
 refine sr ?_
 refine sx 4 ?_
 first | refine RunL.splitP (t := 25) rfl (fun g4 => ?_) (fun g4 => ?_) | refine RunL.split (t := 25) rfl (fun g4 => ?_) (fun g4 => ?_)
 refine sx 5 ?_
 refine kp [2] rfl ?_
 refine Run.ret ?_
 first | exact ret_one (.tmp rfl .nil) (by unfold codeB; rw [everyB_false hu (by simp_all), Bool.and_false]; rfl) gv | exact ret_one (.tmp rfl .nil) (by have he := everyB_true fun j u hj hu => hI0 j u (by omega) hu; rw [code_eq, he, Bool.and_true]; show Value.bool _ = Value.bool _; congr 1; first | (simp_all; done) | (simp_all; omega)) gv
 refine sx 5 ?_
 refine kp [2] rfl ?_
 refine Run.ret ?_
 first | exact ret_one (.tmp rfl .nil) (by unfold codeB; rw [everyB_false hu (by simp_all), Bool.and_false]; rfl) gv | exact ret_one (.tmp rfl .nil) (by have he := everyB_true fun j u hj hu => hI0 j u (by omega) hu; rw [code_eq, he, Bool.and_true]; show Value.bool _ = Value.bool _; congr 1; first | (simp_all; done) | (simp_all; omega)) gv
theorem c_r6Plain (s : ByteArray) (hs : (s.size : Int) ≤ 9223372036854775807) : AC Tryz.prog 136 ⟨[St s]⟩ (stars []) (Ret (Bo (plainB s)) []) := by
 refine AC.go Tryz.func136 rfl (Nat.le_of_ble_eq_true rfl) fun β => ?_
 refine sr ?_
 refine asg rfl rfl ?_
 refine kp [0] rfl ?_
 refine Run.seq ?_
 refine sr ?_
 refine asg rfl rfl ?_
 refine kp [0, 3] rfl ?_
 refine Run.block ?_
 refine Run.loop (fun mm E L => ∃ i : Nat, mm = s.size - i ∧ i ≤ s.size ∧ (∀ (j : Nat) u, j < i → s[j]? = some u → prB u = true) ∧ E = [(0, St s), (3, I i)] ∧ L = []) ⟨_, 0, rfl, Nat.zero_le _, fun _ _ h => by omega, rfl, rfl⟩ ?_
 rintro _ _ _ ⟨i, rfl, hi, hI0, rfl, rfl⟩
 refine Run.seq ?_
 refine sr ?_
 refine sx 4 ?_
 refine kp [0, 3, 7] rfl ?_
 first | refine Run.if rfl (fun h1 => ?_) (fun h1 => ?_) | refine Run.cond rfl (fun h1 => ?_) (fun h1 => ?_)
 refine Run.skip ?_
 refine Run.seq ?_
 refine Run.block ?_
 refine sr ?_
 obtain ⟨u, hu⟩ := byte_ex (s := s) (i := i) (by omega)
 refine sx 2 ?_
 refine RunL.op rfl rfl (OpJ.indexS U9 rfl rfl (by omega) hu ?_)
 refine sx 2 ?_
 first | refine RunL.splitP (t := 14) rfl (fun g2 => ?_) (fun g2 => ?_) | refine RunL.split (t := 14) rfl (fun g2 => ?_) (fun g2 => ?_)
 refine sx 5 ?_
 refine kp [0, 3, 19] rfl ?_
 refine Run.true rfl ?_
 refine sr ?_
 refine asg rfl rfl ?_
 refine kp [2] rfl ?_
 refine Run.ret ?_
 first | exact ret_one (.tmp rfl .nil) (by unfold plainB; rw [all_false hu (by unfold prB; rw [decide_eq_false_iff_not]; omega), Bool.and_false]; rfl) gv | exact ret_one (.tmp rfl .nil) (by unfold plainB; rw [all_true fun j u hj hu => hI0 j u (by omega) hu, Bool.and_true]; rfl) gv
 refine sx 2 ?_
 refine RunL.yes rfl rfl rfl rfl (OpJ.indexS U9 rfl rfl (by omega) hu ?_)
 refine sx 2 ?_
 refine kp [0, 3, 19] rfl ?_
 first | refine Run.if rfl (fun h3 => ?_) (fun h3 => ?_) | refine Run.cond rfl (fun h3 => ?_) (fun h3 => ?_)
 refine sr ?_
 refine asg rfl rfl ?_
 refine kp [2] rfl ?_
 refine Run.ret ?_
 first | exact ret_one (.tmp rfl .nil) (by unfold plainB; rw [all_false hu (by unfold prB; rw [decide_eq_false_iff_not]; omega), Bool.and_false]; rfl) gv | exact ret_one (.tmp rfl .nil) (by unfold plainB; rw [all_true fun j u hj hu => hI0 j u (by omega) hu, Bool.and_true]; rfl) gv
 refine Run.skip ?_
 refine Run.region ?_
 refine sx 3 ?_
 exact RunL.next (Keep.sub (kt (ks := [0, 3]) rfl)) _ ⟨_, by omega, i + 1, rfl, by omega, (fun j v hj hv => by { by_cases e : j = i; (subst e; rw [hu] at hv; cases hv; unfold prB; rw [decide_eq_true_eq]; omega); exact hI0 j v (by omega) hv }), rfl, rfl⟩ gv
 refine Run.exit ?_
 refine sr ?_
 refine sx 4 ?_
 refine kp [2] rfl ?_
 refine Run.ret ?_
 first | exact ret_one (.tmp rfl .nil) (by unfold plainB; rw [all_false hu (by unfold prB; rw [decide_eq_false_iff_not]; omega), Bool.and_false]; rfl) gv | exact ret_one (.tmp rfl .nil) (by unfold plainB; rw [all_true fun j u hj hu => hI0 j u (by omega) hu, Bool.and_true]; rfl) gv
theorem c_r9named (t : Tg) (hz : szS t.name ∧ szS t.value) : AC Tryz.prog 133 ⟨[.agg ⟨t.c⟩]⟩ (stars []) (Ret (Bo (tgOk t)) []) := by
 obtain ⟨hz1, hz2⟩ := hz
 refine AC.go Tryz.func133 rfl (Nat.le_of_ble_eq_true rfl) fun β => ?_
 refine sr ?_
 refine RunL.op rfl rfl (OpJ.boxA rfl fun b1 => ?_)
 refine asg rfl rfl ?_
 refine kp [1] rfl ?_
 refine sr ?_
 refine sx 2 ?_
 refine RunL.call C134 rfl rfl rfl (c_r6Code _ (by assumption)) .nil ?_
 refine mvo rfl rfl ?_
 first | refine RunL.splitP (t := 6) rfl (fun g1 => ?_) (fun g1 => ?_) | refine RunL.split (t := 6) rfl (fun g1 => ?_) (fun g1 => ?_)
 refine sx 2 ?_
 refine RunL.callG C134 rfl rfl rfl rfl rfl (c_r6Code _ (by assumption)) .nil ?_
 refine sx 2 ?_
 refine kp [2] rfl ?_
 refine Run.ret ?_
 exact ret_one (.tmp rfl .nil) (by show Value.bool _ = Value.bool _; unfold tgOk; simp_all) gv
 refine sx 5 ?_
 refine kp [2] rfl ?_
 refine Run.ret ?_
 exact ret_one (.tmp rfl .nil) (by show Value.bool _ = Value.bool _; unfold tgOk; simp_all) gv
theorem c_r9Right (R : HP) (oa : Option Addr) (cap : Nat) (ts : List Tg) (hR : RdS R oa (ts.flatMap Tg.c)) (hz : ∀ t ∈ ts, szS t.name ∧ szS t.value) (hl : ts.length ≤ 140737488355328) : AC Tryz.prog 84 ⟨[.slice oa ts.length cap]⟩ (stars [R]) (Ret (Bo (rightB ts)) [R]) := by
 refine AC.go Tryz.func84 rfl (Nat.le_of_ble_eq_true rfl) fun β => ?_
 refine sr ?_
 refine asg rfl rfl ?_
 refine kp [0] rfl ?_
 refine Run.seq ?_
 refine sr ?_
 refine asg rfl rfl ?_
 refine kp [0, 3] rfl ?_
 refine Run.block ?_
 refine Run.loop (fun mm E L => ∃ i : Nat, mm = ts.length - i ∧ i ≤ ts.length ∧ okTo ts i ∧ E = [(0, .slice oa ts.length cap), (3, I i)] ∧ L = [R]) ⟨_, 0, rfl, Nat.zero_le _, okTo.zero, rfl, rfl⟩ ?_
 rintro _ _ _ ⟨i, rfl, hi, hI0, rfl, rfl⟩
 refine Run.seq ?_
 refine sr ?_
 refine sx 4 ?_
 refine kp [0, 3, 7] rfl ?_
 first | refine Run.if rfl (fun h1 => ?_) (fun h1 => ?_) | refine Run.cond rfl (fun h1 => ?_) (fun h1 => ?_)
 refine Run.skip ?_
 refine Run.seq ?_
 refine Run.block ?_
 refine Run.seq ?_
 refine regionD HM ?_
 obtain ⟨t, ht⟩ := get_ex (xs := ts) (i := i) (by omega)
 refine RunD.rdOpen pk hR (flat_ne (k := 2) (fun _ => rfl) (by decide) ht) fun b o eb hrd => ?_
 subst eb
 refine tk 0 rfl rfl rfl (DetJ.move rfl) ?_
 refine tk 1 rfl rfl rfl (DetJ.move rfl) ?_
 refine tk 2 rfl rfl rfl (DetJ.indexAddr S71 rfl rfl (by omega)) ?_
 refine RunD.takeR 3 rfl rfl kr T151 rfl pk (hrd.elem (enc := Tg.c) (fun _ => rfl) ht) rfl ?_
 refine RunD.op 4 [false, false, false, false] rfl rfl rfl kr kr (OpJ.callRet C133 rfl rfl (c_r9named t (hz t (List.mem_of_getElem? ht))) .nil ⟨po, ?_⟩)
 refine tk 5 rfl rfl rfl (DetJ.not rfl) ?_
 refine tk 6 rfl rfl rfl (DetJ.move rfl) ?_
 rcases Bool.eq_false_or_eq_true (tgOk t) with hok | hok
 refine RunD.set (v := Bo false) (by rw [hok]; rfl) ?_
 refine RunD.takeG 7 rfl rfl rfl rfl rfl kr (DetJ.move rfl) .nil ?_
 refine RunD.takeG 8 rfl rfl rfl rfl rfl kr (DetJ.gtr rfl rfl) .nil ?_
 refine RunD.takeG 9 rfl rfl rfl rfl rfl kr (DetJ.move rfl) .nil ?_
 by_cases hp : 0 < i
 obtain ⟨j, rfl⟩ : ∃ j, i = j + 1 := ⟨i - 1, by omega⟩
 obtain ⟨u, hu⟩ := get_ex (xs := ts) (i := j) (by omega)
 refine RunD.set (congrArg Bo (decide_eq_true (by omega))) ?_
 refine RunD.takeG 10 rfl rfl rfl rfl rfl kr (DetJ.move rfl) .nil ?_
 refine RunD.takeG 11 rfl rfl rfl rfl rfl kr (DetJ.move rfl) .nil ?_
 refine RunD.takeG 12 rfl rfl rfl rfl rfl kr (DetJ.indexAddr S71 rfl rfl (by omega)) .nil ?_
 refine RunD.takeG 13 rfl rfl rfl rfl rfl kr (DetJ.fieldAddr F151_0 rfl) .nil ?_
 refine RunD.takeGR1 14 rfl rfl rfl rfl kr T9 rfl pk (hrd.at (enc := Tg.c) 2 (fun _ => rfl) ht 0 (St t.name) rfl) ?_
 refine RunD.takeG 15 rfl rfl rfl rfl rfl kr (DetJ.move rfl) .nil ?_
 refine RunD.takeG 16 rfl rfl rfl rfl rfl kr (DetJ.move rfl) .nil ?_
 first | refine RunD.takeG 17 rfl rfl rfl rfl rfl kr (DetJ.subI rfl rfl (by omega)) .nil ?_ | refine RunD.takeG 17 rfl rfl rfl rfl rfl kr (DetJ.sub rfl rfl) .nil ?_
 refine RunD.set (v := I (j : Int)) (congrArg I (by omega)) ?_
 refine RunD.takeG 18 rfl rfl rfl rfl rfl kr (DetJ.indexAddr S71 rfl rfl (by omega)) .nil ?_
 refine RunD.takeG 19 rfl rfl rfl rfl rfl kr (DetJ.fieldAddr F151_0 rfl) .nil ?_
 refine RunD.takeGR1 20 rfl rfl rfl rfl kr T9 rfl pk (hrd.at (enc := Tg.c) 2 (fun _ => rfl) hu 0 (St u.name) rfl) ?_
 refine RunD.takeG 21 rfl rfl rfl rfl rfl kr (DetJ.leqS rfl rfl) .nil ?_
 refine RunD.takeG 22 rfl rfl rfl rfl rfl kr (DetJ.pickT rfl rfl) .nil ?_
 refine tk 23 rfl rfl rfl (DetJ.pickF rfl rfl) ?_
 refine kd [0, 3, 33] rfl ?_
 first | refine Run.if rfl (fun h2 => ?_) (fun h2 => ?_) | refine Run.cond rfl (fun h2 => ?_) (fun h2 => ?_)
 refine sr ?_
 refine asg rfl rfl ?_
 refine kp [2] rfl ?_
 refine Run.ret ?_
 first | exact ret_one (.tmp rfl .nil) (by rw [okT_bad ht hok]; rfl) gv | exact ret_one (.tmp rfl .nil) (by rw [okT_fall ht hu (by simp_all [blt])]; rfl) gv | exact ret_one (.tmp rfl .nil) (by by_cases h6 : ts.length ≤ 6; (rw [hI0.all (by omega) h6, decide_eq_true (by omega)]; rfl); (rw [right_long h6, decide_eq_false (by omega)]; rfl)) gv
 refine Run.skip ?_
 refine Run.region ?_
 refine sx 3 ?_
 exact RunL.next (Keep.sub (kt (ks := [0, 3]) rfl)) _ ⟨_, by omega, j + 1 + 1, rfl, by omega, hI0.step ht hok (fun j2 u2 q1 q2 => by { obtain rfl : j2 = j := by { omega }; rw [hu] at q2; cases q2; simp_all [blt] }), rfl, rfl⟩ gv
 refine RunD.set (congrArg Bo (decide_eq_false (by omega))) ?_
 refine RunD.takeN 10 rfl rfl rfl rfl rfl kr ?_
 refine RunD.takeN 11 rfl rfl rfl rfl rfl kr ?_
 refine RunD.takeN 12 rfl rfl rfl rfl rfl kr ?_
 refine RunD.takeN 13 rfl rfl rfl rfl rfl kr ?_
 refine RunD.takeN 14 rfl rfl rfl rfl rfl kr ?_
 refine RunD.takeN 15 rfl rfl rfl rfl rfl kr ?_
 refine RunD.takeN 16 rfl rfl rfl rfl rfl kr ?_
 refine RunD.takeN 17 rfl rfl rfl rfl rfl kr ?_
 refine RunD.takeN 18 rfl rfl rfl rfl rfl kr ?_
 refine RunD.takeN 19 rfl rfl rfl rfl rfl kr ?_
 refine RunD.takeN 20 rfl rfl rfl rfl rfl kr ?_
 refine RunD.takeN 21 rfl rfl rfl rfl rfl kr ?_
 refine RunD.takeG 22 rfl rfl rfl rfl rfl kr (DetJ.pickF rfl rfl) .nil ?_
 refine tk 23 rfl rfl rfl (DetJ.pickF rfl rfl) ?_
 refine kd [0, 3, 33] rfl ?_
 refine Run.false rfl ?_
 refine Run.skip ?_
 refine Run.region ?_
 refine sx 3 ?_
 exact RunL.next (Keep.sub (kt (ks := [0, 3]) rfl)) _ ⟨_, by omega, i + 1, rfl, by omega, hI0.step ht hok (fun j2 u2 q1 q2 => by omega), rfl, rfl⟩ gv
 refine RunD.set (v := Bo true) (by rw [hok]; rfl) ?_
 refine RunD.takeN 7 rfl rfl rfl rfl rfl kr ?_
 refine RunD.takeN 8 rfl rfl rfl rfl rfl kr ?_
 refine RunD.takeN 9 rfl rfl rfl rfl rfl kr ?_
 refine RunD.takeU 10 rfl rfl rfl rfl rfl ?_
 refine RunD.takeU 11 rfl rfl rfl rfl rfl ?_
 refine RunD.takeU 12 rfl rfl rfl rfl rfl ?_
 refine RunD.takeU 13 rfl rfl rfl rfl rfl ?_
 refine RunD.takeU 14 rfl rfl rfl rfl rfl ?_
 refine RunD.takeU 15 rfl rfl rfl rfl rfl ?_
 refine RunD.takeU 16 rfl rfl rfl rfl rfl ?_
 refine RunD.takeU 17 rfl rfl rfl rfl rfl ?_
 refine RunD.takeU 18 rfl rfl rfl rfl rfl ?_
 refine RunD.takeU 19 rfl rfl rfl rfl rfl ?_
 refine RunD.takeU 20 rfl rfl rfl rfl rfl ?_
 refine RunD.takeU 21 rfl rfl rfl rfl rfl ?_
 refine RunD.takeN 22 rfl rfl rfl rfl rfl kr ?_
 refine tk 23 rfl rfl rfl (DetJ.pickT rfl rfl) ?_
 refine kd [0, 3, 33] rfl ?_
 refine Run.true rfl ?_
 refine sr ?_
 refine asg rfl rfl ?_
 refine kp [2] rfl ?_
 refine Run.ret ?_
 first | exact ret_one (.tmp rfl .nil) (by rw [okT_bad ht hok]; rfl) gv | exact ret_one (.tmp rfl .nil) (by rw [okT_fall ht hu (by simp_all [blt])]; rfl) gv | exact ret_one (.tmp rfl .nil) (by by_cases h6 : ts.length ≤ 6; (rw [hI0.all (by omega) h6, decide_eq_true (by omega)]; rfl); (rw [right_long h6, decide_eq_false (by omega)]; rfl)) gv
 refine Run.exit ?_
 refine sr ?_
 refine sx 4 ?_
 refine kp [2] rfl ?_
 refine Run.ret ?_
 first | exact ret_one (.tmp rfl .nil) (by rw [okT_bad ht hok]; rfl) gv | exact ret_one (.tmp rfl .nil) (by rw [okT_fall ht hu (by simp_all [blt])]; rfl) gv | exact ret_one (.tmp rfl .nil) (by by_cases h6 : ts.length ≤ 6; (rw [hI0.all (by omega) h6, decide_eq_true (by omega)]; rfl); (rw [right_long h6, decide_eq_false (by omega)]; rfl)) gv
theorem c_r9Text (R : HP) (oa : Option Addr) (cap : Nat) (ts : List Tg) (hR : RdS R oa (ts.flatMap Tg.c)) (hz : ∀ t ∈ ts, szS t.name ∧ szS t.value) (hl : ts.length ≤ 140737488355328) : AC Tryz.prog 156 ⟨[.slice oa ts.length cap]⟩ (stars [R]) (Ret (.tuple ⟨[St (textV ts), I (if rightB ts = true then 0 else 14)]⟩) [R]) := by
 refine AC.go Tryz.func156 rfl (Nat.le_of_ble_eq_true rfl) fun β => ?_
 refine sr ?_
 refine sx 2 ?_
 refine kp [0] rfl ?_
 refine Run.seq ?_
 refine sr ?_
 refine mvo rfl rfl ?_
 refine RunL.call C84 rfl rfl rfl (c_r9Right R _ _ ts hR hz hl) tks ?_
 refine RunL.op rfl rfl (OpJ.not rfl ?_)
 refine kp [0, 8] rfl ?_
 first | refine Run.if rfl (fun h1 => ?_) (fun h1 => ?_) | refine Run.cond rfl (fun h1 => ?_) (fun h1 => ?_)
 refine sr ?_
 refine sx 2 ?_
 refine kp [2, 3] rfl ?_
 refine Run.ret ?_
 exact ret_one (.tmp rfl (.tmp rfl .nil)) (by have hn : ¬ rightB ts = true := (by simpa using h1); unfold textV; rw [if_neg hn, if_neg hn]; rfl) gv
 refine Run.skip ?_
 refine sr ?_
 have hrt : rightB ts = true := by simpa using h1
 have hl6 := right_len hrt
 refine asg rfl rfl ?_
 refine kp [0, 4] rfl ?_
 refine Run.seq ?_
 refine sr ?_
 refine asg rfl rfl ?_
 refine kp [0, 4, 5] rfl ?_
 refine Run.block ?_
 refine Run.loop (fun mm E L => ∃ (i : Nat) (s : ByteArray), mm = ts.length - i ∧ i ≤ ts.length ∧ textI i s (ts.drop i) = textL ts ∧ s.size ≤ 30 * i ∧ E = [(0, .slice oa ts.length cap), (4, St s), (5, I i)] ∧ L = [R]) ⟨_, 0, bs0, rfl, Nat.zero_le _, rfl, by decide, rfl, rfl⟩ ?_
 rintro _ _ _ ⟨i, s, rfl, hi, htx, hsz, rfl, rfl⟩
 refine Run.seq ?_
 refine sr ?_
 refine sx 4 ?_
 refine kp [0, 4, 5, 12] rfl ?_
 first | refine Run.if rfl (fun h2 => ?_) (fun h2 => ?_) | refine Run.cond rfl (fun h2 => ?_) (fun h2 => ?_)
 refine Run.skip ?_
 refine Run.seq ?_
 refine Run.block ?_
 refine Run.seq ?_
 refine sr ?_
 obtain ⟨t, ht⟩ := get_ex (xs := ts) (i := i) (by omega)
 have htg := tg_size (right_at hrt ht)
 refine RunL.rdOpen pk hR (flat_ne (k := 2) (fun _ => rfl) (by decide) ht) fun b o eb hrd => ?_
 subst eb
 refine sx 2 ?_
 refine kp [0, 4, 5, 16] rfl ?_
 first | refine Run.if rfl (fun h3 => ?_) (fun h3 => ?_) | refine Run.cond rfl (fun h3 => ?_) (fun h3 => ?_)
 refine Run.region ?_
 refine mvo rfl rfl ?_
 refine RunL.op rfl rfl (OpJ.addS rfl rfl (by rw [comma_size]; omega) ?_)
 refine asg rfl rfl ?_
 refine kp [0, 4, 5] rfl ?_
 refine regionD HM ?_
 refine tk 0 rfl rfl rfl (DetJ.move rfl) ?_
 refine tk 1 rfl rfl rfl (DetJ.move rfl) ?_
 refine tk 2 rfl rfl rfl (DetJ.move rfl) ?_
 refine tk 3 rfl rfl rfl (DetJ.indexAddr S71 rfl rfl (by omega)) ?_
 refine tk 4 rfl rfl rfl (DetJ.fieldAddr F151_0 rfl) ?_
 refine RunD.takeR1 5 rfl rfl kr T9 rfl pk (hrd.at (enc := Tg.c) 2 (fun _ => rfl) ht 0 (St t.name) rfl) ?_
 refine tk 6 rfl rfl rfl (DetJ.addS rfl rfl (by rw [equals_size]; omega)) ?_
 refine tk 7 rfl rfl rfl (DetJ.move rfl) ?_
 refine tk 8 rfl rfl rfl (DetJ.move rfl) ?_
 refine tk 9 rfl rfl rfl (DetJ.indexAddr S71 rfl rfl (by omega)) ?_
 refine tk 10 rfl rfl rfl (DetJ.fieldAddr F151_1 rfl) ?_
 refine RunD.takeR1 11 rfl rfl kr T9 rfl pk (hrd.at (enc := Tg.c) 2 (fun _ => rfl) ht 1 (St t.value) rfl) ?_
 refine tk 12 rfl rfl rfl (DetJ.addS rfl rfl (by rw [app_size, equals_size]; omega)) ?_
 refine tk 13 rfl rfl rfl (DetJ.addS rfl rfl (by simp only [app_size, equals_size, comma_size]; omega)) ?_
 refine tk 14 rfl rfl rfl (DetJ.assign rfl) ?_
 refine kd [0, 4, 5] rfl ?_
 refine Run.region ?_
 refine sx 3 ?_
 have hst := textI_step (s := s) ht
 rw [if_neg (by omega)] at hst
 exact RunL.next (Keep.sub (kt (ks := [0, 4, 5]) rfl)) _ ⟨_, by omega, i + 1, _, rfl, by omega, (by rw [← hst]; exact htx), (by simp only [app_size, equals_size, comma_size]; omega), rfl, rfl⟩ gv
 refine Run.skip ?_
 refine regionD HM ?_
 refine tk 0 rfl rfl rfl (DetJ.move rfl) ?_
 refine tk 1 rfl rfl rfl (DetJ.move rfl) ?_
 refine tk 2 rfl rfl rfl (DetJ.move rfl) ?_
 refine tk 3 rfl rfl rfl (DetJ.indexAddr S71 rfl rfl (by omega)) ?_
 refine tk 4 rfl rfl rfl (DetJ.fieldAddr F151_0 rfl) ?_
 refine RunD.takeR1 5 rfl rfl kr T9 rfl pk (hrd.at (enc := Tg.c) 2 (fun _ => rfl) ht 0 (St t.name) rfl) ?_
 refine tk 6 rfl rfl rfl (DetJ.addS rfl rfl (by rw [equals_size]; omega)) ?_
 refine tk 7 rfl rfl rfl (DetJ.move rfl) ?_
 refine tk 8 rfl rfl rfl (DetJ.move rfl) ?_
 refine tk 9 rfl rfl rfl (DetJ.indexAddr S71 rfl rfl (by omega)) ?_
 refine tk 10 rfl rfl rfl (DetJ.fieldAddr F151_1 rfl) ?_
 refine RunD.takeR1 11 rfl rfl kr T9 rfl pk (hrd.at (enc := Tg.c) 2 (fun _ => rfl) ht 1 (St t.value) rfl) ?_
 refine tk 12 rfl rfl rfl (DetJ.addS rfl rfl (by rw [app_size, equals_size]; omega)) ?_
 refine tk 13 rfl rfl rfl (DetJ.addS rfl rfl (by simp only [app_size, equals_size, comma_size]; omega)) ?_
 refine tk 14 rfl rfl rfl (DetJ.assign rfl) ?_
 refine kd [0, 4, 5] rfl ?_
 refine Run.region ?_
 refine sx 3 ?_
 have hst := textI_step (s := s) ht
 rw [if_pos (by omega)] at hst
 exact RunL.next (Keep.sub (kt (ks := [0, 4, 5]) rfl)) _ ⟨_, by omega, i + 1, _, rfl, by omega, (by rw [← hst]; exact htx), (by simp only [app_size, equals_size, comma_size]; omega), rfl, rfl⟩ gv
 refine Run.exit ?_
 refine sr ?_
 refine sx 3 ?_
 refine kp [2, 3] rfl ?_
 refine Run.ret ?_
 exact ret_one (.tmp rfl (.tmp rfl .nil)) (by rw [textI_end (by omega)] at htx; unfold textV; rw [if_pos hrt, if_pos hrt, htx]; rfl) gv
theorem c_r12opt (s : ByteArray) (hs : (s.size : Int) ≤ 9223372036854775807) : AC Tryz.prog 137 ⟨[St s]⟩ (stars []) (Ret (Bo (optB s)) []) := by
 refine AC.go Tryz.func137 rfl (Nat.le_of_ble_eq_true rfl) fun β => ?_
 refine sr ?_
 refine asg rfl rfl ?_
 refine kp [0] rfl ?_
 refine sr ?_
 refine sx 3 ?_
 first | refine RunL.splitP (t := 5) rfl (fun g1 => ?_) (fun g1 => ?_) | refine RunL.split (t := 5) rfl (fun g1 => ?_) (fun g1 => ?_)
 refine sx 4 ?_
 refine kp [2] rfl ?_
 refine Run.ret ?_
 exact ret_one (.tmp rfl .nil) (by show Value.bool _ = Value.bool _; unfold optB; simp_all) gv
 refine sx 1 ?_
 refine RunL.callG C134 rfl rfl rfl rfl rfl (c_r6Code _ (by assumption)) .nil ?_
 refine sx 2 ?_
 refine kp [2] rfl ?_
 refine Run.ret ?_
 exact ret_one (.tmp rfl .nil) (by show Value.bool _ = Value.bool _; unfold optB; simp_all) gv
theorem c_r12within (n lim : Int) (hl : 0 ≤ lim ∧ lim ≤ 1000000000000000) : AC Tryz.prog 138 ⟨[I n, I lim]⟩ (stars []) (Ret (Bo (wiB n lim)) []) := by
 refine AC.go Tryz.func138 rfl (Nat.le_of_ble_eq_true rfl) fun β => ?_
 refine sr ?_
 refine asg rfl rfl ?_
 refine kp [0, 1] rfl ?_
 refine sr ?_
 refine sx 3 ?_
 refine RunL.set (congrArg I (show _ = -lim by rw [wrap_i64_in (by omega)]; omega)) ?_
 refine sx 2 ?_
 first | refine RunL.splitP (t := 9) rfl (fun g1 => ?_) (fun g1 => ?_) | refine RunL.split (t := 9) rfl (fun g1 => ?_) (fun g1 => ?_)
 refine sx 5 ?_
 refine kp [4] rfl ?_
 refine Run.ret ?_
 exact ret_one (.tmp rfl .nil) (by first | (simp [tup, wiB,  *]; done) | (exfalso; omega)) gv
 refine sx 5 ?_
 refine kp [4] rfl ?_
 refine Run.ret ?_
 exact ret_one (.tmp rfl .nil) (by first | (simp [tup, wiB,  *]; done) | (exfalso; omega)) gv
theorem c_r12day (n : Int) : AC Tryz.prog 135 ⟨[I n]⟩ (stars []) (Ret (Bo (inB n 0 109572)) []) := by
 refine AC.go Tryz.func135 rfl (Nat.le_of_ble_eq_true rfl) fun β => ?_
 refine sr ?_
 refine asg rfl rfl ?_
 refine kp [0] rfl ?_
 refine sr ?_
 refine sx 3 ?_
 first | refine RunL.splitP (t := 5) rfl (fun g1 => ?_) (fun g1 => ?_) | refine RunL.split (t := 5) rfl (fun g1 => ?_) (fun g1 => ?_)
 refine sx 4 ?_
 refine kp [2] rfl ?_
 refine Run.ret ?_
 exact ret_one (.tmp rfl .nil) (by first | (simp [tup, inB,  *]; done) | (exfalso; omega)) gv
 refine sx 4 ?_
 refine kp [2] rfl ?_
 refine Run.ret ?_
 exact ret_one (.tmp rfl .nil) (by first | (simp [tup, inB,  *]; done) | (exfalso; omega)) gv
theorem c_r12Line (l : Ln) (R : HP) (hT : RdS R l.ta (l.tags.flatMap Tg.c)) (hz : l.sz) : AC Tryz.prog 86 ⟨[.agg ⟨l.c⟩]⟩ (stars [R]) (Ret (I (lineE l)) [R]) := by
 obtain ⟨z1, z2, z3, z4, z5, z6⟩ := hz
 refine AC.go Tryz.func86 rfl (Nat.le_of_ble_eq_true rfl) fun β => ?_
 refine sr ?_
 refine RunL.op rfl rfl (OpJ.boxA rfl fun b1 => ?_)
 refine asg rfl rfl ?_
 refine kp [1] rfl ?_
 refine Run.seq ?_
 refine Run.block ?_
 refine sr ?_
 refine RunL.cut (t := 3) (v := Bo (!codeB l.acc || !optB l.partner || !optB l.party)) (kt (ks := [1]) rfl) ?_ ?_
 refine sx 2 ?_
 refine RunL.call C134 rfl rfl rfl (c_r6Code _ (by assumption)) .nil ?_
 refine sx 2 ?_
 first | refine RunL.splitP (t := 8) rfl (fun g1 => ?_) (fun g1 => ?_) | refine RunL.split (t := 8) rfl (fun g1 => ?_) (fun g1 => ?_)
 refine sx 12 ?_
 exact RunL.nil ⟨.cons (by first | rfl | (show some (Value.bool _) = some (Value.bool _); simp_all)) (kt (ks := [1]) rfl), rfl⟩
 refine sx 2 ?_
 refine RunL.callG C137 rfl rfl rfl rfl rfl (c_r12opt _ (by assumption)) .nil ?_
 refine sx 3 ?_
 first | refine RunL.splitP (t := 14) rfl (fun g2 => ?_) (fun g2 => ?_) | refine RunL.split (t := 14) rfl (fun g2 => ?_) (fun g2 => ?_)
 refine sx 6 ?_
 exact RunL.nil ⟨.cons (by first | rfl | (show some (Value.bool _) = some (Value.bool _); simp_all)) (kt (ks := [1]) rfl), rfl⟩
 refine sx 2 ?_
 refine RunL.callG C137 rfl rfl rfl rfl rfl (c_r12opt _ (by assumption)) .nil ?_
 refine sx 3 ?_
 exact RunL.nil ⟨.cons (by first | rfl | (show some (Value.bool _) = some (Value.bool _); simp_all)) (kt (ks := [1]) rfl), rfl⟩
 first | refine Run.if rfl (fun h3 => ?_) (fun h3 => ?_) | refine Run.cond rfl (fun h3 => ?_) (fun h3 => ?_)
 refine sr ?_
 refine asg rfl rfl ?_
 refine kp [2] rfl ?_
 refine Run.ret ?_
 exact ret_one (.tmp rfl .nil) (congrArg I (by unfold lineE; simp_all)) gv
 refine sr ?_
 refine sx 2 ?_
 refine RunL.call C108 rfl rfl rfl (c_r7 _) .nil ?_
 refine sx 2 ?_
 refine kp [1, 20] rfl ?_
 first | refine Run.if rfl (fun h4 => ?_) (fun h4 => ?_) | refine Run.cond rfl (fun h4 => ?_) (fun h4 => ?_)
 refine sr ?_
 refine asg rfl rfl ?_
 refine kp [2] rfl ?_
 refine Run.ret ?_
 exact ret_one (.tmp rfl .nil) (congrArg I (by unfold lineE; simp_all)) gv
 refine sr ?_
 refine RunL.cut (t := 25) (v := Bo (!wiB l.amt 1000000000000 || !wiB l.base 1000000000000)) (kt (ks := [1]) rfl) ?_ ?_
 refine sx 2 ?_
 refine RunL.call C138 rfl rfl rfl (c_r12within _ _ (by omega)) .nil ?_
 refine sx 2 ?_
 first | refine RunL.splitP (t := 30) rfl (fun g5 => ?_) (fun g5 => ?_) | refine RunL.split (t := 30) rfl (fun g5 => ?_) (fun g5 => ?_)
 refine sx 6 ?_
 exact RunL.nil ⟨.cons (by first | rfl | (show some (Value.bool _) = some (Value.bool _); simp_all)) (kt (ks := [1]) rfl), rfl⟩
 refine sx 2 ?_
 refine RunL.callG C138 rfl rfl rfl rfl rfl (c_r12within _ _ (by omega)) .nil ?_
 refine sx 3 ?_
 exact RunL.nil ⟨.cons (by first | rfl | (show some (Value.bool _) = some (Value.bool _); simp_all)) (kt (ks := [1]) rfl), rfl⟩
 first | refine Run.if rfl (fun h6 => ?_) (fun h6 => ?_) | refine Run.cond rfl (fun h6 => ?_) (fun h6 => ?_)
 refine sr ?_
 refine asg rfl rfl ?_
 refine kp [2] rfl ?_
 refine Run.ret ?_
 exact ret_one (.tmp rfl .nil) (congrArg I (by unfold lineE; simp_all)) gv
 refine sr ?_
 refine RunL.cut (t := 36) (v := Bo (decide (l.amt = 0) && decide (l.base = 0))) (kt (ks := [1]) rfl) ?_ ?_
 refine sx 4 ?_
 first | refine RunL.splitP (t := 40) rfl (fun g7 => ?_) (fun g7 => ?_) | refine RunL.split (t := 40) rfl (fun g7 => ?_) (fun g7 => ?_)
 refine sx 5 ?_
 exact RunL.nil ⟨.cons (by first | rfl | (show some (Value.bool _) = some (Value.bool _); simp_all)) (kt (ks := [1]) rfl), rfl⟩
 refine sx 5 ?_
 exact RunL.nil ⟨.cons (by first | rfl | (show some (Value.bool _) = some (Value.bool _); simp_all)) (kt (ks := [1]) rfl), rfl⟩
 first | refine Run.if rfl (fun h8 => ?_) (fun h8 => ?_) | refine Run.cond rfl (fun h8 => ?_) (fun h8 => ?_)
 refine sr ?_
 refine asg rfl rfl ?_
 refine kp [2] rfl ?_
 refine Run.ret ?_
 exact ret_one (.tmp rfl .nil) (congrArg I (by unfold lineE; simp_all)) gv
 refine sr ?_
 refine sx 2 ?_
 refine RunL.call C84 rfl rfl rfl (c_r9Right R _ _ l.tags hT z5 z6) tks ?_
 refine sx 2 ?_
 refine kp [45] rfl ?_
 first | refine Run.if rfl (fun h9 => ?_) (fun h9 => ?_) | refine Run.cond rfl (fun h9 => ?_) (fun h9 => ?_)
 refine sr ?_
 refine asg rfl rfl ?_
 refine kp [2] rfl ?_
 refine Run.ret ?_
 exact ret_one (.tmp rfl .nil) (congrArg I (by unfold lineE; simp_all)) gv
 refine Run.skip ?_
 refine sr ?_
 refine asg rfl rfl ?_
 refine kp [2] rfl ?_
 refine Run.ret ?_
 exact ret_one (.tmp rfl .nil) (congrArg I (by unfold lineE; simp_all)) gv
theorem c_r12head (e : En) (hz : e.sz) : AC Tryz.prog 85 ⟨[.agg ⟨e.c⟩]⟩ (stars []) (Ret (I (headE e)) []) := by
 obtain ⟨z1, z2, z3, z4⟩ := hz
 refine AC.go Tryz.func85 rfl (Nat.le_of_ble_eq_true rfl) fun β => ?_
 refine sr ?_
 refine RunL.op rfl rfl (OpJ.boxA rfl fun b1 => ?_)
 refine asg rfl rfl ?_
 refine kp [1] rfl ?_
 refine Run.seq ?_
 refine Run.block ?_
 refine sr ?_
 refine RunL.cut (t := 3) (v := Bo (decide (e.no < 0 ∨ 4000 < e.no ∨ e.rev < 0 ∨ 4000 < e.rev))) (kt (ks := [1]) rfl) ?_ ?_
 refine sx 4 ?_
 first | refine RunL.splitP (t := 7) rfl (fun g1 => ?_) (fun g1 => ?_) | refine RunL.split (t := 7) rfl (fun g1 => ?_) (fun g1 => ?_)
 refine sx 15 ?_
 exact RunL.nil ⟨.cons (by first | rfl | (show some (Value.bool _) = some (Value.bool _); congr 2; rw [Bool.eq_iff_iff]; simp; omega) | (show some (Value.bool _) = some (Value.bool _); congr 2; simp; omega) | (show some (Value.bool _) = some (Value.bool _); simp_all)) (kt (ks := [1]) rfl), rfl⟩
 refine sx 5 ?_
 first | refine RunL.splitP (t := 12) rfl (fun g2 => ?_) (fun g2 => ?_) | refine RunL.split (t := 12) rfl (fun g2 => ?_) (fun g2 => ?_)
 refine sx 10 ?_
 exact RunL.nil ⟨.cons (by first | rfl | (show some (Value.bool _) = some (Value.bool _); congr 2; rw [Bool.eq_iff_iff]; simp; omega) | (show some (Value.bool _) = some (Value.bool _); congr 2; simp; omega) | (show some (Value.bool _) = some (Value.bool _); simp_all)) (kt (ks := [1]) rfl), rfl⟩
 refine sx 5 ?_
 first | refine RunL.splitP (t := 17) rfl (fun g3 => ?_) (fun g3 => ?_) | refine RunL.split (t := 17) rfl (fun g3 => ?_) (fun g3 => ?_)
 refine sx 5 ?_
 exact RunL.nil ⟨.cons (by first | rfl | (show some (Value.bool _) = some (Value.bool _); congr 2; rw [Bool.eq_iff_iff]; simp; omega) | (show some (Value.bool _) = some (Value.bool _); congr 2; simp; omega) | (show some (Value.bool _) = some (Value.bool _); simp_all)) (kt (ks := [1]) rfl), rfl⟩
 refine sx 5 ?_
 exact RunL.nil ⟨.cons (by first | rfl | (show some (Value.bool _) = some (Value.bool _); congr 2; rw [Bool.eq_iff_iff]; simp; omega) | (show some (Value.bool _) = some (Value.bool _); congr 2; simp; omega) | (show some (Value.bool _) = some (Value.bool _); simp_all)) (kt (ks := [1]) rfl), rfl⟩
 first | refine Run.if rfl (fun h4 => ?_) (fun h4 => ?_) | refine Run.cond rfl (fun h4 => ?_) (fun h4 => ?_)
 refine sr ?_
 refine asg rfl rfl ?_
 refine kp [2] rfl ?_
 refine Run.ret ?_
 exact ret_one (.tmp rfl .nil) (congrArg I (by unfold headE; simp_all <;> omega)) gv
 refine sr ?_
 refine RunL.cut (t := 22) (v := Bo (!codeB e.ent || !codeB e.who)) (kt (ks := [1]) rfl) ?_ ?_
 refine sx 2 ?_
 refine RunL.call C134 rfl rfl rfl (c_r6Code _ (by assumption)) .nil ?_
 refine sx 2 ?_
 first | refine RunL.splitP (t := 27) rfl (fun g5 => ?_) (fun g5 => ?_) | refine RunL.split (t := 27) rfl (fun g5 => ?_) (fun g5 => ?_)
 refine sx 6 ?_
 exact RunL.nil ⟨.cons (by first | rfl | (show some (Value.bool _) = some (Value.bool _); simp_all)) (kt (ks := [1]) rfl), rfl⟩
 refine sx 2 ?_
 refine RunL.callG C134 rfl rfl rfl rfl rfl (c_r6Code _ (by assumption)) .nil ?_
 refine sx 3 ?_
 exact RunL.nil ⟨.cons (by first | rfl | (show some (Value.bool _) = some (Value.bool _); simp_all)) (kt (ks := [1]) rfl), rfl⟩
 first | refine Run.if rfl (fun h6 => ?_) (fun h6 => ?_) | refine Run.cond rfl (fun h6 => ?_) (fun h6 => ?_)
 refine sr ?_
 refine asg rfl rfl ?_
 refine kp [2] rfl ?_
 refine Run.ret ?_
 exact ret_one (.tmp rfl .nil) (congrArg I (by unfold headE; simp_all <;> omega)) gv
 refine sr ?_
 refine RunL.cut (t := 33) (v := Bo (!inB e.book 0 109572 || !inB e.value 0 109572)) (kt (ks := [1]) rfl) ?_ ?_
 refine sx 2 ?_
 refine RunL.call C135 rfl rfl rfl (c_r12day _) .nil ?_
 refine sx 2 ?_
 first | refine RunL.splitP (t := 38) rfl (fun g7 => ?_) (fun g7 => ?_) | refine RunL.split (t := 38) rfl (fun g7 => ?_) (fun g7 => ?_)
 refine sx 6 ?_
 exact RunL.nil ⟨.cons (by first | rfl | (show some (Value.bool _) = some (Value.bool _); simp_all)) (kt (ks := [1]) rfl), rfl⟩
 refine sx 2 ?_
 refine RunL.callG C135 rfl rfl rfl rfl rfl (c_r12day _) .nil ?_
 refine sx 3 ?_
 exact RunL.nil ⟨.cons (by first | rfl | (show some (Value.bool _) = some (Value.bool _); simp_all)) (kt (ks := [1]) rfl), rfl⟩
 first | refine Run.if rfl (fun h8 => ?_) (fun h8 => ?_) | refine Run.cond rfl (fun h8 => ?_) (fun h8 => ?_)
 refine sr ?_
 refine asg rfl rfl ?_
 refine kp [2] rfl ?_
 refine Run.ret ?_
 exact ret_one (.tmp rfl .nil) (congrArg I (by unfold headE; simp_all <;> omega)) gv
 refine sr ?_
 refine RunL.cut (t := 44) (v := Bo (decide (e.kind < 1 ∨ 7 < e.kind))) (kt (ks := [1]) rfl) ?_ ?_
 refine sx 4 ?_
 first | refine RunL.splitP (t := 48) rfl (fun g9 => ?_) (fun g9 => ?_) | refine RunL.split (t := 48) rfl (fun g9 => ?_) (fun g9 => ?_)
 refine sx 5 ?_
 exact RunL.nil ⟨.cons (by first | rfl | (show some (Value.bool _) = some (Value.bool _); congr 2; simp; omega) | (show some (Value.bool _) = some (Value.bool _); simp_all)) (kt (ks := [1]) rfl), rfl⟩
 refine sx 5 ?_
 exact RunL.nil ⟨.cons (by first | rfl | (show some (Value.bool _) = some (Value.bool _); congr 2; simp; omega) | (show some (Value.bool _) = some (Value.bool _); simp_all)) (kt (ks := [1]) rfl), rfl⟩
 first | refine Run.if rfl (fun h10 => ?_) (fun h10 => ?_) | refine Run.cond rfl (fun h10 => ?_) (fun h10 => ?_)
 refine sr ?_
 refine asg rfl rfl ?_
 refine kp [2] rfl ?_
 refine Run.ret ?_
 exact ret_one (.tmp rfl .nil) (congrArg I (by unfold headE; simp_all <;> omega)) gv
 refine sr ?_
 refine sx 2 ?_
 refine RunL.call C136 rfl rfl rfl (c_r6Plain _ (by assumption)) .nil ?_
 refine sx 2 ?_
 refine kp [1, 53] rfl ?_
 first | refine Run.if rfl (fun h11 => ?_) (fun h11 => ?_) | refine Run.cond rfl (fun h11 => ?_) (fun h11 => ?_)
 refine sr ?_
 refine asg rfl rfl ?_
 refine kp [2] rfl ?_
 refine Run.ret ?_
 exact ret_one (.tmp rfl .nil) (congrArg I (by unfold headE; simp_all <;> omega)) gv
 refine sr ?_
 refine sx 5 ?_
 refine kp [1, 58] rfl ?_
 first | refine Run.if rfl (fun h12 => ?_) (fun h12 => ?_) | refine Run.cond rfl (fun h12 => ?_) (fun h12 => ?_)
 refine sr ?_
 refine asg rfl rfl ?_
 refine kp [2] rfl ?_
 refine Run.ret ?_
 exact ret_one (.tmp rfl .nil) (congrArg I (by unfold headE; simp_all <;> omega)) gv
 refine sr ?_
 refine sx 5 ?_
 refine kp [63] rfl ?_
 first | refine Run.if rfl (fun h13 => ?_) (fun h13 => ?_) | refine Run.cond rfl (fun h13 => ?_) (fun h13 => ?_)
 refine sr ?_
 refine asg rfl rfl ?_
 refine kp [2] rfl ?_
 refine Run.ret ?_
 exact ret_one (.tmp rfl .nil) (congrArg I (by unfold headE; simp_all <;> omega)) gv
 refine Run.skip ?_
 refine sr ?_
 refine asg rfl rfl ?_
 refine kp [2] rfl ?_
 refine Run.ret ?_
 exact ret_one (.tmp rfl .nil) (congrArg I (by unfold headE; simp_all <;> omega)) gv
theorem c_r12curs (R : HP) (oa : Option Addr) (cap : Nat) (ls : List Ln) (hR : RdS R oa (ls.flatMap Ln.c)) (hl : ls.length ≤ 1000) : AC Tryz.prog 139 ⟨[.slice oa ls.length cap]⟩ (stars [R]) (Outs (fun _ : Option Addr × Nat => True) (fun y => .slice y.1 (sortS (ls.map Ln.cur)).length y.2) (fun y => [own 9 1 y.1 (sortS (ls.map Ln.cur)).length y.2 ((sortS (ls.map Ln.cur)).flatMap Sb), R])) := by
 refine AC.go Tryz.func139 rfl (Nat.le_of_ble_eq_true rfl) fun β => ?_
 refine sr ?_
 refine asg rfl rfl ?_
 refine kp [0] rfl ?_
 refine sr ?_
 refine asg rfl rfl ?_
 refine kp [0, 3] rfl ?_
 refine Run.seq ?_
 refine sr ?_
 refine RunL.ownNil 9 1 ?_
 refine asg rfl rfl ?_
 refine kp [0, 3, 4] rfl ?_
 refine Run.block ?_
 refine Run.loop (fun mm E L => ∃ (i : Nat) (cs : List ByteArray) (ca : Option Addr) (cc : Nat), mm = ls.length - i ∧ i ≤ ls.length ∧ cs = curT Ln.cur ls i ∧ E = [(0, .slice oa ls.length cap), (3, .slice ca cs.length cc), (4, I i)] ∧ L = [own 9 1 ca cs.length cc (cs.flatMap Sb), R]) ⟨_, 0, [], none, 0, rfl, Nat.zero_le _, rfl, rfl, rfl⟩ ?_
 rintro _ _ _ ⟨i, cs, ca, cc, rfl, hi, hC, rfl, rfl⟩
 refine Run.seq ?_
 refine sr ?_
 refine sx 4 ?_
 refine kp [0, 3, 4, 9] rfl ?_
 first | refine Run.if rfl (fun h1 => ?_) (fun h1 => ?_) | refine Run.cond rfl (fun h1 => ?_) (fun h1 => ?_)
 refine Run.skip ?_
 refine Run.seq ?_
 refine Run.block ?_
 refine sr ?_
 obtain ⟨y, hy⟩ := get_ex (xs := ls) (i := i) (by omega)
 refine RunL.rdOpen pk hR (flat_ne (k := 7) (fun _ => rfl) (by decide) hy) fun b o eb hrd => ?_
 subst eb
 refine RunL.ownLe (oa := ca) pk fun hcc => ?_
 have hcl := curT_len (f := Ln.cur) (ls := ls) (i := i) hi
 rw [← hC] at hcl
 refine asg rfl rfl ?_
 refine kp [0, 3, 4, 5] rfl ?_
 refine Run.seq ?_
 refine Run.block ?_
 refine Run.loop (fun mm E L => ∃ k : Nat, mm = cs.length - k ∧ k ≤ cs.length ∧ (∀ j z, j < k → cs[j]? = some z → blt z y.cur = true) ∧ E = [(0, .slice (some ⟨b, o, none⟩) ls.length cap), (3, .slice ca cs.length cc), (4, I i), (5, I k)] ∧ L = [own 9 1 ca cs.length cc (cs.flatMap Sb), R]) ⟨_, 0, rfl, Nat.zero_le _, (fun j z h => by omega), rfl, rfl⟩ ?_
 rintro _ _ _ ⟨k, rfl, hkl, hI1, rfl, rfl⟩
 refine Run.seq ?_
 refine Run.seq ?_
 refine regionD HM ?_
 refine tk 0 rfl rfl rfl (DetJ.move rfl) ?_
 refine tk 1 rfl rfl rfl (DetJ.move rfl) ?_
 refine tk 2 rfl rfl rfl (DetJ.len S55 rfl) ?_
 refine tk 3 rfl rfl rfl (DetJ.lss rfl rfl) ?_
 refine tk 4 rfl rfl rfl (DetJ.move rfl) ?_
 by_cases hk : k < cs.length
 obtain ⟨c, hc⟩ := get_ex (xs := cs) (i := k) (by omega)
 refine RunD.ownAddr (oa := ca) pk (flat_ne (k := 1) (fun _ => rfl) (by decide) hc) fun bs e1 hcap1 => ?_
 subst e1
 refine RunD.set (congrArg Bo (decide_eq_true (by omega))) ?_
 refine RunD.takeG 5 rfl rfl rfl rfl rfl kr (DetJ.move rfl) .nil ?_
 refine RunD.takeG 6 rfl rfl rfl rfl rfl kr (DetJ.move rfl) .nil ?_
 refine RunD.takeG 7 rfl rfl rfl rfl rfl kr (DetJ.indexAddr S55 rfl rfl (by omega)) .nil ?_
 refine RunD.takeGR1 8 rfl rfl rfl rfl kr T9 rfl pk (own.el (enc := Sb) hc (by decide) (fun _ => rfl)) ?_
 refine RunD.takeG 9 rfl rfl rfl rfl rfl kr (DetJ.move rfl) .nil ?_
 refine RunD.takeG 10 rfl rfl rfl rfl rfl kr (DetJ.move rfl) .nil ?_
 refine RunD.takeG 11 rfl rfl rfl rfl rfl kr (DetJ.indexAddr S40 rfl rfl (by omega)) .nil ?_
 refine RunD.takeG 12 rfl rfl rfl rfl rfl kr (DetJ.fieldAddr F73_1 rfl) .nil ?_
 refine RunD.takeGR1 13 rfl rfl rfl rfl kr T9 rfl pk (hrd.at (enc := Ln.c) 7 (fun _ => rfl) hy 1 (St y.cur) rfl) ?_
 refine RunD.takeG 14 rfl rfl rfl rfl rfl kr (DetJ.lssS rfl rfl) .nil ?_
 refine tk 15 rfl rfl rfl (DetJ.pickT rfl rfl) ?_
 refine kd [0, 3, 4, 5, 27] rfl ?_
 first | refine Run.if rfl (fun h2 => ?_) (fun h2 => ?_) | refine Run.cond rfl (fun h2 => ?_) (fun h2 => ?_)
 refine Run.skip ?_
 refine Run.block ?_
 refine Run.region ?_
 refine sx 3 ?_
 exact RunL.next (Keep.sub (kt (ks := [0, 3, 4, 5]) rfl)) _ ⟨_, by omega, k + 1, rfl, by omega, (fun j z hj hz => by { by_cases e : j = k; (subst e; rw [hc] at hz; cases hz; simp_all [blt]); exact hI1 j z (by omega) hz }), rfl, rfl⟩ gv
 refine Run.exit ?_
 refine Run.seq ?_
 refine regionD HM ?_
 refine tk 0 rfl rfl rfl (DetJ.move rfl) ?_
 refine tk 1 rfl rfl rfl (DetJ.move rfl) ?_
 refine tk 2 rfl rfl rfl (DetJ.len S55 rfl) ?_
 refine tk 3 rfl rfl rfl (DetJ.eql rfl rfl) ?_
 refine tk 4 rfl rfl rfl (DetJ.move rfl) ?_
 skip
 have hins := insS_at (c := y.cur) hkl hI1 (fun z hz => by rw [hc] at hz; cases hz; simp_all [blt])
 refine RunD.set (congrArg Bo (decide_eq_false (by omega))) ?_
 refine RunD.takeG 5 rfl rfl rfl rfl rfl kr (DetJ.move rfl) .nil ?_
 refine RunD.takeG 6 rfl rfl rfl rfl rfl kr (DetJ.move rfl) .nil ?_
 refine RunD.takeG 7 rfl rfl rfl rfl rfl kr (DetJ.indexAddr S55 rfl rfl (by omega)) .nil ?_
 refine RunD.takeGR1 8 rfl rfl rfl rfl kr T9 rfl pk (own.el (enc := Sb) hc (by decide) (fun _ => rfl)) ?_
 refine RunD.takeG 9 rfl rfl rfl rfl rfl kr (DetJ.move rfl) .nil ?_
 refine RunD.takeG 10 rfl rfl rfl rfl rfl kr (DetJ.move rfl) .nil ?_
 refine RunD.takeG 11 rfl rfl rfl rfl rfl kr (DetJ.indexAddr S40 rfl rfl (by omega)) .nil ?_
 refine RunD.takeG 12 rfl rfl rfl rfl rfl kr (DetJ.fieldAddr F73_1 rfl) .nil ?_
 refine RunD.takeGR1 13 rfl rfl rfl rfl kr T9 rfl pk (hrd.at (enc := Ln.c) 7 (fun _ => rfl) hy 1 (St y.cur) rfl) ?_
 refine RunD.takeG 14 rfl rfl rfl rfl rfl kr (DetJ.neqS rfl rfl) .nil ?_
 refine tk 15 rfl rfl rfl (DetJ.pickF rfl rfl) ?_
 refine kd [0, 3, 4, 5, 45] rfl ?_
 first | refine Run.if rfl (fun h3 => ?_) (fun h3 => ?_) | refine Run.cond rfl (fun h3 => ?_) (fun h3 => ?_)
 refine regionD HM ?_
 refine tk 1 rfl rfl rfl (DetJ.move rfl) ?_
 refine tk 2 rfl rfl rfl (DetJ.move rfl) ?_
 refine tk 3 rfl rfl rfl (DetJ.sliceHi S55 rfl rfl (by omega)) ?_
 refine tk 5 rfl rfl rfl (DetJ.move rfl) ?_
 refine tk 6 rfl rfl rfl (DetJ.move rfl) ?_
 refine tk 7 rfl rfl rfl (DetJ.indexAddr S40 rfl rfl (by omega)) ?_
 refine tk 8 rfl rfl rfl (DetJ.fieldAddr F73_1 rfl) ?_
 refine RunD.takeR1 9 rfl rfl kr T9 rfl pk (hrd.at (enc := Ln.c) 7 (fun _ => rfl) hy 1 (St y.cur) rfl) ?_
 refine tk 12 rfl rfl rfl (DetJ.move rfl) ?_
 refine tk 13 rfl rfl rfl (DetJ.move rfl) ?_
 refine tk 14 rfl rfl rfl (DetJ.sliceLoA S55 rfl rfl (by omega)) ?_
 refine RunD.two 0 10 [true, true, true, true, true, true, true, true, true, true, true] [true, true, true, false, false, false, true, true, true, true, true] rfl rfl rfl rfl rfl rfl kr kr kr (OpJ.buildSlice0 S55 fun b46 => ⟨po, ?_⟩) (OpJ.buildSlice1 S55 rfl rfl rfl (by decide) (by decide) Z9 rfl fun b56 => ⟨po, ?_⟩)
 refine RunD.two 4 10 [true, true, true, true, true, true, true, true, false, false, false] [true, true, true, false, false, false, true, true, true, true, true] rfl rfl rfl rfl rfl rfl kr kr kr (OpJ.appendAll S55 M9 rfl rfl pk pk (own.rds.lo (enc := Sb) (fun _ => rfl) k) (by rw [flat_len (k := 1) (fun _ => rfl), List.length_take]; congr 1; omega) (by decide) (flat_one sb1 _) (by omega) (by omega) fun a50 c50 => ⟨po, ?_⟩) (OpJ.buildSlice1 S55 rfl rfl rfl (by decide) (by decide) Z9 rfl fun b56 => ⟨po, ?_⟩)
 simp only [Nat.zero_add, List.nil_append]
 refine RunD.op 10 [true, true, true, false, false, false, true, true] rfl rfl rfl kr kr (OpJ.buildSlice1 S55 rfl rfl rfl (by decide) (by decide) Z9 rfl fun b56 => ⟨po, ?_⟩)
 refine RunD.op 11 [true, true, true, true, true] rfl rfl rfl kr kr (OpJ.append1 (xs := cs.take k) y.cur S55 M9 rfl rfl pk pk rfl rfl (by simp [Value.oneCell', Sb]) (by rw [List.length_take]; omega) (by rw [List.length_take]; omega) (by rw [List.length_take]; omega) fun a57 c57 => ⟨po, ?_⟩)
 have htl : (cs.take k ++ [y.cur]).length = k + 1 := (by rw [List.length_append, List.length_take, List.length_singleton]; omega)
 rw [htl]
 refine RunD.op 15 [false, false, false, true, true] rfl rfl rfl kr kr (OpJ.appendAll S55 M9 rfl rfl pk pk (own.rds.cut (enc := Sb) (fun _ => rfl) k (by omega)) (by rw [flat_len (k := 1) (fun _ => rfl), List.length_drop]) (by decide) (flat_one sb1 _) (by omega) (by omega) fun a61 c61 => ⟨po, ?_⟩)
 have hqn : ¬ cs[k]? = some y.cur := (by rw [hc]; simp_all)
 have hins2 := hins
 rw [if_neg hqn] at hins2
 rw [show k + 1 + (cs.length - k) = (insS y.cur cs).length by rw [hins2, List.length_append, List.length_cons, List.length_take, List.length_drop]; omega, show (cs.take k ++ [y.cur]).flatMap Sb ++ (cs.drop k).flatMap Sb = (insS y.cur cs).flatMap Sb by rw [hins2, ← List.flatMap_append, List.append_assoc]; rfl]
 refine tk 16 rfl rfl rfl (DetJ.assign rfl) ?_
 refine kd [0, 3, 4] rfl ?_
 refine Run.region ?_
 refine sx 3 ?_
 exact RunL.next (Keep.sub (kt (ks := [0, 3, 4]) rfl)) _ ⟨_, by omega, i + 1, insS y.cur cs, a61, c61, rfl, by omega, (by rw [curT_step hy, hC]), rfl, rfl⟩ gv
 refine RunD.op 4 [true, true, true, true, true, false, false, false] rfl rfl rfl kr kr (OpJ.appendAll S55 M9 rfl rfl pk pk (own.rds.lo (enc := Sb) (fun _ => rfl) k) (by rw [flat_len (k := 1) (fun _ => rfl), List.length_take]; congr 1; omega) (by decide) (flat_one sb1 _) (by omega) (by omega) fun a50 c50 => ⟨po, ?_⟩)
 simp only [Nat.zero_add, List.nil_append]
 refine RunD.op 11 [true, true, true, true, true] rfl rfl rfl kr kr (OpJ.append1 (xs := cs.take k) y.cur S55 M9 rfl rfl pk pk rfl rfl (by simp [Value.oneCell', Sb]) (by rw [List.length_take]; omega) (by rw [List.length_take]; omega) (by rw [List.length_take]; omega) fun a57 c57 => ⟨po, ?_⟩)
 have htl : (cs.take k ++ [y.cur]).length = k + 1 := (by rw [List.length_append, List.length_take, List.length_singleton]; omega)
 rw [htl]
 refine RunD.op 15 [false, false, false, true, true] rfl rfl rfl kr kr (OpJ.appendAll S55 M9 rfl rfl pk pk (own.rds.cut (enc := Sb) (fun _ => rfl) k (by omega)) (by rw [flat_len (k := 1) (fun _ => rfl), List.length_drop]) (by decide) (flat_one sb1 _) (by omega) (by omega) fun a61 c61 => ⟨po, ?_⟩)
 have hqn : ¬ cs[k]? = some y.cur := (by rw [hc]; simp_all)
 have hins2 := hins
 rw [if_neg hqn] at hins2
 rw [show k + 1 + (cs.length - k) = (insS y.cur cs).length by rw [hins2, List.length_append, List.length_cons, List.length_take, List.length_drop]; omega, show (cs.take k ++ [y.cur]).flatMap Sb ++ (cs.drop k).flatMap Sb = (insS y.cur cs).flatMap Sb by rw [hins2, ← List.flatMap_append, List.append_assoc]; rfl]
 refine tk 16 rfl rfl rfl (DetJ.assign rfl) ?_
 refine kd [0, 3, 4] rfl ?_
 refine Run.region ?_
 refine sx 3 ?_
 exact RunL.next (Keep.sub (kt (ks := [0, 3, 4]) rfl)) _ ⟨_, by omega, i + 1, insS y.cur cs, a61, c61, rfl, by omega, (by rw [curT_step hy, hC]), rfl, rfl⟩ gv
 refine RunD.op 0 [true, true, true, true, true, true, true, true] rfl rfl rfl kr kr (OpJ.buildSlice0 S55 fun b46 => ⟨po, ?_⟩)
 refine RunD.op 4 [true, true, true, true, true, false, false, false] rfl rfl rfl kr kr (OpJ.appendAll S55 M9 rfl rfl pk pk (own.rds.lo (enc := Sb) (fun _ => rfl) k) (by rw [flat_len (k := 1) (fun _ => rfl), List.length_take]; congr 1; omega) (by decide) (flat_one sb1 _) (by omega) (by omega) fun a50 c50 => ⟨po, ?_⟩)
 simp only [Nat.zero_add, List.nil_append]
 refine RunD.op 11 [true, true, true, true, true] rfl rfl rfl kr kr (OpJ.append1 (xs := cs.take k) y.cur S55 M9 rfl rfl pk pk rfl rfl (by simp [Value.oneCell', Sb]) (by rw [List.length_take]; omega) (by rw [List.length_take]; omega) (by rw [List.length_take]; omega) fun a57 c57 => ⟨po, ?_⟩)
 have htl : (cs.take k ++ [y.cur]).length = k + 1 := (by rw [List.length_append, List.length_take, List.length_singleton]; omega)
 rw [htl]
 refine RunD.op 15 [false, false, false, true, true] rfl rfl rfl kr kr (OpJ.appendAll S55 M9 rfl rfl pk pk (own.rds.cut (enc := Sb) (fun _ => rfl) k (by omega)) (by rw [flat_len (k := 1) (fun _ => rfl), List.length_drop]) (by decide) (flat_one sb1 _) (by omega) (by omega) fun a61 c61 => ⟨po, ?_⟩)
 have hqn : ¬ cs[k]? = some y.cur := (by rw [hc]; simp_all)
 have hins2 := hins
 rw [if_neg hqn] at hins2
 rw [show k + 1 + (cs.length - k) = (insS y.cur cs).length by rw [hins2, List.length_append, List.length_cons, List.length_take, List.length_drop]; omega, show (cs.take k ++ [y.cur]).flatMap Sb ++ (cs.drop k).flatMap Sb = (insS y.cur cs).flatMap Sb by rw [hins2, ← List.flatMap_append, List.append_assoc]; rfl]
 refine tk 16 rfl rfl rfl (DetJ.assign rfl) ?_
 refine kd [0, 3, 4] rfl ?_
 refine Run.region ?_
 refine sx 3 ?_
 exact RunL.next (Keep.sub (kt (ks := [0, 3, 4]) rfl)) _ ⟨_, by omega, i + 1, insS y.cur cs, a61, c61, rfl, by omega, (by rw [curT_step hy, hC]), rfl, rfl⟩ gv
 refine Run.skip ?_
 refine Run.region ?_
 refine sx 3 ?_
 have hq : cs[k]? = some y.cur := (by rw [hc]; congr 1; simp_all)
 have hin2 := hins
 rw [if_pos hq] at hin2
 exact RunL.next (Keep.sub (kt (ks := [0, 3, 4]) rfl)) _ ⟨_, by omega, i + 1, cs, _, cc, rfl, by omega, (by rw [curT_step hy, ← hC, hin2]), rfl, rfl⟩ gv
 refine RunD.set (congrArg Bo (decide_eq_false (by omega))) ?_
 refine RunD.takeN 5 rfl rfl rfl rfl rfl kr ?_
 refine RunD.takeN 6 rfl rfl rfl rfl rfl kr ?_
 refine RunD.takeN 7 rfl rfl rfl rfl rfl kr ?_
 refine RunD.takeN 8 rfl rfl rfl rfl rfl kr ?_
 refine RunD.takeN 9 rfl rfl rfl rfl rfl kr ?_
 refine RunD.takeN 10 rfl rfl rfl rfl rfl kr ?_
 refine RunD.takeN 11 rfl rfl rfl rfl rfl kr ?_
 refine RunD.takeN 12 rfl rfl rfl rfl rfl kr ?_
 refine RunD.takeN 13 rfl rfl rfl rfl rfl kr ?_
 refine RunD.takeN 14 rfl rfl rfl rfl rfl kr ?_
 refine tk 15 rfl rfl rfl (DetJ.pickF rfl rfl) ?_
 refine kd [0, 3, 4, 5, 27] rfl ?_
 refine Run.false rfl ?_
 refine Run.exit ?_
 refine Run.seq ?_
 refine regionD HM ?_
 refine tk 0 rfl rfl rfl (DetJ.move rfl) ?_
 refine tk 1 rfl rfl rfl (DetJ.move rfl) ?_
 refine tk 2 rfl rfl rfl (DetJ.len S55 rfl) ?_
 refine tk 3 rfl rfl rfl (DetJ.eql rfl rfl) ?_
 refine tk 4 rfl rfl rfl (DetJ.move rfl) ?_
 skip
 have hins := insS_at (c := y.cur) hkl hI1 (fun z hz => by rw [List.getElem?_eq_none (by omega)] at hz; cases hz)
 have hqn : ¬ cs[k]? = some y.cur := (by rw [List.getElem?_eq_none (by omega)]; simp)
 have hkl : k = cs.length := by omega
 refine RunD.set (congrArg Bo (decide_eq_true (by omega))) ?_
 refine RunD.takeN 5 rfl rfl rfl rfl rfl kr ?_
 refine RunD.takeN 6 rfl rfl rfl rfl rfl kr ?_
 refine RunD.takeN 7 rfl rfl rfl rfl rfl kr ?_
 refine RunD.takeN 8 rfl rfl rfl rfl rfl kr ?_
 refine RunD.takeN 9 rfl rfl rfl rfl rfl kr ?_
 refine RunD.takeN 10 rfl rfl rfl rfl rfl kr ?_
 refine RunD.takeN 11 rfl rfl rfl rfl rfl kr ?_
 refine RunD.takeN 12 rfl rfl rfl rfl rfl kr ?_
 refine RunD.takeN 13 rfl rfl rfl rfl rfl kr ?_
 refine RunD.takeN 14 rfl rfl rfl rfl rfl kr ?_
 refine tk 15 rfl rfl rfl (DetJ.pickT rfl rfl) ?_
 refine kd [0, 3, 4, 5, 45] rfl ?_
 refine Run.true rfl ?_
 refine regionD HM ?_
 refine tk 1 rfl rfl rfl (DetJ.move rfl) ?_
 refine tk 2 rfl rfl rfl (DetJ.move rfl) ?_
 refine tk 3 rfl rfl rfl (DetJ.sliceHi S55 rfl rfl (by omega)) ?_
 refine tk 5 rfl rfl rfl (DetJ.move rfl) ?_
 refine tk 6 rfl rfl rfl (DetJ.move rfl) ?_
 refine tk 7 rfl rfl rfl (DetJ.indexAddr S40 rfl rfl (by omega)) ?_
 refine tk 8 rfl rfl rfl (DetJ.fieldAddr F73_1 rfl) ?_
 refine RunD.takeR1 9 rfl rfl kr T9 rfl pk (hrd.at (enc := Ln.c) 7 (fun _ => rfl) hy 1 (St y.cur) rfl) ?_
 refine tk 12 rfl rfl rfl (DetJ.move rfl) ?_
 refine tk 13 rfl rfl rfl (DetJ.move rfl) ?_
 refine tk 14 rfl rfl rfl (DetJ.sliceLoA S55 rfl rfl (by omega)) ?_
 refine RunD.two 0 10 [true, true, true, true, true, true, true, true, true, true, true] [true, true, true, false, false, false, true, true, true, true, true] rfl rfl rfl rfl rfl rfl kr kr kr (OpJ.buildSlice0 S55 fun b46 => ⟨po, ?_⟩) (OpJ.buildSlice1 S55 rfl rfl rfl (by decide) (by decide) Z9 rfl fun b56 => ⟨po, ?_⟩)
 refine RunD.two 4 10 [true, true, true, true, true, true, true, true, false, false, false] [true, true, true, false, false, false, true, true, true, true, true] rfl rfl rfl rfl rfl rfl kr kr kr (OpJ.appendAll S55 M9 rfl rfl pk pk (own.rds.lo (enc := Sb) (fun _ => rfl) k) (by rw [flat_len (k := 1) (fun _ => rfl), List.length_take]; congr 1; omega) (by decide) (flat_one sb1 _) (by omega) (by omega) fun a50 c50 => ⟨po, ?_⟩) (OpJ.buildSlice1 S55 rfl rfl rfl (by decide) (by decide) Z9 rfl fun b56 => ⟨po, ?_⟩)
 simp only [Nat.zero_add, List.nil_append]
 refine RunD.op 10 [true, true, true, false, false, false, true, true] rfl rfl rfl kr kr (OpJ.buildSlice1 S55 rfl rfl rfl (by decide) (by decide) Z9 rfl fun b56 => ⟨po, ?_⟩)
 refine RunD.op 11 [true, true, true, true, true] rfl rfl rfl kr kr (OpJ.append1 (xs := cs.take k) y.cur S55 M9 rfl rfl pk pk rfl rfl (by simp [Value.oneCell', Sb]) (by rw [List.length_take]; omega) (by rw [List.length_take]; omega) (by rw [List.length_take]; omega) fun a57 c57 => ⟨po, ?_⟩)
 have htl : (cs.take k ++ [y.cur]).length = k + 1 := (by rw [List.length_append, List.length_take, List.length_singleton]; omega)
 rw [htl]
 refine RunD.op 15 [false, false, false, true, true] rfl rfl rfl kr kr (OpJ.appendAll S55 M9 rfl rfl pk pk (own.rds.cut (enc := Sb) (fun _ => rfl) k (by omega)) (by rw [flat_len (k := 1) (fun _ => rfl), List.length_drop]) (by decide) (flat_one sb1 _) (by omega) (by omega) fun a61 c61 => ⟨po, ?_⟩)
 have hins2 := hins
 rw [if_neg hqn] at hins2
 rw [show k + 1 + (cs.length - k) = (insS y.cur cs).length by rw [hins2, List.length_append, List.length_cons, List.length_take, List.length_drop]; omega, show (cs.take k ++ [y.cur]).flatMap Sb ++ (cs.drop k).flatMap Sb = (insS y.cur cs).flatMap Sb by rw [hins2, ← List.flatMap_append, List.append_assoc]; rfl]
 refine tk 16 rfl rfl rfl (DetJ.assign rfl) ?_
 refine kd [0, 3, 4] rfl ?_
 refine Run.region ?_
 refine sx 3 ?_
 exact RunL.next (Keep.sub (kt (ks := [0, 3, 4]) rfl)) _ ⟨_, by omega, i + 1, insS y.cur cs, a61, c61, rfl, by omega, (by rw [curT_step hy, hC]), rfl, rfl⟩ gv
 refine RunD.op 4 [true, true, true, true, true, false, false, false] rfl rfl rfl kr kr (OpJ.appendAll S55 M9 rfl rfl pk pk (own.rds.lo (enc := Sb) (fun _ => rfl) k) (by rw [flat_len (k := 1) (fun _ => rfl), List.length_take]; congr 1; omega) (by decide) (flat_one sb1 _) (by omega) (by omega) fun a50 c50 => ⟨po, ?_⟩)
 simp only [Nat.zero_add, List.nil_append]
 refine RunD.op 11 [true, true, true, true, true] rfl rfl rfl kr kr (OpJ.append1 (xs := cs.take k) y.cur S55 M9 rfl rfl pk pk rfl rfl (by simp [Value.oneCell', Sb]) (by rw [List.length_take]; omega) (by rw [List.length_take]; omega) (by rw [List.length_take]; omega) fun a57 c57 => ⟨po, ?_⟩)
 have htl : (cs.take k ++ [y.cur]).length = k + 1 := (by rw [List.length_append, List.length_take, List.length_singleton]; omega)
 rw [htl]
 refine RunD.op 15 [false, false, false, true, true] rfl rfl rfl kr kr (OpJ.appendAll S55 M9 rfl rfl pk pk (own.rds.cut (enc := Sb) (fun _ => rfl) k (by omega)) (by rw [flat_len (k := 1) (fun _ => rfl), List.length_drop]) (by decide) (flat_one sb1 _) (by omega) (by omega) fun a61 c61 => ⟨po, ?_⟩)
 have hins2 := hins
 rw [if_neg hqn] at hins2
 rw [show k + 1 + (cs.length - k) = (insS y.cur cs).length by rw [hins2, List.length_append, List.length_cons, List.length_take, List.length_drop]; omega, show (cs.take k ++ [y.cur]).flatMap Sb ++ (cs.drop k).flatMap Sb = (insS y.cur cs).flatMap Sb by rw [hins2, ← List.flatMap_append, List.append_assoc]; rfl]
 refine tk 16 rfl rfl rfl (DetJ.assign rfl) ?_
 refine kd [0, 3, 4] rfl ?_
 refine Run.region ?_
 refine sx 3 ?_
 exact RunL.next (Keep.sub (kt (ks := [0, 3, 4]) rfl)) _ ⟨_, by omega, i + 1, insS y.cur cs, a61, c61, rfl, by omega, (by rw [curT_step hy, hC]), rfl, rfl⟩ gv
 refine RunD.op 0 [true, true, true, true, true, true, true, true] rfl rfl rfl kr kr (OpJ.buildSlice0 S55 fun b46 => ⟨po, ?_⟩)
 refine RunD.op 4 [true, true, true, true, true, false, false, false] rfl rfl rfl kr kr (OpJ.appendAll S55 M9 rfl rfl pk pk (own.rds.lo (enc := Sb) (fun _ => rfl) k) (by rw [flat_len (k := 1) (fun _ => rfl), List.length_take]; congr 1; omega) (by decide) (flat_one sb1 _) (by omega) (by omega) fun a50 c50 => ⟨po, ?_⟩)
 simp only [Nat.zero_add, List.nil_append]
 refine RunD.op 11 [true, true, true, true, true] rfl rfl rfl kr kr (OpJ.append1 (xs := cs.take k) y.cur S55 M9 rfl rfl pk pk rfl rfl (by simp [Value.oneCell', Sb]) (by rw [List.length_take]; omega) (by rw [List.length_take]; omega) (by rw [List.length_take]; omega) fun a57 c57 => ⟨po, ?_⟩)
 have htl : (cs.take k ++ [y.cur]).length = k + 1 := (by rw [List.length_append, List.length_take, List.length_singleton]; omega)
 rw [htl]
 refine RunD.op 15 [false, false, false, true, true] rfl rfl rfl kr kr (OpJ.appendAll S55 M9 rfl rfl pk pk (own.rds.cut (enc := Sb) (fun _ => rfl) k (by omega)) (by rw [flat_len (k := 1) (fun _ => rfl), List.length_drop]) (by decide) (flat_one sb1 _) (by omega) (by omega) fun a61 c61 => ⟨po, ?_⟩)
 have hins2 := hins
 rw [if_neg hqn] at hins2
 rw [show k + 1 + (cs.length - k) = (insS y.cur cs).length by rw [hins2, List.length_append, List.length_cons, List.length_take, List.length_drop]; omega, show (cs.take k ++ [y.cur]).flatMap Sb ++ (cs.drop k).flatMap Sb = (insS y.cur cs).flatMap Sb by rw [hins2, ← List.flatMap_append, List.append_assoc]; rfl]
 refine tk 16 rfl rfl rfl (DetJ.assign rfl) ?_
 refine kd [0, 3, 4] rfl ?_
 refine Run.region ?_
 refine sx 3 ?_
 exact RunL.next (Keep.sub (kt (ks := [0, 3, 4]) rfl)) _ ⟨_, by omega, i + 1, insS y.cur cs, a61, c61, rfl, by omega, (by rw [curT_step hy, hC]), rfl, rfl⟩ gv
 refine Run.exit ?_
 refine sr ?_
 refine sx 2 ?_
 refine kp [2] rfl ?_
 refine Run.ret ?_
 obtain rfl : i = ls.length := by omega
 rw [curT_all (Nat.le_refl _)] at hC
 subst hC
 exact ret_out (ca, cc) (.tmp rfl .nil) trivial rfl gv
theorem c_r12sums (R : HP) (oa : Option Addr) (cap : Nat) (ls : List Ln) (hR : RdS R oa (ls.flatMap Ln.c)) (hz : ∀ y ∈ ls, lineE y = 0) (hl : ls.length ≤ 1000) (c : ByteArray) : AC Tryz.prog 140 ⟨[.slice oa ls.length cap, St c]⟩ (stars [R]) (Ret (.tuple ⟨[I (amts (ofCur c ls)).sum, I (bass (ofCur c ls)).sum, Bo true]⟩) [R]) := by
 obtain ⟨⟨ha1, ha2, ha3⟩, hb1, hb2, hb3⟩ := amts_ok hz hl c
 refine AC.go Tryz.func140 rfl (Nat.le_of_ble_eq_true rfl) fun β => ?_
 refine sr ?_
 refine sx 3 ?_
 refine kp [0, 1] rfl ?_
 refine sr ?_
 refine sx 2 ?_
 refine kp [0, 1, 7, 8] rfl ?_
 refine Run.seq ?_
 refine sr ?_
 refine RunL.ownNil 3 1 ?_
 refine RunL.ownNil 3 1 ?_
 refine asg rfl rfl ?_
 refine kp [0, 1, 7, 8, 9] rfl ?_
 refine Run.block ?_
 refine Run.loop (fun mm E L => ∃ (i : Nat) (zs ws : List Int) (pa : Option Addr) (pc : Nat) (pb : Option Addr) (pd : Nat), mm = ls.length - i ∧ i ≤ ls.length ∧ zs = amts (ofCur c (ls.take i)) ∧ ws = bass (ofCur c (ls.take i)) ∧ E = [(0, .slice oa ls.length cap), (1, St c), (7, .slice pa zs.length pc), (8, .slice pb ws.length pd), (9, I i)] ∧ L = [own 3 1 pa zs.length pc (zs.flatMap Iv), own 3 1 pb ws.length pd (ws.flatMap Iv), R]) ⟨_, 0, [], [], none, 0, none, 0, rfl, Nat.zero_le _, rfl, rfl, rfl, rfl⟩ ?_
 rintro _ _ _ ⟨i, zs, ws, pa, pc, pb, pd, rfl, hi, hA, hB, rfl, rfl⟩
 refine Run.seq ?_
 refine sr ?_
 refine sx 4 ?_
 refine kp [0, 1, 7, 8, 9, 17] rfl ?_
 first | refine Run.if rfl (fun h1 => ?_) (fun h1 => ?_) | refine Run.cond rfl (fun h1 => ?_) (fun h1 => ?_)
 refine Run.skip ?_
 refine Run.seq ?_
 refine Run.block ?_
 refine sr ?_
 obtain ⟨y, hy⟩ := get_ex (xs := ls) (i := i) (by omega)
 refine RunL.rdOpen pk hR (flat_ne (k := 7) (fun _ => rfl) (by decide) hy) fun b o eb hrd => ?_
 subst eb
 have hct := ofCur_take (c := c) hy
 have hzl : zs.length ≤ i := (by rw [hA]; unfold amts; rw [List.length_map]; exact Nat.le_trans (List.length_filter_le ..) (by rw [List.length_take]; omega))
 have hwl : ws.length ≤ i := (by rw [hB]; unfold bass; rw [List.length_map]; exact Nat.le_trans (List.length_filter_le ..) (by rw [List.length_take]; omega))
 refine sx 4 ?_
 refine RunL.op rfl rfl (OpJ.load1 inferInstance rfl pk (hrd.at (enc := Ln.c) 7 (fun _ => rfl) hy 1 (St y.cur) rfl) ?_)
 refine sx 2 ?_
 refine kp [0, 1, 7, 8, 9, 26] rfl ?_
 first | refine Run.if rfl (fun h2 => ?_) (fun h2 => ?_) | refine Run.cond rfl (fun h2 => ?_) (fun h2 => ?_)
 refine sr ?_
 refine sx 5 ?_
 refine RunL.op rfl rfl (OpJ.load1 inferInstance rfl pk (hrd.at (enc := Ln.c) 7 (fun _ => rfl) hy 2 (I y.amt) rfl) ?_)
 refine RunL.op rfl rfl (OpJ.buildSlice1 S112 rfl rfl rfl (by decide) (by decide) Z3 rfl fun b33 => ?_)
 refine RunL.op rfl rfl (OpJ.append1 (enc := Iv) y.amt S112 M3 rfl rfl pk pk rfl rfl (by simp [Value.oneCell', Tg.c, Ln.c, En.c, Ac.c, Cl.c, Ky.c, Qy.c, Sb, Iv, Cs.c]) rfl (by omega) (by omega) fun a34 c34 => ?_)
 refine asg rfl rfl ?_
 refine kp [0, 1, 7, 8, 9] rfl ?_
 refine Run.region ?_
 refine sx 5 ?_
 refine RunL.op rfl rfl (OpJ.load1 inferInstance rfl pk (hrd.at (enc := Ln.c) 7 (fun _ => rfl) hy 3 (I y.base) rfl) ?_)
 refine RunL.op rfl rfl (OpJ.buildSlice1 S112 rfl rfl rfl (by decide) (by decide) Z3 rfl fun b41 => ?_)
 refine RunL.op rfl rfl (OpJ.append1 (enc := Iv) y.base S112 M3 rfl rfl pk pk rfl rfl (by simp [Value.oneCell', Tg.c, Ln.c, En.c, Ac.c, Cl.c, Ky.c, Qy.c, Sb, Iv, Cs.c]) rfl (by omega) (by omega) fun a42 c42 => ?_)
 refine asg rfl rfl ?_
 refine kp [0, 1, 7, 8, 9] rfl ?_
 refine Run.region ?_
 refine sx 3 ?_
 exact RunL.next (Keep.sub (kt (ks := [0, 1, 7, 8, 9]) rfl)) _ ⟨_, by omega, i + 1, zs ++ [y.amt], ws ++ [y.base], a34, c34, a42, c42, rfl, by omega, (by rw [hct, if_pos (by simp_all), hA]; unfold amts; rw [List.map_append]; rfl), (by rw [hct, if_pos (by simp_all), hB]; unfold bass; rw [List.map_append]; rfl), rfl, rfl⟩ gv
 refine Run.skip ?_
 refine Run.region ?_
 refine sx 3 ?_
 exact RunL.next (Keep.sub (kt (ks := [0, 1, 7, 8, 9]) rfl)) _ ⟨_, by omega, i + 1, zs, ws, pa, pc, pb, pd, rfl, by omega, (by rw [hct, if_neg (by simp_all), List.append_nil, hA]), (by rw [hct, if_neg (by simp_all), List.append_nil, hB]), rfl, rfl⟩ gv
 refine Run.exit ?_
 refine sr ?_
 obtain rfl : i = ls.length := by omega
 rw [List.take_length] at hA hB
 subst hA
 subst hB
 refine mvo rfl rfl ?_
 refine RunL.call C122 rfl rfl rfl (c_rSum (own 3 1 pa (amts (ofCur c ls)).length pc ((amts (ofCur c ls)).flatMap Iv)) pa pc (amts (ofCur c ls)) own.rds ha1 ha3 ha2) tks ?_
 refine sx 5 ?_
 refine kp [8, 10, 11] rfl ?_
 refine sr ?_
 refine mvo rfl rfl ?_
 refine RunL.call C122 rfl rfl rfl (c_rSum (own 3 1 pb (bass (ofCur c ls)).length pd ((bass (ofCur c ls)).flatMap Iv)) pb pd (bass (ofCur c ls)) own.rds hb1 hb3 hb2) tks ?_
 refine sx 5 ?_
 refine kp [10, 11, 12, 13] rfl ?_
 refine sr ?_
 refine sx 9 ?_
 refine kp [4, 5, 6] rfl ?_
 refine Run.ret ?_
 exact ret_one (.tmp rfl (.tmp rfl (.tmp rfl .nil))) (rfl) gv
theorem c_r12Bal (R : HP) (oa : Option Addr) (cap : Nat) (ls : List Ln) (hR : RdS R oa (ls.flatMap Ln.c)) (hz : ∀ y ∈ ls, lineE y = 0) (hl : ls.length ≤ 1000) : AC Tryz.prog 87 ⟨[.slice oa ls.length cap]⟩ (stars [R]) (Ret (Bo (balB ls)) [R]) := by
 refine AC.go Tryz.func87 rfl (Nat.le_of_ble_eq_true rfl) fun β => ?_
 refine sr ?_
 refine asg rfl rfl ?_
 refine kp [0] rfl ?_
 refine sr ?_
 refine mvo rfl rfl ?_
 refine RunL.callX C139 rfl rfl rfl (c_r12curs R _ _ ls hR hl) tks fun ⟨ca, cc⟩ _ => ?_
 refine asg rfl rfl ?_
 refine kp [0, 3] rfl ?_
 refine Run.seq ?_
 refine sr ?_
 refine asg rfl rfl ?_
 refine kp [0, 3, 4] rfl ?_
 refine Run.block ?_
 refine Run.weak (L' := [own 9 1 ca (sortS (ls.map Ln.cur)).length cc ((sortS (ls.map Ln.cur)).flatMap Sb), R]) (fun _ _ h => h) gv ?_
 have hcl : (sortS (ls.map Ln.cur)).length ≤ ls.length := (by have := curT_len (f := Ln.cur) (ls := ls) (i := ls.length) (Nat.le_refl _); rwa [curT_all (Nat.le_refl _)] at this)
 refine Run.loop (fun mm E L => ∃ i : Nat, mm = (sortS (ls.map Ln.cur)).length - i ∧ i ≤ (sortS (ls.map Ln.cur)).length ∧ balT ls (sortS (ls.map Ln.cur)) i ∧ E = [(0, .slice oa ls.length cap), (3, .slice ca (sortS (ls.map Ln.cur)).length cc), (4, I i)] ∧ L = [own 9 1 ca (sortS (ls.map Ln.cur)).length cc ((sortS (ls.map Ln.cur)).flatMap Sb), R]) ⟨_, 0, rfl, Nat.zero_le _, (fun j c h => by omega), rfl, rfl⟩ ?_
 rintro _ _ _ ⟨i, rfl, hi, hI0, rfl, rfl⟩
 refine Run.seq ?_
 refine sr ?_
 refine sx 4 ?_
 refine kp [0, 3, 4, 13] rfl ?_
 first | refine Run.if rfl (fun h1 => ?_) (fun h1 => ?_) | refine Run.cond rfl (fun h1 => ?_) (fun h1 => ?_)
 refine Run.skip ?_
 refine Run.seq ?_
 refine Run.block ?_
 refine sr ?_
 obtain ⟨c, hc⟩ := get_ex (xs := (sortS (ls.map Ln.cur))) (i := i) (by omega)
 refine RunL.ownAddr (oa := ca) pk (flat_ne (k := 1) (fun _ => rfl) (by decide) hc) fun bs e1 hcap1 => ?_
 subst e1
 refine sx 4 ?_
 refine RunL.op rfl rfl (OpJ.load1 inferInstance rfl pk (own.el (enc := Sb) hc (by decide) (fun _ => rfl)) ?_)
 refine RunL.call C140 rfl rfl rfl (c_r12sums R _ _ ls hR hz hl c) tks ?_
 refine sx 7 ?_
 refine kp [0, 3, 4, 5, 6, 7] rfl ?_
 refine sr ?_
 refine RunL.cut (t := 35) (v := Bo (!balC ls c)) (kt (ks := [0, 3, 4]) rfl) ?_ ?_
 refine sx 7 ?_
 first | refine RunL.splitP (t := 32) rfl (fun g2 => ?_) (fun g2 => ?_) | refine RunL.split (t := 32) rfl (fun g2 => ?_) (fun g2 => ?_)
 refine sx 3 ?_
 exact RunL.nil ⟨.cons (by first | rfl | (show some (Value.bool _) = some (Value.bool _); congr 2; unfold balC; rw [Bool.eq_iff_iff]; simp_all) | (show some (Value.bool _) = some (Value.bool _); simp_all)) (kt (ks := [0, 3, 4]) rfl), rfl⟩
 refine sx 3 ?_
 exact RunL.nil ⟨.cons (by first | rfl | (show some (Value.bool _) = some (Value.bool _); congr 2; unfold balC; rw [Bool.eq_iff_iff]; simp_all) | (show some (Value.bool _) = some (Value.bool _); simp_all)) (kt (ks := [0, 3, 4]) rfl), rfl⟩
 first | refine Run.if rfl (fun h3 => ?_) (fun h3 => ?_) | refine Run.cond rfl (fun h3 => ?_) (fun h3 => ?_)
 refine sr ?_
 refine asg rfl rfl ?_
 refine kp [2] rfl ?_
 refine Run.ret ?_
 first | exact ret_one (.tmp rfl .nil) (by rw [bal_not hc (by simp_all)]; rfl) gv | exact ret_one (.tmp rfl .nil) (by rw [hI0.all (by omega)]; rfl) gv
 refine Run.skip ?_
 refine Run.region ?_
 refine sx 3 ?_
 exact RunL.next (Keep.sub (kt (ks := [0, 3, 4]) rfl)) _ ⟨_, by omega, i + 1, rfl, by omega, (fun j z hj hzz => by { by_cases e : j = i; (subst e; rw [hc] at hzz; cases hzz; simp_all); exact hI0 j z (by omega) hzz }), rfl, rfl⟩ gv
 refine Run.exit ?_
 refine sr ?_
 refine asg rfl rfl ?_
 refine kp [2] rfl ?_
 refine Run.ret ?_
 first | exact ret_one (.tmp rfl .nil) (by rw [bal_not hc (by simp_all)]; rfl) gv | exact ret_one (.tmp rfl .nil) (by rw [hI0.all (by omega)]; rfl) gv
theorem c_r12Check (e : En) (R : HP) (he : e.rd R) (hz : e.sz) : AC Tryz.prog 43 ⟨[.agg ⟨e.c⟩]⟩ (stars [R]) (Ret (.tuple ⟨[I (chkN e).1, I (chkN e).2]⟩) [R]) := by
 refine AC.go Tryz.func43 rfl (Nat.le_of_ble_eq_true rfl) fun β => ?_
 refine sr ?_
 refine RunL.op rfl rfl (OpJ.boxA rfl fun b1 => ?_)
 refine sx 2 ?_
 refine kp [1] rfl ?_
 refine Run.seq ?_
 refine sr ?_
 refine sx 1 ?_
 refine RunL.call C85 rfl rfl rfl (c_r12head e hz) .nil ?_
 refine asg rfl rfl ?_
 refine kp [1, 4] rfl ?_
 refine sr ?_
 refine sx 2 ?_
 refine kp [1, 4, 10] rfl ?_
 first | refine Run.if rfl (fun h1 => ?_) (fun h1 => ?_) | refine Run.cond rfl (fun h1 => ?_) (fun h1 => ?_)
 refine sr ?_
 refine sx 3 ?_
 refine kp [2, 3] rfl ?_
 refine Run.ret ?_
 first | exact ret_one (.tmp rfl (.tmp rfl .nil)) (by have hn : ¬ headE e = 0 := (by simpa using h1); unfold chkN; rw [if_neg hn]; rfl) gv | exact ret_one (.tmp rfl (.tmp rfl .nil)) (by have hn : ¬ lineE l = 0 := (by simp_all); unfold chkN; rw [if_pos hh, linesE_at hI0 hli hn, Nat.zero_add]; rfl) gv | exact ret_one (.tmp rfl (.tmp rfl .nil)) (by unfold chkN; rw [if_pos hh, hall]; simp only; rw [if_neg (by simp_all)]; rfl) gv | exact ret_one (.tmp rfl (.tmp rfl .nil)) (by unfold chkN; rw [if_pos hh, hall]; simp only; rw [if_pos (by simp_all)]; rfl) gv
 refine Run.skip ?_
 refine Run.seq ?_
 refine sr ?_
 have hh : headE e = 0 := by simpa using h1
 have hlen : e.lines.length ≤ 100 := head_len hh
 refine asg rfl rfl ?_
 refine kp [1, 5] rfl ?_
 refine Run.block ?_
 refine Run.weak (L' := [pt b1 (blk e.c 42), R]) (fun _ _ h => h) gv ?_
 refine Run.loop (fun mm E L => ∃ i : Nat, mm = e.lines.length - i ∧ i ≤ e.lines.length ∧ (∀ (j : Nat) (y : Ln), j < i → e.lines[j]? = some y → lineE y = 0) ∧ E = [(1, .pointer (some ⟨b1, 0, none⟩)), (5, I i)] ∧ L = [pt b1 (blk e.c 42), R]) ⟨_, 0, rfl, Nat.zero_le _, fun _ _ h => by omega, rfl, rfl⟩ ?_
 rintro _ _ _ ⟨i, rfl, hi, hI0, rfl, rfl⟩
 refine Run.seq ?_
 refine sr ?_
 refine sx 5 ?_
 refine kp [1, 5, 16] rfl ?_
 first | refine Run.if rfl (fun h2 => ?_) (fun h2 => ?_) | refine Run.cond rfl (fun h2 => ?_) (fun h2 => ?_)
 refine Run.skip ?_
 refine Run.seq ?_
 refine Run.block ?_
 refine sr ?_
 obtain ⟨l, hli⟩ := get_ex (xs := e.lines) (i := i) (by omega)
 have hlm := List.mem_of_getElem? hli
 have hlr := he.2 l hlm
 refine RunL.rdOpen pk he.1 (flat_ne (k := 7) (fun _ => rfl) (by decide) hli) fun b o eb hrd => ?_
 refine sx 2 ?_
 rw [eb]
 refine sx 2 ?_
 refine RunL.op rfl rfl (OpJ.loadA inferInstance rfl pk (hrd.elem (fun _ => rfl) hli) rfl ?_)
 refine RunL.call C86 rfl rfl rfl (c_r12Line l R hlr.1 (hz.lines l hlm)) tks ?_
 refine asg rfl rfl ?_
 refine kp [1, 5, 6] rfl ?_
 refine sr ?_
 refine sx 2 ?_
 refine kp [1, 5, 6, 26] rfl ?_
 first | refine Run.if rfl (fun h3 => ?_) (fun h3 => ?_) | refine Run.cond rfl (fun h3 => ?_) (fun h3 => ?_)
 refine sr ?_
 refine sx 4 ?_
 refine kp [2, 3] rfl ?_
 refine Run.ret ?_
 first | exact ret_one (.tmp rfl (.tmp rfl .nil)) (by have hn : ¬ headE e = 0 := (by simpa using h1); unfold chkN; rw [if_neg hn]; rfl) gv | exact ret_one (.tmp rfl (.tmp rfl .nil)) (by have hn : ¬ lineE l = 0 := (by simp_all); unfold chkN; rw [if_pos hh, linesE_at hI0 hli hn, Nat.zero_add]; rfl) gv | exact ret_one (.tmp rfl (.tmp rfl .nil)) (by unfold chkN; rw [if_pos hh, hall]; simp only; rw [if_neg (by simp_all)]; rfl) gv | exact ret_one (.tmp rfl (.tmp rfl .nil)) (by unfold chkN; rw [if_pos hh, hall]; simp only; rw [if_pos (by simp_all)]; rfl) gv
 refine Run.skip ?_
 refine Run.region ?_
 refine sx 3 ?_
 exact RunL.next (Keep.sub (kt (ks := [1, 5]) rfl)) _ ⟨_, by omega, i + 1, rfl, by omega, (fun j y hj hy => by { by_cases e2 : j = i; (subst e2; rw [hli] at hy; cases hy; simp_all); exact hI0 j y (by omega) hy }), rfl, rfl⟩ gv
 refine Run.exit ?_
 refine Run.seq ?_
 refine sr ?_
 have hok : ∀ y ∈ e.lines, lineE y = 0 := (fun y hy => by { obtain ⟨j, hj, rfl⟩ := List.getElem_of_mem hy; exact hI0 j _ (by omega) (List.getElem?_eq_getElem hj) })
 have hall := linesE_none (i := 0) hok
 refine sx 2 ?_
 refine RunL.call C87 rfl rfl rfl (c_r12Bal R _ _ e.lines he.1 hok (by omega)) tks ?_
 refine RunL.op rfl rfl (OpJ.not rfl ?_)
 refine kp [32] rfl ?_
 first | refine Run.if rfl (fun h4 => ?_) (fun h4 => ?_) | refine Run.cond rfl (fun h4 => ?_) (fun h4 => ?_)
 refine sr ?_
 refine sx 2 ?_
 refine kp [2, 3] rfl ?_
 refine Run.ret ?_
 first | exact ret_one (.tmp rfl (.tmp rfl .nil)) (by have hn : ¬ headE e = 0 := (by simpa using h1); unfold chkN; rw [if_neg hn]; rfl) gv | exact ret_one (.tmp rfl (.tmp rfl .nil)) (by have hn : ¬ lineE l = 0 := (by simp_all); unfold chkN; rw [if_pos hh, linesE_at hI0 hli hn, Nat.zero_add]; rfl) gv | exact ret_one (.tmp rfl (.tmp rfl .nil)) (by unfold chkN; rw [if_pos hh, hall]; simp only; rw [if_neg (by simp_all)]; rfl) gv | exact ret_one (.tmp rfl (.tmp rfl .nil)) (by unfold chkN; rw [if_pos hh, hall]; simp only; rw [if_pos (by simp_all)]; rfl) gv
 refine Run.skip ?_
 refine sr ?_
 refine sx 2 ?_
 refine kp [2, 3] rfl ?_
 refine Run.ret ?_
 first | exact ret_one (.tmp rfl (.tmp rfl .nil)) (by have hn : ¬ headE e = 0 := (by simpa using h1); unfold chkN; rw [if_neg hn]; rfl) gv | exact ret_one (.tmp rfl (.tmp rfl .nil)) (by have hn : ¬ lineE l = 0 := (by simp_all); unfold chkN; rw [if_pos hh, linesE_at hI0 hli hn, Nat.zero_add]; rfl) gv | exact ret_one (.tmp rfl (.tmp rfl .nil)) (by unfold chkN; rw [if_pos hh, hall]; simp only; rw [if_neg (by simp_all)]; rfl) gv | exact ret_one (.tmp rfl (.tmp rfl .nil)) (by unfold chkN; rw [if_pos hh, hall]; simp only; rw [if_pos (by simp_all)]; rfl) gv
theorem c_rcmp (a b : ByteArray) : AC Tryz.prog 183 ⟨[St a, St b]⟩ (stars []) (Ret (I (cmpS a b)) []) := by
 refine AC.go Tryz.func183 rfl (Nat.le_of_ble_eq_true rfl) fun β => ?_
 refine sr ?_
 refine asg rfl rfl ?_
 refine kp [0, 1] rfl ?_
 refine Run.seq ?_
 refine sr ?_
 refine sx 3 ?_
 refine kp [0, 1, 7] rfl ?_
 first | refine Run.if rfl (fun h1 => ?_) (fun h1 => ?_) | refine Run.cond rfl (fun h1 => ?_) (fun h1 => ?_)
 refine sr ?_
 refine asg rfl rfl ?_
 refine kp [4] rfl ?_
 refine Run.ret ?_
 exact ret_one (.tmp rfl .nil) (congrArg I (by symm; exact cmp_lt (by simpa [blt] using h1))) gv
 refine Run.skip ?_
 refine Run.seq ?_
 refine sr ?_
 refine sx 3 ?_
 refine kp [10] rfl ?_
 first | refine Run.if rfl (fun h2 => ?_) (fun h2 => ?_) | refine Run.cond rfl (fun h2 => ?_) (fun h2 => ?_)
 refine sr ?_
 refine asg rfl rfl ?_
 refine kp [4] rfl ?_
 refine Run.ret ?_
 exact ret_one (.tmp rfl .nil) (congrArg I (by symm; exact cmp_gt (by rcases blt_total (show ¬ a = b by simp_all) with h | h; (have h5 : Op.bytesLess a.toList b.toList = true := h; simp_all); exact h))) gv
 refine Run.skip ?_
 refine sr ?_
 refine asg rfl rfl ?_
 refine kp [4] rfl ?_
 refine Run.ret ?_
 exact ret_one (.tmp rfl .nil) (congrArg I (by symm; have e3 : a = b := (by simp_all); subst e3; exact cmp_zero (blt_irrefl a) (blt_irrefl a))) gv
theorem c_rCmp (a b : Ky) : AC Tryz.prog 157 ⟨[.agg ⟨a.c⟩, .agg ⟨b.c⟩]⟩ (stars []) (Ret (I (cmpK a b)) []) := by
 have hla : a.l.length = 5 := rfl
 have hlb : b.l.length = 5 := rfl
 refine AC.go Tryz.func157 rfl (Nat.le_of_ble_eq_true rfl) fun β => ?_
 refine sr ?_
 refine RunL.op rfl rfl (OpJ.boxA rfl fun b2 => ?_)
 refine RunL.op rfl rfl (OpJ.boxA rfl fun b3 => ?_)
 refine asg rfl rfl ?_
 refine kp [2, 3] rfl ?_
 refine sr ?_
 refine sx 10 ?_
 refine RunL.op rfl rfl (OpJ.buildSliceN (cs := a.l.flatMap Sb) inferInstance Z9 rfl (by decide) (by decide) rfl (by rfl) (by rfl) fun b19 => ?_)
 refine asg rfl rfl ?_
 refine kp [3, 5] rfl ?_
 refine sr ?_
 refine sx 10 ?_
 refine RunL.op rfl rfl (OpJ.buildSliceN (cs := b.l.flatMap Sb) inferInstance Z9 rfl (by decide) (by decide) rfl (by rfl) (by rfl) fun b30 => ?_)
 refine asg rfl rfl ?_
 refine kp [5, 6] rfl ?_
 refine Run.seq ?_
 refine sr ?_
 refine asg rfl rfl ?_
 refine kp [5, 6, 7] rfl ?_
 refine Run.block ?_
 refine Run.weak (L' := [pt b19 (blk (a.l.flatMap Sb) 9), pt b30 (blk (b.l.flatMap Sb) 9)]) (fun _ _ h => h) gv ?_
 refine Run.loop (fun mm E L => ∃ i : Nat, mm = 5 - i ∧ i ≤ 5 ∧ cmpL a.l b.l = cmpL (a.l.drop i) (b.l.drop i) ∧ E = [(5, .slice (some ⟨b19, 0, none⟩) 5 5), (6, .slice (some ⟨b30, 0, none⟩) 5 5), (7, I i)] ∧ L = [pt b19 (blk (a.l.flatMap Sb) 9), pt b30 (blk (b.l.flatMap Sb) 9)]) ⟨_, 0, rfl, Nat.zero_le _, rfl, rfl, rfl⟩ ?_
 rintro _ _ _ ⟨i, rfl, hi, hI0, rfl, rfl⟩
 refine Run.seq ?_
 refine sr ?_
 refine sx 2 ?_
 refine kp [5, 6, 7, 32] rfl ?_
 first | refine Run.if rfl (fun h1 => ?_) (fun h1 => ?_) | refine Run.cond rfl (fun h1 => ?_) (fun h1 => ?_)
 refine Run.skip ?_
 refine Run.seq ?_
 refine Run.block ?_
 refine Run.seq ?_
 refine regionD HM ?_
 obtain ⟨x, hx⟩ := get_ex (xs := a.l) (i := i) (by omega)
 obtain ⟨y, hy⟩ := get_ex (xs := b.l) (i := i) (by omega)
 have hsk := cmpL_skip hI0 hx hy
 refine tk 0 rfl rfl rfl (DetJ.move rfl) ?_
 refine tk 1 rfl rfl rfl (DetJ.move rfl) ?_
 refine tk 2 rfl rfl rfl (DetJ.indexAddr S55 rfl rfl (by omega)) ?_
 refine RunD.takeR1 3 rfl rfl kr T9 rfl pk (Rd.elem (enc := Sb) (k := 1) (fun _ => rfl) Rd.whole hx) ?_
 refine tk 4 rfl rfl rfl (DetJ.move rfl) ?_
 refine tk 5 rfl rfl rfl (DetJ.move rfl) ?_
 refine tk 6 rfl rfl rfl (DetJ.indexAddr S55 rfl rfl (by omega)) ?_
 refine RunD.takeR1 7 rfl rfl kr T9 rfl pk (Rd.elem (enc := Sb) (k := 1) (fun _ => rfl) Rd.whole hy) ?_
 refine RunD.op 8 [false, false, false, false, false, false, false, false] rfl rfl rfl kr kr (OpJ.callRet C183 rfl rfl (c_rcmp _ _) .nil ⟨po, ?_⟩)
 refine tk 9 rfl rfl rfl (DetJ.assign rfl) ?_
 refine kd [5, 6, 7, 8] rfl ?_
 refine sr ?_
 refine sx 2 ?_
 refine kp [5, 6, 7, 8, 45] rfl ?_
 first | refine Run.if rfl (fun h2 => ?_) (fun h2 => ?_) | refine Run.cond rfl (fun h2 => ?_) (fun h2 => ?_)
 refine sr ?_
 refine sx 2 ?_
 refine kp [4] rfl ?_
 refine Run.ret ?_
 first | exact ret_one (.tmp rfl .nil) (congrArg I (by symm; unfold cmpK; rw [hsk, if_neg (by simp_all)])) gv | exact ret_one (.tmp rfl .nil) (congrArg I (by symm; exact cmpL_done hI0 (by omega))) gv
 refine Run.skip ?_
 refine Run.region ?_
 refine sx 3 ?_
 exact RunL.next (Keep.sub (kt (ks := [5, 6, 7]) rfl)) _ ⟨_, by omega, i + 1, rfl, by omega, (by rw [hsk, if_pos (by simp_all)]), rfl, rfl⟩ gv
 refine Run.exit ?_
 refine sr ?_
 refine asg rfl rfl ?_
 refine kp [4] rfl ?_
 refine Run.ret ?_
 first | exact ret_one (.tmp rfl .nil) (congrArg I (by symm; unfold cmpK; rw [hsk, if_neg (by simp_all)])) gv | exact ret_one (.tmp rfl .nil) (congrArg I (by symm; exact cmpL_done hI0 (by omega))) gv
theorem c_rfits (n : Int) : AC Tryz.prog 123 ⟨[I n]⟩ (stars []) (Ret (Bo (withinB n)) []) := by
 refine AC.go Tryz.func123 rfl (Nat.le_of_ble_eq_true rfl) fun β => ?_
 refine sr ?_
 refine asg rfl rfl ?_
 refine kp [0] rfl ?_
 refine sr ?_
 refine sx 3 ?_
 first | refine RunL.splitP (t := 5) rfl (fun g1 => ?_) (fun g1 => ?_) | refine RunL.split (t := 5) rfl (fun g1 => ?_) (fun g1 => ?_)
 refine sx 4 ?_
 refine kp [2] rfl ?_
 refine Run.ret ?_
 exact ret_one (.tmp rfl .nil) (by first | (simp [tup, withinB,  *]; done) | (exfalso; omega)) gv
 refine sx 4 ?_
 refine kp [2] rfl ?_
 refine Run.ret ?_
 exact ret_one (.tmp rfl .nil) (by first | (simp [tup, withinB,  *]; done) | (exfalso; omega)) gv
theorem c_rkeys (R : HP) (oa : Option Addr) (cap : Nat) (l : List Cl) (hR : RdS R oa (l.flatMap Cl.c)) (hl : l.length ≤ 100000) : AC Tryz.prog 121 ⟨[.slice oa l.length cap]⟩ (stars [R]) (Outs (fun _ : Option Addr × Nat => True) (fun y => .slice y.1 (keysL l).length y.2) (fun y => [own 61 5 y.1 (keysL l).length y.2 ((keysL l).flatMap Ky.c), R])) := by
 refine AC.go Tryz.func121 rfl (Nat.le_of_ble_eq_true rfl) fun β => ?_
 refine sr ?_
 refine asg rfl rfl ?_
 refine kp [0] rfl ?_
 refine sr ?_
 refine asg rfl rfl ?_
 refine kp [0, 3] rfl ?_
 refine Run.seq ?_
 refine sr ?_
 refine RunL.ownNil 61 5 ?_
 refine asg rfl rfl ?_
 refine kp [0, 3, 4] rfl ?_
 refine Run.block ?_
 refine Run.loop (fun mm E L => ∃ (i : Nat) (ks : List Ky) (ka : Option Addr) (kc : Nat), mm = l.length - i ∧ i ≤ l.length ∧ ks = keysT l i ∧ E = [(0, .slice oa l.length cap), (3, .slice ka ks.length kc), (4, I i)] ∧ L = [own 61 5 ka ks.length kc (ks.flatMap Ky.c), R]) ⟨_, 0, [], none, 0, rfl, Nat.zero_le _, rfl, rfl, rfl⟩ ?_
 rintro _ _ _ ⟨i, ks, ka, kc, rfl, hi, hK, rfl, rfl⟩
 refine Run.seq ?_
 refine sr ?_
 refine sx 4 ?_
 refine kp [0, 3, 4, 10] rfl ?_
 first | refine Run.if rfl (fun h1 => ?_) (fun h1 => ?_) | refine Run.cond rfl (fun h1 => ?_) (fun h1 => ?_)
 refine Run.skip ?_
 refine Run.seq ?_
 refine Run.block ?_
 refine sr ?_
 obtain ⟨x, hx⟩ := get_ex (xs := l) (i := i) (by omega)
 refine RunL.rdOpen pk hR (flat_ne (k := 7) (fun _ => rfl) (by decide) hx) fun b o eb hrd => ?_
 subst eb
 have hkt := keysT_len (l := l) (i := i)
 rw [← hK] at hkt
 have hkp := keysT_pair l i
 rw [← hK] at hkp
 refine sx 3 ?_
 refine kp [0, 3, 4, 5] rfl ?_
 refine Run.seq ?_
 refine Run.block ?_
 refine Run.loop (fun mm E L => ∃ k : Nat, mm = 0 + k ∧ k ≤ ks.length ∧ (∀ j y, k ≤ j → ks[j]? = some y → ltK x.k y) ∧ E = [(0, .slice (some ⟨b, o, none⟩) l.length cap), (3, .slice ka ks.length kc), (4, I i), (5, I k)] ∧ L = [own 61 5 ka ks.length kc (ks.flatMap Ky.c), R]) ⟨_, ks.length, rfl, Nat.le_refl _, (fun j y hj hy => absurd (List.getElem?_eq_some_iff.1 hy).1 (by omega)), rfl, rfl⟩ ?_
 rintro _ _ _ ⟨k, rfl, hkl, hI1, rfl, rfl⟩
 refine Run.seq ?_
 refine Run.seq ?_
 refine regionD HM ?_
 refine tk 0 rfl rfl rfl (DetJ.move rfl) ?_
 refine tk 1 rfl rfl rfl (DetJ.gtr rfl rfl) ?_
 refine tk 2 rfl rfl rfl (DetJ.move rfl) ?_
 by_cases hk0 : 0 < k
 obtain ⟨j, rfl⟩ : ∃ j, k = j + 1 := ⟨k - 1, by omega⟩
 obtain ⟨z, hz⟩ := get_ex (xs := ks) (i := j) (by omega)
 refine RunD.ownAddr (oa := ka) pk (flat_ne (k := 5) (fun _ => rfl) (by decide) hz) fun bq e1 hcap1 => ?_
 subst e1
 refine RunD.set (congrArg Bo (decide_eq_true (by omega))) ?_
 refine RunD.takeG 3 rfl rfl rfl rfl rfl kr (DetJ.move rfl) .nil ?_
 refine RunD.takeG 4 rfl rfl rfl rfl rfl kr (DetJ.move rfl) .nil ?_
 first | refine RunD.takeG 5 rfl rfl rfl rfl rfl kr (DetJ.subI rfl rfl (by omega)) .nil ?_ | refine RunD.takeG 5 rfl rfl rfl rfl rfl kr (DetJ.sub rfl rfl) .nil ?_
 refine RunD.set (v := I (j : Int)) (congrArg I (by omega)) ?_
 refine RunD.takeG 6 rfl rfl rfl rfl rfl kr (DetJ.indexAddr S192 rfl rfl (by omega)) .nil ?_
 refine RunD.takeGR 7 rfl rfl rfl rfl kr T61 rfl pk (own.el (enc := Ky.c) hz (by decide) (fun _ => rfl)) rfl ?_
 refine RunD.takeG 8 rfl rfl rfl rfl rfl kr (DetJ.move rfl) .nil ?_
 refine RunD.takeG 9 rfl rfl rfl rfl rfl kr (DetJ.move rfl) .nil ?_
 refine RunD.takeG 10 rfl rfl rfl rfl rfl kr (DetJ.indexAddr S32 rfl rfl (by omega)) .nil ?_
 refine RunD.takeG 11 rfl rfl rfl rfl rfl kr (DetJ.fieldAddr F63_0 rfl) .nil ?_
 refine RunD.takeGR 12 rfl rfl rfl rfl kr T61 rfl pk (Rd.pre (us := x.k.c) (vs := [I x.amt, I x.base]) (Rd.elem (enc := Cl.c) (k := 7) (fun _ => rfl) hrd hx)) rfl ?_
 refine RunD.opG 13 [false, false, false, true, true, false, false, false, true, false, false, false, false] rfl rfl rfl rfl rfl kr kr (OpJ.callRet C157 rfl rfl (c_rCmp z x.k) .nil ⟨po, ?_⟩)
 refine RunD.takeG 14 rfl rfl rfl rfl rfl kr (DetJ.gtr rfl rfl) .nil ?_
 refine tk 15 rfl rfl rfl (DetJ.pickT rfl rfl) ?_
 refine kd [0, 3, 4, 5, 30] rfl ?_
 first | refine Run.if rfl (fun h2 => ?_) (fun h2 => ?_) | refine Run.cond rfl (fun h2 => ?_) (fun h2 => ?_)
 refine Run.skip ?_
 refine Run.block ?_
 refine Run.region ?_
 refine sx 2 ?_
 refine RunL.set (congrArg I (show _ = (j : Int) by omega)) ?_
 refine asg rfl rfl ?_
 exact RunL.next (Keep.sub (kt (ks := [0, 3, 4, 5]) rfl)) _ ⟨_, by omega, j, rfl, by omega, (fun j2 y hj hy => by { by_cases e : j2 = j; (subst e; rw [hz] at hy; cases hy; exact cmpK_flip.2 (by simp_all)); exact hI1 j2 y (by omega) hy }), rfl, rfl⟩ gv
 refine Run.exit ?_
 refine Run.seq ?_
 refine Run.seq ?_
 refine regionD HM ?_
 refine tk 0 rfl rfl rfl (DetJ.move rfl) ?_
 refine tk 1 rfl rfl rfl (DetJ.gtr rfl rfl) ?_
 refine tk 2 rfl rfl rfl (DetJ.move rfl) ?_
 skip
 have hins := insK_at (key := x.k) hkp hkl hI1 (fun y _ hy h => by { rw [show j + 1 - 1 = j by omega, hz] at hy; cases hy; have h5 := cmpK_flip.1 h; simp_all })
 refine RunD.set (congrArg Bo (decide_eq_true (by omega))) ?_
 refine RunD.takeG 3 rfl rfl rfl rfl rfl kr (DetJ.move rfl) .nil ?_
 refine RunD.takeG 4 rfl rfl rfl rfl rfl kr (DetJ.move rfl) .nil ?_
 first | refine RunD.takeG 5 rfl rfl rfl rfl rfl kr (DetJ.subI rfl rfl (by omega)) .nil ?_ | refine RunD.takeG 5 rfl rfl rfl rfl rfl kr (DetJ.sub rfl rfl) .nil ?_
 refine RunD.set (v := I (j : Int)) (congrArg I (by omega)) ?_
 refine RunD.takeG 6 rfl rfl rfl rfl rfl kr (DetJ.indexAddr S192 rfl rfl (by omega)) .nil ?_
 refine RunD.takeGR 7 rfl rfl rfl rfl kr T61 rfl pk (own.el (enc := Ky.c) hz (by decide) (fun _ => rfl)) rfl ?_
 refine RunD.takeG 8 rfl rfl rfl rfl rfl kr (DetJ.move rfl) .nil ?_
 refine RunD.takeG 9 rfl rfl rfl rfl rfl kr (DetJ.move rfl) .nil ?_
 refine RunD.takeG 10 rfl rfl rfl rfl rfl kr (DetJ.indexAddr S32 rfl rfl (by omega)) .nil ?_
 refine RunD.takeG 11 rfl rfl rfl rfl rfl kr (DetJ.fieldAddr F63_0 rfl) .nil ?_
 refine RunD.takeGR 12 rfl rfl rfl rfl kr T61 rfl pk (Rd.pre (us := x.k.c) (vs := [I x.amt, I x.base]) (Rd.elem (enc := Cl.c) (k := 7) (fun _ => rfl) hrd hx)) rfl ?_
 refine RunD.takeG 13 rfl rfl rfl rfl rfl kr (DetJ.eqlA EI61 rfl rfl (by rfl)) .nil ?_
 refine RunD.set (v := Bo (decide (z = x.k))) (congrArg Bo (key_dec z x.k)) ?_
 refine tk 14 rfl rfl rfl (DetJ.pickT rfl rfl) ?_
 refine kd [0, 3, 4, 5, 47] rfl ?_
 first | refine Run.if rfl (fun h3 => ?_) (fun h3 => ?_) | refine Run.cond rfl (fun h3 => ?_) (fun h3 => ?_)
 refine Run.exit ?_
 refine Run.region ?_
 refine sx 3 ?_
 have hin2 := hins
 rw [if_pos ⟨by omega, by rw [show j + 1 - 1 = j by omega, hz]; simp_all⟩] at hin2
 exact RunL.next (Keep.sub (kt (ks := [0, 3, 4]) rfl)) _ ⟨_, by omega, i + 1, ks, _, kc, rfl, by omega, (by rw [keysT_step hx, ← hK, hin2]), rfl, rfl⟩ gv
 refine Run.skip ?_
 refine sr ?_
 refine sx 2 ?_
 refine RunL.op rfl rfl (OpJ.buildSlice1 S192 rfl rfl rfl (by decide) (by decide) Z61 rfl fun b50 => ?_)
 refine RunL.op rfl rfl (OpJ.append1 (⟨bs0, bs0, bs0, bs0, bs0⟩ : Ky) S192 M61 rfl rfl pk pk rfl rfl (by simp [Value.oneCell', Tg.c, Ln.c, En.c, Ac.c, Cl.c, Ky.c, Qy.c, Sb, Iv, Cs.c]) rfl (by omega) (by omega) fun a51 c51 => ?_)
 have hins2 : insK x.k ks = gapK ks (j + 1) x.k := (by rw [hins, if_neg (by rintro ⟨-, h⟩; rw [show j + 1 - 1 = j by omega, hz] at h; simp_all)]; rfl)
 rw [gap_end ks (⟨bs0, bs0, bs0, bs0, bs0⟩ : Ky)]
 rw [gap_len]
 refine asg rfl rfl ?_
 refine kp [0, 3, 4, 5] rfl ?_
 refine Run.seq ?_
 refine sr ?_
 refine sx 3 ?_
 refine RunL.set (congrArg I (show _ = (ks.length : Int) by omega)) ?_
 refine asg rfl rfl ?_
 refine kp [0, 3, 4, 5, 6] rfl ?_
 refine Run.block ?_
 refine Run.weak (L' := [own 61 5 a51 (ks.length + 1) c51 ((gapK ks ks.length (⟨bs0, bs0, bs0, bs0, bs0⟩ : Ky)).flatMap Ky.c), R]) (fun _ _ h => h) gv ?_
 refine Run.loop (fun mm E L => ∃ (m : Nat) (g : Ky) (a51 : Option Addr), mm = 0 + (m - (j + 1)) ∧ (j + 1) ≤ m ∧ m ≤ ks.length ∧ E = [(0, .slice (some ⟨b, o, none⟩) l.length cap), (3, .slice a51 (ks.length + 1) c51), (4, I i), (5, I ((j + 1) : Nat)), (6, I m)] ∧ L = [own 61 5 a51 (ks.length + 1) c51 ((gapK ks m g).flatMap Ky.c), R]) ⟨_, ks.length, (⟨bs0, bs0, bs0, bs0, bs0⟩ : Ky), a51, rfl, by omega, Nat.le_refl _, rfl, rfl⟩ ?_
 rintro _ _ _ ⟨m, g, a51, rfl, hm1, hm2, rfl, rfl⟩
 refine Run.seq ?_
 refine sr ?_
 refine sx 3 ?_
 refine kp [0, 3, 4, 5, 6, 57] rfl ?_
 first | refine Run.if rfl (fun h4 => ?_) (fun h4 => ?_) | refine Run.cond rfl (fun h4 => ?_) (fun h4 => ?_)
 refine Run.skip ?_
 refine Run.seq ?_
 refine Run.block ?_
 refine Run.region ?_
 obtain ⟨q, rfl⟩ : ∃ q, m = q + 1 := ⟨m - 1, by omega⟩
 obtain ⟨y, hy⟩ := get_ex (xs := ks) (i := q) (by omega)
 have hgl := gap_len (ks := ks) (j := q + 1) (g := g)
 have hgy := gap_get (g := g) hy
 refine RunL.ownAddr (oa := a51) pk (flat_ne (k := 5) (fun _ => rfl) (by decide) hgy) fun bs2 e2 hcap2 => ?_
 subst e2
 refine sx 5 ?_
 refine RunL.set (congrArg I (show _ = (q : Int) by omega)) ?_
 refine sx 1 ?_
 refine RunL.op rfl rfl (OpJ.loadA inferInstance rfl pk (own.el (enc := Ky.c) hgy (by decide) (fun _ => rfl)) rfl ?_)
 refine sx 1 ?_
 refine RunL.op rfl rfl (OpJ.storeE (enc := Ky.c) (k := 5) (i := q + 1) (u' := y) (xs := gapK ks (q + 1) g) inferInstance rfl rfl (ky1 y) (by omega) (fun _ => rfl) (by decide) up ?_)
 rw [gap_step hy]
 refine kp [0, 3, 4, 5, 6] rfl ?_
 refine Run.region ?_
 refine sx 2 ?_
 refine RunL.set (congrArg I (show _ = (q : Int) by omega)) ?_
 refine asg rfl rfl ?_
 exact RunL.next (Keep.sub (kt (ks := [0, 3, 4, 5, 6]) rfl)) _ ⟨_, by omega, q, y, _, rfl, by omega, by omega, rfl, rfl⟩ gv
 refine Run.exit ?_
 refine Run.region ?_
 obtain rfl : m = (j + 1) := by omega
 have hgl := gap_len (ks := ks) (j := (j + 1)) (g := g)
 obtain ⟨y0, hy0⟩ := get_ex (xs := gapK ks (j + 1) g) (i := (j + 1)) (by omega)
 refine RunL.ownAddr (oa := a51) pk (flat_ne (k := 5) (fun _ => rfl) (by decide) hy0) fun bs2 e2 hcap2 => ?_
 subst e2
 refine sx 6 ?_
 refine RunL.op rfl rfl (OpJ.loadA inferInstance rfl pk (Rd.pre (us := x.k.c) (vs := [I x.amt, I x.base]) (Rd.elem (enc := Cl.c) (k := 7) (fun _ => rfl) hrd hx)) rfl ?_)
 refine sx 1 ?_
 refine RunL.op rfl rfl (OpJ.storeE (enc := Ky.c) (k := 5) (i := (j + 1)) (u' := x.k) (xs := gapK ks (j + 1) g) inferInstance rfl rfl (ky1 x.k) (by omega) (fun _ => rfl) (by decide) up ?_)
 rw [gap_set (by omega)]
 refine kp [0, 3, 4] rfl ?_
 refine Run.region ?_
 refine sx 3 ?_
 rw [show ks.length + 1 = (insK x.k ks).length by rw [hins2]; exact gap_len.symm]
 rw [← hins2]
 exact RunL.next (Keep.sub (kt (ks := [0, 3, 4]) rfl)) _ ⟨_, by omega, i + 1, insK x.k ks, _, c51, rfl, by omega, (by rw [keysT_step hx, hK]), rfl, rfl⟩ gv
 obtain rfl : k = 0 := by omega
 refine RunD.set (congrArg Bo (decide_eq_false (by omega))) ?_
 refine RunD.takeN 3 rfl rfl rfl rfl rfl kr ?_
 refine RunD.takeN 4 rfl rfl rfl rfl rfl kr ?_
 refine RunD.takeN 5 rfl rfl rfl rfl rfl kr ?_
 refine RunD.takeN 6 rfl rfl rfl rfl rfl kr ?_
 refine RunD.takeN 7 rfl rfl rfl rfl rfl kr ?_
 refine RunD.takeN 8 rfl rfl rfl rfl rfl kr ?_
 refine RunD.takeN 9 rfl rfl rfl rfl rfl kr ?_
 refine RunD.takeN 10 rfl rfl rfl rfl rfl kr ?_
 refine RunD.takeN 11 rfl rfl rfl rfl rfl kr ?_
 refine RunD.takeN 12 rfl rfl rfl rfl rfl kr ?_
 refine RunD.takeN 13 rfl rfl rfl rfl rfl kr ?_
 refine RunD.takeN 14 rfl rfl rfl rfl rfl kr ?_
 refine tk 15 rfl rfl rfl (DetJ.pickF rfl rfl) ?_
 refine kd [0, 3, 4, 5, 30] rfl ?_
 refine Run.false rfl ?_
 refine Run.exit ?_
 refine Run.seq ?_
 refine Run.seq ?_
 refine regionD HM ?_
 refine tk 0 rfl rfl rfl (DetJ.move rfl) ?_
 refine tk 1 rfl rfl rfl (DetJ.gtr rfl rfl) ?_
 refine tk 2 rfl rfl rfl (DetJ.move rfl) ?_
 skip
 have hins := insK_at (key := x.k) hkp hkl hI1 (fun y h _ _ => by omega)
 refine RunD.set (congrArg Bo (decide_eq_false (by omega))) ?_
 refine RunD.takeN 3 rfl rfl rfl rfl rfl kr ?_
 refine RunD.takeN 4 rfl rfl rfl rfl rfl kr ?_
 refine RunD.takeN 5 rfl rfl rfl rfl rfl kr ?_
 refine RunD.takeN 6 rfl rfl rfl rfl rfl kr ?_
 refine RunD.takeN 7 rfl rfl rfl rfl rfl kr ?_
 refine RunD.takeN 8 rfl rfl rfl rfl rfl kr ?_
 refine RunD.takeN 9 rfl rfl rfl rfl rfl kr ?_
 refine RunD.takeN 10 rfl rfl rfl rfl rfl kr ?_
 refine RunD.takeN 11 rfl rfl rfl rfl rfl kr ?_
 refine RunD.takeN 12 rfl rfl rfl rfl rfl kr ?_
 refine RunD.takeN 13 rfl rfl rfl rfl rfl kr ?_
 refine tk 14 rfl rfl rfl (DetJ.pickF rfl rfl) ?_
 refine kd [0, 3, 4, 5, 47] rfl ?_
 refine Run.false rfl ?_
 refine Run.skip ?_
 refine sr ?_
 refine sx 2 ?_
 refine RunL.op rfl rfl (OpJ.buildSlice1 S192 rfl rfl rfl (by decide) (by decide) Z61 rfl fun b50 => ?_)
 refine RunL.op rfl rfl (OpJ.append1 (⟨bs0, bs0, bs0, bs0, bs0⟩ : Ky) S192 M61 rfl rfl pk pk rfl rfl (by simp [Value.oneCell', Tg.c, Ln.c, En.c, Ac.c, Cl.c, Ky.c, Qy.c, Sb, Iv, Cs.c]) rfl (by omega) (by omega) fun a51 c51 => ?_)
 have hins2 : insK x.k ks = gapK ks 0 x.k := (by rw [hins, if_neg (by omega)]; rfl)
 rw [gap_end ks (⟨bs0, bs0, bs0, bs0, bs0⟩ : Ky)]
 rw [gap_len]
 refine asg rfl rfl ?_
 refine kp [0, 3, 4, 5] rfl ?_
 refine Run.seq ?_
 refine sr ?_
 refine sx 3 ?_
 refine RunL.set (congrArg I (show _ = (ks.length : Int) by omega)) ?_
 refine asg rfl rfl ?_
 refine kp [0, 3, 4, 5, 6] rfl ?_
 refine Run.block ?_
 refine Run.weak (L' := [own 61 5 a51 (ks.length + 1) c51 ((gapK ks ks.length (⟨bs0, bs0, bs0, bs0, bs0⟩ : Ky)).flatMap Ky.c), R]) (fun _ _ h => h) gv ?_
 refine Run.loop (fun mm E L => ∃ (m : Nat) (g : Ky) (a51 : Option Addr), mm = 0 + (m - 0) ∧ 0 ≤ m ∧ m ≤ ks.length ∧ E = [(0, .slice (some ⟨b, o, none⟩) l.length cap), (3, .slice a51 (ks.length + 1) c51), (4, I i), (5, I (0 : Nat)), (6, I m)] ∧ L = [own 61 5 a51 (ks.length + 1) c51 ((gapK ks m g).flatMap Ky.c), R]) ⟨_, ks.length, (⟨bs0, bs0, bs0, bs0, bs0⟩ : Ky), a51, rfl, by omega, Nat.le_refl _, rfl, rfl⟩ ?_
 rintro _ _ _ ⟨m, g, a51, rfl, hm1, hm2, rfl, rfl⟩
 refine Run.seq ?_
 refine sr ?_
 refine sx 3 ?_
 refine kp [0, 3, 4, 5, 6, 57] rfl ?_
 first | refine Run.if rfl (fun h5 => ?_) (fun h5 => ?_) | refine Run.cond rfl (fun h5 => ?_) (fun h5 => ?_)
 refine Run.skip ?_
 refine Run.seq ?_
 refine Run.block ?_
 refine Run.region ?_
 obtain ⟨q, rfl⟩ : ∃ q, m = q + 1 := ⟨m - 1, by omega⟩
 obtain ⟨y, hy⟩ := get_ex (xs := ks) (i := q) (by omega)
 have hgl := gap_len (ks := ks) (j := q + 1) (g := g)
 have hgy := gap_get (g := g) hy
 refine RunL.ownAddr (oa := a51) pk (flat_ne (k := 5) (fun _ => rfl) (by decide) hgy) fun bs2 e2 hcap2 => ?_
 subst e2
 refine sx 5 ?_
 refine RunL.set (congrArg I (show _ = (q : Int) by omega)) ?_
 refine sx 1 ?_
 refine RunL.op rfl rfl (OpJ.loadA inferInstance rfl pk (own.el (enc := Ky.c) hgy (by decide) (fun _ => rfl)) rfl ?_)
 refine sx 1 ?_
 refine RunL.op rfl rfl (OpJ.storeE (enc := Ky.c) (k := 5) (i := q + 1) (u' := y) (xs := gapK ks (q + 1) g) inferInstance rfl rfl (ky1 y) (by omega) (fun _ => rfl) (by decide) up ?_)
 rw [gap_step hy]
 refine kp [0, 3, 4, 5, 6] rfl ?_
 refine Run.region ?_
 refine sx 2 ?_
 refine RunL.set (congrArg I (show _ = (q : Int) by omega)) ?_
 refine asg rfl rfl ?_
 exact RunL.next (Keep.sub (kt (ks := [0, 3, 4, 5, 6]) rfl)) _ ⟨_, by omega, q, y, _, rfl, by omega, by omega, rfl, rfl⟩ gv
 refine Run.exit ?_
 refine Run.region ?_
 obtain rfl : m = 0 := by omega
 have hgl := gap_len (ks := ks) (j := 0) (g := g)
 obtain ⟨y0, hy0⟩ := get_ex (xs := gapK ks 0 g) (i := 0) (by omega)
 refine RunL.ownAddr (oa := a51) pk (flat_ne (k := 5) (fun _ => rfl) (by decide) hy0) fun bs2 e2 hcap2 => ?_
 subst e2
 refine sx 6 ?_
 refine RunL.op rfl rfl (OpJ.loadA inferInstance rfl pk (Rd.pre (us := x.k.c) (vs := [I x.amt, I x.base]) (Rd.elem (enc := Cl.c) (k := 7) (fun _ => rfl) hrd hx)) rfl ?_)
 refine sx 1 ?_
 refine RunL.op rfl rfl (OpJ.storeE (enc := Ky.c) (k := 5) (i := 0) (u' := x.k) (xs := gapK ks 0 g) inferInstance rfl rfl (ky1 x.k) (by omega) (fun _ => rfl) (by decide) up ?_)
 rw [gap_set (by omega)]
 refine kp [0, 3, 4] rfl ?_
 refine Run.region ?_
 refine sx 3 ?_
 rw [show ks.length + 1 = (insK x.k ks).length by rw [hins2]; exact gap_len.symm]
 rw [← hins2]
 exact RunL.next (Keep.sub (kt (ks := [0, 3, 4]) rfl)) _ ⟨_, by omega, i + 1, insK x.k ks, _, c51, rfl, by omega, (by rw [keysT_step hx, hK]), rfl, rfl⟩ gv
 refine Run.exit ?_
 refine sr ?_
 refine sx 2 ?_
 refine kp [2] rfl ?_
 refine Run.ret ?_
 obtain rfl : i = l.length := by omega
 rw [keysT_all (Nat.le_refl _)] at hK
 subst hK
 exact ret_out (ka, kc) (.tmp rfl .nil) trivial rfl gv
theorem c_rOf (R : HP) (oa : Option Addr) (cap : Nat) (l : List Cl) (hR : RdS R oa (l.flatMap Cl.c)) (hl : l.length ≤ 100000) (ht : Tiny l) : AC Tryz.prog 75 ⟨[.slice oa l.length cap]⟩ (stars [R]) (Outs (fun _ : Option Addr × Nat => True) (fun y => .tuple ⟨[.slice y.1 (ofL l).1.length y.2, I (ofL l).2]⟩) (fun y => [own 63 7 y.1 (ofL l).1.length y.2 ((ofL l).1.flatMap Cl.c), R])) := by
 have hkl : (keysL l).length ≤ l.length := (by have := keysT_len (l := l) (i := l.length); rwa [keysT_all (Nat.le_refl _)] at this)
 refine AC.go Tryz.func75 rfl (Nat.le_of_ble_eq_true rfl) fun β => ?_
 refine sr ?_
 refine sx 2 ?_
 refine kp [0] rfl ?_
 refine sr ?_
 refine asg rfl rfl ?_
 refine kp [0, 4] rfl ?_
 refine sr ?_
 refine mvo rfl rfl ?_
 refine RunL.callX C121 rfl rfl rfl (c_rkeys R _ _ l hR hl) tks fun ⟨ka, kc⟩ _ => ?_
 refine asg rfl rfl ?_
 refine kp [0, 4, 5] rfl ?_
 refine Run.seq ?_
 refine sr ?_
 refine RunL.ownNil 63 7 ?_
 refine asg rfl rfl ?_
 refine kp [0, 4, 5, 6] rfl ?_
 refine Run.block ?_
 refine Run.loop (fun mm E L => ∃ (i : Nat) (acc : List Cl) (ca : Option Addr) (cc : Nat) (ka : Option Addr), mm = (keysL l).length - i ∧ i ≤ (keysL l).length ∧ OfI l (keysL l) i acc ∧ E = [(0, .slice oa l.length cap), (4, .slice ca acc.length cc), (5, .slice ka (keysL l).length kc), (6, I i)] ∧ L = [own 63 7 ca acc.length cc (acc.flatMap Cl.c), own 61 5 ka (keysL l).length kc ((keysL l).flatMap Ky.c), R]) ⟨_, 0, [], none, 0, ka, rfl, Nat.zero_le _, OfI.start, rfl, rfl⟩ ?_
 rintro _ _ _ ⟨i, acc, ca, cc, ka, rfl, hi, hI0, rfl, rfl⟩
 refine Run.seq ?_
 refine sr ?_
 refine sx 4 ?_
 refine kp [0, 4, 5, 6, 19] rfl ?_
 first | refine Run.if rfl (fun h1 => ?_) (fun h1 => ?_) | refine Run.cond rfl (fun h1 => ?_) (fun h1 => ?_)
 refine Run.skip ?_
 refine Run.seq ?_
 refine Run.block ?_
 refine sr ?_
 obtain ⟨k, hk⟩ := get_ex (xs := (keysL l)) (i := i) (by omega)
 have hok := cell_ok ht hl k
 have hal := hI0.2
 refine RunL.ownNil 3 1 ?_
 refine RunL.ownNil 3 1 ?_
 refine RunL.ownAddr (oa := ka) pk (flat_ne (k := 5) (fun _ => rfl) (by decide) hk) fun bq e1 hcap1 => ?_
 subst e1
 refine sx 2 ?_
 refine kp [0, 4, 5, 6, 7, 8] rfl ?_
 refine Run.seq ?_
 refine sr ?_
 refine asg rfl rfl ?_
 refine kp [0, 4, 5, 6, 7, 8, 9] rfl ?_
 refine Run.block ?_
 refine Run.loop (fun mm E L => ∃ (m : Nat) (zs ws : List Int) (pa : Option Addr) (pc : Nat) (pb : Option Addr) (pd : Nat), mm = l.length - m ∧ m ≤ l.length ∧ zs = (byK k (l.take m)).map Cl.amt ∧ ws = (byK k (l.take m)).map Cl.base ∧ E = [(0, .slice oa l.length cap), (4, .slice ca acc.length cc), (5, .slice (some ⟨bq, 0, none⟩) (keysL l).length kc), (6, I i), (7, .slice pa zs.length pc), (8, .slice pb ws.length pd), (9, I m)] ∧ L = [own 3 1 pa zs.length pc (zs.flatMap Iv), own 3 1 pb ws.length pd (ws.flatMap Iv), own 63 7 ca acc.length cc (acc.flatMap Cl.c), own 61 5 (some ⟨bq, 0, none⟩) (keysL l).length kc ((keysL l).flatMap Ky.c), R]) ⟨_, 0, [], [], none, 0, none, 0, rfl, Nat.zero_le _, rfl, rfl, rfl, rfl⟩ ?_
 rintro _ _ _ ⟨m, zs, ws, pa, pc, pb, pd, rfl, hm, hA, hB, rfl, rfl⟩
 refine Run.seq ?_
 refine sr ?_
 refine sx 4 ?_
 refine kp [0, 4, 5, 6, 7, 8, 9, 25] rfl ?_
 first | refine Run.if rfl (fun h2 => ?_) (fun h2 => ?_) | refine Run.cond rfl (fun h2 => ?_) (fun h2 => ?_)
 refine Run.skip ?_
 refine Run.seq ?_
 refine Run.block ?_
 refine Run.seq ?_
 refine regionD HM ?_
 obtain ⟨x, hx⟩ := get_ex (xs := l) (i := m) (by omega)
 refine RunD.rdOpen pk hR (flat_ne (k := 7) (fun _ => rfl) (by decide) hx) fun b o eb hrd => ?_
 subst eb
 have hct := getA_take (k := k) hx
 have hzl : zs.length ≤ m := (by rw [hA, List.length_map]; exact Nat.le_trans (List.length_filter_le ..) (by rw [List.length_take]; omega))
 have hwl : ws.length ≤ m := (by rw [hB, List.length_map]; exact Nat.le_trans (List.length_filter_le ..) (by rw [List.length_take]; omega))
 refine tk 0 rfl rfl rfl (DetJ.move rfl) ?_
 refine tk 1 rfl rfl rfl (DetJ.move rfl) ?_
 refine tk 2 rfl rfl rfl (DetJ.indexAddr S32 rfl rfl (by omega)) ?_
 refine tk 3 rfl rfl rfl (DetJ.fieldAddr F63_0 rfl) ?_
 refine RunD.takeR 4 rfl rfl kr T61 rfl pk (Rd.pre (us := x.k.c) (vs := [I x.amt, I x.base]) (Rd.elem (enc := Cl.c) (k := 7) (fun _ => rfl) hrd hx)) rfl ?_
 refine tk 5 rfl rfl rfl (DetJ.move rfl) ?_
 refine tk 6 rfl rfl rfl (DetJ.move rfl) ?_
 refine tk 7 rfl rfl rfl (DetJ.indexAddr S192 rfl rfl (by omega)) ?_
 refine RunD.takeR 8 rfl rfl kr T61 rfl pk (own.el (enc := Ky.c) hk (by decide) (fun _ => rfl)) rfl ?_
 refine tk 9 rfl rfl rfl (DetJ.eqlA EI61 rfl rfl (by rfl)) ?_
 refine RunD.set (v := Bo (decide (x.k = k))) (congrArg Bo (key_dec x.k k)) ?_
 refine kd [0, 4, 5, 6, 7, 8, 9, 37] rfl ?_
 first | refine Run.if rfl (fun h3 => ?_) (fun h3 => ?_) | refine Run.cond rfl (fun h3 => ?_) (fun h3 => ?_)
 refine sr ?_
 refine sx 5 ?_
 refine RunL.op rfl rfl (OpJ.load1 inferInstance rfl pk (hrd.at (enc := Cl.c) 7 (fun _ => rfl) hx 5 (I x.amt) rfl) ?_)
 refine RunL.op rfl rfl (OpJ.buildSlice1 S112 rfl rfl rfl (by decide) (by decide) Z3 rfl fun b44 => ?_)
 refine RunL.op rfl rfl (OpJ.append1 (enc := Iv) x.amt S112 M3 rfl rfl pk pk rfl rfl (by simp [Value.oneCell', Tg.c, Ln.c, En.c, Ac.c, Cl.c, Ky.c, Qy.c, Sb, Iv, Cs.c]) rfl (by omega) (by omega) fun a45 c45 => ?_)
 refine asg rfl rfl ?_
 refine kp [0, 4, 5, 6, 7, 8, 9] rfl ?_
 refine Run.region ?_
 refine sx 5 ?_
 refine RunL.op rfl rfl (OpJ.load1 inferInstance rfl pk (hrd.at (enc := Cl.c) 7 (fun _ => rfl) hx 6 (I x.base) rfl) ?_)
 refine RunL.op rfl rfl (OpJ.buildSlice1 S112 rfl rfl rfl (by decide) (by decide) Z3 rfl fun b52 => ?_)
 refine RunL.op rfl rfl (OpJ.append1 (enc := Iv) x.base S112 M3 rfl rfl pk pk rfl rfl (by simp [Value.oneCell', Tg.c, Ln.c, En.c, Ac.c, Cl.c, Ky.c, Qy.c, Sb, Iv, Cs.c]) rfl (by omega) (by omega) fun a53 c53 => ?_)
 refine asg rfl rfl ?_
 refine kp [0, 4, 5, 6, 7, 8, 9] rfl ?_
 refine Run.region ?_
 refine sx 3 ?_
 exact RunL.next (Keep.sub (kt (ks := [0, 4, 5, 6, 7, 8, 9]) rfl)) _ ⟨_, by omega, m + 1, zs ++ [x.amt], ws ++ [x.base], a45, c45, a53, c53, rfl, by omega, (by rw [hct, if_pos (by simp_all), hA, List.map_append]; rfl), (by rw [hct, if_pos (by simp_all), hB, List.map_append]; rfl), rfl, rfl⟩ gv
 refine Run.skip ?_
 refine Run.region ?_
 refine sx 3 ?_
 exact RunL.next (Keep.sub (kt (ks := [0, 4, 5, 6, 7, 8, 9]) rfl)) _ ⟨_, by omega, m + 1, zs, ws, pa, pc, pb, pd, rfl, by omega, (by rw [hct, if_neg (by simp_all), List.append_nil, hA]), (by rw [hct, if_neg (by simp_all), List.append_nil, hB]), rfl, rfl⟩ gv
 refine Run.exit ?_
 refine sr ?_
 obtain rfl : m = l.length := by omega
 rw [List.take_length] at hA hB
 subst hA
 subst hB
 refine mvo rfl rfl ?_
 refine RunL.call C122 rfl rfl rfl (c_rSum (own 3 1 pa ((byK k l).map Cl.amt).length pc (((byK k l).map Cl.amt).flatMap Iv)) pa pc ((byK k l).map Cl.amt) own.rds hok.1.1 hok.1.2.2 hok.1.2.1) tks ?_
 rw [show ((byK k l).map Cl.amt).sum = getA l k from rfl]
 refine sx 5 ?_
 refine kp [0, 4, 5, 6, 8, 10, 11] rfl ?_
 refine sr ?_
 refine mvo rfl rfl ?_
 refine RunL.call C122 rfl rfl rfl (c_rSum (own 3 1 pb ((byK k l).map Cl.base).length pd (((byK k l).map Cl.base).flatMap Iv)) pb pd ((byK k l).map Cl.base) own.rds hok.2.1 hok.2.2.2 hok.2.2.1) tks ?_
 rw [show ((byK k l).map Cl.base).sum = getB l k from rfl]
 refine sx 5 ?_
 refine kp [0, 4, 5, 6, 10, 11, 12, 13] rfl ?_
 refine Run.seq ?_
 refine sr ?_
 refine RunL.cut (t := 79) (v := Bo (!(withinB (getA l k) && withinB (getB l k)))) (kt (ks := [0, 4, 5, 6, 10, 12]) rfl) ?_ ?_
 refine sx 8 ?_
 refine RunL.callG C123 rfl rfl rfl rfl rfl (c_rfits _) .nil ?_
 refine sx 3 ?_
 first | refine RunL.splitP (t := 75) rfl (fun g4 => ?_) (fun g4 => ?_) | refine RunL.split (t := 75) rfl (fun g4 => ?_) (fun g4 => ?_)
 refine sx 4 ?_
 exact RunL.nil ⟨.cons (by first | rfl | (show some (Value.bool _) = some (Value.bool _); simp_all)) (kt (ks := [0, 4, 5, 6, 10, 12]) rfl), rfl⟩
 refine sx 1 ?_
 refine RunL.callG C123 rfl rfl rfl rfl rfl (c_rfits _) .nil ?_
 refine sx 2 ?_
 exact RunL.nil ⟨.cons (by first | rfl | (show some (Value.bool _) = some (Value.bool _); simp_all)) (kt (ks := [0, 4, 5, 6, 10, 12]) rfl), rfl⟩
 first | refine Run.if rfl (fun h5 => ?_) (fun h5 => ?_) | refine Run.cond rfl (fun h5 => ?_) (fun h5 => ?_)
 refine sr ?_
 refine RunL.ownNil 63 7 ?_
 refine sx 2 ?_
 refine kp [2, 3] rfl ?_
 refine Run.ret ?_
 have hn : ofL l = ([], 4) := (by unfold ofL sheetL; rw [hI0.bad hk (by rintro ⟨e1, e2⟩; simp_all)])
 rw [hn]
 exact ret_out (none, 0) (.tmp rfl (.tmp rfl .nil)) trivial rfl gv
 refine Run.skip ?_
 refine sr ?_
 have hfit : withinB (getA l k) = true ∧ withinB (getB l k) = true := (by simpa using ‹(!(withinB (getA l k) && withinB (getB l k))) = false›)
 refine sx 3 ?_
 first | refine RunL.splitP (t := 82) rfl (fun g6 => ?_) (fun g6 => ?_) | refine RunL.split (t := 82) rfl (fun g6 => ?_) (fun g6 => ?_)
 refine sx 3 ?_
 refine kp [0, 4, 5, 6, 10, 12, 85] rfl ?_
 refine Run.true rfl ?_
 refine Run.region ?_
 refine sx 4 ?_
 refine RunL.op rfl rfl (OpJ.loadA inferInstance rfl pk (own.el (enc := Ky.c) hk (by decide) (fun _ => rfl)) rfl ?_)
 refine sx 3 ?_
 refine RunL.op rfl rfl (OpJ.buildSlice1 S32 rfl rfl rfl (by decide) (by decide) Z63 rfl fun b94 => ?_)
 refine RunL.op rfl rfl (OpJ.append1 (⟨k, getA l k, getB l k⟩ : Cl) S32 M63 rfl rfl pk pk rfl rfl (by simp [Value.oneCell', Tg.c, Ln.c, En.c, Ac.c, Cl.c, Ky.c, Qy.c, Sb, Iv, Cs.c]) rfl (by omega) (by omega) fun a95 c95 => ?_)
 refine asg rfl rfl ?_
 refine kp [0, 4, 5, 6] rfl ?_
 refine Run.region ?_
 refine sx 3 ?_
 have hst := hI0.step hk hfit
 rw [if_neg (fun h => by simp_all)] at hst
 exact RunL.next (Keep.sub (kt (ks := [0, 4, 5, 6]) rfl)) _ ⟨_, by omega, i + 1, acc ++ [⟨k, getA l k, getB l k⟩], a95, c95, _, rfl, by omega, hst, rfl, rfl⟩ gv
 refine sx 3 ?_
 refine kp [0, 4, 5, 6, 10, 12, 85] rfl ?_
 first | refine Run.if rfl (fun h7 => ?_) (fun h7 => ?_) | refine Run.cond rfl (fun h7 => ?_) (fun h7 => ?_)
 refine Run.region ?_
 refine sx 4 ?_
 refine RunL.op rfl rfl (OpJ.loadA inferInstance rfl pk (own.el (enc := Ky.c) hk (by decide) (fun _ => rfl)) rfl ?_)
 refine sx 3 ?_
 refine RunL.op rfl rfl (OpJ.buildSlice1 S32 rfl rfl rfl (by decide) (by decide) Z63 rfl fun b94 => ?_)
 refine RunL.op rfl rfl (OpJ.append1 (⟨k, getA l k, getB l k⟩ : Cl) S32 M63 rfl rfl pk pk rfl rfl (by simp [Value.oneCell', Tg.c, Ln.c, En.c, Ac.c, Cl.c, Ky.c, Qy.c, Sb, Iv, Cs.c]) rfl (by omega) (by omega) fun a95 c95 => ?_)
 refine asg rfl rfl ?_
 refine kp [0, 4, 5, 6] rfl ?_
 refine Run.region ?_
 refine sx 3 ?_
 have hst := hI0.step hk hfit
 rw [if_neg (fun h => by simp_all)] at hst
 exact RunL.next (Keep.sub (kt (ks := [0, 4, 5, 6]) rfl)) _ ⟨_, by omega, i + 1, acc ++ [⟨k, getA l k, getB l k⟩], a95, c95, _, rfl, by omega, hst, rfl, rfl⟩ gv
 refine Run.skip ?_
 refine Run.region ?_
 refine sx 3 ?_
 have hst := hI0.step hk hfit
 rw [if_pos (by simp_all)] at hst
 exact RunL.next (Keep.sub (kt (ks := [0, 4, 5, 6]) rfl)) _ ⟨_, by omega, i + 1, acc, ca, cc, _, rfl, by omega, hst, rfl, rfl⟩ gv
 refine Run.exit ?_
 refine sr ?_
 refine sx 3 ?_
 refine kp [2, 3] rfl ?_
 refine Run.ret ?_
 have hn : ofL l = (acc, 0) := (by unfold ofL sheetL; rw [hI0.done (by omega)])
 rw [hn]
 exact ret_out (ca, cc) (.tmp rfl (.tmp rfl .nil)) trivial rfl gv
theorem c_rkey (ent : ByteArray) (y : Ln) (R : HP) (hT : RdS R y.ta (y.tags.flatMap Tg.c)) (hz : y.sz) : AC Tryz.prog 120 ⟨[St ent, .agg ⟨y.c⟩]⟩ (stars [R]) (Ret (.agg ⟨(⟨ent, y.acc, y.cur, y.partner, textV y.tags⟩ : Ky).c⟩) [R]) := by
 refine AC.go Tryz.func120 rfl (Nat.le_of_ble_eq_true rfl) fun β => ?_
 refine sr ?_
 refine RunL.op rfl rfl (OpJ.boxA rfl fun b3 => ?_)
 refine RunL.op rfl rfl (OpJ.alloc Z61 fun b4 => ?_)
 refine kp [0, 3, 4] rfl ?_
 refine sr ?_
 refine sx 2 ?_
 refine RunL.call C156 rfl rfl rfl (c_r9Text R _ _ y.tags hT hz.tags hz.tl) tks ?_
 refine sx 5 ?_
 refine kp [0, 3, 4, 5] rfl ?_
 refine sr ?_
 refine sx 9 ?_
 refine RunL.op rfl rfl (OpJ.storeW T61 rfl rfl rfl rfl (by simp [Value.oneCell', Tg.c, Ln.c, En.c, Ac.c, Cl.c, Ky.c, Qy.c, Sb, Iv, Cs.c]) up ?_)
 refine kp [4] rfl ?_
 refine Run.ret ?_
 exact ret_one (.cellA T61 rfl pk (by rfl) .nil) (rfl) gv
theorem c_rlines (e : En) (R : HP) (he : e.rd R) (hz : e.sz) (hl : e.lines.length ≤ 100) : AC Tryz.prog 74 ⟨[.agg ⟨e.c⟩]⟩ (stars [R]) (Outs (fun _ : Option Addr × Nat => True) (fun y => .slice y.1 (rawL e).length y.2) (fun y => [own 63 7 y.1 (rawL e).length y.2 ((rawL e).flatMap Cl.c), R])) := by
 refine AC.go Tryz.func74 rfl (Nat.le_of_ble_eq_true rfl) fun β => ?_
 refine sr ?_
 refine RunL.op rfl rfl (OpJ.boxA rfl fun b1 => ?_)
 refine asg rfl rfl ?_
 refine kp [1] rfl ?_
 refine sr ?_
 refine RunL.op rfl rfl (OpJ.buildSlice0 S32 fun b5 => ?_)
 refine asg rfl rfl ?_
 refine kp [1, 3] rfl ?_
 refine Run.seq ?_
 refine sr ?_
 refine asg rfl rfl ?_
 refine kp [1, 3, 4] rfl ?_
 refine Run.block ?_
 refine Run.weak (L' := [own 63 7 (bpt b5) ([] : List Cl).length 0 (([] : List Cl).flatMap Cl.c), pt b1 (blk e.c 42), R]) (fun _ _ h => h) gv ?_
 refine Run.loop (fun mm E L => ∃ (i : Nat) (acc : List Cl) (ca : Option Addr) (cc : Nat), mm = e.lines.length - i ∧ i ≤ e.lines.length ∧ acc = (rawL e).take i ∧ E = [(1, .pointer (some ⟨b1, 0, none⟩)), (3, .slice ca acc.length cc), (4, I i)] ∧ L = [own 63 7 ca acc.length cc (acc.flatMap Cl.c), pt b1 (blk e.c 42), R]) ⟨_, 0, [], bpt b5, 0, rfl, Nat.zero_le _, rfl, rfl, rfl⟩ ?_
 rintro _ _ _ ⟨i, acc, ca, cc, rfl, hi, hA, rfl, rfl⟩
 refine Run.seq ?_
 refine sr ?_
 refine sx 5 ?_
 refine kp [1, 3, 4, 10] rfl ?_
 first | refine Run.if rfl (fun h1 => ?_) (fun h1 => ?_) | refine Run.cond rfl (fun h1 => ?_) (fun h1 => ?_)
 refine Run.skip ?_
 refine Run.seq ?_
 refine Run.block ?_
 refine regionD HM ?_
 obtain ⟨y, hy⟩ := get_ex (xs := e.lines) (i := i) (by omega)
 have hym := List.mem_of_getElem? hy
 refine RunD.rdOpen pk he.1 (flat_ne (k := 7) (fun _ => rfl) (by decide) hy) fun b o eb hrd => ?_
 have hrt := raw_at hy
 have hacl : acc.length ≤ i := (by rw [hA, List.length_take]; omega)
 refine tk 0 rfl rfl rfl (DetJ.move rfl) ?_
 refine tk 1 rfl rfl rfl (DetJ.fieldAddr F42_1 rfl) ?_
 first | refine RunD.takeF 2 rfl rfl kr T9 rfl pk (by rfl) ?_ | refine RunD.takeO 2 rfl rfl kr T9 rfl pk (by assumption) (by rfl) (by exact fun _ => rfl) ?_
 refine tk 3 rfl rfl rfl (DetJ.fieldAddr F42_8 rfl) ?_
 first | refine RunD.takeF 4 rfl rfl kr T40 rfl pk (by rfl) ?_ | refine RunD.takeO 4 rfl rfl kr T40 rfl pk (by assumption) (by rfl) (by exact fun _ => rfl) ?_
 rw [eb]
 refine tk 5 rfl rfl rfl (DetJ.move rfl) ?_
 refine tk 6 rfl rfl rfl (DetJ.indexAddr S40 rfl rfl (by omega)) ?_
 refine RunD.takeR 7 rfl rfl kr T73 rfl pk (hrd.elem (enc := Ln.c) (fun _ => rfl) hy) rfl ?_
 refine tk 9 rfl rfl rfl (DetJ.fieldAddr F42_8 rfl) ?_
 first | refine RunD.takeF 10 rfl rfl kr T40 rfl pk (by rfl) ?_ | refine RunD.takeO 10 rfl rfl kr T40 rfl pk (by assumption) (by rfl) (by exact fun _ => rfl) ?_
 rw [eb]
 refine tk 11 rfl rfl rfl (DetJ.move rfl) ?_
 refine tk 12 rfl rfl rfl (DetJ.indexAddr S40 rfl rfl (by omega)) ?_
 refine tk 13 rfl rfl rfl (DetJ.fieldAddr F73_2 rfl) ?_
 refine RunD.takeR1 14 rfl rfl kr T3 rfl pk (hrd.at (enc := Ln.c) 7 (fun _ => rfl) hy 2 (I y.amt) rfl) ?_
 refine tk 15 rfl rfl rfl (DetJ.fieldAddr F42_8 rfl) ?_
 first | refine RunD.takeF 16 rfl rfl kr T40 rfl pk (by rfl) ?_ | refine RunD.takeO 16 rfl rfl kr T40 rfl pk (by assumption) (by rfl) (by exact fun _ => rfl) ?_
 rw [eb]
 refine tk 17 rfl rfl rfl (DetJ.move rfl) ?_
 refine tk 18 rfl rfl rfl (DetJ.indexAddr S40 rfl rfl (by omega)) ?_
 refine tk 19 rfl rfl rfl (DetJ.fieldAddr F73_3 rfl) ?_
 refine RunD.takeR1 20 rfl rfl kr T3 rfl pk (hrd.at (enc := Ln.c) 7 (fun _ => rfl) hy 3 (I y.base) rfl) ?_
 refine RunD.op 8 [true, true, true, true, true, true, true, true, true, true, true, true, false, false, false, false, true, false, false, true] rfl rfl rfl kr kr (OpJ.callRet C120 rfl rfl (c_rkey e.ent y R (he.2 y hym).1 (hz.lines y hym)) tks ⟨po, ?_⟩)
 refine RunD.takeB 21 rfl rfl kr B63 rfl rfl fun cs hcs => ?_
 simp only [Tg.c, Ln.c, En.c, Ac.c, Cl.c, Ky.c, Qy.c, Cs.c, bldL, bldA, Value.cells, bs, Nat.reduceAdd, Nat.reduceLeDiff, Nat.reduceLT] at hcs; subst hcs
 refine RunD.op 22 [false, false, false, true, true, true, true, false, false, true, true, true, true, true, true] rfl rfl rfl kr kr (OpJ.buildSlice1 S32 rfl rfl rfl (by decide) (by decide) Z63 rfl fun b35 => ⟨po, ?_⟩)
 refine RunD.op 23 [true, true, true, true, true, true, true, true, true, false] rfl rfl rfl kr kr (OpJ.append1 (rawF e y) S32 M63 rfl rfl pk pk rfl rfl (by simp [Value.oneCell', Tg.c, Ln.c, En.c, Ac.c, Cl.c, Ky.c, Qy.c, Sb, Iv, Cs.c]) rfl (by omega) (by omega) fun a36 c36 => ⟨po, ?_⟩)
 refine tk 24 rfl rfl rfl (DetJ.assign rfl) ?_
 refine kd [1, 3, 4] rfl ?_
 refine Run.region ?_
 refine sx 3 ?_
 exact RunL.next (Keep.sub (kt (ks := [1, 3, 4]) rfl)) _ ⟨_, by omega, i + 1, acc ++ [rawF e y], a36, c36, rfl, by omega, (by rw [hrt, hA]), rfl, rfl⟩ gv
 refine Run.exit ?_
 refine sr ?_
 refine sx 2 ?_
 refine kp [2] rfl ?_
 refine Run.ret ?_
 obtain rfl : i = e.lines.length := by omega
 rw [List.take_of_length_le (by rw [raw_eq, List.length_map]; exact Nat.le_refl _)] at hA
 subst hA
 exact ret_out (ca, cc) (.tmp rfl .nil) trivial rfl gv
theorem c_rsel (q : Qy) (e : En) : AC Tryz.prog 73 ⟨[.agg ⟨q.c⟩, .agg ⟨e.c⟩]⟩ (stars []) (Ret (Bo (selB q e)) []) := by
 refine AC.go Tryz.func73 rfl (Nat.le_of_ble_eq_true rfl) fun β => ?_
 refine sr ?_
 refine RunL.op rfl rfl (OpJ.boxA rfl fun b2 => ?_)
 refine RunL.op rfl rfl (OpJ.boxA rfl fun b3 => ?_)
 refine asg rfl rfl ?_
 refine kp [2, 3] rfl ?_
 refine sr ?_
 refine sx 4 ?_
 first | refine RunL.splitP (t := 8) rfl (fun g1 => ?_) (fun g1 => ?_) | refine RunL.split (t := 8) rfl (fun g1 => ?_) (fun g1 => ?_)
 refine sx 14 ?_
 first | refine RunL.splitP (t := 22) rfl (fun g2 => ?_) (fun g2 => ?_) | refine RunL.split (t := 22) rfl (fun g2 => ?_) (fun g2 => ?_)
 refine sx 7 ?_
 first | refine RunL.splitP (t := 29) rfl (fun g3 => ?_) (fun g3 => ?_) | refine RunL.split (t := 29) rfl (fun g3 => ?_) (fun g3 => ?_)
 refine sx 7 ?_
 refine kp [4] rfl ?_
 refine Run.ret ?_
 exact ret_one (.tmp rfl .nil) (by show Value.bool _ = Value.bool _; unfold selB; congr 1; first | (simp_all [bs0]; done) | (simp_all [bs0]; intros; omega)) gv
 refine sx 7 ?_
 refine kp [4] rfl ?_
 refine Run.ret ?_
 exact ret_one (.tmp rfl .nil) (by show Value.bool _ = Value.bool _; unfold selB; congr 1; first | (simp_all [bs0]; done) | (simp_all [bs0]; intros; omega)) gv
 refine sx 14 ?_
 refine kp [4] rfl ?_
 refine Run.ret ?_
 exact ret_one (.tmp rfl .nil) (by show Value.bool _ = Value.bool _; unfold selB; congr 1; first | (simp_all [bs0]; done) | (simp_all [bs0]; intros; omega)) gv
 refine sx 7 ?_
 first | refine RunL.splitP (t := 15) rfl (fun g4 => ?_) (fun g4 => ?_) | refine RunL.split (t := 15) rfl (fun g4 => ?_) (fun g4 => ?_)
 refine sx 7 ?_
 first | refine RunL.splitP (t := 22) rfl (fun g5 => ?_) (fun g5 => ?_) | refine RunL.split (t := 22) rfl (fun g5 => ?_) (fun g5 => ?_)
 refine sx 7 ?_
 first | refine RunL.splitP (t := 29) rfl (fun g6 => ?_) (fun g6 => ?_) | refine RunL.split (t := 29) rfl (fun g6 => ?_) (fun g6 => ?_)
 refine sx 7 ?_
 refine kp [4] rfl ?_
 refine Run.ret ?_
 exact ret_one (.tmp rfl .nil) (by show Value.bool _ = Value.bool _; unfold selB; congr 1; first | (simp_all [bs0]; done) | (simp_all [bs0]; intros; omega)) gv
 refine sx 7 ?_
 refine kp [4] rfl ?_
 refine Run.ret ?_
 exact ret_one (.tmp rfl .nil) (by show Value.bool _ = Value.bool _; unfold selB; congr 1; first | (simp_all [bs0]; done) | (simp_all [bs0]; intros; omega)) gv
 refine sx 14 ?_
 refine kp [4] rfl ?_
 refine Run.ret ?_
 exact ret_one (.tmp rfl .nil) (by show Value.bool _ = Value.bool _; unfold selB; congr 1; first | (simp_all [bs0]; done) | (simp_all [bs0]; intros; omega)) gv
 refine sx 21 ?_
 refine kp [4] rfl ?_
 refine Run.ret ?_
 exact ret_one (.tmp rfl .nil) (by show Value.bool _ = Value.bool _; unfold selB; congr 1; first | (simp_all [bs0]; done) | (simp_all [bs0]; intros; omega)) gv
theorem c_rReplay (R : HP) (oa : Option Addr) (cap : Nat) (l : List En) (hR : RdS R oa (l.flatMap En.c)) (hrd : ∀ e ∈ l, e.rd R) (hz : ∀ e ∈ l, e.sz) (hl : l.length ≤ 1000) (q : Qy) : AC Tryz.prog 36 ⟨[.slice oa l.length cap, .agg ⟨q.c⟩]⟩ (stars [R]) (Outs (fun _ : Option Addr × Nat => True) (fun y => .tuple ⟨[.slice y.1 (replayL l q).1.length y.2, I (replayL l q).2]⟩) (fun y => [own 63 7 y.1 (replayL l q).1.length y.2 ((replayL l q).1.flatMap Cl.c), R])) := by
 refine AC.go Tryz.func36 rfl (Nat.le_of_ble_eq_true rfl) fun β => ?_
 refine sr ?_
 refine RunL.op rfl rfl (OpJ.boxA rfl fun b3 => ?_)
 refine sx 2 ?_
 refine kp [0, 3] rfl ?_
 refine sr ?_
 refine RunL.op rfl rfl (OpJ.buildSlice0 S32 fun b10 => ?_)
 refine asg rfl rfl ?_
 refine kp [0, 3, 6] rfl ?_
 refine Run.seq ?_
 refine sr ?_
 refine asg rfl rfl ?_
 refine kp [0, 3, 6, 7] rfl ?_
 refine Run.block ?_
 refine Run.weak (L' := [own 63 7 (bpt b10) ([] : List Cl).length 0 (([] : List Cl).flatMap Cl.c), pt b3 (blk q.c 54), R]) (fun _ _ h => h) gv ?_
 refine Run.loop (fun mm E L => ∃ (i : Nat) (acc : List Cl) (ca : Option Addr) (cc : Nat), mm = l.length - i ∧ i ≤ l.length ∧ acc = cellsL q (l.take i) ∧ (∀ (j : Nat) (e : En), j < i → l[j]? = some e → (chkN e).2 = 0) ∧ E = [(0, .slice oa l.length cap), (3, .pointer (some ⟨b3, 0, none⟩)), (6, .slice ca acc.length cc), (7, I i)] ∧ L = [own 63 7 ca acc.length cc (acc.flatMap Cl.c), pt b3 (blk q.c 54), R]) ⟨_, 0, [], bpt b10, 0, rfl, Nat.zero_le _, rfl, (fun j e h => by omega), rfl, rfl⟩ ?_
 rintro _ _ _ ⟨i, acc, ca, cc, rfl, hi, hA, hI0, rfl, rfl⟩
 refine Run.seq ?_
 refine sr ?_
 refine sx 4 ?_
 refine kp [0, 3, 6, 7, 14] rfl ?_
 first | refine Run.if rfl (fun h1 => ?_) (fun h1 => ?_) | refine Run.cond rfl (fun h1 => ?_) (fun h1 => ?_)
 refine Run.skip ?_
 refine Run.seq ?_
 refine Run.block ?_
 refine sr ?_
 obtain ⟨e, hex⟩ := get_ex (xs := l) (i := i) (by omega)
 have hem := List.mem_of_getElem? hex
 refine RunL.rdOpen pk hR (flat_ne (k := 9) (fun _ => rfl) (by decide) hex) fun b o eb hrq => ?_
 subst eb
 refine sx 3 ?_
 refine RunL.op rfl rfl (OpJ.loadA inferInstance rfl pk (hrq.elem (fun _ => rfl) hex) rfl ?_)
 refine RunL.call C43 rfl rfl rfl (c_r12Check e R (hrd e hem) (hz e hem)) tks ?_
 refine sx 5 ?_
 refine kp [0, 3, 6, 7, 9] rfl ?_
 refine Run.seq ?_
 refine sr ?_
 refine sx 2 ?_
 refine kp [0, 3, 6, 7, 9, 26] rfl ?_
 first | refine Run.if rfl (fun h2 => ?_) (fun h2 => ?_) | refine Run.cond rfl (fun h2 => ?_) (fun h2 => ?_)
 refine sr ?_
 refine RunL.ownNil 63 7 ?_
 refine sx 3 ?_
 refine kp [4, 5] rfl ?_
 refine Run.ret ?_
 have hn : ¬ (chkN e).2 = 0 := (by simpa using h2)
 have hp : replayL l q = ([], (chkN e).2) := (by unfold replayL; rw [errL_at hI0 hex hn, if_neg hn])
 rw [hp]
 exact ret_out (none, 0) (.tmp rfl (.tmp rfl .nil)) trivial rfl gv
 refine Run.skip ?_
 refine Run.seq ?_
 refine regionD HM ?_
 have hck : (chkN e).2 = 0 := by simpa using h2
 have hcs := cells_step (q := q) hex
 have hll := chk_len hck
 have hrl : (rawL e).length ≤ 100 := (by rw [raw_eq, List.length_map]; omega)
 have hcl := cells_len (q := q) (l := l.take i) (fun e he => by { obtain ⟨j, hj, rfl⟩ := List.getElem_of_mem he; rw [List.getElem_take]; exact chk_len (hI0 j _ (by rw [List.length_take] at hj; omega) (List.getElem?_eq_getElem _)) })
 rw [List.length_take, ← hA] at hcl
 first | refine RunD.takeW 0 rfl rfl kr T54 rfl pk (by rfl) ?_ | refine RunD.takeP 0 rfl rfl kr T54 rfl pk (by simp) ?_ | refine RunD.takeE 0 rfl rfl kr T54 rfl pk (by assumption) (by exact fun _ => rfl) rfl (by decide) ?_
 refine tk 1 rfl rfl rfl (DetJ.move rfl) ?_
 refine tk 2 rfl rfl rfl (DetJ.move rfl) ?_
 refine tk 3 rfl rfl rfl (DetJ.indexAddr S25 rfl rfl (by omega)) ?_
 refine RunD.takeR 4 rfl rfl kr T42 rfl pk (hrq.elem (enc := En.c) (fun _ => rfl) hex) rfl ?_
 refine RunD.op 5 [false, false, false, false, false] rfl rfl rfl kr kr (OpJ.callRet C73 rfl rfl (c_rsel q e) .nil ⟨po, ?_⟩)
 refine kd [0, 3, 6, 7, 33] rfl ?_
 first | refine Run.if rfl (fun h3 => ?_) (fun h3 => ?_) | refine Run.cond rfl (fun h3 => ?_) (fun h3 => ?_)
 refine Run.region ?_
 refine sx 4 ?_
 refine RunL.op rfl rfl (OpJ.loadA inferInstance rfl pk (hrq.elem (fun _ => rfl) hex) rfl ?_)
 refine RunL.callX C74 rfl rfl rfl (c_rlines e R (hrd e hem) (hz e hem) (chk_len hck)) tks fun ⟨la, lc⟩ _ => ?_
 refine RunL.op rfl rfl (OpJ.appendAll S32 M63 rfl rfl pk pk own.rds (flat_len (enc := Cl.c) (k := 7) (fun _ => rfl) _) (by decide) (flat_one cl1 _) (by omega) (by omega) fun a40 c40 => ?_)
 refine asg rfl rfl ?_
 refine kp [0, 3, 6, 7] rfl ?_
 refine Run.region ?_
 refine sx 3 ?_
 rw [if_pos (by simp_all), ← hA] at hcs
 rw [show acc.length + (rawL e).length = (acc ++ rawL e).length by rw [List.length_append], show acc.flatMap Cl.c ++ (rawL e).flatMap Cl.c = (acc ++ rawL e).flatMap Cl.c by rw [List.flatMap_append]]
 exact RunL.next (Keep.sub (kt (ks := [0, 3, 6, 7]) rfl)) _ ⟨_, by omega, i + 1, acc ++ rawL e, a40, c40, rfl, by omega, hcs.symm, (fun j y hj hy => by { by_cases e2 : j = i; (subst e2; rw [hex] at hy; cases hy; exact hck); exact hI0 j y (by omega) hy }), rfl, rfl⟩ gv
 refine Run.skip ?_
 refine Run.region ?_
 refine sx 3 ?_
 rw [if_neg (by simp_all), List.append_nil, ← hA] at hcs
 exact RunL.next (Keep.sub (kt (ks := [0, 3, 6, 7]) rfl)) _ ⟨_, by omega, i + 1, acc, ca, cc, rfl, by omega, hcs.symm, (fun j y hj hy => by { by_cases e2 : j = i; (subst e2; rw [hex] at hy; cases hy; exact hck); exact hI0 j y (by omega) hy }), rfl, rfl⟩ gv
 refine Run.exit ?_
 refine sr ?_
 obtain rfl : i = l.length := by omega
 rw [List.take_length] at hA
 have her : errL l = 0 := errL_none (fun e he => by { obtain ⟨j, hj, rfl⟩ := List.getElem_of_mem he; exact hI0 j _ hj (List.getElem?_eq_getElem hj) })
 have hcn : (cellsL q l).length ≤ 100000 := (by have := cells_len (q := q) (l := l) (fun e he => chk_len (errL_zero her e he)); omega)
 subst hA
 refine mvo rfl rfl ?_
 refine RunL.callX C75 rfl rfl rfl (c_rOf (own 63 7 ca (cellsL q l).length cc ((cellsL q l).flatMap Cl.c)) ca cc (cellsL q l) own.rds hcn (cells_tiny her)) tks fun ⟨ra, rc⟩ _ => ?_
 refine sx 4 ?_
 refine kp [4, 5] rfl ?_
 refine Run.ret ?_
 have hp : replayL l q = ofL (cellsL q l) := (by unfold replayL; rw [if_pos her]; rfl)
 rw [hp]
 exact ret_out (ra, rc) (.tmp rfl (.tmp rfl .nil)) trivial rfl gv
theorem c_rResult (R : HP) (xa : Option Addr) (xc : Nat) (xs : List Ac) (hxr : RdS R xa (xs.flatMap Ac.c)) (hxl : xs.length ≤ 140737488355328) (oa : Option Addr) (cap : Nat) (l : List En) (hR : RdS R oa (l.flatMap En.c)) (hrd : ∀ e ∈ l, e.rd R) (hz : ∀ e ∈ l, e.sz) (hl : l.length ≤ 1000) (first : Int) (ent : ByteArray) (year book : Int) : AC Tryz.prog 14 ⟨[.slice xa xs.length xc, .agg ⟨[I first]⟩, .slice oa l.length cap, St ent, I year, I book]⟩ (stars [R]) (Outs (fun _ : Option Addr × Nat => True) (fun y => .tuple ⟨[.slice y.1 (resM xs first l ent year book).1.length y.2, I (resM xs first l ent year book).2]⟩) (fun y => [own 63 7 y.1 (resM xs first l ent year book).1.length y.2 ((resM xs first l ent year book).1.flatMap Cl.c), R])) := by
 refine AC.go Tryz.func14 rfl (Nat.le_of_ble_eq_true rfl) fun β => ?_
 refine sr ?_
 refine RunL.op rfl rfl (OpJ.boxA rfl fun b7 => ?_)
 refine sx 2 ?_
 refine kp [0, 2, 3, 4, 5, 7] rfl ?_
 refine sr ?_
 refine RunL.op rfl rfl (OpJ.loadW inferInstance rfl pk (by rfl) ?_)
 refine sx 2 ?_
 refine RunL.call C35 rfl rfl rfl (c_r5Span first year 13) .nil ?_
 refine sx 7 ?_
 refine kp [0, 2, 3, 5, 15, 16] rfl ?_
 refine Run.seq ?_
 refine sr ?_
 refine sx 2 ?_
 refine kp [0, 2, 3, 5, 15, 16, 31] rfl ?_
 first | refine Run.if rfl (fun h1 => ?_) (fun h1 => ?_) | refine Run.cond rfl (fun h1 => ?_) (fun h1 => ?_)
 refine sr ?_
 refine RunL.ownNil 63 7 ?_
 refine sx 3 ?_
 refine kp [12, 13] rfl ?_
 refine Run.ret ?_
 have hr := res_span (first := first) (year := year) (by simpa using h1) xs l ent book
 rw [hr]
 exact ret_out (none, 0) (.tmp rfl (.tmp rfl .nil)) trivial rfl gv
 refine Run.skip ?_
 refine sr ?_
 obtain ⟨hf, hyr, hla⟩ := span13 (first := first) (year := year) (by simpa using h1)
 rw [hla]
 refine sx 5 ?_
 refine RunL.callX C36 rfl rfl rfl (c_rReplay R oa cap l hR hrd hz hl ⟨ent, 0, lastF first year, book⟩) tks fun ⟨ra, rc⟩ _ => ?_
 refine sx 5 ?_
 refine kp [0, 16, 17] rfl ?_
 refine Run.seq ?_
 refine sr ?_
 refine sx 2 ?_
 refine kp [0, 16, 17, 43] rfl ?_
 first | refine Run.if rfl (fun h2 => ?_) (fun h2 => ?_) | refine Run.cond rfl (fun h2 => ?_) (fun h2 => ?_)
 refine sr ?_
 refine RunL.ownNil 63 7 ?_
 refine sx 3 ?_
 refine kp [12, 13] rfl ?_
 refine Run.ret ?_
 have hr := res_play hf hyr xs l ent book (by simpa using h2)
 rw [hr]
 exact ret_out (none, 0) (.tmp rfl (.tmp rfl .nil)) trivial rfl gv
 refine Run.skip ?_
 refine sr ?_
 have hrl : (replayL l ⟨ent, 0, lastF first year, book⟩).1.length ≤ 100000 := replay_len hl
 refine RunL.op rfl rfl (OpJ.buildSlice0 S32 fun b45 => ?_)
 refine asg rfl rfl ?_
 refine kp [0, 17, 18] rfl ?_
 refine Run.seq ?_
 refine sr ?_
 refine asg rfl rfl ?_
 refine kp [0, 17, 18, 19] rfl ?_
 refine Run.block ?_
 refine Run.weak (L' := [own 63 7 (bpt b45) ([] : List Cl).length 0 (([] : List Cl).flatMap Cl.c), own 63 7 ra (replayL l ⟨ent, 0, lastF first year, book⟩).1.length rc ((replayL l ⟨ent, 0, lastF first year, book⟩).1.flatMap Cl.c), R]) (fun _ _ h => h) gv ?_
 refine Run.loop (fun mm E L => ∃ (i : Nat) (acc : List Cl) (ca : Option Addr) (cc : Nat) (ra : Option Addr), mm = (replayL l ⟨ent, 0, lastF first year, book⟩).1.length - i ∧ i ≤ (replayL l ⟨ent, 0, lastF first year, book⟩).1.length ∧ PickI xs (replayL l ⟨ent, 0, lastF first year, book⟩).1 i acc ∧ E = [(0, .slice xa xs.length xc), (17, .slice ra (replayL l ⟨ent, 0, lastF first year, book⟩).1.length rc), (18, .slice ca acc.length cc), (19, I i)] ∧ L = [own 63 7 ca acc.length cc (acc.flatMap Cl.c), own 63 7 ra (replayL l ⟨ent, 0, lastF first year, book⟩).1.length rc ((replayL l ⟨ent, 0, lastF first year, book⟩).1.flatMap Cl.c), R]) ⟨_, 0, [], bpt b45, 0, ra, rfl, Nat.zero_le _, PickI.start, rfl, rfl⟩ ?_
 rintro _ _ _ ⟨i, acc, ca, cc, ra, rfl, hi, hI0, rfl, rfl⟩
 refine Run.seq ?_
 refine sr ?_
 refine sx 4 ?_
 refine kp [0, 17, 18, 19, 49] rfl ?_
 first | refine Run.if rfl (fun h3 => ?_) (fun h3 => ?_) | refine Run.cond rfl (fun h3 => ?_) (fun h3 => ?_)
 refine Run.skip ?_
 refine Run.seq ?_
 refine Run.block ?_
 refine sr ?_
 obtain ⟨y, hy⟩ := get_ex (xs := (replayL l ⟨ent, 0, lastF first year, book⟩).1) (i := i) (by omega)
 refine RunL.ownAddr (oa := ra) pk (flat_ne (k := 7) (fun _ => rfl) (by decide) hy) fun bs e1 hcap1 => ?_
 subst e1
 have hal := hI0.2
 refine sx 6 ?_
 refine RunL.op rfl rfl (OpJ.load1 inferInstance rfl pk (own.fld (enc := Cl.c) (k := 7) (j := 1) hy rfl (fun _ => rfl)) ?_)
 refine RunL.call C37 rfl rfl rfl (c_rGet R _ _ xs hxr hxl y.k.acc) tks ?_
 refine mvo rfl rfl ?_
 rcases hg : getL xs y.k.acc with _ | a
 rw [lk_none hg]
 refine sx 2 ?_
 refine RunL.op rfl rfl (OpJ.alloc Z57 fun b20 => ?_)
 refine RunL.op rfl rfl (OpJ.storeW T57 rfl rfl rfl rfl (by simp [Value.oneCell', Tg.c, Ln.c, En.c, Ac.c, Cl.c, Ky.c, Qy.c, Sb, Iv, Cs.c]) up ?_)
 refine asg rfl rfl ?_
 refine kp [0, 17, 18, 19, 20, 21] rfl ?_
 refine Run.seq ?_
 refine sr ?_
 refine sx 7 ?_
 refine kp [0, 17, 18, 19, 20, 69] rfl ?_
 refine Run.true rfl ?_
 refine sr ?_
 refine RunL.ownNil 63 7 ?_
 refine sx 2 ?_
 refine kp [12, 13] rfl ?_
 refine Run.ret ?_
 have hr := res_pickN hf hyr (by simpa using h2) (hI0.bad hy hg)
 rw [hr]
 exact ret_out (none, 0) (.tmp rfl (.tmp rfl .nil)) trivial rfl gv
 rw [lk_some hg]
 refine sx 2 ?_
 refine RunL.op rfl rfl (OpJ.alloc Z57 fun b20 => ?_)
 refine RunL.op rfl rfl (OpJ.storeW T57 rfl rfl rfl rfl (by simp [Value.oneCell', Tg.c, Ln.c, En.c, Ac.c, Cl.c, Ky.c, Qy.c, Sb, Iv, Cs.c]) up ?_)
 refine asg rfl rfl ?_
 refine kp [0, 17, 18, 19, 20, 21] rfl ?_
 refine Run.seq ?_
 refine sr ?_
 refine sx 5 ?_
 rcases Bool.eq_false_or_eq_true a.post with hp | hp
 refine RunL.set (v := Bo true) (by rw [hp]) ?_
 refine sx 2 ?_
 refine kp [0, 17, 18, 19, 20, 69] rfl ?_
 refine Run.false rfl ?_
 refine Run.skip ?_
 refine sr ?_
 refine sx 4 ?_
 first | refine RunL.splitP (t := 73) rfl (fun g4 => ?_) (fun g4 => ?_) | refine RunL.split (t := 73) rfl (fun g4 => ?_) (fun g4 => ?_)
 refine sx 4 ?_
 refine kp [0, 17, 18, 19, 77] rfl ?_
 refine Run.true rfl ?_
 refine Run.region ?_
 refine sx 4 ?_
 refine RunL.op rfl rfl (OpJ.loadA inferInstance rfl pk (own.el (enc := Cl.c) hy (by decide) (fun _ => rfl)) rfl ?_)
 refine RunL.op rfl rfl (OpJ.buildSlice1 S32 rfl rfl rfl (by decide) (by decide) Z63 rfl fun b83 => ?_)
 refine RunL.op rfl rfl (OpJ.append1 y S32 M63 rfl rfl pk pk rfl rfl (by simp [Value.oneCell', Tg.c, Ln.c, En.c, Ac.c, Cl.c, Ky.c, Qy.c, Sb, Iv, Cs.c]) rfl (by omega) (by omega) fun a84 c84 => ?_)
 refine asg rfl rfl ?_
 refine kp [0, 17, 18, 19] rfl ?_
 refine Run.region ?_
 refine sx 3 ?_
 have hst := hI0.step hy hg hp
 first
 | have hk2 : a.kind = 4 ∨ a.kind = 5 := (by first | exact Or.inl (by assumption) | exact Or.inr (by assumption) | assumption)
   rw [if_pos hk2] at hst
   exact RunL.next (Keep.sub (kt (ks := [0, 17, 18, 19]) rfl)) _ ⟨_, by omega, i + 1, acc ++ [y], a84, c84, _, rfl, by omega, hst, rfl, rfl⟩ gv
 | have hk2 : ¬ (a.kind = 4 ∨ a.kind = 5) := (by first | assumption | omega)
   rw [if_neg hk2] at hst
   exact RunL.next (Keep.sub (kt (ks := [0, 17, 18, 19]) rfl)) _ ⟨_, by omega, i + 1, acc, ca, cc, _, rfl, by omega, hst, rfl, rfl⟩ gv
 refine sx 4 ?_
 refine kp [0, 17, 18, 19, 77] rfl ?_
 first | refine Run.if rfl (fun h5 => ?_) (fun h5 => ?_) | refine Run.cond rfl (fun h5 => ?_) (fun h5 => ?_)
 refine Run.region ?_
 refine sx 4 ?_
 refine RunL.op rfl rfl (OpJ.loadA inferInstance rfl pk (own.el (enc := Cl.c) hy (by decide) (fun _ => rfl)) rfl ?_)
 refine RunL.op rfl rfl (OpJ.buildSlice1 S32 rfl rfl rfl (by decide) (by decide) Z63 rfl fun b83 => ?_)
 refine RunL.op rfl rfl (OpJ.append1 y S32 M63 rfl rfl pk pk rfl rfl (by simp [Value.oneCell', Tg.c, Ln.c, En.c, Ac.c, Cl.c, Ky.c, Qy.c, Sb, Iv, Cs.c]) rfl (by omega) (by omega) fun a84 c84 => ?_)
 refine asg rfl rfl ?_
 refine kp [0, 17, 18, 19] rfl ?_
 refine Run.region ?_
 refine sx 3 ?_
 have hst := hI0.step hy hg hp
 first
 | have hk2 : a.kind = 4 ∨ a.kind = 5 := (by first | exact Or.inl (by assumption) | exact Or.inr (by assumption) | assumption)
   rw [if_pos hk2] at hst
   exact RunL.next (Keep.sub (kt (ks := [0, 17, 18, 19]) rfl)) _ ⟨_, by omega, i + 1, acc ++ [y], a84, c84, _, rfl, by omega, hst, rfl, rfl⟩ gv
 | have hk2 : ¬ (a.kind = 4 ∨ a.kind = 5) := (by first | assumption | omega)
   rw [if_neg hk2] at hst
   exact RunL.next (Keep.sub (kt (ks := [0, 17, 18, 19]) rfl)) _ ⟨_, by omega, i + 1, acc, ca, cc, _, rfl, by omega, hst, rfl, rfl⟩ gv
 refine Run.skip ?_
 refine Run.region ?_
 refine sx 3 ?_
 have hst := hI0.step hy hg hp
 first
 | have hk2 : a.kind = 4 ∨ a.kind = 5 := (by first | exact Or.inl (by assumption) | exact Or.inr (by assumption) | assumption)
   rw [if_pos hk2] at hst
   exact RunL.next (Keep.sub (kt (ks := [0, 17, 18, 19]) rfl)) _ ⟨_, by omega, i + 1, acc ++ [y], a84, c84, _, rfl, by omega, hst, rfl, rfl⟩ gv
 | have hk2 : ¬ (a.kind = 4 ∨ a.kind = 5) := (by first | assumption | omega)
   rw [if_neg hk2] at hst
   exact RunL.next (Keep.sub (kt (ks := [0, 17, 18, 19]) rfl)) _ ⟨_, by omega, i + 1, acc, ca, cc, _, rfl, by omega, hst, rfl, rfl⟩ gv
 refine RunL.set (v := Bo false) (by rw [hp]) ?_
 refine sx 2 ?_
 refine kp [0, 17, 18, 19, 20, 69] rfl ?_
 refine Run.true rfl ?_
 refine sr ?_
 refine RunL.ownNil 63 7 ?_
 refine sx 2 ?_
 refine kp [12, 13] rfl ?_
 refine Run.ret ?_
 have hr := res_pickN hf hyr (by simpa using h2) (hI0.shut hy hg hp)
 rw [hr]
 exact ret_out (none, 0) (.tmp rfl (.tmp rfl .nil)) trivial rfl gv
 refine Run.exit ?_
 refine sr ?_
 refine sx 3 ?_
 refine kp [12, 13] rfl ?_
 refine Run.ret ?_
 have hr := res_pickS hf hyr (by simpa using h2) (hI0.done (by omega))
 rw [hr]
 exact ret_out (ca, cc) (.tmp rfl (.tmp rfl .nil)) trivial rfl gv
theorem c_rPart (l : List UInt8) (c : UInt8) (v : Int) (hv : v = (c.toNat : Int)) (hs : l.length ≤ 4294967281) : AC Tryz.prog 83 ⟨[St (ba l), .int .u8 v]⟩ (stars []) (Ret (.tuple ⟨[St (ba (cut1 c l).1), St (ba (cut1 c l).2.1), Bo (cut1 c l).2.2]⟩) []) := by
 have hbl : (ba l).size = l.length := rfl
 refine AC.go Tryz.func83 rfl (Nat.le_of_ble_eq_true rfl) fun β => ?_
 refine sr ?_
 refine sx 3 ?_
 refine kp [0, 1] rfl ?_
 refine Run.seq ?_
 refine sr ?_
 refine asg rfl rfl ?_
 refine kp [0, 1, 7] rfl ?_
 refine Run.block ?_
 refine Run.loop (fun mm E L => ∃ i : Nat, mm = l.length - i ∧ i ≤ l.length ∧ (∀ (j : Nat) w, j < i → l[j]? = some w → w ≠ c) ∧ E = [(0, St (ba l)), (1, .int .u8 v), (7, I i)] ∧ L = []) ⟨_, 0, rfl, Nat.zero_le _, fun _ _ h => by omega, rfl, rfl⟩ ?_
 rintro _ _ _ ⟨i, rfl, hi, hI0, rfl, rfl⟩
 refine Run.seq ?_
 refine sr ?_
 refine sx 4 ?_
 refine kp [0, 1, 7, 11] rfl ?_
 first | refine Run.if rfl (fun h1 => ?_) (fun h1 => ?_) | refine Run.cond rfl (fun h1 => ?_) (fun h1 => ?_)
 refine Run.skip ?_
 refine Run.seq ?_
 refine Run.block ?_
 refine sr ?_
 obtain ⟨u, hu⟩ := byte_ex (s := ba l) (i := i) (by omega)
 have hu2 := ba_at hu
 refine sx 2 ?_
 refine RunL.op rfl rfl (OpJ.indexS U9 rfl rfl (by omega) hu ?_)
 refine sx 2 ?_
 refine kp [0, 1, 7, 18] rfl ?_
 first | refine Run.if rfl (fun h2 => ?_) (fun h2 => ?_) | refine Run.cond rfl (fun h2 => ?_) (fun h2 => ?_)
 refine Run.seq ?_
 refine regionD HM ?_
 refine tk 0 rfl rfl rfl (DetJ.move rfl) ?_
 refine tk 1 rfl rfl rfl (DetJ.move rfl) ?_
 refine tk 2 rfl rfl rfl (DetJ.sliceSHi U9 rfl rfl (by omega)) ?_
 refine tk 3 rfl rfl rfl (DetJ.move rfl) ?_
 refine tk 4 rfl rfl rfl (DetJ.move rfl) ?_
 first | refine tk 5 rfl rfl rfl (DetJ.addI rfl rfl (by omega)) ?_ | refine tk 5 rfl rfl rfl (DetJ.add rfl rfl) ?_
 refine RunD.set (v := I ((i + 1 : Nat) : Int)) (congrArg I (by omega)) ?_
 refine tk 6 rfl rfl rfl (DetJ.sliceSLo U9 rfl rfl (by omega)) ?_
 refine tk 7 rfl rfl rfl (DetJ.assign rfl) ?_
 refine tk 8 rfl rfl rfl (DetJ.assign rfl) ?_
 refine tk 9 rfl rfl rfl (DetJ.assign rfl) ?_
 refine kd [4, 5, 6] rfl ?_
 refine Run.ret ?_
 have hcu : cut1 c l = (l.take i, l.drop (i + 1), true) := cut1_at (by rw [hu2]; congr 1; exact u8_eq.1 (by omega)) hI0
 rw [hcu]
 exact ret_one (.tmp rfl (.tmp rfl (.tmp rfl .nil))) (by rw [ba_lo, ba_hi]; rfl) gv
 refine Run.skip ?_
 refine Run.region ?_
 refine sx 3 ?_
 exact RunL.next (Keep.sub (kt (ks := [0, 1, 7]) rfl)) _ ⟨_, by omega, i + 1, rfl, by omega, (fun j w hj hw => by { by_cases e : j = i; (subst e; rw [hu2] at hw; cases hw; intro e2; subst e2; simp_all); exact hI0 j w (by omega) hw }), rfl, rfl⟩ gv
 refine Run.exit ?_
 refine sr ?_
 refine sx 4 ?_
 refine kp [4, 5, 6] rfl ?_
 refine Run.ret ?_
 have hcu : cut1 c l = (l, [], false) := cut1_not (fun j w hw => hI0 j w (by have := (List.getElem?_eq_some_iff.1 hw).1; omega) hw)
 rw [hcu]
 exact ret_one (.tmp rfl (.tmp rfl (.tmp rfl .nil))) rfl gv
theorem c_rParse (s : ByteArray) (hs : s.size < 4294967281) : AC Tryz.prog 40 ⟨[St s]⟩ (stars []) (Outs (fun _ : Option Addr × Nat => True) (fun y => .tuple ⟨[.slice y.1 ((parseT s).getD []).length y.2, I (if (parseT s).isSome = true then 0 else 5)]⟩) (fun y => [own 151 2 y.1 ((parseT s).getD []).length y.2 (((parseT s).getD []).flatMap Tg.c)])) := by
 refine AC.go Tryz.func40 rfl (Nat.le_of_ble_eq_true rfl) fun β => ?_
 refine sr ?_
 refine sx 2 ?_
 refine kp [0] rfl ?_
 refine Run.seq ?_
 refine sr ?_
 refine sx 2 ?_
 refine kp [0, 11] rfl ?_
 first | refine Run.if rfl (fun h1 => ?_) (fun h1 => ?_) | refine Run.cond rfl (fun h1 => ?_) (fun h1 => ?_)
 refine sr ?_
 refine RunL.ownNil 151 2 ?_
 refine sx 2 ?_
 refine kp [2, 3] rfl ?_
 refine Run.ret ?_
 obtain rfl : s = bs0 := (by simp_all)
 rw [parse_nil]
 exact ret_out (none, 0) (.tmp rfl (.tmp rfl .nil)) trivial rfl gv
 refine Run.skip ?_
 refine sr ?_
 refine RunL.ownNil 151 2 ?_
 refine asg rfl rfl ?_
 refine kp [0, 4] rfl ?_
 refine sr ?_
 refine asg rfl rfl ?_
 refine kp [0, 4, 5] rfl ?_
 refine Run.seq ?_
 refine Run.block ?_
 have hs0 : ¬ s = bs0 := (by simp_all)
 refine Run.weak (L' := [own 151 2 none ([] : List Tg).length 0 (([] : List Tg).flatMap Tg.c)]) (fun _ _ h => h) gv ?_
 refine Run.loop (fun mm E L => ∃ (more : Bool) (l : List UInt8) (acc : List Tg) (ta : Option Addr) (tc : Nat), mm = paM more l ∧ PaI s more l acc ∧ (∀ t ∈ acc, szS t.name ∧ szS t.value) ∧ E = [(0, St (ba l)), (4, .slice ta acc.length tc), (5, Bo more)] ∧ L = [own 151 2 ta acc.length tc (acc.flatMap Tg.c)]) ⟨_, _, _, [], none, 0, rfl, pa_start hs0, (fun t h => by cases h), rfl, rfl⟩ ?_
 rintro _ _ _ ⟨more, l, acc, ta, tc, rfl, hI0, hsz, rfl, rfl⟩
 refine Run.seq ?_
 refine sr ?_
 refine mvo rfl rfl ?_
 refine kp [0, 4, 12] rfl ?_
 first | refine Run.if rfl (fun h2 => ?_) (fun h2 => ?_) | refine Run.cond rfl (fun h2 => ?_) (fun h2 => ?_)
 refine Run.skip ?_
 refine Run.block ?_
 refine sr ?_
 obtain rfl : more = true := (by first | assumption | simp_all)
 refine asg rfl rfl ?_
 refine kp [0, 4] rfl ?_
 refine sr ?_
 refine mvo rfl rfl ?_
 refine RunL.call C83 rfl rfl rfl (c_rPart l 44 44 rfl (by have := hI0.sz; omega)) .nil ?_
 refine sx 7 ?_
 refine kp [0, 4, 5, 6] rfl ?_
 refine sr ?_
 refine mvo rfl rfl ?_
 refine RunL.call C83 rfl rfl rfl (c_rPart (it1 l) 61 61 rfl (by have h1 := hI0.sz; have h2 : (it1 l).length ≤ l.length := cut1_fst 44 l; omega)) .nil ?_
 refine sx 7 ?_
 refine kp [0, 4, 5, 7, 8, 9] rfl ?_
 refine Run.seq ?_
 refine sr ?_
 refine sx 3 ?_
 first | refine RunL.splitP (t := 27) rfl (fun g3 => ?_) (fun g3 => ?_) | refine RunL.split (t := 27) rfl (fun g3 => ?_) (fun g3 => ?_)
 refine sx 4 ?_
 refine kp [0, 4, 5, 7, 8, 31] rfl ?_
 refine Run.true rfl ?_
 refine sr ?_
 refine RunL.ownNil 151 2 ?_
 refine sx 2 ?_
 refine kp [2, 3] rfl ?_
 refine Run.ret ?_
 have hp := hI0.bad (Or.inl (by simpa using g3))
 rw [hp]
 exact ret_out (none, 0) (.tmp rfl (.tmp rfl .nil)) trivial rfl gv
 refine sx 4 ?_
 refine kp [0, 4, 5, 7, 8, 31] rfl ?_
 first | refine Run.if rfl (fun h4 => ?_) (fun h4 => ?_) | refine Run.cond rfl (fun h4 => ?_) (fun h4 => ?_)
 refine sr ?_
 refine RunL.ownNil 151 2 ?_
 refine sx 2 ?_
 refine kp [2, 3] rfl ?_
 refine Run.ret ?_
 have hp := hI0.bad (Or.inr (by omega))
 rw [hp]
 exact ret_out (none, 0) (.tmp rfl (.tmp rfl .nil)) trivial rfl gv
 refine Run.skip ?_
 refine Run.region ?_
 have hal := hI0.len
 refine sx 4 ?_
 refine RunL.op rfl rfl (OpJ.buildSlice1 S71 rfl rfl rfl (by decide) (by decide) Z151 rfl fun b36 => ?_)
 refine RunL.op rfl rfl (OpJ.append1 (⟨ba (cut1 61 (it1 l)).1, ba (cut1 61 (it1 l)).2.1⟩ : Tg) S71 M151 rfl rfl pk pk rfl rfl (by simp [Value.oneCell', Tg.c, Ln.c, En.c, Ac.c, Cl.c, Ky.c, Qy.c, Sb, Iv, Cs.c]) rfl (by omega) (by omega) fun a37 c37 => ?_)
 refine asg rfl rfl ?_
 have hst := hI0.step (by rintro (h | h); (rw [h] at g3; cases g3); omega)
 exact RunL.next (Keep.sub (kt (ks := [0, 4, 5]) rfl)) _ ⟨_, paM_lt, _, _, nxT l acc, a37, c37, rfl, hst, nxT_sz hI0 hs hsz, rfl, rfl⟩ gv
 refine Run.exit ?_
 refine Run.seq ?_
 refine sr ?_
 obtain rfl : more = false := (by first | assumption | simp_all)
 refine mvo rfl rfl ?_
 refine RunL.call C84 rfl rfl rfl (c_r9Right (own 151 2 ta acc.length tc (acc.flatMap Tg.c)) ta tc acc own.rds hsz (by have := hI0.len; omega)) tks ?_
 refine RunL.op rfl rfl (OpJ.not rfl ?_)
 refine kp [4, 40] rfl ?_
 first | refine Run.if rfl (fun h5 => ?_) (fun h5 => ?_) | refine Run.cond rfl (fun h5 => ?_) (fun h5 => ?_)
 refine sr ?_
 refine RunL.ownNil 151 2 ?_
 refine sx 2 ?_
 refine kp [2, 3] rfl ?_
 refine Run.ret ?_
 have hp := hI0.wrong (by simp_all)
 rw [hp]
 exact ret_out (none, 0) (.tmp rfl (.tmp rfl .nil)) trivial rfl gv
 refine Run.skip ?_
 refine sr ?_
 refine sx 3 ?_
 refine kp [2, 3] rfl ?_
 refine Run.ret ?_
 have hp := hI0.right (by simp_all)
 rw [hp]
 exact ret_out (ta, tc) (.tmp rfl (.tmp rfl .nil)) trivial rfl gv
end
end Go.Proofs.YtglaahpagjjmoaaGreatDoor
