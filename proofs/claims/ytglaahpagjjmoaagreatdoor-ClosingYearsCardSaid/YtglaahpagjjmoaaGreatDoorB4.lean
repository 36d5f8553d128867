/- Laws of the walks and of the models, part 4 (merged by program). -/
import Derived.Test.YtglaahpagjjmoaaGreatDoorB3
set_option linter.unusedVariables false
set_option linter.unusedSimpArgs false
set_option maxRecDepth 20000
set_option maxHeartbeats 4000000
namespace Go.Proofs.YtglaahpagjjmoaaGreatDoor
open Go Go.SL Go.Proofs
section
attribute [local irreducible] OpJ RunL Run RunD DetJ pt own star Rd RdS
theorem c_Text (R : HP) (oa : Option Addr) (cap : Nat) (ts : List Tg) (hR : RdS R oa (ts.flatMap Tg.c)) : AC Tryz.prog 93 ⟨[.slice oa ts.length cap]⟩ (stars [R]) (Ret (.tuple ⟨[St (textV ts), I (if rightB ts = true then 0 else 14)]⟩) [R]) := by
 refine AC.go Tryz.func93 rfl (Nat.le_of_ble_eq_true rfl) fun β => ?_
 refine sr ?_
 refine sx 2 ?_
 refine kp [0, 2] rfl ?_
 refine Run.seq ?_
 refine sr ?_
 refine mvo rfl rfl ?_
 refine RunL.call C125 rfl rfl rfl (c_dRight R _ _ _ (by assumption)) tks ?_
 refine RunL.op rfl rfl (OpJ.not rfl ?_)
 refine kp [0, 2, 8] rfl ?_
 first | refine Run.if rfl (fun h1 => ?_) (fun h1 => ?_) | refine Run.cond rfl (fun h1 => ?_) (fun h1 => ?_)
 refine sr ?_
 refine sx 2 ?_
 refine kp [2, 3] rfl ?_
 refine Run.ret ?_
 exact ret_one (.tmp rfl (.tmp rfl .nil)) (by have hn : ¬ rightB ts = true := (by simpa using h1); unfold textV; rw [if_neg hn, if_neg hn]; rfl) gv
 refine Run.skip ?_
 refine Run.seq ?_
 refine sr ?_
 have hrt : rightB ts = true := by simpa using h1
 have hl6 := right_len hrt
 refine sx 3 ?_
 refine kp [2, 9, 10, 11] rfl ?_
 refine Run.block ?_
 refine Run.loop (fun mm E L => ∃ (i : Nat) (s : ByteArray), mm = ts.length - i ∧ i ≤ ts.length ∧ textI i s (ts.drop i) = textL ts ∧ s.size ≤ 30 * i ∧ E = [(2, St s), (9, .slice oa ts.length cap), (10, I ts.length), (11, I i)] ∧ L = [R]) ⟨_, 0, bs0, rfl, Nat.zero_le _, rfl, by decide, rfl, rfl⟩ ?_
 rintro _ _ _ ⟨i, s, rfl, hi, htx, hsz, rfl, rfl⟩
 refine sr ?_
 refine sx 1 ?_
 refine kp [2, 9, 10, 11, 12] rfl ?_
 refine Run.seq ?_
 first | refine Run.if rfl (fun h2 => ?_) (fun h2 => ?_) | refine Run.cond rfl (fun h2 => ?_) (fun h2 => ?_)
 refine Run.skip ?_
 refine Run.seq ?_
 refine Run.block ?_
 refine sr ?_
 obtain ⟨t, ht⟩ := get_ex (xs := ts) (i := i) (by omega)
 have htg := tg_size (right_at hrt ht)
 refine RunL.rdOpen pk hR (flat_ne (k := 2) (fun _ => rfl) (by decide) ht) fun b o e hrd => ?_
 subst e
 refine sx 2 ?_
 refine RunL.op rfl rfl (OpJ.loadA inferInstance rfl pk (hrd.elem (fun _ => rfl) ht) rfl ?_)
 refine RunL.op rfl rfl (OpJ.alloc Z151 fun b5 => ?_)
 refine asg rfl rfl ?_
 refine RunL.op rfl rfl (OpJ.storeW T151 rfl rfl rfl rfl (by simp [Value.oneCell', Tg.c, Ln.c, En.c, Ac.c, Cl.c, Ky.c, Qy.c, Sb, Iv]) up ?_)
 refine kp [2, 4, 5, 9, 10, 11] rfl ?_
 refine Run.seq ?_
 refine sr ?_
 refine sx 2 ?_
 refine kp [2, 5, 9, 10, 11, 17] rfl ?_
 first | refine Run.if rfl (fun h3 => ?_) (fun h3 => ?_) | refine Run.cond rfl (fun h3 => ?_) (fun h3 => ?_)
 refine Run.region ?_
 refine mvo rfl rfl ?_
 refine RunL.op rfl rfl (OpJ.addS rfl rfl (by rw [comma_size]; omega) ?_)
 refine asg rfl rfl ?_
 refine kp [2, 5, 9, 10, 11] rfl ?_
 refine Run.region ?_
 refine sx 3 ?_
 refine RunL.op rfl rfl (OpJ.addS rfl rfl (by rw [equals_size]; omega) ?_)
 refine sx 2 ?_
 refine RunL.op rfl rfl (OpJ.addS rfl rfl (by rw [app_size, equals_size]; omega) ?_)
 refine RunL.op rfl rfl (OpJ.addS rfl rfl (by simp only [app_size, equals_size, comma_size]; omega) ?_)
 refine asg rfl rfl ?_
 refine kp [2, 9, 10, 11] rfl ?_
 refine Run.region ?_
 refine sx 2 ?_
 have hst := textI_step (s := s) ht
 rw [if_neg (by omega)] at hst
 exact RunL.next (Keep.sub (kt (ks := [2, 9, 10, 11]) rfl)) _ ⟨_, by omega, i + 1, _, rfl, by omega, (by rw [← hst]; exact htx), (by simp only [app_size, equals_size, comma_size]; omega), rfl, rfl⟩ gv
 refine Run.skip ?_
 refine Run.region ?_
 refine sx 3 ?_
 refine RunL.op rfl rfl (OpJ.addS rfl rfl (by rw [equals_size]; omega) ?_)
 refine sx 2 ?_
 refine RunL.op rfl rfl (OpJ.addS rfl rfl (by rw [app_size, equals_size]; omega) ?_)
 refine RunL.op rfl rfl (OpJ.addS rfl rfl (by simp only [app_size, equals_size, comma_size]; omega) ?_)
 refine asg rfl rfl ?_
 refine kp [2, 9, 10, 11] rfl ?_
 refine Run.region ?_
 refine sx 2 ?_
 have hst := textI_step (s := s) ht
 rw [if_pos (by omega)] at hst
 exact RunL.next (Keep.sub (kt (ks := [2, 9, 10, 11]) rfl)) _ ⟨_, by omega, i + 1, _, rfl, by omega, (by rw [← hst]; exact htx), (by simp only [app_size, equals_size, comma_size]; omega), rfl, rfl⟩ gv
 refine Run.exit ?_
 refine sr ?_
 refine sx 3 ?_
 refine kp [2, 3] rfl ?_
 refine Run.ret ?_
 exact ret_one (.tmp rfl (.tmp rfl .nil)) (by rw [textI_end (by omega)] at htx; unfold textV; rw [if_pos hrt, if_pos hrt, htx]; rfl) gv
theorem c_raw (e : En) (R : HP) (he : e.rd R) (hl : e.lines.length ≤ 1000) : AC Tryz.prog 51 ⟨[.agg ⟨e.c⟩]⟩ (stars [R]) (Outs (fun _ : Option Addr × Nat => True) (fun y => .slice y.1 (rawL e).length y.2) (fun y => [own 63 7 y.1 (rawL e).length y.2 ((rawL e).flatMap Cl.c), R])) := by
 refine AC.go Tryz.func51 rfl (Nat.le_of_ble_eq_true rfl) fun β => ?_
 refine sr ?_
 refine RunL.op rfl rfl (OpJ.boxA rfl fun b1 => ?_)
 refine asg rfl rfl ?_
 refine kp [1] rfl ?_
 refine sr ?_
 refine sx 3 ?_
 refine RunL.op rfl rfl (OpJ.make0 inferInstance inferInstance rfl rfl (by omega) (by omega) fun b12 => ?_)
 refine asg rfl rfl ?_
 refine kp [1, 3] rfl ?_
 refine Run.seq ?_
 refine sr ?_
 refine sx 4 ?_
 refine kp [1, 3, 14, 15, 16] rfl ?_
 refine Run.block ?_
 refine Run.weak (L' := [pt b1 (blk e.c 42), own 63 7 (some ⟨b12, 0, none⟩) ((rawL e).take 0).length e.lines.length (((rawL e).take 0).flatMap Cl.c), R]) (fun _ _ h => h) gv ?_
 refine Run.loop (fun mm E L => ∃ (i : Nat) (ca : Option Addr) (cc : Nat), mm = e.lines.length - i ∧ i ≤ e.lines.length ∧ E = [(1, .pointer (some ⟨b1, 0, none⟩)), (3, .slice ca ((rawL e).take i).length cc), (14, .slice e.la e.lines.length e.lc), (15, I e.lines.length), (16, I i)] ∧ L = [pt b1 (blk e.c 42), own 63 7 ca ((rawL e).take i).length cc (((rawL e).take i).flatMap Cl.c), R]) ⟨_, 0, some ⟨b12, 0, none⟩, e.lines.length, rfl, Nat.zero_le _, rfl, rfl⟩ ?_
 rintro _ _ _ ⟨i, ca, cc, rfl, hi, rfl, rfl⟩
 refine sr ?_
 refine sx 1 ?_
 refine kp [1, 3, 14, 15, 16, 17] rfl ?_
 refine Run.seq ?_
 first | refine Run.if rfl (fun h1 => ?_) (fun h1 => ?_) | refine Run.cond rfl (fun h1 => ?_) (fun h1 => ?_)
 refine Run.skip ?_
 refine Run.seq ?_
 refine Run.block ?_
 refine sr ?_
 obtain ⟨l, hli⟩ := get_ex (xs := e.lines) (i := i) (by omega)
 have hlr := he.2 l (List.mem_of_getElem? hli)
 refine RunL.rdOpen pk he.1 (flat_ne (k := 7) (fun _ => rfl) (by decide) hli) fun b o ebo hrd => ?_
 rw [ebo]
 refine sx 1 ?_
 refine RunL.op rfl rfl (OpJ.loadA inferInstance rfl pk (hrd.elem (fun _ => rfl) hli) rfl ?_)
 refine RunL.op rfl rfl (OpJ.alloc Z73 fun b5 => ?_)
 refine RunL.op rfl rfl (OpJ.storeW T73 rfl rfl rfl rfl (by simp [Value.oneCell', Tg.c, Ln.c, En.c, Ac.c, Cl.c, Ky.c, Qy.c, Sb, Iv]) up ?_)
 refine kp [1, 3, 5, 14, 15, 16] rfl ?_
 refine sr ?_
 refine sx 2 ?_
 refine RunL.call C93 rfl rfl rfl (c_Text R _ _ _ hlr.1) tks ?_
 refine sx 5 ?_
 refine kp [1, 3, 5, 6, 14, 15, 16] rfl ?_
 refine sr ?_
 refine sx 10 ?_
 refine RunL.op rfl rfl (OpJ.alloc Z61 fun b8 => ?_)
 refine RunL.op rfl rfl (OpJ.storeW T61 rfl rfl rfl rfl (by simp [Value.oneCell', Tg.c, Ln.c, En.c, Ac.c, Cl.c, Ky.c, Qy.c, Sb, Iv]) up ?_)
 refine kp [1, 3, 5, 8, 14, 15, 16] rfl ?_
 refine Run.region ?_
 refine sx 7 ?_
 refine RunL.op rfl rfl (OpJ.buildSlice1 S32 rfl rfl rfl (by decide) (by decide) Z63 rfl fun b43 => ?_)
 have hrl : ((rawL e).take i).length ≤ 1000 := by { rw [List.length_take]; omega }
 refine RunL.op rfl rfl (OpJ.append1 (rawF e l) S32 M63 rfl rfl pk pk rfl rfl (by simp [Value.oneCell', Tg.c, Ln.c, En.c, Ac.c, Cl.c, Ky.c, Qy.c, Sb, Iv]) rfl (by omega) (by omega) fun a44 c44 => ?_)
 refine asg rfl rfl ?_
 refine kp [1, 3, 14, 15, 16] rfl ?_
 refine Run.region ?_
 refine sx 2 ?_
 rw [← raw_at hli]
 exact RunL.next (Keep.sub (kt (ks := [1, 3, 14, 15, 16]) rfl)) _ ⟨_, by omega, i + 1, a44, c44, rfl, by omega, rfl, rfl⟩ gv
 refine Run.exit ?_
 refine sr ?_
 refine sx 2 ?_
 refine kp [2] rfl ?_
 refine Run.ret ?_
 have hfull : (rawL e).take i = rawL e := List.take_of_length_le (by rw [raw_eq, List.length_map]; omega)
 rw [hfull]
 exact ret_out (ca, cc) (.tmp rfl .nil) trivial rfl gv
theorem c_selector (q : Qy) : AC Tryz.prog 50 ⟨[.agg ⟨q.c⟩]⟩ (stars []) (Outs (fun _ : Nat => True) (fun qb => .func (.func 92) ⟨[]⟩ ⟨[.pointer (some ⟨qb, 0, none⟩)]⟩) (fun qb => [pt qb (blk q.c 54)])) := by
 refine AC.go Tryz.func50 rfl (Nat.le_of_ble_eq_true rfl) fun β => ?_
 refine sr ?_
 refine RunL.op rfl rfl (OpJ.boxA rfl fun b1 => ?_)
 refine asg rfl rfl ?_
 refine kp [1] rfl ?_
 refine sr ?_
 refine sx 2 ?_
 refine kp [2] rfl ?_
 refine Run.ret ?_
 exact ret_out b1 (.tmp rfl .nil) trivial rfl gv
theorem c_sel (q : Qy) (e : En) (qb : Nat) : AC Tryz.prog 92 ⟨[.agg ⟨e.c⟩, .pointer (some ⟨qb, 0, none⟩)]⟩ (stars [pt qb (blk q.c 54)]) (Ret (Bo (selB q e)) [pt qb (blk q.c 54)]) := by
 refine AC.go Tryz.func92 rfl (Nat.le_of_ble_eq_true rfl) fun β => ?_
 refine sr ?_
 refine RunL.op rfl rfl (OpJ.boxA rfl fun b2 => ?_)
 refine asg rfl rfl ?_
 refine kp [1, 2] rfl ?_
 refine sr ?_
 refine sx 4 ?_
 first | refine RunL.splitP (t := 7) rfl (fun g1 => ?_) (fun g1 => ?_) | refine RunL.split (t := 7) rfl (fun g1 => ?_) (fun g1 => ?_)
 refine sx 14 ?_
 first | refine RunL.splitP (t := 21) rfl (fun g2 => ?_) (fun g2 => ?_) | refine RunL.split (t := 21) rfl (fun g2 => ?_) (fun g2 => ?_)
 refine sx 7 ?_
 first | refine RunL.splitP (t := 28) rfl (fun g3 => ?_) (fun g3 => ?_) | refine RunL.split (t := 28) rfl (fun g3 => ?_) (fun g3 => ?_)
 refine sx 7 ?_
 refine kp [3] rfl ?_
 refine Run.ret ?_
 exact ret_one (.tmp rfl .nil) (congrArg Bo (by rw [Bool.eq_iff_iff]; first | (simp [selB, *]; done) | (simp [selB, *]; omega))) gv
 refine sx 7 ?_
 refine kp [3] rfl ?_
 refine Run.ret ?_
 exact ret_one (.tmp rfl .nil) (congrArg Bo (by rw [Bool.eq_iff_iff]; first | (simp [selB, *]; done) | (simp [selB, *]; omega))) gv
 refine sx 14 ?_
 refine kp [3] rfl ?_
 refine Run.ret ?_
 exact ret_one (.tmp rfl .nil) (congrArg Bo (by rw [Bool.eq_iff_iff]; first | (simp [selB, *]; done) | (simp [selB, *]; omega))) gv
 refine sx 7 ?_
 first | refine RunL.splitP (t := 14) rfl (fun g4 => ?_) (fun g4 => ?_) | refine RunL.split (t := 14) rfl (fun g4 => ?_) (fun g4 => ?_)
 refine sx 7 ?_
 first | refine RunL.splitP (t := 21) rfl (fun g5 => ?_) (fun g5 => ?_) | refine RunL.split (t := 21) rfl (fun g5 => ?_) (fun g5 => ?_)
 refine sx 7 ?_
 first | refine RunL.splitP (t := 28) rfl (fun g6 => ?_) (fun g6 => ?_) | refine RunL.split (t := 28) rfl (fun g6 => ?_) (fun g6 => ?_)
 refine sx 7 ?_
 refine kp [3] rfl ?_
 refine Run.ret ?_
 exact ret_one (.tmp rfl .nil) (congrArg Bo (by rw [Bool.eq_iff_iff]; first | (simp [selB, *]; done) | (simp [selB, *]; omega))) gv
 refine sx 7 ?_
 refine kp [3] rfl ?_
 refine Run.ret ?_
 exact ret_one (.tmp rfl .nil) (congrArg Bo (by rw [Bool.eq_iff_iff]; first | (simp [selB, *]; done) | (simp [selB, *]; omega))) gv
 refine sx 14 ?_
 refine kp [3] rfl ?_
 refine Run.ret ?_
 exact ret_one (.tmp rfl .nil) (congrArg Bo (by rw [Bool.eq_iff_iff]; first | (simp [selB, *]; done) | (simp [selB, *]; omega))) gv
 refine sx 21 ?_
 refine kp [3] rfl ?_
 refine Run.ret ?_
 exact ret_one (.tmp rfl .nil) (congrArg Bo (by rw [Bool.eq_iff_iff]; first | (simp [selB, *]; done) | (simp [selB, *]; omega))) gv
theorem c_Replay (R : HP) (oa : Option Addr) (cap : Nat) (l : List En) (q : Qy) (hR0 : Rd R ⟨0, 0, none⟩ lensC) (hR : RdS R oa (l.flatMap En.c)) (hrd : ∀ e ∈ l, e.rd R) (hl : l.length ≤ 1000) : AC Tryz.prog 20 ⟨[.slice oa l.length cap, .agg ⟨q.c⟩]⟩ (stars [R]) (Outs (fun _ : Option Addr × Nat => True) (fun y => .tuple ⟨[.slice y.1 (replayL l q).1.length y.2, I (replayL l q).2]⟩) (fun y => [own 63 7 y.1 (replayL l q).1.length y.2 ((replayL l q).1.flatMap Cl.c), R])) := by
 refine AC.go Tryz.func20 rfl (Nat.le_of_ble_eq_true rfl) fun β => ?_
 refine sr ?_
 refine RunL.op rfl rfl (OpJ.boxA rfl fun b3 => ?_)
 refine sx 2 ?_
 refine kp [0, 3] rfl ?_
 refine sr ?_
 refine sx 1 ?_
 refine RunL.callX C50 rfl rfl rfl (c_selector q) tks fun qb _ => ?_
 refine asg rfl rfl ?_
 refine kp [0, 6] rfl ?_
 refine sr ?_
 refine asg rfl rfl ?_
 refine kp [0, 6, 7] rfl ?_
 refine Run.seq ?_
 refine sr ?_
 refine RunL.ownNil 63 7 ?_
 refine sx 3 ?_
 refine kp [6, 7, 14, 15, 16] rfl ?_
 refine Run.block ?_
 refine Run.weak (L' := [pt qb (blk q.c 54), own 63 7 none (cellsL q (l.take 0)).length 0 ((cellsL q (l.take 0)).flatMap Cl.c), R]) (fun _ _ h => h) gv ?_
 refine Run.loop (fun mm E L => ∃ (i : Nat) (ca : Option Addr) (cc : Nat), mm = l.length - i ∧ i ≤ l.length ∧ (∀ (j : Nat) (y : En), j < i → l[j]? = some y → (chkN y).2 = 0) ∧ E = [(6, .func (.func 92) ⟨[]⟩ ⟨[.pointer (some ⟨qb, 0, none⟩)]⟩), (7, .slice ca (cellsL q (l.take i)).length cc), (14, .slice oa l.length cap), (15, I l.length), (16, I i)] ∧ L = [pt qb (blk q.c 54), own 63 7 ca (cellsL q (l.take i)).length cc ((cellsL q (l.take i)).flatMap Cl.c), R]) ⟨_, 0, none, 0, rfl, Nat.zero_le _, (fun _ _ h => by omega), rfl, rfl⟩ ?_
 rintro _ _ _ ⟨i, ca, cc, rfl, hi, hI0, rfl, rfl⟩
 refine sr ?_
 refine sx 1 ?_
 refine kp [6, 7, 14, 15, 16, 17] rfl ?_
 refine Run.seq ?_
 first | refine Run.if rfl (fun h1 => ?_) (fun h1 => ?_) | refine Run.cond rfl (fun h1 => ?_) (fun h1 => ?_)
 refine Run.skip ?_
 refine Run.seq ?_
 refine Run.block ?_
 refine sr ?_
 obtain ⟨e, hel⟩ := get_ex (xs := l) (i := i) (by omega)
 have hem := List.mem_of_getElem? hel
 have her := hrd e hem
 have hcl := cells_len (q := q) (l := l.take i) (fun x hx => by { obtain ⟨j, hj, rfl⟩ := List.getElem_of_mem hx; rw [List.length_take] at hj; refine chk_len (hI0 j _ (by omega) ?_); rw [List.getElem_take]; exact List.getElem?_eq_getElem _ })
 rw [List.length_take] at hcl
 refine RunL.rdOpen pk hR (flat_ne (k := 9) (fun _ => rfl) (by decide) hel) fun b o ebo hrdx => ?_
 subst ebo
 refine sx 1 ?_
 refine RunL.op rfl rfl (OpJ.loadA inferInstance rfl pk (hrdx.elem (fun _ => rfl) hel) rfl ?_)
 refine RunL.op rfl rfl (OpJ.alloc Z42 fun b9 => ?_)
 refine RunL.op rfl rfl (OpJ.storeW T42 rfl rfl rfl rfl (by simp [Value.oneCell', Tg.c, Ln.c, En.c, Ac.c, Cl.c, Ky.c, Qy.c, Sb, Iv]) up ?_)
 refine kp [6, 7, 9, 14, 15, 16] rfl ?_
 refine Run.seq ?_
 refine sr ?_
 refine sx 1 ?_
 refine RunL.call C39 rfl rfl rfl (c_Check e R hR0 her) tks ?_
 refine sx 5 ?_
 refine kp [6, 7, 9, 11, 14, 15, 16] rfl ?_
 refine sr ?_
 refine sx 2 ?_
 refine kp [6, 7, 9, 11, 14, 15, 16, 26] rfl ?_
 first | refine Run.if rfl (fun h2 => ?_) (fun h2 => ?_) | refine Run.cond rfl (fun h2 => ?_) (fun h2 => ?_)
 refine sr ?_
 refine RunL.ownNil 63 7 ?_
 refine sx 3 ?_
 refine kp [4, 5] rfl ?_
 refine Run.ret ?_
 have hn : ¬ (chkN e).2 = 0 := by simpa using h2
 have her2 := errL_at hI0 hel hn
 have hrep : replayL l q = ([], (chkN e).2) := by { unfold replayL; rw [her2, if_neg hn] }
 rw [hrep]
 exact ret_out (none, 0) (.tmp rfl (.tmp rfl .nil)) trivial rfl gv
 refine Run.skip ?_
 refine sr ?_
 have hck : (chkN e).2 = 0 := by simpa using h2
 have hel100 := chk_len hck
 have hr1 : (rawL e).length ≤ 100 := by { rw [raw_eq, List.length_map]; exact hel100 }
 refine sx 2 ?_
 refine RunL.call C92 rfl rfl rfl (c_sel q e qb) tks ?_
 refine kp [6, 7, 9, 14, 15, 16, 30] rfl ?_
 first | refine Run.if rfl (fun h3 => ?_) (fun h3 => ?_) | refine Run.cond rfl (fun h3 => ?_) (fun h3 => ?_)
 refine Run.region ?_
 refine sx 2 ?_
 refine RunL.callX C51 rfl rfl rfl (c_raw e R her (by omega)) tks fun ⟨ra, rc⟩ _ => ?_
 refine RunL.op rfl rfl (OpJ.appendAll S32 M63 rfl rfl pk pk own.rds (flat_len (enc := Cl.c) (k := 7) (fun _ => rfl) _) (by decide) (flat_one cl1 _) (by omega) (by omega) fun a34 c34 => ?_)
 refine asg rfl rfl ?_
 refine kp [6, 7, 14, 15, 16] rfl ?_
 refine Run.region ?_
 refine sx 2 ?_
 have hcs := cells_step (q := q) hel
 rw [if_pos (by assumption)] at hcs
 rw [← List.length_append, ← List.flatMap_append, ← hcs]
 exact RunL.next (Keep.sub (kt (ks := [6, 7, 14, 15, 16]) rfl)) _ ⟨_, by omega, i + 1, a34, c34, rfl, by omega, (fun j y hj hy => by { by_cases e2 : j = i; (subst e2; rw [hel] at hy; cases hy; exact hck); exact hI0 j y (by omega) hy }), rfl, rfl⟩ gv
 refine Run.skip ?_
 refine Run.region ?_
 refine sx 2 ?_
 have hcs := cells_step (q := q) hel
 rw [if_neg (by simpa using h3), List.append_nil] at hcs
 rw [← hcs]
 exact RunL.next (Keep.sub (kt (ks := [6, 7, 14, 15, 16]) rfl)) _ ⟨_, by omega, i + 1, ca, cc, rfl, by omega, (fun j y hj hy => by { by_cases e2 : j = i; (subst e2; rw [hel] at hy; cases hy; exact hck); exact hI0 j y (by omega) hy }), rfl, rfl⟩ gv
 refine Run.exit ?_
 refine sr ?_
 have htk : l.take i = l := List.take_of_length_le (by omega)
 rw [htk]
 have hcl := cells_len (q := q) (l := l) (fun x hx => by { obtain ⟨j, hj, rfl⟩ := List.getElem_of_mem hx; exact chk_len (hI0 j _ (by omega) (List.getElem?_eq_getElem hj)) })
 have herr : errL l = 0 := errL_none fun x hx => by { obtain ⟨j, hj, rfl⟩ := List.getElem_of_mem hx; exact hI0 j _ (by omega) (List.getElem?_eq_getElem hj) }
 have hrep : replayL l q = ofL (cellsL q l) := by { unfold replayL ofL; rw [if_pos herr]; cases sheetL (cellsL q l) <;> rfl }
 refine mvo rfl rfl ?_
 refine RunL.callX C52 rfl rfl rfl (c_sOf _ ca cc (cellsL q l) own.rds (by omega) (cells_64 hrd)) tks fun ⟨sa, sc⟩ _ => ?_
 refine sx 4 ?_
 refine kp [4, 5] rfl ?_
 refine Run.ret ?_
 rw [hrep]
 exact ret_out (sa, sc) (.tmp rfl (.tmp rfl .nil)) trivial rfl gv
end
instance mpAcc : MPI Tryz.prog 107 9 57 := ⟨by kernel_rfl⟩
instance zvAcc : ZVI Tryz.prog 57 (.agg ⟨Ac0.c⟩) := ⟨by kernel_rfl⟩
theorem sb1 : ∀ x : ByteArray, ∀ v ∈ Sb x, v.oneCell' = true := fun x v hv => by simp [Sb] at hv; subst hv; rfl
section
attribute [local irreducible] OpJ RunL Run RunD DetJ pt own star Rd RdS
theorem cl_str (R : HP) (oa : Option Addr) (cap : Nat) (ls : List ByteArray) (hR : RdS R oa (ls.flatMap Sb)) (hlen : ls.length ≤ 1000000) : AC Tryz.prog 98 ⟨[.slice oa ls.length cap]⟩ (stars [R]) (Outs (fun _ : Option Addr × Nat => True) (fun x => .slice x.1 ls.length x.2) (fun x => [own 9 1 x.1 ls.length x.2 (ls.flatMap Sb), R])) := by
 refine AC.go Tryz.func98 rfl (Nat.le_of_ble_eq_true rfl) fun β => ?_
 refine sr ?_
 refine asg rfl rfl ?_
 refine kp [0] rfl ?_
 refine Run.seq ?_
 refine sr ?_
 refine sx 2 ?_
 refine kp [0, 4] rfl ?_
 first | refine Run.if rfl (fun h1 => ?_) (fun h1 => ?_) | refine Run.cond rfl (fun h1 => ?_) (fun h1 => ?_)
 refine sr ?_
 by_cases hne : ls.flatMap Sb ≠ []
 refine RunL.rdOpen pk hR hne fun b o e hrd => ?_
 rw [e] at h1
 cases h1
 obtain rfl : ls = [] := by
   cases ls with
   | nil => rfl
   | cons l ls => exact absurd (by simp [Sb]) hne
 refine RunL.ownNil 9 1 ?_
 refine asg rfl rfl ?_
 refine kp [2] rfl ?_
 refine Run.ret ?_
 exact ret_out (none, 0) (.tmp rfl .nil) trivial rfl gv
 refine Run.skip ?_
 refine sr ?_
 refine RunL.op rfl rfl (OpJ.buildSlice0 S55 fun b5 => ?_)
 refine mvo rfl rfl ?_
 refine RunL.op rfl rfl (OpJ.appendAll S55 M9 rfl rfl pk pk hR (flat_len (enc := Sb) (k := 1) (fun _ => rfl) _) (by decide) (flat_one sb1 _) (by omega) (by omega) fun a7 c7 => ?_)
 simp only [Nat.zero_add, List.nil_append]
 refine asg rfl rfl ?_
 refine kp [2] rfl ?_
 refine Run.ret ?_
 exact ret_out (a7, c7) (.tmp rfl .nil) trivial rfl gv
theorem c_copied (a : Ac) (R : HP) (hR : RdS R a.na (a.need.flatMap Sb)) (hl : a.need.length ≤ 140737488355328) (hl6 : a.need.length ≤ 1000000) : AC Tryz.prog 53 ⟨[.agg ⟨a.c⟩]⟩ (stars [R]) (Outs (fun _ : Option Addr × Nat => True) (fun y => .agg ⟨(a.put y).c⟩) (fun y => [own 9 1 y.1 a.need.length y.2 (a.need.flatMap Sb), R])) := by
 refine AC.go Tryz.func53 rfl (Nat.le_of_ble_eq_true rfl) fun β => ?_
 refine sr ?_
 refine RunL.op rfl rfl (OpJ.boxA rfl fun b1 => ?_)
 refine RunL.op rfl rfl (OpJ.alloc Z57 fun b2 => ?_)
 refine kp [1, 2] rfl ?_
 refine sr ?_
 refine sx 2 ?_
 refine RunL.callX C98 rfl rfl rfl (cl_str R a.na a.nc a.need hR hl6) tks fun ⟨na, nc⟩ _ => ?_
 refine sx 1 ?_
 refine RunL.op rfl rfl (OpJ.store1 inferInstance rfl rfl rfl up (by simp [Ac.c]) ?_)
 refine kp [1, 2] rfl ?_
 refine sr ?_
 refine sx 1 ?_
 refine RunL.op rfl rfl (OpJ.storeW T57 rfl rfl rfl rfl (by simp [Value.oneCell', Tg.c, Ln.c, En.c, Ac.c, Cl.c, Ky.c, Qy.c, Sb, Iv]) up ?_)
 refine kp [2] rfl ?_
 refine Run.ret ?_
 exact ret_out (na, nc) (.cellA T57 rfl pk (by rfl) .nil) trivial rfl gv
theorem c_names (a : Ac) (R : HP) (hR : RdS R a.na (a.need.flatMap Sb)) (hl : a.need.length ≤ 140737488355328) : AC Tryz.prog 112 ⟨[.agg ⟨a.c⟩]⟩ (stars [R]) (Ret (Bo (namesB a)) [R]) := by
 refine AC.go Tryz.func112 rfl (Nat.le_of_ble_eq_true rfl) fun β => ?_
 refine sr ?_
 refine RunL.op rfl rfl (OpJ.boxA rfl fun b1 => ?_)
 refine asg rfl rfl ?_
 refine kp [1] rfl ?_
 refine Run.seq ?_
 refine sr ?_
 refine sx 4 ?_
 refine kp [1, 6, 7, 8] rfl ?_
 refine Run.block ?_
 refine Run.loop (fun mm E L => ∃ i : Nat, mm = a.need.length - i ∧ i ≤ a.need.length ∧ codeTo a.need i ∧ E = [(1, .pointer (some ⟨b1, 0, none⟩)), (6, .slice a.na a.need.length a.nc), (7, I a.need.length), (8, I i)] ∧ L = [pt b1 (blk a.c 57), R]) ⟨_, 0, rfl, Nat.zero_le _, (fun j x h => by omega), rfl, rfl⟩ ?_
 rintro _ _ _ ⟨i, rfl, hi, hI0, rfl, rfl⟩
 refine sr ?_
 refine sx 1 ?_
 refine kp [1, 6, 7, 8, 9] rfl ?_
 refine Run.seq ?_
 first | refine Run.if rfl (fun h1 => ?_) (fun h1 => ?_) | refine Run.cond rfl (fun h1 => ?_) (fun h1 => ?_)
 refine Run.skip ?_
 refine Run.seq ?_
 refine Run.block ?_
 refine sr ?_
 obtain ⟨x, hx⟩ := get_ex (xs := a.need) (i := i) (by omega)
 refine RunL.rdOpen pk hR (flat_ne (k := 1) (fun _ => rfl) (by decide) hx) fun b o ebo hrd => ?_
 rw [ebo]
 refine sx 1 ?_
 refine RunL.op rfl rfl (OpJ.load1 inferInstance rfl pk (hrd.elem (enc := Sb) (fun _ => rfl) hx) ?_)
 refine asg rfl rfl ?_
 refine kp [1, 4, 6, 7, 8] rfl ?_
 refine sr ?_
 refine mvo rfl rfl ?_
 refine RunL.call C128 rfl rfl rfl (c_Code _) .nil ?_
 refine RunL.op rfl rfl (OpJ.not rfl ?_)
 refine kp [1, 6, 7, 8, 14] rfl ?_
 first | refine Run.if rfl (fun h2 => ?_) (fun h2 => ?_) | refine Run.cond rfl (fun h2 => ?_) (fun h2 => ?_)
 refine sr ?_
 refine asg rfl rfl ?_
 refine kp [2] rfl ?_
 refine Run.ret ?_
 exact ret_one (.tmp rfl .nil) (by unfold namesB; rw [code_not hx (by simpa using h2)]; rfl) gv
 refine Run.skip ?_
 refine Run.region ?_
 refine sx 2 ?_
 exact RunL.next (Keep.sub (kt (ks := [1, 6, 7, 8]) rfl)) _ ⟨_, by omega, i + 1, rfl, by omega, (fun j y hj hy => by { by_cases e : j = i; (subst e; rw [hx] at hy; cases hy; simpa using h2); exact hI0 j y (by omega) hy }), rfl, rfl⟩ gv
 refine Run.exit ?_
 refine sr ?_
 refine sx 2 ?_
 refine RunL.call C128 rfl rfl rfl (c_Code _) .nil ?_
 refine mvo rfl rfl ?_
 first | refine RunL.splitP (t := 19) rfl (fun g3 => ?_) (fun g3 => ?_) | refine RunL.split (t := 19) rfl (fun g3 => ?_) (fun g3 => ?_)
 refine sx 4 ?_
 first | refine RunL.splitP (t := 23) rfl (fun g4 => ?_) (fun g4 => ?_) | refine RunL.split (t := 23) rfl (fun g4 => ?_) (fun g4 => ?_)
 refine sx 6 ?_
 refine kp [2] rfl ?_
 refine Run.ret ?_
 exact ret_one (.tmp rfl .nil) (by unfold namesB optB; rw [hI0.all (by omega)]; simp_all [tup]) gv
 refine sx 2 ?_
 refine RunL.callG C128 rfl rfl rfl rfl rfl (c_Code _) .nil ?_
 refine sx 3 ?_
 refine kp [2] rfl ?_
 refine Run.ret ?_
 exact ret_one (.tmp rfl .nil) (by unfold namesB optB; rw [hI0.all (by omega)]; simp_all [tup]) gv
 refine sx 10 ?_
 refine kp [2] rfl ?_
 refine Run.ret ?_
 exact ret_one (.tmp rfl .nil) (by unfold namesB optB; rw [hI0.all (by omega)]; simp_all [tup]) gv
theorem c_first (R : HP) (b cap : Nat) (rs : List Rl) (hR : Rd R ⟨b, 0, none⟩ (rs.flatMap Rl.c)) (hl : rs.length ≤ 10) : AC Tryz.prog 111 ⟨[.slice (some ⟨b, 0, none⟩) rs.length cap]⟩ (stars [R]) (Ret (I (firstE rs)) [R]) := by
 refine AC.go Tryz.func111 rfl (Nat.le_of_ble_eq_true rfl) fun β => ?_
 refine sr ?_
 refine asg rfl rfl ?_
 refine kp [0] rfl ?_
 refine Run.seq ?_
 refine sr ?_
 refine sx 3 ?_
 refine kp [5, 6, 7] rfl ?_
 refine Run.block ?_
 refine Run.loop (fun mm E L => ∃ i : Nat, mm = rs.length - i ∧ i ≤ rs.length ∧ okR rs i ∧ E = [(5, .slice (some ⟨b, 0, none⟩) rs.length cap), (6, I rs.length), (7, I i)] ∧ L = [R]) ⟨_, 0, rfl, Nat.zero_le _, (fun j x h => by omega), rfl, rfl⟩ ?_
 rintro _ _ _ ⟨i, rfl, hi, hI0, rfl, rfl⟩
 refine sr ?_
 refine sx 1 ?_
 refine kp [5, 6, 7, 8] rfl ?_
 refine Run.seq ?_
 first | refine Run.if rfl (fun h1 => ?_) (fun h1 => ?_) | refine Run.cond rfl (fun h1 => ?_) (fun h1 => ?_)
 refine Run.skip ?_
 refine Run.seq ?_
 refine Run.block ?_
 refine sr ?_
 obtain ⟨x, hx⟩ := get_ex (xs := rs) (i := i) (by omega)
 refine sx 1 ?_
 refine RunL.op rfl rfl (OpJ.loadA inferInstance rfl pk (hR.elem (fun _ => rfl) hx) rfl ?_)
 refine RunL.op rfl rfl (OpJ.alloc Z186 fun b4 => ?_)
 refine RunL.op rfl rfl (OpJ.storeW T186 rfl rfl rfl rfl (by simp [Value.oneCell', Rl.c]) up ?_)
 refine kp [4, 5, 6, 7] rfl ?_
 refine sr ?_
 refine sx 2 ?_
 refine kp [4, 5, 6, 7, 12] rfl ?_
 first | refine Run.if rfl (fun h2 => ?_) (fun h2 => ?_) | refine Run.cond rfl (fun h2 => ?_) (fun h2 => ?_)
 refine sr ?_
 refine sx 3 ?_
 refine kp [2] rfl ?_
 refine Run.ret ?_
 exact ret_one (.tmp rfl .nil) (congrArg I (first_at hI0 hx (by simpa using h2)).symm) gv
 refine Run.skip ?_
 refine Run.region ?_
 refine sx 2 ?_
 exact RunL.next (Keep.sub (kt (ks := [5, 6, 7]) rfl)) _ ⟨_, by omega, i + 1, rfl, by omega, (fun j y hj hy => by { by_cases e : j = i; (subst e; rw [hx] at hy; cases hy; simpa using h2); exact hI0 j y (by omega) hy }), rfl, rfl⟩ gv
 refine Run.exit ?_
 refine sr ?_
 refine asg rfl rfl ?_
 refine kp [2] rfl ?_
 refine Run.ret ?_
 exact ret_one (.tmp rfl .nil) (congrArg I (hI0.all (by omega)).symm) gv
theorem c_rising (R : HP) (oa : Option Addr) (cap : Nat) (ns : List ByteArray) (hR : RdS R oa (ns.flatMap Sb)) (hl : ns.length ≤ 140737488355328) : AC Tryz.prog 114 ⟨[.slice oa ns.length cap]⟩ (stars [R]) (Ret (Bo (risB ns)) [R]) := by
 refine AC.go Tryz.func114 rfl (Nat.le_of_ble_eq_true rfl) fun β => ?_
 refine sr ?_
 refine asg rfl rfl ?_
 refine kp [0] rfl ?_
 refine Run.seq ?_
 refine sr ?_
 refine asg rfl rfl ?_
 refine kp [0, 3] rfl ?_
 refine Run.block ?_
 refine Run.loop (fun mm E L => ∃ i : Nat, mm = ns.length - i ∧ risTo ns (i + 1) ∧ E = [(0, .slice oa ns.length cap), (3, I ((i + 1 : Nat) : Int))] ∧ L = [R]) ⟨_, 0, rfl, risTo.one, rfl, rfl⟩ ?_
 rintro _ _ _ ⟨i, rfl, hI0, rfl, rfl⟩
 refine Run.seq ?_
 refine sr ?_
 refine sx 4 ?_
 refine kp [0, 3, 7] rfl ?_
 first | refine Run.if rfl (fun h1 => ?_) (fun h1 => ?_) | refine Run.cond rfl (fun h1 => ?_) (fun h1 => ?_)
 refine Run.skip ?_
 refine Run.seq ?_
 refine Run.block ?_
 refine Run.seq ?_
 refine regionD HM ?_
 obtain ⟨x, hx⟩ := get_ex (xs := ns) (i := i) (by omega)
 obtain ⟨y, hy⟩ := get_ex (xs := ns) (i := i + 1) (by omega)
 refine RunD.rdOpen pk hR (flat_ne (k := 1) (fun _ => rfl) (by decide) hx) fun b o ebo hrd => ?_
 rw [ebo]
 refine tk 0 rfl rfl rfl (DetJ.move rfl) ?_
 refine tk 1 rfl rfl rfl (DetJ.move rfl) ?_
 first | refine tk 2 rfl rfl rfl (DetJ.subI rfl rfl (by omega)) ?_ | refine tk 2 rfl rfl rfl (DetJ.sub rfl rfl) ?_
 refine RunD.set (v := I (i : Int)) (congrArg I (by omega)) ?_
 refine tk 3 rfl rfl rfl (DetJ.indexAddr S55 rfl rfl (by omega)) ?_
 refine RunD.takeR1 4 rfl rfl kr T9 rfl pk (hrd.elem (enc := Sb) (fun _ => rfl) hx) ?_
 refine tk 5 rfl rfl rfl (DetJ.move rfl) ?_
 refine tk 6 rfl rfl rfl (DetJ.move rfl) ?_
 refine tk 7 rfl rfl rfl (DetJ.indexAddr S55 rfl rfl (by omega)) ?_
 refine RunD.takeR1 8 rfl rfl kr T9 rfl pk (hrd.elem (enc := Sb) (fun _ => rfl) hy) ?_
 refine tk 9 rfl rfl rfl (DetJ.geqS rfl rfl) ?_
 refine kd [0, 3, 19] rfl ?_
 first | refine Run.if rfl (fun h2 => ?_) (fun h2 => ?_) | refine Run.cond rfl (fun h2 => ?_) (fun h2 => ?_)
 refine sr ?_
 refine asg rfl rfl ?_
 refine kp [2] rfl ?_
 refine Run.ret ?_
 exact ret_one (.tmp rfl .nil) (congrArg Bo (ris_not hx hy (by simpa [blt] using h2)).symm) gv
 refine Run.skip ?_
 refine Run.region ?_
 refine sx 3 ?_
 exact RunL.next (Keep.sub (kt (ks := [0, 3]) rfl)) _ ⟨_, by omega, i + 1, rfl, hI0.step hx hy (by simpa [blt] using h2), rfl, rfl⟩ gv
 refine Run.exit ?_
 refine sr ?_
 refine asg rfl rfl ?_
 refine kp [2] rfl ?_
 refine Run.ret ?_
 exact ret_one (.tmp rfl .nil) (congrArg Bo (hI0.all (by omega)).symm) gv
theorem c_has (s : ByteArray) (pb : Nat) (b bm : Nat) (v w : Value) (m : List Ac) : AC Tryz.prog 110 ⟨[St s, .pointer (some ⟨pb, 0, none⟩)]⟩ (stars [pt pb (blk [.pointer (some ⟨b, 0, none⟩)] 28), pt b (blk [.map (some bm), v, w] 110), amap bm acF acG m]) (Ret (Bo (getL m s).isSome) [pt pb (blk [.pointer (some ⟨b, 0, none⟩)] 28), pt b (blk [.map (some bm), v, w] 110), amap bm acF acG m]) := by
 refine AC.go Tryz.func110 rfl (Nat.le_of_ble_eq_true rfl) fun β => ?_
 refine sr ?_
 refine asg rfl rfl ?_
 refine kp [0, 1] rfl ?_
 refine sr ?_
 refine sx 5 ?_
 refine RunL.op rfl rfl (OpJ.lookup2 keyStr inferInstance inferInstance inferInstance rfl rfl pk ?_)
 rcases hk : kAt Ac.code s m with _ | q
 rw [gotL_none hk]
 refine RunL.set (v := .tuple ⟨[acG Ac0, Bo false]⟩) rfl ?_
 refine sx 3 ?_
 refine RunL.op rfl rfl (OpJ.alloc Z57 fun b4 => ?_)
 refine RunL.op rfl rfl (OpJ.storeW T57 rfl rfl rfl rfl (by simp [Value.oneCell', Tg.c, Ln.c, En.c, Ac.c, Cl.c, Ky.c, Qy.c, Sb, Iv]) up ?_)
 refine asg rfl rfl ?_
 refine kp [5] rfl ?_
 refine sr ?_
 refine sx 2 ?_
 refine kp [3] rfl ?_
 refine Run.ret ?_
 exact ret_one (.tmp rfl .nil) (rfl) gv
 rw [gotL_some hk]
 refine RunL.set (v := .tuple ⟨[acG q.2, Bo true]⟩) rfl ?_
 refine sx 3 ?_
 refine RunL.op rfl rfl (OpJ.alloc Z57 fun b4 => ?_)
 refine RunL.op rfl rfl (OpJ.storeW T57 rfl rfl rfl rfl (by simp [Value.oneCell', Tg.c, Ln.c, En.c, Ac.c, Cl.c, Ky.c, Qy.c, Sb, Iv]) up ?_)
 refine asg rfl rfl ?_
 refine kp [5] rfl ?_
 refine sr ?_
 refine sx 2 ?_
 refine kp [3] rfl ?_
 refine Run.ret ?_
 exact ret_one (.tmp rfl .nil) (rfl) gv
theorem c_Get (b bm : Nat) (v w : Value) (m : List Ac) (hm6 : ∀ a ∈ m, a.need.length ≤ 6) (s : ByteArray) : AC Tryz.prog 21 ⟨[.pointer (some ⟨b, 0, none⟩), St s]⟩ (stars [pt b (blk [.map (some bm), v, w] 110), amap bm acF acG m, big (ndH 9) m]) (Outs (fun _ : Option Addr × Nat => True) (fun y => .tuple ⟨[.agg ⟨((lkA m s).put y).c⟩, Bo (getL m s).isSome]⟩) (fun y => [own 9 1 y.1 (lkA m s).need.length y.2 ((lkA m s).need.flatMap Sb), pt b (blk [.map (some bm), v, w] 110), amap bm acF acG m, big (ndH 9) m])) := by
 have hn6 := lk_need (c := s) hm6
 refine AC.go Tryz.func21 rfl (Nat.le_of_ble_eq_true rfl) fun β => ?_
 refine sr ?_
 refine RunL.op rfl rfl (OpJ.alloc Z57 fun b4 => ?_)
 refine asg rfl rfl ?_
 refine kp [0, 1, 4] rfl ?_
 refine Run.seq ?_
 refine sr ?_
 refine sx 2 ?_
 refine kp [0, 1, 4, 7] rfl ?_
 refine Run.false rfl ?_
 refine Run.skip ?_
 refine sr ?_
 refine sx 5 ?_
 refine RunL.op rfl rfl (OpJ.lookupA2 inferInstance inferInstance inferInstance rfl rfl pk ?_)
 refine sx 3 ?_
 refine RunL.op rfl rfl (OpJ.storeW T57 rfl rfl rfl rfl (by simp [Value.oneCell', Tg.c, Ln.c, En.c, Ac.c, Cl.c, Ky.c, Qy.c, Sb, Iv]) up ?_)
 refine asg rfl rfl ?_
 refine kp [4, 5] rfl ?_
 refine sr ?_
 refine sx 1 ?_
 refine RunL.callX C53 rfl rfl rfl (c_copied (lkA m s) (big (ndH 9) m) lk_rds (by omega) (by omega)) tks fun ⟨na, nc⟩ _ => ?_
 refine mvo rfl rfl ?_
 refine RunL.op rfl rfl (OpJ.storeW T57 rfl rfl rfl rfl (by simp [Value.oneCell', Tg.c, Ln.c, En.c, Ac.c, Cl.c, Ky.c, Qy.c, Sb, Iv]) up ?_)
 refine asg rfl rfl ?_
 refine kp [4, 5] rfl ?_
 refine Run.ret ?_
 exact ret_out (na, nc) (.cellA T57 rfl pk (by rfl) (.tmp rfl .nil)) trivial rfl gv
theorem c_balances (R : HP) (oa : Option Addr) (cap : Nat) (l : List En) (hR0 : Rd R ⟨0, 0, none⟩ lensC) (hR : RdS R oa (l.flatMap En.c)) (hrd : ∀ e ∈ l, e.rd R) (hl : l.length ≤ 1000) (ent : ByteArray) (last book : Int) : AC Tryz.prog 69 ⟨[.slice oa l.length cap, St ent, I last, I book]⟩ (stars [R]) (Outs (fun _ : Option Addr × Nat => True) (fun y => .tuple ⟨[.slice y.1 (replayL l ⟨ent, 0, last, book⟩).1.length y.2, I (replayL l ⟨ent, 0, last, book⟩).2]⟩) (fun y => [own 63 7 y.1 (replayL l ⟨ent, 0, last, book⟩).1.length y.2 ((replayL l ⟨ent, 0, last, book⟩).1.flatMap Cl.c), R])) := by
 refine AC.go Tryz.func69 rfl (Nat.le_of_ble_eq_true rfl) fun β => ?_
 refine sr ?_
 refine sx 2 ?_
 refine kp [0, 1, 2, 3] rfl ?_
 refine sr ?_
 refine sx 5 ?_
 refine RunL.callX C20 rfl rfl rfl (c_Replay R oa cap l ⟨ent, 0, last, book⟩ hR0 hR hrd hl) tks fun ⟨sa, sc⟩ _ => ?_
 refine sx 4 ?_
 refine kp [8, 9] rfl ?_
 refine Run.ret ?_
 exact ret_out (sa, sc) (.tmp rfl (.tmp rfl .nil)) trivial rfl gv
theorem c_result (b bm : Nat) (v w : Value) (m : List Ac) (hm6 : ∀ a ∈ m, a.need.length ≤ 6) (R : HP) (oa : Option Addr) (cap : Nat) (l : List En) (hR0 : Rd R ⟨0, 0, none⟩ lensC) (hR : RdS R oa (l.flatMap En.c)) (hrd : ∀ e ∈ l, e.rd R) (hl : l.length ≤ 1000) (first : Int) (ent : ByteArray) (year book : Int) : AC Tryz.prog 34 ⟨[.pointer (some ⟨b, 0, none⟩), .agg ⟨[I first]⟩, .slice oa l.length cap, St ent, I year, I book]⟩ (stars [pt b (blk [.map (some bm), v, w] 110), amap bm acF acG m, big (ndH 9) m, R]) (Outs (fun _ : Option Addr × Nat => True) (fun y => .tuple ⟨[.slice y.1 (resM m first l ent year book).1.length y.2, I (lastR m first l ent year book), I (resM m first l ent year book).2]⟩) (fun y => [own 63 7 y.1 (resM m first l ent year book).1.length y.2 ((resM m first l ent year book).1.flatMap Cl.c), pt b (blk [.map (some bm), v, w] 110), amap bm acF acG m, big (ndH 9) m, R])) := by
 refine AC.go Tryz.func34 rfl (Nat.le_of_ble_eq_true rfl) fun β => ?_
 refine sr ?_
 refine RunL.op rfl rfl (OpJ.boxA rfl fun b7 => ?_)
 refine sx 3 ?_
 refine kp [0, 2, 3, 4, 5, 7, 12] rfl ?_
 refine Run.seq ?_
 refine sr ?_
 refine sx 2 ?_
 refine kp [0, 2, 3, 4, 5, 7, 12, 21] rfl ?_
 refine Run.false rfl ?_
 refine Run.skip ?_
 refine sr ?_
 refine sx 3 ?_
 refine RunL.call C19 rfl rfl rfl (c_Span first year 13 R hR0) tks ?_
 refine sx 6 ?_
 refine kp [0, 2, 3, 5, 12, 13, 14] rfl ?_
 refine Run.seq ?_
 refine sr ?_
 refine sx 2 ?_
 refine kp [0, 2, 3, 5, 12, 13, 14, 31] rfl ?_
 first | refine Run.if rfl (fun h1 => ?_) (fun h1 => ?_) | refine Run.cond rfl (fun h1 => ?_) (fun h1 => ?_)
 refine sr ?_
 refine RunL.ownNil 63 7 ?_
 refine sx 4 ?_
 refine kp [12, 13, 14] rfl ?_
 refine Run.ret ?_
 have hr := res_span (first := first) (year := year) (by simpa using h1) m l ent book
 have hlr : lastR m first l ent year book = 0 := by { unfold lastR; rw [hr]; exact if_neg (by first | decide | simpa using h2 | simpa using h1) }
 rw [hlr, hr]
 exact ret_out (none, 0) (.tmp rfl (.tmp rfl (.tmp rfl .nil))) trivial rfl gv
 refine Run.skip ?_
 refine sr ?_
 obtain ⟨hf, hy, hla⟩ := span13 (first := first) (year := year) (by simpa using h1)
 rw [hla]
 refine sx 4 ?_
 refine RunL.callX C69 rfl rfl rfl (c_balances R oa cap l hR0 hR hrd hl ent (lastF first year) book) tks fun ⟨sa, sc⟩ _ => ?_
 refine sx 5 ?_
 refine kp [0, 12, 13, 14, 15] rfl ?_
 refine Run.seq ?_
 refine sr ?_
 refine sx 2 ?_
 refine kp [0, 12, 13, 14, 15, 42] rfl ?_
 first | refine Run.if rfl (fun h2 => ?_) (fun h2 => ?_) | refine Run.cond rfl (fun h2 => ?_) (fun h2 => ?_)
 refine sr ?_
 refine RunL.ownNil 63 7 ?_
 refine sx 4 ?_
 refine kp [12, 13, 14] rfl ?_
 refine Run.ret ?_
 have hr := res_play hf hy m l ent book (by simpa using h2)
 have hlr : lastR m first l ent year book = 0 := by { unfold lastR; rw [hr]; exact if_neg (by first | decide | simpa using h2 | simpa using h1) }
 rw [hlr, hr]
 exact ret_out (none, 0) (.tmp rfl (.tmp rfl (.tmp rfl .nil))) trivial rfl gv
 refine Run.skip ?_
 refine Run.seq ?_
 refine sr ?_
 refine RunL.ownNil 63 7 ?_
 have hrl : (replayL l ⟨ent, 0, lastF first year, book⟩).1.length ≤ 100000 := replay_len hl
 refine sx 3 ?_
 refine kp [0, 12, 13, 44, 45, 46] rfl ?_
 refine Run.block ?_
 refine Run.weak (L' := [own 63 7 none ([] : List Cl).length 0 (([] : List Cl).flatMap Cl.c), own 63 7 sa (replayL l ⟨ent, 0, lastF first year, book⟩).1.length sc ((replayL l ⟨ent, 0, lastF first year, book⟩).1.flatMap Cl.c), pt b (blk [.map (some bm), v, w] 110), amap bm acF acG m, big (ndH 9) m, R]) (fun _ _ h => h) gv ?_
 refine Run.loop (fun mm E L => ∃ (i : Nat) (acc : List Cl) (ca : Option Addr) (cc : Nat), mm = (replayL l ⟨ent, 0, lastF first year, book⟩).1.length - i ∧ i ≤ (replayL l ⟨ent, 0, lastF first year, book⟩).1.length ∧ PickI m (replayL l ⟨ent, 0, lastF first year, book⟩).1 i acc ∧ E = [(0, .pointer (some ⟨b, 0, none⟩)), (12, .slice ca acc.length cc), (13, I (lastF first year)), (44, .slice sa (replayL l ⟨ent, 0, lastF first year, book⟩).1.length sc), (45, I (replayL l ⟨ent, 0, lastF first year, book⟩).1.length), (46, I i)] ∧ L = [own 63 7 ca acc.length cc (acc.flatMap Cl.c), own 63 7 sa (replayL l ⟨ent, 0, lastF first year, book⟩).1.length sc ((replayL l ⟨ent, 0, lastF first year, book⟩).1.flatMap Cl.c), pt b (blk [.map (some bm), v, w] 110), amap bm acF acG m, big (ndH 9) m, R]) ⟨_, 0, [], none, 0, rfl, Nat.zero_le _, PickI.start, rfl, rfl⟩ ?_
 rintro _ _ _ ⟨i, acc, ca, cc, rfl, hi, hI0, rfl, rfl⟩
 refine sr ?_
 refine sx 1 ?_
 refine kp [0, 12, 13, 44, 45, 46, 47] rfl ?_
 refine Run.seq ?_
 first | refine Run.if rfl (fun h3 => ?_) (fun h3 => ?_) | refine Run.cond rfl (fun h3 => ?_) (fun h3 => ?_)
 refine Run.skip ?_
 refine Run.seq ?_
 refine Run.block ?_
 refine sr ?_
 obtain ⟨x, hx⟩ := get_ex (xs := (replayL l ⟨ent, 0, lastF first year, book⟩).1) (i := i) (by omega)
 refine RunL.ownAddr pk (flat_ne (k := 7) (fun _ => rfl) (by decide) hx) fun bs1 e hcap => ?_
 subst e
 have hal := hI0.2
 refine sx 1 ?_
 refine RunL.op rfl rfl (OpJ.loadA inferInstance rfl pk (own.el (enc := Cl.c) hx (by decide) (fun _ => rfl)) rfl ?_)
 refine RunL.op rfl rfl (OpJ.alloc Z63 fun b17 => ?_)
 refine RunL.op rfl rfl (OpJ.storeW T63 rfl rfl rfl rfl (by simp [Value.oneCell', Tg.c, Ln.c, En.c, Ac.c, Cl.c, Ky.c, Qy.c, Sb, Iv]) up ?_)
 refine kp [0, 12, 13, 17, 44, 45, 46] rfl ?_
 refine sr ?_
 refine sx 4 ?_
 refine RunL.callX C21 rfl rfl rfl (c_Get b bm v w m hm6 x.k.acc) tks fun ⟨na, nc⟩ _ => ?_
 rcases hg : getL m x.k.acc with _ | a
 rw [lk_none hg]
 refine sx 3 ?_
 refine RunL.op rfl rfl (OpJ.alloc Z57 fun b18 => ?_)
 refine RunL.op rfl rfl (OpJ.storeW T57 rfl rfl rfl rfl (by simp [Value.oneCell', Tg.c, Ln.c, En.c, Ac.c, Cl.c, Ky.c, Qy.c, Sb, Iv]) up ?_)
 refine asg rfl rfl ?_
 refine kp [0, 12, 13, 17, 18, 19, 44, 45, 46] rfl ?_
 refine Run.seq ?_
 refine sr ?_
 refine sx 7 ?_
 refine kp [0, 12, 13, 17, 18, 44, 45, 46, 64] rfl ?_
 refine Run.true rfl ?_
 refine sr ?_
 refine RunL.ownNil 63 7 ?_
 refine sx 3 ?_
 refine kp [12, 13, 14] rfl ?_
 refine Run.ret ?_
 have hr := res_pickN hf hy (by simpa using h2) (hI0.bad hx hg)
 have hlr : lastR m first l ent year book = 0 := by { unfold lastR; rw [hr]; exact if_neg (by first | decide | simpa using h2 | simpa using h1) }
 rw [hlr, hr]
 exact ret_out (none, 0) (.tmp rfl (.tmp rfl (.tmp rfl .nil))) trivial rfl gv
 rw [lk_some hg]
 refine sx 3 ?_
 refine RunL.op rfl rfl (OpJ.alloc Z57 fun b18 => ?_)
 refine RunL.op rfl rfl (OpJ.storeW T57 rfl rfl rfl rfl (by simp [Value.oneCell', Tg.c, Ln.c, En.c, Ac.c, Cl.c, Ky.c, Qy.c, Sb, Iv]) up ?_)
 refine asg rfl rfl ?_
 refine kp [0, 12, 13, 17, 18, 19, 44, 45, 46] rfl ?_
 refine Run.seq ?_
 refine sr ?_
 refine sx 7 ?_
 refine kp [0, 12, 13, 17, 18, 44, 45, 46, 64] rfl ?_
 first | refine Run.if rfl (fun h4 => ?_) (fun h4 => ?_) | refine Run.cond rfl (fun h4 => ?_) (fun h4 => ?_)
 refine sr ?_
 refine RunL.ownNil 63 7 ?_
 refine sx 3 ?_
 refine kp [12, 13, 14] rfl ?_
 refine Run.ret ?_
 have hr := res_pickN hf hy (by simpa using h2) (hI0.shut hx hg (by simpa [Ac.put] using h4))
 have hlr : lastR m first l ent year book = 0 := by { unfold lastR; rw [hr]; exact if_neg (by first | decide | simpa using h2 | simpa using h1) }
 rw [hlr, hr]
 exact ret_out (none, 0) (.tmp rfl (.tmp rfl (.tmp rfl .nil))) trivial rfl gv
 refine Run.skip ?_
 refine sr ?_
 refine sx 4 ?_
 first | refine RunL.splitP (t := 68) rfl (fun g5 => ?_) (fun g5 => ?_) | refine RunL.split (t := 68) rfl (fun g5 => ?_) (fun g5 => ?_)
 refine sx 4 ?_
 refine kp [0, 12, 13, 17, 44, 45, 46, 72] rfl ?_
 refine Run.true rfl ?_
 refine Run.region ?_
 refine sx 2 ?_
 refine RunL.op rfl rfl (OpJ.buildSlice1 S32 rfl rfl rfl (by decide) (by decide) Z63 rfl fun b75 => ?_)
 refine RunL.op rfl rfl (OpJ.append1 x S32 M63 rfl rfl pk pk rfl rfl (by simp [Value.oneCell', Tg.c, Ln.c, En.c, Ac.c, Cl.c, Ky.c, Qy.c, Sb, Iv]) rfl (by omega) (by omega) fun a76 c76 => ?_)
 refine asg rfl rfl ?_
 refine kp [0, 12, 13, 44, 45, 46] rfl ?_
 refine Run.region ?_
 refine sx 2 ?_
 have hst := hI0.step hx hg (by simpa [Ac.put] using h4)
 first
 | have hk : a.kind = 4 ∨ a.kind = 5 := (by first | exact Or.inl g5 | exact Or.inr h6 | exact Or.inr h5)
   rw [if_pos hk] at hst
   exact RunL.next (Keep.sub (kt (ks := [0, 12, 13, 44, 45, 46]) rfl)) _ ⟨_, by omega, i + 1, acc ++ [x], a76, c76, rfl, by omega, hst, rfl, rfl⟩ gv
 | have hk : ¬ (a.kind = 4 ∨ a.kind = 5) := (by first | exact fun h => h.elim g5 h6 | exact fun h => h.elim g5 h5)
   rw [if_neg hk] at hst
   exact RunL.next (Keep.sub (kt (ks := [0, 12, 13, 44, 45, 46]) rfl)) _ ⟨_, by omega, i + 1, acc, ca, cc, rfl, by omega, hst, rfl, rfl⟩ gv
 refine sx 4 ?_
 refine kp [0, 12, 13, 17, 44, 45, 46, 72] rfl ?_
 first | refine Run.if rfl (fun h6 => ?_) (fun h6 => ?_) | refine Run.cond rfl (fun h6 => ?_) (fun h6 => ?_)
 refine Run.region ?_
 refine sx 2 ?_
 refine RunL.op rfl rfl (OpJ.buildSlice1 S32 rfl rfl rfl (by decide) (by decide) Z63 rfl fun b75 => ?_)
 refine RunL.op rfl rfl (OpJ.append1 x S32 M63 rfl rfl pk pk rfl rfl (by simp [Value.oneCell', Tg.c, Ln.c, En.c, Ac.c, Cl.c, Ky.c, Qy.c, Sb, Iv]) rfl (by omega) (by omega) fun a76 c76 => ?_)
 refine asg rfl rfl ?_
 refine kp [0, 12, 13, 44, 45, 46] rfl ?_
 refine Run.region ?_
 refine sx 2 ?_
 have hst := hI0.step hx hg (by simpa [Ac.put] using h4)
 first
 | have hk : a.kind = 4 ∨ a.kind = 5 := (by first | exact Or.inl g5 | exact Or.inr h6 | exact Or.inr h5)
   rw [if_pos hk] at hst
   exact RunL.next (Keep.sub (kt (ks := [0, 12, 13, 44, 45, 46]) rfl)) _ ⟨_, by omega, i + 1, acc ++ [x], a76, c76, rfl, by omega, hst, rfl, rfl⟩ gv
 | have hk : ¬ (a.kind = 4 ∨ a.kind = 5) := (by first | exact fun h => h.elim g5 h6 | exact fun h => h.elim g5 h5)
   rw [if_neg hk] at hst
   exact RunL.next (Keep.sub (kt (ks := [0, 12, 13, 44, 45, 46]) rfl)) _ ⟨_, by omega, i + 1, acc, ca, cc, rfl, by omega, hst, rfl, rfl⟩ gv
 refine Run.skip ?_
 refine Run.region ?_
 refine sx 2 ?_
 have hst := hI0.step hx hg (by simpa [Ac.put] using h4)
 first
 | have hk : a.kind = 4 ∨ a.kind = 5 := (by first | exact Or.inl g5 | exact Or.inr h6 | exact Or.inr h5)
   rw [if_pos hk] at hst
   exact RunL.next (Keep.sub (kt (ks := [0, 12, 13, 44, 45, 46]) rfl)) _ ⟨_, by omega, i + 1, acc ++ [x], a76, c76, rfl, by omega, hst, rfl, rfl⟩ gv
 | have hk : ¬ (a.kind = 4 ∨ a.kind = 5) := (by first | exact fun h => h.elim g5 h6 | exact fun h => h.elim g5 h5)
   rw [if_neg hk] at hst
   exact RunL.next (Keep.sub (kt (ks := [0, 12, 13, 44, 45, 46]) rfl)) _ ⟨_, by omega, i + 1, acc, ca, cc, rfl, by omega, hst, rfl, rfl⟩ gv
 refine Run.exit ?_
 refine sr ?_
 refine sx 5 ?_
 refine kp [12, 13, 14] rfl ?_
 refine Run.ret ?_
 have hr := res_pickS hf hy (by simpa using h2) (hI0.done (by omega))
 have hlr : lastR m first l ent year book = lastF first year := by { unfold lastR; rw [hr]; exact if_pos rfl }
 rw [hlr, hr]
 exact ret_out (ca, cc) (.tmp rfl (.tmp rfl (.tmp rfl .nil))) trivial rfl gv
theorem c_large (x : Cs) (R : HP) (hx : x.rd R) : AC Tryz.prog 28 ⟨[.agg ⟨x.c⟩]⟩ (stars [R]) (Outs (fun b : Bool => b = false → x.few) (fun b => Bo b) (fun _ => [R])) := by
 obtain ⟨hxr, hxe, hxl, hlr, hle, hls, hll, hiy, hib, hzw⟩ := hx
 refine AC.go Tryz.func28 rfl (Nat.le_of_ble_eq_true rfl) fun β => ?_
 refine sr ?_
 refine RunL.op rfl rfl (OpJ.boxA rfl fun b1 => ?_)
 refine asg rfl rfl ?_
 refine kp [1] rfl ?_
 refine Run.seq ?_
 refine sr ?_
 refine sx 5 ?_
 first | refine RunL.splitP (t := 11) rfl (fun g1 => ?_) (fun g1 => ?_) | refine RunL.split (t := 11) rfl (fun g1 => ?_) (fun g1 => ?_)
 refine sx 19 ?_
 refine kp [1, 30] rfl ?_
 refine Run.true rfl ?_
 refine sr ?_
 refine asg rfl rfl ?_
 refine kp [2] rfl ?_
 refine Run.ret ?_
 first | exact ret_out true (.tmp rfl .nil) (fun h => by cases h) rfl gv | exact ret_out false (.tmp rfl .nil) (fun _ => ⟨by omega, by omega, by rw [tot_all (Nat.le_refl _)] at hI0; exact hI0⟩) rfl gv
 refine sx 6 ?_
 first | refine RunL.splitP (t := 17) rfl (fun g2 => ?_) (fun g2 => ?_) | refine RunL.split (t := 17) rfl (fun g2 => ?_) (fun g2 => ?_)
 refine sx 13 ?_
 refine kp [1, 30] rfl ?_
 refine Run.true rfl ?_
 refine sr ?_
 refine asg rfl rfl ?_
 refine kp [2] rfl ?_
 refine Run.ret ?_
 first | exact ret_out true (.tmp rfl .nil) (fun h => by cases h) rfl gv | exact ret_out false (.tmp rfl .nil) (fun _ => ⟨by omega, by omega, by rw [tot_all (Nat.le_refl _)] at hI0; exact hI0⟩) rfl gv
 refine sx 13 ?_
 refine kp [1, 30] rfl ?_
 first | refine Run.if rfl (fun h3 => ?_) (fun h3 => ?_) | refine Run.cond rfl (fun h3 => ?_) (fun h3 => ?_)
 refine sr ?_
 refine asg rfl rfl ?_
 refine kp [2] rfl ?_
 refine Run.ret ?_
 first | exact ret_out true (.tmp rfl .nil) (fun h => by cases h) rfl gv | exact ret_out false (.tmp rfl .nil) (fun _ => ⟨by omega, by omega, by rw [tot_all (Nat.le_refl _)] at hI0; exact hI0⟩) rfl gv
 refine Run.skip ?_
 refine sr ?_
 refine asg rfl rfl ?_
 refine kp [1, 3] rfl ?_
 refine Run.seq ?_
 refine sr ?_
 refine asg rfl rfl ?_
 refine kp [1, 3, 4] rfl ?_
 refine Run.block ?_
 refine Run.weak (L' := [pt b1 (blk x.c 27), R]) (fun _ _ h => h) gv ?_
 refine Run.loop (fun mm E L => ∃ i : Nat, mm = x.l.length - i ∧ i ≤ x.l.length ∧ totL (x.l.take i) ≤ 400 ∧ E = [(1, .pointer (some ⟨b1, 0, none⟩)), (3, I (totL (x.l.take i) : Int)), (4, I i)] ∧ L = [pt b1 (blk x.c 27), R]) ⟨_, 0, rfl, Nat.zero_le _, Nat.zero_le _, rfl, rfl⟩ ?_
 rintro _ _ _ ⟨i, rfl, hi, hI0, rfl, rfl⟩
 refine Run.seq ?_
 refine sr ?_
 refine sx 5 ?_
 refine kp [1, 3, 4, 35] rfl ?_
 first | refine Run.if rfl (fun h4 => ?_) (fun h4 => ?_) | refine Run.cond rfl (fun h4 => ?_) (fun h4 => ?_)
 refine Run.skip ?_
 refine Run.seq ?_
 refine Run.block ?_
 refine sr ?_
 obtain ⟨e, hex⟩ := get_ex (xs := x.l) (i := i) (by omega)
 have hem := hle e (List.mem_of_getElem? hex)
 have htk := tot_take hex
 refine RunL.rdOpen pk hlr (flat_ne (k := 9) (fun _ => rfl) (by decide) hex) fun bo oo ebo hrd => ?_
 refine sx 3 ?_
 rw [ebo]
 refine sx 3 ?_
 refine RunL.op rfl rfl (OpJ.load1 inferInstance rfl pk (hrd.at (enc := En.c) 9 (fun _ => rfl) hex 8 (.slice e.la e.lines.length e.lc) rfl) ?_)
 refine sx 3 ?_
 refine kp [1, 3, 4] rfl ?_
 refine Run.seq ?_
 refine Run.seq ?_
 refine regionD HM ?_
 refine tk 0 rfl rfl rfl (DetJ.move rfl) ?_
 refine tk 1 rfl rfl rfl (DetJ.gtr rfl rfl) ?_
 refine tk 2 rfl rfl rfl (DetJ.move rfl) ?_
 by_cases hn : 400 < (totL (x.l.take i) : Int) + e.lines.length
 refine RunD.set (congrArg Bo (decide_eq_true hn)) ?_
 refine RunD.takeN 3 rfl rfl rfl rfl rfl kr ?_
 refine RunD.takeN 4 rfl rfl rfl rfl rfl kr ?_
 refine RunD.takeN 5 rfl rfl rfl rfl rfl kr ?_
 refine RunD.takeN 6 rfl rfl rfl rfl rfl kr ?_
 refine RunD.takeN 7 rfl rfl rfl rfl rfl kr ?_
 refine RunD.takeN 8 rfl rfl rfl rfl rfl kr ?_
 refine RunD.takeN 9 rfl rfl rfl rfl rfl kr ?_
 refine RunD.takeN 10 rfl rfl rfl rfl rfl kr ?_
 refine RunD.takeN 11 rfl rfl rfl rfl rfl kr ?_
 refine RunD.takeN 12 rfl rfl rfl rfl rfl kr ?_
 refine RunD.takeN 13 rfl rfl rfl rfl rfl kr ?_
 refine RunD.takeN 14 rfl rfl rfl rfl rfl kr ?_
 refine RunD.takeN 15 rfl rfl rfl rfl rfl kr ?_
 refine RunD.takeN 16 rfl rfl rfl rfl rfl kr ?_
 refine RunD.takeN 17 rfl rfl rfl rfl rfl kr ?_
 refine RunD.takeN 18 rfl rfl rfl rfl rfl kr ?_
 refine RunD.takeN 19 rfl rfl rfl rfl rfl kr ?_
 refine RunD.takeN 20 rfl rfl rfl rfl rfl kr ?_
 refine RunD.takeN 21 rfl rfl rfl rfl rfl kr ?_
 refine RunD.takeN 22 rfl rfl rfl rfl rfl kr ?_
 refine RunD.takeN 23 rfl rfl rfl rfl rfl kr ?_
 refine RunD.takeN 24 rfl rfl rfl rfl rfl kr ?_
 refine RunD.takeN 25 rfl rfl rfl rfl rfl kr ?_
 refine RunD.takeN 26 rfl rfl rfl rfl rfl kr ?_
 refine tk 27 rfl rfl rfl (DetJ.pickT rfl rfl) ?_
 refine kd [1, 3, 4, 74] rfl ?_
 refine Run.true rfl ?_
 refine sr ?_
 refine asg rfl rfl ?_
 refine kp [2] rfl ?_
 refine Run.ret ?_
 first | exact ret_out true (.tmp rfl .nil) (fun h => by cases h) rfl gv | exact ret_out false (.tmp rfl .nil) (fun _ => ⟨by omega, by omega, by rw [tot_all (Nat.le_refl _)] at hI0; exact hI0⟩) rfl gv
 refine RunD.set (congrArg Bo (decide_eq_false hn)) ?_
 refine RunD.takeG 3 rfl rfl rfl rfl rfl kr (DetJ.fieldAddr F27_2 rfl) .nil ?_
 first | refine RunD.takeGF 4 rfl rfl rfl rfl kr T25 rfl pk (by rfl) ?_ | refine RunD.takeGO 4 rfl rfl rfl rfl kr T25 rfl pk (by assumption) (by rfl) (by exact fun _ => rfl) ?_
 rw [ebo]
 refine RunD.takeG 5 rfl rfl rfl rfl rfl kr (DetJ.move rfl) .nil ?_
 refine RunD.takeG 6 rfl rfl rfl rfl rfl kr (DetJ.indexAddr S25 rfl rfl (by omega)) .nil ?_
 refine RunD.takeG 7 rfl rfl rfl rfl rfl kr (DetJ.fieldAddr F42_1 rfl) .nil ?_
 refine RunD.takeGR1 8 rfl rfl rfl rfl kr T9 rfl pk (hrd.at (enc := En.c) 9 (fun _ => rfl) hex 1 (St e.ent) rfl) ?_
 refine RunD.takeG 9 rfl rfl rfl rfl rfl kr (DetJ.lenS U9 rfl) .nil ?_
 refine RunD.takeG 10 rfl rfl rfl rfl rfl kr (DetJ.fieldAddr F27_2 rfl) .nil ?_
 first | refine RunD.takeGF 11 rfl rfl rfl rfl kr T25 rfl pk (by rfl) ?_ | refine RunD.takeGO 11 rfl rfl rfl rfl kr T25 rfl pk (by assumption) (by rfl) (by exact fun _ => rfl) ?_
 rw [ebo]
 refine RunD.takeG 12 rfl rfl rfl rfl rfl kr (DetJ.move rfl) .nil ?_
 refine RunD.takeG 13 rfl rfl rfl rfl rfl kr (DetJ.indexAddr S25 rfl rfl (by omega)) .nil ?_
 refine RunD.takeG 14 rfl rfl rfl rfl rfl kr (DetJ.fieldAddr F42_5 rfl) .nil ?_
 refine RunD.takeGR1 15 rfl rfl rfl rfl kr T9 rfl pk (hrd.at (enc := En.c) 9 (fun _ => rfl) hex 5 (St e.ref) rfl) ?_
 refine RunD.takeG 16 rfl rfl rfl rfl rfl kr (DetJ.lenS U9 rfl) .nil ?_
 first | refine RunD.takeG 17 rfl rfl rfl rfl rfl kr (DetJ.addI rfl rfl (by omega)) .nil ?_ | refine RunD.takeG 17 rfl rfl rfl rfl rfl kr (DetJ.add rfl rfl) .nil ?_
 refine RunD.takeG 18 rfl rfl rfl rfl rfl kr (DetJ.fieldAddr F27_2 rfl) .nil ?_
 first | refine RunD.takeGF 19 rfl rfl rfl rfl kr T25 rfl pk (by rfl) ?_ | refine RunD.takeGO 19 rfl rfl rfl rfl kr T25 rfl pk (by assumption) (by rfl) (by exact fun _ => rfl) ?_
 rw [ebo]
 refine RunD.takeG 20 rfl rfl rfl rfl rfl kr (DetJ.move rfl) .nil ?_
 refine RunD.takeG 21 rfl rfl rfl rfl rfl kr (DetJ.indexAddr S25 rfl rfl (by omega)) .nil ?_
 refine RunD.takeG 22 rfl rfl rfl rfl rfl kr (DetJ.fieldAddr F42_6 rfl) .nil ?_
 refine RunD.takeGR1 23 rfl rfl rfl rfl kr T9 rfl pk (hrd.at (enc := En.c) 9 (fun _ => rfl) hex 6 (St e.who) rfl) ?_
 refine RunD.takeG 24 rfl rfl rfl rfl rfl kr (DetJ.lenS U9 rfl) .nil ?_
 first | refine RunD.takeG 25 rfl rfl rfl rfl rfl kr (DetJ.addI rfl rfl (by omega)) .nil ?_ | refine RunD.takeG 25 rfl rfl rfl rfl rfl kr (DetJ.add rfl rfl) .nil ?_
 refine RunD.takeG 26 rfl rfl rfl rfl rfl kr (DetJ.gtr rfl rfl) .nil ?_
 refine tk 27 rfl rfl rfl (DetJ.pickF rfl rfl) ?_
 refine kd [1, 3, 4, 74] rfl ?_
 first | refine Run.if rfl (fun h5 => ?_) (fun h5 => ?_) | refine Run.cond rfl (fun h5 => ?_) (fun h5 => ?_)
 refine sr ?_
 refine asg rfl rfl ?_
 refine kp [2] rfl ?_
 refine Run.ret ?_
 first | exact ret_out true (.tmp rfl .nil) (fun h => by cases h) rfl gv | exact ret_out false (.tmp rfl .nil) (fun _ => ⟨by omega, by omega, by rw [tot_all (Nat.le_refl _)] at hI0; exact hI0⟩) rfl gv
 refine Run.skip ?_
 refine sr ?_
 refine asg rfl rfl ?_
 refine kp [1, 3, 4, 5] rfl ?_
 refine Run.block ?_
 refine Run.weak (L' := [pt b1 (blk x.c 27), R]) (fun _ _ h => h) gv ?_
 refine Run.loop (fun mm E L => ∃ k : Nat, mm = e.lines.length - k ∧ k ≤ e.lines.length ∧ E = [(1, .pointer (some ⟨b1, 0, none⟩)), (3, I ((totL (x.l.take i) : Int) + e.lines.length)), (4, I i), (5, I k)] ∧ L = [pt b1 (blk x.c 27), R]) ⟨_, 0, rfl, Nat.zero_le _, rfl, rfl⟩ ?_
 rintro _ _ _ ⟨k, rfl, hk, rfl, rfl⟩
 refine Run.seq ?_
 refine sr ?_
 refine sx 3 ?_
 rw [ebo]
 refine sx 3 ?_
 refine RunL.op rfl rfl (OpJ.load1 inferInstance rfl pk (hrd.at (enc := En.c) 9 (fun _ => rfl) hex 8 (.slice e.la e.lines.length e.lc) rfl) ?_)
 refine sx 2 ?_
 refine kp [1, 3, 4, 5, 83] rfl ?_
 first | refine Run.if rfl (fun h6 => ?_) (fun h6 => ?_) | refine Run.cond rfl (fun h6 => ?_) (fun h6 => ?_)
 refine Run.skip ?_
 refine Run.seq ?_
 refine Run.block ?_
 refine sr ?_
 obtain ⟨y, hy⟩ := get_ex (xs := e.lines) (i := k) (by omega)
 refine RunL.rdOpen pk hem.1.1 (flat_ne (k := 7) (fun _ => rfl) (by decide) hy) fun bq oq ebq hrq => ?_
 refine sx 2 ?_
 rw [ebo]
 refine sx 3 ?_
 refine RunL.op rfl rfl (OpJ.load1 inferInstance rfl pk (hrd.at (enc := En.c) 9 (fun _ => rfl) hex 8 (.slice e.la e.lines.length e.lc) rfl) ?_)
 rw [ebq]
 refine sx 2 ?_
 refine RunL.op rfl rfl (OpJ.loadA inferInstance rfl pk (hrq.elem (fun _ => rfl) hy) rfl ?_)
 refine RunL.op rfl rfl (OpJ.alloc Z73 fun b6 => ?_)
 refine RunL.op rfl rfl (OpJ.storeW T73 rfl rfl rfl rfl (by simp [Value.oneCell', Tg.c, Ln.c, En.c, Ac.c, Cl.c, Ky.c, Qy.c, Sb, Iv, Cs.c]) up ?_)
 refine kp [1, 3, 4, 5, 6] rfl ?_
 refine sr ?_
 refine sx 5 ?_
 first | refine RunL.splitP (t := 99) rfl (fun g7 => ?_) (fun g7 => ?_) | refine RunL.split (t := 99) rfl (fun g7 => ?_) (fun g7 => ?_)
 refine sx 17 ?_
 refine kp [1, 3, 4, 5, 116] rfl ?_
 refine Run.true rfl ?_
 refine sr ?_
 refine asg rfl rfl ?_
 refine kp [2] rfl ?_
 refine Run.ret ?_
 first | exact ret_out true (.tmp rfl .nil) (fun h => by cases h) rfl gv | exact ret_out false (.tmp rfl .nil) (fun _ => ⟨by omega, by omega, by rw [tot_all (Nat.le_refl _)] at hI0; exact hI0⟩) rfl gv
 refine sx 17 ?_
 refine kp [1, 3, 4, 5, 116] rfl ?_
 first | refine Run.if rfl (fun h8 => ?_) (fun h8 => ?_) | refine Run.cond rfl (fun h8 => ?_) (fun h8 => ?_)
 refine sr ?_
 refine asg rfl rfl ?_
 refine kp [2] rfl ?_
 refine Run.ret ?_
 first | exact ret_out true (.tmp rfl .nil) (fun h => by cases h) rfl gv | exact ret_out false (.tmp rfl .nil) (fun _ => ⟨by omega, by omega, by rw [tot_all (Nat.le_refl _)] at hI0; exact hI0⟩) rfl gv
 refine Run.skip ?_
 refine Run.region ?_
 refine sx 3 ?_
 exact RunL.next (Keep.sub (kt (ks := [1, 3, 4, 5]) rfl)) _ ⟨_, by omega, k + 1, rfl, by omega, rfl, rfl⟩ gv
 refine Run.exit ?_
 refine Run.region ?_
 refine sx 3 ?_
 rw [show (totL (x.l.take i) : Int) + e.lines.length = (totL (x.l.take (i + 1)) : Int) by omega]
 exact RunL.next (Keep.sub (kt (ks := [1, 3, 4]) rfl)) _ ⟨_, by omega, i + 1, rfl, by omega, by omega, rfl, rfl⟩ gv
 refine Run.exit ?_
 refine sr ?_
 obtain rfl : i = x.l.length := by omega
 refine asg rfl rfl ?_
 refine kp [2] rfl ?_
 refine Run.ret ?_
 first | exact ret_out true (.tmp rfl .nil) (fun h => by cases h) rfl gv | exact ret_out false (.tmp rfl .nil) (fun _ => ⟨by omega, by omega, by rw [tot_all (Nat.le_refl _)] at hI0; exact hI0⟩) rfl gv
theorem c_small : AC Tryz.prog 32 ⟨[]⟩ (stars []) (Outs (fun _ : Nat => True) (fun b => .slice (bpt b) 4 4) (fun b => [pt b (blk (xsX.flatMap Ac.c) 57)])) := by
 refine AC.go Tryz.func32 rfl (Nat.le_of_ble_eq_true rfl) fun β => ?_
 refine sr ?_
 refine asg rfl rfl ?_
 refine kp [] rfl ?_
 refine sr ?_
 refine sx 4 ?_
 refine RunL.op rfl rfl (OpJ.buildSliceN (cs := xsX.flatMap Ac.c) inferInstance Z57 rfl (by decide) (by decide) rfl (by rfl) (by rfl) fun b5 => ?_)
 refine asg rfl rfl ?_
 refine kp [0] rfl ?_
 refine Run.ret ?_
 exact ret_out b5 (.tmp rfl .nil) trivial rfl gv
theorem c_sale (no value : Int) (code : ByteArray) (n : Int) (hn : -1000000 ≤ n ∧ n ≤ 1000000) : AC Tryz.prog 33 ⟨[I no, I value, St code, I n]⟩ (stars []) (Outs (fun _ : Nat => True) (fun b => .agg ⟨(saleX no value code n (bpt b) 2).c⟩) (fun b => [pt b (blk (lineX code n) 73)])) := by
 refine AC.go Tryz.func33 rfl (Nat.le_of_ble_eq_true rfl) fun β => ?_
 refine sr ?_
 refine RunL.op rfl rfl (OpJ.alloc Z42 fun b8 => ?_)
 refine kp [0, 1, 2, 3, 8] rfl ?_
 refine sr ?_
 refine sx 8 ?_
 refine RunL.set (congrArg I (show _ = -n by rw [wrap_i64_in (by omega)]; omega)) ?_
 refine sx 2 ?_
 refine RunL.set (congrArg I (show _ = -n by rw [wrap_i64_in (by omega)]; omega)) ?_
 refine sx 1 ?_
 refine RunL.op rfl rfl (OpJ.buildSliceN (cs := lineX code n) inferInstance Z73 rfl (by decide) (by decide) rfl (by rfl) (by rfl) fun b20 => ?_)
 refine sx 1 ?_
 refine RunL.op rfl rfl (OpJ.storeW T42 rfl rfl rfl rfl (by simp [Value.oneCell', Tg.c, Ln.c, En.c, Ac.c, Cl.c, Ky.c, Qy.c, Sb, Iv, Cs.c]) up ?_)
 refine kp [8] rfl ?_
 refine Run.ret ?_
 exact ret_out b20 (.cellA T42 rfl pk (by rfl) .nil) trivial rfl gv
theorem c_circular (b bm : Nat) (v w : Value) (m : List Ac) (code : ByteArray) (hl : m.length ≤ 400) : AC Tryz.prog 115 ⟨[.pointer (some ⟨b, 0, none⟩), St code]⟩ (stars [pt b (blk [.map (some bm), v, w] 110), amap bm acF acG m]) (Ret (Bo (circB m code)) [pt b (blk [.map (some bm), v, w] 110), amap bm acF acG m]) := by
 refine AC.go Tryz.func115 rfl (Nat.le_of_ble_eq_true rfl) fun β => ?_
 refine sr ?_
 refine asg rfl rfl ?_
 refine kp [0, 1] rfl ?_
 refine sr ?_
 refine sx 5 ?_
 refine RunL.op rfl rfl (OpJ.lookupA1 inferInstance inferInstance inferInstance rfl rfl pk ?_)
 refine sx 1 ?_
 refine RunL.set (v := St (parOf m code)) (congrArg St par_lk) ?_
 refine asg rfl rfl ?_
 refine kp [0, 1, 5] rfl ?_
 refine Run.seq ?_
 refine sr ?_
 refine sx 4 ?_
 refine RunL.op rfl rfl (OpJ.lenM mpAcc rfl pk ?_)
 refine mvo rfl rfl ?_
 refine kp [0, 1, 5, 17, 18] rfl ?_
 refine Run.block ?_
 refine Run.loop (fun mm E L => ∃ (i : Nat) (at_ : ByteArray), mm = m.length - i ∧ i ≤ m.length ∧ circN m code (m.length - i) at_ = circB m code ∧ E = [(0, .pointer (some ⟨b, 0, none⟩)), (1, St code), (5, St at_), (17, I m.length), (18, I i)] ∧ L = [pt b (blk [.map (some bm), v, w] 110), amap bm acF acG m]) ⟨_, 0, _, rfl, Nat.zero_le _, rfl, rfl, rfl⟩ ?_
 rintro _ _ _ ⟨i, at_, rfl, hi, hI0, rfl, rfl⟩
 refine sr ?_
 refine sx 1 ?_
 refine kp [0, 1, 5, 17, 18, 19] rfl ?_
 refine Run.seq ?_
 first | refine Run.if rfl (fun h1 => ?_) (fun h1 => ?_) | refine Run.cond rfl (fun h1 => ?_) (fun h1 => ?_)
 refine Run.skip ?_
 refine Run.seq ?_
 refine Run.block ?_
 refine Run.seq ?_
 refine sr ?_
 refine sx 3 ?_
 refine kp [0, 1, 5, 17, 18, 22] rfl ?_
 first | refine Run.if rfl (fun h2 => ?_) (fun h2 => ?_) | refine Run.cond rfl (fun h2 => ?_) (fun h2 => ?_)
 refine sr ?_
 refine asg rfl rfl ?_
 refine kp [4] rfl ?_
 refine Run.ret ?_
 exact ret_one (.tmp rfl .nil) (by obtain ⟨n, hn⟩ : ∃ n, m.length - i = n + 1 := ⟨m.length - i - 1, by omega⟩; rw [hn, circ_true (by simpa using h2)] at hI0; rw [← hI0]; rfl) gv
 refine Run.skip ?_
 refine Run.region ?_
 refine sx 5 ?_
 refine RunL.op rfl rfl (OpJ.lookupA1 inferInstance inferInstance inferInstance rfl rfl pk ?_)
 refine sx 1 ?_
 refine RunL.set (v := St (parOf m at_)) (congrArg St par_lk) ?_
 refine asg rfl rfl ?_
 refine kp [0, 1, 5, 17, 18] rfl ?_
 refine Run.region ?_
 refine sx 2 ?_
 obtain ⟨n, hn⟩ : ∃ n, m.length - i = n + 1 := ⟨m.length - i - 1, by omega⟩
 rw [hn, circ_step (by simpa using h2)] at hI0
 exact RunL.next (Keep.sub (kt (ks := [0, 1, 5, 17, 18]) rfl)) _ ⟨_, by omega, i + 1, _, rfl, by omega, (by rw [← hI0, show m.length - (i + 1) = n by omega]), rfl, rfl⟩ gv
 refine Run.exit ?_
 refine sr ?_
 refine asg rfl rfl ?_
 refine kp [4] rfl ?_
 refine Run.ret ?_
 exact ret_one (.tmp rfl .nil) (by rw [show m.length - i = 0 by omega] at hI0; rw [← hI0]; rfl) gv
theorem c_alone (b bm : Nat) (v w : Value) (m : List Ac) (a : Ac) (R : HP) (hR : RdS R a.na (a.need.flatMap Sb)) (hl : a.need.length ≤ 140737488355328) (hc : (a.cur.size : Int) ≤ 9223372036854775807) : AC Tryz.prog 66 ⟨[.pointer (some ⟨b, 0, none⟩), .agg ⟨a.c⟩]⟩ (stars [pt b (blk [.map (some bm), v, w] 110), amap bm acF acG m, R]) (Ret (I (aloneE m a)) [pt b (blk [.map (some bm), v, w] 110), amap bm acF acG m, R]) := by
 refine AC.go Tryz.func66 rfl (Nat.le_of_ble_eq_true rfl) fun β => ?_
 refine sr ?_
 refine RunL.op rfl rfl (OpJ.box rfl rfl fun b2 => ?_)
 refine RunL.op rfl rfl (OpJ.boxA rfl fun b3 => ?_)
 refine asg rfl rfl ?_
 refine kp [2, 3] rfl ?_
 refine sr ?_
 refine sx 2 ?_
 refine kp [3, 5] rfl ?_
 refine Run.seq ?_
 refine regionD HM ?_
 first | refine RunD.takeW 0 rfl rfl kr T57 rfl pk (by rfl) ?_ | refine RunD.takeP 0 rfl rfl kr T57 rfl pk (by simp) ?_ | refine RunD.takeE 0 rfl rfl kr T57 rfl pk (by assumption) (by exact fun _ => rfl) rfl (by decide) ?_
 refine tk 4 rfl rfl rfl (DetJ.fieldAddr F57_2 rfl) ?_
 first | refine RunD.takeF 5 rfl rfl kr T3 rfl pk (by rfl) ?_ | refine RunD.takeO 5 rfl rfl kr T3 rfl pk (by assumption) (by rfl) (by exact fun _ => rfl) ?_
 refine tk 6 rfl rfl rfl (DetJ.lss rfl rfl) ?_
 refine tk 13 rfl rfl rfl (DetJ.fieldAddr F57_4 rfl) ?_
 first | refine RunD.takeF 14 rfl rfl kr T9 rfl pk (by rfl) ?_ | refine RunD.takeO 14 rfl rfl kr T9 rfl pk (by assumption) (by rfl) (by exact fun _ => rfl) ?_
 refine tk 15 rfl rfl rfl (DetJ.neqS rfl rfl) ?_
 refine tk 23 rfl rfl rfl (DetJ.move rfl) ?_
 refine tk 24 rfl rfl rfl (DetJ.fieldAddr F57_0 rfl) ?_
 first | refine RunD.takeF 25 rfl rfl kr T9 rfl pk (by rfl) ?_ | refine RunD.takeO 25 rfl rfl kr T9 rfl pk (by assumption) (by rfl) (by exact fun _ => rfl) ?_
 refine tk 28 rfl rfl rfl (DetJ.fieldAddr F57_7 rfl) ?_
 first | refine RunD.takeF 29 rfl rfl kr T55 rfl pk (by rfl) ?_ | refine RunD.takeO 29 rfl rfl kr T55 rfl pk (by assumption) (by rfl) (by exact fun _ => rfl) ?_
 refine tk 30 rfl rfl rfl (DetJ.len S55 rfl) ?_
 refine tk 31 rfl rfl rfl (DetJ.gtr rfl rfl) ?_
 refine RunD.op 1 [true, true, true, true, true, true, true, true, true, true, true, true, true, false] rfl rfl rfl kr kr (OpJ.callRet C112 rfl rfl (c_names _ R (by assumption) (by omega)) tks ⟨po, ?_⟩)
 refine tk 2 rfl rfl rfl (DetJ.not rfl) ?_
 refine RunD.takeB 3 rfl rfl kr B186 rfl rfl fun cs hcs => ?_
 simp only [Tg.c, Ln.c, En.c, Ac.c, Cl.c, Ky.c, Qy.c, bldL, bldA, Value.cells, bs, Nat.reduceAdd, Nat.reduceLeDiff, Nat.reduceLT] at hcs; subst hcs
 refine tk 7 rfl rfl rfl (DetJ.move rfl) ?_
 by_cases hk1 : a.kind < 1
 refine RunD.set (congrArg Bo (decide_eq_true hk1)) ?_
 refine RunD.takeN 8 rfl rfl rfl rfl rfl kr ?_
 refine RunD.takeN 9 rfl rfl rfl rfl rfl kr ?_
 refine RunD.takeN 10 rfl rfl rfl rfl rfl kr ?_
 refine tk 11 rfl rfl rfl (DetJ.pickT rfl rfl) ?_
 refine RunD.set (v := Bo (decide (a.kind < 1 ∨ 5 < a.kind))) (by first | (simp [hk1]; done) | (congr 1; simp; omega)) ?_
 refine RunD.takeB 12 rfl rfl kr B186 rfl rfl fun cs hcs => ?_
 simp only [Tg.c, Ln.c, En.c, Ac.c, Cl.c, Ky.c, Qy.c, bldL, bldA, Value.cells, bs, Nat.reduceAdd, Nat.reduceLeDiff, Nat.reduceLT] at hcs; subst hcs
 refine tk 16 rfl rfl rfl (DetJ.move rfl) ?_
 by_cases hk2 : a.cur = bs0
 refine RunD.set (v := Bo false) (by rw [decide_eq_false (by simpa using hk2)]) ?_
 refine RunD.takeN 17 rfl rfl rfl rfl rfl kr ?_
 refine RunD.takeN 18 rfl rfl rfl rfl rfl kr ?_
 refine RunD.takeN 19 rfl rfl rfl rfl rfl kr ?_
 refine RunD.takeN 20 rfl rfl rfl rfl rfl kr ?_
 refine tk 21 rfl rfl rfl (DetJ.pickF rfl rfl) ?_
 refine RunD.set (v := Bo (decide (a.cur ≠ bs0) && !curB a.cur)) (by simp [hk2]) ?_
 refine RunD.takeB 22 rfl rfl kr B186 rfl rfl fun cs hcs => ?_
 simp only [Tg.c, Ln.c, En.c, Ac.c, Cl.c, Ky.c, Qy.c, bldL, bldA, Value.cells, bs, Nat.reduceAdd, Nat.reduceLeDiff, Nat.reduceLT] at hcs; subst hcs
 refine RunD.op 26 [true, true, true, false, false, false, false, true, true, true, true, true, false, true, true, true, true, true, true, false, false, false, false, true, true, true, true, true] rfl rfl rfl kr kr (OpJ.callRet C110 rfl rfl (c_has a.code b2 b bm v w m) tks ⟨po, ?_⟩)
 refine RunD.takeB 27 rfl rfl kr B186 rfl rfl fun cs hcs => ?_
 simp only [Tg.c, Ln.c, En.c, Ac.c, Cl.c, Ky.c, Qy.c, bldL, bldA, Value.cells, bs, Nat.reduceAdd, Nat.reduceLeDiff, Nat.reduceLT] at hcs; subst hcs
 refine tk 32 rfl rfl rfl (DetJ.move rfl) ?_
 by_cases hk3 : 6 < a.need.length
 refine RunD.set (congrArg Bo (decide_eq_true (by omega))) ?_
 refine RunD.takeN 33 rfl rfl rfl rfl rfl kr ?_
 refine RunD.takeN 34 rfl rfl rfl rfl rfl kr ?_
 refine RunD.takeN 35 rfl rfl rfl rfl rfl kr ?_
 refine RunD.takeN 36 rfl rfl rfl rfl rfl kr ?_
 refine tk 37 rfl rfl rfl (DetJ.pickT rfl rfl) ?_
 refine RunD.set (v := Bo (decide (6 < a.need.length) || !risB a.need)) (by simp [hk3]) ?_
 refine RunD.takeB 38 rfl rfl kr B186 rfl rfl fun cs hcs => ?_
 simp only [Tg.c, Ln.c, En.c, Ac.c, Cl.c, Ky.c, Qy.c, bldL, bldA, Value.cells, bs, Nat.reduceAdd, Nat.reduceLeDiff, Nat.reduceLT] at hcs; subst hcs
 refine RunD.op 39 [false, false, false, true, true, true, false, false, false, false, false, false, false, false, true, true, false, false, true, true, true, true, true, true, true, true, true] rfl rfl rfl kr kr (OpJ.buildSliceN (cs := (aloneR m a).flatMap Rl.c) inferInstance Z186 rfl (by decide) (by decide) rfl (by rfl) (by rfl) fun b46 => ⟨po, ?_⟩)
 refine RunD.op 40 [false, false, false, true, true, false, true, true, true, true, true, true, true, true] rfl rfl rfl kr kr (OpJ.callRet C111 rfl rfl (c_first (pt b46 (blk ((aloneR m a).flatMap Rl.c) 186)) b46 5 (aloneR m a) Rd.whole (by simp [aloneR])) tks ⟨po, ?_⟩)
 refine tk 41 rfl rfl rfl (DetJ.assign rfl) ?_
 refine kd [4] rfl ?_
 refine Run.ret ?_
 exact ret_one (.tmp rfl .nil) (rfl) gv
 refine RunD.set (congrArg Bo (decide_eq_false (by omega))) ?_
 refine RunD.takeG 33 rfl rfl rfl rfl rfl kr (DetJ.fieldAddr F57_7 rfl) .nil ?_
 first | refine RunD.takeGF 34 rfl rfl rfl rfl kr T55 rfl pk (by rfl) ?_ | refine RunD.takeGO 34 rfl rfl rfl rfl kr T55 rfl pk (by assumption) (by rfl) (by exact fun _ => rfl) ?_
 refine RunD.opG 35 [false, false, false, true, true, true, true, true, true, true, true, true, true, true, false, false, true, true, true, true, true, true, true] rfl rfl rfl rfl rfl kr kr (OpJ.callRet C114 rfl rfl (c_rising R _ _ _ (by assumption) (by omega)) tks ⟨po, ?_⟩)
 refine RunD.takeG 36 rfl rfl rfl rfl rfl kr (DetJ.not rfl) .nil ?_
 refine tk 37 rfl rfl rfl (DetJ.pickF rfl rfl) ?_
 refine RunD.set (v := Bo (decide (6 < a.need.length) || !risB a.need)) (by simp [hk3]) ?_
 refine RunD.takeB 38 rfl rfl kr B186 rfl rfl fun cs hcs => ?_
 simp only [Tg.c, Ln.c, En.c, Ac.c, Cl.c, Ky.c, Qy.c, bldL, bldA, Value.cells, bs, Nat.reduceAdd, Nat.reduceLeDiff, Nat.reduceLT] at hcs; subst hcs
 refine RunD.op 39 [false, false, false, false, false, false, false, false, false, false, true, true, false, false, true, true, true, true, true, true, true] rfl rfl rfl kr kr (OpJ.buildSliceN (cs := (aloneR m a).flatMap Rl.c) inferInstance Z186 rfl (by decide) (by decide) rfl (by rfl) (by rfl) fun b46 => ⟨po, ?_⟩)
 refine RunD.op 40 [true, true, true, true, true, true, true, true, true] rfl rfl rfl kr kr (OpJ.callRet C111 rfl rfl (c_first (pt b46 (blk ((aloneR m a).flatMap Rl.c) 186)) b46 5 (aloneR m a) Rd.whole (by simp [aloneR])) tks ⟨po, ?_⟩)
 refine tk 41 rfl rfl rfl (DetJ.assign rfl) ?_
 refine kd [4] rfl ?_
 refine Run.ret ?_
 exact ret_one (.tmp rfl .nil) (rfl) gv
 refine RunD.set (v := Bo true) (by rw [decide_eq_true (by simpa using hk2)]) ?_
 refine RunD.takeG 17 rfl rfl rfl rfl rfl kr (DetJ.fieldAddr F57_4 rfl) .nil ?_
 first | refine RunD.takeGF 18 rfl rfl rfl rfl kr T9 rfl pk (by rfl) ?_ | refine RunD.takeGO 18 rfl rfl rfl rfl kr T9 rfl pk (by assumption) (by rfl) (by exact fun _ => rfl) ?_
 refine RunD.opG 19 [false, false, false, true, true, true, true, true, false, true, true, true, true, true, true, true, true, true, false, false, true, false, true, true] rfl rfl rfl rfl rfl kr kr (OpJ.callRet C113 rfl rfl (c_Cur _ hc) .nil ⟨po, ?_⟩)
 refine RunD.takeG 20 rfl rfl rfl rfl rfl kr (DetJ.not rfl) .nil ?_
 refine tk 21 rfl rfl rfl (DetJ.pickT rfl rfl) ?_
 refine RunD.set (v := Bo (decide (a.cur ≠ bs0) && !curB a.cur)) (by simp [hk2]) ?_
 refine RunD.takeB 22 rfl rfl kr B186 rfl rfl fun cs hcs => ?_
 simp only [Tg.c, Ln.c, En.c, Ac.c, Cl.c, Ky.c, Qy.c, bldL, bldA, Value.cells, bs, Nat.reduceAdd, Nat.reduceLeDiff, Nat.reduceLT] at hcs; subst hcs
 refine RunD.op 26 [true, true, true, true, true, true, true, true, true, true, true, true, true, true, false, false, false, true, true, true] rfl rfl rfl kr kr (OpJ.callRet C110 rfl rfl (c_has a.code b2 b bm v w m) tks ⟨po, ?_⟩)
 refine RunD.takeB 27 rfl rfl kr B186 rfl rfl fun cs hcs => ?_
 simp only [Tg.c, Ln.c, En.c, Ac.c, Cl.c, Ky.c, Qy.c, bldL, bldA, Value.cells, bs, Nat.reduceAdd, Nat.reduceLeDiff, Nat.reduceLT] at hcs; subst hcs
 refine tk 32 rfl rfl rfl (DetJ.move rfl) ?_
 by_cases hk3 : 6 < a.need.length
 refine RunD.set (congrArg Bo (decide_eq_true (by omega))) ?_
 refine RunD.takeN 33 rfl rfl rfl rfl rfl kr ?_
 refine RunD.takeN 34 rfl rfl rfl rfl rfl kr ?_
 refine RunD.takeN 35 rfl rfl rfl rfl rfl kr ?_
 refine RunD.takeN 36 rfl rfl rfl rfl rfl kr ?_
 refine tk 37 rfl rfl rfl (DetJ.pickT rfl rfl) ?_
 refine RunD.set (v := Bo (decide (6 < a.need.length) || !risB a.need)) (by simp [hk3]) ?_
 refine RunD.takeB 38 rfl rfl kr B186 rfl rfl fun cs hcs => ?_
 simp only [Tg.c, Ln.c, En.c, Ac.c, Cl.c, Ky.c, Qy.c, bldL, bldA, Value.cells, bs, Nat.reduceAdd, Nat.reduceLeDiff, Nat.reduceLT] at hcs; subst hcs
 refine RunD.op 39 [false, false, false, true, true, true, false, false, false, false, false, false, false, false, true, true, false, false, true, true, true, true, true, true, true] rfl rfl rfl kr kr (OpJ.buildSliceN (cs := (aloneR m a).flatMap Rl.c) inferInstance Z186 rfl (by decide) (by decide) rfl (by rfl) (by rfl) fun b46 => ⟨po, ?_⟩)
 refine RunD.op 40 [false, false, false, true, true, false, true, true, true, true, true, true] rfl rfl rfl kr kr (OpJ.callRet C111 rfl rfl (c_first (pt b46 (blk ((aloneR m a).flatMap Rl.c) 186)) b46 5 (aloneR m a) Rd.whole (by simp [aloneR])) tks ⟨po, ?_⟩)
 refine tk 41 rfl rfl rfl (DetJ.assign rfl) ?_
 refine kd [4] rfl ?_
 refine Run.ret ?_
 exact ret_one (.tmp rfl .nil) (rfl) gv
 refine RunD.set (congrArg Bo (decide_eq_false (by omega))) ?_
 refine RunD.takeG 33 rfl rfl rfl rfl rfl kr (DetJ.fieldAddr F57_7 rfl) .nil ?_
 first | refine RunD.takeGF 34 rfl rfl rfl rfl kr T55 rfl pk (by rfl) ?_ | refine RunD.takeGO 34 rfl rfl rfl rfl kr T55 rfl pk (by assumption) (by rfl) (by exact fun _ => rfl) ?_
 refine RunD.opG 35 [false, false, false, true, true, true, true, true, true, true, true, true, true, true, false, false, true, true, true, true, true] rfl rfl rfl rfl rfl kr kr (OpJ.callRet C114 rfl rfl (c_rising R _ _ _ (by assumption) (by omega)) tks ⟨po, ?_⟩)
 refine RunD.takeG 36 rfl rfl rfl rfl rfl kr (DetJ.not rfl) .nil ?_
 refine tk 37 rfl rfl rfl (DetJ.pickF rfl rfl) ?_
 refine RunD.set (v := Bo (decide (6 < a.need.length) || !risB a.need)) (by simp [hk3]) ?_
 refine RunD.takeB 38 rfl rfl kr B186 rfl rfl fun cs hcs => ?_
 simp only [Tg.c, Ln.c, En.c, Ac.c, Cl.c, Ky.c, Qy.c, bldL, bldA, Value.cells, bs, Nat.reduceAdd, Nat.reduceLeDiff, Nat.reduceLT] at hcs; subst hcs
 refine RunD.op 39 [false, false, false, false, false, false, false, false, false, false, true, true, false, false, true, true, true, true, true] rfl rfl rfl kr kr (OpJ.buildSliceN (cs := (aloneR m a).flatMap Rl.c) inferInstance Z186 rfl (by decide) (by decide) rfl (by rfl) (by rfl) fun b46 => ⟨po, ?_⟩)
 refine RunD.op 40 [true, true, true, true, true, true, true] rfl rfl rfl kr kr (OpJ.callRet C111 rfl rfl (c_first (pt b46 (blk ((aloneR m a).flatMap Rl.c) 186)) b46 5 (aloneR m a) Rd.whole (by simp [aloneR])) tks ⟨po, ?_⟩)
 refine tk 41 rfl rfl rfl (DetJ.assign rfl) ?_
 refine kd [4] rfl ?_
 refine Run.ret ?_
 exact ret_one (.tmp rfl .nil) (rfl) gv
 refine RunD.set (congrArg Bo (decide_eq_false hk1)) ?_
 refine RunD.takeG 8 rfl rfl rfl rfl rfl kr (DetJ.fieldAddr F57_2 rfl) .nil ?_
 first | refine RunD.takeGF 9 rfl rfl rfl rfl kr T3 rfl pk (by rfl) ?_ | refine RunD.takeGO 9 rfl rfl rfl rfl kr T3 rfl pk (by assumption) (by rfl) (by exact fun _ => rfl) ?_
 refine RunD.takeG 10 rfl rfl rfl rfl rfl kr (DetJ.gtr rfl rfl) .nil ?_
 refine tk 11 rfl rfl rfl (DetJ.pickF rfl rfl) ?_
 refine RunD.set (v := Bo (decide (a.kind < 1 ∨ 5 < a.kind))) (by first | (simp [hk1]; done) | (congr 1; simp; omega)) ?_
 refine RunD.takeB 12 rfl rfl kr B186 rfl rfl fun cs hcs => ?_
 simp only [Tg.c, Ln.c, En.c, Ac.c, Cl.c, Ky.c, Qy.c, bldL, bldA, Value.cells, bs, Nat.reduceAdd, Nat.reduceLeDiff, Nat.reduceLT] at hcs; subst hcs
 refine tk 16 rfl rfl rfl (DetJ.move rfl) ?_
 by_cases hk2 : a.cur = bs0
 refine RunD.set (v := Bo false) (by rw [decide_eq_false (by simpa using hk2)]) ?_
 refine RunD.takeN 17 rfl rfl rfl rfl rfl kr ?_
 refine RunD.takeN 18 rfl rfl rfl rfl rfl kr ?_
 refine RunD.takeN 19 rfl rfl rfl rfl rfl kr ?_
 refine RunD.takeN 20 rfl rfl rfl rfl rfl kr ?_
 refine tk 21 rfl rfl rfl (DetJ.pickF rfl rfl) ?_
 refine RunD.set (v := Bo (decide (a.cur ≠ bs0) && !curB a.cur)) (by simp [hk2]) ?_
 refine RunD.takeB 22 rfl rfl kr B186 rfl rfl fun cs hcs => ?_
 simp only [Tg.c, Ln.c, En.c, Ac.c, Cl.c, Ky.c, Qy.c, bldL, bldA, Value.cells, bs, Nat.reduceAdd, Nat.reduceLeDiff, Nat.reduceLT] at hcs; subst hcs
 refine RunD.op 26 [true, true, true, false, false, false, false, true, true, true, true, true, false, true, true, true, true, true, true, false, false, false, false, true, true, true, true, true] rfl rfl rfl kr kr (OpJ.callRet C110 rfl rfl (c_has a.code b2 b bm v w m) tks ⟨po, ?_⟩)
 refine RunD.takeB 27 rfl rfl kr B186 rfl rfl fun cs hcs => ?_
 simp only [Tg.c, Ln.c, En.c, Ac.c, Cl.c, Ky.c, Qy.c, bldL, bldA, Value.cells, bs, Nat.reduceAdd, Nat.reduceLeDiff, Nat.reduceLT] at hcs; subst hcs
 refine tk 32 rfl rfl rfl (DetJ.move rfl) ?_
 by_cases hk3 : 6 < a.need.length
 refine RunD.set (congrArg Bo (decide_eq_true (by omega))) ?_
 refine RunD.takeN 33 rfl rfl rfl rfl rfl kr ?_
 refine RunD.takeN 34 rfl rfl rfl rfl rfl kr ?_
 refine RunD.takeN 35 rfl rfl rfl rfl rfl kr ?_
 refine RunD.takeN 36 rfl rfl rfl rfl rfl kr ?_
 refine tk 37 rfl rfl rfl (DetJ.pickT rfl rfl) ?_
 refine RunD.set (v := Bo (decide (6 < a.need.length) || !risB a.need)) (by simp [hk3]) ?_
 refine RunD.takeB 38 rfl rfl kr B186 rfl rfl fun cs hcs => ?_
 simp only [Tg.c, Ln.c, En.c, Ac.c, Cl.c, Ky.c, Qy.c, bldL, bldA, Value.cells, bs, Nat.reduceAdd, Nat.reduceLeDiff, Nat.reduceLT] at hcs; subst hcs
 refine RunD.op 39 [false, false, false, true, true, true, false, false, false, false, false, false, false, false, true, true, false, false, true, true, true, true, true, true, true, true, true] rfl rfl rfl kr kr (OpJ.buildSliceN (cs := (aloneR m a).flatMap Rl.c) inferInstance Z186 rfl (by decide) (by decide) rfl (by rfl) (by rfl) fun b46 => ⟨po, ?_⟩)
 refine RunD.op 40 [false, false, false, true, true, false, true, true, true, true, true, true, true, true] rfl rfl rfl kr kr (OpJ.callRet C111 rfl rfl (c_first (pt b46 (blk ((aloneR m a).flatMap Rl.c) 186)) b46 5 (aloneR m a) Rd.whole (by simp [aloneR])) tks ⟨po, ?_⟩)
 refine tk 41 rfl rfl rfl (DetJ.assign rfl) ?_
 refine kd [4] rfl ?_
 refine Run.ret ?_
 exact ret_one (.tmp rfl .nil) (rfl) gv
 refine RunD.set (congrArg Bo (decide_eq_false (by omega))) ?_
 refine RunD.takeG 33 rfl rfl rfl rfl rfl kr (DetJ.fieldAddr F57_7 rfl) .nil ?_
 first | refine RunD.takeGF 34 rfl rfl rfl rfl kr T55 rfl pk (by rfl) ?_ | refine RunD.takeGO 34 rfl rfl rfl rfl kr T55 rfl pk (by assumption) (by rfl) (by exact fun _ => rfl) ?_
 refine RunD.opG 35 [false, false, false, true, true, true, true, true, true, true, true, true, true, true, false, false, true, true, true, true, true, true, true] rfl rfl rfl rfl rfl kr kr (OpJ.callRet C114 rfl rfl (c_rising R _ _ _ (by assumption) (by omega)) tks ⟨po, ?_⟩)
 refine RunD.takeG 36 rfl rfl rfl rfl rfl kr (DetJ.not rfl) .nil ?_
 refine tk 37 rfl rfl rfl (DetJ.pickF rfl rfl) ?_
 refine RunD.set (v := Bo (decide (6 < a.need.length) || !risB a.need)) (by simp [hk3]) ?_
 refine RunD.takeB 38 rfl rfl kr B186 rfl rfl fun cs hcs => ?_
 simp only [Tg.c, Ln.c, En.c, Ac.c, Cl.c, Ky.c, Qy.c, bldL, bldA, Value.cells, bs, Nat.reduceAdd, Nat.reduceLeDiff, Nat.reduceLT] at hcs; subst hcs
 refine RunD.op 39 [false, false, false, false, false, false, false, false, false, false, true, true, false, false, true, true, true, true, true, true, true] rfl rfl rfl kr kr (OpJ.buildSliceN (cs := (aloneR m a).flatMap Rl.c) inferInstance Z186 rfl (by decide) (by decide) rfl (by rfl) (by rfl) fun b46 => ⟨po, ?_⟩)
 refine RunD.op 40 [true, true, true, true, true, true, true, true, true] rfl rfl rfl kr kr (OpJ.callRet C111 rfl rfl (c_first (pt b46 (blk ((aloneR m a).flatMap Rl.c) 186)) b46 5 (aloneR m a) Rd.whole (by simp [aloneR])) tks ⟨po, ?_⟩)
 refine tk 41 rfl rfl rfl (DetJ.assign rfl) ?_
 refine kd [4] rfl ?_
 refine Run.ret ?_
 exact ret_one (.tmp rfl .nil) (rfl) gv
 refine RunD.set (v := Bo true) (by rw [decide_eq_true (by simpa using hk2)]) ?_
 refine RunD.takeG 17 rfl rfl rfl rfl rfl kr (DetJ.fieldAddr F57_4 rfl) .nil ?_
 first | refine RunD.takeGF 18 rfl rfl rfl rfl kr T9 rfl pk (by rfl) ?_ | refine RunD.takeGO 18 rfl rfl rfl rfl kr T9 rfl pk (by assumption) (by rfl) (by exact fun _ => rfl) ?_
 refine RunD.opG 19 [false, false, false, true, true, true, true, true, false, true, true, true, true, true, true, true, true, true, false, false, true, false, true, true] rfl rfl rfl rfl rfl kr kr (OpJ.callRet C113 rfl rfl (c_Cur _ hc) .nil ⟨po, ?_⟩)
 refine RunD.takeG 20 rfl rfl rfl rfl rfl kr (DetJ.not rfl) .nil ?_
 refine tk 21 rfl rfl rfl (DetJ.pickT rfl rfl) ?_
 refine RunD.set (v := Bo (decide (a.cur ≠ bs0) && !curB a.cur)) (by simp [hk2]) ?_
 refine RunD.takeB 22 rfl rfl kr B186 rfl rfl fun cs hcs => ?_
 simp only [Tg.c, Ln.c, En.c, Ac.c, Cl.c, Ky.c, Qy.c, bldL, bldA, Value.cells, bs, Nat.reduceAdd, Nat.reduceLeDiff, Nat.reduceLT] at hcs; subst hcs
 refine RunD.op 26 [true, true, true, true, true, true, true, true, true, true, true, true, true, true, false, false, false, true, true, true] rfl rfl rfl kr kr (OpJ.callRet C110 rfl rfl (c_has a.code b2 b bm v w m) tks ⟨po, ?_⟩)
 refine RunD.takeB 27 rfl rfl kr B186 rfl rfl fun cs hcs => ?_
 simp only [Tg.c, Ln.c, En.c, Ac.c, Cl.c, Ky.c, Qy.c, bldL, bldA, Value.cells, bs, Nat.reduceAdd, Nat.reduceLeDiff, Nat.reduceLT] at hcs; subst hcs
 refine tk 32 rfl rfl rfl (DetJ.move rfl) ?_
 by_cases hk3 : 6 < a.need.length
 refine RunD.set (congrArg Bo (decide_eq_true (by omega))) ?_
 refine RunD.takeN 33 rfl rfl rfl rfl rfl kr ?_
 refine RunD.takeN 34 rfl rfl rfl rfl rfl kr ?_
 refine RunD.takeN 35 rfl rfl rfl rfl rfl kr ?_
 refine RunD.takeN 36 rfl rfl rfl rfl rfl kr ?_
 refine tk 37 rfl rfl rfl (DetJ.pickT rfl rfl) ?_
 refine RunD.set (v := Bo (decide (6 < a.need.length) || !risB a.need)) (by simp [hk3]) ?_
 refine RunD.takeB 38 rfl rfl kr B186 rfl rfl fun cs hcs => ?_
 simp only [Tg.c, Ln.c, En.c, Ac.c, Cl.c, Ky.c, Qy.c, bldL, bldA, Value.cells, bs, Nat.reduceAdd, Nat.reduceLeDiff, Nat.reduceLT] at hcs; subst hcs
 refine RunD.op 39 [false, false, false, true, true, true, false, false, false, false, false, false, false, false, true, true, false, false, true, true, true, true, true, true, true] rfl rfl rfl kr kr (OpJ.buildSliceN (cs := (aloneR m a).flatMap Rl.c) inferInstance Z186 rfl (by decide) (by decide) rfl (by rfl) (by rfl) fun b46 => ⟨po, ?_⟩)
 refine RunD.op 40 [false, false, false, true, true, false, true, true, true, true, true, true] rfl rfl rfl kr kr (OpJ.callRet C111 rfl rfl (c_first (pt b46 (blk ((aloneR m a).flatMap Rl.c) 186)) b46 5 (aloneR m a) Rd.whole (by simp [aloneR])) tks ⟨po, ?_⟩)
 refine tk 41 rfl rfl rfl (DetJ.assign rfl) ?_
 refine kd [4] rfl ?_
 refine Run.ret ?_
 exact ret_one (.tmp rfl .nil) (rfl) gv
 refine RunD.set (congrArg Bo (decide_eq_false (by omega))) ?_
 refine RunD.takeG 33 rfl rfl rfl rfl rfl kr (DetJ.fieldAddr F57_7 rfl) .nil ?_
 first | refine RunD.takeGF 34 rfl rfl rfl rfl kr T55 rfl pk (by rfl) ?_ | refine RunD.takeGO 34 rfl rfl rfl rfl kr T55 rfl pk (by assumption) (by rfl) (by exact fun _ => rfl) ?_
 refine RunD.opG 35 [false, false, false, true, true, true, true, true, true, true, true, true, true, true, false, false, true, true, true, true, true] rfl rfl rfl rfl rfl kr kr (OpJ.callRet C114 rfl rfl (c_rising R _ _ _ (by assumption) (by omega)) tks ⟨po, ?_⟩)
 refine RunD.takeG 36 rfl rfl rfl rfl rfl kr (DetJ.not rfl) .nil ?_
 refine tk 37 rfl rfl rfl (DetJ.pickF rfl rfl) ?_
 refine RunD.set (v := Bo (decide (6 < a.need.length) || !risB a.need)) (by simp [hk3]) ?_
 refine RunD.takeB 38 rfl rfl kr B186 rfl rfl fun cs hcs => ?_
 simp only [Tg.c, Ln.c, En.c, Ac.c, Cl.c, Ky.c, Qy.c, bldL, bldA, Value.cells, bs, Nat.reduceAdd, Nat.reduceLeDiff, Nat.reduceLT] at hcs; subst hcs
 refine RunD.op 39 [false, false, false, false, false, false, false, false, false, false, true, true, false, false, true, true, true, true, true] rfl rfl rfl kr kr (OpJ.buildSliceN (cs := (aloneR m a).flatMap Rl.c) inferInstance Z186 rfl (by decide) (by decide) rfl (by rfl) (by rfl) fun b46 => ⟨po, ?_⟩)
 refine RunD.op 40 [true, true, true, true, true, true, true] rfl rfl rfl kr kr (OpJ.callRet C111 rfl rfl (c_first (pt b46 (blk ((aloneR m a).flatMap Rl.c) 186)) b46 5 (aloneR m a) Rd.whole (by simp [aloneR])) tks ⟨po, ?_⟩)
 refine tk 41 rfl rfl rfl (DetJ.assign rfl) ?_
 refine kd [4] rfl ?_
 refine Run.ret ?_
 exact ret_one (.tmp rfl .nil) (rfl) gv
theorem c_below (b bm : Nat) (v w : Value) (m : List Ac) (a : Ac) (hl : m.length ≤ 400) : AC Tryz.prog 67 ⟨[.pointer (some ⟨b, 0, none⟩), .agg ⟨a.c⟩]⟩ (stars [pt b (blk [.map (some bm), v, w] 110), amap bm acF acG m]) (Ret (I (belowE m a)) [pt b (blk [.map (some bm), v, w] 110), amap bm acF acG m]) := by
 refine AC.go Tryz.func67 rfl (Nat.le_of_ble_eq_true rfl) fun β => ?_
 refine sr ?_
 refine RunL.op rfl rfl (OpJ.boxA rfl fun b3 => ?_)
 refine asg rfl rfl ?_
 refine kp [0, 3] rfl ?_
 refine Run.seq ?_
 refine sr ?_
 refine sx 3 ?_
 refine kp [0, 3, 9] rfl ?_
 first | refine Run.if rfl (fun h1 => ?_) (fun h1 => ?_) | refine Run.cond rfl (fun h1 => ?_) (fun h1 => ?_)
 refine sr ?_
 refine asg rfl rfl ?_
 refine kp [4] rfl ?_
 refine Run.ret ?_
 exact ret_one (.tmp rfl .nil) (by unfold belowE; rw [if_pos (by simpa using h1)]; rfl) gv
 refine Run.skip ?_
 refine Run.seq ?_
 refine regionD HM ?_
 refine tk 0 rfl rfl rfl (DetJ.move rfl) ?_
 refine tk 1 rfl rfl rfl (DetJ.nilCheck rfl) ?_
 refine tk 2 rfl rfl rfl (DetJ.fieldAddr F110_0 rfl) ?_
 first | refine RunD.takeF 3 rfl rfl kr T107 rfl pk (by rfl) ?_ | refine RunD.takeO 3 rfl rfl kr T107 rfl pk (by assumption) (by rfl) (by exact fun _ => rfl) ?_
 refine tk 4 rfl rfl rfl (DetJ.fieldAddr F57_1 rfl) ?_
 first | refine RunD.takeF 5 rfl rfl kr T9 rfl pk (by rfl) ?_ | refine RunD.takeO 5 rfl rfl kr T9 rfl pk (by assumption) (by rfl) (by exact fun _ => rfl) ?_
 refine RunD.two 6 10 [false, false, false, false, false, true] [true, true, true, true, true, true] rfl rfl rfl rfl rfl rfl kr kr kr (OpJ.lookupA2 inferInstance inferInstance inferInstance rfl rfl pk ⟨po, ?_⟩) (OpJ.alloc Z57 fun b5 => ⟨po, ?_⟩)
 refine tk 7 rfl rfl rfl (DetJ.move rfl) ?_
 refine tk 8 rfl rfl rfl (DetJ.extract rfl rfl) ?_
 refine tk 9 rfl rfl rfl (DetJ.extract rfl rfl) ?_
 refine RunD.op 10 [true, true, true, true] rfl rfl rfl kr kr (OpJ.alloc Z57 fun b5 => ⟨po, ?_⟩)
 refine RunD.op 11 [true, false, false, false] rfl rfl rfl kr kr (OpJ.storeW T57 rfl rfl rfl rfl (by simp [Value.oneCell', Tg.c, Ln.c, En.c, Ac.c, Cl.c, Ky.c, Qy.c, Sb, Iv]) up ⟨po, ?_⟩)
 refine tk 12 rfl rfl rfl (DetJ.assign rfl) ?_
 refine kd [0, 3, 5, 6] rfl ?_
 refine Run.seq ?_
 refine regionD HM ?_
 refine tk 0 rfl rfl rfl (DetJ.move rfl) ?_
 refine tk 1 rfl rfl rfl (DetJ.not rfl) ?_
 refine RunD.takeB 2 rfl rfl kr B186 rfl rfl fun cs hcs => ?_
 simp only [Tg.c, Ln.c, En.c, Ac.c, Cl.c, Ky.c, Qy.c, bldL, bldA, Value.cells, bs, Nat.reduceAdd, Nat.reduceLeDiff, Nat.reduceLT] at hcs; subst hcs
 refine tk 3 rfl rfl rfl (DetJ.fieldAddr F57_2 rfl) ?_
 first | refine RunD.takeF 4 rfl rfl kr T3 rfl pk (by rfl) ?_ | refine RunD.takeO 4 rfl rfl kr T3 rfl pk (by assumption) (by rfl) (by exact fun _ => rfl) ?_
 refine tk 5 rfl rfl rfl (DetJ.fieldAddr F57_2 rfl) ?_
 first | refine RunD.takeF 6 rfl rfl kr T3 rfl pk (by rfl) ?_ | refine RunD.takeO 6 rfl rfl kr T3 rfl pk (by assumption) (by rfl) (by exact fun _ => rfl) ?_
 refine tk 7 rfl rfl rfl (DetJ.neq rfl rfl) ?_
 refine RunD.takeB 8 rfl rfl kr B186 rfl rfl fun cs hcs => ?_
 simp only [Tg.c, Ln.c, En.c, Ac.c, Cl.c, Ky.c, Qy.c, bldL, bldA, Value.cells, bs, Nat.reduceAdd, Nat.reduceLeDiff, Nat.reduceLT] at hcs; subst hcs
 refine tk 9 rfl rfl rfl (DetJ.fieldAddr F57_3 rfl) ?_
 first | refine RunD.takeF 10 rfl rfl kr T4 rfl pk (by rfl) ?_ | refine RunD.takeO 10 rfl rfl kr T4 rfl pk (by assumption) (by rfl) (by exact fun _ => rfl) ?_
 refine RunD.takeB 11 rfl rfl kr B186 rfl rfl fun cs hcs => ?_
 simp only [Tg.c, Ln.c, En.c, Ac.c, Cl.c, Ky.c, Qy.c, bldL, bldA, Value.cells, bs, Nat.reduceAdd, Nat.reduceLeDiff, Nat.reduceLT] at hcs; subst hcs
 refine tk 12 rfl rfl rfl (DetJ.move rfl) ?_
 refine tk 13 rfl rfl rfl (DetJ.fieldAddr F57_0 rfl) ?_
 first | refine RunD.takeF 14 rfl rfl kr T9 rfl pk (by rfl) ?_ | refine RunD.takeO 14 rfl rfl kr T9 rfl pk (by assumption) (by rfl) (by exact fun _ => rfl) ?_
 refine RunD.op 15 [false, false, false, true, true, true, true, true, true, true, true, true, true, true, true] rfl rfl rfl kr kr (OpJ.callRet C115 rfl rfl (c_circular b bm v w m _ (by omega)) tks ⟨po, ?_⟩)
 refine RunD.takeB 16 rfl rfl kr B186 rfl rfl fun cs hcs => ?_
 simp only [Tg.c, Ln.c, En.c, Ac.c, Cl.c, Ky.c, Qy.c, bldL, bldA, Value.cells, bs, Nat.reduceAdd, Nat.reduceLeDiff, Nat.reduceLT] at hcs; subst hcs
 refine RunD.op 17 [false, false, false, false, false, false, false, true, false, true, false, false, false] rfl rfl rfl kr kr (OpJ.buildSliceN (cs := (belowR m a).flatMap Rl.c) inferInstance Z186 rfl (by decide) (by decide) rfl (by rfl) (by rfl) fun b37 => ⟨po, ?_⟩)
 refine RunD.op 18 [true, true] rfl rfl rfl kr kr (OpJ.callRet C111 rfl rfl (c_first (pt b37 (blk ((belowR m a).flatMap Rl.c) 186)) b37 4 (belowR m a) Rd.whole (by simp [belowR])) tks ⟨po, ?_⟩)
 refine tk 19 rfl rfl rfl (DetJ.assign rfl) ?_
 refine kd [4] rfl ?_
 refine Run.ret ?_
 exact ret_one (.tmp rfl .nil) (by unfold belowE; rw [if_neg (by simpa using h1)]; rfl) gv
 refine RunD.op 6 [false, false, false, false, false, true] rfl rfl rfl kr kr (OpJ.lookupA2 inferInstance inferInstance inferInstance rfl rfl pk ⟨po, ?_⟩)
 refine tk 7 rfl rfl rfl (DetJ.move rfl) ?_
 refine tk 8 rfl rfl rfl (DetJ.extract rfl rfl) ?_
 refine tk 9 rfl rfl rfl (DetJ.extract rfl rfl) ?_
 refine RunD.op 11 [true, false, false, false] rfl rfl rfl kr kr (OpJ.storeW T57 rfl rfl rfl rfl (by simp [Value.oneCell', Tg.c, Ln.c, En.c, Ac.c, Cl.c, Ky.c, Qy.c, Sb, Iv]) up ⟨po, ?_⟩)
 refine tk 12 rfl rfl rfl (DetJ.assign rfl) ?_
 refine kd [0, 3, 5, 6] rfl ?_
 refine Run.seq ?_
 refine regionD HM ?_
 refine tk 0 rfl rfl rfl (DetJ.move rfl) ?_
 refine tk 1 rfl rfl rfl (DetJ.not rfl) ?_
 refine RunD.takeB 2 rfl rfl kr B186 rfl rfl fun cs hcs => ?_
 simp only [Tg.c, Ln.c, En.c, Ac.c, Cl.c, Ky.c, Qy.c, bldL, bldA, Value.cells, bs, Nat.reduceAdd, Nat.reduceLeDiff, Nat.reduceLT] at hcs; subst hcs
 refine tk 3 rfl rfl rfl (DetJ.fieldAddr F57_2 rfl) ?_
 first | refine RunD.takeF 4 rfl rfl kr T3 rfl pk (by rfl) ?_ | refine RunD.takeO 4 rfl rfl kr T3 rfl pk (by assumption) (by rfl) (by exact fun _ => rfl) ?_
 refine tk 5 rfl rfl rfl (DetJ.fieldAddr F57_2 rfl) ?_
 first | refine RunD.takeF 6 rfl rfl kr T3 rfl pk (by rfl) ?_ | refine RunD.takeO 6 rfl rfl kr T3 rfl pk (by assumption) (by rfl) (by exact fun _ => rfl) ?_
 refine tk 7 rfl rfl rfl (DetJ.neq rfl rfl) ?_
 refine RunD.takeB 8 rfl rfl kr B186 rfl rfl fun cs hcs => ?_
 simp only [Tg.c, Ln.c, En.c, Ac.c, Cl.c, Ky.c, Qy.c, bldL, bldA, Value.cells, bs, Nat.reduceAdd, Nat.reduceLeDiff, Nat.reduceLT] at hcs; subst hcs
 refine tk 9 rfl rfl rfl (DetJ.fieldAddr F57_3 rfl) ?_
 first | refine RunD.takeF 10 rfl rfl kr T4 rfl pk (by rfl) ?_ | refine RunD.takeO 10 rfl rfl kr T4 rfl pk (by assumption) (by rfl) (by exact fun _ => rfl) ?_
 refine RunD.takeB 11 rfl rfl kr B186 rfl rfl fun cs hcs => ?_
 simp only [Tg.c, Ln.c, En.c, Ac.c, Cl.c, Ky.c, Qy.c, bldL, bldA, Value.cells, bs, Nat.reduceAdd, Nat.reduceLeDiff, Nat.reduceLT] at hcs; subst hcs
 refine tk 12 rfl rfl rfl (DetJ.move rfl) ?_
 refine tk 13 rfl rfl rfl (DetJ.fieldAddr F57_0 rfl) ?_
 first | refine RunD.takeF 14 rfl rfl kr T9 rfl pk (by rfl) ?_ | refine RunD.takeO 14 rfl rfl kr T9 rfl pk (by assumption) (by rfl) (by exact fun _ => rfl) ?_
 refine RunD.op 15 [false, false, false, true, true, true, true, true, true, true, true, true, true, true, true] rfl rfl rfl kr kr (OpJ.callRet C115 rfl rfl (c_circular b bm v w m _ (by omega)) tks ⟨po, ?_⟩)
 refine RunD.takeB 16 rfl rfl kr B186 rfl rfl fun cs hcs => ?_
 simp only [Tg.c, Ln.c, En.c, Ac.c, Cl.c, Ky.c, Qy.c, bldL, bldA, Value.cells, bs, Nat.reduceAdd, Nat.reduceLeDiff, Nat.reduceLT] at hcs; subst hcs
 refine RunD.op 17 [false, false, false, false, false, false, false, true, false, true, false, false, false] rfl rfl rfl kr kr (OpJ.buildSliceN (cs := (belowR m a).flatMap Rl.c) inferInstance Z186 rfl (by decide) (by decide) rfl (by rfl) (by rfl) fun b37 => ⟨po, ?_⟩)
 refine RunD.op 18 [true, true] rfl rfl rfl kr kr (OpJ.callRet C111 rfl rfl (c_first (pt b37 (blk ((belowR m a).flatMap Rl.c) 186)) b37 4 (belowR m a) Rd.whole (by simp [belowR])) tks ⟨po, ?_⟩)
 refine tk 19 rfl rfl rfl (DetJ.assign rfl) ?_
 refine kd [4] rfl ?_
 refine Run.ret ?_
 exact ret_one (.tmp rfl .nil) (by unfold belowE; rw [if_neg (by simpa using h1)]; rfl) gv
end
def lSortRen : Go.Shelf.Ren := { f := fun x => match x with | 190 => 116 | 125 => 153 | 258 => 152 | 128 => 181 | 129 => 182 | 302 => 172 | 303 => 173 | 304 => 174 | 305 => 175 | 306 => 176 | 307 => 177 | 308 => 178 | 309 => 179 | 310 => 180 | 333 => 188 | 329 => 189 | 330 => 190 | 334 => 191 | 335 => 192 | 336 => 193 | 344 => 199 | n => n, t := fun x => match x with | 31 => 55 | 9 => 9 | 3 => 3 | 46 => 210 | 0 => 0 | 51 => 234 | 53 => 207 | 4 => 4 | 183 => 227 | 182 => 226 | 131 => 100 | 5 => 5 | 218 => 238 | 222 => 242 | 228 => 245 | 229 => 75 | n => n, g := fun x => x }
open Go.Shelf Go.Lib in
theorem lSort : Go.Proofs.Lays.n190 Tryz.prog lSortRen :=
  { mixed := by kernel_rfl, f125 := Eq.trans Tryz.func153 (congrArg some (by kernel_rfl)), f128 := Eq.trans Tryz.func181 (congrArg some (by kernel_rfl)), f129 := Eq.trans Tryz.func182 (congrArg some (by kernel_rfl)), f190 := Eq.trans Tryz.func116 (congrArg some (by kernel_rfl)), f258 := Eq.trans Tryz.func152 (congrArg some (by kernel_rfl)), f302 := Eq.trans Tryz.func172 (congrArg some (by kernel_rfl)), f303 := Eq.trans Tryz.func173 (congrArg some (by kernel_rfl)), f304 := Eq.trans Tryz.func174 (congrArg some (by kernel_rfl)), f305 := Eq.trans Tryz.func175 (congrArg some (by kernel_rfl)), f306 := Eq.trans Tryz.func176 (congrArg some (by kernel_rfl)), f307 := Eq.trans Tryz.func177 (congrArg some (by kernel_rfl)), f308 := Eq.trans Tryz.func178 (congrArg some (by kernel_rfl)), f309 := Eq.trans Tryz.func179 (congrArg some (by kernel_rfl)), f310 := Eq.trans Tryz.func180 (congrArg some (by kernel_rfl)), f329 := Eq.trans Tryz.func189 (congrArg some (by kernel_rfl)), f330 := Eq.trans Tryz.func190 (congrArg some (by kernel_rfl)), f333 := Eq.trans Tryz.func188 (congrArg some (by kernel_rfl)), f334 := Eq.trans Tryz.func191 (congrArg some (by kernel_rfl)), f335 := Eq.trans Tryz.func192 (congrArg some (by kernel_rfl)), f336 := Eq.trans Tryz.func193 (congrArg some (by kernel_rfl)), f344 := Eq.trans Tryz.func199 (congrArg some (by kernel_rfl)), t0 := Tryz.underlying0, a0 := Tryz.isAgg0, z0 := Tryz.sizeOf0, v0 := Tryz.zeroValue0, t3 := Tryz.underlying3, a3 := Tryz.isAgg3, z3 := Tryz.sizeOf3, v3 := Tryz.zeroValue3, t4 := Tryz.underlying4, a4 := Tryz.isAgg4, z4 := Tryz.sizeOf4, v4 := Tryz.zeroValue4, t5 := Tryz.underlying5, a5 := Tryz.isAgg5, z5 := Tryz.sizeOf5, v5 := Tryz.zeroValue5, t9 := Tryz.underlying9, a9 := Tryz.isAgg9, z9 := Tryz.sizeOf9, v9 := Tryz.zeroValue9, t31 := Tryz.underlying55, a31 := Tryz.isAgg55, z31 := Tryz.sizeOf55, v31 := Tryz.zeroValue55, t46 := Tryz.underlying210, a46 := Tryz.isAgg210, z46 := Tryz.sizeOf210, v46 := Tryz.zeroValue210, t51 := Tryz.underlying234, a51 := Tryz.isAgg234, z51 := Tryz.sizeOf234, v51 := Tryz.zeroValue234, t53 := Tryz.underlying207, a53 := Tryz.isAgg207, z53 := Tryz.sizeOf207, v53 := Tryz.zeroValue207, t131 := Tryz.underlying100, a131 := Tryz.isAgg100, z131 := Tryz.sizeOf100, v131 := Tryz.zeroValue100, t182 := Tryz.underlying226, a182 := Tryz.isAgg226, z182 := Tryz.sizeOf226, v182 := Tryz.zeroValue226, t183 := Tryz.underlying227, a183 := Tryz.isAgg227, z183 := Tryz.sizeOf227, v183 := Tryz.zeroValue227, t218 := Tryz.underlying238, a218 := Tryz.isAgg238, z218 := Tryz.sizeOf238, v218 := Tryz.zeroValue238, t222 := Tryz.underlying242, a222 := Tryz.isAgg242, z222 := Tryz.sizeOf242, v222 := Tryz.zeroValue242, t228 := Tryz.underlying245, a228 := Tryz.isAgg245, z228 := Tryz.sizeOf245, v228 := Tryz.zeroValue245, t229 := Tryz.underlying75, a229 := Tryz.isAgg75, z229 := Tryz.sizeOf75, v229 := Tryz.zeroValue75 }
section
attribute [local irreducible] OpJ RunL Run RunD DetJ pt own star Rd RdS
end
theorem c_sortStr (oa : Option Addr) (cap : Nat) (ss : List ByteArray) (hlen : ss.length ≤ 1000000) : AC Tryz.prog 116 ⟨[.slice oa ss.length cap]⟩ (stars [own 9 1 oa ss.length cap (ss.flatMap Sb)]) (Ret (.tuple ⟨[]⟩) [own 9 1 oa ss.length cap ((srtS ss).flatMap Sb)]) := ac_sortS lSort 9 oa cap ss hlen
instance mpKid : MPI Tryz.prog 108 9 55 := ⟨by kernel_rfl⟩
instance zvKid : ZVI Tryz.prog 55 (.slice none 0 0) := ⟨by kernel_rfl⟩
section
attribute [local irreducible] OpJ RunL Run RunD DetJ pt own star Rd RdS
theorem c_sort (b bm bk : Nat) (m : List Ac) (hl : m.length ≤ 400) : AC Tryz.prog 68 ⟨[.pointer (some ⟨b, 0, none⟩)]⟩ (stars [pt b (blk [.map (some bm), .map (some bk), .slice none 0 0] 110), amap bm acF acG m, amap bk kdF kdG []]) (Outs (fun _ : Value => True) (fun _ => .tuple ⟨[]⟩) (fun w => [pt b (blk [.map (some bm), .map (some bk), w] 110), amap bm acF acG m])) := by
 have hlf : ([] : List ByteArray).length + leftC m.length #[] ≤ 400 := Nat.le_trans (by rw [List.length_nil, Nat.zero_add]; exact leftC_le) hl
 refine AC.go Tryz.func68 rfl (Nat.le_of_ble_eq_true rfl) fun β => ?_
 refine Run.seq ?_
 refine sr ?_
 refine sx 4 ?_
 refine RunL.ownNil 9 1 ?_
 refine RunL.op rfl rfl (OpJ.range mpAcc rfl pk fun r10 => ?_)
 refine kp [0, 10] rfl ?_
 refine Run.block ?_
 refine Run.weak (L' := [pt r10 (iter bm m.length #[]), amap bm acF acG m, pt b (blk [.map (some bm), .map (some bk), .slice none ([] : List ByteArray).length 0] 110), own 9 1 none ([] : List ByteArray).length 0 (([] : List ByteArray).flatMap Sb), amap bk kdF kdG []]) (fun _ _ h => h) gv ?_
 refine Run.loop (fun mm E L => ∃ (seen : Array Nat) (cs : List ByteArray) (ca : Option Addr) (cc : Nat), mm = leftC m.length seen ∧ cs.length + leftC m.length seen ≤ 400 ∧ E = [(0, .pointer (some ⟨b, 0, none⟩)), (10, .pointer (some ⟨r10, 0, none⟩))] ∧ L = [pt r10 (iter bm m.length seen), amap bm acF acG m, pt b (blk [.map (some bm), .map (some bk), .slice ca cs.length cc] 110), own 9 1 ca cs.length cc (cs.flatMap Sb), amap bk kdF kdG []]) ⟨_, #[], [], none, 0, rfl, hlf, rfl, rfl⟩ ?_
 rintro _ _ _ ⟨seen, cs, ca, cc, rfl, hsc, rfl, rfl⟩
 refine sr ?_
 refine RunL.op rfl rfl (OpJ.next rfl pk (fun s => up) (fun hall => ?_) (fun iN y hy hns => ?_))
 skip
 refine sx 1 ?_
 refine kp [0, 10, 12] rfl ?_
 refine Run.seq ?_
 refine Run.false rfl ?_
 refine Run.exit ?_
 refine sr ?_
 refine sx 4 ?_
 refine RunL.call C116 rfl rfl rfl (c_sortStr ca cc cs (by omega)) tks ?_
 refine kp [0] rfl ?_
 refine sr ?_
 obtain ⟨ss, hss⟩ : ∃ ss, ss = srtS cs := ⟨_, rfl⟩
 have hsl : (srtS cs).length = cs.length := srtS_len cs
 refine RunL.bigNil (kdH 9) ?_
 refine sx 6 ?_
 refine kp [0, 33, 34, 35] rfl ?_
 refine Run.block ?_
 refine Run.weak (L' := [pt b (blk [.map (some bm), .map (some bk), .slice ca cs.length cc] 110), amap bm acF acG m, own 9 1 ca cs.length cc ((srtS cs).flatMap Sb), amap bk kdF kdG [], big (kdH 9) []]) (fun _ _ h => h) gv ?_
 refine Run.loop (fun mm E L => ∃ (i : Nat) (ks : List Kd), mm = cs.length - i ∧ i ≤ cs.length ∧ (∀ x ∈ ks, x.l.length ≤ i) ∧ E = [(0, .pointer (some ⟨b, 0, none⟩)), (33, .slice ca cs.length cc), (34, I cs.length), (35, I i)] ∧ L = [pt b (blk [.map (some bm), .map (some bk), .slice ca cs.length cc] 110), amap bm acF acG m, own 9 1 ca cs.length cc ((srtS cs).flatMap Sb), amap bk kdF kdG ks, big (kdH 9) ks]) ⟨_, 0, [], rfl, Nat.zero_le _, (fun x hx => by cases hx), rfl, rfl⟩ ?_
 rintro _ _ _ ⟨i, ks, rfl, hi, hkl, rfl, rfl⟩
 refine sr ?_
 refine sx 1 ?_
 refine kp [0, 33, 34, 35, 36] rfl ?_
 refine Run.seq ?_
 first | refine Run.if rfl (fun h1 => ?_) (fun h1 => ?_) | refine Run.cond rfl (fun h1 => ?_) (fun h1 => ?_)
 refine Run.skip ?_
 refine Run.seq ?_
 refine Run.block ?_
 refine sr ?_
 obtain ⟨x, hx⟩ := get_ex (xs := srtS cs) (i := i) (by omega)
 refine RunL.ownAddr pk (flat_ne (k := 1) (fun _ => rfl) (by decide) hx) fun b9 e hcap => ?_
 subst e
 refine sx 1 ?_
 refine RunL.op rfl rfl (OpJ.load1 inferInstance rfl pk (own.el (enc := Sb) hx (by decide) (fun _ => rfl)) ?_)
 refine asg rfl rfl ?_
 refine kp [0, 4, 33, 34, 35] rfl ?_
 refine sr ?_
 refine sx 5 ?_
 refine RunL.op rfl rfl (OpJ.lookupA1 inferInstance inferInstance inferInstance rfl rfl pk ?_)
 refine sx 1 ?_
 refine RunL.set (v := St (parOf m x)) (congrArg St par_lk) ?_
 refine RunL.kOut (parOf m x) pk ?_
 have hkd := kd_le (p := parOf m x) hkl
 refine asg rfl rfl ?_
 refine kp [0, 4, 5, 33, 34, 35] rfl ?_
 refine regionD HM ?_
 refine tk 0 rfl rfl rfl (DetJ.move rfl) ?_
 refine tk 1 rfl rfl rfl (DetJ.nilCheck rfl) ?_
 refine tk 2 rfl rfl rfl (DetJ.fieldAddr F110_1 rfl) ?_
 first | refine RunD.takeF 3 rfl rfl kr T108 rfl pk (by rfl) ?_ | refine RunD.takeO 3 rfl rfl kr T108 rfl pk (by assumption) (by rfl) (by exact fun _ => rfl) ?_
 refine tk 4 rfl rfl rfl (DetJ.move rfl) ?_
 refine tk 5 rfl rfl rfl (DetJ.move rfl) ?_
 refine tk 6 rfl rfl rfl (DetJ.nilCheck rfl) ?_
 refine tk 7 rfl rfl rfl (DetJ.fieldAddr F110_1 rfl) ?_
 first | refine RunD.takeF 8 rfl rfl kr T108 rfl pk (by rfl) ?_ | refine RunD.takeO 8 rfl rfl kr T108 rfl pk (by assumption) (by rfl) (by exact fun _ => rfl) ?_
 refine tk 9 rfl rfl rfl (DetJ.move rfl) ?_
 refine tk 11 rfl rfl rfl (DetJ.move rfl) ?_
 refine RunD.two 10 12 [true, false, false, false, false, true, true, true, true, true, true] [false, true, true, true, true, true, true, true, true, true, true] rfl rfl rfl rfl rfl rfl kr kr kr (OpJ.lookupK inferInstance inferInstance inferInstance rfl rfl pk ⟨po, ?_⟩) (OpJ.buildSlice1 S55 rfl rfl rfl (by decide) (by decide) Z9 rfl fun b58 => ⟨po, ?_⟩)
 refine RunD.op 12 [false, true, true, true, true, true, true] rfl rfl rfl kr kr (OpJ.buildSlice1 S55 rfl rfl rfl (by decide) (by decide) Z9 rfl fun b58 => ⟨po, ?_⟩)
 refine RunD.op 13 [true, true, true, true, true, true] rfl rfl rfl kr kr (OpJ.append1 x S55 M9 rfl rfl pk pk rfl rfl (by simp [Value.oneCell', Tg.c, Ln.c, En.c, Ac.c, Cl.c, Ky.c, Qy.c, Sb, Iv]) rfl (by omega) (by omega) fun a59 c59 => ⟨po, ?_⟩)
 refine RunD.op 14 [false, false, false, false, false, false] rfl rfl rfl kr kr (OpJ.mapUpdate (⟨parOf m x, a59, c59, (kdAt ks (parOf m x)).l ++ [x]⟩ : Kd) keyStr inferInstance inferInstance rfl rfl rfl up ⟨po, ?_⟩)
 refine kd [0, 33, 34, 35] rfl ?_
 refine Run.region ?_
 refine RunL.kIn 9 ks ⟨parOf m x, a59, c59, (kdAt ks (parOf m x)).l ++ [x]⟩ pk pk ?_
 refine sx 2 ?_
 refine RunL.weak (L' := [pt b (blk [.map (some bm), .map (some bk), .slice (some ⟨b9, 0, none⟩) cs.length cc] 110), amap bm acF acG m, own 9 1 (some ⟨b9, 0, none⟩) cs.length cc ((srtS cs).flatMap Sb), amap bk kdF kdG (kSet Kd.code ⟨parOf m x, a59, c59, (kdAt ks (parOf m x)).l ++ [x]⟩ ks), big (kdH 9) (kSet Kd.code ⟨parOf m x, a59, c59, (kdAt ks (parOf m x)).l ++ [x]⟩ ks)]) (Keep.sub (kt (ks := [0, 33, 34, 35]) rfl)) gv (RunL.nil ?_)
 exact ⟨_, by omega, i + 1, _, rfl, by omega, kd_set (fun z hz => by have := hkl z hz; omega) (by rw [List.length_append, List.length_singleton]; omega), rfl, rfl⟩
 refine RunD.op 10 [false, false, false, false, true, true, true, true, true, true] rfl rfl rfl kr kr (OpJ.lookupK inferInstance inferInstance inferInstance rfl rfl pk ⟨po, ?_⟩)
 refine RunD.op 13 [true, true, true, true, true, true] rfl rfl rfl kr kr (OpJ.append1 x S55 M9 rfl rfl pk pk rfl rfl (by simp [Value.oneCell', Tg.c, Ln.c, En.c, Ac.c, Cl.c, Ky.c, Qy.c, Sb, Iv]) rfl (by omega) (by omega) fun a59 c59 => ⟨po, ?_⟩)
 refine RunD.op 14 [false, false, false, false, false, false] rfl rfl rfl kr kr (OpJ.mapUpdate (⟨parOf m x, a59, c59, (kdAt ks (parOf m x)).l ++ [x]⟩ : Kd) keyStr inferInstance inferInstance rfl rfl rfl up ⟨po, ?_⟩)
 refine kd [0, 33, 34, 35] rfl ?_
 refine Run.region ?_
 refine RunL.kIn 9 ks ⟨parOf m x, a59, c59, (kdAt ks (parOf m x)).l ++ [x]⟩ pk pk ?_
 refine sx 2 ?_
 refine RunL.weak (L' := [pt b (blk [.map (some bm), .map (some bk), .slice (some ⟨b9, 0, none⟩) cs.length cc] 110), amap bm acF acG m, own 9 1 (some ⟨b9, 0, none⟩) cs.length cc ((srtS cs).flatMap Sb), amap bk kdF kdG (kSet Kd.code ⟨parOf m x, a59, c59, (kdAt ks (parOf m x)).l ++ [x]⟩ ks), big (kdH 9) (kSet Kd.code ⟨parOf m x, a59, c59, (kdAt ks (parOf m x)).l ++ [x]⟩ ks)]) (Keep.sub (kt (ks := [0, 33, 34, 35]) rfl)) gv (RunL.nil ?_)
 exact ⟨_, by omega, i + 1, _, rfl, by omega, kd_set (fun z hz => by have := hkl z hz; omega) (by rw [List.length_append, List.length_singleton]; omega), rfl, rfl⟩
 refine Run.exit ?_
 exact ret_out (.slice ca cs.length cc) .nil trivial rfl gv
 refine sx 1 ?_
 refine kp [0, 10, 12] rfl ?_
 refine Run.seq ?_
 refine Run.true rfl ?_
 refine Run.skip ?_
 refine Run.block ?_
 refine sr ?_
 refine RunL.op rfl rfl (OpJ.entry rfl pk pk hy ?_)
 refine sx 2 ?_
 refine kp [0, 2, 10] rfl ?_
 refine Run.region ?_
 refine sx 6 ?_
 refine RunL.op rfl rfl (OpJ.buildSlice1 S55 rfl rfl rfl (by decide) (by decide) Z9 rfl fun b21 => ?_)
 refine RunL.op rfl rfl (OpJ.append1 y.code S55 M9 rfl rfl pk pk rfl rfl (by simp [Value.oneCell', Tg.c, Ln.c, En.c, Ac.c, Cl.c, Ky.c, Qy.c, Sb, Iv]) rfl (by omega) (by omega) fun a22 c22 => ?_)
 refine sx 3 ?_
 have hlp := leftC_push (List.getElem?_eq_some_iff.1 hy).1 hns
 refine RunL.weak (L' := [pt r10 (iter bm m.length (seen.push iN)), amap bm acF acG m, pt b (blk [.map (some bm), .map (some bk), .slice a22 (cs ++ [y.code]).length c22] 110), own 9 1 a22 (cs ++ [y.code]).length c22 ((cs ++ [y.code]).flatMap Sb), amap bk kdF kdG []]) (Keep.sub (kt (ks := [0, 10]) rfl)) gv (RunL.nil ?_)
 exact ⟨_, hlp, seen.push iN, cs ++ [y.code], a22, c22, rfl, (by rw [List.length_append, List.length_singleton]; omega), rfl, rfl⟩
theorem c_New (R : HP) (oa : Option Addr) (cap : Nat) (xs : List Ac) (hR : RdS R oa (xs.flatMap Ac.c)) (hrd : ∀ a ∈ xs, a.rd R) (hl : xs.length ≤ 140737488355328) : AC Tryz.prog 31 ⟨[.slice oa xs.length cap]⟩ (stars [R]) (Outs (fun y : Chv × Int × Int => chartB xs = true → y.1.m.map Ac.st = xs.map Ac.st) (fun y => if chartB xs = true then .tuple ⟨[.pointer (some ⟨y.1.b, 0, none⟩), I 0, I 0]⟩ else .tuple ⟨[.pointer none, I y.2.1, I y.2.2]⟩) (fun y => if chartB xs = true then [pt y.1.b (blk [.map (some y.1.bm), y.1.v, y.1.w] 110), amap y.1.bm acF acG y.1.m, big (ndH 9) y.1.m, R] else [R])) := by
 refine AC.go Tryz.func31 rfl (Nat.le_of_ble_eq_true rfl) fun β => ?_
 refine sr ?_
 refine sx 3 ?_
 refine kp [0] rfl ?_
 refine Run.scope ?_
 refine Run.seq ?_
 refine sr ?_
 refine sx 3 ?_
 refine kp [0, 11] rfl ?_
 first | refine Run.if rfl (fun h1 => ?_) (fun h1 => ?_) | refine Run.cond rfl (fun h1 => ?_) (fun h1 => ?_)
 refine sr ?_
 refine sx 3 ?_
 refine kp [2, 3, 4] rfl ?_
 refine Run.ret ?_
 have hc : ¬ chartB xs = true := fun h => by { have := (chart_iff.1 h).1; omega }
 exact ret_out ((⟨0, 0, I 0, I 0, []⟩ : Chv), 0, 9) (.tmp rfl (.tmp rfl (.tmp rfl .nil))) (fun h => absurd h hc) (by simp only [if_neg hc]; rfl) (by simp only [if_neg hc]; exact gv)
 refine Run.skip ?_
 refine sr ?_
 refine RunL.op rfl rfl (OpJ.makeMap fun bm => ?_)
 refine RunL.op rfl rfl (OpJ.makeMap fun bk => ?_)
 refine sx 1 ?_
 refine RunL.op rfl rfl (OpJ.boxA rfl fun b15 => ?_)
 refine RunL.bigNil (ndH 9) ?_
 refine asg rfl rfl ?_
 refine kp [0, 2] rfl ?_
 refine Run.seq ?_
 refine Run.label ?_
 refine Run.seq ?_
 refine Run.block ?_
 refine Run.weak (L' := [pt b15 (blk [.map (some bm), .map (some bk), .slice none 0 0] 110), amap bm acF acG [], big (ndH 9) [], amap bk kdF kdG [], R]) (fun _ _ h => h) gv ?_
 refine Run.loop (fun mm E L => mm = 0 ∧ E = [(0, .slice oa xs.length cap), (2, .pointer (some ⟨b15, 0, none⟩))] ∧ L = [pt b15 (blk [.map (some bm), .map (some bk), .slice none 0 0] 110), amap bm acF acG [], big (ndH 9) [], amap bk kdF kdG [], R]) ⟨_, rfl, rfl, rfl⟩ ?_
 rintro _ _ _ ⟨rfl, rfl, rfl⟩
 refine Run.block ?_
 refine Run.seq ?_
 refine sr ?_
 refine sx 3 ?_
 refine kp [0, 2, 16, 17, 18] rfl ?_
 refine Run.block ?_
 refine Run.loop (fun mm E L => ∃ (i : Nat) (m : List Ac), mm = xs.length - i ∧ i ≤ xs.length ∧ m.map Ac.st = (xs.take i).map Ac.st ∧ aloneTo xs i ∧ E = [(0, .slice oa xs.length cap), (2, .pointer (some ⟨b15, 0, none⟩)), (16, .slice oa xs.length cap), (17, I xs.length), (18, I i)] ∧ L = [pt b15 (blk [.map (some bm), .map (some bk), .slice none 0 0] 110), amap bm acF acG m, big (ndH 9) m, amap bk kdF kdG [], R]) ⟨_, 0, [], rfl, Nat.zero_le _, rfl, (fun j x h => by omega), rfl, rfl⟩ ?_
 rintro _ _ _ ⟨i, m, rfl, hi, hm, hI0, rfl, rfl⟩
 refine sr ?_
 refine sx 1 ?_
 refine kp [0, 2, 16, 17, 18, 19] rfl ?_
 refine Run.seq ?_
 first | refine Run.if rfl (fun h2 => ?_) (fun h2 => ?_) | refine Run.cond rfl (fun h2 => ?_) (fun h2 => ?_)
 refine Run.skip ?_
 refine Run.seq ?_
 refine Run.block ?_
 refine sr ?_
 obtain ⟨a, hx⟩ := get_ex (xs := xs) (i := i) (by omega)
 have har := hrd a (List.mem_of_getElem? hx)
 refine RunL.rdOpen pk hR (flat_ne (k := 8) (fun _ => rfl) (by decide) hx) fun bx ox ebx hrdx => ?_
 rw [ebx]
 refine sx 2 ?_
 refine RunL.op rfl rfl (OpJ.loadA inferInstance rfl pk (hrdx.elem (fun _ => rfl) hx) rfl ?_)
 refine RunL.op rfl rfl (OpJ.alloc Z57 fun b6 => ?_)
 refine asg rfl rfl ?_
 refine RunL.op rfl rfl (OpJ.storeW T57 rfl rfl rfl rfl (by simp [Value.oneCell', Tg.c, Ln.c, En.c, Ac.c, Cl.c, Ky.c, Qy.c, Sb, Iv]) up ?_)
 refine kp [0, 2, 5, 6, 16, 17, 18] rfl ?_
 refine Run.seq ?_
 refine sr ?_
 refine sx 3 ?_
 refine RunL.call C66 rfl rfl rfl (c_alone b15 bm (.map (some bk)) (.slice none 0 0) m a R har.1 har.2.1 har.2.2) tks ?_
 refine sx 2 ?_
 refine kp [0, 2, 3, 4, 6, 16, 17, 18] rfl ?_
 refine sr ?_
 refine sx 2 ?_
 refine kp [0, 2, 3, 4, 6, 16, 17, 18, 28] rfl ?_
 first | refine Run.if rfl (fun h3 => ?_) (fun h3 => ?_) | refine Run.cond rfl (fun h3 => ?_) (fun h3 => ?_)
 refine Run.exit ?_
 refine sr ?_
 refine sx 5 ?_
 refine kp [2, 3, 4] rfl ?_
 refine Run.ret ?_
 have hc := chart_alone hm hx (by simpa using h3)
 exact ret_out ((⟨0, 0, I 0, I 0, []⟩ : Chv), (i : Int), aloneE m a) (.tmp rfl (.tmp rfl (.tmp rfl .nil))) (fun h => absurd h hc) (by simp only [if_neg hc]; rfl) (by simp only [if_neg hc]; exact gv)
 refine Run.skip ?_
 refine regionD HM ?_
 have ha0 : aloneE m a = 0 := by simpa using h3
 have hal := alone_len ha0
 refine tk 0 rfl rfl rfl (DetJ.move rfl) ?_
 refine tk 1 rfl rfl rfl (DetJ.nilCheck rfl) ?_
 refine tk 2 rfl rfl rfl (DetJ.fieldAddr F110_0 rfl) ?_
 first | refine RunD.takeF 3 rfl rfl kr T107 rfl pk (by rfl) ?_ | refine RunD.takeO 3 rfl rfl kr T107 rfl pk (by assumption) (by rfl) (by exact fun _ => rfl) ?_
 refine tk 4 rfl rfl rfl (DetJ.fieldAddr F57_0 rfl) ?_
 first | refine RunD.takeF 5 rfl rfl kr T9 rfl pk (by rfl) ?_ | refine RunD.takeO 5 rfl rfl kr T9 rfl pk (by assumption) (by rfl) (by exact fun _ => rfl) ?_
 first | refine RunD.takeW 6 rfl rfl kr T57 rfl pk (by rfl) ?_ | refine RunD.takeP 6 rfl rfl kr T57 rfl pk (by simp) ?_ | refine RunD.takeE 6 rfl rfl kr T57 rfl pk (by assumption) (by exact fun _ => rfl) rfl (by decide) ?_
 refine RunD.op 7 [false, true, true, true, true, true, true] rfl rfl rfl kr kr (OpJ.callOuts C53 rfl rfl (c_copied a R har.1 har.2.1 (by omega)) tks fun ⟨na, nc⟩ _ => ⟨po, ?_⟩)
 refine RunD.op 8 [false, false, false, false, false, false] rfl rfl rfl kr kr (OpJ.mapUpdate (a.put (na, nc)) keyStr mpAcc inferInstance rfl rfl rfl up ⟨po, ?_⟩)
 refine kd [0, 2, 16, 17, 18] rfl ?_
 refine Run.region ?_
 rw [show kSet Ac.code (a.put (na, nc)) m = m ++ [a.put (na, nc)] from kSet_new (alone_new ha0)]
 refine RunL.bigApp (ndH 9) m (a.put (na, nc)) pk pk ?_
 refine sx 2 ?_
 refine RunL.weak (L' := [pt b15 (blk [.map (some bm), .map (some bk), .slice none 0 0] 110), amap bm acF acG (m ++ [a.put (na, nc)]), big (ndH 9) (m ++ [a.put (na, nc)]), amap bk kdF kdG [], R]) (Keep.sub (kt (ks := [0, 2, 16, 17, 18]) rfl)) gv (RunL.nil ?_)
 exact ⟨_, by omega, i + 1, m ++ [a.put (na, nc)], rfl, by omega, take_st hm hx rfl, hI0.step hm hx ha0, rfl, rfl⟩
 refine Run.exit ?_
 refine Run.seq ?_
 refine sr ?_
 refine sx 3 ?_
 refine kp [2, 38, 39, 40] rfl ?_
 refine Run.block ?_
 obtain rfl : i = xs.length := by omega
 rw [List.take_length] at hm
 have hml := st_len hm
 refine Run.loop (fun mm E L => ∃ (i : Nat), mm = xs.length - i ∧ i ≤ xs.length ∧ belowTo xs i ∧ E = [(2, .pointer (some ⟨b15, 0, none⟩)), (38, .slice oa xs.length cap), (39, I xs.length), (40, I i)] ∧ L = [pt b15 (blk [.map (some bm), .map (some bk), .slice none 0 0] 110), amap bm acF acG m, big (ndH 9) m, amap bk kdF kdG [], R]) ⟨_, 0, rfl, Nat.zero_le _, (fun j x h => by omega), rfl, rfl⟩ ?_
 rintro _ _ _ ⟨i, rfl, hi, hI1, rfl, rfl⟩
 refine sr ?_
 refine sx 1 ?_
 refine kp [2, 38, 39, 40, 41] rfl ?_
 refine Run.seq ?_
 first | refine Run.if rfl (fun h4 => ?_) (fun h4 => ?_) | refine Run.cond rfl (fun h4 => ?_) (fun h4 => ?_)
 refine Run.skip ?_
 refine Run.seq ?_
 refine Run.block ?_
 refine sr ?_
 obtain ⟨a, hx⟩ := get_ex (xs := xs) (i := i) (by omega)
 have har := hrd a (List.mem_of_getElem? hx)
 refine RunL.rdOpen pk hR (flat_ne (k := 8) (fun _ => rfl) (by decide) hx) fun bx ox ebx hrdx => ?_
 rw [ebx]
 refine sx 2 ?_
 refine RunL.op rfl rfl (OpJ.loadA inferInstance rfl pk (hrdx.elem (fun _ => rfl) hx) rfl ?_)
 refine RunL.op rfl rfl (OpJ.alloc Z57 fun b8 => ?_)
 refine asg rfl rfl ?_
 refine RunL.op rfl rfl (OpJ.storeW T57 rfl rfl rfl rfl (by simp [Value.oneCell', Tg.c, Ln.c, En.c, Ac.c, Cl.c, Ky.c, Qy.c, Sb, Iv]) up ?_)
 refine kp [2, 7, 8, 38, 39, 40] rfl ?_
 refine sr ?_
 refine sx 3 ?_
 refine RunL.call C67 rfl rfl rfl (c_below b15 bm (.map (some bk)) (.slice none 0 0) m a (by omega)) tks ?_
 refine sx 2 ?_
 refine kp [2, 3, 4, 38, 39, 40] rfl ?_
 refine sr ?_
 refine sx 2 ?_
 refine kp [2, 3, 4, 38, 39, 40, 50] rfl ?_
 first | refine Run.if rfl (fun h5 => ?_) (fun h5 => ?_) | refine Run.cond rfl (fun h5 => ?_) (fun h5 => ?_)
 refine Run.exit ?_
 refine sr ?_
 refine sx 5 ?_
 refine kp [2, 3, 4] rfl ?_
 refine Run.ret ?_
 have hc := chart_below hm hx (by simpa using h5)
 exact ret_out ((⟨0, 0, I 0, I 0, []⟩ : Chv), (i : Int), belowE m a) (.tmp rfl (.tmp rfl (.tmp rfl .nil))) (fun h => absurd h hc) (by simp only [if_neg hc]; rfl) (by simp only [if_neg hc]; exact gv)
 refine Run.skip ?_
 refine Run.region ?_
 refine sx 2 ?_
 exact RunL.next (Keep.sub (kt (ks := [2, 38, 39, 40]) rfl)) _ ⟨_, by omega, i + 1, rfl, by omega, hI1.step hm hx (by simpa using h5), rfl, rfl⟩ gv
 refine Run.exit ?_
 refine sr ?_
 refine mvo rfl rfl ?_
 refine RunL.callX C68 rfl rfl rfl (c_sort b15 bm bk m (by omega)) tks fun w _ => ?_
 refine kp [2] rfl ?_
 refine sr ?_
 refine sx 4 ?_
 refine kp [2, 3, 4] rfl ?_
 refine Run.ret ?_
 have hc := chart_good (xs := xs) (by omega) hI0 (by obtain rfl : i = xs.length := (by omega); exact hI1)
 exact ret_out ((⟨b15, bm, .map (some bk), w, m⟩ : Chv), 0, 0) (.tmp rfl (.tmp rfl (.tmp rfl .nil))) (fun _ => hm) (by simp only [if_pos hc]; rfl) (by simp only [if_pos hc]; exact gv)
end
theorem ln1 : ∀ x : Ln, ∀ v ∈ x.c, v.oneCell' = true := fun x v hv => by simp [Ln.c] at hv; rcases hv with rfl | rfl | rfl | rfl | rfl | rfl | rfl <;> rfl
section
attribute [local irreducible] OpJ RunL Run RunD DetJ pt own star Rd RdS
theorem c_result0 (fc ls : Value) (hls : True) (ent : ByteArray) (year book : Int) (first : Int) : AC Tryz.prog 34 ⟨[.pointer none, .agg ⟨[I first]⟩, ls, St ent, I year, I book]⟩ (stars []) (Ret (.tuple ⟨[.slice none 0 0, I 0, I 1]⟩) []) := by
 refine AC.go Tryz.func34 rfl (Nat.le_of_ble_eq_true rfl) fun β => ?_
 refine sr ?_
 refine RunL.op rfl rfl (OpJ.boxA rfl fun b7 => ?_)
 refine sx 3 ?_
 refine kp [0, 2, 3, 4, 5, 7, 12] rfl ?_
 refine Run.seq ?_
 refine sr ?_
 refine sx 2 ?_
 refine kp [0, 2, 3, 4, 5, 7, 12, 21] rfl ?_
 refine Run.true rfl ?_
 refine sr ?_
 refine sx 3 ?_
 refine kp [12, 13, 14] rfl ?_
 refine Run.ret ?_
 exact ret_one (.tmp rfl (.tmp rfl (.tmp rfl .nil))) (rfl) gv
theorem c_Result0 (ls : Value) (ent : ByteArray) (year book : Int) (first : Int) : AC Tryz.prog 13 ⟨[.pointer none, .agg ⟨[I first]⟩, ls, St ent, I year, I book]⟩ (stars []) (Ret (.tuple ⟨[.slice none 0 0, I 1]⟩) []) := by
 refine AC.go Tryz.func13 rfl (Nat.le_of_ble_eq_true rfl) fun β => ?_
 refine sr ?_
 refine RunL.op rfl rfl (OpJ.boxA rfl fun b7 => ?_)
 refine sx 2 ?_
 refine kp [0, 2, 3, 4, 5, 7] rfl ?_
 refine sr ?_
 refine sx 6 ?_
 refine RunL.call C34 rfl rfl rfl (c_result0 (I 0) ls trivial ent year book first) .nil ?_
 refine sx 6 ?_
 refine kp [12, 13] rfl ?_
 refine sr ?_
 refine sx 4 ?_
 refine kp [12, 13] rfl ?_
 refine Run.ret ?_
 exact ret_one (.tmp rfl (.tmp rfl .nil)) (rfl) gv
theorem c_Result (b bm : Nat) (v w : Value) (m : List Ac) (hm6 : ∀ a ∈ m, a.need.length ≤ 6) (R : HP) (oa : Option Addr) (cap : Nat) (l : List En) (hR0 : Rd R ⟨0, 0, none⟩ lensC) (hR : RdS R oa (l.flatMap En.c)) (hrd : ∀ e ∈ l, e.rd R) (hl : l.length ≤ 1000) (first : Int) (ent : ByteArray) (year book : Int) : AC Tryz.prog 13 ⟨[.pointer (some ⟨b, 0, none⟩), .agg ⟨[I first]⟩, .slice oa l.length cap, St ent, I year, I book]⟩ (stars [pt b (blk [.map (some bm), v, w] 110), amap bm acF acG m, big (ndH 9) m, R]) (Outs (fun _ : Option Addr × Nat => True) (fun y => .tuple ⟨[.slice y.1 (resM m first l ent year book).1.length y.2, I (resM m first l ent year book).2]⟩) (fun y => [own 63 7 y.1 (resM m first l ent year book).1.length y.2 ((resM m first l ent year book).1.flatMap Cl.c), pt b (blk [.map (some bm), v, w] 110), amap bm acF acG m, big (ndH 9) m, R])) := by
 refine AC.go Tryz.func13 rfl (Nat.le_of_ble_eq_true rfl) fun β => ?_
 refine sr ?_
 refine RunL.op rfl rfl (OpJ.boxA rfl fun b7 => ?_)
 refine sx 2 ?_
 refine kp [0, 2, 3, 4, 5, 7] rfl ?_
 refine sr ?_
 refine sx 6 ?_
 refine RunL.callX C34 rfl rfl rfl (c_result b bm v w m hm6 R oa cap l hR0 hR hrd hl first ent year book) tks fun ⟨ca, cc⟩ _ => ?_
 refine sx 6 ?_
 refine kp [12, 13] rfl ?_
 refine sr ?_
 refine sx 4 ?_
 refine kp [12, 13] rfl ?_
 refine Run.ret ?_
 exact ret_out (ca, cc) (.tmp rfl (.tmp rfl .nil)) trivial rfl gv
theorem c_put (pb xb : Nat) (aa : Option Addr) (ac : Nat) (acc : List Ln) (x : Ln) (hl : acc.length ≤ 1000000) : AC Tryz.prog 77 ⟨[.slice (some ⟨xb, 0, none⟩) 1 1, .pointer (some ⟨pb, 0, none⟩)]⟩ (stars [pt pb (blk [.slice aa acc.length ac] 40), own 73 7 aa acc.length ac (acc.flatMap Ln.c), pt xb (blk x.c 73)]) (Outs (fun _ : Option Addr × Nat => True) (fun _ => .tuple ⟨[]⟩) (fun y => [pt pb (blk [.slice y.1 (acc ++ [x]).length y.2] 40), own 73 7 y.1 (acc ++ [x]).length y.2 ((acc ++ [x]).flatMap Ln.c)])) := by
 have hRx : RdS (pt xb (blk x.c 73)) (some ⟨xb, 0, none⟩) ([x].flatMap Ln.c) := Rd.rds Rd.whole
 refine AC.go Tryz.func77 rfl (Nat.le_of_ble_eq_true rfl) fun β => ?_
 refine Run.region ?_
 refine sx 2 ?_
 refine RunL.op rfl rfl (OpJ.appendAll S40 M73 rfl rfl pk pk hRx (flat_len (enc := Ln.c) (k := 7) (fun _ => rfl) [x]) (by decide) (flat_one ln1 [x]) (by omega) (by omega) fun a5 c5 => ?_)
 rw [← List.flatMap_append]
 refine sx 1 ?_
 refine kp [] rfl ?_
 have hxl : (acc ++ [x]).length = acc.length + 1 := by simp
 rw [hxl]
 exact ret_out (a5, c5) .nil trivial rfl gv
end
def lCutRen : Go.Shelf.Ren := { f := fun x => match x with | 145 => 124 | 220 => 158 | 219 => 184 | 217 => 194 | 225 => 195 | 224 => 196 | 267 => 197 | 266 => 200 | 314 => 201 | n => n, t := fun x => match x with | 9 => 9 | 4 => 4 | 59 => 148 | 3 => 3 | 5 => 5 | 46 => 210 | 146 => 247 | 51 => 234 | n => n, g := fun x => match x with | 1 => 1 | n => n }
open Go.Shelf Go.Lib in
theorem lCut : Go.Proofs.Lays.n145 Tryz.prog lCutRen :=
  { mixed := by kernel_rfl, f145 := Eq.trans Tryz.func124 (congrArg some (by kernel_rfl)), f217 := Eq.trans Tryz.func194 (congrArg some (by kernel_rfl)), f219 := Eq.trans Tryz.func184 (congrArg some (by kernel_rfl)), f220 := Eq.trans Tryz.func158 (congrArg some (by kernel_rfl)), f224 := Eq.trans Tryz.func196 (congrArg some (by kernel_rfl)), f225 := Eq.trans Tryz.func195 (congrArg some (by kernel_rfl)), f266 := Eq.trans Tryz.func200 (congrArg some (by kernel_rfl)), f267 := Eq.trans Tryz.func197 (congrArg some (by kernel_rfl)), f314 := Eq.trans Tryz.func201 (congrArg some (by kernel_rfl)), t3 := Tryz.underlying3, a3 := Tryz.isAgg3, z3 := Tryz.sizeOf3, v3 := Tryz.zeroValue3, t4 := Tryz.underlying4, a4 := Tryz.isAgg4, z4 := Tryz.sizeOf4, v4 := Tryz.zeroValue4, t5 := Tryz.underlying5, a5 := Tryz.isAgg5, z5 := Tryz.sizeOf5, v5 := Tryz.zeroValue5, t9 := Tryz.underlying9, a9 := Tryz.isAgg9, z9 := Tryz.sizeOf9, v9 := Tryz.zeroValue9, t46 := Tryz.underlying210, a46 := Tryz.isAgg210, z46 := Tryz.sizeOf210, v46 := Tryz.zeroValue210, t51 := Tryz.underlying234, a51 := Tryz.isAgg234, z51 := Tryz.sizeOf234, v51 := Tryz.zeroValue234, t59 := Tryz.underlying148, a59 := Tryz.isAgg148, z59 := Tryz.sizeOf148, v59 := Tryz.zeroValue148, t146 := Tryz.underlying247, a146 := Tryz.isAgg247, z146 := Tryz.sizeOf247, v146 := Tryz.zeroValue247, g1 := by kernel_rfl }
section
attribute [local irreducible] OpJ RunL Run RunD DetJ pt own star Rd RdS
end
theorem c_cut (l : List UInt8) (c : UInt8) (m0 : Int) (R : HP) (hM : Rd R ⟨1, 0, none⟩ [I m0]) (hs : l.length < 4294967281) : AC Tryz.prog 124 ⟨[St (ba l), St (ba [c])]⟩ (stars [R]) (Ret (.tuple ⟨[St (ba (cut1 c l).1), St (ba (cut1 c l).2.1), Bo (cut1 c l).2.2]⟩) [R]) := ac_cut lCut (ba l) c m0 R hM hs
section
attribute [local irreducible] OpJ RunL Run RunD DetJ pt own star Rd RdS
theorem c_Parse (s : ByteArray) (m0 : Int) (R : HP) (hM : Rd R ⟨1, 0, none⟩ [I m0]) (hs : s.size < 4294967281) : AC Tryz.prog 78 ⟨[St s]⟩ (stars [R]) (Outs (fun _ : Option Addr × Nat => True) (fun y => .tuple ⟨[.slice y.1 ((parseT s).getD []).length y.2, I (if (parseT s).isSome = true then 0 else 5)]⟩) (fun y => [own 151 2 y.1 ((parseT s).getD []).length y.2 (((parseT s).getD []).flatMap Tg.c), R])) := by
 refine AC.go Tryz.func78 rfl (Nat.le_of_ble_eq_true rfl) fun β => ?_
 refine sr ?_
 refine sx 2 ?_
 refine kp [0, 2] rfl ?_
 refine Run.seq ?_
 refine sr ?_
 refine RunL.ownNil 151 2 ?_
 refine sx 3 ?_
 refine kp [0, 2, 4] rfl ?_
 refine Run.block ?_
 refine Run.weak (L' := [own 151 2 none ([] : List Tg).length 0 (([] : List Tg).flatMap Tg.c), R]) (fun _ _ h => h) gv ?_
 refine Run.loop (fun mm E L => ∃ (more : Bool) (l : List UInt8) (acc : List Tg) (ta : Option Addr) (tc : Nat), mm = paM more l ∧ PaI s more l acc ∧ E = [(0, St (ba l)), (2, .slice ta acc.length tc), (4, Bo more)] ∧ L = [own 151 2 ta acc.length tc (acc.flatMap Tg.c), R]) ⟨_, _, _, [], none, 0, rfl, PaI.start, rfl, rfl⟩ ?_
 rintro _ _ _ ⟨more, l, acc, ta, tc, rfl, hI0, rfl, rfl⟩
 refine Run.seq ?_
 refine sr ?_
 refine mvo rfl rfl ?_
 refine kp [0, 2, 11] rfl ?_
 first | refine Run.if rfl (fun h1 => ?_) (fun h1 => ?_) | refine Run.cond rfl (fun h1 => ?_) (fun h1 => ?_)
 refine Run.skip ?_
 refine Run.block ?_
 refine sr ?_
 refine asg rfl rfl ?_
 refine kp [0, 2] rfl ?_
 refine sr ?_
 obtain rfl : more = true := by simpa using h1
 refine mvo rfl rfl ?_
 refine RunL.call C124 rfl rfl rfl (c_cut l 44 m0 R hM (by have := hI0.sz; omega)) tks ?_
 refine sx 7 ?_
 refine kp [0, 2, 4, 5] rfl ?_
 refine sr ?_
 refine mvo rfl rfl ?_
 refine RunL.call C124 rfl rfl rfl (c_cut (it1 l) 61 m0 R hM (by have h1 := hI0.sz; have h2 : (it1 l).length ≤ l.length := cut1_fst 44 l; omega)) tks ?_
 refine sx 7 ?_
 refine kp [0, 2, 4, 6, 7, 8] rfl ?_
 refine Run.seq ?_
 refine sr ?_
 refine sx 3 ?_
 first | refine RunL.splitP (t := 26) rfl (fun g2 => ?_) (fun g2 => ?_) | refine RunL.split (t := 26) rfl (fun g2 => ?_) (fun g2 => ?_)
 refine sx 4 ?_
 refine kp [0, 2, 4, 6, 7, 30] rfl ?_
 refine Run.true rfl ?_
 refine sr ?_
 refine RunL.ownNil 151 2 ?_
 refine sx 2 ?_
 refine kp [2, 3] rfl ?_
 refine Run.ret ?_
 have hp := hI0.bad (Or.inl (by simpa using g2))
 rw [hp]
 exact ret_out (none, 0) (.tmp rfl (.tmp rfl .nil)) trivial rfl gv
 refine sx 4 ?_
 refine kp [0, 2, 4, 6, 7, 30] rfl ?_
 first | refine Run.if rfl (fun h3 => ?_) (fun h3 => ?_) | refine Run.cond rfl (fun h3 => ?_) (fun h3 => ?_)
 refine sr ?_
 refine RunL.ownNil 151 2 ?_
 refine sx 2 ?_
 refine kp [2, 3] rfl ?_
 refine Run.ret ?_
 have hp := hI0.bad (Or.inr (by omega))
 rw [hp]
 exact ret_out (none, 0) (.tmp rfl (.tmp rfl .nil)) trivial rfl gv
 refine Run.skip ?_
 refine Run.region ?_
 have hal := hI0.len
 refine sx 4 ?_
 refine RunL.op rfl rfl (OpJ.buildSlice1 S71 rfl rfl rfl (by decide) (by decide) Z151 rfl fun b35 => ?_)
 refine RunL.op rfl rfl (OpJ.append1 (⟨ba (cut1 61 (it1 l)).1, ba (cut1 61 (it1 l)).2.1⟩ : Tg) S71 M151 rfl rfl pk pk rfl rfl (by simp [Value.oneCell', Tg.c, Ln.c, En.c, Ac.c, Cl.c, Ky.c, Qy.c, Sb, Iv]) rfl (by omega) (by omega) fun a36 c36 => ?_)
 refine asg rfl rfl ?_
 have hst := hI0.step (by rintro (h | h); (rw [h] at g2; cases g2); omega)
 exact RunL.next (Keep.sub (kt (ks := [0, 2, 4]) rfl)) _ ⟨_, paM_lt, _, _, nxT l acc, a36, c36, rfl, hst, rfl, rfl⟩ gv
 refine Run.exit ?_
 refine Run.seq ?_
 refine sr ?_
 obtain rfl : more = false := by simpa using h1
 refine mvo rfl rfl ?_
 refine RunL.call C125 rfl rfl rfl (c_dRight (own 151 2 ta acc.length tc (acc.flatMap Tg.c)) ta tc acc own.rds) tks ?_
 refine RunL.op rfl rfl (OpJ.not rfl ?_)
 refine kp [2, 39] rfl ?_
 first | refine Run.if rfl (fun h4 => ?_) (fun h4 => ?_) | refine Run.cond rfl (fun h4 => ?_) (fun h4 => ?_)
 refine sr ?_
 refine RunL.ownNil 151 2 ?_
 refine sx 2 ?_
 refine kp [2, 3] rfl ?_
 refine Run.ret ?_
 have hp := hI0.wrong (by simpa using h4)
 rw [hp]
 exact ret_out (none, 0) (.tmp rfl (.tmp rfl .nil)) trivial rfl gv
 refine Run.skip ?_
 refine sr ?_
 refine sx 3 ?_
 refine kp [2, 3] rfl ?_
 refine Run.ret ?_
 have hp := hI0.right (by simpa using h4)
 rw [hp]
 exact ret_out (ta, tc) (.tmp rfl (.tmp rfl .nil)) trivial rfl gv
end
def lKeysRen : Go.Shelf.Ren := { f := fun x => match x with | 7 => 80 | 10 => 127 | n => n, t := fun x => match x with | 23 => 137 | 26 => 9 | 3 => 141 | 28 => 144 | 0 => 0 | 27 => 143 | 33 => 181 | 4 => 4 | n => n, g := fun x => x }
open Go.Shelf Go.Lib in
theorem lKeys : Go.Proofs.SlLaysZ.n7 Tryz.prog lKeysRen :=
  { mixed := by kernel_rfl, f7 := ⟨"maps.Keys[map[string]accounting/closing.amounts,string,accounting/closing.amounts]", by decide, Eq.trans Tryz.func80 (congrArg some (by kernel_rfl))⟩, f10 := ⟨"maps.Keys[map[string]accounting/closing.amounts,string,accounting/closing.amounts]$1", by decide, Eq.trans Tryz.func127 (congrArg some (by kernel_rfl))⟩, t0 := Tryz.underlying0, a0 := Tryz.isAgg0, z0 := Tryz.sizeOf0, v0 := Tryz.zeroValue0, t4 := Tryz.underlying4, a4 := Tryz.isAgg4, z4 := Tryz.sizeOf4, v4 := Tryz.zeroValue4, t23 := Tryz.underlying137, a23 := Tryz.isAgg137, z23 := Tryz.sizeOf137, v23 := Tryz.zeroValue137, t26 := Tryz.underlying9, a26 := Tryz.isAgg9, z26 := Tryz.sizeOf9, v26 := Tryz.zeroValue9, t27 := Tryz.underlying143, a27 := Tryz.isAgg143, z27 := Tryz.sizeOf143, v27 := Tryz.zeroValue143, t28 := Tryz.underlying144, a28 := Tryz.isAgg144, z28 := Tryz.sizeOf144, v28 := Tryz.zeroValue144, t33 := Tryz.underlying181, a33 := Tryz.isAgg181, z33 := Tryz.sizeOf181, v33 := Tryz.zeroValue181 }
section
attribute [local irreducible] OpJ RunL Run RunD DetJ pt own star Rd RdS
end
def lSortedRen : Go.Shelf.Ren := { f := fun x => match x with | 6 => 79 | 8 => 126 | 9 => 116 | 11 => 160 | 13 => 153 | 12 => 152 | 23 => 181 | 24 => 182 | 14 => 172 | 15 => 173 | 16 => 174 | 17 => 175 | 18 => 176 | 19 => 177 | 20 => 178 | 21 => 179 | 22 => 180 | 25 => 188 | 26 => 189 | 27 => 190 | 28 => 191 | 29 => 192 | 30 => 193 | 31 => 199 | n => n, t := fun x => match x with | 26 => 9 | 28 => 144 | 24 => 55 | 0 => 0 | 3 => 3 | 37 => 210 | 48 => 234 | 50 => 207 | 4 => 4 | 40 => 227 | 39 => 226 | 45 => 100 | 5 => 5 | 9 => 9 | 51 => 238 | 55 => 242 | 57 => 245 | 58 => 75 | 33 => 181 | n => n, g := fun x => x }
open Go.Shelf Go.Lib in
theorem lSorted : Go.Proofs.SlLaysZ.n6 Tryz.prog lSortedRen :=
  { mixed := by kernel_rfl, f6 := ⟨"slices.Sorted[string]", by decide, Eq.trans Tryz.func79 (congrArg some (by kernel_rfl))⟩, f8 := ⟨"slices.Collect[string]", by decide, Eq.trans Tryz.func126 (congrArg some (by kernel_rfl))⟩, f11 := ⟨"slices.AppendSeq[[]string,string]", by decide, Eq.trans Tryz.func160 (congrArg some (by kernel_rfl))⟩, t0 := Tryz.underlying0, a0 := Tryz.isAgg0, z0 := Tryz.sizeOf0, v0 := Tryz.zeroValue0, t24 := Tryz.underlying55, a24 := Tryz.isAgg55, z24 := Tryz.sizeOf55, v24 := Tryz.zeroValue55, t26 := Tryz.underlying9, a26 := Tryz.isAgg9, z26 := Tryz.sizeOf9, v26 := Tryz.zeroValue9, t28 := Tryz.underlying144, a28 := Tryz.isAgg144, z28 := Tryz.sizeOf144, v28 := Tryz.zeroValue144, i26 := by kernel_rfl }
section
attribute [local irreducible] OpJ RunL Run RunD DetJ pt own star Rd RdS
end
open Go.Shelf Go.RowKit Go.Maps in
theorem lSorts (n : Nat) : Go.Proofs.AnyZ.SortsIn Tryz.prog lSortedRen Fence.wide n :=
  ⟨fun blk off cap ss W hH hblk hsz => callsIn_wide.2 (calls_of_every_depth fun D => AnyS.slices_Sort_string_alone lSort D blk off cap ss W hH hblk hsz), fun p cap W => callsIn_wide.2 (calls_of_every_depth fun D => AnyS.slices_Sort_string_none_alone lSort D p cap W)⟩
open Go.Shelf Go.RowKit Go.Maps in
theorem c_sortedKeys {α : Type} (nb bm : Nat) (kf : α → ByteArray) (gv : α → Value) (xs : List α) (hk : ∀ x ∈ xs, (kf x).size ≤ maxLen) (hnd : (xs.map kf).Nodup) (hl : xs.length ≤ 1000000) :
    AC Tryz.prog 79 ⟨[.func (.func 127) ⟨[]⟩ ⟨[.pointer (some ⟨nb, 0, none⟩)]⟩]⟩ (stars [pt nb (blk [.map (some bm)] 137), amap bm (fun x => St (kf x)) gv xs])
      (Outs (fun _ : Option Addr × Nat => True) (fun y => .slice y.1 xs.length y.2) (fun y => [own 9 1 y.1 xs.length y.2 ((srtS (xs.map kf)).flatMap Sb), pt nb (blk [.map (some bm)] 137), amap bm (fun x => St (kf x)) gv xs])) :=
  ac_sortedKeys (by kernel_rfl) hk hnd hl fun W D0 hnb hcell hown hmax hbytes =>
    have hseq : SeqGives Fence.wide 2 Tryz.prog 127 #[.pointer (some ⟨nb, 0, none⟩)] encStr (fun ss => ss.Perm (strKeys D0)) (Maps.size D0) W := AnyZ.keys_gives (ρ := lKeysRen) { lKeys with } Fence.wide _ trivial rfl (by omega) nb bm xs.length D0 W hnb hcell hown
    callsIn_wide.1 (AnyZ.sorted_in lSorted Fence.wide 5 trivial trivial trivial trivial rfl (by omega) (lSorts _) (enters_of Tryz.func116 (by kernel_rfl) rfl) 127 #[.pointer (some ⟨nb, 0, none⟩)] trivial (enters_of Tryz.func127 (by kernel_rfl) rfl) _ _ hmax hbytes _ hseq)
section
attribute [local irreducible] OpJ RunL Run RunD DetJ pt own star Rd RdS
theorem c_Keys (bm : Nat) : AC Tryz.prog 80 ⟨[.map (some bm)]⟩ (stars []) (Outs (fun _ : Nat => True) (fun nb => .func (.func 127) ⟨[]⟩ ⟨[.pointer (some ⟨nb, 0, none⟩)]⟩) (fun nb => [pt nb (blk [.map (some bm)] 137)])) := by
 refine AC.go Tryz.func80 rfl (Nat.le_of_ble_eq_true rfl) fun β => ?_
 refine sr ?_
 refine RunL.op rfl rfl (OpJ.box rfl rfl fun b1 => ?_)
 refine asg rfl rfl ?_
 refine kp [1] rfl ?_
 refine sr ?_
 refine sx 2 ?_
 refine kp [2] rfl ?_
 refine Run.ret ?_
 exact ret_out b1 (.tmp rfl .nil) trivial rfl gv
end
instance mpAm : MPI Tryz.prog 137 9 141 := ⟨by kernel_rfl⟩
instance zvAm : ZVI Tryz.prog 141 (.agg ⟨[I 0, I 0]⟩) := ⟨by kernel_rfl⟩
instance uvAm : UI Tryz.prog 9 .string := ⟨by kernel_rfl⟩
section
attribute [local irreducible] OpJ RunL Run RunD DetJ pt own star Rd RdS
theorem c_transfer (S R : HP) (oa : Option Addr) (cap : Nat) (s : List Cl) (to : ByteArray) (m0 : Int) (hS : RdS S oa (s.flatMap Cl.c)) (hM : Rd R ⟨1, 0, none⟩ [I m0]) (hl : s.length ≤ 100000) (hz : ∀ x ∈ s, x.k.tags.size < 4294967281 ∧ x.k.cur.size ≤ maxLen ∧ (-1000000000000000 ≤ x.amt ∧ x.amt ≤ 1000000000000000) ∧ (-1000000000000000 ≤ x.base ∧ x.base ≤ 1000000000000000)) : AC Tryz.prog 38 ⟨[.slice oa s.length cap, St to]⟩ (stars [S, R]) (Outs (fun y : List Ln × Option Addr × Nat => y.1.map Ln.e = transW s to) (fun y => .slice y.2.1 y.1.length y.2.2) (fun y => [own 73 7 y.2.1 y.1.length y.2.2 (y.1.flatMap Ln.c), big (tagH 151) y.1, S, R])) := by
 refine AC.go Tryz.func38 rfl (Nat.le_of_ble_eq_true rfl) fun β => ?_
 refine sr ?_
 refine asg rfl rfl ?_
 refine kp [0, 1] rfl ?_
 refine sr ?_
 refine RunL.op rfl rfl (OpJ.alloc Z40 fun b5 => ?_)
 refine kp [0, 1, 5] rfl ?_
 refine sr ?_
 refine sx 2 ?_
 refine kp [0, 1, 5, 6] rfl ?_
 refine sr ?_
 refine RunL.op rfl rfl (OpJ.makeMap fun bm => ?_)
 refine asg rfl rfl ?_
 refine kp [0, 1, 5, 6, 7] rfl ?_
 refine Run.seq ?_
 refine sr ?_
 refine RunL.ownNil 73 7 ?_
 refine RunL.bigNil (tagH 151) ?_
 refine sx 3 ?_
 refine kp [1, 5, 6, 7, 18, 19, 20] rfl ?_
 refine Run.block ?_
 refine Run.weak (L' := [pt b5 (blk [.slice none ([] : List Ln).length 0] 40), own 73 7 none ([] : List Ln).length 0 (([] : List Ln).flatMap Ln.c), big (tagH 151) [], amap bm amF amG [], S, R]) (fun _ _ h => h) gv ?_
 refine Run.loop (fun mm E L => ∃ (i : Nat) (ls : List Ln) (ms : List Am) (la : Option Addr) (lc : Nat), mm = s.length - i ∧ i ≤ s.length ∧ ls.map Ln.e = (s.take i).map negL ∧ AmI ms (s.take i) ∧ E = [(1, St to), (5, .pointer (some ⟨b5, 0, none⟩)), (6, .func (.func 77) ⟨[]⟩ ⟨[.pointer (some ⟨b5, 0, none⟩)]⟩), (7, .map (some bm)), (18, .slice oa s.length cap), (19, I s.length), (20, I i)] ∧ L = [pt b5 (blk [.slice la ls.length lc] 40), own 73 7 la ls.length lc (ls.flatMap Ln.c), big (tagH 151) ls, amap bm amF amG ms, S, R]) ⟨_, 0, [], [], none, 0, rfl, Nat.zero_le _, rfl, AmI.start, rfl, rfl⟩ ?_
 rintro _ _ _ ⟨i, ls, ms, la, lc, rfl, hi, hls, hA, rfl, rfl⟩
 refine sr ?_
 refine sx 1 ?_
 refine kp [1, 5, 6, 7, 18, 19, 20, 21] rfl ?_
 refine Run.seq ?_
 first | refine Run.if rfl (fun h1 => ?_) (fun h1 => ?_) | refine Run.cond rfl (fun h1 => ?_) (fun h1 => ?_)
 refine Run.skip ?_
 refine Run.seq ?_
 refine Run.block ?_
 refine sr ?_
 obtain ⟨x, hx⟩ := get_ex (xs := s) (i := i) (by omega)
 have hzx := hz x (List.mem_of_getElem? hx)
 refine RunL.rdOpen pk hS (flat_ne (k := 7) (fun _ => rfl) (by decide) hx) fun bx ox ebx hrdx => ?_
 rw [ebx]
 have hll := tr_len hls
 rw [List.length_take] at hll
 refine sx 1 ?_
 refine RunL.op rfl rfl (OpJ.loadA inferInstance rfl pk (hrdx.elem (fun _ => rfl) hx) rfl ?_)
 refine RunL.op rfl rfl (OpJ.alloc Z63 fun b9 => ?_)
 refine RunL.op rfl rfl (OpJ.storeW T63 rfl rfl rfl rfl (by simp [Value.oneCell', Tg.c, Ln.c, En.c, Ac.c, Cl.c, Ky.c, Qy.c, Sb, Iv]) up ?_)
 refine kp [1, 5, 6, 7, 9, 18, 19, 20] rfl ?_
 refine sr ?_
 refine sx 3 ?_
 refine RunL.callX C78 rfl rfl rfl (c_Parse x.k.tags m0 R hM hzx.1) tks fun ⟨ta, tc⟩ _ => ?_
 refine sx 5 ?_
 refine kp [1, 5, 6, 7, 9, 10, 18, 19, 20] rfl ?_
 refine sr ?_
 refine sx 14 ?_
 refine RunL.set (congrArg I (show _ = -x.amt by rw [wrap_i64_in (by omega)]; omega)) ?_
 refine sx 3 ?_
 refine RunL.set (congrArg I (show _ = -x.base by rw [wrap_i64_in (by omega)]; omega)) ?_
 refine sx 1 ?_
 refine RunL.op rfl rfl (OpJ.buildSlice1 S40 rfl rfl rfl (by decide) (by decide) Z73 rfl fun b49 => ?_)
 refine RunL.callX C77 rfl rfl rfl (c_put b5 b49 la lc ls (⟨x.k.acc, x.k.cur, -x.amt, -x.base, x.k.partner, bs0, ta, tc, (parseT x.k.tags).getD []⟩ : Ln) (by omega)) tks fun ⟨la2, lc2⟩ _ => ?_
 refine kp [1, 5, 6, 7, 9, 18, 19, 20] rfl ?_
 refine sr ?_
 refine RunL.bigApp (tagH 151) ls (⟨x.k.acc, x.k.cur, -x.amt, -x.base, x.k.partner, bs0, ta, tc, (parseT x.k.tags).getD []⟩ : Ln) pk pk ?_
 refine sx 4 ?_
 refine RunL.op rfl rfl (OpJ.lookupM inferInstance inferInstance inferInstance rfl rfl pk ?_)
 refine RunL.op rfl rfl (OpJ.alloc Z141 fun b12 => ?_)
 refine RunL.op rfl rfl (OpJ.storeW T141 rfl rfl rfl rfl (by simp [Value.oneCell', Tg.c, Ln.c, En.c, Ac.c, Cl.c, Ky.c, Qy.c, Sb, Iv]) up ?_)
 refine kp [1, 5, 6, 7, 9, 12, 18, 19, 20] rfl ?_
 refine Run.region ?_
 refine sx 15 ?_
 refine RunL.op rfl rfl (OpJ.mapUpdate (amNew ms x) keyStr inferInstance inferInstance rfl rfl rfl up ?_)
 refine kp [1, 5, 6, 7, 18, 19, 20] rfl ?_
 refine Run.region ?_
 refine sx 2 ?_
 exact RunL.next (Keep.sub (kt (ks := [1, 5, 6, 7, 18, 19, 20]) rfl)) _ ⟨_, by omega, i + 1, ls ++ [(⟨x.k.acc, x.k.cur, -x.amt, -x.base, x.k.partner, bs0, ta, tc, (parseT x.k.tags).getD []⟩ : Ln)], kSet Am.cur (amNew ms x) ms, la2, lc2, rfl, by omega, (by rw [take_step hx, List.map_append, List.map_append, hls]; rfl), (by rw [take_step hx]; exact hA.step x), rfl, rfl⟩ gv
 refine Run.exit ?_
 refine Run.seq ?_
 refine sr ?_
 obtain rfl : i = s.length := by omega
 rw [List.take_length] at hls hA
 have hml := hA.len
 refine mvo rfl rfl ?_
 refine RunL.callX C80 rfl rfl rfl (c_Keys bm) tks fun nb _ => ?_
 refine RunL.callX C79 rfl rfl rfl (c_sortedKeys nb bm Am.cur amG ms (am_size hA hz) hA.nod (by have := hA.len; omega)) tks fun ⟨ka, kc⟩ _ => ?_
 rw [hA.keys]
 refine sx 2 ?_
 refine kp [1, 5, 6, 7, 74, 75, 76] rfl ?_
 refine Run.block ?_
 have hcl : (curS s).length = ms.length := by rw [← hA.keys, srtS_len, List.length_map]
 refine Run.weak (L' := [pt b5 (blk [.slice la ls.length lc] 40), own 73 7 la ls.length lc (ls.flatMap Ln.c), big (tagH 151) ls, own 9 1 ka ms.length kc ((curS s).flatMap Sb), amap bm amF amG ms, S, R]) (fun _ _ h => h) gv ?_
 refine Run.loop (fun mm E L => ∃ (i : Nat) (ls : List Ln) (la : Option Addr) (lc : Nat), mm = ms.length - i ∧ i ≤ ms.length ∧ ls.map Ln.e = s.map negL ++ ((curS s).take i).filterMap (againstW s to) ∧ E = [(1, St to), (5, .pointer (some ⟨b5, 0, none⟩)), (6, .func (.func 77) ⟨[]⟩ ⟨[.pointer (some ⟨b5, 0, none⟩)]⟩), (7, .map (some bm)), (74, .slice ka ms.length kc), (75, I ms.length), (76, I i)] ∧ L = [pt b5 (blk [.slice la ls.length lc] 40), own 73 7 la ls.length lc (ls.flatMap Ln.c), big (tagH 151) ls, own 9 1 ka ms.length kc ((curS s).flatMap Sb), amap bm amF amG ms, S, R]) ⟨_, 0, ls, la, lc, rfl, Nat.zero_le _, (by rw [hls]; simp), rfl, rfl⟩ ?_
 rintro _ _ _ ⟨i, ls, la, lc, rfl, hi, hlw, rfl, rfl⟩
 refine sr ?_
 refine sx 1 ?_
 refine kp [1, 5, 6, 7, 74, 75, 76, 77] rfl ?_
 refine Run.seq ?_
 first | refine Run.if rfl (fun h2 => ?_) (fun h2 => ?_) | refine Run.cond rfl (fun h2 => ?_) (fun h2 => ?_)
 refine Run.skip ?_
 refine Run.seq ?_
 refine Run.block ?_
 refine sr ?_
 obtain ⟨c, hx⟩ := get_ex (xs := curS s) (i := i) (by omega)
 refine RunL.ownAddr pk (flat_ne (k := 1) (fun _ => rfl) (by decide) hx) fun bs1 e hcap => ?_
 subst e
 have hv := hA.val c
 have hll : ls.length ≤ s.length + i := trw_len hlw
 refine sx 1 ?_
 refine RunL.op rfl rfl (OpJ.load1 inferInstance rfl pk (own.el (enc := Sb) hx (by decide) (fun _ => rfl)) ?_)
 refine asg rfl rfl ?_
 refine kp [1, 5, 6, 7, 14, 74, 75, 76] rfl ?_
 refine sr ?_
 refine sx 2 ?_
 refine RunL.op rfl rfl (OpJ.lookupM inferInstance inferInstance inferInstance rfl rfl pk ?_)
 refine RunL.set (v := .agg ⟨[I (wr (sumA (byC c s))), I (wr (sumB (byC c s)))]⟩) (by rw [amG, hv.1, hv.2]) ?_
 refine RunL.op rfl rfl (OpJ.alloc Z141 fun b15 => ?_)
 refine RunL.op rfl rfl (OpJ.storeW T141 rfl rfl rfl rfl (by simp [Value.oneCell', Tg.c, Ln.c, En.c, Ac.c, Cl.c, Ky.c, Qy.c, Sb, Iv]) up ?_)
 refine kp [1, 5, 6, 7, 14, 15, 74, 75, 76] rfl ?_
 refine sr ?_
 refine sx 3 ?_
 refine kp [1, 5, 6, 7, 14, 15, 74, 75, 76, 85] rfl ?_
 first | refine Run.if rfl (fun h3 => ?_) (fun h3 => ?_) | refine Run.cond rfl (fun h3 => ?_) (fun h3 => ?_)
 refine Run.region ?_
 refine sx 8 ?_
 refine RunL.op rfl rfl (OpJ.buildSlice1 S40 rfl rfl rfl (by decide) (by decide) Z73 rfl fun b94 => ?_)
 refine RunL.callX C77 rfl rfl rfl (c_put b5 b94 la lc ls (⟨to, c, wr (sumA (byC c s)), wr (sumB (byC c s)), bs0, bs0, none, 0, []⟩ : Ln) (by omega)) tks fun ⟨la2, lc2⟩ _ => ?_
 refine RunL.ownNil 151 2 ?_
 refine RunL.bigApp (tagH 151) ls (⟨to, c, wr (sumA (byC c s)), wr (sumB (byC c s)), bs0, bs0, none, 0, []⟩ : Ln) pk pk ?_
 refine kp [1, 5, 6, 7, 74, 75, 76] rfl ?_
 refine Run.region ?_
 refine sx 2 ?_
 first
 | have hag : againstW s to c = some (⟨to, c, wr (sumA (byC c s)), wr (sumB (byC c s)), bs0, bs0, none, 0, []⟩ : Ln) := if_neg (fun h => by rw [decide_eq_true h.1, decide_eq_true h.2] at h3; cases h3)
   exact RunL.next (Keep.sub (kt (ks := [1, 5, 6, 7, 74, 75, 76]) rfl)) _ ⟨_, by omega, i + 1, ls ++ [(⟨to, c, wr (sumA (byC c s)), wr (sumB (byC c s)), bs0, bs0, none, 0, []⟩ : Ln)], la2, lc2, rfl, by omega, (by rw [ag_step hx, hag, List.map_append, hlw, List.append_assoc]; rfl), rfl, rfl⟩ gv
 | have hag : againstW s to c = none := if_pos (by simpa using h3)
   exact RunL.next (Keep.sub (kt (ks := [1, 5, 6, 7, 74, 75, 76]) rfl)) _ ⟨_, by omega, i + 1, ls, la, lc, rfl, by omega, (by rw [ag_step hx, hag, hlw]; simp), rfl, rfl⟩ gv
 refine Run.skip ?_
 refine Run.region ?_
 refine sx 2 ?_
 first
 | have hag : againstW s to c = some (⟨to, c, wr (sumA (byC c s)), wr (sumB (byC c s)), bs0, bs0, none, 0, []⟩ : Ln) := if_neg (fun h => by rw [decide_eq_true h.1, decide_eq_true h.2] at h3; cases h3)
   exact RunL.next (Keep.sub (kt (ks := [1, 5, 6, 7, 74, 75, 76]) rfl)) _ ⟨_, by omega, i + 1, ls ++ [(⟨to, c, wr (sumA (byC c s)), wr (sumB (byC c s)), bs0, bs0, none, 0, []⟩ : Ln)], la2, lc2, rfl, by omega, (by rw [ag_step hx, hag, List.map_append, hlw, List.append_assoc]; rfl), rfl, rfl⟩ gv
 | have hag : againstW s to c = none := if_pos (by simpa using h3)
   exact RunL.next (Keep.sub (kt (ks := [1, 5, 6, 7, 74, 75, 76]) rfl)) _ ⟨_, by omega, i + 1, ls, la, lc, rfl, by omega, (by rw [ag_step hx, hag, hlw]; simp), rfl, rfl⟩ gv
 refine Run.exit ?_
 refine sr ?_
 refine sx 2 ?_
 refine kp [4] rfl ?_
 refine Run.ret ?_
 exact ret_out (ls, la, lc) (.tmp rfl .nil) (by rw [hlw, List.take_of_length_le (by omega)]; rfl) rfl gv
theorem c_Entry0 (ls : Value) (ent : ByteArray) (year book first : Int) (to who : ByteArray) : AC Tryz.prog 16 ⟨[.pointer none, .agg ⟨[I first]⟩, ls, St ent, I year, I book, St to, St who]⟩ (stars []) (Ret (.tuple ⟨[.agg ⟨en0.c⟩, I 1]⟩) []) := by
 refine AC.go Tryz.func16 rfl (Nat.le_of_ble_eq_true rfl) fun β => ?_
 refine sr ?_
 refine RunL.op rfl rfl (OpJ.boxA rfl fun b9 => ?_)
 refine RunL.op rfl rfl (OpJ.alloc Z42 fun b16 => ?_)
 refine asg rfl rfl ?_
 refine kp [0, 2, 3, 4, 5, 6, 7, 9, 16] rfl ?_
 refine sr ?_
 refine sx 6 ?_
 refine RunL.call C34 rfl rfl rfl (c_result0 (I 0) ls trivial ent year book first) .nil ?_
 refine sx 7 ?_
 refine kp [0, 3, 5, 6, 7, 16, 17, 18, 19] rfl ?_
 refine Run.seq ?_
 refine sr ?_
 refine sx 2 ?_
 refine kp [0, 3, 5, 6, 7, 16, 17, 18, 19, 36] rfl ?_
 refine Run.true rfl ?_
 refine sr ?_
 refine sx 2 ?_
 refine RunL.op rfl rfl (OpJ.storeW T42 rfl rfl rfl rfl (by simp [Value.oneCell', Tg.c, Ln.c, En.c, Ac.c, Cl.c, Ky.c, Qy.c, Sb, Iv]) up ?_)
 refine asg rfl rfl ?_
 refine kp [16, 17] rfl ?_
 refine Run.ret ?_
 exact ret_one (.cellA T42 rfl pk (by rfl) (.tmp rfl .nil)) (rfl) gv
theorem c_Entry (b bm : Nat) (v w : Value) (m : List Ac) (hm6 : ∀ a ∈ m, a.need.length ≤ 6) (R : HP) (oa : Option Addr) (cap : Nat) (l : List En) (hR0 : Rd R ⟨0, 0, none⟩ lensC) (hR : RdS R oa (l.flatMap En.c)) (hrd : ∀ e ∈ l, e.rd R) (hl : l.length ≤ 1000) (first : Int) (ent : ByteArray) (year book : Int) (to who : ByteArray) (m0 : Int) (hM : Rd R ⟨1, 0, none⟩ [I m0]) (hz : ∀ x ∈ (resM m first l ent year book).1, x.k.tags.size < 4294967281 ∧ x.k.cur.size ≤ maxLen ∧ (-1000000000000000 ≤ x.amt ∧ x.amt ≤ 1000000000000000) ∧ (-1000000000000000 ≤ x.base ∧ x.base ≤ 1000000000000000)) : AC Tryz.prog 16 ⟨[.pointer (some ⟨b, 0, none⟩), .agg ⟨[I first]⟩, .slice oa l.length cap, St ent, I year, I book, St to, St who]⟩ (stars [pt b (blk [.map (some bm), v, w] 110), amap bm acF acG m, big (ndH 9) m, R]) (Outs (fun y : En => y.e = (entM m first l ent year book to who).1) (fun y => .tuple ⟨[.agg ⟨y.c⟩, I (entM m first l ent year book to who).2]⟩) (fun y => [own 73 7 y.la y.lines.length y.lc (y.lines.flatMap Ln.c), big (tagH 151) y.lines, pt b (blk [.map (some bm), v, w] 110), amap bm acF acG m, big (ndH 9) m, R])) := by
 refine AC.go Tryz.func16 rfl (Nat.le_of_ble_eq_true rfl) fun β => ?_
 refine sr ?_
 refine RunL.op rfl rfl (OpJ.boxA rfl fun b9 => ?_)
 refine RunL.op rfl rfl (OpJ.alloc Z42 fun b16 => ?_)
 refine asg rfl rfl ?_
 refine kp [0, 2, 3, 4, 5, 6, 7, 9, 16] rfl ?_
 refine sr ?_
 refine sx 6 ?_
 refine RunL.callX C34 rfl rfl rfl (c_result b bm v w m hm6 R oa cap l hR0 hR hrd hl first ent year book) tks fun ⟨sa, sc⟩ _ => ?_
 refine sx 7 ?_
 refine kp [0, 3, 5, 6, 7, 16, 17, 18, 19] rfl ?_
 refine Run.seq ?_
 refine sr ?_
 refine sx 2 ?_
 refine kp [0, 3, 5, 6, 7, 16, 17, 18, 19, 36] rfl ?_
 first | refine Run.if rfl (fun h1 => ?_) (fun h1 => ?_) | refine Run.cond rfl (fun h1 => ?_) (fun h1 => ?_)
 refine sr ?_
 refine RunL.ownNil 73 7 ?_
 refine RunL.bigNil (tagH 151) ?_
 refine sx 2 ?_
 refine RunL.op rfl rfl (OpJ.storeW T42 rfl rfl rfl rfl (by simp [Value.oneCell', Tg.c, Ln.c, En.c, Ac.c, Cl.c, Ky.c, Qy.c, Sb, Iv]) up ?_)
 refine asg rfl rfl ?_
 refine kp [16, 17] rfl ?_
 refine Run.ret ?_
 have hE := ent_err (to := to) (who := who) (by simpa using h1)
 rw [hE]
 exact ret_out en0 (.cellA T42 rfl pk (by rfl) (.tmp rfl .nil)) rfl rfl gv
 refine Run.skip ?_
 refine Run.seq ?_
 refine sr ?_
 refine sx 2 ?_
 refine RunL.callX C21 rfl rfl rfl (c_Get b bm v w m hm6 to) tks fun ⟨na, nc⟩ _ => ?_
 rcases hg : getL m to with _ | a
 rw [lk_none hg]
 refine sx 3 ?_
 refine RunL.op rfl rfl (OpJ.alloc Z57 fun b20 => ?_)
 refine RunL.op rfl rfl (OpJ.storeW T57 rfl rfl rfl rfl (by simp [Value.oneCell', Tg.c, Ln.c, En.c, Ac.c, Cl.c, Ky.c, Qy.c, Sb, Iv]) up ?_)
 refine asg rfl rfl ?_
 refine kp [3, 5, 6, 7, 16, 18, 19, 20, 21] rfl ?_
 refine sr ?_
 refine sx 12 ?_
 refine kp [3, 5, 6, 7, 16, 18, 19, 56] rfl ?_
 refine Run.true rfl ?_
 refine sr ?_
 refine RunL.ownNil 73 7 ?_
 refine RunL.bigNil (tagH 151) ?_
 refine sx 1 ?_
 refine RunL.op rfl rfl (OpJ.storeW T42 rfl rfl rfl rfl (by simp [Value.oneCell', Tg.c, Ln.c, En.c, Ac.c, Cl.c, Ky.c, Qy.c, Sb, Iv]) up ?_)
 refine asg rfl rfl ?_
 refine kp [16, 17] rfl ?_
 refine Run.ret ?_
 have hE := ent_no (who := who) (by simpa using h1) hg
 rw [hE]
 exact ret_out en0 (.cellA T42 rfl pk (by rfl) (.tmp rfl .nil)) rfl rfl gv
 rw [lk_some hg]
 refine sx 3 ?_
 refine RunL.op rfl rfl (OpJ.alloc Z57 fun b20 => ?_)
 refine RunL.op rfl rfl (OpJ.storeW T57 rfl rfl rfl rfl (by simp [Value.oneCell', Tg.c, Ln.c, En.c, Ac.c, Cl.c, Ky.c, Qy.c, Sb, Iv]) up ?_)
 refine asg rfl rfl ?_
 refine kp [3, 5, 6, 7, 16, 18, 19, 20, 21] rfl ?_
 refine sr ?_
 refine sx 8 ?_
 first | refine RunL.splitP (t := 52) rfl (fun g2 => ?_) (fun g2 => ?_) | refine RunL.split (t := 52) rfl (fun g2 => ?_) (fun g2 => ?_)
 refine sx 4 ?_
 refine kp [3, 5, 6, 7, 16, 18, 19, 56] rfl ?_
 refine Run.true rfl ?_
 refine sr ?_
 refine RunL.ownNil 73 7 ?_
 refine RunL.bigNil (tagH 151) ?_
 refine sx 1 ?_
 refine RunL.op rfl rfl (OpJ.storeW T42 rfl rfl rfl rfl (by simp [Value.oneCell', Tg.c, Ln.c, En.c, Ac.c, Cl.c, Ky.c, Qy.c, Sb, Iv]) up ?_)
 refine asg rfl rfl ?_
 refine kp [16, 17] rfl ?_
 refine Run.ret ?_
 have hE := ent_bad (who := who) (by simpa using h1) hg (by have hq : a.post = false := (by simpa [Ac.put] using g2); rw [hq]; rfl)
 rw [hE]
 exact ret_out en0 (.cellA T42 rfl pk (by rfl) (.tmp rfl .nil)) rfl rfl gv
 refine sx 4 ?_
 refine kp [3, 5, 6, 7, 16, 18, 19, 56] rfl ?_
 first | refine Run.if rfl (fun h3 => ?_) (fun h3 => ?_) | refine Run.cond rfl (fun h3 => ?_) (fun h3 => ?_)
 refine sr ?_
 refine RunL.ownNil 73 7 ?_
 refine RunL.bigNil (tagH 151) ?_
 refine sx 1 ?_
 refine RunL.op rfl rfl (OpJ.storeW T42 rfl rfl rfl rfl (by simp [Value.oneCell', Tg.c, Ln.c, En.c, Ac.c, Cl.c, Ky.c, Qy.c, Sb, Iv]) up ?_)
 refine asg rfl rfl ?_
 refine kp [16, 17] rfl ?_
 refine Run.ret ?_
 have hE := ent_bad (who := who) (by simpa using h1) hg (by have hq : ¬ a.kind = 3 := (by simpa [Ac.put] using h3); rw [decide_eq_false hq, Bool.and_false])
 rw [hE]
 exact ret_out en0 (.cellA T42 rfl pk (by rfl) (.tmp rfl .nil)) rfl rfl gv
 refine Run.skip ?_
 refine Run.seq ?_
 refine sr ?_
 refine sx 3 ?_
 refine kp [3, 5, 6, 7, 16, 18, 19, 60] rfl ?_
 first | refine Run.if rfl (fun h4 => ?_) (fun h4 => ?_) | refine Run.cond rfl (fun h4 => ?_) (fun h4 => ?_)
 refine sr ?_
 refine RunL.ownNil 73 7 ?_
 refine RunL.bigNil (tagH 151) ?_
 refine sx 1 ?_
 refine RunL.op rfl rfl (OpJ.storeW T42 rfl rfl rfl rfl (by simp [Value.oneCell', Tg.c, Ln.c, En.c, Ac.c, Cl.c, Ky.c, Qy.c, Sb, Iv]) up ?_)
 refine asg rfl rfl ?_
 refine kp [16, 17] rfl ?_
 refine Run.ret ?_
 have hE := ent_nil (who := who) (by simpa using h1) hg ⟨by simpa [Ac.put] using g2, by simpa [Ac.put] using h3⟩ (by omega)
 rw [hE]
 exact ret_out en0 (.cellA T42 rfl pk (by rfl) (.tmp rfl .nil)) rfl rfl gv
 refine Run.skip ?_
 refine sr ?_
 refine sx 6 ?_
 have hrl : (resM m first l ent year book).1.length ≤ 100000 := res_len hl
 refine RunL.callX C38 rfl rfl rfl (c_transfer (own 63 7 sa (resM m first l ent year book).1.length sc ((resM m first l ent year book).1.flatMap Cl.c)) R sa sc (resM m first l ent year book).1 to m0 own.rds hM hrl hz) tks fun ⟨ls, la, lc⟩ hls => ?_
 refine sx 1 ?_
 refine RunL.op rfl rfl (OpJ.storeW T42 rfl rfl rfl rfl (by simp [Value.oneCell', Tg.c, Ln.c, En.c, Ac.c, Cl.c, Ky.c, Qy.c, Sb, Iv]) up ?_)
 refine kp [16] rfl ?_
 refine Run.seq ?_
 refine sr ?_
 refine sx 1 ?_
 refine RunL.packs [own 73 7 la ls.length lc (ls.flatMap Ln.c), big (tagH 151) ls, R] tks ?_
 refine RunL.call C39 rfl rfl rfl (c_Check ⟨0, ent, book, lastR m first l ent year book, 4, bs0, who, 0, la, lc, ls⟩ (stars [own 73 7 la ls.length lc (ls.flatMap Ln.c), big (tagH 151) ls, R]) (en_R0 hR0) (en_rd hls hz)) tks ?_
 refine RunL.unstar (As := [own 73 7 la ls.length lc (ls.flatMap Ln.c), big (tagH 151) ls, R]) pk ?_
 refine sx 5 ?_
 refine kp [16, 23] rfl ?_
 refine sr ?_
 refine sx 2 ?_
 refine kp [16, 23, 76] rfl ?_
 first | refine Run.if rfl (fun h5 => ?_) (fun h5 => ?_) | refine Run.cond rfl (fun h5 => ?_) (fun h5 => ?_)
 refine sr ?_
 refine RunL.ownNil 73 7 ?_
 refine RunL.bigNil (tagH 151) ?_
 refine sx 2 ?_
 refine RunL.op rfl rfl (OpJ.storeW T42 rfl rfl rfl rfl (by simp [Value.oneCell', Tg.c, Ln.c, En.c, Ac.c, Cl.c, Ky.c, Qy.c, Sb, Iv]) up ?_)
 refine asg rfl rfl ?_
 refine kp [16, 17] rfl ?_
 refine Run.ret ?_
 have hE := ent_fin (who := who) (la := la) (lc := lc) (by simpa using h1) hg ⟨by simpa [Ac.put] using g2, by simpa [Ac.put] using h3⟩ (by omega) hls hz
 rw [if_neg (by simpa using h5)] at hE
 rw [hE]
 exact ret_out en0 (.cellA T42 rfl pk (by rfl) (.tmp rfl .nil)) rfl rfl gv
 refine Run.skip ?_
 refine sr ?_
 refine sx 1 ?_
 refine RunL.op rfl rfl (OpJ.storeW T42 rfl rfl rfl rfl (by simp [Value.oneCell', Tg.c, Ln.c, En.c, Ac.c, Cl.c, Ky.c, Qy.c, Sb, Iv]) up ?_)
 refine asg rfl rfl ?_
 refine kp [16, 17] rfl ?_
 refine Run.ret ?_
 have hE := ent_fin (who := who) (la := la) (lc := lc) (by simpa using h1) hg ⟨by simpa [Ac.put] using g2, by simpa [Ac.put] using h3⟩ (by omega) hls hz
 rw [if_pos (by simpa using h5)] at hE
 rw [hE]
 exact ret_out (⟨0, ent, book, lastR m first l ent year book, 4, bs0, who, 0, la, lc, ls⟩ : En) (.cellA T42 rfl pk (by rfl) (.tmp rfl .nil)) rfl rfl gv
end
theorem c_NewO (R : HP) (oa : Option Addr) (cap : Nat) (xs : List Ac) (hR : RdS R oa (xs.flatMap Ac.c)) (hrd : ∀ a ∈ xs, a.rd R) (hl : xs.length ≤ 140737488355328) : AC Tryz.prog 31 ⟨[.slice oa xs.length cap]⟩ (stars [R]) (Outs (fun y : Option Chv × Int × Int => y.1.isSome = chartB xs ∧ ChOk y.1 xs) (fun y => .tuple ⟨[chV y.1, I y.2.1, I y.2.2]⟩) (fun y => [chH 110 9 y.1, R])) :=
  AC.outs (c_New R oa cap xs hR hrd hl) fun y hy => by
    by_cases hc : chartB xs = true
    · rw [if_pos hc, if_pos hc]
      exact ⟨(some y.1, 0, 0), ⟨hc.symm, (fun c e => by cases e; exact hy hc), fun _ => hc⟩, rfl, Imp.pack0 (As := [_, _, _])⟩
    · rw [if_neg hc, if_neg hc]
      exact ⟨(none, y.2), ⟨by simp at hc; rw [hc]; rfl, (fun c e => by cases e), fun h => by cases h⟩, rfl, Imp.emp⟩
theorem c_ResO (o : Option Chv) (xs : List Ac) (hs : ChOk o xs) (R : HP) (oa : Option Addr) (cap : Nat) (l : List En) (hR0 : Rd R ⟨0, 0, none⟩ lensC) (hR : RdS R oa (l.flatMap En.c)) (hrd : ∀ e ∈ l, e.rd R) (hl : o.isSome = true → l.length ≤ 1000) (first : Int) (ent : ByteArray) (year book : Int) : AC Tryz.prog 13 ⟨[chV o, .agg ⟨[I first]⟩, .slice oa l.length cap, St ent, I year, I book]⟩ (stars [chH 110 9 o, R]) (Outs (fun _ : Option Addr × Nat => True) (fun y => .tuple ⟨[.slice y.1 (resX o xs first l ent year book).1.length y.2, I (resX o xs first l ent year book).2]⟩) (fun y => [own 63 7 y.1 (resX o xs first l ent year book).1.length y.2 ((resX o xs first l ent year book).1.flatMap Cl.c), chH 110 9 o, R])) := by
  cases o with
  | none => exact AC.addF (c_Result0 (.slice oa l.length cap) ent year book first) (none, 0) trivial rfl (Imp.ownNil _ _)
  | some y =>
    rw [show resX (some y) xs first l ent year book = resM y.m first l ent year book from (res_st (hs.1 y rfl) ..).symm]
    exact AC.pre (AC.outs (c_Result y.b y.bm y.v y.w y.m hs.need R oa cap l hR0 hR hrd (hl rfl) first ent year book) fun z _ => ⟨z, trivial, rfl, Imp.pack1 (As := [_, _, _])⟩) fun h hh => stars_mk hh
theorem c_EntO (o : Option Chv) (xs : List Ac) (hs : ChOk o xs) (R : HP) (oa : Option Addr) (cap : Nat) (l : List En) (hR0 : Rd R ⟨0, 0, none⟩ lensC) (hR : RdS R oa (l.flatMap En.c)) (hrd : ∀ e ∈ l, e.rd R) (hl : o.isSome = true → l.length ≤ 1000) (first : Int) (ent : ByteArray) (year book : Int) (to who : ByteArray) (m0 : Int) (hM : Rd R ⟨1, 0, none⟩ [I m0]) : AC Tryz.prog 16 ⟨[chV o, .agg ⟨[I first]⟩, .slice oa l.length cap, St ent, I year, I book, St to, St who]⟩ (stars [chH 110 9 o, R]) (Outs (fun y : En => y.e = (entX o xs first l ent year book to who).1) (fun y => .tuple ⟨[.agg ⟨y.c⟩, I (entX o xs first l ent year book to who).2]⟩) (fun y => [own 73 7 y.la y.lines.length y.lc (y.lines.flatMap Ln.c), big (tagH 151) y.lines, chH 110 9 o, R])) := by
  cases o with
  | none => exact AC.addF (c_Entry0 (.slice oa l.length cap) ent year book first to who) en0 rfl rfl (Imp.trans (Imp.bigNil' (tagH 151)) (Imp.ownNil _ _))
  | some y =>
    rw [show entX (some y) xs first l ent year book to who = entM y.m first l ent year book to who from (ent_st (hs.1 y rfl) ..).symm]
    exact AC.pre (AC.outs (c_Entry y.b y.bm y.v y.w y.m hs.need R oa cap l hR0 hR hrd (hl rfl) first ent year book to who m0 hM res_ok) fun z hz => ⟨z, hz, rfl, Imp.pack2 (As := [_, _, _])⟩) fun h hh => stars_mk hh
section
attribute [local irreducible] OpJ RunL Run RunD DetJ pt own star Rd RdS
theorem c_lives (R : HP) (m0 : Int) (hR0 : Rd R ⟨0, 0, none⟩ lensC) (hM : Rd R ⟨1, 0, none⟩ [I m0]) : AC Tryz.prog 12 ⟨[]⟩ (stars [R]) (Ret (Bo true) [R]) := by
 refine AC.go Tryz.func12 rfl (Nat.le_of_ble_eq_true rfl) fun β => ?_
 refine sr ?_
 refine asg rfl rfl ?_
 refine kp [] rfl ?_
 refine sr ?_
 refine RunL.callX C32 rfl rfl rfl c_small tks fun b16 _ => ?_
 refine RunL.callX C31 rfl rfl rfl (c_NewO (pt b16 (blk (xsX.flatMap Ac.c) 57)) (bpt b16) 4 xsX (Rd.rds Rd.whole) liv_x (by decide)) tks fun ⟨o, p1, p2⟩ hy => ?_
 have ho : o.isSome = true := hy.1.trans liv_chart
 have hs := hy.2
 refine mvo rfl rfl ?_
 refine RunL.op rfl rfl (OpJ.extract rfl rfl ?_)
 refine RunL.op rfl rfl (OpJ.extract rfl rfl ?_)
 refine RunL.op rfl rfl (OpJ.extract rfl rfl ?_)
 refine asg rfl rfl ?_
 refine asg rfl rfl ?_
 refine asg rfl rfl ?_
 refine kp [1] rfl ?_
 refine sr ?_
 refine RunL.callX C33 rfl rfl rfl (c_sale 1 46000 s40 9 (by decide)) tks fun b21 _ => ?_
 refine RunL.callX C33 rfl rfl rfl (c_sale 2 46010 s50 (-4) (by decide)) tks fun b22 _ => ?_
 refine RunL.callX C33 rfl rfl rfl (c_sale 3 46021 s40 100 (by decide)) tks fun b23 _ => ?_
 refine RunL.op rfl rfl (OpJ.buildSliceN (cs := (lXb b21 b22 b23).flatMap En.c) inferInstance Z42 rfl (by decide) (by decide) rfl (by rfl) (by rfl) fun b24 => ?_)
 refine asg rfl rfl ?_
 refine kp [1, 4] rfl ?_
 refine sr ?_
 refine RunL.packs [pt b24 (blk ((lXb b21 b22 b23).flatMap En.c) 42), pt b23 (blk (lineX s40 100) 73), pt b22 (blk (lineX s50 (-4)) 73), pt b21 (blk (lineX s40 9) 73), R] tks ?_
 refine mvo rfl rfl ?_
 refine RunL.op rfl rfl (OpJ.build B24 rfl rfl fun cs hcs => ?_)
 simp only [Tg.c, Ln.c, En.c, Ac.c, Cl.c, Ky.c, Qy.c, Cs.c, bldL, bldA, Value.cells, bs, Nat.reduceAdd, Nat.reduceLeDiff, Nat.reduceLT] at hcs; subst hcs
 refine mvo rfl rfl ?_
 refine RunL.callX C13 rfl rfl rfl (c_ResO o xsX hs (livR 42 73 b21 b22 b23 b24 R) (bpt b24) 3 (lXb b21 b22 b23) (liv_0 hR0) liv_l liv_e (fun _ => Nat.le_of_ble_eq_true rfl) 1 sa 2025 46100) tks fun ⟨ra, rc⟩ _ => ?_
 rw [resX_some ho, liv_res]
 dsimp only
 refine mvo rfl rfl ?_
 refine RunL.op rfl rfl (OpJ.extract rfl rfl ?_)
 refine RunL.op rfl rfl (OpJ.extract rfl rfl ?_)
 refine asg rfl rfl ?_
 refine asg rfl rfl ?_
 refine kp [1, 4, 5, 6] rfl ?_
 refine sr ?_
 refine mvo rfl rfl ?_
 refine RunL.op rfl rfl (OpJ.build B24 rfl rfl fun cs hcs => ?_)
 simp only [Tg.c, Ln.c, En.c, Ac.c, Cl.c, Ky.c, Qy.c, Cs.c, bldL, bldA, Value.cells, bs, Nat.reduceAdd, Nat.reduceLeDiff, Nat.reduceLT] at hcs; subst hcs
 refine mvo rfl rfl ?_
 refine RunL.callX C16 rfl rfl rfl (c_EntO o xsX hs (livR 42 73 b21 b22 b23 b24 R) (bpt b24) 3 (lXb b21 b22 b23) (liv_0 hR0) liv_l liv_e (fun _ => Nat.le_of_ble_eq_true rfl) 1 sa 2025 46100 s30 su m0 (liv_m hM)) tks fun y hye => ?_
 obtain ⟨hv, hk, a1, c1, a2, c2, a3, c3, hl⟩ := liv_lines ho hye
 clear hye
 obtain ⟨yno, yent, ybook, yvalue, ykind, yref, ywho, yrev, yla, ylc, ylines⟩ := y
 dsimp only at hv hk hl
 subst hv hk hl
 rw [entX_some ho, liv_ent]
 dsimp only
 refine mvo rfl rfl ?_
 refine RunL.op rfl rfl (OpJ.extract rfl rfl ?_)
 refine RunL.op rfl rfl (OpJ.extract rfl rfl ?_)
 refine RunL.op rfl rfl (OpJ.alloc Z42 fun b7 => ?_)
 refine RunL.op rfl rfl (OpJ.storeW T42 rfl rfl rfl rfl (by simp [Value.oneCell', Tg.c, Ln.c, En.c, Ac.c, Cl.c, Ky.c, Qy.c, Sb, Iv, Cs.c]) up ?_)
 refine asg rfl rfl ?_
 refine kp [1, 4, 5, 6, 7, 8] rfl ?_
 refine sr ?_
 refine mvo rfl rfl ?_
 refine RunL.op rfl rfl (OpJ.build B24 rfl rfl fun cs hcs => ?_)
 simp only [Tg.c, Ln.c, En.c, Ac.c, Cl.c, Ky.c, Qy.c, Cs.c, bldL, bldA, Value.cells, bs, Nat.reduceAdd, Nat.reduceLeDiff, Nat.reduceLT] at hcs; subst hcs
 refine mvo rfl rfl ?_
 refine RunL.callX C16 rfl rfl rfl (c_EntO o xsX hs (livR 42 73 b21 b22 b23 b24 R) (bpt b24) 3 (lXb b21 b22 b23) (liv_0 hR0) liv_l liv_e (fun _ => Nat.le_of_ble_eq_true rfl) 1 sa 2025 46100 s10 su m0 (liv_m hM)) tks fun y2 _ => ?_
 rw [entX_some ho, liv_ent2]
 refine mvo rfl rfl ?_
 refine RunL.op rfl rfl (OpJ.extract rfl rfl ?_)
 refine RunL.op rfl rfl (OpJ.extract rfl rfl ?_)
 refine RunL.op rfl rfl (OpJ.alloc Z42 fun b9 => ?_)
 refine RunL.op rfl rfl (OpJ.storeW T42 rfl rfl rfl rfl (by simp [Value.oneCell', Tg.c, Ln.c, En.c, Ac.c, Cl.c, Ky.c, Qy.c, Sb, Iv, Cs.c]) up ?_)
 refine asg rfl rfl ?_
 refine kp [1, 4, 5, 6, 7, 8, 10] rfl ?_
 refine sr ?_
 refine mvo rfl rfl ?_
 refine RunL.op rfl rfl (OpJ.build B24 rfl rfl fun cs hcs => ?_)
 simp only [Tg.c, Ln.c, En.c, Ac.c, Cl.c, Ky.c, Qy.c, Cs.c, bldL, bldA, Value.cells, bs, Nat.reduceAdd, Nat.reduceLeDiff, Nat.reduceLT] at hcs; subst hcs
 refine mvo rfl rfl ?_
 refine RunL.callX C16 rfl rfl rfl (c_EntO o xsX hs (livR 42 73 b21 b22 b23 b24 R) (bpt b24) 3 (lXb b21 b22 b23) (liv_0 hR0) liv_l liv_e (fun _ => Nat.le_of_ble_eq_true rfl) 1 sa 2024 46100 s30 su m0 (liv_m hM)) tks fun y3 _ => ?_
 rw [entX_some ho, liv_ent3]
 refine mvo rfl rfl ?_
 refine RunL.op rfl rfl (OpJ.extract rfl rfl ?_)
 refine RunL.op rfl rfl (OpJ.extract rfl rfl ?_)
 refine RunL.op rfl rfl (OpJ.alloc Z42 fun b11 => ?_)
 refine RunL.op rfl rfl (OpJ.storeW T42 rfl rfl rfl rfl (by simp [Value.oneCell', Tg.c, Ln.c, En.c, Ac.c, Cl.c, Ky.c, Qy.c, Sb, Iv, Cs.c]) up ?_)
 refine asg rfl rfl ?_
 refine kp [1, 4, 5, 6, 7, 8, 10, 12] rfl ?_
 refine sr ?_
 refine mvo rfl rfl ?_
 refine RunL.op rfl rfl (OpJ.build B24 rfl rfl fun cs hcs => ?_)
 simp only [Tg.c, Ln.c, En.c, Ac.c, Cl.c, Ky.c, Qy.c, Cs.c, bldL, bldA, Value.cells, bs, Nat.reduceAdd, Nat.reduceLeDiff, Nat.reduceLT] at hcs; subst hcs
 refine mvo rfl rfl ?_
 refine RunL.callX C13 rfl rfl rfl (c_ResO o xsX hs (livR 42 73 b21 b22 b23 b24 R) (bpt b24) 3 (lXb b21 b22 b23) (liv_0 hR0) liv_l liv_e (fun _ => Nat.le_of_ble_eq_true rfl) 1 sa 2200 46100) tks fun ⟨rb, rd⟩ _ => ?_
 rw [resX_some ho, liv_res2]
 refine mvo rfl rfl ?_
 refine RunL.op rfl rfl (OpJ.extract rfl rfl ?_)
 refine RunL.op rfl rfl (OpJ.extract rfl rfl ?_)
 refine asg rfl rfl ?_
 refine asg rfl rfl ?_
 refine kp [5, 6, 7, 8, 10, 12, 14] rfl ?_
 refine Run.seq ?_
 refine sr ?_
 refine RunL.ownAddr (oa := ra) pk (by simp [Cl.c]) fun bs1 e1 hcap1 => ?_
 subst e1
 refine RunL.ownAddr (oa := yla) pk (by simp [Ln.c]) fun bs2 e2 hcap2 => ?_
 subst e2
 have z2 : ([⟨⟨sa, s40, sEUR, bs0, bs0⟩, -9, -9⟩, ⟨⟨sa, s50, sEUR, bs0, bs0⟩, 4, 4⟩] : List Cl).length = 2 := rfl
 have z3 : ([⟨s40, sEUR, 9, 9, bs0, bs0, a1, c1, []⟩, ⟨s50, sEUR, -4, -4, bs0, bs0, a2, c2, []⟩, ⟨s30, sEUR, -5, -5, bs0, bs0, a3, c3, []⟩] : List Ln).length = 3 := rfl
 have z4 : (⟨yno, yent, ybook, 46020, 4, yref, ywho, yrev, some ⟨bs2, 0, none⟩, ylc, [⟨s40, sEUR, 9, 9, bs0, bs0, a1, c1, []⟩, ⟨s50, sEUR, -4, -4, bs0, bs0, a2, c2, []⟩, ⟨s30, sEUR, -5, -5, bs0, bs0, a3, c3, []⟩]⟩ : En).lines.length = 3 := rfl
 refine mvo rfl rfl ?_
 refine RunL.op rfl rfl (OpJ.neq rfl rfl ?_)
 refine mvo rfl rfl ?_
 refine RunL.yes rfl rfl rfl rfl (OpJ.move rfl ?_)
 refine RunL.yes rfl rfl rfl rfl (OpJ.neq rfl rfl ?_)
 refine RunL.op rfl rfl (OpJ.pickF rfl rfl ?_)
 refine mvo rfl rfl ?_
 refine RunL.yes rfl rfl rfl rfl (OpJ.move rfl ?_)
 refine RunL.yes rfl rfl rfl rfl (OpJ.neq rfl rfl ?_)
 refine RunL.op rfl rfl (OpJ.pickF rfl rfl ?_)
 refine mvo rfl rfl ?_
 refine RunL.yes rfl rfl rfl rfl (OpJ.move rfl ?_)
 refine RunL.yes rfl rfl rfl rfl (OpJ.neq rfl rfl ?_)
 refine RunL.op rfl rfl (OpJ.pickF rfl rfl ?_)
 refine mvo rfl rfl ?_
 refine RunL.yes rfl rfl rfl rfl (OpJ.move rfl ?_)
 refine RunL.yes rfl rfl rfl rfl (OpJ.neq rfl rfl ?_)
 refine RunL.op rfl rfl (OpJ.pickF rfl rfl ?_)
 refine mvo rfl rfl ?_
 refine RunL.yes rfl rfl rfl rfl (OpJ.move rfl ?_)
 refine RunL.yes rfl rfl rfl rfl (OpJ.len S32 rfl ?_)
 refine RunL.yes rfl rfl rfl rfl (OpJ.neq rfl rfl ?_)
 refine RunL.op rfl rfl (OpJ.pickF rfl rfl ?_)
 refine mvo rfl rfl ?_
 refine RunL.yes rfl rfl rfl rfl (OpJ.fieldAddr F42_8 rfl ?_)
 first | refine RunL.yes rfl rfl rfl rfl (OpJ.loadF T40 rfl pk (by rfl) ?_) | refine RunL.yes rfl rfl rfl rfl (OpJ.loadO T40 rfl pk (by assumption) (by rfl) (by exact fun _ => rfl) ?_)
 refine RunL.yes rfl rfl rfl rfl (OpJ.len S40 rfl ?_)
 refine RunL.yes rfl rfl rfl rfl (OpJ.neq rfl rfl ?_)
 refine RunL.op rfl rfl (OpJ.pickF rfl rfl ?_)
 refine kp [5, 7, 88] rfl ?_
 refine Run.false rfl ?_
 refine Run.skip ?_
 refine sr ?_
 refine mvo rfl rfl ?_
 refine RunL.op rfl rfl (OpJ.indexAddr S32 rfl rfl (by omega) ?_)
 refine RunL.op rfl rfl (OpJ.fieldAddr F63_2 rfl ?_)
 refine RunL.op rfl rfl (OpJ.load1 inferInstance rfl pk (own.fld (enc := Cl.c) (k := 7) (xs := resL) (i := 0) (j := 6) rfl rfl (fun _ => rfl)) ?_)
 refine RunL.op rfl rfl (OpJ.eql rfl rfl ?_)
 refine mvo rfl rfl ?_
 refine RunL.yes rfl rfl rfl rfl (OpJ.move rfl ?_)
 refine RunL.yes rfl rfl rfl rfl (OpJ.indexAddr S32 rfl rfl (by omega) ?_)
 refine RunL.yes rfl rfl rfl rfl (OpJ.fieldAddr F63_2 rfl ?_)
 refine RunL.yes rfl rfl rfl rfl (OpJ.load1 inferInstance rfl pk (own.fld (enc := Cl.c) (k := 7) (xs := resL) (i := 1) (j := 6) rfl rfl (fun _ => rfl)) ?_)
 refine RunL.yes rfl rfl rfl rfl (OpJ.eql rfl rfl ?_)
 refine RunL.op rfl rfl (OpJ.pickT rfl rfl ?_)
 refine mvo rfl rfl ?_
 refine RunL.yes rfl rfl rfl rfl (OpJ.fieldAddr F42_3 rfl ?_)
 first | refine RunL.yes rfl rfl rfl rfl (OpJ.loadF T3 rfl pk (by rfl) ?_) | refine RunL.yes rfl rfl rfl rfl (OpJ.loadO T3 rfl pk (by assumption) (by rfl) (by exact fun _ => rfl) ?_)
 refine RunL.yes rfl rfl rfl rfl (OpJ.eql rfl rfl ?_)
 refine RunL.op rfl rfl (OpJ.pickT rfl rfl ?_)
 refine mvo rfl rfl ?_
 refine RunL.yes rfl rfl rfl rfl (OpJ.fieldAddr F42_4 rfl ?_)
 first | refine RunL.yes rfl rfl rfl rfl (OpJ.loadF T3 rfl pk (by rfl) ?_) | refine RunL.yes rfl rfl rfl rfl (OpJ.loadO T3 rfl pk (by assumption) (by rfl) (by exact fun _ => rfl) ?_)
 refine RunL.yes rfl rfl rfl rfl (OpJ.eql rfl rfl ?_)
 refine RunL.op rfl rfl (OpJ.pickT rfl rfl ?_)
 refine mvo rfl rfl ?_
 refine RunL.yes rfl rfl rfl rfl (OpJ.fieldAddr F42_8 rfl ?_)
 first | refine RunL.yes rfl rfl rfl rfl (OpJ.loadF T40 rfl pk (by rfl) ?_) | refine RunL.yes rfl rfl rfl rfl (OpJ.loadO T40 rfl pk (by assumption) (by rfl) (by exact fun _ => rfl) ?_)
 refine RunL.yes rfl rfl rfl rfl (OpJ.indexAddr S40 rfl rfl (by omega) ?_)
 refine RunL.yes rfl rfl rfl rfl (OpJ.fieldAddr F73_3 rfl ?_)
 refine RunL.yes rfl rfl rfl rfl (OpJ.load1 inferInstance rfl pk (own.fld (enc := Ln.c) (k := 7) (xs := [⟨s40, sEUR, 9, 9, bs0, bs0, a1, c1, []⟩, ⟨s50, sEUR, -4, -4, bs0, bs0, a2, c2, []⟩, ⟨s30, sEUR, -5, -5, bs0, bs0, a3, c3, []⟩]) (i := 0) (j := 3) rfl rfl (fun _ => rfl)) ?_)
 refine RunL.yes rfl rfl rfl rfl (OpJ.eql rfl rfl ?_)
 refine RunL.op rfl rfl (OpJ.pickT rfl rfl ?_)
 refine mvo rfl rfl ?_
 refine RunL.yes rfl rfl rfl rfl (OpJ.fieldAddr F42_8 rfl ?_)
 first | refine RunL.yes rfl rfl rfl rfl (OpJ.loadF T40 rfl pk (by rfl) ?_) | refine RunL.yes rfl rfl rfl rfl (OpJ.loadO T40 rfl pk (by assumption) (by rfl) (by exact fun _ => rfl) ?_)
 refine RunL.yes rfl rfl rfl rfl (OpJ.indexAddr S40 rfl rfl (by omega) ?_)
 refine RunL.yes rfl rfl rfl rfl (OpJ.fieldAddr F73_3 rfl ?_)
 refine RunL.yes rfl rfl rfl rfl (OpJ.load1 inferInstance rfl pk (own.fld (enc := Ln.c) (k := 7) (xs := [⟨s40, sEUR, 9, 9, bs0, bs0, a1, c1, []⟩, ⟨s50, sEUR, -4, -4, bs0, bs0, a2, c2, []⟩, ⟨s30, sEUR, -5, -5, bs0, bs0, a3, c3, []⟩]) (i := 1) (j := 3) rfl rfl (fun _ => rfl)) ?_)
 refine RunL.yes rfl rfl rfl rfl (OpJ.eql rfl rfl ?_)
 refine RunL.op rfl rfl (OpJ.pickT rfl rfl ?_)
 refine mvo rfl rfl ?_
 refine RunL.yes rfl rfl rfl rfl (OpJ.fieldAddr F42_8 rfl ?_)
 first | refine RunL.yes rfl rfl rfl rfl (OpJ.loadF T40 rfl pk (by rfl) ?_) | refine RunL.yes rfl rfl rfl rfl (OpJ.loadO T40 rfl pk (by assumption) (by rfl) (by exact fun _ => rfl) ?_)
 refine RunL.yes rfl rfl rfl rfl (OpJ.indexAddr S40 rfl rfl (by omega) ?_)
 refine RunL.yes rfl rfl rfl rfl (OpJ.fieldAddr F73_0 rfl ?_)
 refine RunL.yes rfl rfl rfl rfl (OpJ.load1 inferInstance rfl pk (own.fld (enc := Ln.c) (k := 7) (xs := [⟨s40, sEUR, 9, 9, bs0, bs0, a1, c1, []⟩, ⟨s50, sEUR, -4, -4, bs0, bs0, a2, c2, []⟩, ⟨s30, sEUR, -5, -5, bs0, bs0, a3, c3, []⟩]) (i := 2) (j := 0) rfl rfl (fun _ => rfl)) ?_)
 refine RunL.yes rfl rfl rfl rfl (OpJ.eqlS rfl rfl ?_)
 refine RunL.op rfl rfl (OpJ.pickT rfl rfl ?_)
 refine mvo rfl rfl ?_
 refine RunL.yes rfl rfl rfl rfl (OpJ.fieldAddr F42_8 rfl ?_)
 first | refine RunL.yes rfl rfl rfl rfl (OpJ.loadF T40 rfl pk (by rfl) ?_) | refine RunL.yes rfl rfl rfl rfl (OpJ.loadO T40 rfl pk (by assumption) (by rfl) (by exact fun _ => rfl) ?_)
 refine RunL.yes rfl rfl rfl rfl (OpJ.indexAddr S40 rfl rfl (by omega) ?_)
 refine RunL.yes rfl rfl rfl rfl (OpJ.fieldAddr F73_3 rfl ?_)
 refine RunL.yes rfl rfl rfl rfl (OpJ.load1 inferInstance rfl pk (own.fld (enc := Ln.c) (k := 7) (xs := [⟨s40, sEUR, 9, 9, bs0, bs0, a1, c1, []⟩, ⟨s50, sEUR, -4, -4, bs0, bs0, a2, c2, []⟩, ⟨s30, sEUR, -5, -5, bs0, bs0, a3, c3, []⟩]) (i := 2) (j := 3) rfl rfl (fun _ => rfl)) ?_)
 refine RunL.yes rfl rfl rfl rfl (OpJ.eql rfl rfl ?_)
 refine RunL.op rfl rfl (OpJ.pickT rfl rfl ?_)
 refine RunL.unstar (As := [pt b24 (blk ((lXb b21 b22 b23).flatMap En.c) 42), pt b23 (blk (lineX s40 100) 73), pt b22 (blk (lineX s50 (-4)) 73), pt b21 (blk (lineX s40 9) 73), R]) pk ?_
 refine asg rfl rfl ?_
 refine kp [0] rfl ?_
 refine Run.ret ?_
 exact ret_one (.tmp rfl .nil) (rfl) gv
theorem c_rCode (s : ByteArray) (hs : (s.size : Int) ≤ 9223372036854775807) : AC Tryz.prog 107 ⟨[St s]⟩ (stars []) (Ret (Bo (codeB s)) []) := by
 refine AC.go Tryz.func107 rfl (Nat.le_of_ble_eq_true rfl) fun β => ?_
 refine sr ?_
 refine asg rfl rfl ?_
 refine kp [0] rfl ?_
 refine Run.seq ?_
 refine sr ?_
 refine asg rfl rfl ?_
 refine kp [0, 3] rfl ?_
 refine Run.block ?_
 refine Run.loop (fun mm E L => ∃ i : Nat, mm = s.size - i ∧ i ≤ s.size ∧ (∀ (j : Nat) u, j < i → s[j]? = some u → byteOk u = true) ∧ E = [(0, St s), (3, I i)] ∧ L = []) ⟨_, 0, rfl, Nat.zero_le _, fun _ _ h => by omega, rfl, rfl⟩ ?_
 rintro _ _ _ ⟨i, rfl, hi, hI0, rfl, rfl⟩
 refine Run.seq ?_
 refine sr ?_
 refine sx 4 ?_
 refine kp [0, 3, 8] rfl ?_
 first | refine Run.if rfl (fun h1 => ?_) (fun h1 => ?_) | refine Run.cond rfl (fun h1 => ?_) (fun h1 => ?_)
 refine Run.skip ?_
 refine Run.seq ?_
 refine Run.block ?_
 refine sr ?_
 obtain ⟨u, hu⟩ := byte_ex (s := s) (i := i) (by omega)
 refine sx 2 ?_
 refine RunL.op rfl rfl (OpJ.indexS U9 rfl rfl (by omega) hu ?_)
 refine asg rfl rfl ?_
 refine kp [0, 3, 4] rfl ?_
 refine sr ?_
 refine RunL.cut (t := 40) (v := Bo (!byteOk u)) (kt (ks := [0, 3]) rfl) ?_ ?_
 refine sx 3 ?_
 first | refine RunL.splitP (t := 16) rfl (fun g2 => ?_) (fun g2 => ?_) | refine RunL.split (t := 16) rfl (fun g2 => ?_) (fun g2 => ?_)
 refine sx 4 ?_
 first | refine RunL.splitP (t := 20) rfl (fun g3 => ?_) (fun g3 => ?_) | refine RunL.split (t := 20) rfl (fun g3 => ?_) (fun g3 => ?_)
 refine sx 20 ?_
 exact RunL.nil ⟨.cons (by first | rfl | (show some (Value.bool _) = some (Value.bool _); congr 2; unfold byteOk letterB digitB; rw [Bool.eq_iff_iff]; simp; omega) | (show some (Value.bool _) = some (Value.bool _); simp_all)) (kt (ks := [0, 3]) rfl), rfl⟩
 refine sx 3 ?_
 first | refine RunL.splitP (t := 23) rfl (fun g4 => ?_) (fun g4 => ?_) | refine RunL.split (t := 23) rfl (fun g4 => ?_) (fun g4 => ?_)
 refine sx 5 ?_
 first | refine RunL.splitP (t := 28) rfl (fun g5 => ?_) (fun g5 => ?_) | refine RunL.split (t := 28) rfl (fun g5 => ?_) (fun g5 => ?_)
 refine sx 12 ?_
 exact RunL.nil ⟨.cons (by first | rfl | (show some (Value.bool _) = some (Value.bool _); congr 2; unfold byteOk letterB digitB; rw [Bool.eq_iff_iff]; simp; omega) | (show some (Value.bool _) = some (Value.bool _); simp_all)) (kt (ks := [0, 3]) rfl), rfl⟩
 refine sx 3 ?_
 first | refine RunL.splitP (t := 31) rfl (fun g6 => ?_) (fun g6 => ?_) | refine RunL.split (t := 31) rfl (fun g6 => ?_) (fun g6 => ?_)
 refine sx 5 ?_
 first | refine RunL.splitP (t := 36) rfl (fun g7 => ?_) (fun g7 => ?_) | refine RunL.split (t := 36) rfl (fun g7 => ?_) (fun g7 => ?_)
 refine sx 4 ?_
 exact RunL.nil ⟨.cons (by first | rfl | (show some (Value.bool _) = some (Value.bool _); congr 2; unfold byteOk letterB digitB; rw [Bool.eq_iff_iff]; simp; omega) | (show some (Value.bool _) = some (Value.bool _); simp_all)) (kt (ks := [0, 3]) rfl), rfl⟩
 refine sx 4 ?_
 exact RunL.nil ⟨.cons (by first | rfl | (show some (Value.bool _) = some (Value.bool _); congr 2; unfold byteOk letterB digitB; rw [Bool.eq_iff_iff]; simp; omega) | (show some (Value.bool _) = some (Value.bool _); simp_all)) (kt (ks := [0, 3]) rfl), rfl⟩
 refine sx 9 ?_
 exact RunL.nil ⟨.cons (by first | rfl | (show some (Value.bool _) = some (Value.bool _); congr 2; unfold byteOk letterB digitB; rw [Bool.eq_iff_iff]; simp; omega) | (show some (Value.bool _) = some (Value.bool _); simp_all)) (kt (ks := [0, 3]) rfl), rfl⟩
 refine sx 8 ?_
 first | refine RunL.splitP (t := 31) rfl (fun g8 => ?_) (fun g8 => ?_) | refine RunL.split (t := 31) rfl (fun g8 => ?_) (fun g8 => ?_)
 refine sx 5 ?_
 first | refine RunL.splitP (t := 36) rfl (fun g9 => ?_) (fun g9 => ?_) | refine RunL.split (t := 36) rfl (fun g9 => ?_) (fun g9 => ?_)
 refine sx 4 ?_
 exact RunL.nil ⟨.cons (by first | rfl | (show some (Value.bool _) = some (Value.bool _); congr 2; unfold byteOk letterB digitB; rw [Bool.eq_iff_iff]; simp; omega) | (show some (Value.bool _) = some (Value.bool _); simp_all)) (kt (ks := [0, 3]) rfl), rfl⟩
 refine sx 4 ?_
 exact RunL.nil ⟨.cons (by first | rfl | (show some (Value.bool _) = some (Value.bool _); congr 2; unfold byteOk letterB digitB; rw [Bool.eq_iff_iff]; simp; omega) | (show some (Value.bool _) = some (Value.bool _); simp_all)) (kt (ks := [0, 3]) rfl), rfl⟩
 refine sx 9 ?_
 exact RunL.nil ⟨.cons (by first | rfl | (show some (Value.bool _) = some (Value.bool _); congr 2; unfold byteOk letterB digitB; rw [Bool.eq_iff_iff]; simp; omega) | (show some (Value.bool _) = some (Value.bool _); simp_all)) (kt (ks := [0, 3]) rfl), rfl⟩
 refine sx 7 ?_
 first | refine RunL.splitP (t := 23) rfl (fun g10 => ?_) (fun g10 => ?_) | refine RunL.split (t := 23) rfl (fun g10 => ?_) (fun g10 => ?_)
 refine sx 5 ?_
 first | refine RunL.splitP (t := 28) rfl (fun g11 => ?_) (fun g11 => ?_) | refine RunL.split (t := 28) rfl (fun g11 => ?_) (fun g11 => ?_)
 refine sx 12 ?_
 exact RunL.nil ⟨.cons (by first | rfl | (show some (Value.bool _) = some (Value.bool _); congr 2; unfold byteOk letterB digitB; rw [Bool.eq_iff_iff]; simp; omega) | (show some (Value.bool _) = some (Value.bool _); simp_all)) (kt (ks := [0, 3]) rfl), rfl⟩
 refine sx 3 ?_
 first | refine RunL.splitP (t := 31) rfl (fun g12 => ?_) (fun g12 => ?_) | refine RunL.split (t := 31) rfl (fun g12 => ?_) (fun g12 => ?_)
 refine sx 5 ?_
 first | refine RunL.splitP (t := 36) rfl (fun g13 => ?_) (fun g13 => ?_) | refine RunL.split (t := 36) rfl (fun g13 => ?_) (fun g13 => ?_)
 refine sx 4 ?_
 exact RunL.nil ⟨.cons (by first | rfl | (show some (Value.bool _) = some (Value.bool _); congr 2; unfold byteOk letterB digitB; rw [Bool.eq_iff_iff]; simp; omega) | (show some (Value.bool _) = some (Value.bool _); simp_all)) (kt (ks := [0, 3]) rfl), rfl⟩
 refine sx 4 ?_
 exact RunL.nil ⟨.cons (by first | rfl | (show some (Value.bool _) = some (Value.bool _); congr 2; unfold byteOk letterB digitB; rw [Bool.eq_iff_iff]; simp; omega) | (show some (Value.bool _) = some (Value.bool _); simp_all)) (kt (ks := [0, 3]) rfl), rfl⟩
 refine sx 9 ?_
 exact RunL.nil ⟨.cons (by first | rfl | (show some (Value.bool _) = some (Value.bool _); congr 2; unfold byteOk letterB digitB; rw [Bool.eq_iff_iff]; simp; omega) | (show some (Value.bool _) = some (Value.bool _); simp_all)) (kt (ks := [0, 3]) rfl), rfl⟩
 refine sx 8 ?_
 first | refine RunL.splitP (t := 31) rfl (fun g14 => ?_) (fun g14 => ?_) | refine RunL.split (t := 31) rfl (fun g14 => ?_) (fun g14 => ?_)
 refine sx 5 ?_
 first | refine RunL.splitP (t := 36) rfl (fun g15 => ?_) (fun g15 => ?_) | refine RunL.split (t := 36) rfl (fun g15 => ?_) (fun g15 => ?_)
 refine sx 4 ?_
 exact RunL.nil ⟨.cons (by first | rfl | (show some (Value.bool _) = some (Value.bool _); congr 2; unfold byteOk letterB digitB; rw [Bool.eq_iff_iff]; simp; omega) | (show some (Value.bool _) = some (Value.bool _); simp_all)) (kt (ks := [0, 3]) rfl), rfl⟩
 refine sx 4 ?_
 exact RunL.nil ⟨.cons (by first | rfl | (show some (Value.bool _) = some (Value.bool _); congr 2; unfold byteOk letterB digitB; rw [Bool.eq_iff_iff]; simp; omega) | (show some (Value.bool _) = some (Value.bool _); simp_all)) (kt (ks := [0, 3]) rfl), rfl⟩
 refine sx 9 ?_
 exact RunL.nil ⟨.cons (by first | rfl | (show some (Value.bool _) = some (Value.bool _); congr 2; unfold byteOk letterB digitB; rw [Bool.eq_iff_iff]; simp; omega) | (show some (Value.bool _) = some (Value.bool _); simp_all)) (kt (ks := [0, 3]) rfl), rfl⟩
 first | refine Run.if rfl (fun h16 => ?_) (fun h16 => ?_) | refine Run.cond rfl (fun h16 => ?_) (fun h16 => ?_)
 refine sr ?_
 refine asg rfl rfl ?_
 refine kp [2] rfl ?_
 refine Run.ret ?_
 first | exact ret_one (.tmp rfl .nil) (by unfold codeB; rw [everyB_false hu (by simp_all), Bool.and_false]; rfl) gv | exact ret_one (.tmp rfl .nil) (by have he := everyB_true fun j u hj hu => hI0 j u (by omega) hu; unfold codeB; rw [he, Bool.and_true]; show Value.bool _ = Value.bool _; congr 1; rw [Bool.eq_iff_iff]; simp_all) gv
 refine Run.skip ?_
 refine Run.region ?_
 refine sx 3 ?_
 exact RunL.next (Keep.sub (kt (ks := [0, 3]) rfl)) _ ⟨_, by omega, i + 1, rfl, by omega, (fun j v hj hv => by { by_cases e : j = i; (subst e; rw [hu] at hv; cases hv; simp_all); exact hI0 j v (by omega) hv }), rfl, rfl⟩ gv
 refine Run.exit ?_
 refine sr ?_
 refine sx 3 ?_
 first | refine RunL.splitP (t := 43) rfl (fun g17 => ?_) (fun g17 => ?_) | refine RunL.split (t := 43) rfl (fun g17 => ?_) (fun g17 => ?_)
 refine sx 5 ?_
 refine kp [2] rfl ?_
 refine Run.ret ?_
 first | exact ret_one (.tmp rfl .nil) (by unfold codeB; rw [everyB_false hu (by simp_all), Bool.and_false]; rfl) gv | exact ret_one (.tmp rfl .nil) (by have he := everyB_true fun j u hj hu => hI0 j u (by omega) hu; unfold codeB; rw [he, Bool.and_true]; show Value.bool _ = Value.bool _; congr 1; rw [Bool.eq_iff_iff]; simp_all) gv
 refine sx 5 ?_
 refine kp [2] rfl ?_
 refine Run.ret ?_
 first | exact ret_one (.tmp rfl .nil) (by unfold codeB; rw [everyB_false hu (by simp_all), Bool.and_false]; rfl) gv | exact ret_one (.tmp rfl .nil) (by have he := everyB_true fun j u hj hu => hI0 j u (by omega) hu; unfold codeB; rw [he, Bool.and_true]; show Value.bool _ = Value.bool _; congr 1; rw [Bool.eq_iff_iff]; simp_all) gv
theorem c_rFind (R : HP) (oa : Option Addr) (cap : Nat) (xs : List Ac) (hR : RdS R oa (xs.flatMap Ac.c)) (hl : xs.length ≤ 140737488355328) (c : ByteArray) : AC Tryz.prog 76 ⟨[.slice oa xs.length cap, St c]⟩ (stars [R]) (Ret (I (findX xs c)) [R]) := by
 refine AC.go Tryz.func76 rfl (Nat.le_of_ble_eq_true rfl) fun β => ?_
 refine sr ?_
 refine asg rfl rfl ?_
 refine kp [0, 1] rfl ?_
 refine Run.seq ?_
 refine sr ?_
 refine asg rfl rfl ?_
 refine kp [0, 1, 5] rfl ?_
 refine Run.block ?_
 refine Run.loop (fun mm E L => ∃ i : Nat, mm = xs.length - i ∧ i ≤ xs.length ∧ noTo xs c i ∧ E = [(0, .slice oa xs.length cap), (1, St c), (5, I i)] ∧ L = [R]) ⟨_, 0, rfl, Nat.zero_le _, noTo.zero, rfl, rfl⟩ ?_
 rintro _ _ _ ⟨i, rfl, hi, hI0, rfl, rfl⟩
 refine Run.seq ?_
 refine sr ?_
 refine sx 4 ?_
 refine kp [0, 1, 5, 9] rfl ?_
 first | refine Run.if rfl (fun h1 => ?_) (fun h1 => ?_) | refine Run.cond rfl (fun h1 => ?_) (fun h1 => ?_)
 refine Run.skip ?_
 refine Run.seq ?_
 refine Run.block ?_
 refine sr ?_
 obtain ⟨a, hx⟩ := get_ex (xs := xs) (i := i) (by omega)
 refine RunL.rdOpen pk hR (flat_ne (k := 8) (fun _ => rfl) (by decide) hx) fun b o eb hrd => ?_
 subst eb
 refine sx 4 ?_
 refine RunL.op rfl rfl (OpJ.load1 inferInstance rfl pk (hrd.at (enc := Ac.c) 8 (fun _ => rfl) hx 0 (St a.code) rfl) ?_)
 refine sx 2 ?_
 refine kp [0, 1, 5, 18] rfl ?_
 first | refine Run.if rfl (fun h2 => ?_) (fun h2 => ?_) | refine Run.cond rfl (fun h2 => ?_) (fun h2 => ?_)
 refine sr ?_
 refine sx 2 ?_
 refine kp [4] rfl ?_
 refine Run.ret ?_
 exact ret_one (.tmp rfl .nil) (congrArg I (find_at hI0 hx (by simpa using h2)).symm) gv
 refine Run.skip ?_
 refine Run.region ?_
 refine sx 3 ?_
 exact RunL.next (Keep.sub (kt (ks := [0, 1, 5]) rfl)) _ ⟨_, by omega, i + 1, rfl, by omega, hI0.step hx (by simpa using h2), rfl, rfl⟩ gv
 refine Run.exit ?_
 refine sr ?_
 refine asg rfl rfl ?_
 refine kp [4] rfl ?_
 refine Run.ret ?_
 exact ret_one (.tmp rfl .nil) (congrArg I (find_all hI0 (by omega)).symm) gv
theorem c_rAnc (R : HP) (oa : Option Addr) (cap : Nat) (xs : List Ac) (hR : RdS R oa (xs.flatMap Ac.c)) (hl : xs.length ≤ 140737488355328) (h4 : xs.length ≤ 400) (up c : ByteArray) : AC Tryz.prog 109 ⟨[.slice oa xs.length cap, St up, St c]⟩ (stars [R]) (Ret (Bo (ancN xs up xs.length c)) [R]) := by
 refine AC.go Tryz.func109 rfl (Nat.le_of_ble_eq_true rfl) fun β => ?_
 refine sr ?_
 refine asg rfl rfl ?_
 refine kp [0, 1, 2] rfl ?_
 refine sr ?_
 refine sx 2 ?_
 refine RunL.call C76 rfl rfl rfl (c_rFind R _ _ _ hR (by omega) _) tks ?_
 refine asg rfl rfl ?_
 refine kp [0, 1, 7] rfl ?_
 refine Run.seq ?_
 refine sr ?_
 refine asg rfl rfl ?_
 refine kp [0, 1, 7, 8] rfl ?_
 refine Run.block ?_
 refine Run.loop (fun mm E L => ∃ (k : Nat) (d : ByteArray), mm = xs.length - k ∧ k ≤ xs.length ∧ ancN xs up xs.length c = ancN xs up (xs.length - k) d ∧ E = [(0, .slice oa xs.length cap), (1, St up), (7, I (findX xs d)), (8, I k)] ∧ L = [R]) ⟨_, 0, c, rfl, Nat.zero_le _, rfl, rfl, rfl⟩ ?_
 rintro _ _ _ ⟨k, d, rfl, hkl, hI0, rfl, rfl⟩
 refine Run.seq ?_
 refine sr ?_
 refine sx 5 ?_
 by_cases hkk : k < xs.length
 refine RunL.set (congrArg Bo (decide_eq_true (by omega))) ?_
 refine sx 4 ?_
 rcases find_or xs d with ⟨hf, hg⟩ | ⟨q, a, hf, hx, hc, hg⟩
 refine RunL.set (v := Bo false) (by rw [hf]; rfl) ?_
 refine sx 7 ?_
 refine kp [0, 1, 7, 8, 27] rfl ?_
 refine Run.false rfl ?_
 refine Run.exit ?_
 refine sr ?_
 refine asg rfl rfl ?_
 refine kp [6] rfl ?_
 refine Run.ret ?_
 first | exact ret_one (.tmp rfl .nil) (by obtain ⟨n, hn⟩ : ∃ n, xs.length - k = n + 1 := ⟨xs.length - k - 1, by omega⟩; rw [hI0, hn, anc_hit hg (by simp_all) (by simp_all)]; rfl) gv | exact ret_one (.tmp rfl .nil) (by rw [hI0, show xs.length - k = 0 by omega]; rfl) gv | exact ret_one (.tmp rfl .nil) (by rw [hI0, anc_none hg]; rfl) gv | exact ret_one (.tmp rfl .nil) (by rw [hI0, anc_root hg (by simp_all)]; rfl) gv
 rw [hf]
 refine RunL.set (v := Bo true) (by simp) ?_
 refine RunL.rdOpen pk hR (flat_ne (k := 8) (fun _ => rfl) (by decide) hx) fun b o eb hrd => ?_
 subst eb
 have hql := (List.getElem?_eq_some_iff.1 hx).1
 refine sx 4 ?_
 refine RunL.yes rfl rfl rfl rfl (OpJ.load1 inferInstance rfl pk (hrd.at (enc := Ac.c) 8 (fun _ => rfl) hx 1 (St a.parent) rfl) ?_)
 refine sx 2 ?_
 refine kp [0, 1, 7, 8, 27] rfl ?_
 first | refine Run.if rfl (fun h1 => ?_) (fun h1 => ?_) | refine Run.cond rfl (fun h1 => ?_) (fun h1 => ?_)
 refine Run.skip ?_
 refine Run.seq ?_
 refine Run.block ?_
 refine Run.seq ?_
 refine sr ?_
 refine sx 4 ?_
 refine RunL.op rfl rfl (OpJ.load1 inferInstance rfl pk (hrd.at (enc := Ac.c) 8 (fun _ => rfl) hx 1 (St a.parent) rfl) ?_)
 refine sx 2 ?_
 refine kp [0, 1, 7, 8, 36] rfl ?_
 first | refine Run.if rfl (fun h2 => ?_) (fun h2 => ?_) | refine Run.cond rfl (fun h2 => ?_) (fun h2 => ?_)
 refine sr ?_
 refine asg rfl rfl ?_
 refine kp [6] rfl ?_
 refine Run.ret ?_
 first | exact ret_one (.tmp rfl .nil) (by obtain ⟨n, hn⟩ : ∃ n, xs.length - k = n + 1 := ⟨xs.length - k - 1, by omega⟩; rw [hI0, hn, anc_hit hg (by simp_all) (by simp_all)]; rfl) gv | exact ret_one (.tmp rfl .nil) (by rw [hI0, show xs.length - k = 0 by omega]; rfl) gv | exact ret_one (.tmp rfl .nil) (by rw [hI0, anc_none hg]; rfl) gv | exact ret_one (.tmp rfl .nil) (by rw [hI0, anc_root hg (by simp_all)]; rfl) gv
 refine Run.skip ?_
 refine Run.region ?_
 refine sx 5 ?_
 refine RunL.op rfl rfl (OpJ.load1 inferInstance rfl pk (hrd.at (enc := Ac.c) 8 (fun _ => rfl) hx 1 (St a.parent) rfl) ?_)
 refine RunL.call C76 rfl rfl rfl (c_rFind R _ _ _ hR (by omega) _) tks ?_
 refine asg rfl rfl ?_
 refine kp [0, 1, 7, 8] rfl ?_
 refine Run.region ?_
 refine sx 3 ?_
 obtain ⟨n, hn⟩ : ∃ n, xs.length - k = n + 1 := ⟨xs.length - k - 1, by omega⟩
 exact RunL.next (Keep.sub (kt (ks := [0, 1, 7, 8]) rfl)) _ ⟨_, by omega, k + 1, a.parent, rfl, by omega, (by rw [hI0, hn, anc_step hg (by simp_all) (by simp_all), show xs.length - (k + 1) = n by omega]), rfl, rfl⟩ gv
 refine Run.exit ?_
 refine sr ?_
 refine asg rfl rfl ?_
 refine kp [6] rfl ?_
 refine Run.ret ?_
 first | exact ret_one (.tmp rfl .nil) (by obtain ⟨n, hn⟩ : ∃ n, xs.length - k = n + 1 := ⟨xs.length - k - 1, by omega⟩; rw [hI0, hn, anc_hit hg (by simp_all) (by simp_all)]; rfl) gv | exact ret_one (.tmp rfl .nil) (by rw [hI0, show xs.length - k = 0 by omega]; rfl) gv | exact ret_one (.tmp rfl .nil) (by rw [hI0, anc_none hg]; rfl) gv | exact ret_one (.tmp rfl .nil) (by rw [hI0, anc_root hg (by simp_all)]; rfl) gv
 refine RunL.set (congrArg Bo (decide_eq_false (by omega))) ?_
 refine sx 11 ?_
 refine kp [0, 1, 7, 8, 27] rfl ?_
 refine Run.false rfl ?_
 refine Run.exit ?_
 refine sr ?_
 refine asg rfl rfl ?_
 refine kp [6] rfl ?_
 refine Run.ret ?_
 first | exact ret_one (.tmp rfl .nil) (by obtain ⟨n, hn⟩ : ∃ n, xs.length - k = n + 1 := ⟨xs.length - k - 1, by omega⟩; rw [hI0, hn, anc_hit hg (by simp_all) (by simp_all)]; rfl) gv | exact ret_one (.tmp rfl .nil) (by rw [hI0, show xs.length - k = 0 by omega]; rfl) gv | exact ret_one (.tmp rfl .nil) (by rw [hI0, anc_none hg]; rfl) gv | exact ret_one (.tmp rfl .nil) (by rw [hI0, anc_root hg (by simp_all)]; rfl) gv
theorem c_r7 (s : ByteArray) : AC Tryz.prog 108 ⟨[St s]⟩ (stars []) (Ret (Bo (curB s)) []) := by
 refine AC.go Tryz.func108 rfl (Nat.le_of_ble_eq_true rfl) fun β => ?_
 refine sr ?_
 refine asg rfl rfl ?_
 refine kp [0] rfl ?_
 refine Run.seq ?_
 refine sr ?_
 refine sx 3 ?_
 refine kp [0, 6] rfl ?_
 first | refine Run.if rfl (fun h1 => ?_) (fun h1 => ?_) | refine Run.cond rfl (fun h1 => ?_) (fun h1 => ?_)
 refine sr ?_
 refine asg rfl rfl ?_
 refine kp [2] rfl ?_
 refine Run.ret ?_
 first | exact ret_one (.tmp rfl .nil) (by unfold curB; rw [decide_eq_false (by omega)]; rfl) gv | exact ret_one (.tmp rfl .nil) (by unfold curB; rw [all_false hu (by unfold capB; rw [decide_eq_false_iff_not]; omega), Bool.and_false]; rfl) gv | exact ret_one (.tmp rfl .nil) (by unfold curB; rw [all_true fun j u hj hu => hI0 j u (by omega) hu, decide_eq_true (by omega)]; rfl) gv
 refine Run.skip ?_
 refine Run.seq ?_
 refine sr ?_
 refine asg rfl rfl ?_
 refine kp [0, 3] rfl ?_
 refine Run.block ?_
 refine Run.loop (fun mm E L => ∃ i : Nat, mm = 3 - i ∧ i ≤ 3 ∧ (∀ (j : Nat) u, j < i → s[j]? = some u → capB u = true) ∧ E = [(0, St s), (3, I i)] ∧ L = []) ⟨_, 0, rfl, Nat.zero_le _, fun _ _ h => by omega, rfl, rfl⟩ ?_
 rintro _ _ _ ⟨i, rfl, hi, hI0, rfl, rfl⟩
 refine Run.seq ?_
 refine sr ?_
 refine sx 2 ?_
 refine kp [0, 3, 8] rfl ?_
 first | refine Run.if rfl (fun h2 => ?_) (fun h2 => ?_) | refine Run.cond rfl (fun h2 => ?_) (fun h2 => ?_)
 refine Run.skip ?_
 refine Run.seq ?_
 refine Run.block ?_
 refine sr ?_
 obtain ⟨u, hu⟩ := byte_ex (s := s) (i := i) (by omega)
 refine sx 2 ?_
 refine RunL.op rfl rfl (OpJ.indexS U9 rfl rfl (by omega) hu ?_)
 refine sx 2 ?_
 by_cases hn : (u.toNat : Int) < 65
 refine RunL.set (congrArg Bo (decide_eq_true hn)) ?_
 refine sx 5 ?_
 refine kp [0, 3, 20] rfl ?_
 refine Run.true rfl ?_
 refine sr ?_
 refine asg rfl rfl ?_
 refine kp [2] rfl ?_
 refine Run.ret ?_
 first | exact ret_one (.tmp rfl .nil) (by unfold curB; rw [decide_eq_false (by omega)]; rfl) gv | exact ret_one (.tmp rfl .nil) (by unfold curB; rw [all_false hu (by unfold capB; rw [decide_eq_false_iff_not]; omega), Bool.and_false]; rfl) gv | exact ret_one (.tmp rfl .nil) (by unfold curB; rw [all_true fun j u hj hu => hI0 j u (by omega) hu, decide_eq_true (by omega)]; rfl) gv
 refine RunL.set (congrArg Bo (decide_eq_false hn)) ?_
 refine sx 2 ?_
 refine RunL.yes rfl rfl rfl rfl (OpJ.indexS U9 rfl rfl (by omega) hu ?_)
 refine sx 2 ?_
 refine kp [0, 3, 20] rfl ?_
 first | refine Run.if rfl (fun h3 => ?_) (fun h3 => ?_) | refine Run.cond rfl (fun h3 => ?_) (fun h3 => ?_)
 refine sr ?_
 refine asg rfl rfl ?_
 refine kp [2] rfl ?_
 refine Run.ret ?_
 first | exact ret_one (.tmp rfl .nil) (by unfold curB; rw [decide_eq_false (by omega)]; rfl) gv | exact ret_one (.tmp rfl .nil) (by unfold curB; rw [all_false hu (by unfold capB; rw [decide_eq_false_iff_not]; omega), Bool.and_false]; rfl) gv | exact ret_one (.tmp rfl .nil) (by unfold curB; rw [all_true fun j u hj hu => hI0 j u (by omega) hu, decide_eq_true (by omega)]; rfl) gv
 refine Run.skip ?_
 refine Run.region ?_
 refine sx 3 ?_
 exact RunL.next (Keep.sub (kt (ks := [0, 3]) rfl)) _ ⟨_, by omega, i + 1, rfl, by omega, (fun j v hj hv => by { by_cases e : j = i; (subst e; rw [hu] at hv; cases hv; unfold capB; rw [decide_eq_true_eq]; omega); exact hI0 j v (by omega) hv }), rfl, rfl⟩ gv
 refine Run.exit ?_
 refine sr ?_
 refine asg rfl rfl ?_
 refine kp [2] rfl ?_
 refine Run.ret ?_
 first | exact ret_one (.tmp rfl .nil) (by unfold curB; rw [decide_eq_false (by omega)]; rfl) gv | exact ret_one (.tmp rfl .nil) (by unfold curB; rw [all_false hu (by unfold capB; rw [decide_eq_false_iff_not]; omega), Bool.and_false]; rfl) gv | exact ret_one (.tmp rfl .nil) (by unfold curB; rw [all_true fun j u hj hu => hI0 j u (by omega) hu, decide_eq_true (by omega)]; rfl) gv
theorem c_rAlone (R : HP) (b o cap : Nat) (xs : List Ac) (hrd : Rd R ⟨b, o, none⟩ (xs.flatMap Ac.c)) (hl : xs.length ≤ 140737488355328) (i : Nat) (a : Ac) (hx : xs[i]? = some a) (hA : a.rd R) (hz : a.sz) : AC Tryz.prog 64 ⟨[.slice (some ⟨b, o, none⟩) xs.length cap, I i]⟩ (stars [R]) (Outs (fun e : Int => e = 0 → aloneB (xs.take i) a = true) (fun e => I e) (fun _ => [R])) := by
 have hil := (List.getElem?_eq_some_iff.1 hx).1
 obtain ⟨z1, z2, z3, z4⟩ := hz
 obtain ⟨hA1, hA2, hA3⟩ := hA
 refine AC.go Tryz.func64 rfl (Nat.le_of_ble_eq_true rfl) fun β => ?_
 refine sr ?_
 refine asg rfl rfl ?_
 refine kp [0, 1] rfl ?_
 refine sr ?_
 refine sx 3 ?_
 refine RunL.op rfl rfl (OpJ.loadA inferInstance rfl pk (hrd.elem (fun _ => rfl) hx) rfl ?_)
 refine RunL.op rfl rfl (OpJ.alloc Z57 fun b5 => ?_)
 refine RunL.op rfl rfl (OpJ.storeW T57 rfl rfl rfl rfl (by simp [Value.oneCell', Tg.c, Ln.c, En.c, Ac.c, Cl.c, Ky.c, Qy.c, Sb, Iv, Cs.c]) up ?_)
 refine kp [0, 1, 5] rfl ?_
 refine Run.seq ?_
 refine sr ?_
 refine RunL.cut (t := 26) (v := Bo (!codeB a.code || (decide (a.parent ≠ bs0) && !codeB a.parent))) (kt (ks := [0, 1, 5]) rfl) ?_ ?_
 refine sx 2 ?_
 refine RunL.call C107 rfl rfl rfl (c_rCode _ (by assumption)) .nil ?_
 refine sx 2 ?_
 first | refine RunL.splitP (t := 16) rfl (fun g1 => ?_) (fun g1 => ?_) | refine RunL.split (t := 16) rfl (fun g1 => ?_) (fun g1 => ?_)
 refine sx 10 ?_
 exact RunL.nil ⟨.cons (by first | rfl | (show some (Value.bool _) = some (Value.bool _); simp_all)) (kt (ks := [0, 1, 5]) rfl), rfl⟩
 refine sx 4 ?_
 first | refine RunL.splitP (t := 20) rfl (fun g2 => ?_) (fun g2 => ?_) | refine RunL.split (t := 20) rfl (fun g2 => ?_) (fun g2 => ?_)
 refine sx 2 ?_
 refine RunL.callG C107 rfl rfl rfl rfl rfl (c_rCode _ (by assumption)) .nil ?_
 refine sx 3 ?_
 exact RunL.nil ⟨.cons (by first | rfl | (show some (Value.bool _) = some (Value.bool _); simp_all)) (kt (ks := [0, 1, 5]) rfl), rfl⟩
 refine sx 6 ?_
 exact RunL.nil ⟨.cons (by first | rfl | (show some (Value.bool _) = some (Value.bool _); simp_all)) (kt (ks := [0, 1, 5]) rfl), rfl⟩
 first | refine Run.if rfl (fun h3 => ?_) (fun h3 => ?_) | refine Run.cond rfl (fun h3 => ?_) (fun h3 => ?_)
 refine sr ?_
 refine asg rfl rfl ?_
 refine kp [4] rfl ?_
 refine Run.ret ?_
 first | exact ret_out 7 (.tmp rfl .nil) (fun h => absurd h (by decide)) rfl gv | exact ret_out 10 (.tmp rfl .nil) (fun h => absurd h (by decide)) rfl gv | exact ret_out 13 (.tmp rfl .nil) (fun h => absurd h (by decide)) rfl gv | exact ret_out 8 (.tmp rfl .nil) (fun h => absurd h (by decide)) rfl gv | exact ret_out 14 (.tmp rfl .nil) (fun h => absurd h (by decide)) rfl gv | exact ret_out 0 (.tmp rfl .nil) (fun _ => ref_alone hcp.1 hcp.2 hall (by omega) hu (by omega) (hI1.all (by omega)) (by omega)) rfl gv
 refine Run.skip ?_
 refine Run.seq ?_
 refine sr ?_
 have hcp : codeB a.code = true ∧ (a.parent = bs0 ∨ codeB a.parent = true) := (by have hq0 := ‹(!codeB a.code || (decide (a.parent ≠ bs0) && !codeB a.parent)) = false›; revert hq0; cases codeB a.code <;> cases codeB a.parent <;> by_cases hq : a.parent = bs0 <;> simp [hq])
 refine asg rfl rfl ?_
 refine kp [0, 1, 5, 6] rfl ?_
 refine Run.block ?_
 refine Run.loop (fun mm E L => ∃ k : Nat, mm = a.need.length - k ∧ k ≤ a.need.length ∧ codeTo a.need k ∧ E = [(0, .slice (some ⟨b, o, none⟩) xs.length cap), (1, I i), (5, .pointer (some ⟨b5, 0, none⟩)), (6, I k)] ∧ L = [pt b5 (blk a.c 57), R]) ⟨_, 0, rfl, Nat.zero_le _, (fun j x h => by omega), rfl, rfl⟩ ?_
 rintro _ _ _ ⟨k, rfl, hk, hI0, rfl, rfl⟩
 refine Run.seq ?_
 refine sr ?_
 refine sx 5 ?_
 refine kp [0, 1, 5, 6, 31] rfl ?_
 first | refine Run.if rfl (fun h4 => ?_) (fun h4 => ?_) | refine Run.cond rfl (fun h4 => ?_) (fun h4 => ?_)
 refine Run.skip ?_
 refine Run.seq ?_
 refine Run.block ?_
 refine sr ?_
 obtain ⟨n, hn⟩ := get_ex (xs := a.need) (i := k) (by omega)
 refine RunL.rdOpen pk hA1 (flat_ne (k := 1) (fun _ => rfl) (by decide) hn) fun b2 o2 e2 hr2 => ?_
 refine sx 2 ?_
 rw [e2]
 refine sx 2 ?_
 refine RunL.op rfl rfl (OpJ.load1 inferInstance rfl pk (hr2.elem (enc := Sb) (fun _ => rfl) hn) ?_)
 refine RunL.call C107 rfl rfl rfl (c_rCode _ (z4 _ (List.mem_of_getElem? hn))) .nil ?_
 refine RunL.op rfl rfl (OpJ.not rfl ?_)
 refine kp [0, 1, 5, 6, 40] rfl ?_
 first | refine Run.if rfl (fun h5 => ?_) (fun h5 => ?_) | refine Run.cond rfl (fun h5 => ?_) (fun h5 => ?_)
 refine sr ?_
 refine asg rfl rfl ?_
 refine kp [4] rfl ?_
 refine Run.ret ?_
 first | exact ret_out 7 (.tmp rfl .nil) (fun h => absurd h (by decide)) rfl gv | exact ret_out 10 (.tmp rfl .nil) (fun h => absurd h (by decide)) rfl gv | exact ret_out 13 (.tmp rfl .nil) (fun h => absurd h (by decide)) rfl gv | exact ret_out 8 (.tmp rfl .nil) (fun h => absurd h (by decide)) rfl gv | exact ret_out 14 (.tmp rfl .nil) (fun h => absurd h (by decide)) rfl gv | exact ret_out 0 (.tmp rfl .nil) (fun _ => ref_alone hcp.1 hcp.2 hall (by omega) hu (by omega) (hI1.all (by omega)) (by omega)) rfl gv
 refine Run.skip ?_
 refine Run.region ?_
 refine sx 3 ?_
 exact RunL.next (Keep.sub (kt (ks := [0, 1, 5, 6]) rfl)) _ ⟨_, by omega, k + 1, rfl, by omega, (fun j y hj hy => by { by_cases e : j = k; (subst e; rw [hn] at hy; cases hy; simp_all); exact hI0 j y (by omega) hy }), rfl, rfl⟩ gv
 refine Run.exit ?_
 refine Run.seq ?_
 refine sr ?_
 refine RunL.cut (t := 48) (v := Bo (decide (a.kind < 1 ∨ 5 < a.kind))) (kt (ks := [0, 1, 5]) rfl) ?_ ?_
 refine sx 4 ?_
 first | refine RunL.splitP (t := 44) rfl (fun g6 => ?_) (fun g6 => ?_) | refine RunL.split (t := 44) rfl (fun g6 => ?_) (fun g6 => ?_)
 refine sx 4 ?_
 exact RunL.nil ⟨.cons (by first | rfl | (show some (Value.bool _) = some (Value.bool _); congr 2; simp; omega) | (show some (Value.bool _) = some (Value.bool _); simp_all)) (kt (ks := [0, 1, 5]) rfl), rfl⟩
 refine sx 4 ?_
 exact RunL.nil ⟨.cons (by first | rfl | (show some (Value.bool _) = some (Value.bool _); congr 2; simp; omega) | (show some (Value.bool _) = some (Value.bool _); simp_all)) (kt (ks := [0, 1, 5]) rfl), rfl⟩
 first | refine Run.if rfl (fun h7 => ?_) (fun h7 => ?_) | refine Run.cond rfl (fun h7 => ?_) (fun h7 => ?_)
 refine sr ?_
 refine asg rfl rfl ?_
 refine kp [4] rfl ?_
 refine Run.ret ?_
 first | exact ret_out 7 (.tmp rfl .nil) (fun h => absurd h (by decide)) rfl gv | exact ret_out 10 (.tmp rfl .nil) (fun h => absurd h (by decide)) rfl gv | exact ret_out 13 (.tmp rfl .nil) (fun h => absurd h (by decide)) rfl gv | exact ret_out 8 (.tmp rfl .nil) (fun h => absurd h (by decide)) rfl gv | exact ret_out 14 (.tmp rfl .nil) (fun h => absurd h (by decide)) rfl gv | exact ret_out 0 (.tmp rfl .nil) (fun _ => ref_alone hcp.1 hcp.2 hall (by omega) hu (by omega) (hI1.all (by omega)) (by omega)) rfl gv
 refine Run.skip ?_
 refine Run.seq ?_
 refine sr ?_
 refine RunL.cut (t := 57) (v := Bo (decide (a.cur ≠ bs0) && !curB a.cur)) (kt (ks := [0, 1, 5]) rfl) ?_ ?_
 refine sx 4 ?_
 first | refine RunL.splitP (t := 52) rfl (fun g8 => ?_) (fun g8 => ?_) | refine RunL.split (t := 52) rfl (fun g8 => ?_) (fun g8 => ?_)
 refine sx 2 ?_
 refine RunL.callG C108 rfl rfl rfl rfl rfl (c_r7 _) .nil ?_
 refine sx 2 ?_
 exact RunL.nil ⟨.cons (by first | rfl | (show some (Value.bool _) = some (Value.bool _); simp_all)) (kt (ks := [0, 1, 5]) rfl), rfl⟩
 refine sx 5 ?_
 exact RunL.nil ⟨.cons (by first | rfl | (show some (Value.bool _) = some (Value.bool _); simp_all)) (kt (ks := [0, 1, 5]) rfl), rfl⟩
 first | refine Run.if rfl (fun h9 => ?_) (fun h9 => ?_) | refine Run.cond rfl (fun h9 => ?_) (fun h9 => ?_)
 refine sr ?_
 refine asg rfl rfl ?_
 refine kp [4] rfl ?_
 refine Run.ret ?_
 first | exact ret_out 7 (.tmp rfl .nil) (fun h => absurd h (by decide)) rfl gv | exact ret_out 10 (.tmp rfl .nil) (fun h => absurd h (by decide)) rfl gv | exact ret_out 13 (.tmp rfl .nil) (fun h => absurd h (by decide)) rfl gv | exact ret_out 8 (.tmp rfl .nil) (fun h => absurd h (by decide)) rfl gv | exact ret_out 14 (.tmp rfl .nil) (fun h => absurd h (by decide)) rfl gv | exact ret_out 0 (.tmp rfl .nil) (fun _ => ref_alone hcp.1 hcp.2 hall (by omega) hu (by omega) (hI1.all (by omega)) (by omega)) rfl gv
 refine Run.skip ?_
 refine Run.seq ?_
 refine sr ?_
 have hall := hI0.all (by omega)
 have hu : a.cur = bs0 ∨ curB a.cur = true := (by have hq0 := ‹(decide (a.cur ≠ bs0) && !curB a.cur) = false›; revert hq0; cases curB a.cur <;> by_cases hq : a.cur = bs0 <;> simp [hq])
 refine sx 3 ?_
 refine RunL.call C76 rfl rfl rfl (c_rFind R _ _ _ (Rd.rds hrd) (by omega) _) tks ?_
 refine sx 2 ?_
 refine kp [5, 63] rfl ?_
 first | refine Run.if rfl (fun h10 => ?_) (fun h10 => ?_) | refine Run.cond rfl (fun h10 => ?_) (fun h10 => ?_)
 refine sr ?_
 refine asg rfl rfl ?_
 refine kp [4] rfl ?_
 refine Run.ret ?_
 first | exact ret_out 7 (.tmp rfl .nil) (fun h => absurd h (by decide)) rfl gv | exact ret_out 10 (.tmp rfl .nil) (fun h => absurd h (by decide)) rfl gv | exact ret_out 13 (.tmp rfl .nil) (fun h => absurd h (by decide)) rfl gv | exact ret_out 8 (.tmp rfl .nil) (fun h => absurd h (by decide)) rfl gv | exact ret_out 14 (.tmp rfl .nil) (fun h => absurd h (by decide)) rfl gv | exact ret_out 0 (.tmp rfl .nil) (fun _ => ref_alone hcp.1 hcp.2 hall (by omega) hu (by omega) (hI1.all (by omega)) (by omega)) rfl gv
 refine Run.skip ?_
 refine Run.seq ?_
 refine sr ?_
 refine asg rfl rfl ?_
 refine kp [5, 7] rfl ?_
 refine Run.block ?_
 refine Run.weak (L' := [pt b5 (blk a.c 57), R]) (fun _ _ h => h) gv ?_
 refine Run.loop (fun mm E L => ∃ k : Nat, mm = a.need.length - k ∧ risTo a.need (k + 1) ∧ E = [(5, .pointer (some ⟨b5, 0, none⟩)), (7, I ((k + 1 : Nat) : Int))] ∧ L = [pt b5 (blk a.c 57), R]) ⟨_, 0, rfl, risTo.one, rfl, rfl⟩ ?_
 rintro _ _ _ ⟨k, rfl, hI1, rfl, rfl⟩
 refine Run.seq ?_
 refine sr ?_
 refine sx 5 ?_
 refine kp [5, 7, 68] rfl ?_
 first | refine Run.if rfl (fun h11 => ?_) (fun h11 => ?_) | refine Run.cond rfl (fun h11 => ?_) (fun h11 => ?_)
 refine Run.skip ?_
 refine Run.seq ?_
 refine Run.block ?_
 refine Run.seq ?_
 refine regionD HM ?_
 obtain ⟨n, hn⟩ := get_ex (xs := a.need) (i := k) (by omega)
 obtain ⟨m, hm⟩ := get_ex (xs := a.need) (i := k + 1) (by omega)
 refine RunD.rdOpen pk hA1 (flat_ne (k := 1) (fun _ => rfl) (by decide) hn) fun b2 o2 e2 hr2 => ?_
 refine tk 0 rfl rfl rfl (DetJ.fieldAddr F57_7 rfl) ?_
 first | refine RunD.takeF 1 rfl rfl kr T55 rfl pk (by rfl) ?_ | refine RunD.takeO 1 rfl rfl kr T55 rfl pk (by assumption) (by rfl) (by exact fun _ => rfl) ?_
 rw [e2]
 refine tk 2 rfl rfl rfl (DetJ.move rfl) ?_
 first | refine tk 3 rfl rfl rfl (DetJ.subI rfl rfl (by omega)) ?_ | refine tk 3 rfl rfl rfl (DetJ.sub rfl rfl) ?_
 refine RunD.set (v := I (k : Int)) (congrArg I (by omega)) ?_
 refine tk 4 rfl rfl rfl (DetJ.indexAddr S55 rfl rfl (by omega)) ?_
 refine RunD.takeR1 5 rfl rfl kr T9 rfl pk (hr2.elem (enc := Sb) (fun _ => rfl) hn) ?_
 refine tk 6 rfl rfl rfl (DetJ.fieldAddr F57_7 rfl) ?_
 first | refine RunD.takeF 7 rfl rfl kr T55 rfl pk (by rfl) ?_ | refine RunD.takeO 7 rfl rfl kr T55 rfl pk (by assumption) (by rfl) (by exact fun _ => rfl) ?_
 rw [e2]
 refine tk 8 rfl rfl rfl (DetJ.move rfl) ?_
 refine tk 9 rfl rfl rfl (DetJ.indexAddr S55 rfl rfl (by omega)) ?_
 refine RunD.takeR1 10 rfl rfl kr T9 rfl pk (hr2.elem (enc := Sb) (fun _ => rfl) hm) ?_
 refine tk 11 rfl rfl rfl (DetJ.geqS rfl rfl) ?_
 refine kd [5, 7, 82] rfl ?_
 first | refine Run.if rfl (fun h12 => ?_) (fun h12 => ?_) | refine Run.cond rfl (fun h12 => ?_) (fun h12 => ?_)
 refine sr ?_
 refine asg rfl rfl ?_
 refine kp [4] rfl ?_
 refine Run.ret ?_
 first | exact ret_out 7 (.tmp rfl .nil) (fun h => absurd h (by decide)) rfl gv | exact ret_out 10 (.tmp rfl .nil) (fun h => absurd h (by decide)) rfl gv | exact ret_out 13 (.tmp rfl .nil) (fun h => absurd h (by decide)) rfl gv | exact ret_out 8 (.tmp rfl .nil) (fun h => absurd h (by decide)) rfl gv | exact ret_out 14 (.tmp rfl .nil) (fun h => absurd h (by decide)) rfl gv | exact ret_out 0 (.tmp rfl .nil) (fun _ => ref_alone hcp.1 hcp.2 hall (by omega) hu (by omega) (hI1.all (by omega)) (by omega)) rfl gv
 refine Run.skip ?_
 refine Run.region ?_
 refine sx 3 ?_
 exact RunL.next (Keep.sub (kt (ks := [5, 7]) rfl)) _ ⟨_, by omega, k + 1, rfl, hI1.step hn hm (by simp_all [blt]), rfl, rfl⟩ gv
 refine Run.exit ?_
 refine Run.seq ?_
 refine sr ?_
 refine sx 4 ?_
 refine kp [86] rfl ?_
 first | refine Run.if rfl (fun h13 => ?_) (fun h13 => ?_) | refine Run.cond rfl (fun h13 => ?_) (fun h13 => ?_)
 refine sr ?_
 refine asg rfl rfl ?_
 refine kp [4] rfl ?_
 refine Run.ret ?_
 first | exact ret_out 7 (.tmp rfl .nil) (fun h => absurd h (by decide)) rfl gv | exact ret_out 10 (.tmp rfl .nil) (fun h => absurd h (by decide)) rfl gv | exact ret_out 13 (.tmp rfl .nil) (fun h => absurd h (by decide)) rfl gv | exact ret_out 8 (.tmp rfl .nil) (fun h => absurd h (by decide)) rfl gv | exact ret_out 14 (.tmp rfl .nil) (fun h => absurd h (by decide)) rfl gv | exact ret_out 0 (.tmp rfl .nil) (fun _ => ref_alone hcp.1 hcp.2 hall (by omega) hu (by omega) (hI1.all (by omega)) (by omega)) rfl gv
 refine Run.skip ?_
 refine sr ?_
 refine asg rfl rfl ?_
 refine kp [4] rfl ?_
 refine Run.ret ?_
 first | exact ret_out 7 (.tmp rfl .nil) (fun h => absurd h (by decide)) rfl gv | exact ret_out 10 (.tmp rfl .nil) (fun h => absurd h (by decide)) rfl gv | exact ret_out 13 (.tmp rfl .nil) (fun h => absurd h (by decide)) rfl gv | exact ret_out 8 (.tmp rfl .nil) (fun h => absurd h (by decide)) rfl gv | exact ret_out 14 (.tmp rfl .nil) (fun h => absurd h (by decide)) rfl gv | exact ret_out 0 (.tmp rfl .nil) (fun _ => ref_alone hcp.1 hcp.2 hall (by omega) hu (by omega) (hI1.all (by omega)) (by omega)) rfl gv
theorem c_rPlaced (R : HP) (oa : Option Addr) (cap : Nat) (xs : List Ac) (hR : RdS R oa (xs.flatMap Ac.c)) (hl : xs.length ≤ 140737488355328) (h4 : xs.length ≤ 400) (h0 : aloneTo xs xs.length) (i : Nat) (a : Ac) (hx : xs[i]? = some a) : AC Tryz.prog 65 ⟨[.slice oa xs.length cap, .agg ⟨a.c⟩]⟩ (stars [R]) (Outs (fun e : Int => e = 0 → belowB xs a = true) (fun e => I e) (fun _ => [R])) := by
 refine AC.go Tryz.func65 rfl (Nat.le_of_ble_eq_true rfl) fun β => ?_
 refine sr ?_
 refine RunL.op rfl rfl (OpJ.boxA rfl fun b3 => ?_)
 refine asg rfl rfl ?_
 refine kp [0, 3] rfl ?_
 refine Run.seq ?_
 refine sr ?_
 refine sx 3 ?_
 refine kp [0, 3, 8] rfl ?_
 first | refine Run.if rfl (fun h1 => ?_) (fun h1 => ?_) | refine Run.cond rfl (fun h1 => ?_) (fun h1 => ?_)
 refine sr ?_
 refine asg rfl rfl ?_
 refine kp [4] rfl ?_
 refine Run.ret ?_
 first | exact ret_out 28 (.tmp rfl .nil) (fun h => absurd h (by decide)) rfl gv | exact ret_out 10 (.tmp rfl .nil) (fun h => absurd h (by decide)) rfl gv | exact ret_out 12 (.tmp rfl .nil) (fun h => absurd h (by decide)) rfl gv | exact ret_out 24 (.tmp rfl .nil) (fun h => absurd h (by decide)) rfl gv | exact ret_out 0 (.tmp rfl .nil) (fun _ => ref_below h0 (alone_code (h0 i a (List.getElem?_eq_some_iff.1 hx).1 hx)) hg (by omega) (by assumption) (by assumption)) rfl gv | exact ret_out 0 (.tmp rfl .nil) (fun _ => ref_root (by simp_all)) rfl gv
 refine Run.skip ?_
 refine sr ?_
 refine sx 3 ?_
 refine RunL.call C76 rfl rfl rfl (c_rFind R _ _ _ hR (by omega) _) tks ?_
 rcases find_or xs a.parent with ⟨hf, hg⟩ | ⟨q, up, hf, hy, hyc, hg⟩
 rw [hf]
 refine asg rfl rfl ?_
 refine kp [0, 3, 5] rfl ?_
 refine Run.seq ?_
 refine sr ?_
 refine sx 2 ?_
 refine kp [0, 3, 5, 14] rfl ?_
 refine Run.true rfl ?_
 refine sr ?_
 refine asg rfl rfl ?_
 refine kp [4] rfl ?_
 refine Run.ret ?_
 first | exact ret_out 28 (.tmp rfl .nil) (fun h => absurd h (by decide)) rfl gv | exact ret_out 10 (.tmp rfl .nil) (fun h => absurd h (by decide)) rfl gv | exact ret_out 12 (.tmp rfl .nil) (fun h => absurd h (by decide)) rfl gv | exact ret_out 24 (.tmp rfl .nil) (fun h => absurd h (by decide)) rfl gv | exact ret_out 0 (.tmp rfl .nil) (fun _ => ref_below h0 (alone_code (h0 i a (List.getElem?_eq_some_iff.1 hx).1 hx)) hg (by omega) (by assumption) (by assumption)) rfl gv | exact ret_out 0 (.tmp rfl .nil) (fun _ => ref_root (by simp_all)) rfl gv
 rw [hf]
 refine asg rfl rfl ?_
 refine kp [0, 3, 5] rfl ?_
 refine Run.seq ?_
 refine sr ?_
 refine sx 2 ?_
 refine RunL.set (congrArg Bo (decide_eq_false (by omega))) ?_
 refine kp [0, 3, 5, 14] rfl ?_
 refine Run.false rfl ?_
 refine Run.skip ?_
 refine Run.seq ?_
 refine Run.seq ?_
 refine regionD HM ?_
 refine RunD.rdOpen pk hR (flat_ne (k := 8) (fun _ => rfl) (by decide) hy) fun b o eb hrd => ?_
 subst eb
 have hql := (List.getElem?_eq_some_iff.1 hy).1
 refine tk 0 rfl rfl rfl (DetJ.move rfl) ?_
 refine tk 1 rfl rfl rfl (DetJ.move rfl) ?_
 refine tk 2 rfl rfl rfl (DetJ.indexAddr S22 rfl rfl (by omega)) ?_
 refine tk 3 rfl rfl rfl (DetJ.fieldAddr F57_2 rfl) ?_
 refine RunD.takeR1 4 rfl rfl kr T3 rfl pk (hrd.at (enc := Ac.c) 8 (fun _ => rfl) hy 2 (I up.kind) rfl) ?_
 refine tk 5 rfl rfl rfl (DetJ.fieldAddr F57_2 rfl) ?_
 first | refine RunD.takeF 6 rfl rfl kr T3 rfl pk (by rfl) ?_ | refine RunD.takeO 6 rfl rfl kr T3 rfl pk (by assumption) (by rfl) (by exact fun _ => rfl) ?_
 refine tk 7 rfl rfl rfl (DetJ.neq rfl rfl) ?_
 refine kd [0, 3, 5, 22] rfl ?_
 first | refine Run.if rfl (fun h2 => ?_) (fun h2 => ?_) | refine Run.cond rfl (fun h2 => ?_) (fun h2 => ?_)
 refine sr ?_
 refine asg rfl rfl ?_
 refine kp [4] rfl ?_
 refine Run.ret ?_
 first | exact ret_out 28 (.tmp rfl .nil) (fun h => absurd h (by decide)) rfl gv | exact ret_out 10 (.tmp rfl .nil) (fun h => absurd h (by decide)) rfl gv | exact ret_out 12 (.tmp rfl .nil) (fun h => absurd h (by decide)) rfl gv | exact ret_out 24 (.tmp rfl .nil) (fun h => absurd h (by decide)) rfl gv | exact ret_out 0 (.tmp rfl .nil) (fun _ => ref_below h0 (alone_code (h0 i a (List.getElem?_eq_some_iff.1 hx).1 hx)) hg (by omega) (by assumption) (by assumption)) rfl gv | exact ret_out 0 (.tmp rfl .nil) (fun _ => ref_root (by simp_all)) rfl gv
 refine Run.skip ?_
 refine Run.seq ?_
 refine sr ?_
 refine sx 4 ?_
 refine RunL.op rfl rfl (OpJ.load1 inferInstance rfl pk (hrd.at (enc := Ac.c) 8 (fun _ => rfl) hy 3 (Bo up.post) rfl) ?_)
 refine kp [0, 3, 27] rfl ?_
 first | refine Run.if rfl (fun h3 => ?_) (fun h3 => ?_) | refine Run.cond rfl (fun h3 => ?_) (fun h3 => ?_)
 refine sr ?_
 refine asg rfl rfl ?_
 refine kp [4] rfl ?_
 refine Run.ret ?_
 first | exact ret_out 28 (.tmp rfl .nil) (fun h => absurd h (by decide)) rfl gv | exact ret_out 10 (.tmp rfl .nil) (fun h => absurd h (by decide)) rfl gv | exact ret_out 12 (.tmp rfl .nil) (fun h => absurd h (by decide)) rfl gv | exact ret_out 24 (.tmp rfl .nil) (fun h => absurd h (by decide)) rfl gv | exact ret_out 0 (.tmp rfl .nil) (fun _ => ref_below h0 (alone_code (h0 i a (List.getElem?_eq_some_iff.1 hx).1 hx)) hg (by omega) (by assumption) (by assumption)) rfl gv | exact ret_out 0 (.tmp rfl .nil) (fun _ => ref_root (by simp_all)) rfl gv
 refine Run.skip ?_
 refine Run.seq ?_
 refine sr ?_
 refine sx 5 ?_
 refine RunL.call C109 rfl rfl rfl (c_rAnc R _ _ _ hR (by omega) h4 _ _) tks ?_
 refine kp [33] rfl ?_
 first | refine Run.if rfl (fun h4 => ?_) (fun h4 => ?_) | refine Run.cond rfl (fun h4 => ?_) (fun h4 => ?_)
 refine sr ?_
 refine asg rfl rfl ?_
 refine kp [4] rfl ?_
 refine Run.ret ?_
 first | exact ret_out 28 (.tmp rfl .nil) (fun h => absurd h (by decide)) rfl gv | exact ret_out 10 (.tmp rfl .nil) (fun h => absurd h (by decide)) rfl gv | exact ret_out 12 (.tmp rfl .nil) (fun h => absurd h (by decide)) rfl gv | exact ret_out 24 (.tmp rfl .nil) (fun h => absurd h (by decide)) rfl gv | exact ret_out 0 (.tmp rfl .nil) (fun _ => ref_below h0 (alone_code (h0 i a (List.getElem?_eq_some_iff.1 hx).1 hx)) hg (by omega) (by assumption) (by assumption)) rfl gv | exact ret_out 0 (.tmp rfl .nil) (fun _ => ref_root (by simp_all)) rfl gv
 refine Run.skip ?_
 refine sr ?_
 refine asg rfl rfl ?_
 refine kp [4] rfl ?_
 refine Run.ret ?_
 first | exact ret_out 28 (.tmp rfl .nil) (fun h => absurd h (by decide)) rfl gv | exact ret_out 10 (.tmp rfl .nil) (fun h => absurd h (by decide)) rfl gv | exact ret_out 12 (.tmp rfl .nil) (fun h => absurd h (by decide)) rfl gv | exact ret_out 24 (.tmp rfl .nil) (fun h => absurd h (by decide)) rfl gv | exact ret_out 0 (.tmp rfl .nil) (fun _ => ref_below h0 (alone_code (h0 i a (List.getElem?_eq_some_iff.1 hx).1 hx)) hg (by omega) (by assumption) (by assumption)) rfl gv | exact ret_out 0 (.tmp rfl .nil) (fun _ => ref_root (by simp_all)) rfl gv
theorem c_rCheck (R : HP) (oa : Option Addr) (cap : Nat) (xs : List Ac) (hR : RdS R oa (xs.flatMap Ac.c)) (hl : xs.length ≤ 140737488355328) (hA : ∀ a ∈ xs, a.rd R ∧ a.sz) : AC Tryz.prog 30 ⟨[.slice oa xs.length cap]⟩ (stars [R]) (Outs (fun y : Int × Int => y.2 = 0 → chartB xs = true) (fun y => .tuple ⟨[I y.1, I y.2]⟩) (fun _ => [R])) := by
 refine AC.go Tryz.func30 rfl (Nat.le_of_ble_eq_true rfl) fun β => ?_
 refine sr ?_
 refine sx 2 ?_
 refine kp [0] rfl ?_
 refine Run.seq ?_
 refine sr ?_
 refine sx 3 ?_
 refine kp [0, 10] rfl ?_
 first | refine Run.if rfl (fun h1 => ?_) (fun h1 => ?_) | refine Run.cond rfl (fun h1 => ?_) (fun h1 => ?_)
 refine sr ?_
 refine sx 2 ?_
 refine kp [2, 3] rfl ?_
 refine Run.ret ?_
 first | exact ret_out (0, 9) (.tmp rfl (.tmp rfl .nil)) (fun h => absurd h (by decide)) rfl gv | exact ret_out ((i : Int), e) (.tmp rfl (.tmp rfl .nil)) (fun h => absurd h (by simp_all)) rfl gv | exact ret_out ((k : Int), e) (.tmp rfl (.tmp rfl .nil)) (fun h => absurd h (by simp_all)) rfl gv | exact ret_out (0, 0) (.tmp rfl (.tmp rfl .nil)) (fun _ => chart_good (by omega) h0 (by obtain rfl : k = xs.length := (by omega); exact hI1)) rfl gv
 refine Run.skip ?_
 refine Run.seq ?_
 refine sr ?_
 refine asg rfl rfl ?_
 refine kp [0, 4] rfl ?_
 refine Run.block ?_
 refine Run.loop (fun mm E L => ∃ i : Nat, mm = xs.length - i ∧ i ≤ xs.length ∧ aloneTo xs i ∧ E = [(0, .slice oa xs.length cap), (4, I i)] ∧ L = [R]) ⟨_, 0, rfl, Nat.zero_le _, (fun j x h => by omega), rfl, rfl⟩ ?_
 rintro _ _ _ ⟨i, rfl, hi, hI0, rfl, rfl⟩
 refine Run.seq ?_
 refine sr ?_
 refine sx 4 ?_
 refine kp [0, 4, 14] rfl ?_
 first | refine Run.if rfl (fun h2 => ?_) (fun h2 => ?_) | refine Run.cond rfl (fun h2 => ?_) (fun h2 => ?_)
 refine Run.skip ?_
 refine Run.seq ?_
 refine Run.block ?_
 refine sr ?_
 obtain ⟨a, hx⟩ := get_ex (xs := xs) (i := i) (by omega)
 refine RunL.rdOpen pk hR (flat_ne (k := 8) (fun _ => rfl) (by decide) hx) fun b o eb hrd => ?_
 subst eb
 refine sx 2 ?_
 refine RunL.callX C64 rfl rfl rfl (c_rAlone R b o _ xs hrd (by omega) i a hx (hA a (List.mem_of_getElem? hx)).1 (hA a (List.mem_of_getElem? hx)).2) tks fun e he => ?_
 refine asg rfl rfl ?_
 refine kp [0, 4, 5] rfl ?_
 refine sr ?_
 refine sx 2 ?_
 refine kp [0, 4, 5, 21] rfl ?_
 first | refine Run.if rfl (fun h3 => ?_) (fun h3 => ?_) | refine Run.cond rfl (fun h3 => ?_) (fun h3 => ?_)
 refine sr ?_
 refine sx 4 ?_
 refine kp [2, 3] rfl ?_
 refine Run.ret ?_
 first | exact ret_out (0, 9) (.tmp rfl (.tmp rfl .nil)) (fun h => absurd h (by decide)) rfl gv | exact ret_out ((i : Int), e) (.tmp rfl (.tmp rfl .nil)) (fun h => absurd h (by simp_all)) rfl gv | exact ret_out ((k : Int), e) (.tmp rfl (.tmp rfl .nil)) (fun h => absurd h (by simp_all)) rfl gv | exact ret_out (0, 0) (.tmp rfl (.tmp rfl .nil)) (fun _ => chart_good (by omega) h0 (by obtain rfl : k = xs.length := (by omega); exact hI1)) rfl gv
 refine Run.skip ?_
 refine Run.region ?_
 refine sx 3 ?_
 exact RunL.next (Keep.sub (kt (ks := [0, 4]) rfl)) _ ⟨_, by omega, i + 1, rfl, by omega, hI0.at hx (he (by simpa using h3)), rfl, rfl⟩ gv
 refine Run.exit ?_
 refine Run.seq ?_
 refine sr ?_
 obtain rfl : i = xs.length := by omega
 have h0 := hI0
 refine asg rfl rfl ?_
 refine kp [0, 6] rfl ?_
 refine Run.block ?_
 refine Run.loop (fun mm E L => ∃ k : Nat, mm = xs.length - k ∧ k ≤ xs.length ∧ belowTo xs k ∧ E = [(0, .slice oa xs.length cap), (6, I k)] ∧ L = [R]) ⟨_, 0, rfl, Nat.zero_le _, (fun j x h => by omega), rfl, rfl⟩ ?_
 rintro _ _ _ ⟨k, rfl, hk, hI1, rfl, rfl⟩
 refine Run.seq ?_
 refine sr ?_
 refine sx 4 ?_
 refine kp [0, 6, 27] rfl ?_
 first | refine Run.if rfl (fun h4 => ?_) (fun h4 => ?_) | refine Run.cond rfl (fun h4 => ?_) (fun h4 => ?_)
 refine Run.skip ?_
 refine Run.seq ?_
 refine Run.block ?_
 refine sr ?_
 obtain ⟨a, hx⟩ := get_ex (xs := xs) (i := k) (by omega)
 refine RunL.rdOpen pk hR (flat_ne (k := 8) (fun _ => rfl) (by decide) hx) fun b o eb hrd => ?_
 subst eb
 refine sx 4 ?_
 refine RunL.op rfl rfl (OpJ.loadA inferInstance rfl pk (hrd.elem (fun _ => rfl) hx) rfl ?_)
 refine RunL.callX C65 rfl rfl rfl (c_rPlaced R _ _ xs hR (by omega) (by omega) h0 k a hx) tks fun e he => ?_
 refine asg rfl rfl ?_
 refine kp [0, 6, 7] rfl ?_
 refine sr ?_
 refine sx 2 ?_
 refine kp [0, 6, 7, 37] rfl ?_
 first | refine Run.if rfl (fun h5 => ?_) (fun h5 => ?_) | refine Run.cond rfl (fun h5 => ?_) (fun h5 => ?_)
 refine sr ?_
 refine sx 4 ?_
 refine kp [2, 3] rfl ?_
 refine Run.ret ?_
 first | exact ret_out (0, 9) (.tmp rfl (.tmp rfl .nil)) (fun h => absurd h (by decide)) rfl gv | exact ret_out ((i : Int), e) (.tmp rfl (.tmp rfl .nil)) (fun h => absurd h (by simp_all)) rfl gv | exact ret_out ((k : Int), e) (.tmp rfl (.tmp rfl .nil)) (fun h => absurd h (by simp_all)) rfl gv | exact ret_out (0, 0) (.tmp rfl (.tmp rfl .nil)) (fun _ => chart_good (by omega) h0 (by obtain rfl : k = xs.length := (by omega); exact hI1)) rfl gv
 refine Run.skip ?_
 refine Run.region ?_
 refine sx 3 ?_
 exact RunL.next (Keep.sub (kt (ks := [0, 6]) rfl)) _ ⟨_, by omega, k + 1, rfl, by omega, hI1.at hx (he (by first | simpa using h3 | simpa using h4 | simpa using h5)), rfl, rfl⟩ gv
 refine Run.exit ?_
 refine sr ?_
 refine sx 2 ?_
 refine kp [2, 3] rfl ?_
 refine Run.ret ?_
 first | exact ret_out (0, 9) (.tmp rfl (.tmp rfl .nil)) (fun h => absurd h (by decide)) rfl gv | exact ret_out ((i : Int), e) (.tmp rfl (.tmp rfl .nil)) (fun h => absurd h (by simp_all)) rfl gv | exact ret_out ((k : Int), e) (.tmp rfl (.tmp rfl .nil)) (fun h => absurd h (by simp_all)) rfl gv | exact ret_out (0, 0) (.tmp rfl (.tmp rfl .nil)) (fun _ => chart_good (by omega) h0 (by obtain rfl : k = xs.length := (by omega); exact hI1)) rfl gv
end
instance cEq : CEq Tryz.prog 63 := .of Tryz.underlying63 (by kernel_rfl) (by kernel_rfl) ⟨by decide, rfl, rfl⟩ ⟨by decide, rfl, rfl⟩ ⟨by decide, rfl, rfl⟩ Tryz.underlying61 (by kernel_rfl) (by decide) (by kernel_rfl) (by kernel_rfl) (by kernel_rfl)
section
attribute [local irreducible] OpJ RunL Run RunD DetJ pt own star Rd RdS
theorem c_rSame (A B : HP) (oa ob : Option Addr) (ca cb : Nat) (s : List Cl) (hA : RdS A oa (s.flatMap Cl.c)) (hB : RdS B ob (s.flatMap Cl.c)) (hl : s.length ≤ 140737488355328) : AC Tryz.prog 15 ⟨[.slice oa s.length ca, .slice ob s.length cb]⟩ (stars [A, B]) (Ret (Bo true) [A, B]) := by
 refine AC.go Tryz.func15 rfl (Nat.le_of_ble_eq_true rfl) fun β => ?_
 refine sr ?_
 refine asg rfl rfl ?_
 refine kp [0, 1] rfl ?_
 refine Run.seq ?_
 refine sr ?_
 refine sx 5 ?_
 refine RunL.set (congrArg Bo (decide_eq_false (by simp))) ?_
 refine kp [0, 1, 10] rfl ?_
 refine Run.false rfl ?_
 refine Run.skip ?_
 refine Run.seq ?_
 refine sr ?_
 refine asg rfl rfl ?_
 refine kp [0, 1, 5] rfl ?_
 refine Run.block ?_
 refine Run.loop (fun mm E L => ∃ i : Nat, mm = s.length - i ∧ i ≤ s.length ∧ E = [(0, .slice oa s.length ca), (1, .slice ob s.length cb), (5, I i)] ∧ L = [A, B]) ⟨_, 0, rfl, Nat.zero_le _, rfl, rfl⟩ ?_
 rintro _ _ _ ⟨i, rfl, hi, rfl, rfl⟩
 refine Run.seq ?_
 refine sr ?_
 refine sx 4 ?_
 refine kp [0, 1, 5, 14] rfl ?_
 first | refine Run.if rfl (fun h1 => ?_) (fun h1 => ?_) | refine Run.cond rfl (fun h1 => ?_) (fun h1 => ?_)
 refine Run.skip ?_
 refine Run.seq ?_
 refine Run.block ?_
 refine Run.seq ?_
 refine regionD HM ?_
 obtain ⟨x, hx⟩ := get_ex (xs := s) (i := i) (by omega)
 refine RunD.rdOpen pk hA (flat_ne (k := 7) (fun _ => rfl) (by decide) hx) fun b1 o1 e1 hr1 => ?_
 refine RunD.rdOpen pk hB (flat_ne (k := 7) (fun _ => rfl) (by decide) hx) fun b2 o2 e2 hr2 => ?_
 subst e1
 subst e2
 refine tk 0 rfl rfl rfl (DetJ.move rfl) ?_
 refine tk 1 rfl rfl rfl (DetJ.move rfl) ?_
 refine tk 2 rfl rfl rfl (DetJ.indexAddr S32 rfl rfl (by omega)) ?_
 refine RunD.takeR 3 rfl rfl kr T63 rfl pk (hr1.elem (enc := Cl.c) (fun _ => rfl) hx) rfl ?_
 refine tk 4 rfl rfl rfl (DetJ.move rfl) ?_
 refine tk 5 rfl rfl rfl (DetJ.move rfl) ?_
 refine tk 6 rfl rfl rfl (DetJ.indexAddr S32 rfl rfl (by omega)) ?_
 refine RunD.takeR 7 rfl rfl kr T63 rfl pk (hr2.elem (enc := Cl.c) (fun _ => rfl) hx) rfl ?_
 refine tk 8 rfl rfl rfl (DetJ.neqC inferInstance rfl rfl) ?_
 refine kd [0, 1, 5, 25] rfl ?_
 refine Run.false rfl ?_
 refine Run.skip ?_
 refine Run.region ?_
 refine sx 3 ?_
 exact RunL.next (Keep.sub (kt (ks := [0, 1, 5]) rfl)) _ ⟨_, by omega, i + 1, rfl, by omega, rfl, rfl⟩ gv
 refine Run.exit ?_
 refine sr ?_
 refine asg rfl rfl ?_
 refine kp [4] rfl ?_
 refine Run.ret ?_
 exact ret_one (.tmp rfl .nil) (rfl) gv
end
end Go.Proofs.YtglaahpagjjmoaaGreatDoor
