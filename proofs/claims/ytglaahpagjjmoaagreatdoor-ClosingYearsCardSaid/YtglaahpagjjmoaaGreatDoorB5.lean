/- Laws of the walks and of the models, part 5 (merged by program). -/
import Derived.Test.YtglaahpagjjmoaaGreatDoorB4
import Derived.Test.YtglaahpagjjmoaaGreatDoorRows
import Derived.Test.YtglaahpagjjmoaaGreatDoorTie
import Derived.Test.YtglaahpagjjmoaaGreatDoorCards
import Derived.ProofKit
import Derived.WalkKit
import Derived.LaidMore
import Derived.OpenShut
import Derived.Below
import Derived.ChangeOld
import Derived.SizedLaws
import Derived.Deep.Slices
import Derived.Stop.Joined
import Derived.Shelf.Vars
set_option linter.unusedVariables false
set_option linter.unusedSimpArgs false
set_option maxRecDepth 20000
set_option maxHeartbeats 4000000
namespace Go.Proofs.YtglaahpagjjmoaaGreatDoor
open Go Go.SL Go.Proofs
section
attribute [local irreducible] OpJ RunL Run RunD DetJ pt own star Rd RdS
end
theorem c_GetO (o : Option Chv) (xs : List Ac) (hs : ChOk o xs) (hse : o.isSome = true) (s : ByteArray) : AC Tryz.prog 21 ⟨[chV o, St s]⟩ (stars [chH 110 9 o]) (Outs (fun _ : Option Addr × Nat => True) (fun y => .tuple ⟨[.agg ⟨((lkA xs s).put y).c⟩, Bo (getL xs s).isSome]⟩) (fun y => [own 9 1 y.1 (lkA xs s).need.length y.2 ((lkA xs s).need.flatMap Sb), chH 110 9 o])) := by
  cases o with
  | none => cases hse
  | some y =>
    obtain ⟨h1, h2⟩ := lk_st (hs.1 y rfl) s
    refine AC.pre (AC.outs (c_Get y.b y.bm y.v y.w y.m hs.need s) fun z _ => ⟨z, trivial, ?_, ?_⟩) fun h hh => stars_mk hh
    · rw [(put_st h1 z).1, h2]
    · rw [(put_st h1 z).2]; exact Imp.pack1 (As := [_, _, _]) (Rs := [])
section
attribute [local irreducible] OpJ RunL Run RunD DetJ pt own star Rd RdS
theorem c_whole (x : Cs) (R : HP) (hx : x.rd R) : AC Tryz.prog 11 ⟨[.agg ⟨x.c⟩]⟩ (stars [R]) (Outs (fun y : Option Chv × Bool => ChOk y.1 x.xs ∧ (y.1.isSome = true → x.few) ∧ (y.2 = true → y.1.isSome = true)) (fun y => .tuple ⟨[chV y.1, Bo y.2]⟩) (fun y => [chH 110 9 y.1, R])) := by
 have hx2 := hx
 obtain ⟨hxr, hxe, hxl, hlr, hle, hls, hll, hiy, hib, hzw⟩ := hx
 refine AC.go Tryz.func11 rfl (Nat.le_of_ble_eq_true rfl) fun β => ?_
 refine sr ?_
 refine RunL.op rfl rfl (OpJ.boxA rfl fun b1 => ?_)
 refine sx 2 ?_
 refine kp [1] rfl ?_
 refine Run.seq ?_
 refine sr ?_
 refine sx 1 ?_
 refine RunL.callX C28 rfl rfl rfl (c_large x R hx2) tks fun bl hbl => ?_
 refine kp [1, 10] rfl ?_
 first | refine Run.if rfl (fun h1 => ?_) (fun h1 => ?_) | refine Run.cond rfl (fun h1 => ?_) (fun h1 => ?_)
 refine sr ?_
 refine RunL.chNone 110 9 ?_
 refine sx 2 ?_
 refine kp [2, 3] rfl ?_
 refine Run.ret ?_
 exact ret_out (none, false) (.tmp rfl (.tmp rfl .nil)) ⟨⟨(fun c h => by cases h), fun h => by cases h⟩, (fun h => by cases h), fun h => by cases h⟩ rfl gv
 refine Run.skip ?_
 refine sr ?_
 refine sx 2 ?_
 refine RunL.callX C30 rfl rfl rfl (c_rCheck R _ _ x.xs hxr hxl hxe) tks fun ⟨e1, e2⟩ hc => ?_
 refine sx 5 ?_
 refine kp [1, 5] rfl ?_
 refine sr ?_
 refine sx 2 ?_
 refine RunL.callX C31 rfl rfl rfl (c_NewO R _ _ x.xs hxr (fun a ha => (hxe a ha).1) hxl) tks fun ⟨o, p1, p2⟩ hy => ?_
 refine sx 7 ?_
 refine kp [5, 6] rfl ?_
 refine sr ?_
 refine sx 5 ?_
 refine kp [2, 3] rfl ?_
 refine Run.ret ?_
 exact ret_out (o, decide (e2 = 0)) (.tmp rfl (.tmp rfl .nil)) ⟨hy.2, (fun _ => hbl (by simpa using h1)), fun h => hy.1.trans (hc (by simpa using h))⟩ rfl gv
theorem c_lawSelects (R : HP) (x : Cs) (m0 : Int) (hR0 : Rd R ⟨0, 0, none⟩ lensC) (hM : Rd R ⟨1, 0, none⟩ [I m0]) (hx : x.rd R) : AC Tryz.prog 5 ⟨[.agg ⟨x.c⟩]⟩ (stars [R]) (Ret (Bo true) [R]) := by
 have hx2 := hx
 obtain ⟨hxr, hxe, hxl, hlr, hle, hls, hll, hiy, hib, hzw⟩ := hx
 refine AC.go Tryz.func5 rfl (Nat.le_of_ble_eq_true rfl) fun β => ?_
 refine sr ?_
 refine RunL.op rfl rfl (OpJ.boxA rfl fun b1 => ?_)
 refine asg rfl rfl ?_
 refine kp [1] rfl ?_
 refine sr ?_
 refine sx 1 ?_
 refine RunL.callX C11 rfl rfl rfl (c_whole x R hx2) tks fun ⟨o, ok⟩ ⟨ho, hfew, hok⟩ => ?_
 dsimp only at ho hfew hok
 refine sx 5 ?_
 refine kp [1, 3, 4] rfl ?_
 refine sr ?_
 refine sx 2 ?_
 refine RunL.op rfl rfl (OpJ.loadP inferInstance rfl pk (by simp [Cs.c]) ?_)
 refine sx 8 ?_
 refine RunL.callX C13 rfl rfl rfl (c_ResO o x.xs ho R _ _ x.l hR0 hlr (fun e he => (hle e he).1) (fun h => by have := (hfew h).l; omega) x.first x.ent x.year x.book) tks fun ⟨sa, sc⟩ _ => ?_
 refine sx 5 ?_
 refine kp [1, 3, 4, 5, 6] rfl ?_
 refine Run.seq ?_
 refine sr ?_
 refine sx 3 ?_
 rcases Bool.eq_false_or_eq_true ok with hk | hk
 refine RunL.set (v := Bo false) (by rw [hk]; rfl) ?_
 refine sx 3 ?_
 refine kp [1, 3, 5, 41] rfl ?_
 first | refine Run.if rfl (fun h1 => ?_) (fun h1 => ?_) | refine Run.cond rfl (fun h1 => ?_) (fun h1 => ?_)
 refine sr ?_
 refine RunL.call C12 rfl rfl rfl (c_lives R m0 hR0 hM) tks ?_
 refine asg rfl rfl ?_
 refine kp [2] rfl ?_
 refine Run.ret ?_
 exact ret_one (.tmp rfl .nil) (rfl) gv
 refine Run.skip ?_
 refine sr ?_
 have hse : o.isSome = true := hok hk
 have hr2 := resX_some hse x.xs x.first x.l x.ent x.year x.book
 rw [hr2]
 have he0 : (resM x.xs x.first x.l x.ent x.year x.book).2 = 0 := (by rw [← hr2]; (first | simpa using h1 | simpa using g1 | simpa using g2 | simpa using h2))
 obtain ⟨all, hro⟩ := res_ok2 he0
 have hs0 := hfew hse
 refine sx 1 ?_
 refine RunL.op rfl rfl (OpJ.loadP inferInstance rfl pk (by simp [Cs.c]) ?_)
 refine sx 3 ?_
 refine RunL.call C19 rfl rfl rfl (c_Span x.first x.year 13 R hR0) tks ?_
 rw [hro.span]
 dsimp only
 refine sx 7 ?_
 refine kp [1, 3, 5, 8, 9] rfl ?_
 refine sr ?_
 refine sx 8 ?_
 refine RunL.callX C20 rfl rfl rfl (c_Replay R _ _ x.l ⟨x.ent, 0, lastF x.first x.year, x.book⟩ hR0 hlr (fun e he => (hle e he).1) (by have := hs0.l; omega)) tks fun ⟨ra, rc⟩ _ => ?_
 rw [hro.rep]
 dsimp only
 refine sx 5 ?_
 refine kp [3, 5, 9, 10, 11] rfl ?_
 refine sr ?_
 refine RunL.op rfl rfl (OpJ.buildSlice0 S32 fun b65 => ?_)
 refine asg rfl rfl ?_
 refine kp [3, 5, 9, 10, 11, 12] rfl ?_
 refine Run.seq ?_
 refine sr ?_
 have hrl : all.length ≤ 100000 := (by have h := replay_len (q := ⟨x.ent, 0, lastF x.first x.year, x.book⟩) (l := x.l) (by have := hs0.l; omega); rw [hro.rep] at h; exact h)
 refine asg rfl rfl ?_
 refine kp [3, 5, 9, 10, 11, 12, 13] rfl ?_
 refine Run.block ?_
 refine Run.weak (L' := [own 63 7 (bpt b65) ([] : List Cl).length 0 (([] : List Cl).flatMap Cl.c), own 63 7 ra all.length rc (all.flatMap Cl.c), own 63 7 sa (resM x.xs x.first x.l x.ent x.year x.book).1.length sc ((resM x.xs x.first x.l x.ent x.year x.book).1.flatMap Cl.c), chH 110 9 o, pt b1 (blk x.c 27), R]) (fun _ _ h => h) gv ?_
 refine Run.loop (fun mm E L => ∃ (i : Nat) (acc : List Cl) (ca : Option Addr) (cc : Nat), mm = all.length - i ∧ i ≤ all.length ∧ PickI x.xs all i acc ∧ E = [(3, chV o), (5, .slice sa (resM x.xs x.first x.l x.ent x.year x.book).1.length sc), (9, I 0), (10, .slice ra all.length rc), (11, I 0), (12, .slice ca acc.length cc), (13, I i)] ∧ L = [own 63 7 ca acc.length cc (acc.flatMap Cl.c), own 63 7 ra all.length rc (all.flatMap Cl.c), own 63 7 sa (resM x.xs x.first x.l x.ent x.year x.book).1.length sc ((resM x.xs x.first x.l x.ent x.year x.book).1.flatMap Cl.c), chH 110 9 o, pt b1 (blk x.c 27), R]) ⟨_, 0, [], bpt b65, 0, rfl, Nat.zero_le _, PickI.start, rfl, rfl⟩ ?_
 rintro _ _ _ ⟨i, acc, ca, cc, rfl, hi, hI0, rfl, rfl⟩
 refine Run.seq ?_
 refine sr ?_
 refine sx 4 ?_
 refine kp [3, 5, 9, 10, 11, 12, 13, 69] rfl ?_
 first | refine Run.if rfl (fun h2 => ?_) (fun h2 => ?_) | refine Run.cond rfl (fun h2 => ?_) (fun h2 => ?_)
 refine Run.skip ?_
 refine Run.seq ?_
 refine Run.block ?_
 refine sr ?_
 obtain ⟨y, hy⟩ := get_ex (xs := all) (i := i) (by omega)
 refine RunL.ownAddr (oa := ra) pk (flat_ne (k := 7) (fun _ => rfl) (by decide) hy) fun bs1 e1 hcap1 => ?_
 subst e1
 have hal := hI0.2
 refine sx 6 ?_
 refine RunL.op rfl rfl (OpJ.load1 inferInstance rfl pk (own.fld (enc := Cl.c) (k := 7) (j := 1) hy rfl (fun _ => rfl)) ?_)
 refine RunL.callX C21 rfl rfl rfl (c_GetO o x.xs ho hse y.k.acc) tks fun ⟨na, nc⟩ _ => ?_
 refine mvo rfl rfl ?_
 rcases hg : getL x.xs y.k.acc with _ | a
 have hbad := hI0.bad hy hg
 rw [hro.pick] at hbad
 cases hbad
 rw [lk_some hg]
 refine sx 2 ?_
 refine RunL.op rfl rfl (OpJ.alloc Z57 fun b14 => ?_)
 refine RunL.op rfl rfl (OpJ.storeW T57 rfl rfl rfl rfl (by simp [Value.oneCell', Tg.c, Ln.c, En.c, Ac.c, Cl.c, Ky.c, Qy.c, Sb, Iv, Cs.c]) up ?_)
 refine asg rfl rfl ?_
 refine kp [3, 5, 9, 10, 11, 12, 13, 14, 15] rfl ?_
 refine Run.seq ?_
 refine sr ?_
 refine sx 5 ?_
 rcases Bool.eq_false_or_eq_true a.post with hp | hp
 refine RunL.set (v := Bo true) (by show Bo a.post = _; rw [hp]) ?_
 refine sx 2 ?_
 refine kp [3, 5, 9, 10, 11, 12, 13, 14, 89] rfl ?_
 refine Run.false rfl ?_
 refine Run.skip ?_
 refine sr ?_
 refine sx 4 ?_
 first | refine RunL.splitP (t := 93) rfl (fun g3 => ?_) (fun g3 => ?_) | refine RunL.split (t := 93) rfl (fun g3 => ?_) (fun g3 => ?_)
 refine sx 4 ?_
 refine kp [3, 5, 9, 10, 11, 12, 13, 97] rfl ?_
 refine Run.true rfl ?_
 refine Run.region ?_
 refine sx 4 ?_
 refine RunL.op rfl rfl (OpJ.loadA inferInstance rfl pk (own.el (enc := Cl.c) hy (by decide) (fun _ => rfl)) rfl ?_)
 refine RunL.op rfl rfl (OpJ.buildSlice1 S32 rfl rfl rfl (by decide) (by decide) Z63 rfl fun b103 => ?_)
 refine RunL.op rfl rfl (OpJ.append1 y S32 M63 rfl rfl pk pk rfl rfl (by simp [Value.oneCell', Tg.c, Ln.c, En.c, Ac.c, Cl.c, Ky.c, Qy.c, Sb, Iv, Cs.c]) rfl (by omega) (by omega) fun a104 c104 => ?_)
 refine asg rfl rfl ?_
 refine kp [3, 5, 9, 10, 11, 12, 13] rfl ?_
 refine Run.region ?_
 refine sx 3 ?_
 have hst := hI0.step hy hg hp
 first
 | have hk2 : a.kind = 4 ∨ a.kind = 5 := (by first | exact Or.inl (by assumption) | exact Or.inr (by assumption) | assumption)
   rw [if_pos hk2] at hst
   exact RunL.next (Keep.sub (kt (ks := [3, 5, 9, 10, 11, 12, 13]) rfl)) _ ⟨_, by omega, i + 1, acc ++ [y], a104, c104, rfl, by omega, hst, rfl, rfl⟩ gv
 | have hk2 : ¬ (a.kind = 4 ∨ a.kind = 5) := (by show ¬ ((a.put (na, nc)).kind = 4 ∨ (a.put (na, nc)).kind = 5); first | assumption | omega)
   rw [if_neg hk2] at hst
   exact RunL.next (Keep.sub (kt (ks := [3, 5, 9, 10, 11, 12, 13]) rfl)) _ ⟨_, by omega, i + 1, acc, ca, cc, rfl, by omega, hst, rfl, rfl⟩ gv
 refine sx 4 ?_
 refine kp [3, 5, 9, 10, 11, 12, 13, 97] rfl ?_
 first | refine Run.if rfl (fun h4 => ?_) (fun h4 => ?_) | refine Run.cond rfl (fun h4 => ?_) (fun h4 => ?_)
 refine Run.region ?_
 refine sx 4 ?_
 refine RunL.op rfl rfl (OpJ.loadA inferInstance rfl pk (own.el (enc := Cl.c) hy (by decide) (fun _ => rfl)) rfl ?_)
 refine RunL.op rfl rfl (OpJ.buildSlice1 S32 rfl rfl rfl (by decide) (by decide) Z63 rfl fun b103 => ?_)
 refine RunL.op rfl rfl (OpJ.append1 y S32 M63 rfl rfl pk pk rfl rfl (by simp [Value.oneCell', Tg.c, Ln.c, En.c, Ac.c, Cl.c, Ky.c, Qy.c, Sb, Iv, Cs.c]) rfl (by omega) (by omega) fun a104 c104 => ?_)
 refine asg rfl rfl ?_
 refine kp [3, 5, 9, 10, 11, 12, 13] rfl ?_
 refine Run.region ?_
 refine sx 3 ?_
 have hst := hI0.step hy hg hp
 first
 | have hk2 : a.kind = 4 ∨ a.kind = 5 := (by first | exact Or.inl (by assumption) | exact Or.inr (by assumption) | assumption)
   rw [if_pos hk2] at hst
   exact RunL.next (Keep.sub (kt (ks := [3, 5, 9, 10, 11, 12, 13]) rfl)) _ ⟨_, by omega, i + 1, acc ++ [y], a104, c104, rfl, by omega, hst, rfl, rfl⟩ gv
 | have hk2 : ¬ (a.kind = 4 ∨ a.kind = 5) := (by show ¬ ((a.put (na, nc)).kind = 4 ∨ (a.put (na, nc)).kind = 5); first | assumption | omega)
   rw [if_neg hk2] at hst
   exact RunL.next (Keep.sub (kt (ks := [3, 5, 9, 10, 11, 12, 13]) rfl)) _ ⟨_, by omega, i + 1, acc, ca, cc, rfl, by omega, hst, rfl, rfl⟩ gv
 refine Run.skip ?_
 refine Run.region ?_
 refine sx 3 ?_
 have hst := hI0.step hy hg hp
 first
 | have hk2 : a.kind = 4 ∨ a.kind = 5 := (by first | exact Or.inl (by assumption) | exact Or.inr (by assumption) | assumption)
   rw [if_pos hk2] at hst
   exact RunL.next (Keep.sub (kt (ks := [3, 5, 9, 10, 11, 12, 13]) rfl)) _ ⟨_, by omega, i + 1, acc ++ [y], a104, c104, rfl, by omega, hst, rfl, rfl⟩ gv
 | have hk2 : ¬ (a.kind = 4 ∨ a.kind = 5) := (by show ¬ ((a.put (na, nc)).kind = 4 ∨ (a.put (na, nc)).kind = 5); first | assumption | omega)
   rw [if_neg hk2] at hst
   exact RunL.next (Keep.sub (kt (ks := [3, 5, 9, 10, 11, 12, 13]) rfl)) _ ⟨_, by omega, i + 1, acc, ca, cc, rfl, by omega, hst, rfl, rfl⟩ gv
 have hbad := hI0.shut hy hg hp
 rw [hro.pick] at hbad
 cases hbad
 refine Run.exit ?_
 refine sr ?_
 have hfin := hI0.done (by omega)
 rw [hro.pick] at hfin
 obtain rfl := (Option.some.inj hfin).symm
 have hrl : (resM x.xs x.first x.l x.ent x.year x.book).1.length ≤ 100000 := res_len (by have := hs0.l; omega)
 refine sx 2 ?_
 refine RunL.set (congrArg Bo (decide_eq_true rfl)) ?_
 refine sx 3 ?_
 refine RunL.set (congrArg Bo (decide_eq_true rfl)) ?_
 refine sx 4 ?_
 refine RunL.callG C15 rfl rfl rfl rfl rfl (c_rSame (own 63 7 sa (resM x.xs x.first x.l x.ent x.year x.book).1.length sc ((resM x.xs x.first x.l x.ent x.year x.book).1.flatMap Cl.c)) (own 63 7 ca (resM x.xs x.first x.l x.ent x.year x.book).1.length cc ((resM x.xs x.first x.l x.ent x.year x.book).1.flatMap Cl.c)) sa ca sc cc (resM x.xs x.first x.l x.ent x.year x.book).1 own.rds own.rds (by have := hrl; omega)) tks ?_
 refine sx 2 ?_
 refine RunL.callG C12 rfl rfl rfl rfl rfl (c_lives R m0 hR0 hM) tks ?_
 refine sx 2 ?_
 refine kp [2] rfl ?_
 refine Run.ret ?_
 exact ret_one (.tmp rfl .nil) (rfl) gv
 refine RunL.set (v := Bo true) (by rw [hk]; rfl) ?_
 refine sx 3 ?_
 refine kp [1, 3, 5, 41] rfl ?_
 refine Run.true rfl ?_
 refine sr ?_
 refine RunL.call C12 rfl rfl rfl (c_lives R m0 hR0 hM) tks ?_
 refine asg rfl rfl ?_
 refine kp [2] rfl ?_
 refine Run.ret ?_
 exact ret_one (.tmp rfl .nil) (rfl) gv
theorem c_lawApart (R : HP) (x : Cs) (m0 : Int) (hR0 : Rd R ⟨0, 0, none⟩ lensC) (hM : Rd R ⟨1, 0, none⟩ [I m0]) (hx : x.rd R) : AC Tryz.prog 6 ⟨[.agg ⟨x.c⟩]⟩ (stars [R]) (Ret (Bo true) [R]) := by
 have hx2 := hx
 obtain ⟨hxr, hxe, hxl, hlr, hle, hls, hll, hiy, hib, hzw⟩ := hx
 refine AC.go Tryz.func6 rfl (Nat.le_of_ble_eq_true rfl) fun β => ?_
 refine sr ?_
 refine RunL.op rfl rfl (OpJ.boxA rfl fun b1 => ?_)
 refine asg rfl rfl ?_
 refine kp [1] rfl ?_
 refine sr ?_
 refine sx 1 ?_
 refine RunL.callX C11 rfl rfl rfl (c_whole x R hx2) tks fun ⟨o, ok⟩ ⟨ho, hfew, hok⟩ => ?_
 dsimp only at ho hfew hok
 refine sx 5 ?_
 refine kp [1, 3, 4] rfl ?_
 refine sr ?_
 refine sx 2 ?_
 refine RunL.op rfl rfl (OpJ.loadP inferInstance rfl pk (by simp [Cs.c]) ?_)
 refine sx 8 ?_
 refine RunL.callX C13 rfl rfl rfl (c_ResO o x.xs ho R _ _ x.l hR0 hlr (fun e he => (hle e he).1) (fun h => by have := (hfew h).l; omega) x.first x.ent x.year x.book) tks fun ⟨sa, sc⟩ _ => ?_
 refine sx 5 ?_
 refine kp [1, 3, 4, 5, 6] rfl ?_
 refine Run.seq ?_
 refine sr ?_
 refine sx 3 ?_
 rcases Bool.eq_false_or_eq_true ok with hk | hk
 refine RunL.set (v := Bo false) (by rw [hk]; rfl) ?_
 refine sx 4 ?_
 by_cases h35 : (resX o x.xs x.first x.l x.ent x.year x.book).2 = 0
 refine RunL.set (v := Bo false) (by simp [h35]) ?_
 refine sx 4 ?_
 refine kp [1, 3, 5, 41] rfl ?_
 first | refine Run.if rfl (fun h1 => ?_) (fun h1 => ?_) | refine Run.cond rfl (fun h1 => ?_) (fun h1 => ?_)
 refine sr ?_
 refine RunL.call C12 rfl rfl rfl (c_lives R m0 hR0 hM) tks ?_
 refine asg rfl rfl ?_
 refine kp [2] rfl ?_
 refine Run.ret ?_
 exact ret_one (.tmp rfl .nil) (rfl) gv
 refine Run.skip ?_
 refine sr ?_
 have hse : o.isSome = true := hok hk
 have hr2 := resX_some hse x.xs x.first x.l x.ent x.year x.book
 rw [hr2]
 have he0 : (resM x.xs x.first x.l x.ent x.year x.book).2 = 0 := (by rw [← hr2]; (first | simpa using h35 | simpa using g1 | simpa using g2 | simpa using h2))
 obtain ⟨all, hro⟩ := res_ok2 he0
 have hs0 := hfew hse
 have hne : ¬ x.ent = bs0 := (by first | simpa using h1 | simpa using h2 | simpa using g1)
 have hrl : (resM x.xs x.first x.l x.ent x.year x.book).1.length ≤ 100000 := res_len (by have := hs0.l; omega)
 generalize hPE : (fun e : En => decide (e.ent = x.ent)) = PE
 refine RunL.op rfl rfl (OpJ.buildSlice0 S25 fun b43 => ?_)
 refine asg rfl rfl ?_
 refine kp [1, 3, 5, 7] rfl ?_
 refine Run.seq ?_
 refine sr ?_
 refine asg rfl rfl ?_
 refine kp [1, 3, 5, 7, 8] rfl ?_
 refine Run.block ?_
 refine Run.weak (L' := [own 42 9 (bpt b43) 0 0 [], own 63 7 sa (resM x.xs x.first x.l x.ent x.year x.book).1.length sc ((resM x.xs x.first x.l x.ent x.year x.book).1.flatMap Cl.c), chH 110 9 o, pt b1 (blk x.c 27), R]) (fun _ _ h => h) gv ?_
 refine Run.loop (fun mm E L => ∃ (i : Nat) (acc : List En) (ca : Option Addr) (cc : Nat), mm = x.l.length - i ∧ i ≤ x.l.length ∧ acc = (x.l.take i).filter PE ∧ E = [(1, .pointer (some ⟨b1, 0, none⟩)), (3, chV o), (5, .slice sa (resM x.xs x.first x.l x.ent x.year x.book).1.length sc), (7, .slice ca acc.length cc), (8, I i)] ∧ L = [own 42 9 ca acc.length cc (acc.flatMap En.c), own 63 7 sa (resM x.xs x.first x.l x.ent x.year x.book).1.length sc ((resM x.xs x.first x.l x.ent x.year x.book).1.flatMap Cl.c), chH 110 9 o, pt b1 (blk x.c 27), R]) ⟨_, 0, [], bpt b43, 0, rfl, Nat.zero_le _, rfl, rfl, rfl⟩ ?_
 rintro _ _ _ ⟨i, acc, ca, cc, rfl, hi, hA, rfl, rfl⟩
 refine Run.seq ?_
 refine sr ?_
 refine sx 5 ?_
 refine kp [1, 3, 5, 7, 8, 48] rfl ?_
 first | refine Run.if rfl (fun h2 => ?_) (fun h2 => ?_) | refine Run.cond rfl (fun h2 => ?_) (fun h2 => ?_)
 refine Run.skip ?_
 refine Run.seq ?_
 refine Run.block ?_
 refine Run.seq ?_
 refine regionD HM ?_
 obtain ⟨e, hex⟩ := get_ex (xs := x.l) (i := i) (by omega)
 have hfl := List.length_filter_le PE (x.l.take i)
 have hl40 := hs0.l
 rw [List.length_take, ← hA] at hfl
 have hst : ((x.l.take (i + 1)).filter PE) = (x.l.take i).filter PE ++ (if PE e = true then [e] else []) := (by rw [take_step hex, List.filter_append]; cases hq : PE e <;> simp [hq])
 have hPe : PE e = decide (e.ent = x.ent) := (by rw [← hPE])
 refine RunD.rdOpen pk hlr (flat_ne (k := 9) (fun _ => rfl) (by decide) hex) fun bo oo ebo hrd => ?_
 refine tk 0 rfl rfl rfl (DetJ.fieldAddr F27_2 rfl) ?_
 first | refine RunD.takeF 1 rfl rfl kr T25 rfl pk (by rfl) ?_ | refine RunD.takeO 1 rfl rfl kr T25 rfl pk (by assumption) (by rfl) (by exact fun _ => rfl) ?_
 rw [ebo]
 refine tk 2 rfl rfl rfl (DetJ.move rfl) ?_
 refine tk 3 rfl rfl rfl (DetJ.indexAddr S25 rfl rfl (by omega)) ?_
 refine tk 4 rfl rfl rfl (DetJ.fieldAddr F42_1 rfl) ?_
 refine RunD.takeR1 5 rfl rfl kr T9 rfl pk (hrd.at (enc := En.c) 9 (fun _ => rfl) hex 1 (St e.ent) rfl) ?_
 refine tk 6 rfl rfl rfl (DetJ.fieldAddr F27_3 rfl) ?_
 first | refine RunD.takeF 7 rfl rfl kr T9 rfl pk (by rfl) ?_ | refine RunD.takeO 7 rfl rfl kr T9 rfl pk (by assumption) (by rfl) (by exact fun _ => rfl) ?_
 refine tk 8 rfl rfl rfl (DetJ.eqlS rfl rfl) ?_
 refine kd [1, 3, 5, 7, 8, 59] rfl ?_
 first | refine Run.if rfl (fun h3 => ?_) (fun h3 => ?_) | refine Run.cond rfl (fun h3 => ?_) (fun h3 => ?_)
 refine Run.region ?_
 refine sx 3 ?_
 rw [ebo]
 refine sx 2 ?_
 refine RunL.op rfl rfl (OpJ.loadA inferInstance rfl pk (hrd.elem (fun _ => rfl) hex) rfl ?_)
 refine RunL.op rfl rfl (OpJ.buildSlice1 S25 rfl rfl rfl (by decide) (by decide) Z42 rfl fun b66 => ?_)
 refine RunL.op rfl rfl (OpJ.append1 e S25 M42 rfl rfl pk pk rfl rfl (by simp [Value.oneCell', Tg.c, Ln.c, En.c, Ac.c, Cl.c, Ky.c, Qy.c, Sb, Iv, Cs.c]) rfl (by omega) (by omega) fun a67 c67 => ?_)
 refine asg rfl rfl ?_
 refine kp [1, 3, 5, 7, 8] rfl ?_
 refine Run.region ?_
 refine sx 3 ?_
 first
 | have hq : PE e = true := (by rw [hPe]; first | (simp; assumption) | simp_all)
   rw [if_pos hq] at hst
   exact RunL.next (Keep.sub (kt (ks := [1, 3, 5, 7, 8]) rfl)) _ ⟨_, by omega, i + 1, acc ++ [e], a67, c67, rfl, by omega, (by rw [hst, hA]), rfl, rfl⟩ gv
 | have hq : ¬ PE e = true := (by rw [hPe]; first | (simp; assumption) | simp_all)
   rw [if_neg hq, List.append_nil] at hst
   exact RunL.next (Keep.sub (kt (ks := [1, 3, 5, 7, 8]) rfl)) _ ⟨_, by omega, i + 1, acc, ca, cc, rfl, by omega, (by rw [hst, hA]), rfl, rfl⟩ gv
 refine Run.skip ?_
 refine Run.region ?_
 refine sx 3 ?_
 first
 | have hq : PE e = true := (by rw [hPe]; first | (simp; assumption) | simp_all)
   rw [if_pos hq] at hst
   exact RunL.next (Keep.sub (kt (ks := [1, 3, 5, 7, 8]) rfl)) _ ⟨_, by omega, i + 1, acc ++ [e], a67, c67, rfl, by omega, (by rw [hst, hA]), rfl, rfl⟩ gv
 | have hq : ¬ PE e = true := (by rw [hPe]; first | (simp; assumption) | simp_all)
   rw [if_neg hq, List.append_nil] at hst
   exact RunL.next (Keep.sub (kt (ks := [1, 3, 5, 7, 8]) rfl)) _ ⟨_, by omega, i + 1, acc, ca, cc, rfl, by omega, (by rw [hst, hA]), rfl, rfl⟩ gv
 refine Run.exit ?_
 refine sr ?_
 obtain rfl : i = x.l.length := by omega
 rw [List.take_length] at hA
 subst hA
 subst hPE
 refine RunL.packs [own 42 9 ca (x.l.filter fun e => decide (e.ent = x.ent)).length cc ((x.l.filter fun e => decide (e.ent = x.ent)).flatMap En.c), R] tks ?_
 refine sx 2 ?_
 refine RunL.op rfl rfl (OpJ.loadP inferInstance rfl pk (by simp [Cs.c]) ?_)
 refine sx 7 ?_
 refine RunL.callX C13 rfl rfl rfl (c_ResO o x.xs ho (stars [own 42 9 ca (x.l.filter fun e => decide (e.ent = x.ent)).length cc ((x.l.filter fun e => decide (e.ent = x.ent)).flatMap En.c), R]) ca cc (x.l.filter fun e => decide (e.ent = x.ent)) (rd_in0 hR0) (RdS.inl own.rds) (fun e he => En.rd_in (hle e (List.mem_filter.1 he).1).1) (fun h => by have := (hfew h).l; have := List.length_filter_le (fun e : En => decide (e.ent = x.ent)) x.l; omega) x.first x.ent x.year x.book) tks fun ⟨sb, sd⟩ _ => ?_
 rw [resX_some hse, apart_res hne he0, he0]
 refine sx 5 ?_
 refine kp [5, 9, 10] rfl ?_
 refine sr ?_
 refine RunL.unstar (As := [own 42 9 ca (x.l.filter fun e => decide (e.ent = x.ent)).length cc ((x.l.filter fun e => decide (e.ent = x.ent)).flatMap En.c), R]) pk ?_
 refine sx 2 ?_
 refine RunL.set (congrArg Bo (decide_eq_true rfl)) ?_
 refine sx 3 ?_
 refine RunL.callG C15 rfl rfl rfl rfl rfl (c_rSame (own 63 7 sa (resM x.xs x.first x.l x.ent x.year x.book).1.length sc ((resM x.xs x.first x.l x.ent x.year x.book).1.flatMap Cl.c)) (own 63 7 sb (resM x.xs x.first x.l x.ent x.year x.book).1.length sd ((resM x.xs x.first x.l x.ent x.year x.book).1.flatMap Cl.c)) sa sb sc sd (resM x.xs x.first x.l x.ent x.year x.book).1 own.rds own.rds (by have := hrl; omega)) tks ?_
 refine sx 2 ?_
 refine RunL.callG C12 rfl rfl rfl rfl rfl (c_lives R m0 hR0 hM) tks ?_
 refine sx 2 ?_
 refine kp [2] rfl ?_
 refine Run.ret ?_
 exact ret_one (.tmp rfl .nil) (rfl) gv
 refine RunL.set (v := Bo true) (by simp [h35]) ?_
 refine sx 4 ?_
 refine kp [1, 3, 5, 41] rfl ?_
 refine Run.true rfl ?_
 refine sr ?_
 refine RunL.call C12 rfl rfl rfl (c_lives R m0 hR0 hM) tks ?_
 refine asg rfl rfl ?_
 refine kp [2] rfl ?_
 refine Run.ret ?_
 exact ret_one (.tmp rfl .nil) (rfl) gv
 refine RunL.set (v := Bo true) (by rw [hk]; rfl) ?_
 refine sx 8 ?_
 refine kp [1, 3, 5, 41] rfl ?_
 refine Run.true rfl ?_
 refine sr ?_
 refine RunL.call C12 rfl rfl rfl (c_lives R m0 hR0 hM) tks ?_
 refine asg rfl rfl ?_
 refine kp [2] rfl ?_
 refine Run.ret ?_
 exact ret_one (.tmp rfl .nil) (rfl) gv
end
theorem he0e {A B : En × Int} (h : A = B) (h0 : B.2 = 0) : A.2 = 0 := by rw [h]; exact h0
section
attribute [local irreducible] OpJ RunL Run RunD DetJ pt own star Rd RdS
theorem c_fOf (first year : Int) (hf : 1 ≤ first ∧ first ≤ 12) (hy : yearB first year = true) (R : HP) (hR : Rd R ⟨0, 0, none⟩ lensC) : AC Tryz.prog 55 ⟨[.agg ⟨[I first]⟩, I (lastF first year)]⟩ (stars [R]) (Ret (.tuple ⟨[.agg ⟨[I year, I 12]⟩, I 0]⟩) [R]) := by
 have hyi := year_in hy
 have hfo := fis_of hf (k := 11) (by omega) hyi.1
 refine AC.go Tryz.func55 rfl (Nat.le_of_ble_eq_true rfl) fun β => ?_
 refine sr ?_
 refine RunL.op rfl rfl (OpJ.boxA rfl fun b2 => ?_)
 refine RunL.op rfl rfl (OpJ.alloc Z51 fun b4 => ?_)
 refine asg rfl rfl ?_
 refine kp [1, 2, 4] rfl ?_
 refine Run.seq ?_
 refine sr ?_
 refine sx 1 ?_
 refine RunL.call C45 rfl rfl rfl (c_fRight first) .nil ?_
 rw [inB_iff.2 hf]
 refine RunL.op rfl rfl (OpJ.not rfl ?_)
 refine kp [1, 2, 4, 9] rfl ?_
 refine Run.false rfl ?_
 refine Run.skip ?_
 refine sr ?_
 refine mvo rfl rfl ?_
 refine RunL.callX C90 rfl rfl rfl (c_Date (lastF first year) _ hR) tks fun ⟨y, m, d⟩ hx => ?_
 obtain ⟨rfl, rfl, rfl⟩ := day_uniq (last_of hf hy) (hx (last_in hf hy)).1 (hx (last_in hf hy)).2.symm
 rw [if_pos (last_in hf hy)]
 dsimp only
 refine sx 3 ?_
 refine RunL.op rfl rfl (OpJ.alloc Z157 fun b6 => ?_)
 refine RunL.op rfl rfl (OpJ.storeW T157 rfl rfl rfl rfl (by simp [Value.oneCell', Tg.c, Ln.c, En.c, Ac.c, Cl.c, Ky.c, Qy.c, Sb, Iv, Cs.c]) up ?_)
 refine asg rfl rfl ?_
 refine kp [2, 4, 5, 6] rfl ?_
 refine Run.seq ?_
 refine sr ?_
 refine sx 2 ?_
 refine kp [2, 4, 5, 6, 17] rfl ?_
 refine Run.false rfl ?_
 refine Run.skip ?_
 refine sr ?_
 refine sx 9 ?_
 refine RunL.op rfl rfl (OpJ.storeW T51 rfl rfl rfl rfl (by simp [Value.oneCell', Tg.c, Ln.c, En.c, Ac.c, Cl.c, Ky.c, Qy.c, Sb, Iv, Cs.c]) up ?_)
 refine kp [2, 4, 6] rfl ?_
 refine Run.seq ?_
 refine sr ?_
 refine sx 3 ?_
 refine kp [2, 4, 6, 31] rfl ?_
 first | refine Run.if rfl (fun h1 => ?_) (fun h1 => ?_) | refine Run.cond rfl (fun h1 => ?_) (fun h1 => ?_)
 refine Run.region ?_
 refine sx 7 ?_
 refine RunL.op rfl rfl (OpJ.storeW T51 rfl rfl rfl rfl (by simp [Value.oneCell', Tg.c, Ln.c, En.c, Ac.c, Cl.c, Ky.c, Qy.c, Sb, Iv, Cs.c]) up ?_)
 refine kp [2, 4] rfl ?_
 refine Run.seq ?_
 refine sr ?_
 have e1 : fisY first year 11 - 1 = year := (by rcases last_no hf with ⟨h, hm, hyy⟩ | ⟨h, hm, hyy⟩ <;> (have := hyy year; omega))
 have e2 : fisM first 11 - first + 1 + 12 = 12 := (by rcases last_no hf with ⟨h, hm, hyy⟩ | ⟨h, hm, hyy⟩ <;> omega)
 rw [e1, e2]
 refine sx 2 ?_
 refine RunL.call C46 rfl rfl rfl (c_exists first year 12 hf _ hR) tks ?_
 rw [hy, show inB 12 1 13 = true from (by with_unfolding_all decide)]
 refine RunL.op rfl rfl (OpJ.not rfl ?_)
 refine kp [4, 42] rfl ?_
 refine Run.false rfl ?_
 refine Run.skip ?_
 refine sr ?_
 refine sx 1 ?_
 refine RunL.op rfl rfl (OpJ.storeW T51 rfl rfl rfl rfl (by simp [Value.oneCell', Tg.c, Ln.c, En.c, Ac.c, Cl.c, Ky.c, Qy.c, Sb, Iv, Cs.c]) up ?_)
 refine asg rfl rfl ?_
 refine kp [4, 5] rfl ?_
 refine Run.ret ?_
 exact ret_one (.cellA T51 rfl pk (by rfl) (.tmp rfl .nil)) (rfl) gv
 refine Run.skip ?_
 refine Run.seq ?_
 refine sr ?_
 have e1 : fisY first year 11 = year := (by rcases last_no hf with ⟨h, hm, hyy⟩ | ⟨h, hm, hyy⟩ <;> (have := hyy year; omega))
 have e2 : fisM first 11 - first + 1 = 12 := (by rcases last_no hf with ⟨h, hm, hyy⟩ | ⟨h, hm, hyy⟩ <;> omega)
 rw [e1, e2]
 refine sx 2 ?_
 refine RunL.call C46 rfl rfl rfl (c_exists first year 12 hf _ hR) tks ?_
 rw [hy, show inB 12 1 13 = true from (by with_unfolding_all decide)]
 refine RunL.op rfl rfl (OpJ.not rfl ?_)
 refine kp [4, 42] rfl ?_
 refine Run.false rfl ?_
 refine Run.skip ?_
 refine sr ?_
 refine sx 1 ?_
 refine RunL.op rfl rfl (OpJ.storeW T51 rfl rfl rfl rfl (by simp [Value.oneCell', Tg.c, Ln.c, En.c, Ac.c, Cl.c, Ky.c, Qy.c, Sb, Iv, Cs.c]) up ?_)
 refine asg rfl rfl ?_
 refine kp [4, 5] rfl ?_
 refine Run.ret ?_
 exact ret_one (.cellA T51 rfl pk (by rfl) (.tmp rfl .nil)) (rfl) gv
theorem c_fFor (first year : Int) (hf : 1 ≤ first ∧ first ≤ 12) (hy : yearB first year = true) (R : HP) (hR : Rd R ⟨0, 0, none⟩ lensC) : AC Tryz.prog 25 ⟨[.agg ⟨[I first]⟩, I (lastF first year), I 4]⟩ (stars [R]) (Ret (.tuple ⟨[.agg ⟨[I year, I 13]⟩, I 0]⟩) [R]) := by
 refine AC.go Tryz.func25 rfl (Nat.le_of_ble_eq_true rfl) fun β => ?_
 refine sr ?_
 refine RunL.op rfl rfl (OpJ.boxA rfl fun b3 => ?_)
 refine RunL.op rfl rfl (OpJ.alloc Z51 fun b6 => ?_)
 refine asg rfl rfl ?_
 refine kp [1, 2, 3, 6] rfl ?_
 refine sr ?_
 first | refine RunL.op rfl rfl (OpJ.loadW T24 rfl pk (by rfl) ?_) | refine RunL.op rfl rfl (OpJ.loadP T24 rfl pk (by simp) ?_) | refine RunL.op rfl rfl (OpJ.loadE T24 rfl pk (by assumption) (by exact fun _ => rfl) rfl (by decide) ?_)
 refine mvo rfl rfl ?_
 refine RunL.call C55 rfl rfl rfl (c_fOf first year hf hy _ hR) tks ?_
 refine mvo rfl rfl ?_
 refine RunL.op rfl rfl (OpJ.extract rfl rfl ?_)
 refine RunL.op rfl rfl (OpJ.extract rfl rfl ?_)
 refine RunL.op rfl rfl (OpJ.storeW T51 rfl rfl rfl rfl (by simp [Value.oneCell', Tg.c, Ln.c, En.c, Ac.c, Cl.c, Ky.c, Qy.c, Sb, Iv, Cs.c]) up ?_)
 refine asg rfl rfl ?_
 refine kp [1, 2, 3, 6, 7] rfl ?_
 refine Run.seq ?_
 refine sr ?_
 refine mvo rfl rfl ?_
 refine RunL.op rfl rfl (OpJ.neq rfl rfl ?_)
 refine mvo rfl rfl ?_
 refine RunL.yes rfl rfl rfl rfl (OpJ.move rfl ?_)
 refine RunL.yes rfl rfl rfl rfl (OpJ.neq rfl rfl ?_)
 refine RunL.yes rfl rfl rfl rfl (OpJ.move rfl ?_)
 refine RunL.yes rfl rfl rfl rfl (OpJ.move rfl ?_)
 refine RunL.yes rfl rfl rfl rfl (OpJ.neq rfl rfl ?_)
 refine RunL.yes rfl rfl rfl rfl (OpJ.pickT rfl rfl ?_)
 refine RunL.op rfl rfl (OpJ.pickF rfl rfl ?_)
 refine kp [1, 3, 6, 7, 26] rfl ?_
 refine Run.false rfl ?_
 refine Run.skip ?_
 refine Run.seq ?_
 refine sr ?_
 first | refine RunL.op rfl rfl (OpJ.loadW T24 rfl pk (by rfl) ?_) | refine RunL.op rfl rfl (OpJ.loadP T24 rfl pk (by simp) ?_) | refine RunL.op rfl rfl (OpJ.loadE T24 rfl pk (by assumption) (by exact fun _ => rfl) rfl (by decide) ?_)
 refine RunL.op rfl rfl (OpJ.fieldAddr F51_0 rfl ?_)
 first | refine RunL.op rfl rfl (OpJ.loadF T3 rfl pk (by rfl) ?_) | refine RunL.op rfl rfl (OpJ.loadO T3 rfl pk (by assumption) (by rfl) (by exact fun _ => rfl) ?_)
 refine RunL.call C47 rfl rfl rfl (c_ends first year hf _ hR) tks ?_
 rw [hy, if_pos rfl, if_pos rfl]
 refine mvo rfl rfl ?_
 refine RunL.op rfl rfl (OpJ.extract rfl rfl ?_)
 refine RunL.op rfl rfl (OpJ.extract rfl rfl ?_)
 refine RunL.op rfl rfl (OpJ.extract rfl rfl ?_)
 refine asg rfl rfl ?_
 refine asg rfl rfl ?_
 refine asg rfl rfl ?_
 refine kp [1, 6, 9] rfl ?_
 refine sr ?_
 refine mvo rfl rfl ?_
 refine mvo rfl rfl ?_
 refine RunL.op rfl rfl (OpJ.eql rfl rfl ?_)
 refine RunL.set (congrArg Bo (decide_eq_true rfl)) ?_
 refine kp [6, 39] rfl ?_
 refine Run.true rfl ?_
 refine Run.region ?_
 refine RunL.op rfl rfl (OpJ.fieldAddr F51_1 rfl ?_)
 refine RunL.op rfl rfl (OpJ.store1 T3 rfl rfl rfl up (by simp) ?_)
 refine kp [6] rfl ?_
 refine sr ?_
 first | refine RunL.op rfl rfl (OpJ.loadW T51 rfl pk (by rfl) ?_) | refine RunL.op rfl rfl (OpJ.loadP T51 rfl pk (by simp) ?_) | refine RunL.op rfl rfl (OpJ.loadE T51 rfl pk (by assumption) (by exact fun _ => rfl) rfl (by decide) ?_)
 refine RunL.op rfl rfl (OpJ.storeW T51 rfl rfl rfl rfl (by simp [Value.oneCell', Tg.c, Ln.c, En.c, Ac.c, Cl.c, Ky.c, Qy.c, Sb, Iv, Cs.c]) up ?_)
 refine asg rfl rfl ?_
 refine kp [6, 7] rfl ?_
 refine Run.ret ?_
 exact ret_one (.cellA T51 rfl pk (by rfl) (.tmp rfl .nil)) (rfl) gv
theorem c_lawBalanced (R : HP) (x : Cs) (m0 : Int) (hR0 : Rd R ⟨0, 0, none⟩ lensC) (hM : Rd R ⟨1, 0, none⟩ [I m0]) (hx : x.rd R) : AC Tryz.prog 8 ⟨[.agg ⟨x.c⟩]⟩ (stars [R]) (Ret (Bo true) [R]) := by
 have hx2 := hx
 obtain ⟨hxr, hxe, hxl, hlr, hle, hls, hll, hiy, hib, hzw⟩ := hx
 refine AC.go Tryz.func8 rfl (Nat.le_of_ble_eq_true rfl) fun β => ?_
 refine sr ?_
 refine RunL.op rfl rfl (OpJ.boxA rfl fun b1 => ?_)
 refine asg rfl rfl ?_
 refine kp [1] rfl ?_
 refine sr ?_
 first | refine RunL.op rfl rfl (OpJ.loadW T27 rfl pk (by rfl) ?_) | refine RunL.op rfl rfl (OpJ.loadP T27 rfl pk (by simp) ?_) | refine RunL.op rfl rfl (OpJ.loadE T27 rfl pk (by assumption) (by exact fun _ => rfl) rfl (by decide) ?_)
 refine RunL.callX C11 rfl rfl rfl (c_whole x R hx2) tks fun ⟨o, ok⟩ ⟨ho, hfew, hok⟩ => ?_
 dsimp only at ho hfew hok
 refine mvo rfl rfl ?_
 refine RunL.op rfl rfl (OpJ.extract rfl rfl ?_)
 refine RunL.op rfl rfl (OpJ.extract rfl rfl ?_)
 refine asg rfl rfl ?_
 refine asg rfl rfl ?_
 refine kp [1, 3, 4] rfl ?_
 refine sr ?_
 refine mvo rfl rfl ?_
 refine RunL.op rfl rfl (OpJ.fieldAddr F27_1 rfl ?_)
 refine RunL.op rfl rfl (OpJ.loadP inferInstance rfl pk (by simp [Cs.c]) ?_)
 refine RunL.op rfl rfl (OpJ.fieldAddr F27_2 rfl ?_)
 first | refine RunL.op rfl rfl (OpJ.loadF T25 rfl pk (by rfl) ?_) | refine RunL.op rfl rfl (OpJ.loadO T25 rfl pk (by assumption) (by rfl) (by exact fun _ => rfl) ?_)
 refine RunL.op rfl rfl (OpJ.fieldAddr F27_3 rfl ?_)
 first | refine RunL.op rfl rfl (OpJ.loadF T9 rfl pk (by rfl) ?_) | refine RunL.op rfl rfl (OpJ.loadO T9 rfl pk (by assumption) (by rfl) (by exact fun _ => rfl) ?_)
 refine RunL.op rfl rfl (OpJ.fieldAddr F27_4 rfl ?_)
 first | refine RunL.op rfl rfl (OpJ.loadF T3 rfl pk (by rfl) ?_) | refine RunL.op rfl rfl (OpJ.loadO T3 rfl pk (by assumption) (by rfl) (by exact fun _ => rfl) ?_)
 refine RunL.op rfl rfl (OpJ.fieldAddr F27_5 rfl ?_)
 first | refine RunL.op rfl rfl (OpJ.loadF T3 rfl pk (by rfl) ?_) | refine RunL.op rfl rfl (OpJ.loadO T3 rfl pk (by assumption) (by rfl) (by exact fun _ => rfl) ?_)
 refine RunL.op rfl rfl (OpJ.fieldAddr F27_6 rfl ?_)
 first | refine RunL.op rfl rfl (OpJ.loadF T9 rfl pk (by rfl) ?_) | refine RunL.op rfl rfl (OpJ.loadO T9 rfl pk (by assumption) (by rfl) (by exact fun _ => rfl) ?_)
 refine RunL.op rfl rfl (OpJ.fieldAddr F27_7 rfl ?_)
 first | refine RunL.op rfl rfl (OpJ.loadF T9 rfl pk (by rfl) ?_) | refine RunL.op rfl rfl (OpJ.loadO T9 rfl pk (by assumption) (by rfl) (by exact fun _ => rfl) ?_)
 refine RunL.callX C16 rfl rfl rfl (c_EntO o x.xs ho R _ _ x.l hR0 hlr (fun e he => (hle e he).1) (fun h => by have := (hfew h).l; omega) x.first x.ent x.year x.book x.to x.who m0 hM) tks fun y hye => ?_
 refine mvo rfl rfl ?_
 refine RunL.op rfl rfl (OpJ.extract rfl rfl ?_)
 refine RunL.op rfl rfl (OpJ.extract rfl rfl ?_)
 refine RunL.op rfl rfl (OpJ.alloc Z42 fun b5 => ?_)
 refine RunL.op rfl rfl (OpJ.storeW T42 rfl rfl rfl rfl (by simp [Value.oneCell', Tg.c, Ln.c, En.c, Ac.c, Cl.c, Ky.c, Qy.c, Sb, Iv, Cs.c]) up ?_)
 refine asg rfl rfl ?_
 refine kp [1, 3, 4, 5, 6] rfl ?_
 refine Run.seq ?_
 refine sr ?_
 refine mvo rfl rfl ?_
 refine RunL.op rfl rfl (OpJ.not rfl ?_)
 refine mvo rfl rfl ?_
 rcases Bool.eq_false_or_eq_true ok with hk | hk
 refine RunL.set (v := Bo false) (by rw [hk]; rfl) ?_
 refine RunL.yes rfl rfl rfl rfl (OpJ.move rfl ?_)
 refine RunL.yes rfl rfl rfl rfl (OpJ.neq rfl rfl ?_)
 refine RunL.op rfl rfl (OpJ.pickF rfl rfl ?_)
 refine kp [1, 3, 5, 41] rfl ?_
 first | refine Run.if rfl (fun h1 => ?_) (fun h1 => ?_) | refine Run.cond rfl (fun h1 => ?_) (fun h1 => ?_)
 refine sr ?_
 refine RunL.call C12 rfl rfl rfl (c_lives R m0 hR0 hM) tks ?_
 refine asg rfl rfl ?_
 refine kp [2] rfl ?_
 refine Run.ret ?_
 first | exact ret_one (.tmp rfl .nil) rfl gv | exact absurd (‹false = true›) Bool.false_ne_true
 refine Run.skip ?_
 refine sr ?_
 have hse : o.isSome = true := hok hk
 have hr2 := entX_some hse x.xs x.first x.l x.ent x.year x.book x.to x.who
 have he0 : (entM x.xs x.first x.l x.ent x.year x.book x.to x.who).2 = 0 := (by rw [← hr2]; (first | simpa using h1 | simpa using g1 | simpa using g2 | simpa using h2))
 rw [he0e hr2 he0]
 obtain ⟨all, a0, hen⟩ := ent_ok2 he0
 rw [hr2, hen.val] at hye
 have hs0 := hfew hse
 obtain ⟨yno, yent, ybk, yval, ykd, yref, ywho, yrev, yla, ylc, yls⟩ := y
 simp only [En.e, En.mk.injEq, and_true, true_and] at hye
 obtain ⟨rfl, rfl, rfl, rfl, rfl, rfl, rfl, rfl, hyl⟩ := hye
 obtain ⟨hl0, hl100, hl2, hlb⟩ := ent_lines hen hyl
 have z4 : (⟨0, x.ent, x.book, lastF x.first x.year, 4, bs0, x.who, 0, yla, ylc, yls⟩ : En).lines.length = yls.length := rfl
 refine RunL.op rfl rfl (OpJ.fieldAddr F27_1 rfl ?_)
 refine RunL.op rfl rfl (OpJ.loadP inferInstance rfl pk (by simp [Cs.c]) ?_)
 refine RunL.op rfl rfl (OpJ.fieldAddr F42_3 rfl ?_)
 first | refine RunL.op rfl rfl (OpJ.loadF T3 rfl pk (by rfl) ?_) | refine RunL.op rfl rfl (OpJ.loadO T3 rfl pk (by assumption) (by rfl) (by exact fun _ => rfl) ?_)
 refine RunL.op rfl rfl (OpJ.fieldAddr F42_4 rfl ?_)
 first | refine RunL.op rfl rfl (OpJ.loadF T3 rfl pk (by rfl) ?_) | refine RunL.op rfl rfl (OpJ.loadO T3 rfl pk (by assumption) (by rfl) (by exact fun _ => rfl) ?_)
 refine RunL.call C25 rfl rfl rfl (c_fFor x.first x.year hen.res.cal hen.res.yr R hR0) tks ?_
 refine mvo rfl rfl ?_
 refine RunL.op rfl rfl (OpJ.extract rfl rfl ?_)
 refine RunL.op rfl rfl (OpJ.extract rfl rfl ?_)
 refine RunL.op rfl rfl (OpJ.alloc Z51 fun b7 => ?_)
 refine RunL.op rfl rfl (OpJ.storeW T51 rfl rfl rfl rfl (by simp [Value.oneCell', Tg.c, Ln.c, En.c, Ac.c, Cl.c, Ky.c, Qy.c, Sb, Iv, Cs.c]) up ?_)
 refine asg rfl rfl ?_
 refine kp [1, 3, 5, 7, 8] rfl ?_
 refine Run.seq ?_
 refine sr ?_
 refine mvo rfl rfl ?_
 refine RunL.op rfl rfl (OpJ.neq rfl rfl ?_)
 refine mvo rfl rfl ?_
 first | refine RunL.yes rfl rfl rfl rfl (OpJ.loadW T51 rfl pk (by rfl) ?_) | refine RunL.yes rfl rfl rfl rfl (OpJ.loadP T51 rfl pk (by simp) ?_) | refine RunL.yes rfl rfl rfl rfl (OpJ.loadE T51 rfl pk (by assumption) (by exact fun _ => rfl) rfl (by decide) ?_)
 refine RunL.yes rfl rfl rfl rfl (OpJ.fieldAddr F27_4 rfl ?_)
 first | refine RunL.yes rfl rfl rfl rfl (OpJ.loadF T3 rfl pk (by rfl) ?_) | refine RunL.yes rfl rfl rfl rfl (OpJ.loadO T3 rfl pk (by assumption) (by rfl) (by exact fun _ => rfl) ?_)
 refine RunL.yes rfl rfl rfl rfl (OpJ.build B51 rfl rfl fun cs hcs => ?_)
 simp only [Tg.c, Ln.c, En.c, Ac.c, Cl.c, Ky.c, Qy.c, Cs.c, bldL, bldA, Value.cells, bs, Nat.reduceAdd, Nat.reduceLeDiff, Nat.reduceLT] at hcs; subst hcs
 refine RunL.yes rfl rfl rfl rfl (OpJ.neqA EI51 rfl rfl (by rfl) ?_)
 refine RunL.set (v := Bo false) (by simp) ?_
 refine RunL.op rfl rfl (OpJ.pickF rfl rfl ?_)
 refine mvo rfl rfl ?_
 refine RunL.yes rfl rfl rfl rfl (OpJ.fieldAddr F42_8 rfl ?_)
 first | refine RunL.yes rfl rfl rfl rfl (OpJ.loadF T40 rfl pk (by rfl) ?_) | refine RunL.yes rfl rfl rfl rfl (OpJ.loadO T40 rfl pk (by assumption) (by rfl) (by exact fun _ => rfl) ?_)
 refine RunL.callG C26 rfl rfl rfl rfl rfl (c_Balanced (own 73 7 yla yls.length ylc (yls.flatMap Ln.c)) yla ylc yls own.rds (by omega) (ent_64 hen hyl)) tks ?_
 rw [hlb]
 refine RunL.yes rfl rfl rfl rfl (OpJ.not rfl ?_)
 refine RunL.op rfl rfl (OpJ.pickF rfl rfl ?_)
 refine mvo rfl rfl ?_
 refine RunL.yes rfl rfl rfl rfl (OpJ.fieldAddr F42_8 rfl ?_)
 first | refine RunL.yes rfl rfl rfl rfl (OpJ.loadF T40 rfl pk (by rfl) ?_) | refine RunL.yes rfl rfl rfl rfl (OpJ.loadO T40 rfl pk (by assumption) (by rfl) (by exact fun _ => rfl) ?_)
 refine RunL.yes rfl rfl rfl rfl (OpJ.len S40 rfl ?_)
 refine RunL.yes rfl rfl rfl rfl (OpJ.lss rfl rfl ?_)
 refine RunL.set (congrArg Bo (decide_eq_false (by omega))) ?_
 refine RunL.op rfl rfl (OpJ.pickF rfl rfl ?_)
 refine mvo rfl rfl ?_
 refine RunL.yes rfl rfl rfl rfl (OpJ.fieldAddr F42_1 rfl ?_)
 first | refine RunL.yes rfl rfl rfl rfl (OpJ.loadF T9 rfl pk (by rfl) ?_) | refine RunL.yes rfl rfl rfl rfl (OpJ.loadO T9 rfl pk (by assumption) (by rfl) (by exact fun _ => rfl) ?_)
 refine RunL.yes rfl rfl rfl rfl (OpJ.fieldAddr F27_3 rfl ?_)
 first | refine RunL.yes rfl rfl rfl rfl (OpJ.loadF T9 rfl pk (by rfl) ?_) | refine RunL.yes rfl rfl rfl rfl (OpJ.loadO T9 rfl pk (by assumption) (by rfl) (by exact fun _ => rfl) ?_)
 refine RunL.yes rfl rfl rfl rfl (OpJ.neqS rfl rfl ?_)
 refine RunL.set (v := Bo false) (by simp) ?_
 refine RunL.op rfl rfl (OpJ.pickF rfl rfl ?_)
 refine mvo rfl rfl ?_
 refine RunL.yes rfl rfl rfl rfl (OpJ.fieldAddr F42_2 rfl ?_)
 first | refine RunL.yes rfl rfl rfl rfl (OpJ.loadF T3 rfl pk (by rfl) ?_) | refine RunL.yes rfl rfl rfl rfl (OpJ.loadO T3 rfl pk (by assumption) (by rfl) (by exact fun _ => rfl) ?_)
 refine RunL.yes rfl rfl rfl rfl (OpJ.fieldAddr F27_5 rfl ?_)
 first | refine RunL.yes rfl rfl rfl rfl (OpJ.loadF T3 rfl pk (by rfl) ?_) | refine RunL.yes rfl rfl rfl rfl (OpJ.loadO T3 rfl pk (by assumption) (by rfl) (by exact fun _ => rfl) ?_)
 refine RunL.yes rfl rfl rfl rfl (OpJ.neq rfl rfl ?_)
 refine RunL.set (v := Bo false) (by simp) ?_
 refine RunL.op rfl rfl (OpJ.pickF rfl rfl ?_)
 refine kp [1, 3, 5, 87] rfl ?_
 refine Run.false rfl ?_
 refine Run.skip ?_
 refine Run.seq ?_
 refine sr ?_
 refine asg rfl rfl ?_
 refine kp [1, 3, 5, 9] rfl ?_
 refine Run.block ?_
 refine Run.weak (L' := [own 73 7 yla yls.length ylc (yls.flatMap Ln.c), big (tagH 151) yls, chH 110 9 o, pt b1 (blk x.c 27), pt b5 (blk (⟨0, x.ent, x.book, lastF x.first x.year, 4, bs0, x.who, 0, yla, ylc, yls⟩ : En).c 42), R]) (fun _ _ h => h) gv ?_
 refine Run.loop (fun mm E L => ∃ i : Nat, mm = yls.length - i ∧ i ≤ yls.length ∧ E = [(1, .pointer (some ⟨b1, 0, none⟩)), (3, chV o), (5, .pointer (some ⟨b5, 0, none⟩)), (9, I i)] ∧ L = [own 73 7 yla yls.length ylc (yls.flatMap Ln.c), big (tagH 151) yls, chH 110 9 o, pt b1 (blk x.c 27), pt b5 (blk (⟨0, x.ent, x.book, lastF x.first x.year, 4, bs0, x.who, 0, yla, ylc, yls⟩ : En).c 42), R]) ⟨_, 0, rfl, Nat.zero_le _, rfl, rfl⟩ ?_
 rintro _ _ _ ⟨i, rfl, hi, rfl, rfl⟩
 refine Run.seq ?_
 refine sr ?_
 refine mvo rfl rfl ?_
 refine RunL.op rfl rfl (OpJ.fieldAddr F42_8 rfl ?_)
 first | refine RunL.op rfl rfl (OpJ.loadF T40 rfl pk (by rfl) ?_) | refine RunL.op rfl rfl (OpJ.loadO T40 rfl pk (by assumption) (by rfl) (by exact fun _ => rfl) ?_)
 refine RunL.op rfl rfl (OpJ.len S40 rfl ?_)
 refine RunL.op rfl rfl (OpJ.lss rfl rfl ?_)
 refine kp [1, 3, 5, 9, 92] rfl ?_
 first | refine Run.if rfl (fun h2 => ?_) (fun h2 => ?_) | refine Run.cond rfl (fun h2 => ?_) (fun h2 => ?_)
 refine Run.skip ?_
 refine Run.seq ?_
 refine Run.block ?_
 refine sr ?_
 obtain ⟨z, hz⟩ := get_ex (xs := yls) (i := i) (by omega)
 obtain ⟨a, hg, hka⟩ := line_get hen hyl (List.mem_of_getElem? hz)
 refine RunL.ownAddr (oa := yla) pk (flat_ne (k := 7) (fun _ => rfl) (by decide) hz) fun bs1 e1 hcap1 => ?_
 subst e1
 refine mvo rfl rfl ?_
 refine RunL.op rfl rfl (OpJ.fieldAddr F42_8 rfl ?_)
 first | refine RunL.op rfl rfl (OpJ.loadF T40 rfl pk (by rfl) ?_) | refine RunL.op rfl rfl (OpJ.loadO T40 rfl pk (by assumption) (by rfl) (by exact fun _ => rfl) ?_)
 refine mvo rfl rfl ?_
 refine RunL.op rfl rfl (OpJ.indexAddr S40 rfl rfl (by omega) ?_)
 refine RunL.op rfl rfl (OpJ.fieldAddr F73_0 rfl ?_)
 refine RunL.op rfl rfl (OpJ.load1 inferInstance rfl pk (own.fld (enc := Ln.c) (k := 7) (j := 0) hz rfl (fun _ => rfl)) ?_)
 refine RunL.callX C21 rfl rfl rfl (c_GetO o x.xs ho hse z.acc) tks fun ⟨na, nc⟩ _ => ?_
 rw [lk_some hg, hg]
 refine mvo rfl rfl ?_
 refine RunL.op rfl rfl (OpJ.extract rfl rfl ?_)
 refine RunL.op rfl rfl (OpJ.extract rfl rfl ?_)
 refine RunL.op rfl rfl (OpJ.alloc Z57 fun b10 => ?_)
 refine RunL.op rfl rfl (OpJ.storeW T57 rfl rfl rfl rfl (by simp [Value.oneCell', Tg.c, Ln.c, En.c, Ac.c, Cl.c, Ky.c, Qy.c, Sb, Iv, Cs.c]) up ?_)
 refine asg rfl rfl ?_
 refine kp [1, 3, 5, 9, 10, 11] rfl ?_
 refine sr ?_
 refine RunL.cut (t := 124) (v := Bo false) (kt (ks := [1, 3, 5, 9]) rfl) ?_ ?_
 refine mvo rfl rfl ?_
 refine RunL.op rfl rfl (OpJ.not rfl ?_)
 refine mvo rfl rfl ?_
 refine RunL.yes rfl rfl rfl rfl (OpJ.fieldAddr F57_2 rfl ?_)
 first | refine RunL.yes rfl rfl rfl rfl (OpJ.loadF T3 rfl pk (by rfl) ?_) | refine RunL.yes rfl rfl rfl rfl (OpJ.loadO T3 rfl pk (by assumption) (by rfl) (by exact fun _ => rfl) ?_)
 refine RunL.yes rfl rfl rfl rfl (OpJ.neq rfl rfl ?_)
 refine RunL.yes rfl rfl rfl rfl (OpJ.move rfl ?_)
 first | refine RunL.splitP (t := 112) rfl (fun g3 => ?_) (fun g3 => ?_) | refine RunL.split (t := 112) rfl (fun g3 => ?_) (fun g3 => ?_)
 refine RunL.yes rfl rfl rfl rfl (OpJ.fieldAddr F57_2 rfl ?_)
 first | refine RunL.yes rfl rfl rfl rfl (OpJ.loadF T3 rfl pk (by rfl) ?_) | refine RunL.yes rfl rfl rfl rfl (OpJ.loadO T3 rfl pk (by assumption) (by rfl) (by exact fun _ => rfl) ?_)
 refine RunL.yes rfl rfl rfl rfl (OpJ.neq rfl rfl ?_)
 refine RunL.yes rfl rfl rfl rfl (OpJ.pickT rfl rfl ?_)
 refine RunL.yes rfl rfl rfl rfl (OpJ.move rfl ?_)
 first | refine RunL.splitP (t := 117) rfl (fun g4 => ?_) (fun g4 => ?_) | refine RunL.split (t := 117) rfl (fun g4 => ?_) (fun g4 => ?_)
 refine RunL.yes rfl rfl rfl rfl (OpJ.fieldAddr F57_0 rfl ?_)
 first | refine RunL.yes rfl rfl rfl rfl (OpJ.loadF T9 rfl pk (by rfl) ?_) | refine RunL.yes rfl rfl rfl rfl (OpJ.loadO T9 rfl pk (by assumption) (by rfl) (by exact fun _ => rfl) ?_)
 refine RunL.yes rfl rfl rfl rfl (OpJ.fieldAddr F27_6 rfl ?_)
 first | refine RunL.yes rfl rfl rfl rfl (OpJ.loadF T9 rfl pk (by rfl) ?_) | refine RunL.yes rfl rfl rfl rfl (OpJ.loadO T9 rfl pk (by assumption) (by rfl) (by exact fun _ => rfl) ?_)
 refine RunL.yes rfl rfl rfl rfl (OpJ.neqS rfl rfl ?_)
 refine RunL.yes rfl rfl rfl rfl (OpJ.pickT rfl rfl ?_)
 refine RunL.op rfl rfl (OpJ.pickF rfl rfl ?_)
 exact RunL.nil ⟨.cons (by first | rfl | (show some (Value.bool _) = some (Value.bool _); congr 2; simp [Ac.put] at *; omega) | (show some (Value.bool _) = some (Value.bool _); congr 2; simp [Ac.put] at *; simp_all) | (show some (Value.bool _) = some (Value.bool _); simp_all)) (kt (ks := [1, 3, 5, 9]) rfl), rfl⟩
 refine RunL.no rfl rfl rfl rfl ?_
 refine RunL.no rfl rfl rfl rfl ?_
 refine RunL.no rfl rfl rfl rfl ?_
 refine RunL.no rfl rfl rfl rfl ?_
 refine RunL.no rfl rfl rfl rfl ?_
 refine RunL.yes rfl rfl rfl rfl (OpJ.pickF rfl rfl ?_)
 refine RunL.op rfl rfl (OpJ.pickF rfl rfl ?_)
 exact RunL.nil ⟨.cons (by first | rfl | (show some (Value.bool _) = some (Value.bool _); congr 2; simp [Ac.put] at *; omega) | (show some (Value.bool _) = some (Value.bool _); congr 2; simp [Ac.put] at *; simp_all) | (show some (Value.bool _) = some (Value.bool _); simp_all)) (kt (ks := [1, 3, 5, 9]) rfl), rfl⟩
 refine RunL.no rfl rfl rfl rfl ?_
 refine RunL.no rfl rfl rfl rfl ?_
 refine RunL.no rfl rfl rfl rfl ?_
 refine RunL.yes rfl rfl rfl rfl (OpJ.pickF rfl rfl ?_)
 refine RunL.yes rfl rfl rfl rfl (OpJ.move rfl ?_)
 refine RunL.no rfl rfl rfl rfl ?_
 refine RunL.no rfl rfl rfl rfl ?_
 refine RunL.no rfl rfl rfl rfl ?_
 refine RunL.no rfl rfl rfl rfl ?_
 refine RunL.no rfl rfl rfl rfl ?_
 refine RunL.yes rfl rfl rfl rfl (OpJ.pickF rfl rfl ?_)
 refine RunL.op rfl rfl (OpJ.pickF rfl rfl ?_)
 exact RunL.nil ⟨.cons (by first | rfl | (show some (Value.bool _) = some (Value.bool _); congr 2; simp [Ac.put] at *; omega) | (show some (Value.bool _) = some (Value.bool _); congr 2; simp [Ac.put] at *; simp_all) | (show some (Value.bool _) = some (Value.bool _); simp_all)) (kt (ks := [1, 3, 5, 9]) rfl), rfl⟩
 first | refine Run.if rfl (fun h5 => ?_) (fun h5 => ?_) | refine Run.cond rfl (fun h5 => ?_) (fun h5 => ?_)
 refine sr ?_
 refine asg rfl rfl ?_
 refine kp [2] rfl ?_
 refine Run.ret ?_
 first | exact ret_one (.tmp rfl .nil) rfl gv | exact absurd (‹false = true›) Bool.false_ne_true
 refine Run.skip ?_
 refine Run.region ?_
 refine mvo rfl rfl ?_
 first | refine RunL.op rfl rfl (OpJ.addI rfl rfl (by omega) ?_) | refine RunL.op rfl rfl (OpJ.add rfl rfl ?_)
 refine asg rfl rfl ?_
 exact RunL.next (Keep.sub (kt (ks := [1, 3, 5, 9]) rfl)) _ ⟨_, by omega, i + 1, rfl, by omega, rfl, rfl⟩ gv
 refine Run.exit ?_
 refine sr ?_
 refine RunL.call C12 rfl rfl rfl (c_lives R m0 hR0 hM) tks ?_
 refine asg rfl rfl ?_
 refine kp [2] rfl ?_
 refine Run.ret ?_
 first | exact ret_one (.tmp rfl .nil) rfl gv | exact absurd (‹false = true›) Bool.false_ne_true
 refine RunL.set (v := Bo true) (by rw [hk]; rfl) ?_
 refine RunL.no rfl rfl rfl rfl ?_
 refine RunL.no rfl rfl rfl rfl ?_
 refine RunL.op rfl rfl (OpJ.pickT rfl rfl ?_)
 refine kp [1, 3, 5, 41] rfl ?_
 refine Run.true rfl ?_
 refine sr ?_
 refine RunL.call C12 rfl rfl rfl (c_lives R m0 hR0 hM) tks ?_
 refine asg rfl rfl ?_
 refine kp [2] rfl ?_
 refine Run.ret ?_
 first | exact ret_one (.tmp rfl .nil) rfl gv | exact absurd (‹false = true›) Bool.false_ne_true
theorem c_Base (R : HP) (oa : Option Addr) (cap : Nat) (g : List Cl) (hR : RdS R oa (g.flatMap Cl.c)) (hl : g.length ≤ 100000) (h64 : ∀ x ∈ g, i64 x.base) : AC Tryz.prog 22 ⟨[.slice oa g.length cap]⟩ (stars [R]) (Ret (.tuple ⟨[I (if withinB (sumB g) = true then sumB g else 0), I (if withinB (sumB g) = true then 0 else 4)]⟩) [R]) := by
 have hbm : ∀ v ∈ g.map Cl.base, i64 v := fun v hv => by { obtain ⟨x, hx, rfl⟩ := List.mem_map.1 hv; exact h64 x hx }
 refine AC.go Tryz.func22 rfl (Nat.le_of_ble_eq_true rfl) fun β => ?_
 refine sr ?_
 refine sx 2 ?_
 refine kp [0] rfl ?_
 refine sr ?_
 refine sx 2 ?_
 refine RunL.op rfl rfl (OpJ.make S112 M3 rfl rfl (by omega) (by omega) fun b10 => ?_)
 refine asg rfl rfl ?_
 refine kp [0, 4] rfl ?_
 refine Run.seq ?_
 refine sr ?_
 refine RunL.imp (pt b10 (blk (List.replicate g.length [I 0]).flatten 3)) (own 3 1 (some ⟨b10, 0, none⟩) g.length g.length ((fillL g Cl.base 0).flatMap Iv)) up (fun h hh => own.of_pt (by rw [zeros_flat] at hh; rw [fillL_zero]; exact hh) (by rw [fillL_zero, flat_len (k := 1) (fun _ => rfl), List.length_replicate])) ?_
 refine sx 3 ?_
 refine kp [4, 11, 12, 13] rfl ?_
 refine Run.block ?_
 have hl10 : g.length ≤ 1000000 := by omega
 refine Run.weak (L' := [own 3 1 (some ⟨b10, 0, none⟩) g.length g.length ((fillL g Cl.base 0).flatMap Iv), R]) (fun _ _ h => h) gv ?_
 refine Run.loop (fun mm E L => ∃ i : Nat, mm = g.length - i ∧ i ≤ g.length ∧ E = [(4, .slice (some ⟨b10, 0, none⟩) g.length g.length), (11, .slice oa g.length cap), (12, I g.length), (13, I i)] ∧ L = [own 3 1 (some ⟨b10, 0, none⟩) g.length g.length ((fillL g Cl.base i).flatMap Iv), R]) ⟨_, 0, rfl, Nat.zero_le _, rfl, rfl⟩ ?_
 rintro _ _ _ ⟨i, rfl, hi, rfl, rfl⟩
 refine sr ?_
 refine sx 1 ?_
 refine kp [4, 11, 12, 13, 14] rfl ?_
 refine Run.seq ?_
 first | refine Run.if rfl (fun h1 => ?_) (fun h1 => ?_) | refine Run.cond rfl (fun h1 => ?_) (fun h1 => ?_)
 refine Run.skip ?_
 refine Run.seq ?_
 refine Run.block ?_
 refine sr ?_
 obtain ⟨x, hx⟩ := get_ex (xs := g) (i := i) (by omega)
 refine RunL.rdOpen pk hR (flat_ne (k := 7) (fun _ => rfl) (by decide) hx) fun bx ox ebx hrdx => ?_
 rw [ebx]
 refine sx 2 ?_
 refine RunL.op rfl rfl (OpJ.loadA inferInstance rfl pk (hrdx.elem (fun _ => rfl) hx) rfl ?_)
 refine RunL.op rfl rfl (OpJ.alloc Z63 fun b6 => ?_)
 refine asg rfl rfl ?_
 refine RunL.op rfl rfl (OpJ.storeW T63 rfl rfl rfl rfl (by simp [Value.oneCell', Tg.c, Ln.c, En.c, Ac.c, Cl.c, Ky.c, Qy.c, Sb, Iv]) up ?_)
 refine kp [4, 5, 6, 11, 12, 13] rfl ?_
 refine Run.region ?_
 refine sx 5 ?_
 refine RunL.op rfl rfl (OpJ.storeO (enc := Iv) (k := 1) (j := 0) (xs := fillL g Cl.base i) (i := i) (u := 0) (u' := x.base) inferInstance rfl rfl rfl (fillL_at (by omega)) (fun _ => rfl) (by decide) rfl up ?_)
 rw [fillL_set hx]
 refine kp [4, 11, 12, 13] rfl ?_
 refine Run.region ?_
 refine sx 2 ?_
 exact RunL.next (Keep.sub (kt (ks := [4, 11, 12, 13]) rfl)) _ ⟨_, by omega, i + 1, rfl, by omega, rfl, rfl⟩ gv
 refine Run.exit ?_
 refine sr ?_
 obtain rfl : i = g.length := by omega
 rw [fillL_all]
 refine mvo rfl rfl ?_
 refine RunL.call C54 rfl rfl rfl (c_totalN _ _ _ _ (g.map Cl.base) (by simp) own.rds hbm (by simpa using hl10)) tks ?_
 refine sx 5 ?_
 refine kp [2, 7] rfl ?_
 refine Run.seq ?_
 refine sr ?_
 refine sx 2 ?_
 refine kp [2, 30] rfl ?_
 first | refine Run.if rfl (fun h2 => ?_) (fun h2 => ?_) | refine Run.cond rfl (fun h2 => ?_) (fun h2 => ?_)
 refine sr ?_
 refine sx 2 ?_
 refine kp [2, 3] rfl ?_
 refine Run.ret ?_
 exact ret_one (.tmp rfl (.tmp rfl .nil)) (by have hb : withinB (sumB g) = false := (by simpa [sumB] using h2); rw [hb]; rfl) gv
 refine Run.skip ?_
 refine sr ?_
 refine sx 3 ?_
 refine kp [2, 3] rfl ?_
 refine Run.ret ?_
 exact ret_one (.tmp rfl (.tmp rfl .nil)) (by have hb : withinB (sumB g) = true := (by simpa [sumB] using h2); rw [hb, if_pos rfl, if_pos rfl]; exact congrArg (fun n => Value.tuple ⟨[I n, I 0]⟩) (sumV_of (xs := g.map Cl.base) (within64 hb))) gv
end
theorem en1 : ∀ x, ∀ v ∈ En.c x, Value.oneCell' v = true := fun x v hv => by simp [En.c] at hv; rcases hv with rfl | rfl | rfl | rfl | rfl | rfl | rfl | rfl | rfl <;> rfl
section
attribute [local irreducible] OpJ RunL Run RunD DetJ pt own star Rd RdS
theorem c_with (R : HP) (oa : Option Addr) (cap : Nat) (l : List En) (e : En) (hR : RdS R oa (l.flatMap En.c)) (hl : l.length ≤ 1000) : AC Tryz.prog 23 ⟨[.slice oa l.length cap, .agg ⟨e.c⟩]⟩ (stars [R]) (Outs (fun _ : Option Addr × Nat => True) (fun y => .slice y.1 (withL l e).length y.2) (fun y => [own 42 9 y.1 (withL l e).length y.2 ((withL l e).flatMap En.c), R])) := by
 have hwl : l.length + 1 = (withL l e).length := (by rw [List.length_append]; rfl)
 have hwc : l.flatMap En.c ++ (numE l e).c = (withL l e).flatMap En.c := (by rw [List.flatMap_append, List.flatMap_cons, List.flatMap_nil, List.append_nil])
 refine AC.go Tryz.func23 rfl (Nat.le_of_ble_eq_true rfl) fun β => ?_
 refine sr ?_
 refine RunL.op rfl rfl (OpJ.boxA rfl fun b3 => ?_)
 refine asg rfl rfl ?_
 refine kp [0, 3] rfl ?_
 refine sr ?_
 refine sx 4 ?_
 refine RunL.op rfl rfl (OpJ.store1 inferInstance rfl rfl rfl up (by simp [En.c]) ?_)
 refine kp [0, 3] rfl ?_
 refine Run.seq ?_
 refine regionD HM ?_
 refine tk 1 rfl rfl rfl (DetJ.move rfl) ?_
 first | refine RunD.takeW 3 rfl rfl kr T42 rfl pk (by rfl) ?_ | refine RunD.takeP 3 rfl rfl kr T42 rfl pk (by simp) ?_ | refine RunD.takeE 3 rfl rfl kr T42 rfl pk (by assumption) (by exact fun _ => rfl) rfl (by decide) ?_
 refine RunD.two 0 4 [true, true] [false, true] rfl rfl rfl rfl rfl rfl kr kr kr (OpJ.buildSlice0 S25 fun b9 => ⟨po, ?_⟩) (OpJ.buildSlice1 S25 rfl rfl rfl (by decide) (by decide) Z42 rfl fun b13 => ⟨po, ?_⟩)
 refine RunD.two 2 4 [true, false] [false, true] rfl rfl rfl rfl rfl rfl kr kr kr (OpJ.appendAll S25 M42 rfl rfl pk pk hR (flat_len (enc := En.c) (k := 9) (fun _ => rfl) _) (by decide) (flat_one en1 _) (by omega) (by omega) fun a11 c11 => ⟨po, ?_⟩) (OpJ.buildSlice1 S25 rfl rfl rfl (by decide) (by decide) Z42 rfl fun b13 => ⟨po, ?_⟩)
 simp only [Nat.zero_add, List.nil_append]
 refine RunD.op 4 [false] rfl rfl rfl kr kr (OpJ.buildSlice1 S25 rfl rfl rfl (by decide) (by decide) Z42 rfl fun b13 => ⟨po, ?_⟩)
 refine RunD.op 5 [] rfl rfl rfl kr kr (OpJ.append1 (numE l e) S25 M42 rfl rfl pk pk rfl rfl (by simp [Value.oneCell', Tg.c, Ln.c, En.c, Ac.c, Cl.c, Ky.c, Qy.c, Sb, Iv, Cs.c]) rfl (by omega) (by omega) fun a14 c14 => ⟨po, ?_⟩)
 refine tk 6 rfl rfl rfl (DetJ.assign rfl) ?_
 refine kd [4] rfl ?_
 refine Run.ret ?_
 exact ret_out (a14, c14) (.tmp rfl .nil) trivial rfl gv
 refine RunD.op 2 [false] rfl rfl rfl kr kr (OpJ.appendAll S25 M42 rfl rfl pk pk hR (flat_len (enc := En.c) (k := 9) (fun _ => rfl) _) (by decide) (flat_one en1 _) (by omega) (by omega) fun a11 c11 => ⟨po, ?_⟩)
 simp only [Nat.zero_add, List.nil_append]
 refine RunD.op 5 [] rfl rfl rfl kr kr (OpJ.append1 (numE l e) S25 M42 rfl rfl pk pk rfl rfl (by simp [Value.oneCell', Tg.c, Ln.c, En.c, Ac.c, Cl.c, Ky.c, Qy.c, Sb, Iv, Cs.c]) rfl (by omega) (by omega) fun a14 c14 => ⟨po, ?_⟩)
 refine tk 6 rfl rfl rfl (DetJ.assign rfl) ?_
 refine kd [4] rfl ?_
 refine Run.ret ?_
 exact ret_out (a14, c14) (.tmp rfl .nil) trivial rfl gv
 refine RunD.op 0 [true] rfl rfl rfl kr kr (OpJ.buildSlice0 S25 fun b9 => ⟨po, ?_⟩)
 refine RunD.op 2 [false] rfl rfl rfl kr kr (OpJ.appendAll S25 M42 rfl rfl pk pk hR (flat_len (enc := En.c) (k := 9) (fun _ => rfl) _) (by decide) (flat_one en1 _) (by omega) (by omega) fun a11 c11 => ⟨po, ?_⟩)
 simp only [Nat.zero_add, List.nil_append]
 refine RunD.op 5 [] rfl rfl rfl kr kr (OpJ.append1 (numE l e) S25 M42 rfl rfl pk pk rfl rfl (by simp [Value.oneCell', Tg.c, Ln.c, En.c, Ac.c, Cl.c, Ky.c, Qy.c, Sb, Iv, Cs.c]) rfl (by omega) (by omega) fun a14 c14 => ⟨po, ?_⟩)
 refine tk 6 rfl rfl rfl (DetJ.assign rfl) ?_
 refine kd [4] rfl ?_
 refine Run.ret ?_
 exact ret_out (a14, c14) (.tmp rfl .nil) trivial rfl gv
theorem c_base (R : HP) (oa : Option Addr) (cap : Nat) (l : List En) (hR : RdS R oa (l.flatMap En.c)) (hrd : ∀ e ∈ l, e.rd R ∧ e.lines.length ≤ 140737488355328) (hl : l.length ≤ 1000) (ent acc : ByteArray) : AC Tryz.prog 24 ⟨[.slice oa l.length cap, St ent, St acc]⟩ (stars [R]) (Ret (I (wr (baseL ent acc l))) [R]) := by
 refine AC.go Tryz.func24 rfl (Nat.le_of_ble_eq_true rfl) fun β => ?_
 refine sr ?_
 refine asg rfl rfl ?_
 refine kp [0, 1, 2] rfl ?_
 refine sr ?_
 refine asg rfl rfl ?_
 refine kp [0, 1, 2, 7] rfl ?_
 refine Run.seq ?_
 refine sr ?_
 refine asg rfl rfl ?_
 refine kp [0, 1, 2, 7, 8] rfl ?_
 refine Run.block ?_
 refine Run.loop (fun mm E L => ∃ i : Nat, mm = l.length - i ∧ i ≤ l.length ∧ E = [(0, .slice oa l.length cap), (1, St ent), (2, St acc), (7, I (wr (baseL ent acc (l.take i)))), (8, I i)] ∧ L = [R]) ⟨_, 0, rfl, Nat.zero_le _, rfl, rfl⟩ ?_
 rintro _ _ _ ⟨i, rfl, hi, rfl, rfl⟩
 refine Run.seq ?_
 refine sr ?_
 refine sx 4 ?_
 refine kp [0, 1, 2, 7, 8, 13] rfl ?_
 first | refine Run.if rfl (fun h1 => ?_) (fun h1 => ?_) | refine Run.cond rfl (fun h1 => ?_) (fun h1 => ?_)
 refine Run.skip ?_
 refine Run.seq ?_
 refine Run.block ?_
 refine sr ?_
 obtain ⟨e, hex⟩ := get_ex (xs := l) (i := i) (by omega)
 have hem := hrd e (List.mem_of_getElem? hex)
 refine RunL.rdOpen pk hR (flat_ne (k := 9) (fun _ => rfl) (by decide) hex) fun bo oo ebo hrq => ?_
 subst ebo
 rw [← base_zero i e]
 refine asg rfl rfl ?_
 refine kp [0, 1, 2, 7, 8, 9] rfl ?_
 refine Run.block ?_
 refine Run.loop (fun mm E L => ∃ k : Nat, mm = e.lines.length - k ∧ k ≤ e.lines.length ∧ E = [(0, .slice (some ⟨bo, oo, none⟩) l.length cap), (1, St ent), (2, St acc), (7, I (wr (baseV ent acc l i e k))), (8, I i), (9, I k)] ∧ L = [R]) ⟨_, 0, rfl, Nat.zero_le _, rfl, rfl⟩ ?_
 rintro _ _ _ ⟨k, rfl, hk, rfl, rfl⟩
 refine Run.seq ?_
 refine sr ?_
 refine sx 5 ?_
 refine RunL.op rfl rfl (OpJ.load1 inferInstance rfl pk (hrq.at (enc := En.c) 9 (fun _ => rfl) hex 8 (.slice e.la e.lines.length e.lc) rfl) ?_)
 refine sx 2 ?_
 refine kp [0, 1, 2, 7, 8, 9, 23] rfl ?_
 first | refine Run.if rfl (fun h2 => ?_) (fun h2 => ?_) | refine Run.cond rfl (fun h2 => ?_) (fun h2 => ?_)
 refine Run.skip ?_
 refine Run.seq ?_
 refine Run.block ?_
 refine sr ?_
 obtain ⟨y, hy⟩ := get_ex (xs := e.lines) (i := k) (by omega)
 refine RunL.rdOpen pk hem.1.1 (flat_ne (k := 7) (fun _ => rfl) (by decide) hy) fun bq oq ebq hrl => ?_
 have hyb := (hem.1.2 y (List.mem_of_getElem? hy)).2.2.2
 refine sx 4 ?_
 refine RunL.op rfl rfl (OpJ.load1 inferInstance rfl pk (hrq.at (enc := En.c) 9 (fun _ => rfl) hex 1 (St e.ent) rfl) ?_)
 refine sx 3 ?_
 first | refine RunL.splitP (t := 33) rfl (fun g3 => ?_) (fun g3 => ?_) | refine RunL.split (t := 33) rfl (fun g3 => ?_) (fun g3 => ?_)
 refine sx 4 ?_
 refine RunL.yes rfl rfl rfl rfl (OpJ.load1 inferInstance rfl pk (hrq.at (enc := En.c) 9 (fun _ => rfl) hex 8 (.slice e.la e.lines.length e.lc) rfl) ?_)
 rw [ebq]
 refine sx 3 ?_
 refine RunL.yes rfl rfl rfl rfl (OpJ.load1 inferInstance rfl pk (hrl.at (enc := Ln.c) 7 (fun _ => rfl) hy 0 (St y.acc) rfl) ?_)
 refine sx 3 ?_
 refine kp [0, 1, 2, 7, 8, 9, 45] rfl ?_
 first | refine Run.if rfl (fun h4 => ?_) (fun h4 => ?_) | refine Run.cond rfl (fun h4 => ?_) (fun h4 => ?_)
 refine Run.region ?_
 refine sx 5 ?_
 refine RunL.op rfl rfl (OpJ.load1 inferInstance rfl pk (hrq.at (enc := En.c) 9 (fun _ => rfl) hex 8 (.slice e.la e.lines.length e.lc) rfl) ?_)
 rw [ebq]
 refine sx 3 ?_
 refine RunL.op rfl rfl (OpJ.load1 inferInstance rfl pk (hrl.at (enc := Ln.c) 7 (fun _ => rfl) hy 3 (I y.base) rfl) ?_)
 refine sx 1 ?_
 refine RunL.set (v := I (wr (baseV ent acc l i e (k + 1)))) (congrArg I (by rw [base_in hy (by simp_all) (by simp_all)]; exact wr_add _ _)) ?_
 refine asg rfl rfl ?_
 refine kp [0, 1, 2, 7, 8, 9] rfl ?_
 refine Run.region ?_
 refine sx 3 ?_
 first
 | exact RunL.next (Keep.sub (kt (ks := [0, 1, 2, 7, 8, 9]) rfl)) _ ⟨_, by omega, k + 1, rfl, by omega, rfl, rfl⟩ gv
 | rw [← base_out hy (fun h => by simp_all)]
   exact RunL.next (Keep.sub (kt (ks := [0, 1, 2, 7, 8, 9]) rfl)) _ ⟨_, by omega, k + 1, rfl, by omega, rfl, rfl⟩ gv
 refine Run.skip ?_
 refine Run.region ?_
 refine sx 3 ?_
 first
 | exact RunL.next (Keep.sub (kt (ks := [0, 1, 2, 7, 8, 9]) rfl)) _ ⟨_, by omega, k + 1, rfl, by omega, rfl, rfl⟩ gv
 | rw [← base_out hy (fun h => by simp_all)]
   exact RunL.next (Keep.sub (kt (ks := [0, 1, 2, 7, 8, 9]) rfl)) _ ⟨_, by omega, k + 1, rfl, by omega, rfl, rfl⟩ gv
 refine sx 12 ?_
 refine kp [0, 1, 2, 7, 8, 9, 45] rfl ?_
 refine Run.false rfl ?_
 refine Run.skip ?_
 refine Run.region ?_
 refine sx 3 ?_
 first
 | exact RunL.next (Keep.sub (kt (ks := [0, 1, 2, 7, 8, 9]) rfl)) _ ⟨_, by omega, k + 1, rfl, by omega, rfl, rfl⟩ gv
 | rw [← base_out hy (fun h => by simp_all)]
   exact RunL.next (Keep.sub (kt (ks := [0, 1, 2, 7, 8, 9]) rfl)) _ ⟨_, by omega, k + 1, rfl, by omega, rfl, rfl⟩ gv
 refine Run.exit ?_
 refine Run.region ?_
 refine sx 3 ?_
 rw [base_next hex (by omega)]
 exact RunL.next (Keep.sub (kt (ks := [0, 1, 2, 7, 8]) rfl)) _ ⟨_, by omega, i + 1, rfl, by omega, rfl, rfl⟩ gv
 refine Run.exit ?_
 refine sr ?_
 obtain rfl : i = l.length := by omega
 rw [List.take_length]
 refine sx 2 ?_
 refine kp [6] rfl ?_
 refine Run.ret ?_
 exact ret_one (.tmp rfl .nil) (rfl) gv
theorem c_lawEmpties (R : HP) (x : Cs) (m0 : Int) (hR0 : Rd R ⟨0, 0, none⟩ lensC) (hM : Rd R ⟨1, 0, none⟩ [I m0]) (hx : x.rd R) : AC Tryz.prog 7 ⟨[.agg ⟨x.c⟩]⟩ (stars [R]) (Ret (Bo true) [R]) := by
 have hx2 := hx
 obtain ⟨hxr, hxe, hxl, hlr, hle, hls, hll, hiy, hib, hzw⟩ := hx
 refine AC.go Tryz.func7 rfl (Nat.le_of_ble_eq_true rfl) fun β => ?_
 refine sr ?_
 refine RunL.op rfl rfl (OpJ.boxA rfl fun b1 => ?_)
 refine asg rfl rfl ?_
 refine kp [1] rfl ?_
 refine sr ?_
 first | refine RunL.op rfl rfl (OpJ.loadW T27 rfl pk (by rfl) ?_) | refine RunL.op rfl rfl (OpJ.loadP T27 rfl pk (by simp) ?_) | refine RunL.op rfl rfl (OpJ.loadE T27 rfl pk (by assumption) (by exact fun _ => rfl) rfl (by decide) ?_)
 refine RunL.callX C11 rfl rfl rfl (c_whole x R hx2) tks fun ⟨o, ok⟩ ⟨ho, hfew, hok⟩ => ?_
 dsimp only at ho hfew hok
 refine mvo rfl rfl ?_
 refine RunL.op rfl rfl (OpJ.extract rfl rfl ?_)
 refine RunL.op rfl rfl (OpJ.extract rfl rfl ?_)
 refine asg rfl rfl ?_
 refine asg rfl rfl ?_
 refine kp [1, 3, 4] rfl ?_
 refine sr ?_
 refine mvo rfl rfl ?_
 refine RunL.op rfl rfl (OpJ.fieldAddr F27_1 rfl ?_)
 refine RunL.op rfl rfl (OpJ.loadP inferInstance rfl pk (by simp [Cs.c]) ?_)
 refine RunL.op rfl rfl (OpJ.fieldAddr F27_2 rfl ?_)
 first | refine RunL.op rfl rfl (OpJ.loadF T25 rfl pk (by rfl) ?_) | refine RunL.op rfl rfl (OpJ.loadO T25 rfl pk (by assumption) (by rfl) (by exact fun _ => rfl) ?_)
 refine RunL.op rfl rfl (OpJ.fieldAddr F27_3 rfl ?_)
 first | refine RunL.op rfl rfl (OpJ.loadF T9 rfl pk (by rfl) ?_) | refine RunL.op rfl rfl (OpJ.loadO T9 rfl pk (by assumption) (by rfl) (by exact fun _ => rfl) ?_)
 refine RunL.op rfl rfl (OpJ.fieldAddr F27_4 rfl ?_)
 first | refine RunL.op rfl rfl (OpJ.loadF T3 rfl pk (by rfl) ?_) | refine RunL.op rfl rfl (OpJ.loadO T3 rfl pk (by assumption) (by rfl) (by exact fun _ => rfl) ?_)
 refine RunL.op rfl rfl (OpJ.fieldAddr F27_5 rfl ?_)
 first | refine RunL.op rfl rfl (OpJ.loadF T3 rfl pk (by rfl) ?_) | refine RunL.op rfl rfl (OpJ.loadO T3 rfl pk (by assumption) (by rfl) (by exact fun _ => rfl) ?_)
 refine RunL.op rfl rfl (OpJ.fieldAddr F27_6 rfl ?_)
 first | refine RunL.op rfl rfl (OpJ.loadF T9 rfl pk (by rfl) ?_) | refine RunL.op rfl rfl (OpJ.loadO T9 rfl pk (by assumption) (by rfl) (by exact fun _ => rfl) ?_)
 refine RunL.op rfl rfl (OpJ.fieldAddr F27_7 rfl ?_)
 first | refine RunL.op rfl rfl (OpJ.loadF T9 rfl pk (by rfl) ?_) | refine RunL.op rfl rfl (OpJ.loadO T9 rfl pk (by assumption) (by rfl) (by exact fun _ => rfl) ?_)
 refine RunL.callX C16 rfl rfl rfl (c_EntO o x.xs ho R _ _ x.l hR0 hlr (fun e he => (hle e he).1) (fun h => by have := (hfew h).l; omega) x.first x.ent x.year x.book x.to x.who m0 hM) tks fun y hye => ?_
 refine mvo rfl rfl ?_
 refine RunL.op rfl rfl (OpJ.extract rfl rfl ?_)
 refine RunL.op rfl rfl (OpJ.extract rfl rfl ?_)
 refine RunL.op rfl rfl (OpJ.alloc Z42 fun b5 => ?_)
 refine RunL.op rfl rfl (OpJ.storeW T42 rfl rfl rfl rfl (by simp [Value.oneCell', Tg.c, Ln.c, En.c, Ac.c, Cl.c, Ky.c, Qy.c, Sb, Iv, Cs.c]) up ?_)
 refine asg rfl rfl ?_
 refine kp [1, 3, 4, 5, 6] rfl ?_
 refine Run.seq ?_
 refine sr ?_
 refine mvo rfl rfl ?_
 refine RunL.op rfl rfl (OpJ.not rfl ?_)
 refine mvo rfl rfl ?_
 rcases Bool.eq_false_or_eq_true ok with hk | hk
 refine RunL.set (v := Bo false) (by rw [hk]; rfl) ?_
 refine RunL.yes rfl rfl rfl rfl (OpJ.move rfl ?_)
 refine RunL.yes rfl rfl rfl rfl (OpJ.neq rfl rfl ?_)
 refine RunL.op rfl rfl (OpJ.pickF rfl rfl ?_)
 refine kp [1, 3, 5, 45] rfl ?_
 first | refine Run.if rfl (fun h1 => ?_) (fun h1 => ?_) | refine Run.cond rfl (fun h1 => ?_) (fun h1 => ?_)
 refine sr ?_
 refine RunL.call C12 rfl rfl rfl (c_lives R m0 hR0 hM) tks ?_
 refine asg rfl rfl ?_
 refine kp [2] rfl ?_
 refine Run.ret ?_
 exact ret_one (.tmp rfl .nil) (rfl) gv
 refine Run.skip ?_
 refine sr ?_
 have hse : o.isSome = true := hok hk
 have hr2 := entX_some hse x.xs x.first x.l x.ent x.year x.book x.to x.who
 have he0 : (entM x.xs x.first x.l x.ent x.year x.book x.to x.who).2 = 0 := (by rw [← hr2]; (first | simpa using h1 | simpa using g1 | simpa using g2 | simpa using h2))
 rw [he0e hr2 he0]
 obtain ⟨all, a0, hen⟩ := ent_ok2 he0
 rw [hr2, hen.val] at hye
 have hs0 := hfew hse
 obtain ⟨yno, yent, ybk, yval, ykd, yref, ywho, yrev, yla, ylc, yls⟩ := y
 simp only [En.e, En.mk.injEq, and_true, true_and] at hye
 obtain ⟨rfl, rfl, rfl, rfl, rfl, rfl, rfl, rfl, hyl⟩ := hye
 obtain ⟨hl0, hl100, hl2, hlb⟩ := ent_lines hen hyl
 have z4 : (⟨0, x.ent, x.book, lastF x.first x.year, 4, bs0, x.who, 0, yla, ylc, yls⟩ : En).lines.length = yls.length := rfl
 obtain ⟨ht1, ht100⟩ := ent_tiny hen
 have hr0 : (resM x.xs x.first x.l x.ent x.year x.book).2 = 0 := (by rw [hen.res.res])
 have hsn : (resM x.xs x.first x.l x.ent x.year x.book).1.length ≠ 0 := (fun h => hen.some (List.eq_nil_of_length_eq_zero h))
 refine mvo rfl rfl ?_
 refine RunL.op rfl rfl (OpJ.fieldAddr F27_1 rfl ?_)
 refine RunL.op rfl rfl (OpJ.loadP inferInstance rfl pk (by simp [Cs.c]) ?_)
 refine RunL.op rfl rfl (OpJ.fieldAddr F27_2 rfl ?_)
 first | refine RunL.op rfl rfl (OpJ.loadF T25 rfl pk (by rfl) ?_) | refine RunL.op rfl rfl (OpJ.loadO T25 rfl pk (by assumption) (by rfl) (by exact fun _ => rfl) ?_)
 refine RunL.op rfl rfl (OpJ.fieldAddr F27_3 rfl ?_)
 first | refine RunL.op rfl rfl (OpJ.loadF T9 rfl pk (by rfl) ?_) | refine RunL.op rfl rfl (OpJ.loadO T9 rfl pk (by assumption) (by rfl) (by exact fun _ => rfl) ?_)
 refine RunL.op rfl rfl (OpJ.fieldAddr F27_4 rfl ?_)
 first | refine RunL.op rfl rfl (OpJ.loadF T3 rfl pk (by rfl) ?_) | refine RunL.op rfl rfl (OpJ.loadO T3 rfl pk (by assumption) (by rfl) (by exact fun _ => rfl) ?_)
 refine RunL.op rfl rfl (OpJ.fieldAddr F27_5 rfl ?_)
 first | refine RunL.op rfl rfl (OpJ.loadF T3 rfl pk (by rfl) ?_) | refine RunL.op rfl rfl (OpJ.loadO T3 rfl pk (by assumption) (by rfl) (by exact fun _ => rfl) ?_)
 refine RunL.callX C13 rfl rfl rfl (c_ResO o x.xs ho R _ _ x.l hR0 hlr (fun e he => (hle e he).1) (fun h => by have := (hfew h).l; omega) x.first x.ent x.year x.book) tks fun ⟨sa, sc⟩ _ => ?_
 rw [resX_some hse, hr0]
 refine mvo rfl rfl ?_
 refine RunL.op rfl rfl (OpJ.extract rfl rfl ?_)
 refine RunL.op rfl rfl (OpJ.extract rfl rfl ?_)
 refine asg rfl rfl ?_
 refine asg rfl rfl ?_
 refine kp [1, 3, 5, 7, 8] rfl ?_
 refine sr ?_
 refine mvo rfl rfl ?_
 refine RunL.call C22 rfl rfl rfl (c_Base (own 63 7 sa (resM x.xs x.first x.l x.ent x.year x.book).1.length sc ((resM x.xs x.first x.l x.ent x.year x.book).1.flatMap Cl.c)) sa sc (resM x.xs x.first x.l x.ent x.year x.book).1 own.rds (by have := ht100; omega) (fun z hz => by have := (ht1 z hz).2; unfold i64; omega)) tks ?_
 rw [ent_base hen, if_pos rfl, if_pos rfl]
 refine mvo rfl rfl ?_
 refine RunL.op rfl rfl (OpJ.extract rfl rfl ?_)
 refine RunL.op rfl rfl (OpJ.extract rfl rfl ?_)
 refine asg rfl rfl ?_
 refine asg rfl rfl ?_
 refine kp [1, 3, 5, 7, 8, 9, 10] rfl ?_
 refine sr ?_
 refine RunL.op rfl rfl (OpJ.fieldAddr F27_2 rfl ?_)
 first | refine RunL.op rfl rfl (OpJ.loadF T25 rfl pk (by rfl) ?_) | refine RunL.op rfl rfl (OpJ.loadO T25 rfl pk (by assumption) (by rfl) (by exact fun _ => rfl) ?_)
 first | refine RunL.op rfl rfl (OpJ.loadW T42 rfl pk (by rfl) ?_) | refine RunL.op rfl rfl (OpJ.loadP T42 rfl pk (by simp) ?_) | refine RunL.op rfl rfl (OpJ.loadE T42 rfl pk (by assumption) (by exact fun _ => rfl) rfl (by decide) ?_)
 refine RunL.callX C23 rfl rfl rfl (c_with R _ _ x.l (⟨0, x.ent, x.book, lastF x.first x.year, 4, bs0, x.who, 0, yla, ylc, yls⟩ : En) hlr (by have := hs0.l; omega)) tks fun ⟨wa, wc⟩ _ => ?_
 refine asg rfl rfl ?_
 refine kp [1, 3, 7, 8, 9, 10, 11] rfl ?_
 refine sr ?_
 refine RunL.packs [own 42 9 wa (withL x.l (⟨0, x.ent, x.book, lastF x.first x.year, 4, bs0, x.who, 0, yla, ylc, yls⟩ : En)).length wc ((withL x.l (⟨0, x.ent, x.book, lastF x.first x.year, 4, bs0, x.who, 0, yla, ylc, yls⟩ : En)).flatMap En.c), own 73 7 yla yls.length ylc (yls.flatMap Ln.c), big (tagH 151) yls, R] tks ?_
 have hwb : ∀ e ∈ (withL x.l (⟨0, x.ent, x.book, lastF x.first x.year, 4, bs0, x.who, 0, yla, ylc, yls⟩ : En)), e.rd (stars [own 42 9 wa (withL x.l (⟨0, x.ent, x.book, lastF x.first x.year, 4, bs0, x.who, 0, yla, ylc, yls⟩ : En)).length wc ((withL x.l (⟨0, x.ent, x.book, lastF x.first x.year, 4, bs0, x.who, 0, yla, ylc, yls⟩ : En)).flatMap En.c), own 73 7 yla yls.length ylc (yls.flatMap Ln.c), big (tagH 151) yls, R]) ∧ e.lines.length ≤ 140737488355328 := (fun e he => by rcases List.mem_append.1 he with h | h; exact ⟨En.rd_in3 (hle e h).1, (hle e h).2⟩; rw [List.mem_singleton.1 h]; exact ⟨ent_rd hen hyl _, by show yls.length ≤ _; omega⟩)
 refine mvo rfl rfl ?_
 refine RunL.op rfl rfl (OpJ.fieldAddr F27_1 rfl ?_)
 refine RunL.op rfl rfl (OpJ.loadP inferInstance rfl pk (by simp [Cs.c]) ?_)
 refine mvo rfl rfl ?_
 refine RunL.op rfl rfl (OpJ.fieldAddr F27_3 rfl ?_)
 first | refine RunL.op rfl rfl (OpJ.loadF T9 rfl pk (by rfl) ?_) | refine RunL.op rfl rfl (OpJ.loadO T9 rfl pk (by assumption) (by rfl) (by exact fun _ => rfl) ?_)
 refine RunL.op rfl rfl (OpJ.fieldAddr F27_4 rfl ?_)
 first | refine RunL.op rfl rfl (OpJ.loadF T3 rfl pk (by rfl) ?_) | refine RunL.op rfl rfl (OpJ.loadO T3 rfl pk (by assumption) (by rfl) (by exact fun _ => rfl) ?_)
 refine RunL.op rfl rfl (OpJ.fieldAddr F27_5 rfl ?_)
 first | refine RunL.op rfl rfl (OpJ.loadF T3 rfl pk (by rfl) ?_) | refine RunL.op rfl rfl (OpJ.loadO T3 rfl pk (by assumption) (by rfl) (by exact fun _ => rfl) ?_)
 refine RunL.callX C13 rfl rfl rfl (c_ResO o x.xs ho (stars [own 42 9 wa (withL x.l (⟨0, x.ent, x.book, lastF x.first x.year, 4, bs0, x.who, 0, yla, ylc, yls⟩ : En)).length wc ((withL x.l (⟨0, x.ent, x.book, lastF x.first x.year, 4, bs0, x.who, 0, yla, ylc, yls⟩ : En)).flatMap En.c), own 73 7 yla yls.length ylc (yls.flatMap Ln.c), big (tagH 151) yls, R]) wa wc (withL x.l (⟨0, x.ent, x.book, lastF x.first x.year, 4, bs0, x.who, 0, yla, ylc, yls⟩ : En)) (rd_in30 hR0) (RdS.inl own.rds) (fun e he => by rcases List.mem_append.1 he with h | h; exact En.rd_in3 (hle e h).1; rw [List.mem_singleton.1 h]; exact ent_rd hen hyl _) (fun _ => by rw [List.length_append, List.length_singleton]; have := hs0.l; omega) x.first x.ent x.year x.book) tks fun ⟨sb, sd⟩ _ => ?_
 rw [resX_some hse, (empties2 hen hyl (by have := hs0.l; omega) hs0.tot yla ylc).1]
 dsimp only
 refine mvo rfl rfl ?_
 refine RunL.op rfl rfl (OpJ.extract rfl rfl ?_)
 refine RunL.op rfl rfl (OpJ.extract rfl rfl ?_)
 refine asg rfl rfl ?_
 refine asg rfl rfl ?_
 refine kp [1, 3, 7, 8, 9, 10, 11, 12, 13] rfl ?_
 refine sr ?_
 refine mvo rfl rfl ?_
 refine RunL.op rfl rfl (OpJ.fieldAddr F27_1 rfl ?_)
 refine RunL.op rfl rfl (OpJ.loadP inferInstance rfl pk (by simp [Cs.c]) ?_)
 refine mvo rfl rfl ?_
 refine RunL.op rfl rfl (OpJ.fieldAddr F27_3 rfl ?_)
 first | refine RunL.op rfl rfl (OpJ.loadF T9 rfl pk (by rfl) ?_) | refine RunL.op rfl rfl (OpJ.loadO T9 rfl pk (by assumption) (by rfl) (by exact fun _ => rfl) ?_)
 refine RunL.op rfl rfl (OpJ.fieldAddr F27_4 rfl ?_)
 first | refine RunL.op rfl rfl (OpJ.loadF T3 rfl pk (by rfl) ?_) | refine RunL.op rfl rfl (OpJ.loadO T3 rfl pk (by assumption) (by rfl) (by exact fun _ => rfl) ?_)
 refine RunL.op rfl rfl (OpJ.fieldAddr F27_5 rfl ?_)
 first | refine RunL.op rfl rfl (OpJ.loadF T3 rfl pk (by rfl) ?_) | refine RunL.op rfl rfl (OpJ.loadO T3 rfl pk (by assumption) (by rfl) (by exact fun _ => rfl) ?_)
 refine RunL.op rfl rfl (OpJ.fieldAddr F27_6 rfl ?_)
 first | refine RunL.op rfl rfl (OpJ.loadF T9 rfl pk (by rfl) ?_) | refine RunL.op rfl rfl (OpJ.loadO T9 rfl pk (by assumption) (by rfl) (by exact fun _ => rfl) ?_)
 refine RunL.op rfl rfl (OpJ.fieldAddr F27_7 rfl ?_)
 first | refine RunL.op rfl rfl (OpJ.loadF T9 rfl pk (by rfl) ?_) | refine RunL.op rfl rfl (OpJ.loadO T9 rfl pk (by assumption) (by rfl) (by exact fun _ => rfl) ?_)
 refine RunL.callX C16 rfl rfl rfl (c_EntO o x.xs ho (stars [own 42 9 wa (withL x.l (⟨0, x.ent, x.book, lastF x.first x.year, 4, bs0, x.who, 0, yla, ylc, yls⟩ : En)).length wc ((withL x.l (⟨0, x.ent, x.book, lastF x.first x.year, 4, bs0, x.who, 0, yla, ylc, yls⟩ : En)).flatMap En.c), own 73 7 yla yls.length ylc (yls.flatMap Ln.c), big (tagH 151) yls, R]) wa wc (withL x.l (⟨0, x.ent, x.book, lastF x.first x.year, 4, bs0, x.who, 0, yla, ylc, yls⟩ : En)) (rd_in30 hR0) (RdS.inl own.rds) (fun e he => by rcases List.mem_append.1 he with h | h; exact En.rd_in3 (hle e h).1; rw [List.mem_singleton.1 h]; exact ent_rd hen hyl _) (fun _ => by rw [List.length_append, List.length_singleton]; have := hs0.l; omega) x.first x.ent x.year x.book x.to x.who m0 (rd_in31 hM)) tks fun y2 _ => ?_
 rw [entX_some hse, (empties2 hen hyl (by have := hs0.l; omega) hs0.tot yla ylc).2.1]
 dsimp only
 refine mvo rfl rfl ?_
 refine RunL.op rfl rfl (OpJ.extract rfl rfl ?_)
 refine RunL.op rfl rfl (OpJ.extract rfl rfl ?_)
 refine RunL.op rfl rfl (OpJ.alloc Z42 fun b14 => ?_)
 refine RunL.op rfl rfl (OpJ.storeW T42 rfl rfl rfl rfl (by simp [Value.oneCell', Tg.c, Ln.c, En.c, Ac.c, Cl.c, Ky.c, Qy.c, Sb, Iv, Cs.c]) up ?_)
 refine asg rfl rfl ?_
 refine kp [1, 7, 8, 9, 10, 11, 12, 13, 15] rfl ?_
 refine Run.seq ?_
 refine sr ?_
 refine mvo rfl rfl ?_
 refine RunL.op rfl rfl (OpJ.neq rfl rfl ?_)
 refine mvo rfl rfl ?_
 refine RunL.yes rfl rfl rfl rfl (OpJ.move rfl ?_)
 refine RunL.yes rfl rfl rfl rfl (OpJ.neq rfl rfl ?_)
 refine RunL.op rfl rfl (OpJ.pickF rfl rfl ?_)
 refine mvo rfl rfl ?_
 refine RunL.yes rfl rfl rfl rfl (OpJ.move rfl ?_)
 refine RunL.yes rfl rfl rfl rfl (OpJ.neq rfl rfl ?_)
 refine RunL.op rfl rfl (OpJ.pickF rfl rfl ?_)
 refine mvo rfl rfl ?_
 refine RunL.yes rfl rfl rfl rfl (OpJ.move rfl ?_)
 refine RunL.yes rfl rfl rfl rfl (OpJ.len S32 rfl ?_)
 refine RunL.yes rfl rfl rfl rfl (OpJ.eql rfl rfl ?_)
 refine RunL.set (v := Bo false) (by simp [hsn]) ?_
 refine RunL.op rfl rfl (OpJ.pickF rfl rfl ?_)
 refine mvo rfl rfl ?_
 refine RunL.yes rfl rfl rfl rfl (OpJ.move rfl ?_)
 refine RunL.yes rfl rfl rfl rfl (OpJ.len S32 rfl ?_)
 refine RunL.yes rfl rfl rfl rfl (OpJ.neq rfl rfl ?_)
 refine RunL.op rfl rfl (OpJ.pickF rfl rfl ?_)
 refine mvo rfl rfl ?_
 refine RunL.yes rfl rfl rfl rfl (OpJ.move rfl ?_)
 refine RunL.yes rfl rfl rfl rfl (OpJ.neq rfl rfl ?_)
 refine RunL.op rfl rfl (OpJ.pickF rfl rfl ?_)
 refine kp [1, 9, 11, 126] rfl ?_
 refine Run.false rfl ?_
 refine Run.skip ?_
 refine Run.seq ?_
 refine regionD HM ?_
 refine tk 0 rfl rfl rfl (DetJ.move rfl) ?_
 refine tk 1 rfl rfl rfl (DetJ.fieldAddr F27_3 rfl) ?_
 first | refine RunD.takeF 2 rfl rfl kr T9 rfl pk (by rfl) ?_ | refine RunD.takeO 2 rfl rfl kr T9 rfl pk (by assumption) (by rfl) (by exact fun _ => rfl) ?_
 refine tk 3 rfl rfl rfl (DetJ.fieldAddr F27_6 rfl) ?_
 first | refine RunD.takeF 4 rfl rfl kr T9 rfl pk (by rfl) ?_ | refine RunD.takeO 4 rfl rfl kr T9 rfl pk (by assumption) (by rfl) (by exact fun _ => rfl) ?_
 refine tk 6 rfl rfl rfl (DetJ.fieldAddr F27_2 rfl) ?_
 first | refine RunD.takeF 7 rfl rfl kr T25 rfl pk (by rfl) ?_ | refine RunD.takeO 7 rfl rfl kr T25 rfl pk (by assumption) (by rfl) (by exact fun _ => rfl) ?_
 refine tk 8 rfl rfl rfl (DetJ.fieldAddr F27_3 rfl) ?_
 first | refine RunD.takeF 9 rfl rfl kr T9 rfl pk (by rfl) ?_ | refine RunD.takeO 9 rfl rfl kr T9 rfl pk (by assumption) (by rfl) (by exact fun _ => rfl) ?_
 refine tk 10 rfl rfl rfl (DetJ.fieldAddr F27_6 rfl) ?_
 first | refine RunD.takeF 11 rfl rfl kr T9 rfl pk (by rfl) ?_ | refine RunD.takeO 11 rfl rfl kr T9 rfl pk (by assumption) (by rfl) (by exact fun _ => rfl) ?_
 refine tk 14 rfl rfl rfl (DetJ.move rfl) ?_
 refine RunD.op 5 [true, true, true, true, true, true, true, false, false, false, false, false] rfl rfl rfl kr kr (OpJ.callRet C24 rfl rfl (c_base (stars [own 42 9 wa (withL x.l (⟨0, x.ent, x.book, lastF x.first x.year, 4, bs0, x.who, 0, yla, ylc, yls⟩ : En)).length wc ((withL x.l (⟨0, x.ent, x.book, lastF x.first x.year, 4, bs0, x.who, 0, yla, ylc, yls⟩ : En)).flatMap En.c), own 73 7 yla yls.length ylc (yls.flatMap Ln.c), big (tagH 151) yls, R]) wa wc (withL x.l (⟨0, x.ent, x.book, lastF x.first x.year, 4, bs0, x.who, 0, yla, ylc, yls⟩ : En)) (RdS.inl own.rds) hwb (by rw [List.length_append, List.length_singleton]; have := hs0.l; omega) x.ent x.to) tks ⟨po, ?_⟩)
 refine RunD.op 12 [true, false, false, false, false, false, false] rfl rfl rfl kr kr (OpJ.callRet C24 rfl rfl (c_base (stars [own 42 9 wa (withL x.l (⟨0, x.ent, x.book, lastF x.first x.year, 4, bs0, x.who, 0, yla, ylc, yls⟩ : En)).length wc ((withL x.l (⟨0, x.ent, x.book, lastF x.first x.year, 4, bs0, x.who, 0, yla, ylc, yls⟩ : En)).flatMap En.c), own 73 7 yla yls.length ylc (yls.flatMap Ln.c), big (tagH 151) yls, R]) x.la x.lc x.l (RdS.inr (RdS.inr (RdS.inr (RdS.inl hlr)))) (fun e he => ⟨En.rd_in3 (hle e he).1, (hle e he).2⟩) (by have := hs0.l; omega) x.ent x.to) tks ⟨po, ?_⟩)
 first | refine tk 13 rfl rfl rfl (DetJ.subI rfl rfl (by omega)) ?_ | refine tk 13 rfl rfl rfl (DetJ.sub rfl rfl) ?_
 refine RunD.set (v := I (sumB (resM x.xs x.first x.l x.ent x.year x.book).1)) (congrArg I (by show wr (wr _ - wr _) = _; rw [wr_sub, (empties2 hen hyl (by have := hs0.l; omega) hs0.tot yla ylc).2.2, wr_within (ent_base hen)])) ?_
 refine tk 15 rfl rfl rfl (DetJ.eql rfl rfl) ?_
 refine RunD.set (congrArg Bo (decide_eq_true rfl)) ?_
 refine tk 16 rfl rfl rfl (DetJ.move rfl) ?_
 refine RunD.opG 17 [false, false, false, false] rfl rfl rfl rfl rfl kr kr (OpJ.callRet C12 rfl rfl (c_lives (stars [own 42 9 wa (withL x.l (⟨0, x.ent, x.book, lastF x.first x.year, 4, bs0, x.who, 0, yla, ylc, yls⟩ : En)).length wc ((withL x.l (⟨0, x.ent, x.book, lastF x.first x.year, 4, bs0, x.who, 0, yla, ylc, yls⟩ : En)).flatMap En.c), own 73 7 yla yls.length ylc (yls.flatMap Ln.c), big (tagH 151) yls, R]) m0 (rd_in30 hR0) (rd_in31 hM)) tks ⟨po, ?_⟩)
 refine tk 18 rfl rfl rfl (DetJ.pickT rfl rfl) ?_
 refine tk 19 rfl rfl rfl (DetJ.assign rfl) ?_
 refine kd [2] rfl ?_
 refine Run.ret ?_
 exact ret_unbox (As := [own 42 9 wa (withL x.l (⟨0, x.ent, x.book, lastF x.first x.year, 4, bs0, x.who, 0, yla, ylc, yls⟩ : En)).length wc ((withL x.l (⟨0, x.ent, x.book, lastF x.first x.year, 4, bs0, x.who, 0, yla, ylc, yls⟩ : En)).flatMap En.c), own 73 7 yla yls.length ylc (yls.flatMap Ln.c), big (tagH 151) yls, R]) pk (.tmp rfl .nil) rfl gv
 refine RunL.set (v := Bo true) (by rw [hk]; rfl) ?_
 refine RunL.no rfl rfl rfl rfl ?_
 refine RunL.no rfl rfl rfl rfl ?_
 refine RunL.op rfl rfl (OpJ.pickT rfl rfl ?_)
 refine kp [1, 3, 5, 45] rfl ?_
 refine Run.true rfl ?_
 refine sr ?_
 refine RunL.call C12 rfl rfl rfl (c_lives R m0 hR0 hM) tks ?_
 refine asg rfl rfl ?_
 refine kp [2] rfl ?_
 refine Run.ret ?_
 exact ret_one (.tmp rfl .nil) (rfl) gv
theorem c_sRight (R : HP) (oa : Option Addr) (cap : Nat) (s : List Cl) (hR : RdS R oa (s.flatMap Cl.c)) (hl : s.length ≤ 100000) (hs : IsSheet s) : AC Tryz.prog 59 ⟨[.slice oa s.length cap]⟩ (stars [R]) (Ret (Bo true) [R]) := by
 refine AC.go Tryz.func59 rfl (Nat.le_of_ble_eq_true rfl) fun β => ?_
 refine sr ?_
 refine asg rfl rfl ?_
 refine kp [0] rfl ?_
 refine Run.seq ?_
 refine sr ?_
 refine sx 3 ?_
 refine kp [0, 5, 6, 7] rfl ?_
 refine Run.block ?_
 refine Run.loop (fun mm E L => ∃ i : Nat, mm = s.length - i ∧ i ≤ s.length ∧ E = [(0, .slice oa s.length cap), (5, .slice oa s.length cap), (6, I s.length), (7, I i)] ∧ L = [R]) ⟨_, 0, rfl, Nat.zero_le _, rfl, rfl⟩ ?_
 rintro _ _ _ ⟨i, rfl, hi, rfl, rfl⟩
 refine sr ?_
 refine sx 1 ?_
 refine kp [0, 5, 6, 7, 8] rfl ?_
 refine Run.seq ?_
 first | refine Run.if rfl (fun h1 => ?_) (fun h1 => ?_) | refine Run.cond rfl (fun h1 => ?_) (fun h1 => ?_)
 refine Run.skip ?_
 refine Run.seq ?_
 refine Run.block ?_
 refine sr ?_
 obtain ⟨x, hx⟩ := get_ex (xs := s) (i := i) (by omega)
 have hxm := List.mem_of_getElem? hx
 have hnz := hs.some x hxm
 have hfa : largeB x.amt = false := far_in (hs.fit x hxm).1
 have hfb : largeB x.base = false := far_in (hs.fit x hxm).2
 refine RunL.rdOpen pk hR (flat_ne (k := 7) (fun _ => rfl) (by decide) hx) fun bx ox ebx hrdx => ?_
 rw [ebx]
 refine sx 2 ?_
 refine RunL.op rfl rfl (OpJ.loadA inferInstance rfl pk (hrdx.elem (fun _ => rfl) hx) rfl ?_)
 refine RunL.op rfl rfl (OpJ.alloc Z63 fun b4 => ?_)
 refine asg rfl rfl ?_
 refine RunL.op rfl rfl (OpJ.storeW T63 rfl rfl rfl rfl (by simp [Value.oneCell', Tg.c, Ln.c, En.c, Ac.c, Cl.c, Ky.c, Qy.c, Sb, Iv]) up ?_)
 refine kp [0, 3, 4, 5, 6, 7] rfl ?_
 refine Run.seq ?_
 refine regionD HM ?_
 refine tk 0 rfl rfl rfl (DetJ.fieldAddr F63_1 rfl) ?_
 first | refine RunD.takeF 1 rfl rfl kr T3 rfl pk (by rfl) ?_ | refine RunD.takeO 1 rfl rfl kr T3 rfl pk (by assumption) (by rfl) (by exact fun _ => rfl) ?_
 refine tk 2 rfl rfl rfl (DetJ.eql rfl rfl) ?_
 refine tk 3 rfl rfl rfl (DetJ.move rfl) ?_
 by_cases hz : x.amt = 0
 refine RunD.set (congrArg Bo (decide_eq_true hz)) ?_
 refine RunD.takeG 4 rfl rfl rfl rfl rfl kr (DetJ.fieldAddr F63_2 rfl) .nil ?_
 first | refine RunD.takeGF 5 rfl rfl rfl rfl kr T3 rfl pk (by rfl) ?_ | refine RunD.takeGO 5 rfl rfl rfl rfl kr T3 rfl pk (by assumption) (by rfl) (by exact fun _ => rfl) ?_
 refine RunD.takeG 6 rfl rfl rfl rfl rfl kr (DetJ.eql rfl rfl) .nil ?_
 refine tk 7 rfl rfl rfl (DetJ.pickT rfl rfl) ?_
 refine tk 8 rfl rfl rfl (DetJ.move rfl) ?_
 skip
 refine RunD.set (v := Bo false) (by first | rfl | (congr 1; simp; omega)) ?_
 refine RunD.takeG 9 rfl rfl rfl rfl rfl kr (DetJ.fieldAddr F63_1 rfl) .nil ?_
 first | refine RunD.takeGF 10 rfl rfl rfl rfl kr T3 rfl pk (by rfl) ?_ | refine RunD.takeGO 10 rfl rfl rfl rfl kr T3 rfl pk (by assumption) (by rfl) (by exact fun _ => rfl) ?_
 refine RunD.opG 11 [false, false, false, false, false, true, true, false, false, true, true] rfl rfl rfl rfl rfl kr kr (OpJ.callRet C100 rfl rfl (c_sfar _) .nil ⟨po, ?_⟩)
 refine tk 12 rfl rfl rfl (DetJ.pickF rfl rfl) ?_
 refine tk 13 rfl rfl rfl (DetJ.move rfl) ?_
 skip
 refine RunD.set (v := Bo false) (congrArg Bo hfa) ?_
 refine RunD.takeG 14 rfl rfl rfl rfl rfl kr (DetJ.fieldAddr F63_2 rfl) .nil ?_
 first | refine RunD.takeGF 15 rfl rfl rfl rfl kr T3 rfl pk (by rfl) ?_ | refine RunD.takeGO 15 rfl rfl rfl rfl kr T3 rfl pk (by assumption) (by rfl) (by exact fun _ => rfl) ?_
 refine RunD.opG 16 [false, false, false, false, true, true, true, true] rfl rfl rfl rfl rfl kr kr (OpJ.callRet C100 rfl rfl (c_sfar _) .nil ⟨po, ?_⟩)
 refine tk 17 rfl rfl rfl (DetJ.pickF rfl rfl) ?_
 refine tk 18 rfl rfl rfl (DetJ.move rfl) ?_
 skip
 refine RunD.set (v := Bo false) (congrArg Bo hfb) ?_
 refine RunD.takeG 19 rfl rfl rfl rfl rfl kr (DetJ.move rfl) .nil ?_
 refine RunD.takeG 20 rfl rfl rfl rfl rfl kr (DetJ.gtr rfl rfl) .nil ?_
 refine RunD.takeG 21 rfl rfl rfl rfl rfl kr (DetJ.move rfl) .nil ?_
 by_cases hp : 0 < i
 obtain ⟨j, rfl⟩ : ∃ j, i = j + 1 := ⟨i - 1, by omega⟩
 obtain ⟨y, hy⟩ := get_ex (xs := s) (i := j) (by omega)
 have hlt := sheet_rise hs hy hx
 have hkx : Rd (pt b4 (blk x.c 63)) ⟨b4, 0 + 0, none⟩ x.k.c := Rd.pre (vs := [I x.amt, I x.base]) Rd.whole
 have hkey : Rd R ⟨bx, ox + j * 7 + 0, none⟩ y.k.c := Rd.pre (vs := [I y.amt, I y.base]) (Rd.elem (enc := Cl.c) (k := 7) (fun _ => rfl) hrdx hy)
 refine RunD.set (congrArg Bo (decide_eq_true (by omega))) ?_
 refine RunD.takeG 22 rfl rfl rfl rfl rfl kr (DetJ.move rfl) .nil ?_
 refine RunD.takeG 23 rfl rfl rfl rfl rfl kr (DetJ.move rfl) .nil ?_
 first | refine RunD.takeG 24 rfl rfl rfl rfl rfl kr (DetJ.subI rfl rfl (by omega)) .nil ?_ | refine RunD.takeG 24 rfl rfl rfl rfl rfl kr (DetJ.sub rfl rfl) .nil ?_
 refine RunD.set (v := I (j : Int)) (congrArg I (by omega)) ?_
 refine RunD.takeG 25 rfl rfl rfl rfl rfl kr (DetJ.indexAddr S32 rfl rfl (by omega)) .nil ?_
 refine RunD.takeG 26 rfl rfl rfl rfl rfl kr (DetJ.fieldAddr F63_0 rfl) .nil ?_
 refine RunD.takeGR 27 rfl rfl rfl rfl kr T61 rfl pk hkey rfl ?_
 refine RunD.takeG 28 rfl rfl rfl rfl rfl kr (DetJ.fieldAddr F63_0 rfl) .nil ?_
 refine RunD.takeGR 29 rfl rfl rfl rfl kr T61 rfl pk hkx rfl ?_
 refine RunD.opG 30 [false, false, false, false, false, true, true, true, false, false, false, false, false, true, true, true, true] rfl rfl rfl rfl rfl kr kr (OpJ.callRet C97 rfl rfl (c_Cmp y.k x.k) .nil ⟨po, ?_⟩)
 refine RunD.takeG 31 rfl rfl rfl rfl rfl kr (DetJ.geq rfl rfl) .nil ?_
 refine RunD.takeG 32 rfl rfl rfl rfl rfl kr (DetJ.pickT rfl rfl) .nil ?_
 refine tk 33 rfl rfl rfl (DetJ.pickF rfl rfl) ?_
 skip
 refine RunD.set (v := Bo false) (by first | rfl | (congr 1; simp; omega)) ?_
 refine kd [0, 5, 6, 7, 45] rfl ?_
 refine Run.false rfl ?_
 refine Run.skip ?_
 refine Run.region ?_
 refine sx 2 ?_
 exact RunL.next (Keep.sub (kt (ks := [0, 5, 6, 7]) rfl)) _ ⟨_, by omega, j + 2, rfl, by omega, rfl, rfl⟩ gv
 refine RunD.set (congrArg Bo (decide_eq_false (by omega))) ?_
 refine RunD.takeN 22 rfl rfl rfl rfl rfl kr ?_
 refine RunD.takeN 23 rfl rfl rfl rfl rfl kr ?_
 refine RunD.takeN 24 rfl rfl rfl rfl rfl kr ?_
 refine RunD.takeN 25 rfl rfl rfl rfl rfl kr ?_
 refine RunD.takeN 26 rfl rfl rfl rfl rfl kr ?_
 refine RunD.takeN 27 rfl rfl rfl rfl rfl kr ?_
 refine RunD.takeN 28 rfl rfl rfl rfl rfl kr ?_
 refine RunD.takeN 29 rfl rfl rfl rfl rfl kr ?_
 refine RunD.takeN 30 rfl rfl rfl rfl rfl kr ?_
 refine RunD.takeN 31 rfl rfl rfl rfl rfl kr ?_
 refine RunD.takeG 32 rfl rfl rfl rfl rfl kr (DetJ.pickF rfl rfl) .nil ?_
 refine tk 33 rfl rfl rfl (DetJ.pickF rfl rfl) ?_
 skip
 refine RunD.set (v := Bo false) (by first | rfl | (congr 1; simp; omega)) ?_
 refine kd [0, 5, 6, 7, 45] rfl ?_
 refine Run.false rfl ?_
 refine Run.skip ?_
 refine Run.region ?_
 refine sx 2 ?_
 exact RunL.next (Keep.sub (kt (ks := [0, 5, 6, 7]) rfl)) _ ⟨_, by omega, i + 1, rfl, by omega, rfl, rfl⟩ gv
 refine RunD.set (congrArg Bo (decide_eq_false hz)) ?_
 refine RunD.takeN 4 rfl rfl rfl rfl rfl kr ?_
 refine RunD.takeN 5 rfl rfl rfl rfl rfl kr ?_
 refine RunD.takeN 6 rfl rfl rfl rfl rfl kr ?_
 refine tk 7 rfl rfl rfl (DetJ.pickF rfl rfl) ?_
 refine tk 8 rfl rfl rfl (DetJ.move rfl) ?_
 skip
 refine RunD.set (v := Bo false) (by first | rfl | (congr 1; simp; omega)) ?_
 refine RunD.takeG 9 rfl rfl rfl rfl rfl kr (DetJ.fieldAddr F63_1 rfl) .nil ?_
 first | refine RunD.takeGF 10 rfl rfl rfl rfl kr T3 rfl pk (by rfl) ?_ | refine RunD.takeGO 10 rfl rfl rfl rfl kr T3 rfl pk (by assumption) (by rfl) (by exact fun _ => rfl) ?_
 refine RunD.opG 11 [false, false, false, false, false, true, true, false, false, true, true] rfl rfl rfl rfl rfl kr kr (OpJ.callRet C100 rfl rfl (c_sfar _) .nil ⟨po, ?_⟩)
 refine tk 12 rfl rfl rfl (DetJ.pickF rfl rfl) ?_
 refine tk 13 rfl rfl rfl (DetJ.move rfl) ?_
 skip
 refine RunD.set (v := Bo false) (congrArg Bo hfa) ?_
 refine RunD.takeG 14 rfl rfl rfl rfl rfl kr (DetJ.fieldAddr F63_2 rfl) .nil ?_
 first | refine RunD.takeGF 15 rfl rfl rfl rfl kr T3 rfl pk (by rfl) ?_ | refine RunD.takeGO 15 rfl rfl rfl rfl kr T3 rfl pk (by assumption) (by rfl) (by exact fun _ => rfl) ?_
 refine RunD.opG 16 [false, false, false, false, true, true, true, true] rfl rfl rfl rfl rfl kr kr (OpJ.callRet C100 rfl rfl (c_sfar _) .nil ⟨po, ?_⟩)
 refine tk 17 rfl rfl rfl (DetJ.pickF rfl rfl) ?_
 refine tk 18 rfl rfl rfl (DetJ.move rfl) ?_
 skip
 refine RunD.set (v := Bo false) (congrArg Bo hfb) ?_
 refine RunD.takeG 19 rfl rfl rfl rfl rfl kr (DetJ.move rfl) .nil ?_
 refine RunD.takeG 20 rfl rfl rfl rfl rfl kr (DetJ.gtr rfl rfl) .nil ?_
 refine RunD.takeG 21 rfl rfl rfl rfl rfl kr (DetJ.move rfl) .nil ?_
 by_cases hp : 0 < i
 obtain ⟨j, rfl⟩ : ∃ j, i = j + 1 := ⟨i - 1, by omega⟩
 obtain ⟨y, hy⟩ := get_ex (xs := s) (i := j) (by omega)
 have hlt := sheet_rise hs hy hx
 have hkx : Rd (pt b4 (blk x.c 63)) ⟨b4, 0 + 0, none⟩ x.k.c := Rd.pre (vs := [I x.amt, I x.base]) Rd.whole
 have hkey : Rd R ⟨bx, ox + j * 7 + 0, none⟩ y.k.c := Rd.pre (vs := [I y.amt, I y.base]) (Rd.elem (enc := Cl.c) (k := 7) (fun _ => rfl) hrdx hy)
 refine RunD.set (congrArg Bo (decide_eq_true (by omega))) ?_
 refine RunD.takeG 22 rfl rfl rfl rfl rfl kr (DetJ.move rfl) .nil ?_
 refine RunD.takeG 23 rfl rfl rfl rfl rfl kr (DetJ.move rfl) .nil ?_
 first | refine RunD.takeG 24 rfl rfl rfl rfl rfl kr (DetJ.subI rfl rfl (by omega)) .nil ?_ | refine RunD.takeG 24 rfl rfl rfl rfl rfl kr (DetJ.sub rfl rfl) .nil ?_
 refine RunD.set (v := I (j : Int)) (congrArg I (by omega)) ?_
 refine RunD.takeG 25 rfl rfl rfl rfl rfl kr (DetJ.indexAddr S32 rfl rfl (by omega)) .nil ?_
 refine RunD.takeG 26 rfl rfl rfl rfl rfl kr (DetJ.fieldAddr F63_0 rfl) .nil ?_
 refine RunD.takeGR 27 rfl rfl rfl rfl kr T61 rfl pk hkey rfl ?_
 refine RunD.takeG 28 rfl rfl rfl rfl rfl kr (DetJ.fieldAddr F63_0 rfl) .nil ?_
 refine RunD.takeGR 29 rfl rfl rfl rfl kr T61 rfl pk hkx rfl ?_
 refine RunD.opG 30 [false, false, false, false, false, true, true, true, false, false, false, false, false, true, true, true, true] rfl rfl rfl rfl rfl kr kr (OpJ.callRet C97 rfl rfl (c_Cmp y.k x.k) .nil ⟨po, ?_⟩)
 refine RunD.takeG 31 rfl rfl rfl rfl rfl kr (DetJ.geq rfl rfl) .nil ?_
 refine RunD.takeG 32 rfl rfl rfl rfl rfl kr (DetJ.pickT rfl rfl) .nil ?_
 refine tk 33 rfl rfl rfl (DetJ.pickF rfl rfl) ?_
 skip
 refine RunD.set (v := Bo false) (by first | rfl | (congr 1; simp; omega)) ?_
 refine kd [0, 5, 6, 7, 45] rfl ?_
 refine Run.false rfl ?_
 refine Run.skip ?_
 refine Run.region ?_
 refine sx 2 ?_
 exact RunL.next (Keep.sub (kt (ks := [0, 5, 6, 7]) rfl)) _ ⟨_, by omega, j + 2, rfl, by omega, rfl, rfl⟩ gv
 refine RunD.set (congrArg Bo (decide_eq_false (by omega))) ?_
 refine RunD.takeN 22 rfl rfl rfl rfl rfl kr ?_
 refine RunD.takeN 23 rfl rfl rfl rfl rfl kr ?_
 refine RunD.takeN 24 rfl rfl rfl rfl rfl kr ?_
 refine RunD.takeN 25 rfl rfl rfl rfl rfl kr ?_
 refine RunD.takeN 26 rfl rfl rfl rfl rfl kr ?_
 refine RunD.takeN 27 rfl rfl rfl rfl rfl kr ?_
 refine RunD.takeN 28 rfl rfl rfl rfl rfl kr ?_
 refine RunD.takeN 29 rfl rfl rfl rfl rfl kr ?_
 refine RunD.takeN 30 rfl rfl rfl rfl rfl kr ?_
 refine RunD.takeN 31 rfl rfl rfl rfl rfl kr ?_
 refine RunD.takeG 32 rfl rfl rfl rfl rfl kr (DetJ.pickF rfl rfl) .nil ?_
 refine tk 33 rfl rfl rfl (DetJ.pickF rfl rfl) ?_
 skip
 refine RunD.set (v := Bo false) (by first | rfl | (congr 1; simp; omega)) ?_
 refine kd [0, 5, 6, 7, 45] rfl ?_
 refine Run.false rfl ?_
 refine Run.skip ?_
 refine Run.region ?_
 refine sx 2 ?_
 exact RunL.next (Keep.sub (kt (ks := [0, 5, 6, 7]) rfl)) _ ⟨_, by omega, i + 1, rfl, by omega, rfl, rfl⟩ gv
 refine Run.exit ?_
 refine sr ?_
 refine asg rfl rfl ?_
 refine kp [2] rfl ?_
 refine Run.ret ?_
 exact ret_one (.tmp rfl .nil) (rfl) gv
theorem c_Grow (n : Nat) (hn : n ≤ 100000) : AC Tryz.prog 103 ⟨[.slice none 0 0, I n]⟩ (stars []) (Outs (fun _ : Option Addr × Nat => True) (fun y => .slice y.1 0 y.2) (fun y => [own 63 7 y.1 0 y.2 []])) := by
 refine AC.go Tryz.func103 rfl (Nat.le_of_ble_eq_true rfl) fun β => ?_
 refine sr ?_
 refine asg rfl rfl ?_
 refine kp [0, 1] rfl ?_
 refine Run.seq ?_
 refine sr ?_
 refine sx 2 ?_
 refine RunL.set (congrArg Bo (decide_eq_false (by omega))) ?_
 refine kp [0, 1, 6] rfl ?_
 refine Run.false rfl ?_
 refine Run.skip ?_
 refine Run.seq ?_
 refine sr ?_
 refine sx 2 ?_
 refine RunL.op rfl rfl (OpJ.capS inferInstance rfl ?_)
 refine sx 4 ?_
 refine RunL.set (congrArg I (show _ = (n : Int) by omega)) ?_
 refine asg rfl rfl ?_
 refine kp [0, 1] rfl ?_
 refine sr ?_
 refine sx 2 ?_
 refine kp [0, 1, 16] rfl ?_
 first | refine Run.if rfl (fun h1 => ?_) (fun h1 => ?_) | refine Run.cond rfl (fun h1 => ?_) (fun h1 => ?_)
 refine Run.region ?_
 refine sx 2 ?_
 refine RunL.op rfl rfl (OpJ.capS inferInstance rfl ?_)
 refine RunL.op rfl rfl (OpJ.sliceHi inferInstance rfl rfl (i := 0) (Nat.le_refl _) ?_)
 refine mvo rfl rfl ?_
 refine RunL.op rfl rfl (OpJ.appendZ inferInstance inferInstance (by decide) U3 rfl rfl (by omega) (by omega) (by omega) fun b22 c22 hc22 => ?_)
 refine sx 2 ?_
 refine RunL.op rfl rfl (OpJ.sliceHi inferInstance rfl rfl (i := 0) (Nat.zero_le _) ?_)
 refine asg rfl rfl ?_
 refine kp [0] rfl ?_
 refine sr ?_
 refine sx 2 ?_
 refine kp [4] rfl ?_
 refine Run.ret ?_
 first | exact ret_out (some ⟨b22, 0, none⟩, c22) (.tmp rfl .nil) trivial rfl gv | exact ret_out (none, 0) (.tmp rfl .nil) trivial rfl gv
 refine Run.skip ?_
 refine sr ?_
 refine RunL.ownNil 63 7 ?_
 refine sx 2 ?_
 refine kp [4] rfl ?_
 refine Run.ret ?_
 first | exact ret_out (some ⟨b22, 0, none⟩, c22) (.tmp rfl .nil) trivial rfl gv | exact ret_out (none, 0) (.tmp rfl .nil) trivial rfl gv
theorem c_Concat (R0 A B : HP) (b0 : Nat) (oa ob : Option Addr) (ca cb : Nat) (a b : List Cl) (hR0 : Rd R0 ⟨b0, 0, none⟩ [(.slice oa a.length ca), (.slice ob b.length cb)]) (hA : RdS A oa (a.flatMap Cl.c)) (hB : RdS B ob (b.flatMap Cl.c)) (hla : a.length ≤ 4000) (hlb : b.length ≤ 4000) : AC Tryz.prog 60 ⟨[.slice (some ⟨b0, 0, none⟩) 2 2]⟩ (stars [R0, A, B]) (Outs (fun _ : Option Addr × Nat => True) (fun y => .slice y.1 (a ++ b).length y.2) (fun y => [own 63 7 y.1 (a ++ b).length y.2 ((a ++ b).flatMap Cl.c), R0, A, B])) := by
 have hAB := rd_two hR0
 have q0 : szN a.length b.length 0 = 0 := rfl
 have q1 : szN a.length b.length 1 = a.length := rfl
 have q2 : szN a.length b.length 2 = a.length + b.length := rfl
 have p0 : (cellN a b 0).length = 0 := rfl
 have p1 : (cellN a b 1).length = a.length := rfl
 have p2 : (cellN a b 2).length = a.length + b.length := List.length_append
 refine AC.go Tryz.func60 rfl (Nat.le_of_ble_eq_true rfl) fun β => ?_
 refine sr ?_
 refine asg rfl rfl ?_
 refine kp [0] rfl ?_
 refine sr ?_
 refine asg rfl rfl ?_
 refine kp [0, 3] rfl ?_
 refine Run.seq ?_
 refine sr ?_
 refine sx 3 ?_
 refine kp [0, 3, 9, 10, 11] rfl ?_
 refine Run.block ?_
 refine Run.loop (fun mm E L => ∃ i : Nat, mm = 2 - i ∧ i ≤ 2 ∧ E = [(0, .slice (some ⟨b0, 0, none⟩) 2 2), (3, I (szN a.length b.length i)), (9, .slice (some ⟨b0, 0, none⟩) 2 2), (10, I 2), (11, I i)] ∧ L = [R0, A, B]) ⟨_, 0, rfl, by omega, rfl, rfl⟩ ?_
 rintro _ _ _ ⟨i, rfl, hi, rfl, rfl⟩
 refine sr ?_
 refine sx 1 ?_
 refine kp [0, 3, 9, 10, 11, 12] rfl ?_
 refine Run.seq ?_
 first | refine Run.if rfl (fun h1 => ?_) (fun h1 => ?_) | refine Run.cond rfl (fun h1 => ?_) (fun h1 => ?_)
 refine Run.skip ?_
 refine Run.seq ?_
 refine Run.block ?_
 refine sr ?_
 refine sx 1 ?_
 refine RunL.op rfl rfl (OpJ.load1 inferInstance rfl pk (hAB i (by omega)) ?_)
 rcases (show i = 0 ∨ i = 1 by omega) with rfl | rfl
 skip
 refine asg rfl rfl ?_
 refine kp [0, 3, 5, 9, 10, 11] rfl ?_
 refine sr ?_
 refine sx 5 ?_
 refine kp [0, 3, 9, 10, 11] rfl ?_
 refine sr ?_
 refine sx 2 ?_
 refine RunL.set (congrArg Bo (decide_eq_false (by omega))) ?_
 refine kp [0, 3, 9, 10, 11, 20] rfl ?_
 refine Run.false rfl ?_
 refine Run.skip ?_
 refine Run.region ?_
 refine sx 2 ?_
 rw [show ((szN a.length b.length 0 : Nat) : Int) + a.length = (szN a.length b.length 1 : Nat) by omega]
 exact RunL.next (Keep.sub (kt (ks := [0, 3, 9, 10, 11]) rfl)) _ ⟨_, by omega, 1, rfl, by omega, rfl, rfl⟩ gv
 skip
 refine asg rfl rfl ?_
 refine kp [0, 3, 5, 9, 10, 11] rfl ?_
 refine sr ?_
 refine sx 5 ?_
 refine kp [0, 3, 9, 10, 11] rfl ?_
 refine sr ?_
 refine sx 2 ?_
 refine RunL.set (congrArg Bo (decide_eq_false (by omega))) ?_
 refine kp [0, 3, 9, 10, 11, 20] rfl ?_
 refine Run.false rfl ?_
 refine Run.skip ?_
 refine Run.region ?_
 refine sx 2 ?_
 rw [show ((szN a.length b.length 1 : Nat) : Int) + b.length = (szN a.length b.length 2 : Nat) by omega]
 exact RunL.next (Keep.sub (kt (ks := [0, 3, 9, 10, 11]) rfl)) _ ⟨_, by omega, 2, rfl, by omega, rfl, rfl⟩ gv
 refine Run.exit ?_
 refine sr ?_
 obtain rfl : i = 2 := by omega
 rw [q2]
 refine mvo rfl rfl ?_
 refine RunL.callX C103 rfl rfl rfl (c_Grow (a.length + b.length) (by omega)) tks fun ⟨ga, gc⟩ _ => ?_
 refine asg rfl rfl ?_
 refine kp [0, 6] rfl ?_
 refine Run.seq ?_
 refine sr ?_
 refine sx 3 ?_
 refine kp [6, 25, 26, 27] rfl ?_
 refine Run.block ?_
 refine Run.weak (L' := [own 63 7 ga (cellN a b 0).length gc ((cellN a b 0).flatMap Cl.c), R0, A, B]) (fun _ _ h => h) gv ?_
 refine Run.loop (fun mm E L => ∃ (i : Nat) (ga : Option Addr) (gc : Nat), mm = 2 - i ∧ i ≤ 2 ∧ E = [(6, .slice ga (cellN a b i).length gc), (25, .slice (some ⟨b0, 0, none⟩) 2 2), (26, I 2), (27, I i)] ∧ L = [own 63 7 ga (cellN a b i).length gc ((cellN a b i).flatMap Cl.c), R0, A, B]) ⟨_, 0, ga, gc, rfl, by omega, rfl, rfl⟩ ?_
 rintro _ _ _ ⟨i, ga, gc, rfl, hi, rfl, rfl⟩
 refine sr ?_
 refine sx 1 ?_
 refine kp [6, 25, 26, 27, 28] rfl ?_
 refine Run.seq ?_
 first | refine Run.if rfl (fun h2 => ?_) (fun h2 => ?_) | refine Run.cond rfl (fun h2 => ?_) (fun h2 => ?_)
 refine Run.skip ?_
 refine Run.seq ?_
 refine Run.block ?_
 refine sr ?_
 refine sx 1 ?_
 refine RunL.op rfl rfl (OpJ.load1 inferInstance rfl pk (hAB i (by omega)) ?_)
 rcases (show i = 0 ∨ i = 1 by omega) with rfl | rfl
 skip
 refine asg rfl rfl ?_
 refine kp [6, 8, 25, 26, 27] rfl ?_
 refine Run.region ?_
 refine sx 2 ?_
 refine RunL.op rfl rfl (OpJ.appendAll S32 M63 rfl rfl pk pk hA (flat_len (enc := Cl.c) (k := 7) (fun _ => rfl) _) (by decide) (flat_one cl1 _) (by omega) (by omega) fun a33 c33 => ?_)
 refine asg rfl rfl ?_
 refine kp [6, 25, 26, 27] rfl ?_
 refine Run.region ?_
 refine sx 2 ?_
 rw [show (cellN a b 0).length + a.length = (cellN a b 1).length by omega, show (cellN a b 0).flatMap Cl.c ++ a.flatMap Cl.c = (cellN a b 1).flatMap Cl.c from rfl]
 exact RunL.next (Keep.sub (kt (ks := [6, 25, 26, 27]) rfl)) _ ⟨_, by omega, 1, a33, c33, rfl, by omega, rfl, rfl⟩ gv
 skip
 refine asg rfl rfl ?_
 refine kp [6, 8, 25, 26, 27] rfl ?_
 refine Run.region ?_
 refine sx 2 ?_
 refine RunL.op rfl rfl (OpJ.appendAll S32 M63 rfl rfl pk pk hB (flat_len (enc := Cl.c) (k := 7) (fun _ => rfl) _) (by decide) (flat_one cl1 _) (by omega) (by omega) fun a33 c33 => ?_)
 refine asg rfl rfl ?_
 refine kp [6, 25, 26, 27] rfl ?_
 refine Run.region ?_
 refine sx 2 ?_
 rw [show (cellN a b 1).length + b.length = (cellN a b 2).length by omega, show (cellN a b 1).flatMap Cl.c ++ b.flatMap Cl.c = (cellN a b 2).flatMap Cl.c from List.flatMap_append.symm]
 exact RunL.next (Keep.sub (kt (ks := [6, 25, 26, 27]) rfl)) _ ⟨_, by omega, 2, a33, c33, rfl, by omega, rfl, rfl⟩ gv
 refine Run.exit ?_
 refine sr ?_
 refine sx 2 ?_
 refine kp [2] rfl ?_
 refine Run.ret ?_
 obtain rfl : i = 2 := by omega
 exact ret_out (ga, gc) (.tmp rfl .nil) trivial rfl gv
theorem c_Add (A B : HP) (oa ob : Option Addr) (ca cb : Nat) (a b : List Cl) (hA : RdS A oa (a.flatMap Cl.c)) (hB : RdS B ob (b.flatMap Cl.c)) (hla : a.length ≤ 4000) (hlb : b.length ≤ 4000) (ha : IsSheet a) (hb : IsSheet b) : AC Tryz.prog 27 ⟨[(.slice oa a.length ca), (.slice ob b.length cb)]⟩ (stars [A, B]) (Outs (fun _ : Option Addr × Nat => True) (fun y => .tuple ⟨[.slice y.1 (ofL (a ++ b)).1.length y.2, I (ofL (a ++ b)).2]⟩) (fun y => [own 63 7 y.1 (ofL (a ++ b)).1.length y.2 ((ofL (a ++ b)).1.flatMap Cl.c), A, B])) := by
 refine AC.go Tryz.func27 rfl (Nat.le_of_ble_eq_true rfl) fun β => ?_
 refine sr ?_
 refine sx 2 ?_
 refine kp [0, 1] rfl ?_
 refine Run.seq ?_
 refine sr ?_
 refine mvo rfl rfl ?_
 refine RunL.call C59 rfl rfl rfl (c_sRight A _ _ a hA (by omega) ha) tks ?_
 refine sx 3 ?_
 refine RunL.callG C59 rfl rfl rfl rfl rfl (c_sRight B _ _ b hB (by omega) hb) tks ?_
 refine sx 2 ?_
 refine kp [0, 1, 13] rfl ?_
 refine Run.false rfl ?_
 refine Run.skip ?_
 refine sr ?_
 refine sx 2 ?_
 refine RunL.op rfl rfl (OpJ.buildSliceN (cs := [(.slice oa a.length ca), (.slice ob b.length cb)]) inferInstance Z32 rfl (by decide) (by decide) rfl (by rfl) (by rfl) fun b16 => ?_)
 refine RunL.callX C60 rfl rfl rfl (c_Concat (pt b16 (blk [(.slice oa a.length ca), (.slice ob b.length cb)] 32)) A B b16 oa ob ca cb a b Rd.whole hA hB hla hlb) tks fun ⟨ga, gc⟩ _ => ?_
 refine RunL.callX C52 rfl rfl rfl (c_sOf (own 63 7 ga (a ++ b).length gc ((a ++ b).flatMap Cl.c)) ga gc (a ++ b) own.rds (by rw [List.length_append]; omega) (fun z hz => by rcases List.mem_append.1 hz with h | h; exact fit64 (ha.fit z h); exact fit64 (hb.fit z h))) tks fun ⟨ra, rc⟩ _ => ?_
 refine sx 4 ?_
 refine kp [4, 5] rfl ?_
 refine Run.ret ?_
 exact ret_out (ra, rc) (.tmp rfl (.tmp rfl .nil)) trivial rfl gv
theorem c_lawYears (R : HP) (x : Cs) (m0 : Int) (hR0 : Rd R ⟨0, 0, none⟩ lensC) (hM : Rd R ⟨1, 0, none⟩ [I m0]) (hx : x.rd R) : AC Tryz.prog 9 ⟨[.agg ⟨x.c⟩]⟩ (stars [R]) (Ret (Bo true) [R]) := by
 have hx2 := hx
 obtain ⟨hxr, hxe, hxl, hlr, hle, hls, hll, hiy, hib, hzw⟩ := hx
 refine AC.go Tryz.func9 rfl (Nat.le_of_ble_eq_true rfl) fun β => ?_
 refine sr ?_
 refine RunL.op rfl rfl (OpJ.boxA rfl fun b1 => ?_)
 refine asg rfl rfl ?_
 refine kp [1] rfl ?_
 refine sr ?_
 refine sx 1 ?_
 refine RunL.callX C11 rfl rfl rfl (c_whole x R hx2) tks fun ⟨o, ok⟩ ⟨ho, hfew, hok⟩ => ?_
 dsimp only at ho hfew hok
 refine sx 5 ?_
 refine kp [1, 3, 4] rfl ?_
 refine sr ?_
 refine sx 2 ?_
 refine RunL.op rfl rfl (OpJ.loadP inferInstance rfl pk (by simp [Cs.c]) ?_)
 refine sx 8 ?_
 refine RunL.callX C13 rfl rfl rfl (c_ResO o x.xs ho R _ _ x.l hR0 hlr (fun e he => (hle e he).1) (fun h => by have := (hfew h).l; omega) x.first x.ent x.year x.book) tks fun ⟨sa, sc⟩ _ => ?_
 refine sx 5 ?_
 refine kp [1, 3, 4, 5, 6] rfl ?_
 refine sr ?_
 refine sx 2 ?_
 refine RunL.op rfl rfl (OpJ.loadP inferInstance rfl pk (by simp [Cs.c]) ?_)
 refine sx 9 ?_
 refine RunL.callX C13 rfl rfl rfl (c_ResO o x.xs ho R _ _ x.l hR0 hlr (fun e he => (hle e he).1) (fun h => by have := (hfew h).l; omega) x.first x.ent (wr (x.year - 1)) x.book) tks fun ⟨sq, sv⟩ _ => ?_
 refine sx 5 ?_
 refine kp [1, 3, 4, 5, 6, 7, 8] rfl ?_
 refine Run.seq ?_
 refine sr ?_
 refine sx 3 ?_
 rcases Bool.eq_false_or_eq_true ok with hk | hk
 refine RunL.set (v := Bo false) (by rw [hk]; rfl) ?_
 refine sx 4 ?_
 by_cases h35 : (resX o x.xs x.first x.l x.ent x.year x.book).2 = 0
 refine RunL.set (v := Bo false) (by simp [h35]) ?_
 refine sx 3 ?_
 refine kp [1, 3, 5, 7, 63] rfl ?_
 first | refine Run.if rfl (fun h1 => ?_) (fun h1 => ?_) | refine Run.cond rfl (fun h1 => ?_) (fun h1 => ?_)
 refine sr ?_
 refine RunL.call C12 rfl rfl rfl (c_lives R m0 hR0 hM) tks ?_
 refine asg rfl rfl ?_
 refine kp [2] rfl ?_
 refine Run.ret ?_
 exact ret_one (.tmp rfl .nil) (rfl) gv
 refine Run.skip ?_
 refine sr ?_
 have hse : o.isSome = true := hok hk
 have hr2 := resX_some hse x.xs x.first x.l x.ent x.year x.book
 have hr3 := resX_some hse x.xs x.first x.l x.ent (wr (x.year - 1)) x.book
 rw [hr2, hr3]
 have he0 : (resM x.xs x.first x.l x.ent x.year x.book).2 = 0 := (by rw [← hr2]; exact h35)
 have he1 : (resM x.xs x.first x.l x.ent (wr (x.year - 1)) x.book).2 = 0 := (by rw [← hr3]; first | simpa using h1 | simpa using h2)
 obtain ⟨all, hro⟩ := res_ok2 he0
 have hs0 := hfew hse
 have hyi := year_in hro.yr
 have hw1 : wr (x.year - 1) = x.year - 1 := wrap_i64_in ⟨by omega, by omega⟩
 have hys := years he0 (by rw [← hw1]; exact he1) hs0.tot
 rw [← hw1] at hys
 have hrl : (resM x.xs x.first x.l x.ent x.year x.book).1.length ≤ 100000 := res_len (by have := hs0.l; omega)
 have hrl1 : (resM x.xs x.first x.l x.ent (wr (x.year - 1)) x.book).1.length ≤ 4000 := res_few (by have := hs0.l; omega)
 have hrl2 : (resM x.xs x.first (sinceL x.first x.year x.l) x.ent x.year x.book).1.length ≤ 4000 := res_few (Nat.le_trans (List.length_filter_le ..) (by have := hs0.l; omega))
 refine sx 1 ?_
 refine RunL.op rfl rfl (OpJ.loadP inferInstance rfl pk (by simp [Cs.c]) ?_)
 refine sx 3 ?_
 refine RunL.call C19 rfl rfl rfl (c_Span x.first x.year 1 R hR0) tks ?_
 rw [(span1 hro.cal hro.yr).1, (span1 hro.cal hro.yr).2]
 refine sx 7 ?_
 refine kp [1, 3, 5, 7, 9, 11] rfl ?_
 refine sr ?_
 refine RunL.op rfl rfl (OpJ.buildSlice0 S25 fun b75 => ?_)
 refine asg rfl rfl ?_
 refine kp [1, 3, 5, 7, 9, 11, 12] rfl ?_
 refine Run.seq ?_
 refine sr ?_
 refine asg rfl rfl ?_
 refine kp [1, 3, 5, 7, 9, 11, 12, 13] rfl ?_
 refine Run.block ?_
 refine Run.weak (L' := [own 42 9 (bpt b75) 0 0 [], own 63 7 sq (resM x.xs x.first x.l x.ent (wr (x.year - 1)) x.book).1.length sv ((resM x.xs x.first x.l x.ent (wr (x.year - 1)) x.book).1.flatMap Cl.c), own 63 7 sa (resM x.xs x.first x.l x.ent x.year x.book).1.length sc ((resM x.xs x.first x.l x.ent x.year x.book).1.flatMap Cl.c), chH 110 9 o, pt b1 (blk x.c 27), R]) (fun _ _ h => h) gv ?_
 refine Run.loop (fun mm E L => ∃ (i : Nat) (acc : List En) (ca : Option Addr) (cc : Nat), mm = x.l.length - i ∧ i ≤ x.l.length ∧ acc = (x.l.take i).filter (fun e : En => decide (fisD x.first x.year 0 ≤ e.value)) ∧ E = [(1, .pointer (some ⟨b1, 0, none⟩)), (3, chV o), (5, .slice sa (resM x.xs x.first x.l x.ent x.year x.book).1.length sc), (7, .slice sq (resM x.xs x.first x.l x.ent (wr (x.year - 1)) x.book).1.length sv), (9, I (fisD x.first x.year 0)), (11, I 0), (12, .slice ca acc.length cc), (13, I i)] ∧ L = [own 42 9 ca acc.length cc (acc.flatMap En.c), own 63 7 sq (resM x.xs x.first x.l x.ent (wr (x.year - 1)) x.book).1.length sv ((resM x.xs x.first x.l x.ent (wr (x.year - 1)) x.book).1.flatMap Cl.c), own 63 7 sa (resM x.xs x.first x.l x.ent x.year x.book).1.length sc ((resM x.xs x.first x.l x.ent x.year x.book).1.flatMap Cl.c), chH 110 9 o, pt b1 (blk x.c 27), R]) ⟨_, 0, [], bpt b75, 0, rfl, Nat.zero_le _, rfl, rfl, rfl⟩ ?_
 rintro _ _ _ ⟨i, acc, ca, cc, rfl, hi, hA, rfl, rfl⟩
 refine Run.seq ?_
 refine sr ?_
 refine sx 5 ?_
 refine kp [1, 3, 5, 7, 9, 11, 12, 13, 80] rfl ?_
 first | refine Run.if rfl (fun h2 => ?_) (fun h2 => ?_) | refine Run.cond rfl (fun h2 => ?_) (fun h2 => ?_)
 refine Run.skip ?_
 refine Run.seq ?_
 refine Run.block ?_
 refine sr ?_
 obtain ⟨e, hex⟩ := get_ex (xs := x.l) (i := i) (by omega)
 have hfl := List.length_filter_le (fun e : En => decide (fisD x.first x.year 0 ≤ e.value)) (x.l.take i)
 have hl40 := hs0.l
 rw [List.length_take, ← hA] at hfl
 have hst : ((x.l.take (i + 1)).filter (fun e : En => decide (fisD x.first x.year 0 ≤ e.value))) = (x.l.take i).filter (fun e : En => decide (fisD x.first x.year 0 ≤ e.value)) ++ (if decide (fisD x.first x.year 0 ≤ e.value) = true then [e] else []) := (by rw [take_step hex, List.filter_append]; by_cases hq : fisD x.first x.year 0 ≤ e.value <;> simp [hq])
 refine RunL.rdOpen pk hlr (flat_ne (k := 9) (fun _ => rfl) (by decide) hex) fun bo oo ebo hrd => ?_
 refine sx 2 ?_
 rw [ebo]
 refine sx 3 ?_
 refine RunL.op rfl rfl (OpJ.load1 inferInstance rfl pk (hrd.at (enc := En.c) 9 (fun _ => rfl) hex 3 (I e.value) rfl) ?_)
 refine sx 2 ?_
 refine kp [1, 3, 5, 7, 9, 11, 12, 13, 90] rfl ?_
 first | refine Run.if rfl (fun h3 => ?_) (fun h3 => ?_) | refine Run.cond rfl (fun h3 => ?_) (fun h3 => ?_)
 refine Run.region ?_
 refine sx 3 ?_
 rw [ebo]
 refine sx 2 ?_
 refine RunL.op rfl rfl (OpJ.loadA inferInstance rfl pk (hrd.elem (fun _ => rfl) hex) rfl ?_)
 refine RunL.op rfl rfl (OpJ.buildSlice1 S25 rfl rfl rfl (by decide) (by decide) Z42 rfl fun b97 => ?_)
 refine RunL.op rfl rfl (OpJ.append1 e S25 M42 rfl rfl pk pk rfl rfl (by simp [Value.oneCell', Tg.c, Ln.c, En.c, Ac.c, Cl.c, Ky.c, Qy.c, Sb, Iv, Cs.c]) rfl (by omega) (by omega) fun a98 c98 => ?_)
 refine asg rfl rfl ?_
 refine kp [1, 3, 5, 7, 9, 11, 12, 13] rfl ?_
 refine Run.region ?_
 refine sx 3 ?_
 have hq : decide (fisD x.first x.year 0 ≤ e.value) = true := (by simp; first | assumption | omega)
 rw [if_pos hq] at hst
 exact RunL.next (Keep.sub (kt (ks := [1, 3, 5, 7, 9, 11, 12, 13]) rfl)) _ ⟨_, by omega, i + 1, acc ++ [e], a98, c98, rfl, by omega, (by rw [hst, hA]), rfl, rfl⟩ gv
 refine Run.skip ?_
 refine Run.region ?_
 refine sx 3 ?_
 have hq : ¬ decide (fisD x.first x.year 0 ≤ e.value) = true := (by simp; first | assumption | omega)
 rw [if_neg hq, List.append_nil] at hst
 exact RunL.next (Keep.sub (kt (ks := [1, 3, 5, 7, 9, 11, 12, 13]) rfl)) _ ⟨_, by omega, i + 1, acc, ca, cc, rfl, by omega, (by rw [hst, hA]), rfl, rfl⟩ gv
 refine Run.exit ?_
 refine sr ?_
 obtain rfl : i = x.l.length := by omega
 rw [List.take_length] at hA
 subst hA
 refine RunL.packs [own 42 9 ca (sinceL x.first x.year x.l).length cc ((sinceL x.first x.year x.l).flatMap En.c), R] tks ?_
 refine sx 2 ?_
 refine RunL.op rfl rfl (OpJ.loadP inferInstance rfl pk (by simp [Cs.c]) ?_)
 refine sx 7 ?_
 refine RunL.callX C13 rfl rfl rfl (c_ResO o x.xs ho (stars [own 42 9 ca (sinceL x.first x.year x.l).length cc ((sinceL x.first x.year x.l).flatMap En.c), R]) ca cc (sinceL x.first x.year x.l) (rd_in0 hR0) (RdS.inl own.rds) (fun e he => En.rd_in (hle e (List.mem_filter.1 he).1).1) (fun h => Nat.le_trans (List.length_filter_le ..) (by have := (hfew h).l; omega)) x.first x.ent x.year x.book) tks fun ⟨sb, sd⟩ _ => ?_
 rw [resX_some hse, hys.1]
 refine sx 5 ?_
 refine kp [5, 7, 11, 14, 15] rfl ?_
 refine sr ?_
 refine RunL.unstar (As := [own 42 9 ca (sinceL x.first x.year x.l).length cc ((sinceL x.first x.year x.l).flatMap En.c), R]) pk ?_
 refine sx 2 ?_
 refine RunL.callX C27 rfl rfl rfl (c_Add (own 63 7 sq (resM x.xs x.first x.l x.ent (wr (x.year - 1)) x.book).1.length sv ((resM x.xs x.first x.l x.ent (wr (x.year - 1)) x.book).1.flatMap Cl.c)) (own 63 7 sb (resM x.xs x.first (sinceL x.first x.year x.l) x.ent x.year x.book).1.length sd ((resM x.xs x.first (sinceL x.first x.year x.l) x.ent x.year x.book).1.flatMap Cl.c)) sq sb sv sd (resM x.xs x.first x.l x.ent (wr (x.year - 1)) x.book).1 (resM x.xs x.first (sinceL x.first x.year x.l) x.ent x.year x.book).1 own.rds own.rds hrl1 hrl2 hys.2.1 hys.2.2.1) tks fun ⟨ta, tc⟩ _ => ?_
 rw [show ofL ((resM x.xs x.first x.l x.ent (wr (x.year - 1)) x.book).1 ++ (resM x.xs x.first (sinceL x.first x.year x.l) x.ent x.year x.book).1) = ((resM x.xs x.first x.l x.ent x.year x.book).1, 0) from of_some hys.2.2.2]
 dsimp only
 refine sx 5 ?_
 refine kp [5, 11, 15, 16, 17] rfl ?_
 refine sr ?_
 refine sx 2 ?_
 refine RunL.set (congrArg Bo (decide_eq_true rfl)) ?_
 refine sx 3 ?_
 refine RunL.set (congrArg Bo (decide_eq_true rfl)) ?_
 refine sx 4 ?_
 refine RunL.set (congrArg Bo (decide_eq_true rfl)) ?_
 refine sx 4 ?_
 refine RunL.callG C15 rfl rfl rfl rfl rfl (c_rSame (own 63 7 sa (resM x.xs x.first x.l x.ent x.year x.book).1.length sc ((resM x.xs x.first x.l x.ent x.year x.book).1.flatMap Cl.c)) (own 63 7 ta (resM x.xs x.first x.l x.ent x.year x.book).1.length tc ((resM x.xs x.first x.l x.ent x.year x.book).1.flatMap Cl.c)) sa ta sc tc (resM x.xs x.first x.l x.ent x.year x.book).1 own.rds own.rds (by have := hrl; omega)) tks ?_
 refine sx 2 ?_
 refine RunL.callG C12 rfl rfl rfl rfl rfl (c_lives R m0 hR0 hM) tks ?_
 refine sx 2 ?_
 refine kp [2] rfl ?_
 refine Run.ret ?_
 exact ret_one (.tmp rfl .nil) (rfl) gv
 refine RunL.set (v := Bo true) (by simp [h35]) ?_
 refine sx 3 ?_
 refine kp [1, 3, 5, 7, 63] rfl ?_
 refine Run.true rfl ?_
 refine sr ?_
 refine RunL.call C12 rfl rfl rfl (c_lives R m0 hR0 hM) tks ?_
 refine asg rfl rfl ?_
 refine kp [2] rfl ?_
 refine Run.ret ?_
 exact ret_one (.tmp rfl .nil) (rfl) gv
 refine RunL.set (v := Bo true) (by rw [hk]; rfl) ?_
 refine sx 7 ?_
 refine kp [1, 3, 5, 7, 63] rfl ?_
 refine Run.true rfl ?_
 refine sr ?_
 refine RunL.call C12 rfl rfl rfl (c_lives R m0 hR0 hM) tks ?_
 refine asg rfl rfl ?_
 refine kp [2] rfl ?_
 refine Run.ret ?_
 exact ret_one (.tmp rfl .nil) (rfl) gv
end
end Go.Proofs.YtglaahpagjjmoaaGreatDoor

namespace Go.Proofs.YtglaahpagjjmoaaGreatDoor
open Go Go.SL Go.ChangeShapes Go.WideShapes Go.ChangeAt Go.WideElems Go.RowKit Go.Deep
def whole (W : World) : HP := fun h => h = fun b => W.heap[b]?
section
variable {H : Type} {enc : TypeId × Value → H} {W : World} {held : Bool}
abbrev Sz (t : TypeId) (d : DataW H) : Prop := ∀ n ∈ d.weights Tryz.prog t, n ≤ reachBytes
theorem i64_of {n : Int} (h : (Lit.int .i64 n).wf = true) : i64 n := by
  have h1 : IntKind.i64.min = -9223372036854775808 := by rfl
  have h2 : IntKind.i64.max = 9223372036854775807 := by rfl
  simp only [Lit.wf, Bool.and_eq_true, decide_eq_true_eq] at h
  rw [h1, h2] at h
  exact h
theorem cof3 : Tryz.prog.cellsOf 3 = 1 := by kernel_rfl
theorem cof9 : Tryz.prog.cellsOf 9 = 1 := by kernel_rfl
theorem cof4 : Tryz.prog.cellsOf 4 = 1 := by kernel_rfl
theorem cof151 : Tryz.prog.cellsOf 151 = 2 := by kernel_rfl
theorem cof73 : Tryz.prog.cellsOf 73 = 7 := by kernel_rfl
theorem cof42 : Tryz.prog.cellsOf 42 = 9 := by kernel_rfl
theorem cof57 : Tryz.prog.cellsOf 57 = 8 := by kernel_rfl
theorem cof24 : Tryz.prog.cellsOf 24 = 1 := by kernel_rfl
theorem cof27 : Tryz.prog.cellsOf 27 = 8 := by kernel_rfl
theorem cof71 : Tryz.prog.cellsOf 71 = 1 := by kernel_rfl
theorem cof40 : Tryz.prog.cellsOf 40 = 1 := by kernel_rfl
theorem cof25 : Tryz.prog.cellsOf 25 = 1 := by kernel_rfl
theorem cof22 : Tryz.prog.cellsOf 22 = 1 := by kernel_rfl
theorem cof55 : Tryz.prog.cellsOf 55 = 1 := by kernel_rfl
theorem int_at {fuel : Nat} {cs : List Value} {x : DataW H × List MemPlace} (h : DataW.trod enc Tryz.prog W 0 (fun _ => true) held fuel 3 cs = some x) : ∃ n, cs = [I n] ∧ i64 n := by
  obtain ⟨n, h1, _, h2⟩ := DataW.trod_int Tryz.underlying3 h
  exact ⟨n, h1, i64_of h2⟩
theorem bool_at {fuel : Nat} {cs : List Value} {x : DataW H × List MemPlace} (h : DataW.trod enc Tryz.prog W 0 (fun _ => true) held fuel 4 cs = some x) : ∃ b, cs = [Bo b] := by
  obtain ⟨b, h1, _⟩ := DataW.trod_bool Tryz.underlying4 h
  exact ⟨b, h1⟩
theorem str_at {fuel : Nat} {cs : List Value} {x : DataW H × List MemPlace} (h : DataW.trod enc Tryz.prog W 0 (fun _ => true) held fuel 9 cs = some x) : ∃ s, cs = [St s] ∧ (s.size : Int) ≤ 9223372036854775807 := by
  obtain ⟨s, h1, _, hs⟩ := DataW.trod_string Tryz.underlying9 h
  have hmax : (maxLen : Nat) ≤ 9223372036854775807 := by decide
  exact ⟨s, h1, by omega⟩
theorem name_at {fuel : Nat} {cs : List Value} {x : DataW H × List MemPlace} (h : DataW.trod enc Tryz.prog W 0 (fun _ => true) held fuel 9 cs = some x) (_ : Sz 9 x.1) : ∃ s, cs = Sb s ∧ szS s := by
  obtain ⟨s, h1, h2⟩ := str_at h
  exact ⟨s, h1, h2⟩
theorem cal_of {fuel : Nat} {cs : List Value} {x : DataW H × List MemPlace} (h : DataW.trod enc Tryz.prog W 0 (fun _ => true) held fuel 24 cs = some x) (_ : Sz 24 x.1) : ∃ n : Int, cs = [I n] := by
  obtain ⟨xs, n, _, _, hl, hxl, hf⟩ := DataW.trod_struct Tryz.underlying24 h
  rw [cof24] at hl
  have f0 : DataW.trod enc Tryz.prog W 0 (fun _ => true) held n 3 ((cs.drop 0).take (Tryz.prog.cellsOf 3)) = xs[0]? := hf 0 _ rfl
  rw [cof3] at f0
  have hsz : xs.length = 1 := hxl
  obtain ⟨y0, e0⟩ : ∃ y, xs[0]? = some y := ⟨_, List.getElem?_eq_getElem (by omega)⟩
  obtain ⟨n0, h0, _⟩ := int_at (f0.trans e0)
  match cs, hl with
  | [c0], _ =>
    simp at h0
    exact ⟨n0, by rw [h0]⟩
theorem weightsAll_mem {P : Program} {e : TypeId} {n : Nat} : ∀ {ds : List (DataW H)} {d : DataW H}, d ∈ ds → n ∈ d.weights P e → n ∈ DataW.weightsAll P e ds
  | [], _, h, _ => by cases h
  | c :: r, d, h, hn => by
    simp only [DataW.weightsAll, List.mem_append]
    rcases List.mem_cons.1 h with rfl | h
    · exact .inl hn
    · exact .inr (weightsAll_mem h hn)
theorem fld {t : TypeId} {fs : Array Field} (U : Tryz.prog.underlying t = some (.struct fs)) {fuel : Nat} {cs : List Value} {x : DataW H × List MemPlace} (h : DataW.trod enc Tryz.prog W 0 (fun _ => true) held fuel t cs = some x) (hz : Sz t x.1) :
    ∃ n, cs.length = Tryz.prog.cellsOf t ∧ ∀ (i : Nat) (f : Field), fs[i]? = some f → ∃ y, DataW.trod enc Tryz.prog W 0 (fun _ => true) held n f.type ((cs.drop f.offset).take (Tryz.prog.cellsOf f.type)) = some y ∧ Sz f.type y.1 := by
  obtain ⟨xs, n, _, rfl, hl, hxl, hf⟩ := DataW.trod_struct U h
  refine ⟨n, hl, fun i f hi => ?_⟩
  have hil := (Array.getElem?_eq_some_iff.1 hi).1
  obtain ⟨y, hy⟩ : ∃ y, xs[i]? = some y := ⟨_, List.getElem?_eq_getElem (by omega)⟩
  refine ⟨y, (hf i f hi).trans hy, fun k hk => hz k ?_⟩
  simp only [DataW.weights, U]
  exact DataW.weights_mem_each (j := i) (t := f.type) (d := y.1) (by rw [List.getElem?_map, Array.getElem?_toList, hi]; rfl) (by rw [List.getElem?_map, hy]; rfl) k hk
theorem add_add' (a : Addr) (x y : Nat) : (a.add x).add y = a.add (x + y) := by
  unfold Addr.add
  by_cases hx : x = 0
  · subst hx; simp
  · by_cases hy : y = 0
    · subst hy; simp
    · have : x + y ≠ 0 := by omega
      simp [hx, hy, Nat.add_assoc]
theorem cells_at {a : Addr} {n : Nat} {cs : List Value} (h : W.cells? 0 a n = some cs) : ∀ j v, cs[j]? = some v → W.cell? (a.add j) = some v := fun j v hj => by
  unfold World.cells? at h
  rw [if_pos (Nat.zero_le _)] at h
  have hl := mapM_some_length h
  have hjl := (List.getElem?_eq_some_iff.1 hj).1
  rw [List.length_range] at hl
  have := mapM_some_get h j j (List.getElem?_range (by omega))
  rw [this]; exact hj
theorem whole_rds {a : Addr} {cs : List Value} (h : ∀ j v, cs[j]? = some v → W.cell? (a.add j) = some v) : RdS (whole W) (some a) cs := by
  cases cs with
  | nil => exact RdS.nil
  | cons v0 r =>
    have c0 := h 0 v0 rfl
    obtain ⟨b, o, spot⟩ := a
    have hspot : spot = none := by
      unfold World.cell? at c0
      split at c0
      · split at c0
        · cases c0
        · rename_i hs
          cases spot with
          | none => rfl
          | some s => simp [Addr.add] at hs
      · cases c0
    subst hspot
    have c0' := c0
    unfold World.cell? at c0'
    rw [show ((⟨b, o, none⟩ : Addr).add 0).block = b by rw [Addr.add_eq rfl]] at c0'
    split at c0'
    · rename_i c t fr hh
      intro hp hr
      refine .inr ⟨b, o, rfl, c, t, fr, by rw [hr]; exact hh, fun j v hj => ?_⟩
      have := h j v hj
      rw [Addr.add_eq rfl] at this
      simpa only [World.cell?, hh, Option.isSome_none, Bool.false_eq_true, if_false] using this
    · cases c0'
theorem slice_of {α : Type} {ec : α → List Value} {k : Nat} {Pα : α → Prop} {T ET : TypeId} (U : Tryz.prog.underlying T = some (.slice ET)) (ck : Tryz.prog.cellsOf ET = k) (hk : ∀ x, (ec x).length = k) (k0 : 0 < k) (bb : 1 ≤ Tryz.prog.bytesOf ET)
    (hr : ∀ {fuel : Nat} {cs : List Value} {x : DataW H × List MemPlace}, DataW.trod enc Tryz.prog W 0 (fun _ => true) held fuel ET cs = some x → Sz ET x.1 → ∃ m : α, cs = ec m ∧ Pα m)
    {fuel : Nat} {cs : List Value} {x : DataW H × List MemPlace} (h : DataW.trod enc Tryz.prog W 0 (fun _ => true) held fuel T cs = some x) (hz : Sz T x.1) :
    ∃ (oa : Option Addr) (cap : Nat) (ms : List α), cs = [.slice oa ms.length cap] ∧ (∀ m ∈ ms, Pα m) ∧ ms.length ≤ 140737488355328 ∧ RdS (whole W) oa (ms.flatMap ec) := by
  rcases open_slice U h with ⟨rfl, _⟩ | ⟨a, len, cap, m, n, D, Pl, rfl, _, hlc, hcm, hm, rfl, hel⟩
  · exact ⟨none, 0, [], rfl, (fun m hm => by cases hm), Nat.zero_le _, RdS.nil⟩
  · simp only [if_true] at hm
    subst hm
    have hw : ∀ i, i < len → Sz ET (D i) := fun i hi k hk => hz k (by
      simp only [DataW.weights, U, List.mem_cons, List.mem_append]
      exact .inr (.inl (weightsAll_mem (List.mem_map_of_mem (List.mem_range.2 hi)) hk)))
    have hlen : len ≤ 140737488355328 := by
      have h1 := hz ((((List.range len).map D).length + ((List.range (m - len)).map fun j => D (len + j)).length) * Tryz.prog.bytesOf ET) (by simp only [DataW.weights, U, List.mem_cons, true_or])
      rw [List.length_map, List.length_map, List.length_range, List.length_range] at h1
      have h2 := reachBytes_lt
      have h3 : (len + (m - len)) * 1 ≤ (len + (m - len)) * Tryz.prog.bytesOf ET := Nat.mul_le_mul_left _ bb
      omega
    have key : ∀ i : Fin len, ∃ mv : α, W.cells? 0 (a.add (i * k)) k = some (ec mv) ∧ Pα mv := fun i => by
      obtain ⟨cs', hc, ht⟩ := hel i (by omega)
      rw [ck] at hc
      obtain ⟨mv, rfl, hp⟩ := hr ht (hw i i.2)
      exact ⟨mv, hc, hp⟩
    let f : Fin len → α := fun i => Classical.choose (key i)
    have hfs : ∀ i : Fin len, W.cells? 0 (a.add (i * k)) k = some (ec (f i)) ∧ Pα (f i) := fun i => Classical.choose_spec (key i)
    refine ⟨some a, m, List.ofFn f, by rw [List.length_ofFn], fun mv hmv => ?_, by rw [List.length_ofFn]; exact hlen, whole_rds fun j v hj => ?_⟩
    · obtain ⟨i, rfl⟩ := List.mem_ofFn.1 hmv
      exact (hfs i).2
    · have hjl := (List.getElem?_eq_some_iff.1 hj).1
      rw [flat_len (enc := ec) (k := k) hk, List.length_ofFn] at hjl
      have hi : j / k < len := Nat.div_lt_of_lt_mul (by rw [Nat.mul_comm]; exact hjl)
      have hx : (List.ofFn f)[j / k]? = some (f ⟨j / k, hi⟩) := by rw [List.getElem?_ofFn]; simp [hi]
      have hmod : j % k < k := Nat.mod_lt _ k0
      obtain ⟨v', hv'⟩ : ∃ v', (ec (f ⟨j / k, hi⟩))[j % k]? = some v' := ⟨_, List.getElem?_eq_getElem (by rw [hk]; exact hmod)⟩
      have := flat_get (enc := ec) (k := k) hk _ _ _ hx _ _ hv'
      have hdm : j / k * k + j % k = j := by rw [Nat.mul_comm]; exact Nat.div_add_mod j k
      rw [hdm, hj] at this
      cases this
      have hc := cells_at (hfs ⟨j / k, hi⟩).1 _ _ hv'
      rw [← hc]
      show _ = W.cell? ((a.add (j / k * k)).add (j % k))
      rw [add_add', hdm]
theorem tag_of {fuel : Nat} {cs : List Value} {x : DataW H × List MemPlace} (h : DataW.trod enc Tryz.prog W 0 (fun _ => true) held fuel 151 cs = some x) (hz : Sz 151 x.1) : ∃ m : Tg, cs = m.c ∧ szS m.name ∧ szS m.value := by
  obtain ⟨n, hl, hf⟩ := fld Tryz.underlying151 h hz
  rw [cof151] at hl
  have f0 : ∃ y, DataW.trod enc Tryz.prog W 0 (fun _ => true) held n 9 ((cs.drop 0).take (Tryz.prog.cellsOf 9)) = some y ∧ Sz 9 y.1 := hf 0 _ rfl
  rw [cof9] at f0
  obtain ⟨y0, e0, z0⟩ := f0
  obtain ⟨v0, h0, w0⟩ := str_at e0
  have f1 : ∃ y, DataW.trod enc Tryz.prog W 0 (fun _ => true) held n 9 ((cs.drop 1).take (Tryz.prog.cellsOf 9)) = some y ∧ Sz 9 y.1 := hf 1 _ rfl
  rw [cof9] at f1
  obtain ⟨y1, e1, z1⟩ := f1
  obtain ⟨v1, h1, w1⟩ := str_at e1
  clear hf
  match cs, hl with
  | [c0, c1], _ =>
    simp at h0 h1
    subst h0 h1
    exact ⟨⟨v0, v1⟩, rfl, w0, w1⟩
theorem line_of {fuel : Nat} {cs : List Value} {x : DataW H × List MemPlace} (h : DataW.trod enc Tryz.prog W 0 (fun _ => true) held fuel 73 cs = some x) (hz : Sz 73 x.1) : ∃ m : Ln, cs = m.c ∧ m.rd (whole W) ∧ m.sz := by
  obtain ⟨n, hl, hf⟩ := fld Tryz.underlying73 h hz
  rw [cof73] at hl
  have f0 : ∃ y, DataW.trod enc Tryz.prog W 0 (fun _ => true) held n 9 ((cs.drop 0).take (Tryz.prog.cellsOf 9)) = some y ∧ Sz 9 y.1 := hf 0 _ rfl
  rw [cof9] at f0
  obtain ⟨y0, e0, z0⟩ := f0
  obtain ⟨v0, h0, w0⟩ := str_at e0
  have f1 : ∃ y, DataW.trod enc Tryz.prog W 0 (fun _ => true) held n 9 ((cs.drop 1).take (Tryz.prog.cellsOf 9)) = some y ∧ Sz 9 y.1 := hf 1 _ rfl
  rw [cof9] at f1
  obtain ⟨y1, e1, z1⟩ := f1
  obtain ⟨v1, h1, w1⟩ := str_at e1
  have f2 : ∃ y, DataW.trod enc Tryz.prog W 0 (fun _ => true) held n 3 ((cs.drop 2).take (Tryz.prog.cellsOf 3)) = some y ∧ Sz 3 y.1 := hf 2 _ rfl
  rw [cof3] at f2
  obtain ⟨y2, e2, z2⟩ := f2
  obtain ⟨v2, h2, w2⟩ := int_at e2
  have f3 : ∃ y, DataW.trod enc Tryz.prog W 0 (fun _ => true) held n 3 ((cs.drop 3).take (Tryz.prog.cellsOf 3)) = some y ∧ Sz 3 y.1 := hf 3 _ rfl
  rw [cof3] at f3
  obtain ⟨y3, e3, z3⟩ := f3
  obtain ⟨v3, h3, w3⟩ := int_at e3
  have f4 : ∃ y, DataW.trod enc Tryz.prog W 0 (fun _ => true) held n 9 ((cs.drop 4).take (Tryz.prog.cellsOf 9)) = some y ∧ Sz 9 y.1 := hf 4 _ rfl
  rw [cof9] at f4
  obtain ⟨y4, e4, z4⟩ := f4
  obtain ⟨v4, h4, w4⟩ := str_at e4
  have f5 : ∃ y, DataW.trod enc Tryz.prog W 0 (fun _ => true) held n 9 ((cs.drop 5).take (Tryz.prog.cellsOf 9)) = some y ∧ Sz 9 y.1 := hf 5 _ rfl
  rw [cof9] at f5
  obtain ⟨y5, e5, z5⟩ := f5
  obtain ⟨v5, h5, w5⟩ := str_at e5
  have f6 : ∃ y, DataW.trod enc Tryz.prog W 0 (fun _ => true) held n 71 ((cs.drop 6).take (Tryz.prog.cellsOf 71)) = some y ∧ Sz 71 y.1 := hf 6 _ rfl
  rw [cof71] at f6
  obtain ⟨y6, e6, z6⟩ := f6
  obtain ⟨oa6, cap6, v6, h6, p6, w6, r6⟩ := slice_of (ec := Tg.c) (k := 2) Tryz.underlying71 cof151 (fun _ => rfl) (by decide) (by decide +kernel) (fun h z => tag_of h z) e6 z6
  clear hf
  match cs, hl with
  | [c0, c1, c2, c3, c4, c5, c6], _ =>
    simp at h0 h1 h2 h3 h4 h5 h6
    subst h0 h1 h2 h3 h4 h5 h6
    exact ⟨⟨v0, v1, v2, v3, v4, v5, oa6, cap6, v6⟩, rfl, ⟨r6, w1, w2, w3⟩, w0, w1, w4, w5, p6, w6⟩
theorem entry_of {fuel : Nat} {cs : List Value} {x : DataW H × List MemPlace} (h : DataW.trod enc Tryz.prog W 0 (fun _ => true) held fuel 42 cs = some x) (hz : Sz 42 x.1) : ∃ m : En, cs = m.c ∧ m.rd (whole W) ∧ m.lines.length ≤ 140737488355328 ∧ m.sz := by
  obtain ⟨n, hl, hf⟩ := fld Tryz.underlying42 h hz
  rw [cof42] at hl
  have f0 : ∃ y, DataW.trod enc Tryz.prog W 0 (fun _ => true) held n 3 ((cs.drop 0).take (Tryz.prog.cellsOf 3)) = some y ∧ Sz 3 y.1 := hf 0 _ rfl
  rw [cof3] at f0
  obtain ⟨y0, e0, z0⟩ := f0
  obtain ⟨v0, h0, w0⟩ := int_at e0
  have f1 : ∃ y, DataW.trod enc Tryz.prog W 0 (fun _ => true) held n 9 ((cs.drop 1).take (Tryz.prog.cellsOf 9)) = some y ∧ Sz 9 y.1 := hf 1 _ rfl
  rw [cof9] at f1
  obtain ⟨y1, e1, z1⟩ := f1
  obtain ⟨v1, h1, w1⟩ := str_at e1
  have f2 : ∃ y, DataW.trod enc Tryz.prog W 0 (fun _ => true) held n 3 ((cs.drop 2).take (Tryz.prog.cellsOf 3)) = some y ∧ Sz 3 y.1 := hf 2 _ rfl
  rw [cof3] at f2
  obtain ⟨y2, e2, z2⟩ := f2
  obtain ⟨v2, h2, w2⟩ := int_at e2
  have f3 : ∃ y, DataW.trod enc Tryz.prog W 0 (fun _ => true) held n 3 ((cs.drop 3).take (Tryz.prog.cellsOf 3)) = some y ∧ Sz 3 y.1 := hf 3 _ rfl
  rw [cof3] at f3
  obtain ⟨y3, e3, z3⟩ := f3
  obtain ⟨v3, h3, w3⟩ := int_at e3
  have f4 : ∃ y, DataW.trod enc Tryz.prog W 0 (fun _ => true) held n 3 ((cs.drop 4).take (Tryz.prog.cellsOf 3)) = some y ∧ Sz 3 y.1 := hf 4 _ rfl
  rw [cof3] at f4
  obtain ⟨y4, e4, z4⟩ := f4
  obtain ⟨v4, h4, w4⟩ := int_at e4
  have f5 : ∃ y, DataW.trod enc Tryz.prog W 0 (fun _ => true) held n 9 ((cs.drop 5).take (Tryz.prog.cellsOf 9)) = some y ∧ Sz 9 y.1 := hf 5 _ rfl
  rw [cof9] at f5
  obtain ⟨y5, e5, z5⟩ := f5
  obtain ⟨v5, h5, w5⟩ := str_at e5
  have f6 : ∃ y, DataW.trod enc Tryz.prog W 0 (fun _ => true) held n 9 ((cs.drop 6).take (Tryz.prog.cellsOf 9)) = some y ∧ Sz 9 y.1 := hf 6 _ rfl
  rw [cof9] at f6
  obtain ⟨y6, e6, z6⟩ := f6
  obtain ⟨v6, h6, w6⟩ := str_at e6
  have f7 : ∃ y, DataW.trod enc Tryz.prog W 0 (fun _ => true) held n 3 ((cs.drop 7).take (Tryz.prog.cellsOf 3)) = some y ∧ Sz 3 y.1 := hf 7 _ rfl
  rw [cof3] at f7
  obtain ⟨y7, e7, z7⟩ := f7
  obtain ⟨v7, h7, w7⟩ := int_at e7
  have f8 : ∃ y, DataW.trod enc Tryz.prog W 0 (fun _ => true) held n 40 ((cs.drop 8).take (Tryz.prog.cellsOf 40)) = some y ∧ Sz 40 y.1 := hf 8 _ rfl
  rw [cof40] at f8
  obtain ⟨y8, e8, z8⟩ := f8
  obtain ⟨oa8, cap8, v8, h8, p8, w8, r8⟩ := slice_of (ec := Ln.c) (k := 7) Tryz.underlying40 cof73 (fun _ => rfl) (by decide) (by decide +kernel) (fun h z => line_of h z) e8 z8
  clear hf
  match cs, hl with
  | [c0, c1, c2, c3, c4, c5, c6, c7, c8], _ =>
    simp at h0 h1 h2 h3 h4 h5 h6 h7 h8
    subst h0 h1 h2 h3 h4 h5 h6 h7 h8
    exact ⟨⟨v0, v1, v2, v3, v4, v5, v6, v7, oa8, cap8, v8⟩, rfl, ⟨r8, fun y hy => (p8 y hy).1⟩, w8, w1, w5, w6, fun y hy => (p8 y hy).2⟩
theorem acct_of {fuel : Nat} {cs : List Value} {x : DataW H × List MemPlace} (h : DataW.trod enc Tryz.prog W 0 (fun _ => true) held fuel 57 cs = some x) (hz : Sz 57 x.1) : ∃ m : Ac, cs = m.c ∧ m.rd (whole W) ∧ m.sz := by
  obtain ⟨n, hl, hf⟩ := fld Tryz.underlying57 h hz
  rw [cof57] at hl
  have f0 : ∃ y, DataW.trod enc Tryz.prog W 0 (fun _ => true) held n 9 ((cs.drop 0).take (Tryz.prog.cellsOf 9)) = some y ∧ Sz 9 y.1 := hf 0 _ rfl
  rw [cof9] at f0
  obtain ⟨y0, e0, z0⟩ := f0
  obtain ⟨v0, h0, w0⟩ := str_at e0
  have f1 : ∃ y, DataW.trod enc Tryz.prog W 0 (fun _ => true) held n 9 ((cs.drop 1).take (Tryz.prog.cellsOf 9)) = some y ∧ Sz 9 y.1 := hf 1 _ rfl
  rw [cof9] at f1
  obtain ⟨y1, e1, z1⟩ := f1
  obtain ⟨v1, h1, w1⟩ := str_at e1
  have f2 : ∃ y, DataW.trod enc Tryz.prog W 0 (fun _ => true) held n 3 ((cs.drop 2).take (Tryz.prog.cellsOf 3)) = some y ∧ Sz 3 y.1 := hf 2 _ rfl
  rw [cof3] at f2
  obtain ⟨y2, e2, z2⟩ := f2
  obtain ⟨v2, h2, w2⟩ := int_at e2
  have f3 : ∃ y, DataW.trod enc Tryz.prog W 0 (fun _ => true) held n 4 ((cs.drop 3).take (Tryz.prog.cellsOf 4)) = some y ∧ Sz 4 y.1 := hf 3 _ rfl
  rw [cof4] at f3
  obtain ⟨y3, e3, z3⟩ := f3
  obtain ⟨v3, h3⟩ := bool_at e3
  have f4 : ∃ y, DataW.trod enc Tryz.prog W 0 (fun _ => true) held n 9 ((cs.drop 4).take (Tryz.prog.cellsOf 9)) = some y ∧ Sz 9 y.1 := hf 4 _ rfl
  rw [cof9] at f4
  obtain ⟨y4, e4, z4⟩ := f4
  obtain ⟨v4, h4, w4⟩ := str_at e4
  have f5 : ∃ y, DataW.trod enc Tryz.prog W 0 (fun _ => true) held n 4 ((cs.drop 5).take (Tryz.prog.cellsOf 4)) = some y ∧ Sz 4 y.1 := hf 5 _ rfl
  rw [cof4] at f5
  obtain ⟨y5, e5, z5⟩ := f5
  obtain ⟨v5, h5⟩ := bool_at e5
  have f6 : ∃ y, DataW.trod enc Tryz.prog W 0 (fun _ => true) held n 4 ((cs.drop 6).take (Tryz.prog.cellsOf 4)) = some y ∧ Sz 4 y.1 := hf 6 _ rfl
  rw [cof4] at f6
  obtain ⟨y6, e6, z6⟩ := f6
  obtain ⟨v6, h6⟩ := bool_at e6
  have f7 : ∃ y, DataW.trod enc Tryz.prog W 0 (fun _ => true) held n 55 ((cs.drop 7).take (Tryz.prog.cellsOf 55)) = some y ∧ Sz 55 y.1 := hf 7 _ rfl
  rw [cof55] at f7
  obtain ⟨y7, e7, z7⟩ := f7
  obtain ⟨oa7, cap7, v7, h7, p7, w7, r7⟩ := slice_of (ec := Sb) (k := 1) Tryz.underlying55 cof9 (fun _ => rfl) (by decide) (by decide +kernel) (fun h z => name_at h z) e7 z7
  clear hf
  match cs, hl with
  | [c0, c1, c2, c3, c4, c5, c6, c7], _ =>
    simp at h0 h1 h2 h3 h4 h5 h6 h7
    subst h0 h1 h2 h3 h4 h5 h6 h7
    exact ⟨⟨v0, v1, v2, v3, v4, v5, v6, oa7, cap7, v7⟩, rfl, ⟨r7, w7, w4⟩, w0, w1, w4, p7⟩
theorem case_of {fuel : Nat} {cs : List Value} {x : DataW H × List MemPlace} (h : DataW.trod enc Tryz.prog W 0 (fun _ => true) held fuel 27 cs = some x) (hz : Sz 27 x.1) : ∃ m : Cs, cs = m.c ∧ m.rd (whole W) := by
  obtain ⟨n, hl, hf⟩ := fld Tryz.underlying27 h hz
  rw [cof27] at hl
  have f0 : ∃ y, DataW.trod enc Tryz.prog W 0 (fun _ => true) held n 22 ((cs.drop 0).take (Tryz.prog.cellsOf 22)) = some y ∧ Sz 22 y.1 := hf 0 _ rfl
  rw [cof22] at f0
  obtain ⟨y0, e0, z0⟩ := f0
  obtain ⟨oa0, cap0, v0, h0, p0, w0, r0⟩ := slice_of (ec := Ac.c) (k := 8) Tryz.underlying22 cof57 (fun _ => rfl) (by decide) (by decide +kernel) (fun h z => acct_of h z) e0 z0
  have f1 : ∃ y, DataW.trod enc Tryz.prog W 0 (fun _ => true) held n 24 ((cs.drop 1).take (Tryz.prog.cellsOf 24)) = some y ∧ Sz 24 y.1 := hf 1 _ rfl
  rw [cof24] at f1
  obtain ⟨y1, e1, z1⟩ := f1
  obtain ⟨v1, h1⟩ := cal_of e1 z1
  have f2 : ∃ y, DataW.trod enc Tryz.prog W 0 (fun _ => true) held n 25 ((cs.drop 2).take (Tryz.prog.cellsOf 25)) = some y ∧ Sz 25 y.1 := hf 2 _ rfl
  rw [cof25] at f2
  obtain ⟨y2, e2, z2⟩ := f2
  obtain ⟨oa2, cap2, v2, h2, p2, w2, r2⟩ := slice_of (ec := En.c) (k := 9) Tryz.underlying25 cof42 (fun _ => rfl) (by decide) (by decide +kernel) (fun h z => entry_of h z) e2 z2
  have f3 : ∃ y, DataW.trod enc Tryz.prog W 0 (fun _ => true) held n 9 ((cs.drop 3).take (Tryz.prog.cellsOf 9)) = some y ∧ Sz 9 y.1 := hf 3 _ rfl
  rw [cof9] at f3
  obtain ⟨y3, e3, z3⟩ := f3
  obtain ⟨v3, h3, w3⟩ := str_at e3
  have f4 : ∃ y, DataW.trod enc Tryz.prog W 0 (fun _ => true) held n 3 ((cs.drop 4).take (Tryz.prog.cellsOf 3)) = some y ∧ Sz 3 y.1 := hf 4 _ rfl
  rw [cof3] at f4
  obtain ⟨y4, e4, z4⟩ := f4
  obtain ⟨v4, h4, w4⟩ := int_at e4
  have f5 : ∃ y, DataW.trod enc Tryz.prog W 0 (fun _ => true) held n 3 ((cs.drop 5).take (Tryz.prog.cellsOf 3)) = some y ∧ Sz 3 y.1 := hf 5 _ rfl
  rw [cof3] at f5
  obtain ⟨y5, e5, z5⟩ := f5
  obtain ⟨v5, h5, w5⟩ := int_at e5
  have f6 : ∃ y, DataW.trod enc Tryz.prog W 0 (fun _ => true) held n 9 ((cs.drop 6).take (Tryz.prog.cellsOf 9)) = some y ∧ Sz 9 y.1 := hf 6 _ rfl
  rw [cof9] at f6
  obtain ⟨y6, e6, z6⟩ := f6
  obtain ⟨v6, h6, w6⟩ := str_at e6
  have f7 : ∃ y, DataW.trod enc Tryz.prog W 0 (fun _ => true) held n 9 ((cs.drop 7).take (Tryz.prog.cellsOf 9)) = some y ∧ Sz 9 y.1 := hf 7 _ rfl
  rw [cof9] at f7
  obtain ⟨y7, e7, z7⟩ := f7
  obtain ⟨v7, h7, w7⟩ := str_at e7
  clear hf
  match cs, hl with
  | [c0, c1, c2, c3, c4, c5, c6, c7], _ =>
    simp at h0 h1 h2 h3 h4 h5 h6 h7
    subst h0 h1 h2 h3 h4 h5 h6 h7
    exact ⟨⟨oa0, cap0, v0, v1, oa2, cap2, v2, v3, v4, v5, v6, v7⟩, rfl, r0, p0, w0, r2, fun e he => ⟨(p2 e he).1, (p2 e he).2.1⟩, fun e he => (p2 e he).2.2, w2, w4, w5, w3, w6, w7⟩
end
theorem gLen : Tryz.prog.globalNamed "accounting/days.lengths" = some 0 := by kernel_rfl
def laid1 : List (String × DataW Unit) := [("accounting/days.lengths", Rows.laid_accounting_days_lengths)]
theorem of_laid {W : World} (h : laidMetH Tryz.prog laid1 W) : ∃ t fr, W.heap[0]? = some (.cells ⟨lensC⟩ t fr) := by
  rw [MakeChecks.laidMetH_plain _ _ _ (by kernel_rfl)] at h
  obtain ⟨ps, ⟨g0, t0, cs0, f0, p0, q0, hg0, ht0, hv0, hd0, _, _⟩, _, hfr⟩ := h
  obtain rfl := Option.some.inj (gLen.symm.trans hg0)
  have tl : (Tryz.prog.globals[0]?).map (·.type) = some 200 := by kernel_rfl
  obtain rfl := Option.some.inj (tl.symm.trans ht0)
  obtain ⟨xs, m1, rfl, hx1, hlen, hn, hel⟩ := DataW.trod_array Tryz.underlying200 hd0
  have c176 : Tryz.prog.cellsOf 200 = 12 := by kernel_rfl
  rw [c176] at hlen
  simp only [cof3, Nat.mul_one] at hel
  have hcs : cs0.toList = lensC := by
    simp only [Rows.laid_accounting_days_lengths, Prod.mk.injEq, DataW.agg.injEq] at hx1
    obtain ⟨l⟩ := cs0
    (try simp only at hlen)
    (try simp only at hel)
    (try simp only)
    have get : ∀ i, i < 12 → ∃ (n : Int) (y : DataW Unit × List MemPlace), (l.drop i).take 1 = [.int .i64 n] ∧ xs[i]? = some y ∧ y.1 = .lit (.int .i64 n) := fun i hi => by
      obtain ⟨y, hy⟩ : ∃ y, xs[i]? = some y := ⟨_, List.getElem?_eq_getElem (by omega)⟩
      obtain ⟨n, h1, h2, _⟩ := DataW.trod_int Tryz.underlying3 ((hel i hi).trans hy)
      exact ⟨n, y, h1, hy, by rw [h2]⟩
    have val : ∀ i, i < 12 → ∀ n : Int, ([31, 28, 31, 30, 31, 30, 31, 31, 30, 31, 30, 31] : List Int)[i]? = some n → l[i]? = some (.int .i64 n) := fun i hi n hn' => by
      obtain ⟨n', y, h1, h2, h3⟩ := get i hi
      have h4 : (xs.map (·.1))[i]? = some (.lit (.int .i64 n')) := by rw [List.getElem?_map, h2]; simp [h3]
      rw [← hx1.1] at h4
      have h5 : l[i]? = some (.int .i64 n') := by
        have := congrArg (·[0]?) h1
        simpa [List.getElem?_take] using this
      rw [h5]
      have : i = 0 ∨ i = 1 ∨ i = 2 ∨ i = 3 ∨ i = 4 ∨ i = 5 ∨ i = 6 ∨ i = 7 ∨ i = 8 ∨ i = 9 ∨ i = 10 ∨ i = 11 := by omega
      rcases this with rfl | rfl | rfl | rfl | rfl | rfl | rfl | rfl | rfl | rfl | rfl | rfl <;> (simp at h4 hn'; subst h4; subst hn'; rfl)
    have hll : l.length = 12 := hlen
    show l = lensC
    apply List.ext_getElem?
    intro i
    by_cases hi : i < 12
    · obtain ⟨n, hn'⟩ : ∃ n, lensL[i]? = some n := ⟨_, List.getElem?_eq_getElem (show i < lensL.length from hi)⟩
      rw [val i hi n hn', lensC, List.getElem?_map, hn']; rfl
    · rw [List.getElem?_eq_none (by omega), List.getElem?_eq_none (show lensC.length ≤ i from (by omega : 12 ≤ i))]
  unfold World.var? at hv0
  rw [gLen] at hv0
  simp only [Option.bind_some] at hv0
  split at hv0
  · rename_i cs t fr hh
    cases hv0
    obtain ⟨l⟩ := cs0
    (try simp only at hcs)
    subst hcs
    exact ⟨t, fr, hh⟩
  · cases hv0


theorem ac_whole {P : Program} {f : FuncId} {args : Array Value} {v : Value} {w : World} (h : AC P f args (stars [whole w]) (Ret v [whole w])) : Calls P f args w fun e w' => e = .returned v ∧ Below w.heap.size w w' := by
  have hA : stars [whole w] (fun b => w.heap[b]?) := ⟨fun b => w.heap[b]?, fun _ => none, fun b => .inr rfl, (Hp.add_none' fun _ => rfl).symm, rfl, fun _ => rfl⟩
  have hsub : Hp.sub (fun b => w.heap[b]?) w := fun b o hb => hb
  refine (h w _ hA hsub).mono ?_
  rintro e w' ⟨r, rfl, ⟨⟨h', hQ, hsub', _⟩, hrest⟩⟩
  obtain ⟨rfl, h1, h2, hd', rfl, hR1, h2e⟩ := hQ
  obtain rfl : h1 = fun b => w.heap[b]? := hR1
  refine ⟨rfl, hrest.os, hrest.tape, hrest.output, hrest.size, fun k hk => ?_⟩
  obtain ⟨o, ho⟩ : ∃ o, w.heap[k]? = some o := ⟨_, Array.getElem?_eq_getElem hk⟩
  rw [hsub' k o (by rw [Hp.add_none' h2e]; exact ho), ho]
theorem handed_both {H : Type} {enc : TypeId × Value → H} {a : Assume} {C : Checked} {os : Os} {f : FuncId} {fn : Func} {s : ChangeSpec} {conds : List PathCond} {apart fresh handsOn again : Bool} {X : World → Array Value → Prop}
    (hX : ∀ (w w' : World) (args : Array Value), w.heap = w'.heap → X w args → X w' args)
    (own : ownKnob C.prog.godebug = none) (started : os.Started) (noInit : C.prog.inits.idxOf? f = none) (hfn : C.prog.funcs[f]? = some fn)
    (witness : ∃ (w : World) (tape : Tape) (i : Input), w.os = os ∧ (w.forCall tape i).Shaped C.prog ∧ i.vars = [] ∧ Input.okWide C.prog (w.forCall tape i) .any w.heap.size f i ∧
      ((s.pre enc C.prog fn conds apart (w.forCall tape i).memory i.args ∧ X (w.forCall tape i).memory i.args) ∧ sizedMet enc C.prog fn (OpenSpec.ofChange s) apart (w.forCall tape i).memory i.args) ∧ a.holds C.prog (lone (Frame.enter C.prog f i.args .normal) [] (w.forCall tape i)))
    (contract : ∀ (W : World) (base : Nat) (args : Array Value) (ds gs : List (DataW H)) (before : List MemPlace),
      (∀ (j : Nat) t v, fn.params[j]? = some t → args[j]? = some v → Value.okWide C.prog W .any base t v) →
      DataW.Whole enc C.prog fn.params.toList s.vars apart W args.toList ds gs before →
      (DataW.weightsEach C.prog (fn.params.toList ++ s.plain.varTypes C.prog) (ds ++ gs)).all (· ≤ reachBytes) = true → X W args → W.ShapedOpen C.prog →
      Calls C.prog f args W fun e W' => ∃ v, e = .returned v ∧ s.post enc C.prog fn apart fresh handsOn again W args v W') :
    ReturnsInHanded a C os f .any (fun w args => (s.pre enc C.prog fn conds apart w args ∧ X w args) ∧ sizedMet enc C.prog fn (OpenSpec.ofChange s) apart w args) (s.post enc C.prog fn apart fresh handsOn again) := by
  refine returnsInHanded_of_calls own started noInit witness ?_
  intro w tape i _ hsh _ hok hpre _
  obtain ⟨_, _, _, fn', hfn', _, _, _, _, hval⟩ := hok
  obtain rfl : fn' = fn := Option.some.inj (hfn'.symm.trans hfn)
  obtain ⟨⟨⟨ds, gs, before, hw, _⟩, hx⟩, hz⟩ := hpre
  refine (contract (w.forCall tape i) w.heap.size i.args ds gs before hval (DataW.Whole.of_heap (w' := w.forCall tape i) (by rfl) hw) (hz.weights hw) (hX _ _ _ (by rfl) hx) hsh).mono fun e W' ⟨v, he, hp⟩ => ?_
  subst he
  exact ChangeSpec.post_blind hp
theorem max_of {W : World} (h : W.ShapedOpen Tryz.prog) : ∃ m0, Rd (whole W) ⟨1, 0, none⟩ [I m0] := by
  obtain ⟨m0, h1⟩ := cell_of_shapedOpen_int (g := 1) (t := 3) (zero := #[.int .i64 0]) (k := .i64) h (of_decide_eq_true (by kernel_rfl)) (by kernel_rfl) rfl (by kernel_rfl) (by kernel_rfl) Tryz.underlying3
  refine ⟨m0, (whole_rds (a := ⟨1, 0, none⟩) (cs := [I m0]) fun j v hj => ?_).rd (by simp)⟩
  cases j with
  | zero => simp at hj; subst hj; rw [Addr.add_zero]; exact h1
  | succ j => simp at hj
theorem len_of {W : World} (h : laidMetH Tryz.prog laid1 W) : Rd (whole W) ⟨0, 0, none⟩ lensC := by
  obtain ⟨t, fr, h0⟩ := of_laid h
  exact fun hp hr => ⟨⟨lensC⟩, t, fr, by rw [hr]; exact h0, rfl, fun j v hj => by simpa using hj⟩
theorem law_case {f : FuncId} (hac : ∀ (R : HP) (x : Cs) (m0 : Int), Rd R ⟨0, 0, none⟩ lensC → Rd R ⟨1, 0, none⟩ [I m0] → x.rd R → AC Tryz.prog f ⟨[.agg ⟨x.c⟩]⟩ (stars [R]) (Ret (Bo true) [R]))
    {W : World} {x : Cs} (hx : x.rd (whole W)) (hL : laidMetH Tryz.prog laid1 W) (hS : W.ShapedOpen Tryz.prog) : Calls Tryz.prog f ⟨[.agg ⟨x.c⟩]⟩ W fun e w' => e = .returned (.bool true) ∧ Below W.heap.size W w' := by
  obtain ⟨m0, hM⟩ := max_of hS
  exact ac_whole (hac _ x m0 (len_of hL) hM hx)
theorem knob0 : ownKnob Tryz.prog.godebug = none := by kernel_rfl
theorem laidOut : laidOutB Tryz.prog = true := by kernel_rfl
theorem door_met (os : Os) (args : Array Value) : laidMetH Tryz.prog laid1 ((World.doorLaid Tryz.prog 400 os).forCall (fun _ _ => 0) ⟨#[], args, []⟩).memory :=
  laidMetH_of_parts3 (fuel := 8) (laidMet_of_run' 8 (by kernel_rfl) (by kernel_rfl)) (by kernel_rfl) (by kernel_rfl)
end Go.Proofs.YtglaahpagjjmoaaGreatDoor
