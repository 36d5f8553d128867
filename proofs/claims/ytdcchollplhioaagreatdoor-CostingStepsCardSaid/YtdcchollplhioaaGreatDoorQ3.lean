/- Laws of the walks and of the models, part 3. Merged by program out of: Lot SL11 WX WY WZ VA VB VC VD VE Law1. -/
import Derived.Test.YtdcchollplhioaaGreatDoorQ2
import Derived.Lib.SliceRun
set_option linter.unusedVariables false
set_option linter.unusedSimpArgs false
set_option maxRecDepth 20000
namespace Go.SL
open Go
/-- The walk over the lots stops here: the lot itself, or a later one. -/
def lotB (lot : ByteArray) (l : Ly) : Bool := decide (l.lot = lot) || !(Op.bytesLess l.lot.toList lot.toList || decide (l.lot = lot))
def lotI (lot : ByteArray) (ls : List Ly) : Nat := match findI (lotB lot) ls with | some (i, _) => i | none => ls.length
def lotF (lot : ByteArray) (ls : List Ly) : Option (Nat × Ly) := match findI (lotB lot) ls with | some (i, l) => if l.lot = lot then some (i, l) else none | none => none
def bump (l : Ly) (q v : Int) : Ly := { l with qty := W (l.qty + q), value := W (l.value + v) }
def newLy (lot : ByteArray) : Ly := ⟨0, lot, 0, 0⟩
def insL (ls : List Ly) (i : Nat) (x : Ly) : List Ly := ls.take i ++ x :: ls.drop i
def addLot (ls : List Ly) (lot : ByteArray) (q v : Int) : List Ly :=
  match lotF lot ls with | some (i, l) => ls.set i (bump l q v) | none => insL ls (lotI lot ls) (bump (newLy lot) q v)
def qtyLot (ls : List Ly) (lot : ByteArray) : Int := match lotF lot ls with | some (_, l) => l.qty | none => 0
def lRecv (t : Sk) (m : Mv) : Except Int (Sk × Co) :=
  if m.lot = ⟨#[]⟩ then .error 22 else .ok ({ t with layers := addLot t.layers m.lot m.qty m.cost, past := t.past ++ [⟨m.seq, m.kind, m.lot, m.qty, m.cost, 0, 0⟩] }, ⟨0, m.qty, m.cost, 0⟩)
def lIssue (t : Sk) (m : Mv) : Except Int (Sk × Co) :=
  match lotF m.lot t.layers with
  | none => .error 22
  | some (i, l) => if m.lot = ⟨#[]⟩ then .error 22 else if l.qty < m.qty then .error 21 else
    .ok ({ t with layers := takeL t.layers i l m.qty, past := t.past ++ [⟨m.seq, m.kind, m.lot, m.qty, takeV l m.qty, 0, 0⟩] }, ⟨0, W (0 - m.qty), W (0 - takeV l m.qty), 0⟩)
def lBackR (t : Sk) (m : Mv) (i : Nat) (p : Pa) : Except Int (Sk × Co) :=
  .ok ({ t with layers := addLot t.layers p.lot m.qty (backV p m), past := t.past.set i (backP p m) }, ⟨0, m.qty, backV p m, 0⟩)
def lSendR (t : Sk) (m : Mv) (i : Nat) (p : Pa) : Except Int (Sk × Co) :=
  match lotF p.lot t.layers with
  | none => .error 21
  | some (j, l) => if l.qty < m.qty then .error 21 else
    .ok ({ t with layers := takeL t.layers j l m.qty, past := t.past.set i (sendP p m) }, ⟨0, W (0 - m.qty), W (0 - takeV l m.qty), W (takeV l m.qty - m.cost)⟩)
def lotQ (t : Sk) (p : Pa) : Int := if qtyLot t.layers p.lot < p.qty then qtyLot t.layers p.lot else p.qty
def lLandR (t : Sk) (m : Mv) (i : Nat) (p : Pa) : Except Int (Sk × Co) :=
  if lotQ t p = 0 then .ok (t, ⟨0, 0, 0, m.cost⟩) else
    .ok ({ t with layers := addLot t.layers p.lot 0 (partN m.cost (lotQ t p) p.qty) }, ⟨0, 0, partN m.cost (lotQ t p) p.qty, W (m.cost - partN m.cost (lotQ t p) p.qty)⟩)
def lRef (k : Int) (t : Sk) (m : Mv) (R : Nat → Pa → Except Int (Sk × Co)) : Except Int (Sk × Co) :=
  match refd k m t.past with
  | .error e => .error e
  | .ok (i, p) => R i p
def lBack (t : Sk) (m : Mv) : Except Int (Sk × Co) := lRef 2 t m (lBackR t m)
def lSend (t : Sk) (m : Mv) : Except Int (Sk × Co) := lRef 1 t m (lSendR t m)
def lLand (t : Sk) (m : Mv) : Except Int (Sk × Co) := lRef 1 t m (lLandR t m)
def lDo (t : Sk) (m : Mv) : Except Int (Sk × Co) :=
  if m.kind = 1 then lRecv t m else if m.kind = 2 then lIssue t m else if m.kind = 3 then lBack t m else if m.kind = 4 then lSend t m else if m.kind = 5 then lLand t m else .error 10
def lStep (s : Sk) (m : Mv) : Except Int (Sk × Co) :=
  if m.one ≠ 0 then .error m.one else if (findI (isPast 0 m.seq) s.past).isSome = true then .error 8 else
  match lDo s m with
  | .error e => .error e
  | .ok (t, c) => if overB (summed t c) c = true then .error 4 else .ok (summed t c, { c with seq := m.seq })
theorem lotF_some {lot : ByteArray} {ls : List Ly} {i : Nat} {l : Ly} (h : lotF lot ls = some (i, l)) : ls[i]? = some l ∧ l.lot = lot ∧ lotI lot ls = i := by
  unfold lotF at h; unfold lotI
  split at h
  · rename_i j x hf
    split at h
    · rename_i hl; cases h; exact ⟨(findI_some hf).1, hl, rfl⟩
    · cases h
  · cases h
theorem lot_found {lot : ByteArray} {ls : List Ly} {i : Nat} {x : Ly} (hx : ls[i]? = some x) (he : x.lot = lot) (hn : ∀ j y, j < i → ls[j]? = some y → lotB lot y = false) : tup [I (i : Int), Bo true] = .tuple ⟨[I (lotI lot ls : Int), Bo (lotF lot ls).isSome]⟩ := by
  have h := findI_at hx (show lotB lot x = true by simp [lotB, he]) hn
  have h1 : lotI lot ls = i := by unfold lotI; rw [h]
  have h2 : lotF lot ls = some (i, x) := by unfold lotF; rw [h]; exact if_pos he
  rw [h1, h2]; rfl
theorem lot_past {lot : ByteArray} {ls : List Ly} {i : Nat} {x : Ly} (hx : ls[i]? = some x) (he : ¬ x.lot = lot) (hg : (!(Op.bytesLess x.lot.toList lot.toList || decide (x.lot = lot))) = true) (hn : ∀ j y, j < i → ls[j]? = some y → lotB lot y = false) : tup [I (i : Int), Bo false] = .tuple ⟨[I (lotI lot ls : Int), Bo (lotF lot ls).isSome]⟩ := by
  have h := findI_at hx (show lotB lot x = true by unfold lotB; rw [hg, Bool.or_true]) hn
  have h1 : lotI lot ls = i := by unfold lotI; rw [h]
  have h2 : lotF lot ls = none := by unfold lotF; rw [h]; exact if_neg he
  rw [h1, h2]; rfl
theorem lot_none {lot : ByteArray} {ls : List Ly} {i : Nat} (hi : i = ls.length) (hn : ∀ j y, j < i → ls[j]? = some y → lotB lot y = false) : tup [I (i : Int), Bo false] = .tuple ⟨[I (lotI lot ls : Int), Bo (lotF lot ls).isSome]⟩ := by
  subst hi
  have h := findI_none (p := lotB lot) hn
  have h1 : lotI lot ls = ls.length := by unfold lotI; rw [h]
  have h2 : lotF lot ls = none := by unfold lotF; rw [h]
  rw [h1, h2]; rfl
theorem lotB_not {lot : ByteArray} {x : Ly} (he : ¬ x.lot = lot) (hg : ¬ (!(Op.bytesLess x.lot.toList lot.toList || decide (x.lot = lot))) = true) : lotB lot x = false := by
  unfold lotB; rw [Bool.eq_false_iff.2 hg, Bool.or_false]; exact decide_eq_false he
theorem lotI_le {lot : ByteArray} {ls : List Ly} : lotI lot ls ≤ ls.length := by
  unfold lotI
  split
  · rename_i i l hf; have := (List.getElem?_eq_some_iff.1 (findI_some hf).1).1; omega
  · exact Nat.le_refl _
theorem insL_len {ls : List Ly} {i : Nat} {x : Ly} (h : i ≤ ls.length) : (insL ls i x).length = ls.length + 1 := by
  simp [insL]; omega
theorem insL_get {ls : List Ly} {i : Nat} {x : Ly} (h : i ≤ ls.length) : (insL ls i x)[i]? = some x := by
  simp [insL, List.getElem?_append, List.length_take, Nat.min_eq_left h]
theorem insL_set {ls : List Ly} {i : Nat} {x y : Ly} (h : i ≤ ls.length) : (insL ls i x).set i y = insL ls i y := by
  simp [insL, List.set_append, List.length_take, Nat.min_eq_left h]
theorem ins_eq {ls : List Ly} {i : Nat} {z y : Ly} (h : i ≤ ls.length) : (((ls ++ [z]).take (i + 1)) ++ ((ls ++ [z]).drop i).take ((ls ++ [z]).length - (i + 1))).set i y = insL ls i y := by
  have h1 : ((ls ++ [z]).drop i).take ((ls ++ [z]).length - (i + 1)) = ls.drop i := by
    rw [List.drop_append_of_le_length h, List.take_append_of_le_length (by simp)]
    exact List.take_of_length_le (by simp)
  have h2 : ((ls ++ [z]).take (i + 1)).length = i + 1 := by simp; omega
  rw [h1, List.set_append_left _ _ (by omega)]
  have h3 : ((ls ++ [z]).take (i + 1)).set i y = ls.take i ++ [y] := by
    rw [List.set_eq_take_append_cons_drop, if_pos (by omega), List.take_take, Nat.min_eq_left (by omega), List.take_append_of_le_length h, List.drop_eq_nil_of_le (by omega)]
  rw [h3]; simp [insL]
theorem ins_lt {ls : List Ly} {i : Nat} {z : Ly} (h : i ≤ ls.length) : i < (((ls ++ [z]).take (i + 1)) ++ ((ls ++ [z]).drop i).take ((ls ++ [z]).length - (i + 1))).length := by
  have h2 : ((ls ++ [z]).take (i + 1)).length = i + 1 := by simp; omega
  rw [List.length_append]; omega
theorem insL_mem {ls : List Ly} {i : Nat} {x y : Ly} (h : y ∈ insL ls i x) : y = x ∨ y ∈ ls := by
  unfold insL at h
  rcases List.mem_append.1 h with h | h
  · exact .inr (List.mem_of_mem_take h)
  · rcases List.mem_cons.1 h with h | h
    · exact .inl h
    · exact .inr (List.mem_of_mem_drop h)
theorem all_of_mem {α : Type} {Q : α → Prop} {xs : List α} (h : ∀ x ∈ xs, Q x) : ∀ (i : Nat) (y : α), xs[i]? = some y → Q y := fun i y hy => h y (List.mem_of_getElem? hy)
theorem mem_of_all {α : Type} {Q : α → Prop} {xs : List α} (h : ∀ (i : Nat) (y : α), xs[i]? = some y → Q y) : ∀ x ∈ xs, Q x := fun x hx => by
  obtain ⟨i, hi, rfl⟩ := List.getElem_of_mem hx
  exact h i _ (List.getElem?_eq_getElem hi)
theorem bump_ok (l : Ly) (q v : Int) : (bump l q v).ok := ⟨W_i64 _, W_i64 _⟩
theorem addLot_ok {ls : List Ly} {lot : ByteArray} {q v : Int} (h : okL ls) : okL (addLot ls lot q v) := by
  unfold addLot
  split
  · exact all_set h (bump_ok _ _ _)
  · refine all_of_mem fun x hx => ?_
    rcases insL_mem hx with rfl | hx
    · exact bump_ok _ _ _
    · exact mem_of_all h x hx
theorem addLot_len {ls : List Ly} {lot : ByteArray} {q v : Int} : (addLot ls lot q v).length ≤ ls.length + 1 := by
  unfold addLot
  split
  · simp
  · rw [insL_len lotI_le]; exact Nat.le_refl _
theorem qtyLot_i64 {ls : List Ly} {lot : ByteArray} (h : okL ls) : i64 (qtyLot ls lot) := by
  unfold qtyLot
  split
  · rename_i hf; exact (h _ _ (lotF_some hf).1).1
  · decide
theorem lotQ_i64 {t : Sk} {p : Pa} (h : okL t.layers) (hp : i64 p.qty) : i64 (lotQ t p) := by
  unfold lotQ
  split
  · exact qtyLot_i64 h
  · exact hp
theorem lDo_ok {N : Nat} {s t : Sk} {m : Mv} {c' : Co} (hs : s.ok N) (hm : m.ok) (h : lDo s m = .ok (t, c')) : t.ok (N + 1) := by
  have hnl := hs.nl; have hnp := hs.np
  unfold lDo at h
  split at h
  · unfold lRecv at h
    split at h
    · cases h
    · cases h
      have := @addLot_len s.layers m.lot m.qty m.cost
      exact ⟨by simp only; omega, by simp; omega, addLot_ok hs.ly, all_append1 hs.pa ⟨hm.1, hm.2, (show i64 0 by decide), (show i64 0 by decide)⟩, hs.q, hs.v, hs.pr⟩
  split at h
  · unfold lIssue at h
    split at h
    · cases h
    · rename_i i l hf
      split at h
      · cases h
      split at h
      · cases h
      cases h
      have := @takeL_len s.layers i l m.qty
      have hl := hs.ly i l (lotF_some hf).1
      exact ⟨by simp only; omega, by simp; omega, takeL_ok hs.ly, all_append1 hs.pa ⟨hm.1, partN_i64 hl.2 hm.1, (show i64 0 by decide), (show i64 0 by decide)⟩, hs.q, hs.v, hs.pr⟩
  split at h
  · unfold lBack lRef at h
    split at h
    · cases h
    · rename_i i p hr
      unfold lBackR at h
      cases h
      have hp := hs.pa i p (refd_spec hr).1
      have := @addLot_len s.layers p.lot m.qty (backV p m)
      exact ⟨by simp only; omega, by simp; omega, addLot_ok hs.ly, all_set hs.pa ⟨hp.1, hp.2.1, W_i64 _, W_i64 _⟩, hs.q, hs.v, hs.pr⟩
  split at h
  · unfold lSend lRef at h
    split at h
    · cases h
    · rename_i i p hr
      unfold lSendR at h
      split at h
      · cases h
      · rename_i j l hf
        split at h
        · cases h
        · cases h
          have hp := hs.pa i p (refd_spec hr).1
          have := @takeL_len s.layers j l m.qty
          exact ⟨by simp only; omega, by simp; omega, takeL_ok hs.ly, all_set hs.pa ⟨hp.1, hp.2.1, W_i64 _, hp.2.2.2⟩, hs.q, hs.v, hs.pr⟩
  split at h
  · unfold lLand lRef at h
    split at h
    · cases h
    · rename_i i p hr
      unfold lLandR at h
      split at h
      · cases h; exact ⟨by omega, by omega, hs.ly, hs.pa, hs.q, hs.v, hs.pr⟩
      · cases h
        have := @addLot_len s.layers p.lot 0 (partN m.cost (lotQ s p) p.qty)
        exact ⟨by simp only; omega, by simp only; omega, addLot_ok hs.ly, hs.pa, hs.q, hs.v, hs.pr⟩
  · cases h
theorem lDo_err {s : Sk} {m : Mv} {e : Int} (h : lDo s m = .error e) : e ≠ 0 := by
  unfold lDo at h
  split at h
  · unfold lRecv at h; split at h
    · cases h; decide
    · cases h
  split at h
  · unfold lIssue at h; split at h
    · cases h; decide
    · split at h
      · cases h; decide
      · split at h
        · cases h; decide
        · cases h
  split at h
  · unfold lBack lRef at h; split at h
    · rename_i he; cases h; exact refd_err he
    · unfold lBackR at h; cases h
  split at h
  · unfold lSend lRef at h; split at h
    · rename_i he; cases h; exact refd_err he
    · unfold lSendR at h; split at h
      · cases h; decide
      · split at h
        · cases h; decide
        · cases h
  split at h
  · unfold lLand lRef at h; split at h
    · rename_i he; cases h; exact refd_err he
    · unfold lLandR at h; split at h <;> cases h
  · cases h; decide
theorem lDo_1 {t : Sk} {m : Mv} (h : m.kind = 1) : lDo t m = lRecv t m := by unfold lDo; rw [if_pos h]
theorem lDo_2 {t : Sk} {m : Mv} (h : m.kind = 2) : lDo t m = lIssue t m := by unfold lDo; rw [if_neg (by omega), if_pos h]
theorem lDo_3 {t : Sk} {m : Mv} (h : m.kind = 3) : lDo t m = lBack t m := by unfold lDo; rw [if_neg (by omega), if_neg (by omega), if_pos h]
theorem lDo_4 {t : Sk} {m : Mv} (h : m.kind = 4) : lDo t m = lSend t m := by unfold lDo; rw [if_neg (by omega), if_neg (by omega), if_neg (by omega), if_pos h]
theorem lDo_5 {t : Sk} {m : Mv} (h : m.kind = 5) : lDo t m = lLand t m := by unfold lDo; rw [if_neg (by omega), if_neg (by omega), if_neg (by omega), if_neg (by omega), if_pos h]
theorem lDo_0 {t : Sk} {m : Mv} (h : ¬ m.kind = 1 ∧ ¬ m.kind = 2 ∧ ¬ m.kind = 3 ∧ ¬ m.kind = 4 ∧ ¬ m.kind = 5) : lDo t m = .error 10 := by unfold lDo; rw [if_neg h.1, if_neg h.2.1, if_neg h.2.2.1, if_neg h.2.2.2.1, if_neg h.2.2.2.2]
def LvB (TX TL TP bx : Nat) (r : Except Int (Sk × Co)) (x : Option Addr × Nat × Option Addr × Nat) : List HP :=
  match r with
  | .error _ => []
  | .ok (t, _) => [pt bx (blk (SC t x.1 t.layers.length x.2.1 x.2.2.1 t.past.length x.2.2.2) TX), own TL 4 x.1 t.layers.length x.2.1 (t.layers.flatMap Ly.c), own TP 7 x.2.2.1 t.past.length x.2.2.2 (t.past.flatMap Pa.c)]
/-- 'moving average' keeps sizes and ranges. -/
theorem aDo_ok {N : Nat} {s t : Sk} {m : Mv} {c' : Co} (hs : s.ok N) (hm : m.ok) (h : aDo s m = .ok (t, c')) : t.ok (N + 1) := by
  have hnl := hs.nl; have hnp := hs.np
  unfold aDo at h
  split at h
  · unfold aRecv at h
    cases h
    exact ⟨by simp only; omega, by simp; omega, hs.ly, all_append1 hs.pa ⟨hm.1, hm.2, (show i64 0 by decide), (show i64 0 by decide)⟩, hs.q, hs.v, hs.pr⟩
  split at h
  · unfold aIssue at h
    split at h
    · cases h
    · cases h
      exact ⟨by simp only; omega, by simp; omega, hs.ly, all_append1 hs.pa ⟨hm.1, partN_i64 hs.v hm.1, (show i64 0 by decide), (show i64 0 by decide)⟩, hs.q, hs.v, hs.pr⟩
  split at h
  · unfold aBack at h
    split at h
    · cases h
    · rename_i i p hr
      cases h
      have hp := hs.pa i p (refd_spec hr).1
      exact ⟨by simp only; omega, by simp; omega, hs.ly, all_set hs.pa ⟨hp.1, hp.2.1, W_i64 _, W_i64 _⟩, hs.q, hs.v, hs.pr⟩
  split at h
  · unfold aSend at h
    split at h
    · cases h
    · rename_i i p hr
      split at h
      · cases h
      · cases h
        have hp := hs.pa i p (refd_spec hr).1
        exact ⟨by simp only; omega, by simp; omega, hs.ly, all_set hs.pa ⟨hp.1, hp.2.1, W_i64 _, hp.2.2.2⟩, hs.q, hs.v, hs.pr⟩
  split at h
  · unfold aLand at h
    split at h
    · cases h
    · cases h; exact ⟨by omega, by omega, hs.ly, hs.pa, hs.q, hs.v, hs.pr⟩
  · cases h
theorem aDo_err {s : Sk} {m : Mv} {e : Int} (h : aDo s m = .error e) : e ≠ 0 := by
  unfold aDo at h
  split at h
  · cases h
  split at h
  · unfold aIssue at h; split at h
    · cases h; decide
    · cases h
  split at h
  · unfold aBack at h; split at h
    · rename_i he; cases h; exact refd_err he
    · cases h
  split at h
  · unfold aSend at h; split at h
    · rename_i he; cases h; exact refd_err he
    · split at h
      · cases h; decide
      · cases h
  split at h
  · unfold aLand at h; split at h
    · rename_i he; cases h; exact refd_err he
    · cases h
  · cases h; decide
theorem aDo_1 {t : Sk} {m : Mv} (h : m.kind = 1) : aDo t m = aRecv t m := by unfold aDo; rw [if_pos h]
theorem aDo_2 {t : Sk} {m : Mv} (h : m.kind = 2) : aDo t m = aIssue t m := by unfold aDo; rw [if_neg (by omega), if_pos h]
theorem aDo_3 {t : Sk} {m : Mv} (h : m.kind = 3) : aDo t m = aBack t m := by unfold aDo; rw [if_neg (by omega), if_neg (by omega), if_pos h]
theorem aDo_4 {t : Sk} {m : Mv} (h : m.kind = 4) : aDo t m = aSend t m := by unfold aDo; rw [if_neg (by omega), if_neg (by omega), if_neg (by omega), if_pos h]
theorem aDo_5 {t : Sk} {m : Mv} (h : m.kind = 5) : aDo t m = aLand t m := by unfold aDo; rw [if_neg (by omega), if_neg (by omega), if_neg (by omega), if_neg (by omega), if_pos h]
theorem aDo_0 {t : Sk} {m : Mv} (h : ¬ m.kind = 1 ∧ ¬ m.kind = 2 ∧ ¬ m.kind = 3 ∧ ¬ m.kind = 4 ∧ ¬ m.kind = 5) : aDo t m = .error 10 := by unfold aDo; rw [if_neg h.1, if_neg h.2.1, if_neg h.2.2.1, if_neg h.2.2.2.1, if_neg h.2.2.2.2]
theorem aDo_layers {s t : Sk} {m : Mv} {c' : Co} (h : aDo s m = .ok (t, c')) : t.layers = s.layers := by
  unfold aDo at h
  split at h
  · unfold aRecv at h; cases h; rfl
  split at h
  · unfold aIssue at h; split at h
    · cases h
    · cases h; rfl
  split at h
  · unfold aBack at h; split at h
    · cases h
    · cases h; rfl
  split at h
  · unfold aSend at h; split at h
    · cases h
    · split at h
      · cases h
      · cases h; rfl
  split at h
  · unfold aLand at h; split at h
    · cases h
    · cases h; rfl
  · cases h
end Go.SL

namespace Go.SL
open Go
section
variable {P : Program} {β : Base} {E : Env} {L L' M M' : List HP} {K : Value → List HP → Prop} {d : Option Tmp} {ty : TypeId} {pos : String} {af : Array Edge} {g : Option (Nat × Bool)} {x y : Operand} {t t' : TypeId} {α : Type} {enc : α → List Value} {e : TypeId} {k b i j n cap : Nat} {xs : List α} {u u' : α} {v : Value}
theorem DetJ.eqlNilSl {oa : Option Addr} {l c : Nat} (S : SI P t e k) (hx : E.ev x = some (.slice oa l c)) : DetJ P β E L ⟨d, .binOp .eql t x (.const (.slice none 0 0)) t', ty, pos, af, g⟩ (.bool oa.isNone) :=
  fun a w ha _ => by
    have hc : a.eval (.const (.slice none 0 0)) = .slice none 0 0 := rfl
    simp only [execOp, ha.ev hx, hc]
    simp [eqGuard, Lib.run_eql_slice_nil w t e oa l c 0 0 S.under]
theorem OpJ.eqlNilSl {oa : Option Addr} {l c : Nat} (S : SI P t e k) (hx : E.ev x = some (.slice oa l c)) (h : K (.bool oa.isNone) L) : OpJ P β E L ⟨d, .binOp .eql t x (.const (.slice none 0 0)) t', ty, pos, af, g⟩ K :=
  OpJ.same (DetJ.eqlNilSl S hx) h
theorem OpJ.buildSlice0 (S : SI P t e k) (h : ∀ b, K (.slice (some ⟨b, 0, none⟩) 0 0) (own e k (some ⟨b, 0, none⟩) 0 0 [] :: L)) : OpJ P β E L ⟨d, .buildSlice t 0 #[], ty, pos, af, g⟩ K := OpJ.vals fun a w ha hs => by
  refine ⟨.slice (some ⟨w.heap.size, 0, none⟩) 0 0, own e k (some ⟨w.heap.size, 0, none⟩) 0 0 [] :: L, w.alloc (blk [] e), ?_, ?_, h w.heap.size⟩
  · simp only [execOp, Instr.buildSlice]
    simp only [Sem.run_bind, run_underlying S.under, Result.andThen_ok, S.run_size, Nat.zero_mul]
    have e0 : (Array.range 0).map (fun x => (default : Value)) = #[] := by simp [Array.range]
    simp [Instr.fill, newRow, e0]
    rfl
  · refine (Has.alloc hs (blk [] e)).mono fun hp => star_mono (fun hp1 hpt => ?_) fun _ => id
    exact ⟨by simp, Nat.le_refl _, .inr ⟨_, [], rfl, by simp, by simpa using hpt⟩⟩
theorem OpJ.appendAll {bytes m c : Nat} {zs cs news : List Value} {oa ob : Option Addr} {R : HP} (S : SI P t e k) (I : MI P e k bytes zs) (hx : E.ev x = some (.slice oa n cap)) (hy : E.ev y = some (.slice ob m c))
    (p : Pick L (own e k oa n cap cs) M) (p2 : Pick L R M') (hr : RdS R ob news) (hl : news.length = m * k) (hk : 0 < k) (h1 : ∀ v ∈ news, v.oneCell' = true) (hb : (n + m) * bytes ≤ 140737488355328) (h63 : n + m ≤ 9223372036854775807)
    (h : ∀ oa' cap', K (.slice oa' (n + m) cap') (own e k oa' (n + m) cap' (cs ++ news) :: M)) : OpJ P β E L ⟨d, .call ⟨.builtin .append, #[x, y], #[t, t]⟩, ty, pos, af, g⟩ K := fun a w ha hs => by
  by_cases hm : m = 0
  · subst hm
    have hn0 : news = [] := List.eq_nil_of_length_eq_zero (by rw [hl, Nat.zero_mul])
    subst hn0
    have hs1 : Has β (star (own e k oa n cap cs) (stars M)) w := Has.mono hs fun _ => p.star
    have hnc : n ≤ cap := by
      obtain ⟨⟨hp, ⟨ha1, hb1, hd, rfl, ⟨hl1, hc1, ho⟩, hM⟩, _⟩, _⟩ := hs1
      exact hc1
    have hh := h oa cap
    simp only [Nat.add_zero, List.append_nil] at hh
    exact (OpJ.vals fun a w ha hs => ⟨_, _, w, by simp [execOp, resolve, invoke, builtin, ha.ev hx, ha.ev hy, run_append0 (P := P) (w := w) (ty := ty) (oa := oa) (ob := ob) (m := c) S hnc], Has.mono hs fun _ => p.star, hh⟩ : OpJ P β E L ⟨d, .call ⟨.builtin .append, #[x, y], #[t, t]⟩, ty, pos, af, g⟩ K) a w ha hs
  · have hne : news ≠ [] := fun e => by
      subst e
      have : 0 < m * k := Nat.mul_pos (by omega) hk
      simp at hl; omega
    obtain ⟨ad, rfl, hrd⟩ : ∃ ad, ob = some ad ∧ Rd R ad news := by
      obtain ⟨⟨hp, hlp, _⟩, _⟩ := hs
      obtain ⟨h1', h2', _, rfl, hA, _⟩ := p2.star hlp
      obtain ⟨b', o', rfl⟩ := hr.addr hne hA
      exact ⟨_, rfl, hr.rd hne⟩
    exact OpJ.append S I hx hy p p2 hrd hl h1 hb h63 (by omega) h a w ha hs
/-- A row that is owned, written in place. -/
theorem Has.ownSet {w w' : World} {cs0 cs1 news rest : List Value} {n' : Nat} (hs : Has β (star (pt b (blk cs0 e)) (stars M)) w) (hh : w'.heap = w.heap.setIfInBounds b (blk cs1 e)) (ho : w'.os = w.os) (ht : w'.tape = w.tape) (hu : w'.output = w.output)
    (h1 : cs1 = news ++ rest) (hl : news.length = n' * k) (hc : n' ≤ cap) (hcap : cap * k ≤ cs1.length) : Has β (star (own e k (some ⟨b, 0, none⟩) n' cap news) (stars M)) w' := by
  subst h1
  refine (hs.setObj hh ho ht hu).mono fun hp => star_mono (fun hp1 hpt => ?_) fun _ => id
  exact ⟨hl, hc, .inr ⟨b, rest, rfl, by simpa using hcap, hpt⟩⟩
/-- 'append(s[:i], s[i+1:]...)'. -/
theorem OpJ.removeIn (S : SI P t e k) {bytes : Nat} {zs : List Value} (I : MI P e k bytes zs) (hx : E.ev x = some (.slice (some ⟨b, 0, none⟩) i cap))
    (hy : E.ev y = some (.slice (some (if cap = i + 1 then ⟨b, 0, none⟩ else ⟨b, 0 + (i + 1) * k, none⟩)) (n - (i + 1)) (cap - (i + 1))))
    (p : Pick L (own e k (some ⟨b, 0, none⟩) n cap (xs.flatMap enc)) M) (hn : n = xs.length) (hi : i < n) (hk : ∀ x, (enc x).length = k) (h0 : 0 < k) (h1 : ∀ x, ∀ v ∈ enc x, v.oneCell' = true)
    (h : K (.slice (some ⟨b, 0, none⟩) (xs.eraseIdx i).length cap) (own e k (some ⟨b, 0, none⟩) (xs.eraseIdx i).length cap ((xs.eraseIdx i).flatMap enc) :: M)) :
    OpJ P β E L ⟨d, .call ⟨.builtin .append, #[x, y], #[t, t]⟩, ty, pos, af, g⟩ K := OpJ.vals fun a w ha hs => by
  subst hn
  have hs1 : Has β (star (own e k (some ⟨b, 0, none⟩) xs.length cap (xs.flatMap enc)) (stars M)) w := Has.mono hs fun _ => p.star
  obtain ⟨b', junk, hb', hl, hc, hcap, hblk, hs2⟩ := Sat.own hs1 (flat_ne hk h0 (List.getElem?_eq_getElem hi))
  obtain rfl : b = b' := by simpa using hb'
  have hel : (xs.eraseIdx i).length = xs.length - 1 := List.length_eraseIdx_of_lt hi
  have hee : xs.eraseIdx i = xs.take i ++ xs.drop (i + 1) := List.eraseIdx_eq_take_drop_succ xs i
  have hexec : ∀ v w' ob m c, E.ev y = some (.slice ob m c) → (Builtin.append_ #[t, t] ty #[.slice (some ⟨b, 0, none⟩) i cap, .slice ob m c]).run P w = .ok v w' → (execOp a.eval ⟨d, .call ⟨.builtin .append, #[x, y], #[t, t]⟩, ty, pos, af, g⟩).run P w = .ok (.value v) w' := fun v w' ob m c hy hr => by
    simp [execOp, resolve, invoke, builtin, ha.ev hx, ha.ev hy, hr]
  have hft := flat_take (enc := enc) hk xs i
  have hle : i * k ≤ (xs.flatMap enc).length := by rw [hl]; exact Nat.mul_le_mul_right _ (by omega)
  by_cases hm : xs.length = i + 1
  · have hm0 : xs.length - (i + 1) = 0 := by omega
    rw [hm0] at hy
    have hrun := run_append0 (P := P) (w := w) (ty := ty) (i := i) (c := cap) (m := cap - (i + 1)) (oa := some ⟨b, 0, none⟩) (ob := some (if cap = i + 1 then ⟨b, 0, none⟩ else ⟨b, 0 + (i + 1) * k, none⟩)) S (by omega)
    rw [show (xs.eraseIdx i).length = i by omega] at h
    refine ⟨_, _, w, hexec _ _ _ _ _ hy hrun, ?_, h⟩
    refine hs2.mono fun hp => star_mono (fun hp1 hpt => ?_) fun _ => id
    have hnil : xs.drop (i + 1) = [] := List.drop_eq_nil_of_le (by omega)
    rw [hee, hnil, List.append_nil, hft]
    refine ⟨by rw [List.length_take]; omega, by omega, .inr ⟨b, (xs.flatMap enc).drop (i * k) ++ junk, rfl, ?_, ?_⟩⟩
    · rw [List.length_take, List.length_append, List.length_drop]; omega
    · rw [← List.append_assoc, List.take_append_drop]; exact hpt
  · obtain ⟨ti, z, hti, rfl, rfl, hz, rfl, hzl⟩ := I.info
    rw [if_neg (show cap ≠ i + 1 by omega)] at hy
    have hfd := flat_drop (enc := enc) hk xs (i + 1)
    have hld : ((xs.drop (i + 1)).flatMap enc).length = (xs.length - (i + 1)) * ti.size := by rw [flat_len hk, List.length_drop]
    have hsum : i * ti.size + ((xs.drop (i + 1)).flatMap enc).length ≤ (xs.flatMap enc).length := by
      rw [hld, hl, ← Nat.add_mul]; exact Nat.mul_le_mul_right _ (by omega)
    have hrun := run_append_room (P := P) w t ty e ti S.under hti b i cap ⟨xs.flatMap enc ++ junk⟩ hblk ⟨b, 0 + (i + 1) * ti.size, none⟩ (xs.length - (i + 1)) (cap - (i + 1)) ((xs.drop (i + 1)).flatMap enc) hld
      (fun j u hj => by
        have hjl := (List.getElem?_eq_some_iff.1 hj).1
        rw [hfd, List.getElem?_drop] at hj
        rw [Addr.add_eq rfl]
        have hblk' : w.heap[b]? = some (.cells ⟨xs.flatMap enc ++ junk⟩ e (0, 0)) := hblk
        simp only [World.cell?, hblk', Option.isSome_none, Bool.false_eq_true, if_false, List.getElem?_toArray]
        rw [show 0 + (i + 1) * ti.size + j = (i + 1) * ti.size + j by omega, List.getElem?_append_left (List.getElem?_eq_some_iff.1 hj).1]; exact hj)
      (fun u hu => by obtain ⟨x, _, hx⟩ := List.mem_flatMap.1 hu; exact h1 x u hx) (by omega) (by simp only [List.size_toArray, List.length_append]; omega)
    rw [show (xs.eraseIdx i).length = i + (xs.length - (i + 1)) by omega] at h
    refine ⟨_, _, _, hexec _ _ _ _ _ hy hrun, ?_, h⟩
    have hh := setRow_heap_eq (cs' := ((⟨xs.flatMap enc ++ junk⟩ : Array Value).toList.take (i * ti.size) ++ (xs.drop (i + 1)).flatMap enc ++ (⟨xs.flatMap enc ++ junk⟩ : Array Value).toList.drop (i * ti.size + ((xs.drop (i + 1)).flatMap enc).length)).toArray) hblk
    refine Has.ownSet (cs1 := (xs.flatMap enc ++ junk).take (i * ti.size) ++ (xs.drop (i + 1)).flatMap enc ++ (xs.flatMap enc ++ junk).drop (i * ti.size + ((xs.drop (i + 1)).flatMap enc).length)) (rest := (xs.flatMap enc ++ junk).drop (i * ti.size + ((xs.drop (i + 1)).flatMap enc).length)) hs2 hh rfl rfl rfl ?_ ?_ (by omega) ?_
    · rw [List.take_append_of_le_length hle, ← hft, hee, List.flatMap_append]
    · rw [flat_len hk]; congr 1; omega
    · have hlt : ((xs.flatMap enc ++ junk).take (i * ti.size)).length = i * ti.size := by rw [List.length_take, List.length_append]; omega
      rw [List.length_append, List.length_append, hlt, List.length_drop, List.length_append]
      omega
/-- 'copy(s[i+1:], s[i:])'. -/
theorem OpJ.copyUp (S : SI P t e k) (hx : E.ev x = some (.slice (some (if cap = i + 1 then ⟨b, 0, none⟩ else ⟨b, 0 + (i + 1) * k, none⟩)) (n - (i + 1)) (cap - (i + 1))))
    (hy : E.ev y = some (.slice (some (if cap = i then ⟨b, 0, none⟩ else ⟨b, 0 + i * k, none⟩)) (n - i) (cap - i)))
    (p : Upd L (own e k (some ⟨b, 0, none⟩) n cap (xs.flatMap enc)) (own e k (some ⟨b, 0, none⟩) n cap ((xs.take (i + 1) ++ (xs.drop i).take (n - (i + 1))).flatMap enc)) L') (hn : n = xs.length) (hi : i < n) (hk : ∀ x, (enc x).length = k) (h0 : 0 < k) (h1 : ∀ x, ∀ v ∈ enc x, v.oneCell' = true)
    (h : K (.int .i64 ((n - (i + 1) : Nat) : Int)) L') : OpJ P β E L ⟨d, .call ⟨.builtin .copy, #[x, y], #[t, t']⟩, ty, pos, af, g⟩ K := OpJ.vals fun a w ha hs => by
  subst hn
  obtain ⟨M, g1, g2⟩ := p.star
  have hs1 : Has β (star (own e k (some ⟨b, 0, none⟩) xs.length cap (xs.flatMap enc)) (stars M)) w := Has.mono hs g1
  obtain ⟨b', junk, hb', hl, hc, hcap, hblk, hs2⟩ := Sat.own hs1 (flat_ne hk h0 (List.getElem?_eq_getElem hi))
  obtain rfl : b = b' := by simpa using hb'
  have hmin : Nat.min (xs.length - i) (xs.length - (i + 1)) = xs.length - (i + 1) := Nat.min_eq_right (by omega)
  have hexec : ∀ v w' oa m c ob m' c', E.ev x = some (.slice oa m c) → E.ev y = some (.slice ob m' c') → (Builtin.copy_ #[t, t'] ty #[.slice oa m c, .slice ob m' c']).run P w = .ok v w' → (execOp a.eval ⟨d, .call ⟨.builtin .copy, #[x, y], #[t, t']⟩, ty, pos, af, g⟩).run P w = .ok (.value v) w' := fun v w' oa m c ob m' c' hx hy hr => by
    simp only [execOp, resolve, invoke, builtin, List.map_toArray, List.map_cons, List.map_nil, ha.ev hx, ha.ev hy, Sem.run_bind, Sem.run_pure, Result.andThen_ok, hr]
  have hft := flat_take (enc := enc) hk xs (i + 1)
  by_cases hm : xs.length = i + 1
  · have hm0 : xs.length - (i + 1) = 0 := by omega
    have hf : ∀ ob, (Builtin.firstCells k 0 (.slice ob (xs.length - i) (cap - i))).run P w = .ok #[] w := fun ob => by
      cases ob <;> simp [Builtin.firstCells, loadCells, loadCellsFrom]
    have hrun : ∀ oa ob, (Builtin.copy_ #[t, t'] ty #[.slice oa (xs.length - (i + 1)) (cap - (i + 1)), .slice ob (xs.length - i) (cap - i)]).run P w = .ok (goInt 0) w := fun oa ob => by
      cases oa <;> simp [Builtin.copy_, run_underlying S.under, Builtin.lenOf, S.run_size, hm0, hf, storeCells]
    refine ⟨_, L', w, hexec _ _ _ _ _ _ _ _ hx hy (hrun _ _), ?_, by rw [hm0] at h; exact h⟩
    have e : xs.take (i + 1) ++ (xs.drop i).take (xs.length - (i + 1)) = xs := by rw [hm0, List.take_zero, List.append_nil]; exact List.take_of_length_le (by omega)
    rw [e] at g2
    exact hs1.mono g2
  · rw [if_neg (show cap ≠ i + 1 by omega)] at hx
    rw [if_neg (show cap ≠ i by omega)] at hy
    have hfd := flat_drop (enc := enc) hk xs i
    have hld : (((xs.drop i).take (xs.length - (i + 1))).flatMap enc).length = (xs.length - (i + 1)) * k := by
      rw [flat_len hk, List.length_take, List.length_drop]; congr 1; omega
    have hsub : ∀ j u, (((xs.drop i).take (xs.length - (i + 1))).flatMap enc)[j]? = some u → w.cell? ((⟨b, 0 + i * k, none⟩ : Addr).add j) = some u := fun j u hj => by
      rw [flat_take hk, List.getElem?_take] at hj
      split at hj
      · rw [hfd, List.getElem?_drop] at hj
        rw [Addr.add_eq rfl]
        have hblk' : w.heap[b]? = some (.cells ⟨xs.flatMap enc ++ junk⟩ e (0, 0)) := hblk
        simp only [World.cell?, hblk', Option.isSome_none, Bool.false_eq_true, if_false, List.getElem?_toArray]
        rw [show 0 + i * k + j = i * k + j by omega, List.getElem?_append_left (List.getElem?_eq_some_iff.1 hj).1]; exact hj
      · cases hj
    have hone : ∀ v ∈ ((xs.drop i).take (xs.length - (i + 1))).flatMap enc, v.oneCell' = true := fun u hu => by obtain ⟨x, _, hx⟩ := List.mem_flatMap.1 hu; exact h1 x u hx
    have hsum : (i + 1) * k + (xs.length - (i + 1)) * k = xs.length * k := by rw [← Nat.add_mul]; congr 1; omega
    have hf := run_firstCells_some (P := P) (w := w) k (xs.length - (i + 1)) ⟨b, 0 + i * k, none⟩ (xs.length - i) (cap - i) _ hld hsub
    have hst := run_storeCells_at P b (0 + (i + 1) * k) e (((xs.drop i).take (xs.length - (i + 1))).flatMap enc) 0 ⟨xs.flatMap enc ++ junk⟩ w hblk (by rw [List.size_toArray, List.length_append, hld]; omega) hone
    simp only [Nat.add_zero] at hst
    have hrun : (Builtin.copy_ #[t, t'] ty #[.slice (some ⟨b, 0 + (i + 1) * k, none⟩) (xs.length - (i + 1)) (cap - (i + 1)), .slice (some ⟨b, 0 + i * k, none⟩) (xs.length - i) (cap - i)]).run P w = .ok (goInt (xs.length - (i + 1) : Nat)) (w.setRow b ((xs.flatMap enc ++ junk).take (0 + (i + 1) * k) ++ ((xs.drop i).take (xs.length - (i + 1))).flatMap enc ++ (xs.flatMap enc ++ junk).drop (0 + (i + 1) * k + (((xs.drop i).take (xs.length - (i + 1))).flatMap enc).length)).toArray) := by
      generalize w.setRow b ((xs.flatMap enc ++ junk).take (0 + (i + 1) * k) ++ ((xs.drop i).take (xs.length - (i + 1))).flatMap enc ++ (xs.flatMap enc ++ junk).drop (0 + (i + 1) * k + (((xs.drop i).take (xs.length - (i + 1))).flatMap enc).length)).toArray = Z at hst ⊢
      simp only [Builtin.copy_, Sem.run_bind, run_underlying S.under, Builtin.lenOf, S.run_size, Result.andThen_ok, Sem.run_pure, hmin, hf, hst, List.getElem?_toArray, List.getElem?_cons_zero, List.getElem?_cons_succ]
    refine ⟨_, L', _, hexec _ _ _ _ _ _ _ _ hx hy hrun, ?_, h⟩
    have hh := setRow_heap_eq (cs' := ((xs.flatMap enc ++ junk).take (0 + (i + 1) * k) ++ ((xs.drop i).take (xs.length - (i + 1))).flatMap enc ++ (xs.flatMap enc ++ junk).drop (0 + (i + 1) * k + (((xs.drop i).take (xs.length - (i + 1))).flatMap enc).length)).toArray) hblk
    refine (Has.ownSet (cs1 := (xs.flatMap enc ++ junk).take (0 + (i + 1) * k) ++ ((xs.drop i).take (xs.length - (i + 1))).flatMap enc ++ (xs.flatMap enc ++ junk).drop (0 + (i + 1) * k + (((xs.drop i).take (xs.length - (i + 1))).flatMap enc).length)) (rest := (xs.flatMap enc ++ junk).drop (0 + (i + 1) * k + (((xs.drop i).take (xs.length - (i + 1))).flatMap enc).length)) hs2 hh rfl rfl rfl ?_ ?_ hc ?_).mono g2
    · rw [Nat.zero_add, List.take_append_of_le_length (by rw [hl]; exact Nat.mul_le_mul_right _ (by omega)), ← hft, List.flatMap_append]
    · rw [flat_len hk, List.length_append, List.length_take, List.length_take, List.length_drop]; congr 1; omega
    · have hlt : ((xs.flatMap enc ++ junk).take (0 + (i + 1) * k)).length = (i + 1) * k := by rw [List.length_take, List.length_append]; omega
      rw [List.length_append, List.length_append, hlt, List.length_drop, List.length_append, hld]
      omega
theorem flat_setW (hk : ∀ x, (enc x).length = k) : ∀ (xs : List α) (i : Nat) (u' : α), i < xs.length → (xs.set i u').flatMap enc = (xs.flatMap enc).take (i * k) ++ enc u' ++ (xs.flatMap enc).drop (i * k + k) := fun xs i u' hi => by
  rw [← flat_take hk, show i * k + k = (i + 1) * k by rw [Nat.add_mul]; omega, ← flat_drop hk, List.set_eq_take_append_cons_drop, if_pos hi]
  simp
/-- An element is written whole. -/
theorem OpJ.storeE (T : TI P t true k) (hx : E.ev x = some (.pointer (some ⟨b, 0 + i * k, none⟩))) (hy : E.ev y = some (.agg ⟨enc u'⟩)) (h1 : ∀ v ∈ enc u', v.oneCell' = true) (hi : i < xs.length) (hk : ∀ x, (enc x).length = k) (h0 : 0 < k)
    (p : Upd L (own e k (some ⟨b, 0, none⟩) n cap (xs.flatMap enc)) (own e k (some ⟨b, 0, none⟩) n cap ((xs.set i u').flatMap enc)) L') (h : K undef L') : OpJ P β E L ⟨d, .store t x y, ty, pos, af, g⟩ K :=
  OpJ.skips (fun a w ha hs => by
    obtain ⟨M, g1, g2⟩ := p.star
    have hs1 : Has β (star (own e k (some ⟨b, 0, none⟩) n cap (xs.flatMap enc)) (stars M)) w := Has.mono hs g1
    obtain ⟨b', junk, hb', hl, hc, hcap, hb, hs2⟩ := Sat.own hs1 (flat_ne hk h0 (List.getElem?_eq_getElem hi))
    obtain rfl : b = b' := by simpa using hb'
    have hlen := flat_len hk xs
    have hle : i * k + k ≤ (xs.flatMap enc).length := by
      rw [hlen]
      have := Nat.mul_le_mul_right k (show i + 1 ≤ xs.length from hi)
      rw [Nat.add_mul] at this; omega
    obtain ⟨w', hr, hh, ho, ht, hu'⟩ := run_storeVar_at T (v := .agg ⟨enc u'⟩) (vs := enc u') (by rfl) (hk u') (o := 0 + i * k) hb (by rw [List.length_append]; omega) h1
    refine ⟨w', by rw [Nat.zero_add] at hx hr; simp [execOp, ha.ev hx, ha.ev hy, Instr.storeAt, Instr.sureAddr, hr], ((hs2.setObj hh ho ht hu').mono fun hp => star_mono (fun h3 hp3 => ?_) fun _ => id).mono g2⟩
    have e1 : (xs.flatMap enc ++ junk).take (0 + i * k) ++ enc u' ++ (xs.flatMap enc ++ junk).drop (0 + i * k + k) = (xs.set i u').flatMap enc ++ junk := by
      rw [flat_setW hk xs i u' hi, Nat.zero_add, List.take_append_of_le_length (by omega), List.drop_append_of_le_length hle]; simp
    rw [e1] at hp3
    have e2 : ((xs.set i u').flatMap enc).length = (xs.flatMap enc).length := by rw [flat_len hk, hlen, List.length_set]
    exact ⟨by rw [e2]; exact hl, hc, .inr ⟨b, junk, rfl, by rw [e2]; exact hcap, hp3⟩⟩) h
end
/-- An empty row may be had for nothing. -/
theorem Has.ownNil {β : Base} {T : TypeId} {k : Nat} {A : HP} {w : World} (hs : Has β A w) : Has β (star (own T k none 0 0 []) A) w := by
  refine hs.mono fun h hA => ⟨fun _ => none, h, fun b => .inl rfl, ?_, own.nil fun _ => rfl, hA⟩
  funext b; simp [Hp.add]
section
variable {P : Program} {β : Base} {n : Nat} {arr : Array Oper} {os : List Oper} {E : Env} {L : List HP} {K : Env → List HP → Prop}
theorem RunL.ownNil (T : TypeId) (k : Nat) (h : RunL P β n arr os E (own T k none 0 0 [] :: L) K) : RunL P β n arr os E L K :=
  RunL.mapL (L' := own T k none 0 0 [] :: L) (fun w hs => Has.ownNil hs) h
end
end Go.SL

namespace Go.Proofs.YtdcchollplhioaaGreatDoor
open Go Go.SL Go.Proofs
theorem C155 : CI Tryz.prog 155 := .of (by kernel_rfl)
theorem C39 : CI Tryz.prog 39 := .of (by kernel_rfl)
theorem C72 : CI Tryz.prog 72 := .of (by kernel_rfl)
-- slices.Clone[[]api.Layer,api.Layer]
theorem ac72 (R : HP) (oa : Option Addr) (cap : Nat) (ls : List Ly) (hR : RdS R oa (ls.flatMap Ly.c)) (hlen : ls.length ≤ 1000000) : AC Tryz.prog 72 ⟨[.slice oa ls.length cap]⟩ (stars [R]) (Outs (fun _ : Option Addr × Nat => True) (fun x => .slice x.1 ls.length x.2) (fun x => [own 64 4 x.1 ls.length x.2 (ls.flatMap Ly.c), R])) := by
  refine AC.go Tryz.func72 rfl (Nat.le_of_ble_eq_true rfl) fun β => ?_
  refine sr ?_
  refine asg rfl rfl ?_
  refine kp [0] rfl ?_
  refine Run.seq ?_
  refine sr ?_
  refine mvo rfl rfl ?_
  refine RunL.op rfl rfl (OpJ.eqlNilSl S25 rfl ?_)
  refine kp [0, 4] rfl ?_
  first | refine Run.if rfl (fun h1 => ?_) (fun h1 => ?_) | refine Run.cond rfl (fun h1 => ?_) (fun h1 => ?_)
  · skip
    refine sr ?_
    by_cases hne : ls.flatMap Ly.c ≠ []
    · skip
      refine RunL.rdOpen pk hR hne fun b o e hrd => ?_
      rw [e] at h1
      cases h1
    obtain rfl : ls = [] := by
      cases ls with
      | nil => rfl
      | cons l ls => exact absurd (by simp [Ly.c]) hne
    refine RunL.ownNil 64 4 ?_
    refine asg rfl rfl ?_
    refine kp [2] rfl ?_
    refine Run.ret ?_
    exact ret_out (none, 0) (.tmp rfl .nil) trivial rfl gv
  · skip
    refine Run.skip ?_
    refine sr ?_
    refine RunL.op rfl rfl (OpJ.buildSlice0 S25 fun b5 => ?_)
    refine mvo rfl rfl ?_
    refine RunL.op rfl rfl (OpJ.appendAll S25 M64 rfl rfl pk pk hR (flat_len (enc := Ly.c) (k := 4) (fun _ => rfl) _) (by decide) (flat_one Ly.one _) (by omega) (by omega) fun a7 c7 => ?_)
    simp only [Nat.zero_add, List.nil_append]
    refine asg rfl rfl ?_
    refine kp [2] rfl ?_
    refine Run.ret ?_
    exact ret_out (a7, c7) (.tmp rfl .nil) trivial rfl gv
-- average.copied
theorem ac41 (s : Sk) (la : Option Addr) (lc : Nat) (pa : Option Addr) (pc : Nat) (RL RP : HP) (hn : s.layers.length ≤ 1000000 ∧ s.past.length ≤ 1000000) (hRL : RdS RL la (s.layers.flatMap Ly.c)) (hRP : RdS RP pa (s.past.flatMap Pa.c)) : AC Tryz.prog 41 ⟨[.agg ⟨s.c la lc pa pc⟩]⟩ (stars [RL, RP]) (Outs (fun _ : Option Addr × Nat × Nat => True) (fun x => .agg ⟨s.c x.1 x.2.1 (some ⟨x.2.2, 0, none⟩) s.past.length⟩) (fun x => [own 64 4 x.1 s.layers.length x.2.1 ((s.layers).flatMap Ly.c), own 66 7 (some ⟨x.2.2, 0, none⟩) s.past.length s.past.length ((s.past).flatMap Pa.c), RL, RP])) := by
  have hnl := hn.1; have hnp := hn.2
  refine AC.go Tryz.func41 rfl (Nat.le_of_ble_eq_true rfl) fun β => ?_
  refine sr ?_
  refine RunL.op rfl rfl (OpJ.boxA rfl fun b1 => ?_)
  refine RunL.op rfl rfl (OpJ.alloc Z28 fun b2 => ?_)
  refine kp [1, 2] rfl ?_
  refine sr ?_
  refine RunL.op rfl rfl (OpJ.fieldAddr F28_4 rfl ?_)
  first | refine RunL.op rfl rfl (OpJ.loadF T26 rfl pk (by rfl) ?_) | refine RunL.op rfl rfl (OpJ.loadO T26 rfl pk (by assumption) (by rfl) (by exact fun _ => rfl) ?_)
  refine RunL.op rfl rfl (OpJ.len S26 rfl ?_)
  refine RunL.op rfl rfl (OpJ.make S26 M66 rfl rfl (by omega) (by omega) fun b7 => ?_)
  refine asg rfl rfl ?_
  refine kp [1, 2, 3] rfl ?_
  refine sr ?_
  refine mvo rfl rfl ?_
  refine RunL.op rfl rfl (OpJ.fieldAddr F28_4 rfl ?_)
  first | refine RunL.op rfl rfl (OpJ.loadF T26 rfl pk (by rfl) ?_) | refine RunL.op rfl rfl (OpJ.loadO T26 rfl pk (by assumption) (by rfl) (by exact fun _ => rfl) ?_)
  refine RunL.op rfl rfl (OpJ.copyAll S26 rfl rfl up pk hRP (flat_len (enc := Pa.c) (k := 7) (fun _ => rfl) _) (by simp) (flat_one Pa.one _) ?_)
  refine kp [1, 2, 3] rfl ?_
  refine sr ?_
  refine mvo rfl rfl ?_
  refine RunL.op rfl rfl (OpJ.fieldAddr F28_4 rfl ?_)
  refine RunL.op rfl rfl (OpJ.store1 T26 rfl rfl rfl up (by simp) ?_)
  refine kp [1, 2] rfl ?_
  refine sr ?_
  refine RunL.op rfl rfl (OpJ.fieldAddr F28_3 rfl ?_)
  first | refine RunL.op rfl rfl (OpJ.loadF T25 rfl pk (by rfl) ?_) | refine RunL.op rfl rfl (OpJ.loadO T25 rfl pk (by assumption) (by rfl) (by exact fun _ => rfl) ?_)
  refine RunL.callX C72 rfl rfl rfl (ac72 RL la lc s.layers hRL hnl) tks fun ⟨l2, c2⟩ _ => ?_
  refine RunL.op rfl rfl (OpJ.fieldAddr F28_3 rfl ?_)
  refine RunL.op rfl rfl (OpJ.store1 T25 rfl rfl rfl up (by simp) ?_)
  refine kp [1, 2] rfl ?_
  refine sr ?_
  first | refine RunL.op rfl rfl (OpJ.loadW T28 rfl pk (by rfl) ?_) | refine RunL.op rfl rfl (OpJ.loadP T28 rfl pk (by simp) ?_) | refine RunL.op rfl rfl (OpJ.loadE T28 rfl pk (by assumption) (by exact fun _ => rfl) rfl (by decide) ?_)
  refine RunL.op rfl rfl (OpJ.storeW T28 rfl rfl rfl rfl (by simp [Value.oneCell', Pa.c, Ly.c, Mv.c, Co.c]) up ?_)
  refine kp [2] rfl ?_
  refine Run.ret ?_
  exact ret_out (l2, c2, b7) (.cellA T28 rfl pk (by rfl) .nil) trivial rfl gv
-- average.referred
theorem ac114 (bx : Nat) (t : Sk) (m : Mv) (la : Option Addr) (nl lc : Nat) (pa : Option Addr) (np pc : Nat) (kind : Int) (enp : np = t.past.length) (hk : kind ≠ 0) (hn : t.past.length ≤ 1000000) : AC Tryz.prog 114 ⟨[.pointer (some ⟨bx, 0, none⟩), .agg ⟨m.c⟩, I kind]⟩ (stars [pt bx (blk (SC t la nl lc pa np pc) 28), own 66 7 pa np pc ((t.past).flatMap Pa.c)]) (Ret (.tuple ⟨[I (okIdx (refd kind m t.past)), I (errOf (refd kind m t.past))]⟩) [pt bx (blk (SC t la nl lc pa np pc) 28), own 66 7 pa np pc ((t.past).flatMap Pa.c)]) := by
  subst enp
  refine AC.go Tryz.func114 rfl (Nat.le_of_ble_eq_true rfl) fun β => ?_
  refine sr ?_
  refine RunL.op rfl rfl (OpJ.boxA rfl fun b4 => ?_)
  refine RunL.op rfl rfl (OpJ.box rfl rfl fun b5 => ?_)
  refine asg rfl rfl ?_
  refine asg rfl rfl ?_
  refine kp [0, 4, 5] rfl ?_
  refine sr ?_
  refine mvo rfl rfl ?_
  refine RunL.op rfl rfl (OpJ.nilCheck rfl ?_)
  refine RunL.op rfl rfl (OpJ.fieldAddr F28_4 rfl ?_)
  first | refine RunL.op rfl rfl (OpJ.loadF T26 rfl pk (by rfl) ?_) | refine RunL.op rfl rfl (OpJ.loadO T26 rfl pk (by assumption) (by rfl) (by exact fun _ => rfl) ?_)
  refine RunL.op rfl rfl (OpJ.makeFunc rfl rfl ?_)
  refine RunL.pack (A := pt b4 (blk m.c 47)) (B := pt b5 (blk [I kind] 3)) pk pk ?_
  refine RunL.call C39 rfl rfl rfl (ac39 (own 66 7 pa t.past.length pc ((t.past).flatMap Pa.c)) (star (pt b4 (blk m.c 47)) (pt b5 (blk [I kind] 3))) 155 [.pointer (some ⟨b4, 0, none⟩), .pointer (some ⟨b5, 0, none⟩)] (isPast kind m.ref) pa pc t.past own.rds hn C155 (fun p => ac155 b4 b5 m kind p hk)) tks ?_
  refine RunL.unpack (A := pt b4 (blk m.c 47)) (B := pt b5 (blk [I kind] 3)) pk ?_
  refine asg rfl rfl ?_
  refine kp [0, 4, 6] rfl ?_
  refine Run.seq ?_
  refine sr ?_
  refine mvo rfl rfl ?_
  refine RunL.op rfl rfl (OpJ.lss rfl rfl ?_)
  rcases hf : findI (isPast kind m.ref) t.past with _ | ⟨i, p⟩
  · skip
    refine kp [0, 4, 6, 16] rfl ?_
    refine Run.true rfl ?_
    refine sr ?_
    refine asg rfl rfl ?_
    refine asg rfl rfl ?_
    refine kp [6, 7] rfl ?_
    refine Run.ret ?_
    exact ret_one (.tmp rfl (.tmp rfl .nil)) (by simp [tup, refd, hf, okIdx, errOf, idxOf, *]) gv
  · skip
    obtain ⟨hx, _⟩ := findI_some hf
    have hi := (List.getElem?_eq_some_iff.1 hx).1
    refine RunL.ownAddr pk (flat_ne (k := 7) (fun _ => rfl) (by decide) hx) fun b e hcap => ?_
    subst e
    simp only [idxOf]
    refine RunL.set (congrArg Value.bool (decide_eq_false (show ¬ ((i : Int) < 0) by omega))) ?_
    refine kp [0, 4, 6, 16] rfl ?_
    refine Run.false rfl ?_
    refine Run.skip ?_
    refine Run.seq ?_
    refine sr ?_
    refine mvo rfl rfl ?_
    refine RunL.op rfl rfl (OpJ.nilCheck rfl ?_)
    refine RunL.op rfl rfl (OpJ.fieldAddr F28_4 rfl ?_)
    first | refine RunL.op rfl rfl (OpJ.loadF T26 rfl pk (by rfl) ?_) | refine RunL.op rfl rfl (OpJ.loadO T26 rfl pk (by assumption) (by rfl) (by exact fun _ => rfl) ?_)
    refine mvo rfl rfl ?_
    refine RunL.op rfl rfl (OpJ.indexAddr S26 rfl rfl (by omega) ?_)
    first | refine RunL.op rfl rfl (OpJ.loadW T66 rfl pk (by rfl) ?_) | refine RunL.op rfl rfl (OpJ.loadP T66 rfl pk (by simp) ?_) | refine RunL.op rfl rfl (OpJ.loadE T66 rfl pk (by assumption) (by exact fun _ => rfl) rfl (by decide) ?_)
    refine RunL.op rfl rfl (OpJ.alloc Z66 fun b8 => ?_)
    refine RunL.op rfl rfl (OpJ.storeW T66 rfl rfl rfl rfl (by simp [Value.oneCell', Pa.c, Ly.c, Mv.c, Co.c]) up ?_)
    refine kp [4, 6, 8] rfl ?_
    refine sr ?_
    refine RunL.op rfl rfl (OpJ.fieldAddr F47_4 rfl ?_)
    first | refine RunL.op rfl rfl (OpJ.loadF T3 rfl pk (by rfl) ?_) | refine RunL.op rfl rfl (OpJ.loadO T3 rfl pk (by assumption) (by rfl) (by exact fun _ => rfl) ?_)
    refine RunL.op rfl rfl (OpJ.fieldAddr F66_3 rfl ?_)
    first | refine RunL.op rfl rfl (OpJ.loadF T3 rfl pk (by rfl) ?_) | refine RunL.op rfl rfl (OpJ.loadO T3 rfl pk (by assumption) (by rfl) (by exact fun _ => rfl) ?_)
    refine RunL.op rfl rfl (OpJ.fieldAddr F66_5 rfl ?_)
    first | refine RunL.op rfl rfl (OpJ.loadF T3 rfl pk (by rfl) ?_) | refine RunL.op rfl rfl (OpJ.loadO T3 rfl pk (by assumption) (by rfl) (by exact fun _ => rfl) ?_)
    refine RunL.op rfl rfl (OpJ.sub rfl rfl ?_)
    refine RunL.op rfl rfl (OpJ.gtr rfl rfl ?_)
    refine kp [6, 31] rfl ?_
    first | refine Run.if rfl (fun h1 => ?_) (fun h1 => ?_) | refine Run.cond rfl (fun h1 => ?_) (fun h1 => ?_)
    · skip
      refine sr ?_
      refine asg rfl rfl ?_
      refine asg rfl rfl ?_
      refine kp [6, 7] rfl ?_
      refine Run.ret ?_
      exact ret_one (.tmp rfl (.tmp rfl .nil)) (by simp [tup, refd, hf, okIdx, errOf, idxOf, *]) gv
    · skip
      refine Run.skip ?_
      refine sr ?_
      refine mvo rfl rfl ?_
      refine asg rfl rfl ?_
      refine asg rfl rfl ?_
      refine kp [6, 7] rfl ?_
      refine Run.ret ?_
      exact ret_one (.tmp rfl (.tmp rfl .nil)) (by simp [tup, refd, hf, okIdx, errOf, idxOf, *]) gv
end Go.Proofs.YtdcchollplhioaaGreatDoor

namespace Go.Proofs.YtdcchollplhioaaGreatDoor
open Go Go.SL Go.Proofs
theorem C113 : CI Tryz.prog 113 := .of (by kernel_rfl)
theorem C114 : CI Tryz.prog 114 := .of (by kernel_rfl)
-- average.receive
theorem ac73 (bx : Nat) (t : Sk) (m : Mv) (la : Option Addr) (nl lc : Nat) (pa : Option Addr) (np pc : Nat) (enp : np = t.past.length) (ht : t.ok 999999) (hm : m.ok) : AC Tryz.prog 73 ⟨[.pointer (some ⟨bx, 0, none⟩), .agg ⟨m.c⟩]⟩ (stars [pt bx (blk (SC t la nl lc pa np pc) 28), own 66 7 pa np pc ((t.past).flatMap Pa.c)]) (Outs (fun _ : Option Addr × Nat => True) (fun _ => .agg ⟨(avC (aRecv t m)).c⟩) (fun x => AvB 28 66 bx la nl lc t (aRecv t m) x)) := by
  subst enp
  have hn : t.past.length ≤ 1000000 := Nat.le_trans ht.np (by decide)
  have hnp := ht.np
  obtain ⟨hm1, hm2⟩ := hm
  refine AC.go Tryz.func73 rfl (Nat.le_of_ble_eq_true rfl) fun β => ?_
  refine sr ?_
  refine RunL.op rfl rfl (OpJ.boxA rfl fun b3 => ?_)
  refine RunL.op rfl rfl (OpJ.alloc Z43 fun b4 => ?_)
  refine kp [0, 3, 4] rfl ?_
  refine Run.seq ?_
  refine regionD HM ?_
  refine tk 0 rfl rfl rfl (DetJ.move rfl) ?_
  refine tk 1 rfl rfl rfl (DetJ.move rfl) ?_
  refine tk 2 rfl rfl rfl (DetJ.nilCheck rfl) ?_
  refine tk 3 rfl rfl rfl (DetJ.fieldAddr F28_4 rfl) ?_
  first | refine RunD.takeF 4 rfl rfl kr T26 rfl pk (by rfl) ?_ | refine RunD.takeO 4 rfl rfl kr T26 rfl pk (by assumption) (by rfl) (by exact fun _ => rfl) ?_
  refine tk 5 rfl rfl rfl (DetJ.fieldAddr F47_0 rfl) ?_
  first | refine RunD.takeF 6 rfl rfl kr T3 rfl pk (by rfl) ?_ | refine RunD.takeO 6 rfl rfl kr T3 rfl pk (by assumption) (by rfl) (by exact fun _ => rfl) ?_
  refine tk 7 rfl rfl rfl (DetJ.fieldAddr F47_3 rfl) ?_
  first | refine RunD.takeF 8 rfl rfl kr T3 rfl pk (by rfl) ?_ | refine RunD.takeO 8 rfl rfl kr T3 rfl pk (by assumption) (by rfl) (by exact fun _ => rfl) ?_
  refine tk 9 rfl rfl rfl (DetJ.fieldAddr F47_6 rfl) ?_
  first | refine RunD.takeF 10 rfl rfl kr T9 rfl pk (by rfl) ?_ | refine RunD.takeO 10 rfl rfl kr T9 rfl pk (by assumption) (by rfl) (by exact fun _ => rfl) ?_
  refine tk 11 rfl rfl rfl (DetJ.fieldAddr F47_4 rfl) ?_
  first | refine RunD.takeF 12 rfl rfl kr T3 rfl pk (by rfl) ?_ | refine RunD.takeO 12 rfl rfl kr T3 rfl pk (by assumption) (by rfl) (by exact fun _ => rfl) ?_
  refine tk 13 rfl rfl rfl (DetJ.fieldAddr F47_5 rfl) ?_
  first | refine RunD.takeF 14 rfl rfl kr T3 rfl pk (by rfl) ?_ | refine RunD.takeO 14 rfl rfl kr T3 rfl pk (by assumption) (by rfl) (by exact fun _ => rfl) ?_
  refine RunD.takeB 15 rfl rfl kr B66 rfl rfl fun cs hcs => ?_
  simp only [Sk.c, Mv.c, Co.c, bldL, bldA, Value.cells, bs, Nat.reduceAdd, Nat.reduceLeDiff, Nat.reduceLT] at hcs; subst hcs
  refine RunD.op 16 [false, false, false, false, false, false, false, false, false, false, false, true, true, true, true, true] rfl rfl rfl kr kr (OpJ.buildSlice1 S26 rfl rfl rfl (by decide) (by decide) Z66 rfl fun b21 => ⟨po, ?_⟩)
  refine RunD.op 17 [false, false, false, true, true] rfl rfl rfl kr kr (OpJ.append1 (⟨m.seq, m.kind, m.lot, m.qty, m.cost, 0, 0⟩ : Pa) S26 M66 rfl rfl pk pk rfl rfl (by simp [Value.oneCell', Pa.c, Ly.c, Mv.c, Co.c]) rfl (by omega) (by omega) fun a22 c22 => ⟨po, ?_⟩)
  refine tk 18 rfl rfl rfl (DetJ.nilCheck rfl) ?_
  refine tk 19 rfl rfl rfl (DetJ.fieldAddr F28_4 rfl) ?_
  refine RunD.op 20 [false, false, false, false] rfl rfl rfl kr kr (OpJ.store1 T26 rfl rfl rfl up (by simp) ⟨po, ?_⟩)
  refine kd [3, 4] rfl ?_
  refine sr ?_
  refine RunL.op rfl rfl (OpJ.fieldAddr F47_0 rfl ?_)
  first | refine RunL.op rfl rfl (OpJ.loadF T3 rfl pk (by rfl) ?_) | refine RunL.op rfl rfl (OpJ.loadO T3 rfl pk (by assumption) (by rfl) (by exact fun _ => rfl) ?_)
  refine RunL.op rfl rfl (OpJ.fieldAddr F47_4 rfl ?_)
  first | refine RunL.op rfl rfl (OpJ.loadF T3 rfl pk (by rfl) ?_) | refine RunL.op rfl rfl (OpJ.loadO T3 rfl pk (by assumption) (by rfl) (by exact fun _ => rfl) ?_)
  refine RunL.op rfl rfl (OpJ.fieldAddr F47_5 rfl ?_)
  first | refine RunL.op rfl rfl (OpJ.loadF T3 rfl pk (by rfl) ?_) | refine RunL.op rfl rfl (OpJ.loadO T3 rfl pk (by assumption) (by rfl) (by exact fun _ => rfl) ?_)
  refine RunL.op rfl rfl (OpJ.build B43 rfl rfl fun cs hcs => ?_)
  simp only [Sk.c, Mv.c, Co.c, bldL, bldA, Value.cells, bs, Nat.reduceAdd, Nat.reduceLeDiff, Nat.reduceLT] at hcs; subst hcs
  refine RunL.op rfl rfl (OpJ.storeW T43 rfl rfl rfl rfl (by simp [Value.oneCell', Pa.c, Ly.c, Mv.c, Co.c]) up ?_)
  refine kp [4] rfl ?_
  refine Run.ret ?_
  have hres : aRecv t m = .ok _ := (by unfold aRecv; rfl); refine ret_out (a22, c22) (.cellA T43 rfl pk (by rfl) .nil) trivial (by rw [hres]; rfl) ?_; rw [hres]; simp only [AvB, List.length_set, List.length_append]; exact gv
-- average.issue
theorem ac74 (bx : Nat) (t : Sk) (m : Mv) (la : Option Addr) (nl lc : Nat) (pa : Option Addr) (np pc : Nat) (enp : np = t.past.length) (ht : t.ok 999999) (hm : m.ok) : AC Tryz.prog 74 ⟨[.pointer (some ⟨bx, 0, none⟩), .agg ⟨m.c⟩]⟩ (stars [pt bx (blk (SC t la nl lc pa np pc) 28), own 66 7 pa np pc ((t.past).flatMap Pa.c)]) (Outs (fun _ : Option Addr × Nat => True) (fun _ => AvV (aIssue t m)) (fun x => AvB 28 66 bx la nl lc t (aIssue t m) x)) := by
  subst enp
  have hn : t.past.length ≤ 1000000 := Nat.le_trans ht.np (by decide)
  have hnp := ht.np
  obtain ⟨hm1, hm2⟩ := hm
  refine AC.go Tryz.func74 rfl (Nat.le_of_ble_eq_true rfl) fun β => ?_
  refine sr ?_
  refine RunL.op rfl rfl (OpJ.boxA rfl fun b3 => ?_)
  refine RunL.op rfl rfl (OpJ.alloc Z43 fun b4 => ?_)
  refine asg rfl rfl ?_
  refine kp [0, 3, 4] rfl ?_
  refine Run.seq ?_
  refine Run.seq ?_
  refine regionD HM ?_
  refine tk 0 rfl rfl rfl (DetJ.move rfl) ?_
  refine tk 1 rfl rfl rfl (DetJ.nilCheck rfl) ?_
  refine tk 2 rfl rfl rfl (DetJ.fieldAddr F28_0 rfl) ?_
  first | refine RunD.takeF 3 rfl rfl kr T3 rfl pk (by rfl) ?_ | refine RunD.takeO 3 rfl rfl kr T3 rfl pk (by assumption) (by rfl) (by exact fun _ => rfl) ?_
  refine tk 4 rfl rfl rfl (DetJ.fieldAddr F47_4 rfl) ?_
  first | refine RunD.takeF 5 rfl rfl kr T3 rfl pk (by rfl) ?_ | refine RunD.takeO 5 rfl rfl kr T3 rfl pk (by assumption) (by rfl) (by exact fun _ => rfl) ?_
  refine tk 6 rfl rfl rfl (DetJ.lss rfl rfl) ?_
  refine kd [0, 3, 4, 13] rfl ?_
  first | refine Run.if rfl (fun h1 => ?_) (fun h1 => ?_) | refine Run.cond rfl (fun h1 => ?_) (fun h1 => ?_)
  · skip
    refine sr ?_
    refine RunL.op rfl rfl (OpJ.build B43 rfl rfl fun cs hcs => ?_)
    simp only [Sk.c, Mv.c, Co.c, bldL, bldA, Value.cells, bs, Nat.reduceAdd, Nat.reduceLeDiff, Nat.reduceLT] at hcs; subst hcs
    refine RunL.op rfl rfl (OpJ.storeW T43 rfl rfl rfl rfl (by simp [Value.oneCell', Pa.c, Ly.c, Mv.c, Co.c]) up ?_)
    refine asg rfl rfl ?_
    refine kp [4, 5] rfl ?_
    refine Run.ret ?_
    have hres : aIssue t m = .error _ := (by unfold aIssue; rw [if_pos h1]); refine ret_out (pa, pc) (.cellA T43 rfl pk (by rfl) (.tmp rfl .nil)) trivial (by rw [hres]; rfl) ?_; rw [hres]; exact gv
  · skip
    refine Run.skip ?_
    refine Run.seq ?_
    refine regionD HM ?_
    refine tk 0 rfl rfl rfl (DetJ.move rfl) ?_
    refine tk 1 rfl rfl rfl (DetJ.nilCheck rfl) ?_
    refine tk 2 rfl rfl rfl (DetJ.fieldAddr F28_1 rfl) ?_
    first | refine RunD.takeF 3 rfl rfl kr T3 rfl pk (by rfl) ?_ | refine RunD.takeO 3 rfl rfl kr T3 rfl pk (by assumption) (by rfl) (by exact fun _ => rfl) ?_
    refine tk 4 rfl rfl rfl (DetJ.fieldAddr F47_4 rfl) ?_
    first | refine RunD.takeF 5 rfl rfl kr T3 rfl pk (by rfl) ?_ | refine RunD.takeO 5 rfl rfl kr T3 rfl pk (by assumption) (by rfl) (by exact fun _ => rfl) ?_
    refine tk 6 rfl rfl rfl (DetJ.move rfl) ?_
    refine tk 7 rfl rfl rfl (DetJ.nilCheck rfl) ?_
    refine tk 8 rfl rfl rfl (DetJ.fieldAddr F28_0 rfl) ?_
    first | refine RunD.takeF 9 rfl rfl kr T3 rfl pk (by rfl) ?_ | refine RunD.takeO 9 rfl rfl kr T3 rfl pk (by assumption) (by rfl) (by exact fun _ => rfl) ?_
    refine RunD.op 10 [false, false, false, true, false, false, false, false, false, true] rfl rfl rfl kr kr (OpJ.callRet C113 rfl rfl (ac113 _ _ _ ht.v hm1 ht.q) .nil ⟨po, ?_⟩)
    refine tk 11 rfl rfl rfl (DetJ.assign rfl) ?_
    refine kd [0, 3, 4, 6] rfl ?_
    refine Run.seq ?_
    refine regionD HM ?_
    refine tk 0 rfl rfl rfl (DetJ.move rfl) ?_
    refine tk 1 rfl rfl rfl (DetJ.move rfl) ?_
    refine tk 2 rfl rfl rfl (DetJ.nilCheck rfl) ?_
    refine tk 3 rfl rfl rfl (DetJ.fieldAddr F28_4 rfl) ?_
    first | refine RunD.takeF 4 rfl rfl kr T26 rfl pk (by rfl) ?_ | refine RunD.takeO 4 rfl rfl kr T26 rfl pk (by assumption) (by rfl) (by exact fun _ => rfl) ?_
    refine tk 5 rfl rfl rfl (DetJ.fieldAddr F47_0 rfl) ?_
    first | refine RunD.takeF 6 rfl rfl kr T3 rfl pk (by rfl) ?_ | refine RunD.takeO 6 rfl rfl kr T3 rfl pk (by assumption) (by rfl) (by exact fun _ => rfl) ?_
    refine tk 7 rfl rfl rfl (DetJ.fieldAddr F47_3 rfl) ?_
    first | refine RunD.takeF 8 rfl rfl kr T3 rfl pk (by rfl) ?_ | refine RunD.takeO 8 rfl rfl kr T3 rfl pk (by assumption) (by rfl) (by exact fun _ => rfl) ?_
    refine tk 9 rfl rfl rfl (DetJ.fieldAddr F47_6 rfl) ?_
    first | refine RunD.takeF 10 rfl rfl kr T9 rfl pk (by rfl) ?_ | refine RunD.takeO 10 rfl rfl kr T9 rfl pk (by assumption) (by rfl) (by exact fun _ => rfl) ?_
    refine tk 11 rfl rfl rfl (DetJ.fieldAddr F47_4 rfl) ?_
    first | refine RunD.takeF 12 rfl rfl kr T3 rfl pk (by rfl) ?_ | refine RunD.takeO 12 rfl rfl kr T3 rfl pk (by assumption) (by rfl) (by exact fun _ => rfl) ?_
    refine tk 13 rfl rfl rfl (DetJ.move rfl) ?_
    refine RunD.takeB 14 rfl rfl kr B66 rfl rfl fun cs hcs => ?_
    simp only [Sk.c, Mv.c, Co.c, bldL, bldA, Value.cells, bs, Nat.reduceAdd, Nat.reduceLeDiff, Nat.reduceLT] at hcs; subst hcs
    refine RunD.op 15 [false, false, false, false, false, false, false, false, false, false, true, true, true, true, true] rfl rfl rfl kr kr (OpJ.buildSlice1 S26 rfl rfl rfl (by decide) (by decide) Z66 rfl fun b41 => ⟨po, ?_⟩)
    refine RunD.op 16 [false, false, false, true, true] rfl rfl rfl kr kr (OpJ.append1 (⟨m.seq, m.kind, m.lot, m.qty, avgV t m, 0, 0⟩ : Pa) S26 M66 rfl rfl pk pk rfl rfl (by simp [Value.oneCell', Pa.c, Ly.c, Mv.c, Co.c]) rfl (by omega) (by omega) fun a42 c42 => ⟨po, ?_⟩)
    refine tk 17 rfl rfl rfl (DetJ.nilCheck rfl) ?_
    refine tk 18 rfl rfl rfl (DetJ.fieldAddr F28_4 rfl) ?_
    refine RunD.op 19 [false, false, false, false] rfl rfl rfl kr kr (OpJ.store1 T26 rfl rfl rfl up (by simp) ⟨po, ?_⟩)
    refine kd [3, 4, 6] rfl ?_
    refine sr ?_
    refine RunL.op rfl rfl (OpJ.fieldAddr F47_0 rfl ?_)
    first | refine RunL.op rfl rfl (OpJ.loadF T3 rfl pk (by rfl) ?_) | refine RunL.op rfl rfl (OpJ.loadO T3 rfl pk (by assumption) (by rfl) (by exact fun _ => rfl) ?_)
    refine RunL.op rfl rfl (OpJ.fieldAddr F47_4 rfl ?_)
    first | refine RunL.op rfl rfl (OpJ.loadF T3 rfl pk (by rfl) ?_) | refine RunL.op rfl rfl (OpJ.loadO T3 rfl pk (by assumption) (by rfl) (by exact fun _ => rfl) ?_)
    refine RunL.op rfl rfl (OpJ.neg rfl ?_)
    refine mvo rfl rfl ?_
    refine RunL.op rfl rfl (OpJ.neg rfl ?_)
    refine RunL.op rfl rfl (OpJ.build B43 rfl rfl fun cs hcs => ?_)
    simp only [Sk.c, Mv.c, Co.c, bldL, bldA, Value.cells, bs, Nat.reduceAdd, Nat.reduceLeDiff, Nat.reduceLT] at hcs; subst hcs
    refine RunL.op rfl rfl (OpJ.storeW T43 rfl rfl rfl rfl (by simp [Value.oneCell', Pa.c, Ly.c, Mv.c, Co.c]) up ?_)
    refine asg rfl rfl ?_
    refine kp [4, 5] rfl ?_
    refine Run.ret ?_
    have hres : aIssue t m = .ok _ := (by unfold aIssue; rw [if_neg h1]); refine ret_out (a42, c42) (.cellA T43 rfl pk (by rfl) (.tmp rfl .nil)) trivial (by rw [hres]; rfl) ?_; rw [hres]; simp only [AvB, List.length_set, List.length_append]; exact gv
-- average.back
theorem ac75 (bx : Nat) (t : Sk) (m : Mv) (la : Option Addr) (nl lc : Nat) (pa : Option Addr) (np pc : Nat) (enp : np = t.past.length) (ht : t.ok 999999) (hm : m.ok) : AC Tryz.prog 75 ⟨[.pointer (some ⟨bx, 0, none⟩), .agg ⟨m.c⟩]⟩ (stars [pt bx (blk (SC t la nl lc pa np pc) 28), own 66 7 pa np pc ((t.past).flatMap Pa.c)]) (Outs (fun _ : Option Addr × Nat => True) (fun _ => AvV (aBack t m)) (fun x => AvB 28 66 bx la nl lc t (aBack t m) x)) := by
  subst enp
  have hn : t.past.length ≤ 1000000 := Nat.le_trans ht.np (by decide)
  have hnp := ht.np
  obtain ⟨hm1, hm2⟩ := hm
  refine AC.go Tryz.func75 rfl (Nat.le_of_ble_eq_true rfl) fun β => ?_
  refine sr ?_
  refine RunL.op rfl rfl (OpJ.boxA rfl fun b3 => ?_)
  refine RunL.op rfl rfl (OpJ.alloc Z43 fun b4 => ?_)
  refine asg rfl rfl ?_
  refine kp [0, 3, 4] rfl ?_
  refine sr ?_
  refine mvo rfl rfl ?_
  first | refine RunL.op rfl rfl (OpJ.loadW T47 rfl pk (by rfl) ?_) | refine RunL.op rfl rfl (OpJ.loadP T47 rfl pk (by simp) ?_) | refine RunL.op rfl rfl (OpJ.loadE T47 rfl pk (by assumption) (by exact fun _ => rfl) rfl (by decide) ?_)
  refine RunL.call C114 rfl rfl rfl (ac114 bx t m la nl lc pa _ pc _ rfl (by decide) hn) tks ?_
  refine mvo rfl rfl ?_
  refine RunL.op rfl rfl (OpJ.extract rfl rfl ?_)
  refine RunL.op rfl rfl (OpJ.extract rfl rfl ?_)
  refine asg rfl rfl ?_
  refine asg rfl rfl ?_
  refine kp [0, 3, 4, 5, 6] rfl ?_
  refine Run.seq ?_
  refine sr ?_
  refine mvo rfl rfl ?_
  refine RunL.op rfl rfl (OpJ.neq rfl rfl ?_)
  refine kp [0, 3, 4, 5, 6, 16] rfl ?_
  first | refine Run.if rfl (fun h1 => ?_) (fun h1 => ?_) | refine Run.cond rfl (fun h1 => ?_) (fun h1 => ?_)
  · skip
    refine sr ?_
    obtain ⟨e, he⟩ := errOf_ne h1
    refine RunL.op rfl rfl (OpJ.build B43 rfl rfl fun cs hcs => ?_)
    simp only [Sk.c, Mv.c, Co.c, bldL, bldA, Value.cells, bs, Nat.reduceAdd, Nat.reduceLeDiff, Nat.reduceLT] at hcs; subst hcs
    refine mvo rfl rfl ?_
    refine RunL.op rfl rfl (OpJ.storeW T43 rfl rfl rfl rfl (by simp [Value.oneCell', Pa.c, Ly.c, Mv.c, Co.c]) up ?_)
    refine asg rfl rfl ?_
    refine kp [4, 5] rfl ?_
    refine Run.ret ?_
    have hres : aBack t m = .error e := (by unfold aBack; rw [he]); rw [he]; refine ret_out (pa, pc) (.cellA T43 rfl pk (by rfl) (.tmp rfl .nil)) trivial (by rw [hres]; rfl) ?_; rw [hres]; exact gv
  · skip
    refine Run.skip ?_
    refine sr ?_
    obtain ⟨i, p, hr, hx⟩ := refd_ok (Decidable.not_not.1 h1)
    rw [hr]
    have hi := (List.getElem?_eq_some_iff.1 hx).1
    obtain ⟨hp1, hp2, hp3, hp4⟩ := ht.pa i p hx
    refine RunL.ownAddr pk (flat_ne (k := 7) (fun _ => rfl) (by decide) hx) fun b e hcap => ?_
    subst e
    simp only [okIdx]
    refine mvo rfl rfl ?_
    refine RunL.op rfl rfl (OpJ.nilCheck rfl ?_)
    refine RunL.op rfl rfl (OpJ.fieldAddr F28_4 rfl ?_)
    first | refine RunL.op rfl rfl (OpJ.loadF T26 rfl pk (by rfl) ?_) | refine RunL.op rfl rfl (OpJ.loadO T26 rfl pk (by assumption) (by rfl) (by exact fun _ => rfl) ?_)
    refine mvo rfl rfl ?_
    refine RunL.op rfl rfl (OpJ.indexAddr S26 rfl rfl (by omega) ?_)
    refine asg rfl rfl ?_
    refine kp [3, 4, 7] rfl ?_
    refine Run.seq ?_
    refine regionD HM ?_
    refine tk 0 rfl rfl rfl (DetJ.move rfl) ?_
    refine tk 1 rfl rfl rfl (DetJ.nilCheck rfl) ?_
    refine tk 2 rfl rfl rfl (DetJ.fieldAddr F66_4 rfl) ?_
    first | refine RunD.takeF 3 rfl rfl kr T3 rfl pk (by rfl) ?_ | refine RunD.takeO 3 rfl rfl kr T3 rfl pk (by assumption) (by rfl) (by exact fun _ => rfl) ?_
    refine tk 4 rfl rfl rfl (DetJ.move rfl) ?_
    refine tk 5 rfl rfl rfl (DetJ.nilCheck rfl) ?_
    refine tk 6 rfl rfl rfl (DetJ.fieldAddr F66_6 rfl) ?_
    first | refine RunD.takeF 7 rfl rfl kr T3 rfl pk (by rfl) ?_ | refine RunD.takeO 7 rfl rfl kr T3 rfl pk (by assumption) (by rfl) (by exact fun _ => rfl) ?_
    refine tk 8 rfl rfl rfl (DetJ.sub rfl rfl) ?_
    refine tk 9 rfl rfl rfl (DetJ.fieldAddr F47_4 rfl) ?_
    first | refine RunD.takeF 10 rfl rfl kr T3 rfl pk (by rfl) ?_ | refine RunD.takeO 10 rfl rfl kr T3 rfl pk (by assumption) (by rfl) (by exact fun _ => rfl) ?_
    refine tk 11 rfl rfl rfl (DetJ.move rfl) ?_
    refine tk 12 rfl rfl rfl (DetJ.nilCheck rfl) ?_
    refine tk 13 rfl rfl rfl (DetJ.fieldAddr F66_3 rfl) ?_
    first | refine RunD.takeF 14 rfl rfl kr T3 rfl pk (by rfl) ?_ | refine RunD.takeO 14 rfl rfl kr T3 rfl pk (by assumption) (by rfl) (by exact fun _ => rfl) ?_
    refine tk 15 rfl rfl rfl (DetJ.move rfl) ?_
    refine tk 16 rfl rfl rfl (DetJ.nilCheck rfl) ?_
    refine tk 17 rfl rfl rfl (DetJ.fieldAddr F66_5 rfl) ?_
    first | refine RunD.takeF 18 rfl rfl kr T3 rfl pk (by rfl) ?_ | refine RunD.takeO 18 rfl rfl kr T3 rfl pk (by assumption) (by rfl) (by exact fun _ => rfl) ?_
    refine tk 19 rfl rfl rfl (DetJ.sub rfl rfl) ?_
    refine RunD.op 20 [false, false, false, true, true, false, false, true, true, false, false, false, false, false, true, true, false, false, true, true] rfl rfl rfl kr kr (OpJ.callRet C113 rfl rfl (ac113 _ _ _ (W_i64 _) hm1 (W_i64 _)) .nil ⟨po, ?_⟩)
    refine tk 21 rfl rfl rfl (DetJ.assign rfl) ?_
    refine kd [3, 4, 7, 8] rfl ?_
    refine Run.seq ?_
    refine regionD HM ?_
    refine tk 0 rfl rfl rfl (DetJ.move rfl) ?_
    refine tk 1 rfl rfl rfl (DetJ.nilCheck rfl) ?_
    refine tk 2 rfl rfl rfl (DetJ.fieldAddr F66_5 rfl) ?_
    first | refine RunD.takeF 3 rfl rfl kr T3 rfl pk (by rfl) ?_ | refine RunD.takeO 3 rfl rfl kr T3 rfl pk (by assumption) (by rfl) (by exact fun _ => rfl) ?_
    refine tk 4 rfl rfl rfl (DetJ.fieldAddr F47_4 rfl) ?_
    first | refine RunD.takeF 5 rfl rfl kr T3 rfl pk (by rfl) ?_ | refine RunD.takeO 5 rfl rfl kr T3 rfl pk (by assumption) (by rfl) (by exact fun _ => rfl) ?_
    refine tk 6 rfl rfl rfl (DetJ.add rfl rfl) ?_
    refine tk 7 rfl rfl rfl (DetJ.nilCheck rfl) ?_
    refine tk 8 rfl rfl rfl (DetJ.fieldAddr F66_5 rfl) ?_
    refine RunD.op 9 [false, false, false, false, false, false, false, false, false] rfl rfl rfl kr kr (OpJ.storeO (i := i) (u' := sendP p m) T3 rfl rfl rfl hx (fun _ => rfl) (by decide) rfl up ⟨po, ?_⟩)
    refine kd [3, 4, 7, 8] rfl ?_
    refine sr ?_
    have hx1 := set_get hx (sendP p m)
    refine mvo rfl rfl ?_
    refine RunL.op rfl rfl (OpJ.nilCheck rfl ?_)
    refine RunL.op rfl rfl (OpJ.fieldAddr F66_6 rfl ?_)
    first | refine RunL.op rfl rfl (OpJ.loadF T3 rfl pk (by rfl) ?_) | refine RunL.op rfl rfl (OpJ.loadO T3 rfl pk (by assumption) (by rfl) (by exact fun _ => rfl) ?_)
    refine mvo rfl rfl ?_
    refine RunL.op rfl rfl (OpJ.add rfl rfl ?_)
    refine RunL.op rfl rfl (OpJ.nilCheck rfl ?_)
    refine RunL.op rfl rfl (OpJ.fieldAddr F66_6 rfl ?_)
    refine RunL.op rfl rfl (OpJ.storeO (i := i) (u' := backP p m) T3 rfl rfl rfl hx1 (fun _ => rfl) (by decide) rfl up ?_)
    rw [List.set_set]
    refine kp [3, 4, 8] rfl ?_
    refine sr ?_
    refine RunL.op rfl rfl (OpJ.fieldAddr F47_0 rfl ?_)
    first | refine RunL.op rfl rfl (OpJ.loadF T3 rfl pk (by rfl) ?_) | refine RunL.op rfl rfl (OpJ.loadO T3 rfl pk (by assumption) (by rfl) (by exact fun _ => rfl) ?_)
    refine RunL.op rfl rfl (OpJ.fieldAddr F47_4 rfl ?_)
    first | refine RunL.op rfl rfl (OpJ.loadF T3 rfl pk (by rfl) ?_) | refine RunL.op rfl rfl (OpJ.loadO T3 rfl pk (by assumption) (by rfl) (by exact fun _ => rfl) ?_)
    refine mvo rfl rfl ?_
    refine RunL.op rfl rfl (OpJ.build B43 rfl rfl fun cs hcs => ?_)
    simp only [Sk.c, Mv.c, Co.c, bldL, bldA, Value.cells, bs, Nat.reduceAdd, Nat.reduceLeDiff, Nat.reduceLT] at hcs; subst hcs
    refine RunL.op rfl rfl (OpJ.storeW T43 rfl rfl rfl rfl (by simp [Value.oneCell', Pa.c, Ly.c, Mv.c, Co.c]) up ?_)
    refine asg rfl rfl ?_
    refine kp [4, 5] rfl ?_
    refine Run.ret ?_
    have hres : aBack t m = .ok _ := (by unfold aBack; rw [hr]); refine ret_out ((some ⟨b, 0, none⟩), pc) (.cellA T43 rfl pk (by rfl) (.tmp rfl .nil)) trivial (by rw [hres]; rfl) ?_; rw [hres]; simp only [AvB, List.length_set, List.length_append]; exact gv
-- average.send
theorem ac76 (bx : Nat) (t : Sk) (m : Mv) (la : Option Addr) (nl lc : Nat) (pa : Option Addr) (np pc : Nat) (enp : np = t.past.length) (ht : t.ok 999999) (hm : m.ok) : AC Tryz.prog 76 ⟨[.pointer (some ⟨bx, 0, none⟩), .agg ⟨m.c⟩]⟩ (stars [pt bx (blk (SC t la nl lc pa np pc) 28), own 66 7 pa np pc ((t.past).flatMap Pa.c)]) (Outs (fun _ : Option Addr × Nat => True) (fun _ => AvV (aSend t m)) (fun x => AvB 28 66 bx la nl lc t (aSend t m) x)) := by
  subst enp
  have hn : t.past.length ≤ 1000000 := Nat.le_trans ht.np (by decide)
  have hnp := ht.np
  obtain ⟨hm1, hm2⟩ := hm
  refine AC.go Tryz.func76 rfl (Nat.le_of_ble_eq_true rfl) fun β => ?_
  refine sr ?_
  refine RunL.op rfl rfl (OpJ.boxA rfl fun b3 => ?_)
  refine RunL.op rfl rfl (OpJ.alloc Z43 fun b4 => ?_)
  refine asg rfl rfl ?_
  refine kp [0, 3, 4] rfl ?_
  refine sr ?_
  refine mvo rfl rfl ?_
  first | refine RunL.op rfl rfl (OpJ.loadW T47 rfl pk (by rfl) ?_) | refine RunL.op rfl rfl (OpJ.loadP T47 rfl pk (by simp) ?_) | refine RunL.op rfl rfl (OpJ.loadE T47 rfl pk (by assumption) (by exact fun _ => rfl) rfl (by decide) ?_)
  refine RunL.call C114 rfl rfl rfl (ac114 bx t m la nl lc pa _ pc _ rfl (by decide) hn) tks ?_
  refine mvo rfl rfl ?_
  refine RunL.op rfl rfl (OpJ.extract rfl rfl ?_)
  refine RunL.op rfl rfl (OpJ.extract rfl rfl ?_)
  refine asg rfl rfl ?_
  refine asg rfl rfl ?_
  refine kp [0, 3, 4, 5, 6] rfl ?_
  refine Run.seq ?_
  refine sr ?_
  refine mvo rfl rfl ?_
  refine RunL.op rfl rfl (OpJ.neq rfl rfl ?_)
  refine kp [0, 3, 4, 5, 6, 15] rfl ?_
  first | refine Run.if rfl (fun h1 => ?_) (fun h1 => ?_) | refine Run.cond rfl (fun h1 => ?_) (fun h1 => ?_)
  · skip
    refine sr ?_
    obtain ⟨e, he⟩ := errOf_ne h1
    refine RunL.op rfl rfl (OpJ.build B43 rfl rfl fun cs hcs => ?_)
    simp only [Sk.c, Mv.c, Co.c, bldL, bldA, Value.cells, bs, Nat.reduceAdd, Nat.reduceLeDiff, Nat.reduceLT] at hcs; subst hcs
    refine mvo rfl rfl ?_
    refine RunL.op rfl rfl (OpJ.storeW T43 rfl rfl rfl rfl (by simp [Value.oneCell', Pa.c, Ly.c, Mv.c, Co.c]) up ?_)
    refine asg rfl rfl ?_
    refine kp [4, 5] rfl ?_
    refine Run.ret ?_
    have hres : aSend t m = .error e := (by unfold aSend; rw [he]); rw [he]; refine ret_out (pa, pc) (.cellA T43 rfl pk (by rfl) (.tmp rfl .nil)) trivial (by rw [hres]; rfl) ?_; rw [hres]; exact gv
  · skip
    refine Run.skip ?_
    refine Run.seq ?_
    refine Run.seq ?_
    refine regionD HM ?_
    obtain ⟨i, p, hr, hx⟩ := refd_ok (Decidable.not_not.1 h1)
    rw [hr]
    have hi := (List.getElem?_eq_some_iff.1 hx).1
    obtain ⟨hp1, hp2, hp3, hp4⟩ := ht.pa i p hx
    refine RunD.ownAddr pk (flat_ne (k := 7) (fun _ => rfl) (by decide) hx) fun b e hcap => ?_
    subst e
    simp only [okIdx]
    refine tk 0 rfl rfl rfl (DetJ.move rfl) ?_
    refine tk 1 rfl rfl rfl (DetJ.nilCheck rfl) ?_
    refine tk 2 rfl rfl rfl (DetJ.fieldAddr F28_0 rfl) ?_
    first | refine RunD.takeF 3 rfl rfl kr T3 rfl pk (by rfl) ?_ | refine RunD.takeO 3 rfl rfl kr T3 rfl pk (by assumption) (by rfl) (by exact fun _ => rfl) ?_
    refine tk 4 rfl rfl rfl (DetJ.fieldAddr F47_4 rfl) ?_
    first | refine RunD.takeF 5 rfl rfl kr T3 rfl pk (by rfl) ?_ | refine RunD.takeO 5 rfl rfl kr T3 rfl pk (by assumption) (by rfl) (by exact fun _ => rfl) ?_
    refine tk 6 rfl rfl rfl (DetJ.lss rfl rfl) ?_
    refine kd [0, 3, 4, 6, 24] rfl ?_
    first | refine Run.if rfl (fun h2 => ?_) (fun h2 => ?_) | refine Run.cond rfl (fun h2 => ?_) (fun h2 => ?_)
    · skip
      refine sr ?_
      refine RunL.op rfl rfl (OpJ.build B43 rfl rfl fun cs hcs => ?_)
      simp only [Sk.c, Mv.c, Co.c, bldL, bldA, Value.cells, bs, Nat.reduceAdd, Nat.reduceLeDiff, Nat.reduceLT] at hcs; subst hcs
      refine RunL.op rfl rfl (OpJ.storeW T43 rfl rfl rfl rfl (by simp [Value.oneCell', Pa.c, Ly.c, Mv.c, Co.c]) up ?_)
      refine asg rfl rfl ?_
      refine kp [4, 5] rfl ?_
      refine Run.ret ?_
      have hres : aSend t m = .error _ := (by unfold aSend; rw [hr]; simp only; rw [if_pos (by assumption)]); refine ret_out ((some ⟨b, 0, none⟩), pc) (.cellA T43 rfl pk (by rfl) (.tmp rfl .nil)) trivial (by rw [hres]; rfl) ?_; rw [hres]; exact gv
    · skip
      refine Run.skip ?_
      refine Run.seq ?_
      refine regionD HM ?_
      refine tk 0 rfl rfl rfl (DetJ.move rfl) ?_
      refine tk 1 rfl rfl rfl (DetJ.nilCheck rfl) ?_
      refine tk 2 rfl rfl rfl (DetJ.fieldAddr F28_1 rfl) ?_
      first | refine RunD.takeF 3 rfl rfl kr T3 rfl pk (by rfl) ?_ | refine RunD.takeO 3 rfl rfl kr T3 rfl pk (by assumption) (by rfl) (by exact fun _ => rfl) ?_
      refine tk 4 rfl rfl rfl (DetJ.fieldAddr F47_4 rfl) ?_
      first | refine RunD.takeF 5 rfl rfl kr T3 rfl pk (by rfl) ?_ | refine RunD.takeO 5 rfl rfl kr T3 rfl pk (by assumption) (by rfl) (by exact fun _ => rfl) ?_
      refine tk 6 rfl rfl rfl (DetJ.move rfl) ?_
      refine tk 7 rfl rfl rfl (DetJ.nilCheck rfl) ?_
      refine tk 8 rfl rfl rfl (DetJ.fieldAddr F28_0 rfl) ?_
      first | refine RunD.takeF 9 rfl rfl kr T3 rfl pk (by rfl) ?_ | refine RunD.takeO 9 rfl rfl kr T3 rfl pk (by assumption) (by rfl) (by exact fun _ => rfl) ?_
      refine RunD.op 10 [false, false, false, true, false, false, false, false, false, true] rfl rfl rfl kr kr (OpJ.callRet C113 rfl rfl (ac113 _ _ _ ht.v hm1 ht.q) .nil ⟨po, ?_⟩)
      refine tk 11 rfl rfl rfl (DetJ.assign rfl) ?_
      refine kd [0, 3, 4, 6, 7] rfl ?_
      refine Run.seq ?_
      refine regionD HM ?_
      refine tk 0 rfl rfl rfl (DetJ.move rfl) ?_
      refine tk 1 rfl rfl rfl (DetJ.nilCheck rfl) ?_
      refine tk 2 rfl rfl rfl (DetJ.fieldAddr F28_4 rfl) ?_
      first | refine RunD.takeF 3 rfl rfl kr T26 rfl pk (by rfl) ?_ | refine RunD.takeO 3 rfl rfl kr T26 rfl pk (by assumption) (by rfl) (by exact fun _ => rfl) ?_
      refine tk 4 rfl rfl rfl (DetJ.move rfl) ?_
      refine tk 5 rfl rfl rfl (DetJ.indexAddr S26 rfl rfl (by omega)) ?_
      refine tk 6 rfl rfl rfl (DetJ.fieldAddr F66_5 rfl) ?_
      first | refine RunD.takeF 7 rfl rfl kr T3 rfl pk (by rfl) ?_ | refine RunD.takeO 7 rfl rfl kr T3 rfl pk (by assumption) (by rfl) (by exact fun _ => rfl) ?_
      refine tk 8 rfl rfl rfl (DetJ.fieldAddr F47_4 rfl) ?_
      first | refine RunD.takeF 9 rfl rfl kr T3 rfl pk (by rfl) ?_ | refine RunD.takeO 9 rfl rfl kr T3 rfl pk (by assumption) (by rfl) (by exact fun _ => rfl) ?_
      refine tk 10 rfl rfl rfl (DetJ.add rfl rfl) ?_
      refine tk 11 rfl rfl rfl (DetJ.indexAddr S26 rfl rfl (by omega)) ?_
      refine tk 12 rfl rfl rfl (DetJ.fieldAddr F66_5 rfl) ?_
      refine RunD.op 13 [false, false, false, false, false, false, false, false, false, false, false, false, false] rfl rfl rfl kr kr (OpJ.storeO (i := i) (u' := sendP p m) T3 rfl rfl rfl hx (fun _ => rfl) (by decide) rfl up ⟨po, ?_⟩)
      refine kd [3, 4, 7] rfl ?_
      refine sr ?_
      refine RunL.op rfl rfl (OpJ.fieldAddr F47_0 rfl ?_)
      first | refine RunL.op rfl rfl (OpJ.loadF T3 rfl pk (by rfl) ?_) | refine RunL.op rfl rfl (OpJ.loadO T3 rfl pk (by assumption) (by rfl) (by exact fun _ => rfl) ?_)
      refine RunL.op rfl rfl (OpJ.fieldAddr F47_4 rfl ?_)
      first | refine RunL.op rfl rfl (OpJ.loadF T3 rfl pk (by rfl) ?_) | refine RunL.op rfl rfl (OpJ.loadO T3 rfl pk (by assumption) (by rfl) (by exact fun _ => rfl) ?_)
      refine RunL.op rfl rfl (OpJ.neg rfl ?_)
      refine mvo rfl rfl ?_
      refine RunL.op rfl rfl (OpJ.neg rfl ?_)
      refine mvo rfl rfl ?_
      refine RunL.op rfl rfl (OpJ.fieldAddr F47_5 rfl ?_)
      first | refine RunL.op rfl rfl (OpJ.loadF T3 rfl pk (by rfl) ?_) | refine RunL.op rfl rfl (OpJ.loadO T3 rfl pk (by assumption) (by rfl) (by exact fun _ => rfl) ?_)
      refine RunL.op rfl rfl (OpJ.sub rfl rfl ?_)
      refine RunL.op rfl rfl (OpJ.build B43 rfl rfl fun cs hcs => ?_)
      simp only [Sk.c, Mv.c, Co.c, bldL, bldA, Value.cells, bs, Nat.reduceAdd, Nat.reduceLeDiff, Nat.reduceLT] at hcs; subst hcs
      refine RunL.op rfl rfl (OpJ.storeW T43 rfl rfl rfl rfl (by simp [Value.oneCell', Pa.c, Ly.c, Mv.c, Co.c]) up ?_)
      refine asg rfl rfl ?_
      refine kp [4, 5] rfl ?_
      refine Run.ret ?_
      have hres : aSend t m = .ok _ := (by unfold aSend; rw [hr]; simp only; rw [if_neg (by assumption)]); refine ret_out ((some ⟨b, 0, none⟩), pc) (.cellA T43 rfl pk (by rfl) (.tmp rfl .nil)) trivial (by rw [hres]; rfl) ?_; rw [hres]; simp only [AvB, List.length_set, List.length_append]; exact gv
-- average.land
theorem ac77 (bx : Nat) (t : Sk) (m : Mv) (la : Option Addr) (nl lc : Nat) (pa : Option Addr) (np pc : Nat) (enp : np = t.past.length) (ht : t.ok 999999) (hm : m.ok) : AC Tryz.prog 77 ⟨[.pointer (some ⟨bx, 0, none⟩), .agg ⟨m.c⟩]⟩ (stars [pt bx (blk (SC t la nl lc pa np pc) 28), own 66 7 pa np pc ((t.past).flatMap Pa.c)]) (Outs (fun _ : Option Addr × Nat => True) (fun _ => AvV (aLand t m)) (fun x => AvB 28 66 bx la nl lc t (aLand t m) x)) := by
  subst enp
  have hn : t.past.length ≤ 1000000 := Nat.le_trans ht.np (by decide)
  have hnp := ht.np
  obtain ⟨hm1, hm2⟩ := hm
  refine AC.go Tryz.func77 rfl (Nat.le_of_ble_eq_true rfl) fun β => ?_
  refine sr ?_
  refine RunL.op rfl rfl (OpJ.boxA rfl fun b3 => ?_)
  refine RunL.op rfl rfl (OpJ.alloc Z43 fun b4 => ?_)
  refine asg rfl rfl ?_
  refine kp [0, 3, 4] rfl ?_
  refine sr ?_
  refine mvo rfl rfl ?_
  first | refine RunL.op rfl rfl (OpJ.loadW T47 rfl pk (by rfl) ?_) | refine RunL.op rfl rfl (OpJ.loadP T47 rfl pk (by simp) ?_) | refine RunL.op rfl rfl (OpJ.loadE T47 rfl pk (by assumption) (by exact fun _ => rfl) rfl (by decide) ?_)
  refine RunL.call C114 rfl rfl rfl (ac114 bx t m la nl lc pa _ pc _ rfl (by decide) hn) tks ?_
  refine mvo rfl rfl ?_
  refine RunL.op rfl rfl (OpJ.extract rfl rfl ?_)
  refine RunL.op rfl rfl (OpJ.extract rfl rfl ?_)
  refine asg rfl rfl ?_
  refine asg rfl rfl ?_
  refine kp [0, 3, 4, 5, 6] rfl ?_
  refine Run.seq ?_
  refine sr ?_
  refine mvo rfl rfl ?_
  refine RunL.op rfl rfl (OpJ.neq rfl rfl ?_)
  refine kp [0, 3, 4, 5, 6, 16] rfl ?_
  first | refine Run.if rfl (fun h1 => ?_) (fun h1 => ?_) | refine Run.cond rfl (fun h1 => ?_) (fun h1 => ?_)
  · skip
    refine sr ?_
    obtain ⟨e, he⟩ := errOf_ne h1
    refine RunL.op rfl rfl (OpJ.build B43 rfl rfl fun cs hcs => ?_)
    simp only [Sk.c, Mv.c, Co.c, bldL, bldA, Value.cells, bs, Nat.reduceAdd, Nat.reduceLeDiff, Nat.reduceLT] at hcs; subst hcs
    refine mvo rfl rfl ?_
    refine RunL.op rfl rfl (OpJ.storeW T43 rfl rfl rfl rfl (by simp [Value.oneCell', Pa.c, Ly.c, Mv.c, Co.c]) up ?_)
    refine asg rfl rfl ?_
    refine kp [4, 5] rfl ?_
    refine Run.ret ?_
    have hres : aLand t m = .error e := (by unfold aLand; rw [he]); rw [he]; refine ret_out (pa, pc) (.cellA T43 rfl pk (by rfl) (.tmp rfl .nil)) trivial (by rw [hres]; rfl) ?_; rw [hres]; exact gv
  · skip
    refine Run.skip ?_
    refine sr ?_
    obtain ⟨i, p, hr, hx⟩ := refd_ok (Decidable.not_not.1 h1)
    rw [hr]
    have hi := (List.getElem?_eq_some_iff.1 hx).1
    obtain ⟨hp1, hp2, hp3, hp4⟩ := ht.pa i p hx
    refine RunL.ownAddr pk (flat_ne (k := 7) (fun _ => rfl) (by decide) hx) fun b e hcap => ?_
    subst e
    simp only [okIdx]
    have hmn : i64 (if t.qty < p.qty then t.qty else p.qty) := by
      split
      · exact ht.q
      · exact hp1
    refine mvo rfl rfl ?_
    refine RunL.op rfl rfl (OpJ.nilCheck rfl ?_)
    refine RunL.op rfl rfl (OpJ.fieldAddr F28_4 rfl ?_)
    first | refine RunL.op rfl rfl (OpJ.loadF T26 rfl pk (by rfl) ?_) | refine RunL.op rfl rfl (OpJ.loadO T26 rfl pk (by assumption) (by rfl) (by exact fun _ => rfl) ?_)
    refine mvo rfl rfl ?_
    refine RunL.op rfl rfl (OpJ.indexAddr S26 rfl rfl (by omega) ?_)
    refine RunL.op rfl rfl (OpJ.fieldAddr F66_3 rfl ?_)
    first | refine RunL.op rfl rfl (OpJ.loadF T3 rfl pk (by rfl) ?_) | refine RunL.op rfl rfl (OpJ.loadO T3 rfl pk (by assumption) (by rfl) (by exact fun _ => rfl) ?_)
    refine asg rfl rfl ?_
    refine kp [0, 3, 4, 7] rfl ?_
    refine Run.seq ?_
    refine regionD HM ?_
    refine tk 0 rfl rfl rfl (DetJ.fieldAddr F47_5 rfl) ?_
    first | refine RunD.takeF 1 rfl rfl kr T3 rfl pk (by rfl) ?_ | refine RunD.takeO 1 rfl rfl kr T3 rfl pk (by assumption) (by rfl) (by exact fun _ => rfl) ?_
    refine tk 2 rfl rfl rfl (DetJ.move rfl) ?_
    refine tk 3 rfl rfl rfl (DetJ.move rfl) ?_
    refine tk 4 rfl rfl rfl (DetJ.nilCheck rfl) ?_
    refine tk 5 rfl rfl rfl (DetJ.fieldAddr F28_0 rfl) ?_
    first | refine RunD.takeF 6 rfl rfl kr T3 rfl pk (by rfl) ?_ | refine RunD.takeO 6 rfl rfl kr T3 rfl pk (by assumption) (by rfl) (by exact fun _ => rfl) ?_
    refine tk 7 rfl rfl rfl (DetJ.min rfl rfl) ?_
    refine tk 8 rfl rfl rfl (DetJ.move rfl) ?_
    refine RunD.op 9 [false, false, false, false, true, true, false, false, false] rfl rfl rfl kr kr (OpJ.callRet C113 rfl rfl (ac113 _ _ _ hm2 hmn hp1) .nil ⟨po, ?_⟩)
    refine tk 10 rfl rfl rfl (DetJ.assign rfl) ?_
    refine kd [3, 4, 8] rfl ?_
    refine sr ?_
    refine RunL.op rfl rfl (OpJ.fieldAddr F47_0 rfl ?_)
    first | refine RunL.op rfl rfl (OpJ.loadF T3 rfl pk (by rfl) ?_) | refine RunL.op rfl rfl (OpJ.loadO T3 rfl pk (by assumption) (by rfl) (by exact fun _ => rfl) ?_)
    refine mvo rfl rfl ?_
    refine RunL.op rfl rfl (OpJ.fieldAddr F47_5 rfl ?_)
    first | refine RunL.op rfl rfl (OpJ.loadF T3 rfl pk (by rfl) ?_) | refine RunL.op rfl rfl (OpJ.loadO T3 rfl pk (by assumption) (by rfl) (by exact fun _ => rfl) ?_)
    refine mvo rfl rfl ?_
    refine RunL.op rfl rfl (OpJ.sub rfl rfl ?_)
    refine RunL.op rfl rfl (OpJ.build B43 rfl rfl fun cs hcs => ?_)
    simp only [Sk.c, Mv.c, Co.c, bldL, bldA, Value.cells, bs, Nat.reduceAdd, Nat.reduceLeDiff, Nat.reduceLT] at hcs; subst hcs
    refine RunL.op rfl rfl (OpJ.storeW T43 rfl rfl rfl rfl (by simp [Value.oneCell', Pa.c, Ly.c, Mv.c, Co.c]) up ?_)
    refine asg rfl rfl ?_
    refine kp [4, 5] rfl ?_
    refine Run.ret ?_
    have hres : aLand t m = .ok _ := (by unfold aLand; rw [hr]); refine ret_out ((some ⟨b, 0, none⟩), pc) (.cellA T43 rfl pk (by rfl) (.tmp rfl .nil)) trivial (by rw [hres]; rfl) ?_; rw [hres]; simp only [AvB, List.length_set, List.length_append]; exact gv
end Go.Proofs.YtdcchollplhioaaGreatDoor

namespace Go.Proofs.YtdcchollplhioaaGreatDoor
open Go Go.SL Go.Proofs
theorem C73 : CI Tryz.prog 73 := .of (by kernel_rfl)
theorem C74 : CI Tryz.prog 74 := .of (by kernel_rfl)
theorem C75 : CI Tryz.prog 75 := .of (by kernel_rfl)
theorem C76 : CI Tryz.prog 76 := .of (by kernel_rfl)
theorem C77 : CI Tryz.prog 77 := .of (by kernel_rfl)
theorem aca73 (bx : Nat) (t : Sk) (m : Mv) (la : Option Addr) (nl lc : Nat) (pa : Option Addr) (np pc : Nat) (enp : np = t.past.length) (ht : t.ok 999999) (hm : m.ok) (hk : m.kind = 1) : AC Tryz.prog 73 ⟨[.pointer (some ⟨bx, 0, none⟩), .agg ⟨m.c⟩]⟩ (stars [pt bx (blk (SC t la nl lc pa np pc) 28), own 66 7 pa np pc ((t.past).flatMap Pa.c)]) (Outs (fun _ : Option Addr × Nat => True) (fun _ => .agg ⟨(avC (aDo t m)).c⟩) (fun x => AvB 28 66 bx la nl lc t (aDo t m) x)) := by
  rw [aDo_1 hk]; exact ac73 bx t m la nl lc pa np pc enp ht hm
theorem aca74 (bx : Nat) (t : Sk) (m : Mv) (la : Option Addr) (nl lc : Nat) (pa : Option Addr) (np pc : Nat) (enp : np = t.past.length) (ht : t.ok 999999) (hm : m.ok) (hk : m.kind = 2) : AC Tryz.prog 74 ⟨[.pointer (some ⟨bx, 0, none⟩), .agg ⟨m.c⟩]⟩ (stars [pt bx (blk (SC t la nl lc pa np pc) 28), own 66 7 pa np pc ((t.past).flatMap Pa.c)]) (Outs (fun _ : Option Addr × Nat => True) (fun _ => AvV (aDo t m)) (fun x => AvB 28 66 bx la nl lc t (aDo t m) x)) := by
  rw [aDo_2 hk]; exact ac74 bx t m la nl lc pa np pc enp ht hm
theorem aca75 (bx : Nat) (t : Sk) (m : Mv) (la : Option Addr) (nl lc : Nat) (pa : Option Addr) (np pc : Nat) (enp : np = t.past.length) (ht : t.ok 999999) (hm : m.ok) (hk : m.kind = 3) : AC Tryz.prog 75 ⟨[.pointer (some ⟨bx, 0, none⟩), .agg ⟨m.c⟩]⟩ (stars [pt bx (blk (SC t la nl lc pa np pc) 28), own 66 7 pa np pc ((t.past).flatMap Pa.c)]) (Outs (fun _ : Option Addr × Nat => True) (fun _ => AvV (aDo t m)) (fun x => AvB 28 66 bx la nl lc t (aDo t m) x)) := by
  rw [aDo_3 hk]; exact ac75 bx t m la nl lc pa np pc enp ht hm
theorem aca76 (bx : Nat) (t : Sk) (m : Mv) (la : Option Addr) (nl lc : Nat) (pa : Option Addr) (np pc : Nat) (enp : np = t.past.length) (ht : t.ok 999999) (hm : m.ok) (hk : m.kind = 4) : AC Tryz.prog 76 ⟨[.pointer (some ⟨bx, 0, none⟩), .agg ⟨m.c⟩]⟩ (stars [pt bx (blk (SC t la nl lc pa np pc) 28), own 66 7 pa np pc ((t.past).flatMap Pa.c)]) (Outs (fun _ : Option Addr × Nat => True) (fun _ => AvV (aDo t m)) (fun x => AvB 28 66 bx la nl lc t (aDo t m) x)) := by
  rw [aDo_4 hk]; exact ac76 bx t m la nl lc pa np pc enp ht hm
theorem aca77 (bx : Nat) (t : Sk) (m : Mv) (la : Option Addr) (nl lc : Nat) (pa : Option Addr) (np pc : Nat) (enp : np = t.past.length) (ht : t.ok 999999) (hm : m.ok) (hk : m.kind = 5) : AC Tryz.prog 77 ⟨[.pointer (some ⟨bx, 0, none⟩), .agg ⟨m.c⟩]⟩ (stars [pt bx (blk (SC t la nl lc pa np pc) 28), own 66 7 pa np pc ((t.past).flatMap Pa.c)]) (Outs (fun _ : Option Addr × Nat => True) (fun _ => AvV (aDo t m)) (fun x => AvB 28 66 bx la nl lc t (aDo t m) x)) := by
  rw [aDo_5 hk]; exact ac77 bx t m la nl lc pa np pc enp ht hm
-- average.perform
theorem ac42 (bx : Nat) (t : Sk) (m : Mv) (la : Option Addr) (nl lc : Nat) (pa : Option Addr) (np pc : Nat) (enp : np = t.past.length) (ht : t.ok 999999) (hm : m.ok) : AC Tryz.prog 42 ⟨[.pointer (some ⟨bx, 0, none⟩), .agg ⟨m.c⟩]⟩ (stars [pt bx (blk (SC t la nl lc pa np pc) 28), own 66 7 pa np pc ((t.past).flatMap Pa.c)]) (Outs (fun _ : Option Addr × Nat => True) (fun _ => AvV (aDo t m)) (fun x => AvB 28 66 bx la nl lc t (aDo t m) x)) := by
  subst enp
  have hn : t.past.length ≤ 1000000 := Nat.le_trans ht.np (by decide)
  have hnp := ht.np
  obtain ⟨hm1, hm2⟩ := hm
  refine AC.go Tryz.func42 rfl (Nat.le_of_ble_eq_true rfl) fun β => ?_
  refine sr ?_
  refine RunL.op rfl rfl (OpJ.boxA rfl fun b3 => ?_)
  refine RunL.op rfl rfl (OpJ.alloc Z43 fun b4 => ?_)
  refine asg rfl rfl ?_
  refine kp [0, 3, 4] rfl ?_
  refine Run.seq ?_
  refine sr ?_
  refine RunL.op rfl rfl (OpJ.fieldAddr F47_3 rfl ?_)
  first | refine RunL.op rfl rfl (OpJ.loadF T3 rfl pk (by rfl) ?_) | refine RunL.op rfl rfl (OpJ.loadO T3 rfl pk (by assumption) (by rfl) (by exact fun _ => rfl) ?_)
  refine kp [0, 3, 4, 7] rfl ?_
  refine Run.block ?_
  refine sr ?_
  refine RunL.op rfl rfl (OpJ.eql rfl rfl ?_)
  refine asg rfl rfl ?_
  refine kp [0, 3, 4, 7, 8] rfl ?_
  first | refine Run.if rfl (fun h1 => ?_) (fun h1 => ?_) | refine Run.cond rfl (fun h1 => ?_) (fun h1 => ?_)
  · skip
    refine sr ?_
    refine mvo rfl rfl ?_
    first | refine RunL.op rfl rfl (OpJ.loadW T47 rfl pk (by rfl) ?_) | refine RunL.op rfl rfl (OpJ.loadP T47 rfl pk (by simp) ?_) | refine RunL.op rfl rfl (OpJ.loadE T47 rfl pk (by assumption) (by exact fun _ => rfl) rfl (by decide) ?_)
    refine RunL.callX C73 rfl rfl rfl (aca73 bx t m la nl lc pa _ pc rfl ht ⟨hm1, hm2⟩ (by assumption)) tks fun x _ => ?_
    rcases hres : aDo t m with e | ⟨t2, c2⟩
    · skip
      rw [aDo_1 (by assumption)] at hres; cases hres
    · skip
      refine RunL.op rfl rfl (OpJ.storeW T43 rfl rfl rfl rfl (by simp [Value.oneCell', Pa.c, Ly.c, Mv.c, Co.c]) up ?_)
      refine asg rfl rfl ?_
      refine kp [4, 5] rfl ?_
      refine Run.ret ?_
      refine ret_out x (.cellA T43 rfl pk (by rfl) (.tmp rfl .nil)) trivial (by first | rfl | (rw [hres]; rfl)) ?_; first | exact gv | (rw [hres]; exact gv)
  · skip
    refine sr ?_
    refine RunL.op rfl rfl (OpJ.eql rfl rfl ?_)
    refine asg rfl rfl ?_
    refine kp [0, 3, 4, 7, 13] rfl ?_
    first | refine Run.if rfl (fun h2 => ?_) (fun h2 => ?_) | refine Run.cond rfl (fun h2 => ?_) (fun h2 => ?_)
    · skip
      refine sr ?_
      refine mvo rfl rfl ?_
      first | refine RunL.op rfl rfl (OpJ.loadW T47 rfl pk (by rfl) ?_) | refine RunL.op rfl rfl (OpJ.loadP T47 rfl pk (by simp) ?_) | refine RunL.op rfl rfl (OpJ.loadE T47 rfl pk (by assumption) (by exact fun _ => rfl) rfl (by decide) ?_)
      refine RunL.callX C74 rfl rfl rfl (aca74 bx t m la nl lc pa _ pc rfl ht ⟨hm1, hm2⟩ (by assumption)) tks fun x _ => ?_
      rcases hres : aDo t m with e | ⟨t2, c2⟩
      · skip
        refine RunL.op rfl rfl (OpJ.extract rfl rfl ?_)
        refine RunL.op rfl rfl (OpJ.extract rfl rfl ?_)
        refine RunL.op rfl rfl (OpJ.storeW T43 rfl rfl rfl rfl (by simp [Value.oneCell', Pa.c, Ly.c, Mv.c, Co.c]) up ?_)
        refine asg rfl rfl ?_
        refine kp [4, 5] rfl ?_
        refine Run.ret ?_
        refine ret_out x (.cellA T43 rfl pk (by rfl) (.tmp rfl .nil)) trivial (by first | rfl | (rw [hres]; rfl)) ?_; first | exact gv | (rw [hres]; exact gv)
      · skip
        refine RunL.op rfl rfl (OpJ.extract rfl rfl ?_)
        refine RunL.op rfl rfl (OpJ.extract rfl rfl ?_)
        refine RunL.op rfl rfl (OpJ.storeW T43 rfl rfl rfl rfl (by simp [Value.oneCell', Pa.c, Ly.c, Mv.c, Co.c]) up ?_)
        refine asg rfl rfl ?_
        refine kp [4, 5] rfl ?_
        refine Run.ret ?_
        refine ret_out x (.cellA T43 rfl pk (by rfl) (.tmp rfl .nil)) trivial (by first | rfl | (rw [hres]; rfl)) ?_; first | exact gv | (rw [hres]; exact gv)
    · skip
      refine sr ?_
      refine RunL.op rfl rfl (OpJ.eql rfl rfl ?_)
      refine asg rfl rfl ?_
      refine kp [0, 3, 4, 7, 20] rfl ?_
      first | refine Run.if rfl (fun h3 => ?_) (fun h3 => ?_) | refine Run.cond rfl (fun h3 => ?_) (fun h3 => ?_)
      · skip
        refine sr ?_
        refine mvo rfl rfl ?_
        first | refine RunL.op rfl rfl (OpJ.loadW T47 rfl pk (by rfl) ?_) | refine RunL.op rfl rfl (OpJ.loadP T47 rfl pk (by simp) ?_) | refine RunL.op rfl rfl (OpJ.loadE T47 rfl pk (by assumption) (by exact fun _ => rfl) rfl (by decide) ?_)
        refine RunL.callX C75 rfl rfl rfl (aca75 bx t m la nl lc pa _ pc rfl ht ⟨hm1, hm2⟩ (by assumption)) tks fun x _ => ?_
        rcases hres : aDo t m with e | ⟨t2, c2⟩
        · skip
          refine RunL.op rfl rfl (OpJ.extract rfl rfl ?_)
          refine RunL.op rfl rfl (OpJ.extract rfl rfl ?_)
          refine RunL.op rfl rfl (OpJ.storeW T43 rfl rfl rfl rfl (by simp [Value.oneCell', Pa.c, Ly.c, Mv.c, Co.c]) up ?_)
          refine asg rfl rfl ?_
          refine kp [4, 5] rfl ?_
          refine Run.ret ?_
          refine ret_out x (.cellA T43 rfl pk (by rfl) (.tmp rfl .nil)) trivial (by first | rfl | (rw [hres]; rfl)) ?_; first | exact gv | (rw [hres]; exact gv)
        · skip
          refine RunL.op rfl rfl (OpJ.extract rfl rfl ?_)
          refine RunL.op rfl rfl (OpJ.extract rfl rfl ?_)
          refine RunL.op rfl rfl (OpJ.storeW T43 rfl rfl rfl rfl (by simp [Value.oneCell', Pa.c, Ly.c, Mv.c, Co.c]) up ?_)
          refine asg rfl rfl ?_
          refine kp [4, 5] rfl ?_
          refine Run.ret ?_
          refine ret_out x (.cellA T43 rfl pk (by rfl) (.tmp rfl .nil)) trivial (by first | rfl | (rw [hres]; rfl)) ?_; first | exact gv | (rw [hres]; exact gv)
      · skip
        refine sr ?_
        refine RunL.op rfl rfl (OpJ.eql rfl rfl ?_)
        refine asg rfl rfl ?_
        refine kp [0, 3, 4, 7, 27] rfl ?_
        first | refine Run.if rfl (fun h4 => ?_) (fun h4 => ?_) | refine Run.cond rfl (fun h4 => ?_) (fun h4 => ?_)
        · skip
          refine sr ?_
          refine mvo rfl rfl ?_
          first | refine RunL.op rfl rfl (OpJ.loadW T47 rfl pk (by rfl) ?_) | refine RunL.op rfl rfl (OpJ.loadP T47 rfl pk (by simp) ?_) | refine RunL.op rfl rfl (OpJ.loadE T47 rfl pk (by assumption) (by exact fun _ => rfl) rfl (by decide) ?_)
          refine RunL.callX C76 rfl rfl rfl (aca76 bx t m la nl lc pa _ pc rfl ht ⟨hm1, hm2⟩ (by assumption)) tks fun x _ => ?_
          rcases hres : aDo t m with e | ⟨t2, c2⟩
          · skip
            refine RunL.op rfl rfl (OpJ.extract rfl rfl ?_)
            refine RunL.op rfl rfl (OpJ.extract rfl rfl ?_)
            refine RunL.op rfl rfl (OpJ.storeW T43 rfl rfl rfl rfl (by simp [Value.oneCell', Pa.c, Ly.c, Mv.c, Co.c]) up ?_)
            refine asg rfl rfl ?_
            refine kp [4, 5] rfl ?_
            refine Run.ret ?_
            refine ret_out x (.cellA T43 rfl pk (by rfl) (.tmp rfl .nil)) trivial (by first | rfl | (rw [hres]; rfl)) ?_; first | exact gv | (rw [hres]; exact gv)
          · skip
            refine RunL.op rfl rfl (OpJ.extract rfl rfl ?_)
            refine RunL.op rfl rfl (OpJ.extract rfl rfl ?_)
            refine RunL.op rfl rfl (OpJ.storeW T43 rfl rfl rfl rfl (by simp [Value.oneCell', Pa.c, Ly.c, Mv.c, Co.c]) up ?_)
            refine asg rfl rfl ?_
            refine kp [4, 5] rfl ?_
            refine Run.ret ?_
            refine ret_out x (.cellA T43 rfl pk (by rfl) (.tmp rfl .nil)) trivial (by first | rfl | (rw [hres]; rfl)) ?_; first | exact gv | (rw [hres]; exact gv)
        · skip
          refine sr ?_
          refine RunL.op rfl rfl (OpJ.eql rfl rfl ?_)
          refine asg rfl rfl ?_
          refine kp [0, 3, 4, 34] rfl ?_
          first | refine Run.if rfl (fun h5 => ?_) (fun h5 => ?_) | refine Run.cond rfl (fun h5 => ?_) (fun h5 => ?_)
          · skip
            refine sr ?_
            refine mvo rfl rfl ?_
            first | refine RunL.op rfl rfl (OpJ.loadW T47 rfl pk (by rfl) ?_) | refine RunL.op rfl rfl (OpJ.loadP T47 rfl pk (by simp) ?_) | refine RunL.op rfl rfl (OpJ.loadE T47 rfl pk (by assumption) (by exact fun _ => rfl) rfl (by decide) ?_)
            refine RunL.callX C77 rfl rfl rfl (aca77 bx t m la nl lc pa _ pc rfl ht ⟨hm1, hm2⟩ (by assumption)) tks fun x _ => ?_
            rcases hres : aDo t m with e | ⟨t2, c2⟩
            · skip
              refine RunL.op rfl rfl (OpJ.extract rfl rfl ?_)
              refine RunL.op rfl rfl (OpJ.extract rfl rfl ?_)
              refine RunL.op rfl rfl (OpJ.storeW T43 rfl rfl rfl rfl (by simp [Value.oneCell', Pa.c, Ly.c, Mv.c, Co.c]) up ?_)
              refine asg rfl rfl ?_
              refine kp [4, 5] rfl ?_
              refine Run.ret ?_
              refine ret_out x (.cellA T43 rfl pk (by rfl) (.tmp rfl .nil)) trivial (by first | rfl | (rw [hres]; rfl)) ?_; first | exact gv | (rw [hres]; exact gv)
            · skip
              refine RunL.op rfl rfl (OpJ.extract rfl rfl ?_)
              refine RunL.op rfl rfl (OpJ.extract rfl rfl ?_)
              refine RunL.op rfl rfl (OpJ.storeW T43 rfl rfl rfl rfl (by simp [Value.oneCell', Pa.c, Ly.c, Mv.c, Co.c]) up ?_)
              refine asg rfl rfl ?_
              refine kp [4, 5] rfl ?_
              refine Run.ret ?_
              refine ret_out x (.cellA T43 rfl pk (by rfl) (.tmp rfl .nil)) trivial (by first | rfl | (rw [hres]; rfl)) ?_; first | exact gv | (rw [hres]; exact gv)
          · skip
            refine Run.skip ?_
            refine sr ?_
            refine RunL.op rfl rfl (OpJ.build B43 rfl rfl fun cs hcs => ?_)
            simp only [Sk.c, Mv.c, Co.c, bldL, bldA, Value.cells, bs, Nat.reduceAdd, Nat.reduceLeDiff, Nat.reduceLT] at hcs; subst hcs
            refine RunL.op rfl rfl (OpJ.storeW T43 rfl rfl rfl rfl (by simp [Value.oneCell', Pa.c, Ly.c, Mv.c, Co.c]) up ?_)
            refine asg rfl rfl ?_
            refine kp [4, 5] rfl ?_
            refine Run.ret ?_
            have hres := aDo_0 (t := t) (m := m) (by refine ⟨?_, ?_, ?_, ?_, ?_⟩ <;> assumption); refine ret_out (pa, pc) (.cellA T43 rfl pk (by rfl) (.tmp rfl .nil)) trivial (by rw [hres]; rfl) ?_; rw [hres]; exact gv
end Go.Proofs.YtdcchollplhioaaGreatDoor

namespace Go.Proofs.YtdcchollplhioaaGreatDoor
open Go Go.SL Go.Proofs
theorem C40 : CI Tryz.prog 40 := .of (by kernel_rfl)
theorem C41 : CI Tryz.prog 41 := .of (by kernel_rfl)
theorem C42 : CI Tryz.prog 42 := .of (by kernel_rfl)
theorem C43 : CI Tryz.prog 43 := .of (by kernel_rfl)
-- average.Step
theorem ac21 (s : Sk) (m : Mv) (la : Option Addr) (lc : Nat) (pa : Option Addr) (pc : Nat) (RL RP : HP) (hs : s.ok 999999) (hm : m.ok) (hRL : RdS RL la (s.layers.flatMap Ly.c)) (hRP : RdS RP pa (s.past.flatMap Pa.c)) (R0 : HP) (hR0 : Rd R0 ⟨0, 0, none⟩ lensC) : AC Tryz.prog 21 ⟨[.agg ⟨s.c la lc pa pc⟩, .agg ⟨m.c⟩]⟩ (stars [RL, RP, R0]) (Outs (fun _ : Option Addr × Nat × Option Addr × Nat => True) (fun x => StV (aStep s m) x) (fun x => StB 64 66 (aStep s m) x ++ [RL, RP, R0])) := by
  have hn : s.layers.length ≤ 1000000 ∧ s.past.length ≤ 1000000 := ⟨Nat.le_trans hs.nl (by decide), Nat.le_trans hs.np (by decide)⟩
  have hnl := hn.1; have hnp := hn.2
  refine AC.go Tryz.func21 rfl (Nat.le_of_ble_eq_true rfl) fun β => ?_
  refine sr ?_
  refine RunL.op rfl rfl (OpJ.boxA rfl fun b2 => ?_)
  refine RunL.op rfl rfl (OpJ.boxA rfl fun b3 => ?_)
  refine RunL.op rfl rfl (OpJ.alloc Z28 fun b4 => ?_)
  refine RunL.op rfl rfl (OpJ.alloc Z43 fun b5 => ?_)
  refine asg rfl rfl ?_
  refine kp [2, 3, 4, 5] rfl ?_
  refine Run.seq ?_
  refine sr ?_
  first | refine RunL.op rfl rfl (OpJ.loadW T47 rfl pk (by rfl) ?_) | refine RunL.op rfl rfl (OpJ.loadP T47 rfl pk (by simp) ?_) | refine RunL.op rfl rfl (OpJ.loadE T47 rfl pk (by assumption) (by exact fun _ => rfl) rfl (by decide) ?_)
  refine RunL.call C30 rfl rfl rfl (ac30 _ _ hR0) tks ?_
  refine asg rfl rfl ?_
  refine kp [2, 3, 4, 5, 7] rfl ?_
  refine sr ?_
  refine mvo rfl rfl ?_
  refine RunL.op rfl rfl (OpJ.neq rfl rfl ?_)
  refine kp [2, 3, 4, 5, 7, 11] rfl ?_
  first | refine Run.if rfl (fun h1 => ?_) (fun h1 => ?_) | refine Run.cond rfl (fun h1 => ?_) (fun h1 => ?_)
  · skip
    refine sr ?_
    refine RunL.op rfl rfl (OpJ.build B28 rfl rfl fun cs hcs => ?_)
    simp only [Sk.c, Mv.c, Co.c, bldL, bldA, Value.cells, bs, Nat.reduceAdd, Nat.reduceLeDiff, Nat.reduceLT] at hcs; subst hcs
    refine RunL.op rfl rfl (OpJ.build B43 rfl rfl fun cs hcs => ?_)
    simp only [Sk.c, Mv.c, Co.c, bldL, bldA, Value.cells, bs, Nat.reduceAdd, Nat.reduceLeDiff, Nat.reduceLT] at hcs; subst hcs
    refine mvo rfl rfl ?_
    refine RunL.op rfl rfl (OpJ.storeW T28 rfl rfl rfl rfl (by simp [Value.oneCell', Pa.c, Ly.c, Mv.c, Co.c]) up ?_)
    refine RunL.op rfl rfl (OpJ.storeW T43 rfl rfl rfl rfl (by simp [Value.oneCell', Pa.c, Ly.c, Mv.c, Co.c]) up ?_)
    refine asg rfl rfl ?_
    refine kp [4, 5, 6] rfl ?_
    refine Run.ret ?_
    have hres2 : aStep s m = .error m.one := (by unfold aStep; rw [if_pos h1]); refine ret_out (none, 0, none, 0) (.cellA T28 rfl pk (by rfl) (.cellA T43 rfl pk (by rfl) (.tmp rfl .nil))) trivial (by rw [hres2]; rfl) ?_; rw [hres2]; exact gv
  · skip
    refine Run.skip ?_
    refine Run.seq ?_
    refine sr ?_
    refine RunL.op rfl rfl (OpJ.fieldAddr F28_4 rfl ?_)
    first | refine RunL.op rfl rfl (OpJ.loadF T26 rfl pk (by rfl) ?_) | refine RunL.op rfl rfl (OpJ.loadO T26 rfl pk (by assumption) (by rfl) (by exact fun _ => rfl) ?_)
    refine RunL.op rfl rfl (OpJ.makeFunc rfl rfl ?_)
    refine RunL.call C39 rfl rfl rfl (ac39 RP (pt b3 (blk m.c 47)) 40 [.pointer (some ⟨b3, 0, none⟩)] (isPast 0 m.seq) pa pc s.past hRP hnp C40 (fun p => ac40 b3 m p)) tks ?_
    refine RunL.op rfl rfl (OpJ.geq rfl rfl ?_)
    refine kp [2, 3, 4, 5, 19] rfl ?_
    first | refine Run.if rfl (fun h2 => ?_) (fun h2 => ?_) | refine Run.cond rfl (fun h2 => ?_) (fun h2 => ?_)
    · skip
      refine sr ?_
      refine RunL.op rfl rfl (OpJ.build B28 rfl rfl fun cs hcs => ?_)
      simp only [Sk.c, Mv.c, Co.c, bldL, bldA, Value.cells, bs, Nat.reduceAdd, Nat.reduceLeDiff, Nat.reduceLT] at hcs; subst hcs
      refine RunL.op rfl rfl (OpJ.build B43 rfl rfl fun cs hcs => ?_)
      simp only [Sk.c, Mv.c, Co.c, bldL, bldA, Value.cells, bs, Nat.reduceAdd, Nat.reduceLeDiff, Nat.reduceLT] at hcs; subst hcs
      refine RunL.op rfl rfl (OpJ.storeW T28 rfl rfl rfl rfl (by simp [Value.oneCell', Pa.c, Ly.c, Mv.c, Co.c]) up ?_)
      refine RunL.op rfl rfl (OpJ.storeW T43 rfl rfl rfl rfl (by simp [Value.oneCell', Pa.c, Ly.c, Mv.c, Co.c]) up ?_)
      refine asg rfl rfl ?_
      refine kp [4, 5, 6] rfl ?_
      refine Run.ret ?_
      have hres2 : aStep s m = .error 8 := (by unfold aStep; rw [if_neg h1, if_pos (by rw [← idx_some]; exact decide_eq_true (by assumption))]); refine ret_out (none, 0, none, 0) (.cellA T28 rfl pk (by rfl) (.cellA T43 rfl pk (by rfl) (.tmp rfl .nil))) trivial (by rw [hres2]; rfl) ?_; rw [hres2]; exact gv
    · skip
      refine Run.skip ?_
      refine sr ?_
      first | refine RunL.op rfl rfl (OpJ.loadW T28 rfl pk (by rfl) ?_) | refine RunL.op rfl rfl (OpJ.loadP T28 rfl pk (by simp) ?_) | refine RunL.op rfl rfl (OpJ.loadE T28 rfl pk (by assumption) (by exact fun _ => rfl) rfl (by decide) ?_)
      refine RunL.callX C41 rfl rfl rfl (ac41 s la lc pa pc RL RP hn hRL hRP) tks fun ⟨l2, c2, bp⟩ _ => ?_
      refine RunL.op rfl rfl (OpJ.storeW T28 rfl rfl rfl rfl (by simp [Value.oneCell', Pa.c, Ly.c, Mv.c, Co.c]) up ?_)
      refine kp [3, 4, 5] rfl ?_
      refine sr ?_
      first | refine RunL.op rfl rfl (OpJ.loadW T47 rfl pk (by rfl) ?_) | refine RunL.op rfl rfl (OpJ.loadP T47 rfl pk (by simp) ?_) | refine RunL.op rfl rfl (OpJ.loadE T47 rfl pk (by assumption) (by exact fun _ => rfl) rfl (by decide) ?_)
      refine RunL.callX C42 rfl rfl rfl (ac42 b4 s m l2 _ c2 _ _ _ rfl hs hm) tks fun ⟨pa2, pc2⟩ _ => ?_
      rcases hres : aDo s m with e | ⟨t, c⟩
      · skip
        refine mvo rfl rfl ?_
        refine RunL.op rfl rfl (OpJ.extract rfl rfl ?_)
        refine RunL.op rfl rfl (OpJ.extract rfl rfl ?_)
        refine RunL.op rfl rfl (OpJ.storeW T43 rfl rfl rfl rfl (by simp [Value.oneCell', Pa.c, Ly.c, Mv.c, Co.c]) up ?_)
        refine asg rfl rfl ?_
        refine kp [4, 5, 6] rfl ?_
        refine Run.seq ?_
        refine sr ?_
        refine mvo rfl rfl ?_
        refine RunL.op rfl rfl (OpJ.neq rfl rfl ?_)
        first | refine RunL.set (congrArg Value.bool (decide_eq_true (show errOf (Except.error _) ≠ 0 from aDo_err hres))) ?_ | skip
        refine kp [4, 5, 6, 30] rfl ?_
        refine Run.true rfl ?_
        refine sr ?_
        refine RunL.op rfl rfl (OpJ.build B28 rfl rfl fun cs hcs => ?_)
        simp only [Sk.c, Mv.c, Co.c, bldL, bldA, Value.cells, bs, Nat.reduceAdd, Nat.reduceLeDiff, Nat.reduceLT] at hcs; subst hcs
        refine RunL.op rfl rfl (OpJ.build B43 rfl rfl fun cs hcs => ?_)
        simp only [Sk.c, Mv.c, Co.c, bldL, bldA, Value.cells, bs, Nat.reduceAdd, Nat.reduceLeDiff, Nat.reduceLT] at hcs; subst hcs
        refine mvo rfl rfl ?_
        refine RunL.op rfl rfl (OpJ.storeW T28 rfl rfl rfl rfl (by simp [Value.oneCell', Pa.c, Ly.c, Mv.c, Co.c]) up ?_)
        refine RunL.op rfl rfl (OpJ.storeW T43 rfl rfl rfl rfl (by simp [Value.oneCell', Pa.c, Ly.c, Mv.c, Co.c]) up ?_)
        refine asg rfl rfl ?_
        refine kp [4, 5, 6] rfl ?_
        refine Run.ret ?_
        have hres2 : aStep s m = .error e := (by unfold aStep; rw [if_neg h1, if_neg (by rw [← idx_some]; simp only [*]; decide), hres]); refine ret_out (none, 0, none, 0) (.cellA T28 rfl pk (by rfl) (.cellA T43 rfl pk (by rfl) (.tmp rfl .nil))) trivial (by rw [hres2]; rfl) ?_; rw [hres2]; exact gv
      · skip
        have hly := aDo_layers hres
        rw [← hly]
        refine mvo rfl rfl ?_
        refine RunL.op rfl rfl (OpJ.extract rfl rfl ?_)
        refine RunL.op rfl rfl (OpJ.extract rfl rfl ?_)
        refine RunL.op rfl rfl (OpJ.storeW T43 rfl rfl rfl rfl (by simp [Value.oneCell', Pa.c, Ly.c, Mv.c, Co.c]) up ?_)
        refine asg rfl rfl ?_
        refine kp [4, 5, 6] rfl ?_
        refine Run.seq ?_
        refine sr ?_
        refine mvo rfl rfl ?_
        refine RunL.op rfl rfl (OpJ.neq rfl rfl ?_)
        first | refine RunL.set (congrArg Value.bool (decide_eq_true (show errOf (Except.error _) ≠ 0 from aDo_err hres))) ?_ | skip
        refine kp [4, 5, 6, 30] rfl ?_
        refine Run.false rfl ?_
        refine Run.skip ?_
        refine sr ?_
        refine RunL.op rfl rfl (OpJ.fieldAddr F28_0 rfl ?_)
        first | refine RunL.op rfl rfl (OpJ.loadF T3 rfl pk (by rfl) ?_) | refine RunL.op rfl rfl (OpJ.loadO T3 rfl pk (by assumption) (by rfl) (by exact fun _ => rfl) ?_)
        refine RunL.op rfl rfl (OpJ.fieldAddr F43_1 rfl ?_)
        first | refine RunL.op rfl rfl (OpJ.loadF T3 rfl pk (by rfl) ?_) | refine RunL.op rfl rfl (OpJ.loadO T3 rfl pk (by assumption) (by rfl) (by exact fun _ => rfl) ?_)
        refine RunL.op rfl rfl (OpJ.add rfl rfl ?_)
        refine RunL.op rfl rfl (OpJ.fieldAddr F28_0 rfl ?_)
        refine RunL.op rfl rfl (OpJ.store1 T3 rfl rfl rfl up (by simp) ?_)
        refine kp [4, 5] rfl ?_
        refine sr ?_
        refine RunL.op rfl rfl (OpJ.fieldAddr F28_1 rfl ?_)
        first | refine RunL.op rfl rfl (OpJ.loadF T3 rfl pk (by rfl) ?_) | refine RunL.op rfl rfl (OpJ.loadO T3 rfl pk (by assumption) (by rfl) (by exact fun _ => rfl) ?_)
        refine RunL.op rfl rfl (OpJ.fieldAddr F43_2 rfl ?_)
        first | refine RunL.op rfl rfl (OpJ.loadF T3 rfl pk (by rfl) ?_) | refine RunL.op rfl rfl (OpJ.loadO T3 rfl pk (by assumption) (by rfl) (by exact fun _ => rfl) ?_)
        refine RunL.op rfl rfl (OpJ.add rfl rfl ?_)
        refine RunL.op rfl rfl (OpJ.fieldAddr F28_1 rfl ?_)
        refine RunL.op rfl rfl (OpJ.store1 T3 rfl rfl rfl up (by simp) ?_)
        refine kp [4, 5] rfl ?_
        refine Run.seq ?_
        refine sr ?_
        refine RunL.cut (t := 58) (v := Bo (aOver (summed t c) c)) (kt (ks := [4, 5]) rfl) ?_ ?_
        · skip
          refine RunL.op rfl rfl (OpJ.fieldAddr F28_0 rfl ?_)
          first | refine RunL.op rfl rfl (OpJ.loadF T3 rfl pk (by rfl) ?_) | refine RunL.op rfl rfl (OpJ.loadO T3 rfl pk (by assumption) (by rfl) (by exact fun _ => rfl) ?_)
          refine RunL.op rfl rfl (OpJ.gtr rfl rfl ?_)
          refine mvo rfl rfl ?_
          first | refine RunL.splitP (t := 49) rfl (fun g3 => ?_) (fun g3 => ?_) | refine RunL.split (t := 49) rfl (fun g3 => ?_) (fun g3 => ?_)
          · skip
            refine RunL.no rfl rfl rfl rfl ?_
            refine RunL.no rfl rfl rfl rfl ?_
            refine RunL.no rfl rfl rfl rfl ?_
            refine RunL.op rfl rfl (OpJ.pickT rfl rfl ?_)
            refine mvo rfl rfl ?_
            refine RunL.no rfl rfl rfl rfl ?_
            refine RunL.no rfl rfl rfl rfl ?_
            refine RunL.no rfl rfl rfl rfl ?_
            refine RunL.op rfl rfl (OpJ.pickT rfl rfl ?_)
            exact RunL.nil ⟨.cons (by first | rfl | (show some (Value.bool _) = some (Value.bool _); (simp only [avC] at *; simp [aOver, summed, *]; done)) | (show some (Value.bool _) = some (Value.bool _); simp_all)) (kt (ks := [4, 5]) rfl), rfl⟩
          · skip
            refine RunL.yes rfl rfl rfl rfl (OpJ.fieldAddr F28_1 rfl ?_)
            first | refine RunL.yes rfl rfl rfl rfl (OpJ.loadF T3 rfl pk (by rfl) ?_) | refine RunL.yes rfl rfl rfl rfl (OpJ.loadO T3 rfl pk (by assumption) (by rfl) (by exact fun _ => rfl) ?_)
            refine RunL.callG C43 rfl rfl rfl rfl rfl (ac43 _) .nil ?_
            refine RunL.op rfl rfl (OpJ.pickF rfl rfl ?_)
            refine mvo rfl rfl ?_
            first | refine RunL.splitP (t := 54) rfl (fun g4 => ?_) (fun g4 => ?_) | refine RunL.split (t := 54) rfl (fun g4 => ?_) (fun g4 => ?_)
            · skip
              refine RunL.no rfl rfl rfl rfl ?_
              refine RunL.no rfl rfl rfl rfl ?_
              refine RunL.no rfl rfl rfl rfl ?_
              refine RunL.op rfl rfl (OpJ.pickT rfl rfl ?_)
              exact RunL.nil ⟨.cons (by first | rfl | (show some (Value.bool _) = some (Value.bool _); (simp only [avC] at *; simp [aOver, summed, *]; done)) | (show some (Value.bool _) = some (Value.bool _); simp_all)) (kt (ks := [4, 5]) rfl), rfl⟩
            · skip
              refine RunL.yes rfl rfl rfl rfl (OpJ.fieldAddr F43_3 rfl ?_)
              first | refine RunL.yes rfl rfl rfl rfl (OpJ.loadF T3 rfl pk (by rfl) ?_) | refine RunL.yes rfl rfl rfl rfl (OpJ.loadO T3 rfl pk (by assumption) (by rfl) (by exact fun _ => rfl) ?_)
              refine RunL.callG C43 rfl rfl rfl rfl rfl (ac43 _) .nil ?_
              refine RunL.op rfl rfl (OpJ.pickF rfl rfl ?_)
              exact RunL.nil ⟨.cons (by first | rfl | (show some (Value.bool _) = some (Value.bool _); (simp only [avC] at *; simp [aOver, summed, *]; done)) | (show some (Value.bool _) = some (Value.bool _); simp_all)) (kt (ks := [4, 5]) rfl), rfl⟩
        first | refine Run.if rfl (fun h5 => ?_) (fun h5 => ?_) | refine Run.cond rfl (fun h5 => ?_) (fun h5 => ?_)
        · skip
          refine sr ?_
          refine RunL.op rfl rfl (OpJ.build B28 rfl rfl fun cs hcs => ?_)
          simp only [Sk.c, Mv.c, Co.c, bldL, bldA, Value.cells, bs, Nat.reduceAdd, Nat.reduceLeDiff, Nat.reduceLT] at hcs; subst hcs
          refine RunL.op rfl rfl (OpJ.build B43 rfl rfl fun cs hcs => ?_)
          simp only [Sk.c, Mv.c, Co.c, bldL, bldA, Value.cells, bs, Nat.reduceAdd, Nat.reduceLeDiff, Nat.reduceLT] at hcs; subst hcs
          refine RunL.op rfl rfl (OpJ.storeW T28 rfl rfl rfl rfl (by simp [Value.oneCell', Pa.c, Ly.c, Mv.c, Co.c]) up ?_)
          refine RunL.op rfl rfl (OpJ.storeW T43 rfl rfl rfl rfl (by simp [Value.oneCell', Pa.c, Ly.c, Mv.c, Co.c]) up ?_)
          refine asg rfl rfl ?_
          refine kp [4, 5, 6] rfl ?_
          refine Run.ret ?_
          have hres2 : aStep s m = .error 4 := (by unfold aStep; rw [if_neg h1, if_neg (by rw [← idx_some]; simp only [*]; decide), hres]; exact if_pos (by assumption)); refine ret_out (none, 0, none, 0) (.cellA T28 rfl pk (by rfl) (.cellA T43 rfl pk (by rfl) (.tmp rfl .nil))) trivial (by rw [hres2]; rfl) ?_; rw [hres2]; exact gv
        · skip
          refine Run.skip ?_
          refine Run.seq ?_
          refine regionD HM ?_
          first | refine RunD.takeW 0 rfl rfl kr T28 rfl pk (by rfl) ?_ | refine RunD.takeP 0 rfl rfl kr T28 rfl pk (by simp) ?_ | refine RunD.takeE 0 rfl rfl kr T28 rfl pk (by assumption) (by exact fun _ => rfl) rfl (by decide) ?_
          first | refine RunD.takeW 1 rfl rfl kr T43 rfl pk (by rfl) ?_ | refine RunD.takeP 1 rfl rfl kr T43 rfl pk (by simp) ?_ | refine RunD.takeE 1 rfl rfl kr T43 rfl pk (by assumption) (by exact fun _ => rfl) rfl (by decide) ?_
          refine RunD.op 2 [true, false] rfl rfl rfl kr kr (OpJ.storeW T28 rfl rfl rfl rfl (by simp [Value.oneCell', Pa.c, Ly.c, Mv.c, Co.c]) up ⟨po, ?_⟩)
          refine RunD.op 3 [false] rfl rfl rfl kr kr (OpJ.storeW T43 rfl rfl rfl rfl (by simp [Value.oneCell', Pa.c, Ly.c, Mv.c, Co.c]) up ⟨po, ?_⟩)
          refine tk 4 rfl rfl rfl (DetJ.assign rfl) ?_
          refine kd [4, 5, 6] rfl ?_
          refine Run.ret ?_
          have hres2 : aStep s m = .ok (summed t c, c) := (by unfold aStep; rw [if_neg h1, if_neg (by rw [← idx_some]; simp only [*]; decide), hres]; exact if_neg (by simp only [*]; decide)); refine ret_out (l2, c2, pa2, pc2) (.cellA T28 rfl pk (by rfl) (.cellA T43 rfl pk (by rfl) (.tmp rfl .nil))) trivial (by rw [hres2]; rfl) ?_; rw [hres2]; exact gv
end Go.Proofs.YtdcchollplhioaaGreatDoor

namespace Go.Proofs.YtdcchollplhioaaGreatDoor
open Go Go.SL Go.Proofs
theorem B92 : BI Tryz.prog 92 [.int .i64 0, .int .i64 0, .int .i64 0, .slice none 0 0, .slice none 0 0] [(0, 5)] := .of (by kernel_rfl) (by kernel_rfl)
theorem F64_1 : FI Tryz.prog 64 1 9 1 := .of (by kernel_rfl)
theorem F92_0 : FI Tryz.prog 92 0 28 0 := .of (by kernel_rfl)
-- lots.part
theorem ac126 (v q n : Int) (hv : i64 v) (hq : i64 q) (hn : i64 n) : AC Tryz.prog 126 ⟨[I v, I q, I n]⟩ (stars []) (Ret (I (partN v q n)) []) := by
  refine AC.go Tryz.func126 rfl (Nat.le_of_ble_eq_true rfl) fun β => ?_
  refine sr ?_
  refine asg rfl rfl ?_
  refine kp [0, 1, 2] rfl ?_
  refine Run.seq ?_
  refine sr ?_
  refine mvo rfl rfl ?_
  refine mvo rfl rfl ?_
  refine RunL.op rfl rfl (OpJ.eql rfl rfl ?_)
  refine kp [0, 1, 2, 11] rfl ?_
  first | refine Run.if rfl (fun h1 => ?_) (fun h1 => ?_) | refine Run.cond rfl (fun h1 => ?_) (fun h1 => ?_)
  · skip
    refine sr ?_
    refine mvo rfl rfl ?_
    refine asg rfl rfl ?_
    refine kp [6] rfl ?_
    refine Run.ret ?_
    exact ret_one (.tmp rfl .nil) (by first | (simp [tup, partN, *]; done) | (exfalso; omega)) .nil
  · skip
    refine Run.skip ?_
    refine sr ?_
    refine mvo rfl rfl ?_
    refine mvo rfl rfl ?_
    refine mvo rfl rfl ?_
    refine RunL.call C111 rfl rfl rfl (ac111 _ _ _ _ (by omega) (by omega) (by omega)) .nil ?_
    refine mvo rfl rfl ?_
    refine RunL.op rfl rfl (OpJ.extract rfl rfl ?_)
    refine RunL.op rfl rfl (OpJ.extract rfl rfl ?_)
    refine asg rfl rfl ?_
    refine asg rfl rfl ?_
    refine kp [7] rfl ?_
    refine sr ?_
    refine mvo rfl rfl ?_
    refine asg rfl rfl ?_
    refine kp [6] rfl ?_
    refine Run.ret ?_
    exact ret_one (.tmp rfl .nil) (by first | (simp [tup, partN, *]; done) | (exfalso; omega)) .nil
-- lots.open
theorem ac49 (s : Sk) (la : Option Addr) (lc : Nat) (pa : Option Addr) (pc : Nat) (RL RP : HP) (hn : s.layers.length ≤ 1000000 ∧ s.past.length ≤ 1000000) (hRL : RdS RL la (s.layers.flatMap Ly.c)) (hRP : RdS RP pa (s.past.flatMap Pa.c)) : AC Tryz.prog 49 ⟨[.agg ⟨s.c la lc pa pc⟩]⟩ (stars [RL, RP]) (Outs (fun _ : Nat × Nat × Nat => True) (fun x => .pointer (some ⟨x.1, 0, none⟩)) (fun x => [pt x.1 (blk (SC s (some ⟨x.2.1, 0, none⟩) s.layers.length s.layers.length (some ⟨x.2.2, 0, none⟩) s.past.length s.past.length) 92), own 64 4 (some ⟨x.2.1, 0, none⟩) s.layers.length s.layers.length ((s.layers).flatMap Ly.c), own 66 7 (some ⟨x.2.2, 0, none⟩) s.past.length s.past.length ((s.past).flatMap Pa.c), RL, RP])) := by
  have hnl := hn.1; have hnp := hn.2
  refine AC.go Tryz.func49 rfl (Nat.le_of_ble_eq_true rfl) fun β => ?_
  refine sr ?_
  refine RunL.op rfl rfl (OpJ.boxA rfl fun b1 => ?_)
  refine asg rfl rfl ?_
  refine kp [1] rfl ?_
  refine sr ?_
  first | refine RunL.op rfl rfl (OpJ.loadW T28 rfl pk (by rfl) ?_) | refine RunL.op rfl rfl (OpJ.loadP T28 rfl pk (by simp) ?_) | refine RunL.op rfl rfl (OpJ.loadE T28 rfl pk (by assumption) (by exact fun _ => rfl) rfl (by decide) ?_)
  refine RunL.op rfl rfl (OpJ.build B92 rfl rfl fun cs hcs => ?_)
  simp only [Sk.c, Mv.c, Co.c, bldL, bldA, Value.cells, bs, Nat.reduceAdd, Nat.reduceLeDiff, Nat.reduceLT] at hcs; subst hcs
  refine RunL.op rfl rfl (OpJ.boxA rfl fun b6 => ?_)
  refine asg rfl rfl ?_
  refine kp [1, 3] rfl ?_
  refine Run.seq ?_
  refine regionD HM ?_
  refine RunD.mono (K' := fun E' L' => ∃ b12 : Nat, ∃ b16 : Nat, E' = [(1, .pointer (some ⟨b1, 0, none⟩)), (3, .pointer (some ⟨b6, 0, none⟩))] ∧ L' = [pt b12 (blk (List.replicate s.layers.length [I 0, St ⟨#[]⟩, I 0, I 0]).flatten 64), pt b16 (blk (List.replicate s.past.length [I 0, I 0, St ⟨#[]⟩, I 0, I 0, I 0, I 0]).flatten 66), pt b1 (blk (s.c la lc pa pc) 28), pt b6 (blk (SC s (some ⟨b12, 0, none⟩) s.layers.length s.layers.length (some ⟨b16, 0, none⟩) s.past.length s.past.length) 92), RL, RP]) ?_ ?_
  · skip
    refine tk 0 rfl rfl rfl (DetJ.move rfl) ?_
    refine tk 1 rfl rfl rfl (DetJ.move rfl) ?_
    refine tk 2 rfl rfl rfl (DetJ.fieldAddr F28_3 rfl) ?_
    first | refine RunD.takeF 3 rfl rfl kr T25 rfl pk (by rfl) ?_ | refine RunD.takeO 3 rfl rfl kr T25 rfl pk (by assumption) (by rfl) (by exact fun _ => rfl) ?_
    refine tk 4 rfl rfl rfl (DetJ.len S25 rfl) ?_
    refine tk 6 rfl rfl rfl (DetJ.fieldAddr F28_4 rfl) ?_
    first | refine RunD.takeF 7 rfl rfl kr T26 rfl pk (by rfl) ?_ | refine RunD.takeO 7 rfl rfl kr T26 rfl pk (by assumption) (by rfl) (by exact fun _ => rfl) ?_
    refine tk 8 rfl rfl rfl (DetJ.len S26 rfl) ?_
    refine RunD.two 5 9 [true, true, true, false, false, false, true, true] [false, false, false, true, true, true, true, true] rfl rfl rfl rfl rfl rfl kr kr kr (OpJ.make S25 M64 rfl rfl (by omega) (by omega) fun b12 => ⟨po, ?_⟩) (OpJ.make S26 M66 rfl rfl (by omega) (by omega) fun b16 => ⟨po, ?_⟩)
    · skip
      refine tk 10 rfl rfl rfl (DetJ.nilCheck rfl) ?_
      refine tk 11 rfl rfl rfl (DetJ.fieldAddr F92_0 rfl) ?_
      refine tk 12 rfl rfl rfl (DetJ.fieldAddr F28_3 rfl) ?_
      refine RunD.two 9 13 [true, true, true, false, false, false, true, true] [false, false, false, true, true, true, true, false] rfl rfl rfl rfl rfl rfl kr kr kr (OpJ.make S26 M66 rfl rfl (by omega) (by omega) fun b16 => ⟨po, ?_⟩) (OpJ.store1 T25 rfl rfl rfl up (by simp) ⟨po, ?_⟩)
      · skip
        refine RunD.op 13 [false, false, false, true, false] rfl rfl rfl kr kr (OpJ.store1 T25 rfl rfl rfl up (by simp) ⟨po, ?_⟩)
        refine tk 14 rfl rfl rfl (DetJ.nilCheck rfl) ?_
        refine tk 15 rfl rfl rfl (DetJ.fieldAddr F92_0 rfl) ?_
        refine tk 16 rfl rfl rfl (DetJ.fieldAddr F28_4 rfl) ?_
        refine RunD.op 17 [false, false, false, false] rfl rfl rfl kr kr (OpJ.store1 T26 rfl rfl rfl up (by simp) ⟨po, ?_⟩)
        exact RunD.weak (E' := [(1, .pointer (some ⟨b1, 0, none⟩)), (3, .pointer (some ⟨b6, 0, none⟩))]) (L' := [pt b12 (blk (List.replicate s.layers.length [I 0, St ⟨#[]⟩, I 0, I 0]).flatten 64), pt b16 (blk (List.replicate s.past.length [I 0, I 0, St ⟨#[]⟩, I 0, I 0, I 0, I 0]).flatten 66), pt b1 (blk (s.c la lc pa pc) 28), pt b6 (blk (SC s (some ⟨b12, 0, none⟩) s.layers.length s.layers.length (some ⟨b16, 0, none⟩) s.past.length s.past.length) 92), RL, RP]) (Keep.sub (kt (ks := [1, 3]) rfl)) gv (RunD.done kr ⟨_, _, rfl, rfl⟩)
      · skip
        refine RunD.op 9 [false, false, false, true] rfl rfl rfl kr kr (OpJ.make S26 M66 rfl rfl (by omega) (by omega) fun b16 => ⟨po, ?_⟩)
        refine tk 14 rfl rfl rfl (DetJ.nilCheck rfl) ?_
        refine tk 15 rfl rfl rfl (DetJ.fieldAddr F92_0 rfl) ?_
        refine tk 16 rfl rfl rfl (DetJ.fieldAddr F28_4 rfl) ?_
        refine RunD.op 17 [false, false, false, false] rfl rfl rfl kr kr (OpJ.store1 T26 rfl rfl rfl up (by simp) ⟨po, ?_⟩)
        exact RunD.weak (E' := [(1, .pointer (some ⟨b1, 0, none⟩)), (3, .pointer (some ⟨b6, 0, none⟩))]) (L' := [pt b12 (blk (List.replicate s.layers.length [I 0, St ⟨#[]⟩, I 0, I 0]).flatten 64), pt b16 (blk (List.replicate s.past.length [I 0, I 0, St ⟨#[]⟩, I 0, I 0, I 0, I 0]).flatten 66), pt b1 (blk (s.c la lc pa pc) 28), pt b6 (blk (SC s (some ⟨b12, 0, none⟩) s.layers.length s.layers.length (some ⟨b16, 0, none⟩) s.past.length s.past.length) 92), RL, RP]) (Keep.sub (kt (ks := [1, 3]) rfl)) gv (RunD.done kr ⟨_, _, rfl, rfl⟩)
    · skip
      refine RunD.op 5 [false, false, false, true, true] rfl rfl rfl kr kr (OpJ.make S25 M64 rfl rfl (by omega) (by omega) fun b12 => ⟨po, ?_⟩)
      refine tk 10 rfl rfl rfl (DetJ.nilCheck rfl) ?_
      refine tk 11 rfl rfl rfl (DetJ.fieldAddr F92_0 rfl) ?_
      refine tk 12 rfl rfl rfl (DetJ.fieldAddr F28_3 rfl) ?_
      refine RunD.op 13 [false, false, false, true, false] rfl rfl rfl kr kr (OpJ.store1 T25 rfl rfl rfl up (by simp) ⟨po, ?_⟩)
      refine tk 14 rfl rfl rfl (DetJ.nilCheck rfl) ?_
      refine tk 15 rfl rfl rfl (DetJ.fieldAddr F92_0 rfl) ?_
      refine tk 16 rfl rfl rfl (DetJ.fieldAddr F28_4 rfl) ?_
      refine RunD.op 17 [false, false, false, false] rfl rfl rfl kr kr (OpJ.store1 T26 rfl rfl rfl up (by simp) ⟨po, ?_⟩)
      exact RunD.weak (E' := [(1, .pointer (some ⟨b1, 0, none⟩)), (3, .pointer (some ⟨b6, 0, none⟩))]) (L' := [pt b12 (blk (List.replicate s.layers.length [I 0, St ⟨#[]⟩, I 0, I 0]).flatten 64), pt b16 (blk (List.replicate s.past.length [I 0, I 0, St ⟨#[]⟩, I 0, I 0, I 0, I 0]).flatten 66), pt b1 (blk (s.c la lc pa pc) 28), pt b6 (blk (SC s (some ⟨b12, 0, none⟩) s.layers.length s.layers.length (some ⟨b16, 0, none⟩) s.past.length s.past.length) 92), RL, RP]) (Keep.sub (kt (ks := [1, 3]) rfl)) gv (RunD.done kr ⟨_, _, rfl, rfl⟩)
  rintro _ _ ⟨b12, b16, rfl, rfl⟩
  refine Run.seq ?_
  refine regionD HM ?_
  refine tk 0 rfl rfl rfl (DetJ.move rfl) ?_
  refine tk 1 rfl rfl rfl (DetJ.nilCheck rfl) ?_
  refine tk 2 rfl rfl rfl (DetJ.fieldAddr F92_0 rfl) ?_
  refine tk 3 rfl rfl rfl (DetJ.fieldAddr F28_3 rfl) ?_
  first | refine RunD.takeF 4 rfl rfl kr T25 rfl pk (by rfl) ?_ | refine RunD.takeO 4 rfl rfl kr T25 rfl pk (by assumption) (by rfl) (by exact fun _ => rfl) ?_
  refine tk 5 rfl rfl rfl (DetJ.fieldAddr F28_3 rfl) ?_
  first | refine RunD.takeF 6 rfl rfl kr T25 rfl pk (by rfl) ?_ | refine RunD.takeO 6 rfl rfl kr T25 rfl pk (by assumption) (by rfl) (by exact fun _ => rfl) ?_
  refine RunD.op 7 [false, false, false, false, false, true, true] rfl rfl rfl kr kr (OpJ.copyAll S25 rfl rfl up pk hRL (flat_len (enc := Ly.c) (k := 4) (fun _ => rfl) _) (by simp) (flat_one Ly.one _) ⟨po, ?_⟩)
  refine kd [1, 3] rfl ?_
  refine Run.seq ?_
  refine regionD HM ?_
  refine tk 0 rfl rfl rfl (DetJ.move rfl) ?_
  refine tk 1 rfl rfl rfl (DetJ.nilCheck rfl) ?_
  refine tk 2 rfl rfl rfl (DetJ.fieldAddr F92_0 rfl) ?_
  refine tk 3 rfl rfl rfl (DetJ.fieldAddr F28_4 rfl) ?_
  first | refine RunD.takeF 4 rfl rfl kr T26 rfl pk (by rfl) ?_ | refine RunD.takeO 4 rfl rfl kr T26 rfl pk (by assumption) (by rfl) (by exact fun _ => rfl) ?_
  refine tk 5 rfl rfl rfl (DetJ.fieldAddr F28_4 rfl) ?_
  first | refine RunD.takeF 6 rfl rfl kr T26 rfl pk (by rfl) ?_ | refine RunD.takeO 6 rfl rfl kr T26 rfl pk (by assumption) (by rfl) (by exact fun _ => rfl) ?_
  refine RunD.op 7 [false, false, false, false, false, true, true] rfl rfl rfl kr kr (OpJ.copyAll S26 rfl rfl up pk hRP (flat_len (enc := Pa.c) (k := 7) (fun _ => rfl) _) (by simp) (flat_one Pa.one _) ⟨po, ?_⟩)
  refine kd [3] rfl ?_
  refine sr ?_
  refine mvo rfl rfl ?_
  refine asg rfl rfl ?_
  refine kp [2] rfl ?_
  refine Run.ret ?_
  exact ret_out (b6, b12, b16) (.tmp rfl .nil) trivial rfl gv
-- (*lots.book).past
theorem ac50 (bx : Nat) (t : Sk) (la : Option Addr) (nl lc : Nat) (pa : Option Addr) (np pc : Nat) (kind seq : Int) (enp : np = t.past.length) (hnp : t.past.length ≤ 1000000) : AC Tryz.prog 50 ⟨[.pointer (some ⟨bx, 0, none⟩), I kind, I seq]⟩ (stars [pt bx (blk (SC t la nl lc pa np pc) 92), own 66 7 pa np pc ((t.past).flatMap Pa.c)]) (Ret (.pointer (ptrOf pa 7 (findI (isPast kind seq) t.past))) [pt bx (blk (SC t la nl lc pa np pc) 92), own 66 7 pa np pc ((t.past).flatMap Pa.c)]) := by
  subst enp
  refine AC.go Tryz.func50 rfl (Nat.le_of_ble_eq_true rfl) fun β => ?_
  refine sr ?_
  refine asg rfl rfl ?_
  refine kp [0, 1, 2] rfl ?_
  refine Run.seq ?_
  refine sr ?_
  refine mvo rfl rfl ?_
  refine RunL.op rfl rfl (OpJ.nilCheck rfl ?_)
  refine RunL.op rfl rfl (OpJ.fieldAddr F92_0 rfl ?_)
  refine RunL.op rfl rfl (OpJ.fieldAddr F28_4 rfl ?_)
  first | refine RunL.op rfl rfl (OpJ.loadF T26 rfl pk (by rfl) ?_) | refine RunL.op rfl rfl (OpJ.loadO T26 rfl pk (by assumption) (by rfl) (by exact fun _ => rfl) ?_)
  refine RunL.op rfl rfl (OpJ.len S26 rfl ?_)
  refine mvo rfl rfl ?_
  refine kp [0, 1, 2, 14, 15] rfl ?_
  refine Run.block ?_
  refine Run.loop (fun mm E L => ∃ i : Nat, mm = t.past.length - i ∧ i ≤ t.past.length ∧ (∀ j y, j < i → t.past[j]? = some y → isPast kind seq y = false) ∧ E = [(0, .pointer (some ⟨bx, 0, none⟩)), (1, I kind), (2, I seq), (14, I t.past.length), (15, I i)] ∧ L = [pt bx (blk (SC t la nl lc pa t.past.length pc) 92), own 66 7 pa t.past.length pc ((t.past).flatMap Pa.c)]) ⟨_, 0, rfl, Nat.zero_le _, fun _ _ h => by omega, rfl, rfl⟩ ?_
  rintro _ _ _ ⟨i, rfl, hi, hI0, rfl, rfl⟩
  refine sr ?_
  refine RunL.op rfl rfl (OpJ.lss rfl rfl ?_)
  refine kp [0, 1, 2, 14, 15, 16] rfl ?_
  refine Run.seq ?_
  first | refine Run.if rfl (fun h1 => ?_) (fun h1 => ?_) | refine Run.cond rfl (fun h1 => ?_) (fun h1 => ?_)
  · skip
    refine Run.skip ?_
    refine Run.seq ?_
    refine Run.block ?_
    refine sr ?_
    refine mvo rfl rfl ?_
    refine asg rfl rfl ?_
    refine kp [0, 1, 2, 7, 14, 15] rfl ?_
    refine sr ?_
    obtain ⟨x, hx⟩ := get_ex (xs := t.past) (by omega)
    refine RunL.ownAddr pk (flat_ne (k := 7) (fun _ => rfl) (by decide) hx) fun b e hcap => ?_
    subst e
    refine mvo rfl rfl ?_
    refine RunL.op rfl rfl (OpJ.nilCheck rfl ?_)
    refine RunL.op rfl rfl (OpJ.fieldAddr F92_0 rfl ?_)
    refine RunL.op rfl rfl (OpJ.fieldAddr F28_4 rfl ?_)
    first | refine RunL.op rfl rfl (OpJ.loadF T26 rfl pk (by rfl) ?_) | refine RunL.op rfl rfl (OpJ.loadO T26 rfl pk (by assumption) (by rfl) (by exact fun _ => rfl) ?_)
    refine mvo rfl rfl ?_
    refine RunL.op rfl rfl (OpJ.indexAddr S26 rfl rfl (by omega) ?_)
    refine asg rfl rfl ?_
    refine kp [0, 1, 2, 8, 14, 15] rfl ?_
    refine sr ?_
    refine mvo rfl rfl ?_
    refine RunL.op rfl rfl (OpJ.nilCheck rfl ?_)
    refine RunL.op rfl rfl (OpJ.fieldAddr F66_0 rfl ?_)
    first | refine RunL.op rfl rfl (OpJ.loadF T3 rfl pk (by rfl) ?_) | refine RunL.op rfl rfl (OpJ.loadO T3 rfl pk (by assumption) (by rfl) (by exact fun _ => rfl) ?_)
    refine mvo rfl rfl ?_
    refine RunL.op rfl rfl (OpJ.eql rfl rfl ?_)
    refine mvo rfl rfl ?_
    first | refine RunL.splitP (t := 31) rfl (fun g2 => ?_) (fun g2 => ?_) | refine RunL.split (t := 31) rfl (fun g2 => ?_) (fun g2 => ?_)
    · skip
      refine RunL.yes rfl rfl rfl rfl (OpJ.move rfl ?_)
      refine RunL.yes rfl rfl rfl rfl (OpJ.eql rfl rfl ?_)
      refine RunL.yes rfl rfl rfl rfl (OpJ.move rfl ?_)
      first | refine RunL.splitP (t := 34) rfl (fun g3 => ?_) (fun g3 => ?_) | refine RunL.split (t := 34) rfl (fun g3 => ?_) (fun g3 => ?_)
      · skip
        refine RunL.no rfl rfl rfl rfl ?_
        refine RunL.no rfl rfl rfl rfl ?_
        refine RunL.no rfl rfl rfl rfl ?_
        refine RunL.no rfl rfl rfl rfl ?_
        refine RunL.no rfl rfl rfl rfl ?_
        refine RunL.no rfl rfl rfl rfl ?_
        refine RunL.yes rfl rfl rfl rfl (OpJ.pickT rfl rfl ?_)
        refine RunL.op rfl rfl (OpJ.pickT rfl rfl ?_)
        refine kp [0, 1, 2, 8, 14, 15, 42] rfl ?_
        refine Run.true rfl ?_
        refine sr ?_
        refine mvo rfl rfl ?_
        refine asg rfl rfl ?_
        refine kp [6] rfl ?_
        refine Run.ret ?_
        exact ret_one (.tmp rfl .nil) (congrArg Value.pointer (by rw [findI_at hx (by simp [isPast, *]) hI0]; rfl)) gv
      · skip
        refine RunL.yes rfl rfl rfl rfl (OpJ.move rfl ?_)
        refine RunL.yes rfl rfl rfl rfl (OpJ.nilCheck rfl ?_)
        refine RunL.yes rfl rfl rfl rfl (OpJ.fieldAddr F66_1 rfl ?_)
        first | refine RunL.yes rfl rfl rfl rfl (OpJ.loadF T3 rfl pk (by rfl) ?_) | refine RunL.yes rfl rfl rfl rfl (OpJ.loadO T3 rfl pk (by assumption) (by rfl) (by exact fun _ => rfl) ?_)
        refine RunL.yes rfl rfl rfl rfl (OpJ.move rfl ?_)
        refine RunL.yes rfl rfl rfl rfl (OpJ.eql rfl rfl ?_)
        refine RunL.yes rfl rfl rfl rfl (OpJ.pickF rfl rfl ?_)
        refine RunL.op rfl rfl (OpJ.pickT rfl rfl ?_)
        refine kp [0, 1, 2, 8, 14, 15, 42] rfl ?_
        first | refine Run.if rfl (fun h4 => ?_) (fun h4 => ?_) | refine Run.cond rfl (fun h4 => ?_) (fun h4 => ?_)
        · skip
          refine sr ?_
          refine mvo rfl rfl ?_
          refine asg rfl rfl ?_
          refine kp [6] rfl ?_
          refine Run.ret ?_
          exact ret_one (.tmp rfl .nil) (congrArg Value.pointer (by rw [findI_at hx (by simp [isPast, *]) hI0]; rfl)) gv
        · skip
          refine Run.skip ?_
          refine Run.region ?_
          first | refine RunL.op rfl rfl (OpJ.addI rfl rfl (by omega) ?_) | refine RunL.op rfl rfl (OpJ.add rfl rfl ?_)
          refine mvo rfl rfl ?_
          exact RunL.next (Keep.sub (kt (ks := [0, 1, 2, 14, 15]) rfl)) _ ⟨_, by omega, i + 1, rfl, by omega, notYet hx (by simp [isPast, *]) hI0, rfl, rfl⟩ gv
    · skip
      refine RunL.no rfl rfl rfl rfl ?_
      refine RunL.no rfl rfl rfl rfl ?_
      refine RunL.no rfl rfl rfl rfl ?_
      refine RunL.undef rfl rfl rfl rfl ?_
      refine RunL.undef rfl rfl rfl rfl ?_
      refine RunL.undef rfl rfl rfl rfl ?_
      refine RunL.undef rfl rfl rfl rfl ?_
      refine RunL.undef rfl rfl rfl rfl ?_
      refine RunL.undef rfl rfl rfl rfl ?_
      refine RunL.no rfl rfl rfl rfl ?_
      refine RunL.op rfl rfl (OpJ.pickF rfl rfl ?_)
      refine kp [0, 1, 2, 8, 14, 15, 42] rfl ?_
      refine Run.false rfl ?_
      refine Run.skip ?_
      refine Run.region ?_
      first | refine RunL.op rfl rfl (OpJ.addI rfl rfl (by omega) ?_) | refine RunL.op rfl rfl (OpJ.add rfl rfl ?_)
      refine mvo rfl rfl ?_
      exact RunL.next (Keep.sub (kt (ks := [0, 1, 2, 14, 15]) rfl)) _ ⟨_, by omega, i + 1, rfl, by omega, notYet hx (by simp [isPast, *]) hI0, rfl, rfl⟩ gv
  · skip
    refine Run.exit ?_
    refine sr ?_
    refine asg rfl rfl ?_
    refine kp [6] rfl ?_
    refine Run.ret ?_
    exact ret_one (.tmp rfl .nil) (congrArg Value.pointer (by rw [findI_none (fun j y hj => hI0 j y (by omega))]; rfl)) gv
-- (*lots.book).find
theorem ac123 (bx : Nat) (t : Sk) (la : Option Addr) (nl lc : Nat) (pa : Option Addr) (np pc : Nat) (lot : ByteArray) (enl : nl = t.layers.length) (hnl : t.layers.length ≤ 1000000) : AC Tryz.prog 123 ⟨[.pointer (some ⟨bx, 0, none⟩), St lot]⟩ (stars [pt bx (blk (SC t la nl lc pa np pc) 92), own 64 4 la nl lc ((t.layers).flatMap Ly.c)]) (Ret (.tuple ⟨[I (lotI lot t.layers : Int), Bo (lotF lot t.layers).isSome]⟩) [pt bx (blk (SC t la nl lc pa np pc) 92), own 64 4 la nl lc ((t.layers).flatMap Ly.c)]) := by
  subst enl
  refine AC.go Tryz.func123 rfl (Nat.le_of_ble_eq_true rfl) fun β => ?_
  refine sr ?_
  refine asg rfl rfl ?_
  refine asg rfl rfl ?_
  refine kp [0, 1, 4, 5] rfl ?_
  refine Run.scope ?_
  refine Run.seq ?_
  refine Run.label ?_
  refine Run.seq ?_
  refine sr ?_
  refine mvo rfl rfl ?_
  refine RunL.op rfl rfl (OpJ.nilCheck rfl ?_)
  refine RunL.op rfl rfl (OpJ.fieldAddr F92_0 rfl ?_)
  refine RunL.op rfl rfl (OpJ.fieldAddr F28_3 rfl ?_)
  first | refine RunL.op rfl rfl (OpJ.loadF T25 rfl pk (by rfl) ?_) | refine RunL.op rfl rfl (OpJ.loadO T25 rfl pk (by assumption) (by rfl) (by exact fun _ => rfl) ?_)
  refine RunL.op rfl rfl (OpJ.len S25 rfl ?_)
  refine mvo rfl rfl ?_
  refine kp [1, 4, 5, 12, 13, 14] rfl ?_
  refine Run.block ?_
  refine Run.loop (fun mm E L => ∃ i : Nat, mm = t.layers.length - i ∧ i ≤ t.layers.length ∧ (∀ j y, j < i → t.layers[j]? = some y → lotB lot y = false) ∧ E = [(1, St lot), (4, I i), (5, Bo false), (12, .slice la t.layers.length lc), (13, I t.layers.length), (14, I i)] ∧ L = [pt bx (blk (SC t la t.layers.length lc pa np pc) 92), own 64 4 la t.layers.length lc ((t.layers).flatMap Ly.c)]) ⟨_, 0, rfl, Nat.zero_le _, fun _ _ h => by omega, rfl, rfl⟩ ?_
  rintro _ _ _ ⟨i, rfl, hi, hI0, rfl, rfl⟩
  refine sr ?_
  refine RunL.op rfl rfl (OpJ.lss rfl rfl ?_)
  refine kp [1, 4, 5, 12, 13, 14, 15] rfl ?_
  refine Run.seq ?_
  first | refine Run.if rfl (fun h1 => ?_) (fun h1 => ?_) | refine Run.cond rfl (fun h1 => ?_) (fun h1 => ?_)
  · skip
    refine Run.skip ?_
    refine Run.seq ?_
    refine Run.block ?_
    refine sr ?_
    obtain ⟨x, hx⟩ := get_ex (xs := t.layers) (i := i) (by omega)
    refine RunL.ownAddr pk (flat_ne (k := 4) (fun _ => rfl) (by decide) hx) fun b e hcap => ?_
    subst e
    refine mvo rfl rfl ?_
    refine RunL.op rfl rfl (OpJ.indexAddr S25 rfl rfl (by omega) ?_)
    first | refine RunL.op rfl rfl (OpJ.loadW T64 rfl pk (by rfl) ?_) | refine RunL.op rfl rfl (OpJ.loadP T64 rfl pk (by simp) ?_) | refine RunL.op rfl rfl (OpJ.loadE T64 rfl pk (by assumption) (by exact fun _ => rfl) rfl (by decide) ?_)
    refine RunL.op rfl rfl (OpJ.alloc Z64 fun b7 => ?_)
    refine asg rfl rfl ?_
    refine RunL.op rfl rfl (OpJ.storeW T64 rfl rfl rfl rfl (by simp [Value.oneCell', Pa.c, Ly.c, Mv.c, Co.c]) up ?_)
    refine kp [1, 4, 5, 6, 7, 12, 13, 14] rfl ?_
    refine Run.seq ?_
    refine Run.block ?_
    refine sr ?_
    refine RunL.op rfl rfl (OpJ.fieldAddr F64_1 rfl ?_)
    first | refine RunL.op rfl rfl (OpJ.loadF T9 rfl pk (by rfl) ?_) | refine RunL.op rfl rfl (OpJ.loadO T9 rfl pk (by assumption) (by rfl) (by exact fun _ => rfl) ?_)
    refine mvo rfl rfl ?_
    refine RunL.op rfl rfl (OpJ.eqlS rfl rfl ?_)
    refine asg rfl rfl ?_
    refine kp [1, 4, 5, 6, 7, 12, 13, 14, 19] rfl ?_
    first | refine Run.if rfl (fun h2 => ?_) (fun h2 => ?_) | refine Run.cond rfl (fun h2 => ?_) (fun h2 => ?_)
    · skip
      refine sr ?_
      refine mvo rfl rfl ?_
      refine asg rfl rfl ?_
      refine asg rfl rfl ?_
      refine kp [4, 5] rfl ?_
      refine Run.exit ?_
      refine sr ?_
      refine mvo rfl rfl ?_
      refine mvo rfl rfl ?_
      refine asg rfl rfl ?_
      refine asg rfl rfl ?_
      refine kp [4, 5] rfl ?_
      refine Run.ret ?_
      exact ret_one (.tmp rfl (.tmp rfl .nil)) (lot_found hx (by assumption) hI0) gv
    · skip
      refine sr ?_
      refine RunL.op rfl rfl (OpJ.fieldAddr F64_1 rfl ?_)
      first | refine RunL.op rfl rfl (OpJ.loadF T9 rfl pk (by rfl) ?_) | refine RunL.op rfl rfl (OpJ.loadO T9 rfl pk (by assumption) (by rfl) (by exact fun _ => rfl) ?_)
      refine mvo rfl rfl ?_
      refine RunL.op rfl rfl (OpJ.gtrS rfl rfl ?_)
      refine asg rfl rfl ?_
      refine kp [1, 4, 5, 6, 12, 13, 14, 25] rfl ?_
      first | refine Run.if rfl (fun h3 => ?_) (fun h3 => ?_) | refine Run.cond rfl (fun h3 => ?_) (fun h3 => ?_)
      · skip
        refine Run.exit ?_
        refine sr ?_
        refine mvo rfl rfl ?_
        refine mvo rfl rfl ?_
        refine asg rfl rfl ?_
        refine asg rfl rfl ?_
        refine kp [4, 5] rfl ?_
        refine Run.ret ?_
        exact ret_one (.tmp rfl (.tmp rfl .nil)) (lot_past hx (by assumption) (by assumption) hI0) gv
      · skip
        refine Run.skip ?_
        refine Run.region ?_
        refine mvo rfl rfl ?_
        first | refine RunL.op rfl rfl (OpJ.addI rfl rfl (by omega) ?_) | refine RunL.op rfl rfl (OpJ.add rfl rfl ?_)
        refine asg rfl rfl ?_
        refine kp [1, 4, 5, 12, 13, 14] rfl ?_
        refine Run.region ?_
        first | refine RunL.op rfl rfl (OpJ.addI rfl rfl (by omega) ?_) | refine RunL.op rfl rfl (OpJ.add rfl rfl ?_)
        refine mvo rfl rfl ?_
        exact RunL.next (Keep.sub (kt (ks := [1, 4, 5, 12, 13, 14]) rfl)) _ ⟨_, by omega, i + 1, rfl, by omega, notYet hx (lotB_not (by assumption) (by simpa using h3)) hI0, rfl, rfl⟩ gv
  · skip
    refine Run.exit ?_
    refine sr ?_
    refine mvo rfl rfl ?_
    refine mvo rfl rfl ?_
    refine asg rfl rfl ?_
    refine asg rfl rfl ?_
    refine kp [4, 5] rfl ?_
    refine Run.ret ?_
    exact ret_one (.tmp rfl (.tmp rfl .nil)) (lot_none (by omega) hI0) gv
end Go.Proofs.YtdcchollplhioaaGreatDoor

namespace Go.Proofs.YtdcchollplhioaaGreatDoor
open Go Go.SL Go.Proofs
theorem C123 : CI Tryz.prog 123 := .of (by kernel_rfl)
theorem C126 : CI Tryz.prog 126 := .of (by kernel_rfl)
-- (*lots.book).qty
theorem ac124 (bx : Nat) (t : Sk) (la : Option Addr) (nl lc : Nat) (pa : Option Addr) (np pc : Nat) (lot : ByteArray) (enl : nl = t.layers.length) (hnl : t.layers.length ≤ 1000000) : AC Tryz.prog 124 ⟨[.pointer (some ⟨bx, 0, none⟩), St lot]⟩ (stars [pt bx (blk (SC t la nl lc pa np pc) 92), own 64 4 la nl lc ((t.layers).flatMap Ly.c)]) (Ret (I (qtyLot t.layers lot)) [pt bx (blk (SC t la nl lc pa np pc) 92), own 64 4 la nl lc ((t.layers).flatMap Ly.c)]) := by
  subst enl
  refine AC.go Tryz.func124 rfl (Nat.le_of_ble_eq_true rfl) fun β => ?_
  refine sr ?_
  refine asg rfl rfl ?_
  refine kp [0, 1] rfl ?_
  refine Run.seq ?_
  refine sr ?_
  refine mvo rfl rfl ?_
  refine mvo rfl rfl ?_
  refine RunL.call C123 rfl rfl rfl (ac123 bx t la _ lc pa _ pc lot rfl hnl) tks ?_
  rcases hf : lotF lot t.layers with _ | ⟨i, l⟩
  · skip
    refine mvo rfl rfl ?_
    refine RunL.op rfl rfl (OpJ.extract rfl rfl ?_)
    refine RunL.op rfl rfl (OpJ.extract rfl rfl ?_)
    refine asg rfl rfl ?_
    refine asg rfl rfl ?_
    refine kp [0, 5, 6] rfl ?_
    refine sr ?_
    refine mvo rfl rfl ?_
    refine kp [0, 5, 13] rfl ?_
    refine Run.false rfl ?_
    refine Run.skip ?_
    refine sr ?_
    refine asg rfl rfl ?_
    refine kp [4] rfl ?_
    refine Run.ret ?_
    exact ret_one (.tmp rfl .nil) (congrArg I (by unfold qtyLot; rw [hf])) gv
  · skip
    obtain ⟨hx, hll, hI⟩ := lotF_some hf
    have hi := (List.getElem?_eq_some_iff.1 hx).1
    rw [hI]
    refine RunL.ownAddr pk (flat_ne (k := 4) (fun _ => rfl) (by decide) hx) fun b e hcap => ?_
    subst e
    refine mvo rfl rfl ?_
    refine RunL.op rfl rfl (OpJ.extract rfl rfl ?_)
    refine RunL.op rfl rfl (OpJ.extract rfl rfl ?_)
    refine asg rfl rfl ?_
    refine asg rfl rfl ?_
    refine kp [0, 5, 6] rfl ?_
    refine sr ?_
    refine mvo rfl rfl ?_
    refine kp [0, 5, 13] rfl ?_
    refine Run.true rfl ?_
    refine sr ?_
    refine mvo rfl rfl ?_
    refine RunL.op rfl rfl (OpJ.nilCheck rfl ?_)
    refine RunL.op rfl rfl (OpJ.fieldAddr F92_0 rfl ?_)
    refine RunL.op rfl rfl (OpJ.fieldAddr F28_3 rfl ?_)
    first | refine RunL.op rfl rfl (OpJ.loadF T25 rfl pk (by rfl) ?_) | refine RunL.op rfl rfl (OpJ.loadO T25 rfl pk (by assumption) (by rfl) (by exact fun _ => rfl) ?_)
    refine mvo rfl rfl ?_
    refine RunL.op rfl rfl (OpJ.indexAddr S25 rfl rfl (by omega) ?_)
    refine RunL.op rfl rfl (OpJ.fieldAddr F64_2 rfl ?_)
    refine RunL.op rfl rfl (OpJ.loadO T3 rfl pk hx (by rfl) (by exact fun _ => rfl) ?_)
    refine asg rfl rfl ?_
    refine kp [4] rfl ?_
    refine Run.ret ?_
    exact ret_one (.tmp rfl .nil) (congrArg I (by unfold qtyLot; rw [hf])) gv
-- (*lots.book).take
theorem ac125 (bx : Nat) (t : Sk) (la : Option Addr) (nl lc : Nat) (pa : Option Addr) (np pc : Nat) (lot : ByteArray) (i : Nat) (l : Ly) (q : Int) (hf : lotF lot t.layers = some (i, l)) (hl : l.ok) (hq : i64 q) (enl : nl = t.layers.length) (hnl : t.layers.length ≤ 1000000) : AC Tryz.prog 125 ⟨[.pointer (some ⟨bx, 0, none⟩), St lot, I q]⟩ (stars [pt bx (blk (SC t la nl lc pa np pc) 92), own 64 4 la nl lc ((t.layers).flatMap Ly.c)]) (Ret (I (takeV l q)) [pt bx (blk (SC { t with layers := takeL t.layers i l q } la (takeL t.layers i l q).length lc pa np pc) 92), own 64 4 la (takeL t.layers i l q).length lc ((takeL t.layers i l q).flatMap Ly.c)]) := by
  subst enl
  obtain ⟨hl1, hl2⟩ := hl
  refine AC.go Tryz.func125 rfl (Nat.le_of_ble_eq_true rfl) fun β => ?_
  refine sr ?_
  refine asg rfl rfl ?_
  refine kp [0, 1, 2] rfl ?_
  refine sr ?_
  refine mvo rfl rfl ?_
  refine mvo rfl rfl ?_
  refine RunL.call C123 rfl rfl rfl (ac123 bx t la _ lc pa _ pc lot rfl hnl) tks ?_
  rw [hf]
  obtain ⟨hx, hll, hI⟩ := lotF_some hf
  have hi := (List.getElem?_eq_some_iff.1 hx).1
  rw [hI]
  refine RunL.ownAddr pk (flat_ne (k := 4) (fun _ => rfl) (by decide) hx) fun b e hcap => ?_
  subst e
  have hx1 := set_get hx { l with qty := W (l.qty - q) }
  have hx2 := set_get hx (takeX l q)
  refine mvo rfl rfl ?_
  refine RunL.op rfl rfl (OpJ.extract rfl rfl ?_)
  refine RunL.op rfl rfl (OpJ.extract rfl rfl ?_)
  refine asg rfl rfl ?_
  refine asg rfl rfl ?_
  refine kp [0, 2, 7] rfl ?_
  refine sr ?_
  refine mvo rfl rfl ?_
  refine RunL.op rfl rfl (OpJ.nilCheck rfl ?_)
  refine RunL.op rfl rfl (OpJ.fieldAddr F92_0 rfl ?_)
  refine RunL.op rfl rfl (OpJ.fieldAddr F28_3 rfl ?_)
  first | refine RunL.op rfl rfl (OpJ.loadF T25 rfl pk (by rfl) ?_) | refine RunL.op rfl rfl (OpJ.loadO T25 rfl pk (by assumption) (by rfl) (by exact fun _ => rfl) ?_)
  refine mvo rfl rfl ?_
  refine RunL.op rfl rfl (OpJ.indexAddr S25 rfl rfl (by omega) ?_)
  refine asg rfl rfl ?_
  refine kp [0, 2, 7, 9] rfl ?_
  refine Run.seq ?_
  refine regionD HM ?_
  refine tk 0 rfl rfl rfl (DetJ.move rfl) ?_
  refine tk 1 rfl rfl rfl (DetJ.nilCheck rfl) ?_
  refine tk 2 rfl rfl rfl (DetJ.fieldAddr F64_3 rfl) ?_
  first | refine RunD.takeF 3 rfl rfl kr T3 rfl pk (by rfl) ?_ | refine RunD.takeO 3 rfl rfl kr T3 rfl pk (by assumption) (by rfl) (by exact fun _ => rfl) ?_
  refine tk 4 rfl rfl rfl (DetJ.move rfl) ?_
  refine tk 5 rfl rfl rfl (DetJ.move rfl) ?_
  refine tk 6 rfl rfl rfl (DetJ.nilCheck rfl) ?_
  refine tk 7 rfl rfl rfl (DetJ.fieldAddr F64_2 rfl) ?_
  first | refine RunD.takeF 8 rfl rfl kr T3 rfl pk (by rfl) ?_ | refine RunD.takeO 8 rfl rfl kr T3 rfl pk (by assumption) (by rfl) (by exact fun _ => rfl) ?_
  refine RunD.op 9 [false, false, false, true, false, false, false, false, true] rfl rfl rfl kr kr (OpJ.callRet C126 rfl rfl (ac126 _ _ _ hl2 hq hl1) .nil ⟨po, ?_⟩)
  refine tk 10 rfl rfl rfl (DetJ.assign rfl) ?_
  refine kd [0, 2, 7, 9, 10] rfl ?_
  refine sr ?_
  refine mvo rfl rfl ?_
  refine RunL.op rfl rfl (OpJ.nilCheck rfl ?_)
  refine RunL.op rfl rfl (OpJ.fieldAddr F64_2 rfl ?_)
  first | refine RunL.op rfl rfl (OpJ.loadF T3 rfl pk (by rfl) ?_) | refine RunL.op rfl rfl (OpJ.loadO T3 rfl pk (by assumption) (by rfl) (by exact fun _ => rfl) ?_)
  refine mvo rfl rfl ?_
  refine RunL.op rfl rfl (OpJ.sub rfl rfl ?_)
  refine RunL.op rfl rfl (OpJ.nilCheck rfl ?_)
  refine RunL.op rfl rfl (OpJ.fieldAddr F64_2 rfl ?_)
  refine RunL.op rfl rfl (OpJ.storeO (i := i) (u' := { l with qty := W (l.qty - q) }) T3 rfl rfl rfl hx (fun _ => rfl) (by decide) rfl up ?_)
  refine kp [0, 7, 9, 10] rfl ?_
  refine sr ?_
  refine mvo rfl rfl ?_
  refine RunL.op rfl rfl (OpJ.nilCheck rfl ?_)
  refine RunL.op rfl rfl (OpJ.fieldAddr F64_3 rfl ?_)
  refine RunL.op rfl rfl (OpJ.loadO T3 rfl pk hx1 (by rfl) (by exact fun _ => rfl) ?_)
  refine mvo rfl rfl ?_
  refine RunL.op rfl rfl (OpJ.sub rfl rfl ?_)
  refine RunL.op rfl rfl (OpJ.nilCheck rfl ?_)
  refine RunL.op rfl rfl (OpJ.fieldAddr F64_3 rfl ?_)
  refine RunL.op rfl rfl (OpJ.storeO (i := i) (u' := takeX l q) T3 rfl rfl rfl hx1 (fun _ => rfl) (by decide) rfl up ?_)
  rw [List.set_set]
  refine kp [0, 7, 9, 10] rfl ?_
  refine Run.seq ?_
  refine sr ?_
  refine mvo rfl rfl ?_
  refine RunL.op rfl rfl (OpJ.nilCheck rfl ?_)
  refine RunL.op rfl rfl (OpJ.fieldAddr F64_2 rfl ?_)
  refine RunL.op rfl rfl (OpJ.loadO T3 rfl pk hx2 (by rfl) (by exact fun _ => rfl) ?_)
  refine RunL.op rfl rfl (OpJ.eql rfl rfl ?_)
  refine kp [0, 7, 10, 54] rfl ?_
  first | refine Run.if rfl (fun h1 => ?_) (fun h1 => ?_) | refine Run.cond rfl (fun h1 => ?_) (fun h1 => ?_)
  · skip
    refine regionD HM ?_
    refine tk 0 rfl rfl rfl (DetJ.move rfl) ?_
    refine tk 1 rfl rfl rfl (DetJ.move rfl) ?_
    refine tk 2 rfl rfl rfl (DetJ.nilCheck rfl) ?_
    refine tk 3 rfl rfl rfl (DetJ.fieldAddr F92_0 rfl) ?_
    refine tk 4 rfl rfl rfl (DetJ.fieldAddr F28_3 rfl) ?_
    first | refine RunD.takeF 5 rfl rfl kr T25 rfl pk (by rfl) ?_ | refine RunD.takeO 5 rfl rfl kr T25 rfl pk (by assumption) (by rfl) (by exact fun _ => rfl) ?_
    refine tk 6 rfl rfl rfl (DetJ.move rfl) ?_
    refine tk 7 rfl rfl rfl (DetJ.sliceHi S25 rfl rfl (by omega)) ?_
    refine tk 8 rfl rfl rfl (DetJ.move rfl) ?_
    refine tk 9 rfl rfl rfl (DetJ.nilCheck rfl) ?_
    refine tk 10 rfl rfl rfl (DetJ.fieldAddr F92_0 rfl) ?_
    refine tk 11 rfl rfl rfl (DetJ.fieldAddr F28_3 rfl) ?_
    first | refine RunD.takeF 12 rfl rfl kr T25 rfl pk (by rfl) ?_ | refine RunD.takeO 12 rfl rfl kr T25 rfl pk (by assumption) (by rfl) (by exact fun _ => rfl) ?_
    refine tk 13 rfl rfl rfl (DetJ.move rfl) ?_
    refine tk 14 rfl rfl rfl (DetJ.addI rfl rfl (by omega)) ?_
    refine tk 15 rfl rfl rfl (DetJ.sliceLo (i := i + 1) S25 rfl rfl (by omega)) ?_
    refine RunD.op 16 [false, false, false, false, false, true, true, true, false, false, false, false, true, true, true, true] rfl rfl rfl kr kr (OpJ.removeIn S25 M64 rfl rfl pk (by simp) hi (fun _ => rfl) (by decide) Ly.one ⟨po, ?_⟩)
    simp only [List.eraseIdx_set_eq]
    refine tk 17 rfl rfl rfl (DetJ.nilCheck rfl) ?_
    refine tk 18 rfl rfl rfl (DetJ.fieldAddr F92_0 rfl) ?_
    refine tk 19 rfl rfl rfl (DetJ.fieldAddr F28_3 rfl) ?_
    refine RunD.op 20 [false, false, false, false, false, false, false, false, false, false] rfl rfl rfl kr kr (OpJ.store1 T25 rfl rfl rfl up (by simp) ⟨po, ?_⟩)
    refine kd [10] rfl ?_
    refine sr ?_
    refine mvo rfl rfl ?_
    refine asg rfl rfl ?_
    refine kp [6] rfl ?_
    refine Run.ret ?_
    refine ret_one (.tmp rfl .nil) rfl ?_; simp only [takeL, if_pos (show W (l.qty - q) = 0 from h1)]; exact gv
  · skip
    refine Run.skip ?_
    refine sr ?_
    refine mvo rfl rfl ?_
    refine asg rfl rfl ?_
    refine kp [6] rfl ?_
    refine Run.ret ?_
    refine ret_one (.tmp rfl .nil) rfl ?_; simp only [takeL, if_neg (show ¬ W (l.qty - q) = 0 from h1), List.length_set]; exact gv
-- (*lots.book).record
theorem ac122 (bx : Nat) (t : Sk) (la : Option Addr) (nl lc : Nat) (pa : Option Addr) (np pc : Nat) (m : Mv) (v : Int) (enp : np = t.past.length) (hnp : t.past.length ≤ 1000000) : AC Tryz.prog 122 ⟨[.pointer (some ⟨bx, 0, none⟩), .agg ⟨m.c⟩, I v]⟩ (stars [pt bx (blk (SC t la nl lc pa np pc) 92), own 66 7 pa np pc ((t.past).flatMap Pa.c)]) (Outs (fun _ : Option Addr × Nat => True) (fun _ => .tuple ⟨[]⟩) (fun x => [pt bx (blk (SC { t with past := t.past ++ [(⟨m.seq, m.kind, m.lot, m.qty, v, 0, 0⟩ : Pa)] } la nl lc x.1 (t.past ++ [(⟨m.seq, m.kind, m.lot, m.qty, v, 0, 0⟩ : Pa)]).length x.2) 92), own 66 7 x.1 (t.past ++ [(⟨m.seq, m.kind, m.lot, m.qty, v, 0, 0⟩ : Pa)]).length x.2 ((t.past ++ [(⟨m.seq, m.kind, m.lot, m.qty, v, 0, 0⟩ : Pa)]).flatMap Pa.c)])) := by
  subst enp
  refine AC.go Tryz.func122 rfl (Nat.le_of_ble_eq_true rfl) fun β => ?_
  refine sr ?_
  refine RunL.op rfl rfl (OpJ.boxA rfl fun b4 => ?_)
  refine kp [0, 2, 4] rfl ?_
  refine regionD HM ?_
  refine tk 0 rfl rfl rfl (DetJ.move rfl) ?_
  refine tk 1 rfl rfl rfl (DetJ.move rfl) ?_
  refine tk 2 rfl rfl rfl (DetJ.nilCheck rfl) ?_
  refine tk 3 rfl rfl rfl (DetJ.fieldAddr F92_0 rfl) ?_
  refine tk 4 rfl rfl rfl (DetJ.fieldAddr F28_4 rfl) ?_
  first | refine RunD.takeF 5 rfl rfl kr T26 rfl pk (by rfl) ?_ | refine RunD.takeO 5 rfl rfl kr T26 rfl pk (by assumption) (by rfl) (by exact fun _ => rfl) ?_
  refine tk 6 rfl rfl rfl (DetJ.fieldAddr F47_0 rfl) ?_
  first | refine RunD.takeF 7 rfl rfl kr T3 rfl pk (by rfl) ?_ | refine RunD.takeO 7 rfl rfl kr T3 rfl pk (by assumption) (by rfl) (by exact fun _ => rfl) ?_
  refine tk 8 rfl rfl rfl (DetJ.fieldAddr F47_3 rfl) ?_
  first | refine RunD.takeF 9 rfl rfl kr T3 rfl pk (by rfl) ?_ | refine RunD.takeO 9 rfl rfl kr T3 rfl pk (by assumption) (by rfl) (by exact fun _ => rfl) ?_
  refine tk 10 rfl rfl rfl (DetJ.fieldAddr F47_6 rfl) ?_
  first | refine RunD.takeF 11 rfl rfl kr T9 rfl pk (by rfl) ?_ | refine RunD.takeO 11 rfl rfl kr T9 rfl pk (by assumption) (by rfl) (by exact fun _ => rfl) ?_
  refine tk 12 rfl rfl rfl (DetJ.fieldAddr F47_4 rfl) ?_
  first | refine RunD.takeF 13 rfl rfl kr T3 rfl pk (by rfl) ?_ | refine RunD.takeO 13 rfl rfl kr T3 rfl pk (by assumption) (by rfl) (by exact fun _ => rfl) ?_
  refine tk 14 rfl rfl rfl (DetJ.move rfl) ?_
  refine RunD.takeB 15 rfl rfl kr B66 rfl rfl fun cs hcs => ?_
  simp only [Sk.c, Mv.c, Co.c, bldL, bldA, Value.cells, bs, Nat.reduceAdd, Nat.reduceLeDiff, Nat.reduceLT] at hcs; subst hcs
  refine RunD.op 16 [false, false, false, false, false, false, false, false, false, false, true, true, true, true, true, true] rfl rfl rfl kr kr (OpJ.buildSlice1 S26 rfl rfl rfl (by decide) (by decide) Z66 rfl fun b22 => ⟨po, ?_⟩)
  refine RunD.op 17 [false, false, false, true, true, true] rfl rfl rfl kr kr (OpJ.append1 (⟨m.seq, m.kind, m.lot, m.qty, v, 0, 0⟩ : Pa) S26 M66 rfl rfl pk pk rfl rfl (by simp [Value.oneCell', Pa.c, Ly.c, Mv.c, Co.c]) rfl (by omega) (by omega) fun a23 c23 => ⟨po, ?_⟩)
  refine tk 18 rfl rfl rfl (DetJ.nilCheck rfl) ?_
  refine tk 19 rfl rfl rfl (DetJ.fieldAddr F92_0 rfl) ?_
  refine tk 20 rfl rfl rfl (DetJ.fieldAddr F28_4 rfl) ?_
  refine RunD.op 21 [false, false, false, false, false, false] rfl rfl rfl kr kr (OpJ.store1 T26 rfl rfl rfl up (by simp) ⟨po, ?_⟩)
  refine kd [] rfl ?_
  exact ret_out (a23, c23) .nil trivial rfl gv
-- (*lots.book).add
theorem ac121 (bx : Nat) (t : Sk) (la : Option Addr) (nl lc : Nat) (pa : Option Addr) (np pc : Nat) (lot : ByteArray) (q v : Int) (enl : nl = t.layers.length) (hnl : t.layers.length ≤ 1000000) : AC Tryz.prog 121 ⟨[.pointer (some ⟨bx, 0, none⟩), St lot, I q, I v]⟩ (stars [pt bx (blk (SC t la nl lc pa np pc) 92), own 64 4 la nl lc ((t.layers).flatMap Ly.c)]) (Outs (fun _ : Option Addr × Nat => True) (fun _ => .tuple ⟨[]⟩) (fun x => [pt bx (blk (SC { t with layers := addLot t.layers lot q v } x.1 (addLot t.layers lot q v).length x.2 pa np pc) 92), own 64 4 x.1 (addLot t.layers lot q v).length x.2 ((addLot t.layers lot q v).flatMap Ly.c)])) := by
  subst enl
  have hle := @lotI_le lot t.layers
  have hla : (t.layers ++ [(⟨0, ⟨#[]⟩, 0, 0⟩ : Ly)]).length = t.layers.length + 1 := by simp
  refine AC.go Tryz.func121 rfl (Nat.le_of_ble_eq_true rfl) fun β => ?_
  refine sr ?_
  refine mvo rfl rfl ?_
  refine mvo rfl rfl ?_
  refine RunL.call C123 rfl rfl rfl (ac123 bx t la _ lc pa _ pc lot rfl hnl) tks ?_
  rcases hf : lotF lot t.layers with _ | ⟨i, l⟩
  · skip
    refine mvo rfl rfl ?_
    refine RunL.op rfl rfl (OpJ.extract rfl rfl ?_)
    refine RunL.op rfl rfl (OpJ.extract rfl rfl ?_)
    refine asg rfl rfl ?_
    refine asg rfl rfl ?_
    refine kp [0, 1, 2, 3, 8, 9] rfl ?_
    refine Run.seq ?_
    refine sr ?_
    refine mvo rfl rfl ?_
    refine RunL.op rfl rfl (OpJ.not rfl ?_)
    refine kp [0, 1, 2, 3, 8, 17] rfl ?_
    refine Run.true rfl ?_
    refine sr ?_
    refine mvo rfl rfl ?_
    refine mvo rfl rfl ?_
    refine RunL.op rfl rfl (OpJ.nilCheck rfl ?_)
    refine RunL.op rfl rfl (OpJ.fieldAddr F92_0 rfl ?_)
    refine RunL.op rfl rfl (OpJ.fieldAddr F28_3 rfl ?_)
    first | refine RunL.op rfl rfl (OpJ.loadF T25 rfl pk (by rfl) ?_) | refine RunL.op rfl rfl (OpJ.loadO T25 rfl pk (by assumption) (by rfl) (by exact fun _ => rfl) ?_)
    refine RunL.op rfl rfl (OpJ.build B64 rfl rfl fun cs hcs => ?_)
    simp only [Sk.c, Mv.c, Co.c, bldL, bldA, Value.cells, bs, Nat.reduceAdd, Nat.reduceLeDiff, Nat.reduceLT] at hcs; subst hcs
    refine RunL.op rfl rfl (OpJ.buildSlice1 S25 rfl rfl rfl (by decide) (by decide) Z64 rfl fun b25 => ?_)
    refine RunL.op rfl rfl (OpJ.append1 (⟨0, ⟨#[]⟩, 0, 0⟩ : Ly) S25 M64 rfl rfl pk pk rfl rfl (by simp [Value.oneCell', Pa.c, Ly.c, Mv.c, Co.c]) rfl (by omega) (by omega) fun a26 c26 => ?_)
    have hxn : (t.layers ++ [(⟨0, ⟨#[]⟩, 0, 0⟩ : Ly)])[t.layers.length]? = some (⟨0, ⟨#[]⟩, 0, 0⟩ : Ly) := by simp
    refine RunL.ownAddr pk (flat_ne (k := 4) (fun _ => rfl) (by decide) hxn) fun b e hcap => ?_
    subst e
    refine RunL.op rfl rfl (OpJ.nilCheck rfl ?_)
    refine RunL.op rfl rfl (OpJ.fieldAddr F92_0 rfl ?_)
    refine RunL.op rfl rfl (OpJ.fieldAddr F28_3 rfl ?_)
    refine RunL.op rfl rfl (OpJ.store1 T25 rfl rfl rfl up (by simp) ?_)
    refine kp [0, 1, 2, 3, 8] rfl ?_
    refine Run.seq ?_
    refine regionD HM ?_
    refine tk 0 rfl rfl rfl (DetJ.move rfl) ?_
    refine tk 1 rfl rfl rfl (DetJ.nilCheck rfl) ?_
    refine tk 2 rfl rfl rfl (DetJ.fieldAddr F92_0 rfl) ?_
    refine tk 3 rfl rfl rfl (DetJ.fieldAddr F28_3 rfl) ?_
    first | refine RunD.takeF 4 rfl rfl kr T25 rfl pk (by rfl) ?_ | refine RunD.takeO 4 rfl rfl kr T25 rfl pk (by assumption) (by rfl) (by exact fun _ => rfl) ?_
    refine tk 5 rfl rfl rfl (DetJ.move rfl) ?_
    refine tk 6 rfl rfl rfl (DetJ.addI rfl rfl (by omega)) ?_
    refine tk 7 rfl rfl rfl (DetJ.sliceLo (i := lotI lot t.layers + 1) S25 rfl rfl (by omega)) ?_
    refine tk 8 rfl rfl rfl (DetJ.move rfl) ?_
    refine tk 9 rfl rfl rfl (DetJ.nilCheck rfl) ?_
    refine tk 10 rfl rfl rfl (DetJ.fieldAddr F92_0 rfl) ?_
    refine tk 11 rfl rfl rfl (DetJ.fieldAddr F28_3 rfl) ?_
    first | refine RunD.takeF 12 rfl rfl kr T25 rfl pk (by rfl) ?_ | refine RunD.takeO 12 rfl rfl kr T25 rfl pk (by assumption) (by rfl) (by exact fun _ => rfl) ?_
    refine tk 13 rfl rfl rfl (DetJ.move rfl) ?_
    refine tk 14 rfl rfl rfl (DetJ.sliceLo (i := lotI lot t.layers) S25 rfl rfl (by omega)) ?_
    refine RunD.op 15 [false, false, false, false, true, true, true, false, false, false, false, false, true, true, true] rfl rfl rfl kr kr (OpJ.copyUp (i := lotI lot t.layers) S25 rfl rfl up rfl (by omega) (fun _ => rfl) (by decide) Ly.one ⟨po, ?_⟩)
    refine kd [0, 1, 2, 3, 8] rfl ?_
    refine Run.region ?_
    refine mvo rfl rfl ?_
    refine RunL.op rfl rfl (OpJ.nilCheck rfl ?_)
    refine RunL.op rfl rfl (OpJ.fieldAddr F92_0 rfl ?_)
    refine RunL.op rfl rfl (OpJ.fieldAddr F28_3 rfl ?_)
    first | refine RunL.op rfl rfl (OpJ.loadF T25 rfl pk (by rfl) ?_) | refine RunL.op rfl rfl (OpJ.loadO T25 rfl pk (by assumption) (by rfl) (by exact fun _ => rfl) ?_)
    refine mvo rfl rfl ?_
    refine mvo rfl rfl ?_
    refine RunL.op rfl rfl (OpJ.build B64 rfl rfl fun cs hcs => ?_)
    simp only [Sk.c, Mv.c, Co.c, bldL, bldA, Value.cells, bs, Nat.reduceAdd, Nat.reduceLeDiff, Nat.reduceLT] at hcs; subst hcs
    refine RunL.op rfl rfl (OpJ.indexAddr S25 rfl rfl (by omega) ?_)
    refine RunL.op rfl rfl (OpJ.storeE (i := lotI lot t.layers) (u' := newLy lot) T64 rfl rfl (Ly.one _) (ins_lt (z := (⟨0, ⟨#[]⟩, 0, 0⟩ : Ly)) hle) (fun _ => rfl) (by decide) up ?_)
    rw [ins_eq hle]
    refine kp [0, 2, 3, 8] rfl ?_
    refine sr ?_
    have hx0 : (insL t.layers (lotI lot t.layers) (newLy lot))[lotI lot t.layers]? = some (newLy lot) := insL_get hle
    have hx10 : (insL t.layers (lotI lot t.layers) { newLy lot with qty := W ((newLy lot).qty + q) })[lotI lot t.layers]? = some { newLy lot with qty := W ((newLy lot).qty + q) } := insL_get hle
    refine mvo rfl rfl ?_
    refine RunL.op rfl rfl (OpJ.nilCheck rfl ?_)
    refine RunL.op rfl rfl (OpJ.fieldAddr F92_0 rfl ?_)
    refine RunL.op rfl rfl (OpJ.fieldAddr F28_3 rfl ?_)
    first | refine RunL.op rfl rfl (OpJ.loadF T25 rfl pk (by rfl) ?_) | refine RunL.op rfl rfl (OpJ.loadO T25 rfl pk (by assumption) (by rfl) (by exact fun _ => rfl) ?_)
    refine mvo rfl rfl ?_
    refine RunL.op rfl rfl (OpJ.indexAddr S25 rfl rfl (by omega) ?_)
    refine RunL.op rfl rfl (OpJ.fieldAddr F64_2 rfl ?_)
    refine RunL.op rfl rfl (OpJ.loadO T3 rfl pk hx0 (by rfl) (by exact fun _ => rfl) ?_)
    refine mvo rfl rfl ?_
    refine RunL.op rfl rfl (OpJ.add rfl rfl ?_)
    refine RunL.op rfl rfl (OpJ.indexAddr S25 rfl rfl (by omega) ?_)
    refine RunL.op rfl rfl (OpJ.fieldAddr F64_2 rfl ?_)
    refine RunL.op rfl rfl (OpJ.storeO (i := lotI lot t.layers) (u' := { newLy lot with qty := W ((newLy lot).qty + q) }) T3 rfl rfl rfl hx0 (fun _ => rfl) (by decide) rfl up ?_)
    first | rw [insL_set hle] | skip
    refine kp [0, 3, 8] rfl ?_
    refine Run.region ?_
    refine mvo rfl rfl ?_
    refine RunL.op rfl rfl (OpJ.nilCheck rfl ?_)
    refine RunL.op rfl rfl (OpJ.fieldAddr F92_0 rfl ?_)
    refine RunL.op rfl rfl (OpJ.fieldAddr F28_3 rfl ?_)
    first | refine RunL.op rfl rfl (OpJ.loadF T25 rfl pk (by rfl) ?_) | refine RunL.op rfl rfl (OpJ.loadO T25 rfl pk (by assumption) (by rfl) (by exact fun _ => rfl) ?_)
    refine mvo rfl rfl ?_
    refine RunL.op rfl rfl (OpJ.indexAddr S25 rfl rfl (by omega) ?_)
    refine RunL.op rfl rfl (OpJ.fieldAddr F64_3 rfl ?_)
    refine RunL.op rfl rfl (OpJ.loadO T3 rfl pk hx10 (by rfl) (by exact fun _ => rfl) ?_)
    refine mvo rfl rfl ?_
    refine RunL.op rfl rfl (OpJ.add rfl rfl ?_)
    refine RunL.op rfl rfl (OpJ.indexAddr S25 rfl rfl (by omega) ?_)
    refine RunL.op rfl rfl (OpJ.fieldAddr F64_3 rfl ?_)
    refine RunL.op rfl rfl (OpJ.storeO (i := lotI lot t.layers) (u' := bump (newLy lot) q v) T3 rfl rfl rfl hx10 (fun _ => rfl) (by decide) rfl up ?_)
    first | rw [insL_set hle] | rw [List.set_set]
    refine kp [] rfl ?_
    have hadd : addLot t.layers lot q v = insL t.layers (lotI lot t.layers) (bump (newLy lot) q v) := (by unfold addLot; rw [hf]); refine ret_out (some ⟨b, 0, none⟩, c26) .nil trivial rfl ?_; rw [hadd, insL_len hle, ← hla]; exact gv
  · skip
    obtain ⟨hx, hll, hI⟩ := lotF_some hf
    have hi := (List.getElem?_eq_some_iff.1 hx).1
    rw [hI]
    refine RunL.ownAddr pk (flat_ne (k := 4) (fun _ => rfl) (by decide) hx) fun b e hcap => ?_
    subst e
    have hx1 := set_get hx { l with qty := W (l.qty + q) }
    refine mvo rfl rfl ?_
    refine RunL.op rfl rfl (OpJ.extract rfl rfl ?_)
    refine RunL.op rfl rfl (OpJ.extract rfl rfl ?_)
    refine asg rfl rfl ?_
    refine asg rfl rfl ?_
    refine kp [0, 1, 2, 3, 8, 9] rfl ?_
    refine Run.seq ?_
    refine sr ?_
    refine mvo rfl rfl ?_
    refine RunL.op rfl rfl (OpJ.not rfl ?_)
    refine kp [0, 1, 2, 3, 8, 17] rfl ?_
    refine Run.false rfl ?_
    refine Run.skip ?_
    refine sr ?_
    have hx0 : (insL t.layers (lotI lot t.layers) (newLy lot))[lotI lot t.layers]? = some (newLy lot) := insL_get hle
    have hx10 : (insL t.layers (lotI lot t.layers) { newLy lot with qty := W ((newLy lot).qty + q) })[lotI lot t.layers]? = some { newLy lot with qty := W ((newLy lot).qty + q) } := insL_get hle
    refine mvo rfl rfl ?_
    refine RunL.op rfl rfl (OpJ.nilCheck rfl ?_)
    refine RunL.op rfl rfl (OpJ.fieldAddr F92_0 rfl ?_)
    refine RunL.op rfl rfl (OpJ.fieldAddr F28_3 rfl ?_)
    first | refine RunL.op rfl rfl (OpJ.loadF T25 rfl pk (by rfl) ?_) | refine RunL.op rfl rfl (OpJ.loadO T25 rfl pk (by assumption) (by rfl) (by exact fun _ => rfl) ?_)
    refine mvo rfl rfl ?_
    refine RunL.op rfl rfl (OpJ.indexAddr S25 rfl rfl (by omega) ?_)
    refine RunL.op rfl rfl (OpJ.fieldAddr F64_2 rfl ?_)
    refine RunL.op rfl rfl (OpJ.loadO T3 rfl pk hx (by rfl) (by exact fun _ => rfl) ?_)
    refine mvo rfl rfl ?_
    refine RunL.op rfl rfl (OpJ.add rfl rfl ?_)
    refine RunL.op rfl rfl (OpJ.indexAddr S25 rfl rfl (by omega) ?_)
    refine RunL.op rfl rfl (OpJ.fieldAddr F64_2 rfl ?_)
    refine RunL.op rfl rfl (OpJ.storeO (i := i) (u' := { l with qty := W (l.qty + q) }) T3 rfl rfl rfl hx (fun _ => rfl) (by decide) rfl up ?_)
    first | rw [insL_set hle] | skip
    refine kp [0, 3, 8] rfl ?_
    refine Run.region ?_
    refine mvo rfl rfl ?_
    refine RunL.op rfl rfl (OpJ.nilCheck rfl ?_)
    refine RunL.op rfl rfl (OpJ.fieldAddr F92_0 rfl ?_)
    refine RunL.op rfl rfl (OpJ.fieldAddr F28_3 rfl ?_)
    first | refine RunL.op rfl rfl (OpJ.loadF T25 rfl pk (by rfl) ?_) | refine RunL.op rfl rfl (OpJ.loadO T25 rfl pk (by assumption) (by rfl) (by exact fun _ => rfl) ?_)
    refine mvo rfl rfl ?_
    refine RunL.op rfl rfl (OpJ.indexAddr S25 rfl rfl (by omega) ?_)
    refine RunL.op rfl rfl (OpJ.fieldAddr F64_3 rfl ?_)
    refine RunL.op rfl rfl (OpJ.loadO T3 rfl pk hx1 (by rfl) (by exact fun _ => rfl) ?_)
    refine mvo rfl rfl ?_
    refine RunL.op rfl rfl (OpJ.add rfl rfl ?_)
    refine RunL.op rfl rfl (OpJ.indexAddr S25 rfl rfl (by omega) ?_)
    refine RunL.op rfl rfl (OpJ.fieldAddr F64_3 rfl ?_)
    refine RunL.op rfl rfl (OpJ.storeO (i := i) (u' := bump l q v) T3 rfl rfl rfl hx1 (fun _ => rfl) (by decide) rfl up ?_)
    first | rw [insL_set hle] | rw [List.set_set]
    refine kp [] rfl ?_
    have hadd : addLot t.layers lot q v = t.layers.set i (bump l q v) := (by unfold addLot; rw [hf]); refine ret_out (some ⟨b, 0, none⟩, lc) .nil trivial rfl ?_; rw [hadd, List.length_set]; exact gv
end Go.Proofs.YtdcchollplhioaaGreatDoor

namespace Go.Proofs.YtdcchollplhioaaGreatDoor
open Go Go.SL Go.Proofs
theorem C121 : CI Tryz.prog 121 := .of (by kernel_rfl)
theorem C122 : CI Tryz.prog 122 := .of (by kernel_rfl)
theorem C124 : CI Tryz.prog 124 := .of (by kernel_rfl)
theorem C125 : CI Tryz.prog 125 := .of (by kernel_rfl)
-- (*lots.book).receive
theorem ac85 (bx : Nat) (t : Sk) (la : Option Addr) (nl lc : Nat) (pa : Option Addr) (np pc : Nat) (m : Mv) (enl : nl = t.layers.length) (enp : np = t.past.length) (ht : t.ok 999999) (hm : m.ok) : AC Tryz.prog 85 ⟨[.pointer (some ⟨bx, 0, none⟩), .agg ⟨m.c⟩]⟩ (stars [pt bx (blk (SC t la nl lc pa np pc) 92), own 64 4 la nl lc ((t.layers).flatMap Ly.c), own 66 7 pa np pc ((t.past).flatMap Pa.c)]) (Outs (fun _ : Option Addr × Nat × Option Addr × Nat => True) (fun _ => AvV (lRecv t m)) (fun x => LvB 92 64 66 bx (lRecv t m) x)) := by
  subst enl enp
  have hn : t.layers.length ≤ 1000000 ∧ t.past.length ≤ 1000000 := ⟨Nat.le_trans ht.nl (by decide), Nat.le_trans ht.np (by decide)⟩
  have hnl := hn.1; have hnp := hn.2; have hnl9 := ht.nl; have hnp9 := ht.np
  obtain ⟨hm1, hm2⟩ := hm
  refine AC.go Tryz.func85 rfl (Nat.le_of_ble_eq_true rfl) fun β => ?_
  refine sr ?_
  refine RunL.op rfl rfl (OpJ.boxA rfl fun b3 => ?_)
  refine RunL.op rfl rfl (OpJ.alloc Z43 fun b4 => ?_)
  refine asg rfl rfl ?_
  refine kp [0, 3, 4] rfl ?_
  refine Run.seq ?_
  refine sr ?_
  refine RunL.op rfl rfl (OpJ.fieldAddr F47_6 rfl ?_)
  first | refine RunL.op rfl rfl (OpJ.loadF T9 rfl pk (by rfl) ?_) | refine RunL.op rfl rfl (OpJ.loadO T9 rfl pk (by assumption) (by rfl) (by exact fun _ => rfl) ?_)
  refine RunL.op rfl rfl (OpJ.eqlS rfl rfl ?_)
  refine kp [0, 3, 4, 8] rfl ?_
  first | refine Run.if rfl (fun h1 => ?_) (fun h1 => ?_) | refine Run.cond rfl (fun h1 => ?_) (fun h1 => ?_)
  · skip
    refine sr ?_
    first | refine RunL.op rfl rfl (OpJ.loadW T43 rfl pk (by rfl) ?_) | refine RunL.op rfl rfl (OpJ.loadP T43 rfl pk (by simp) ?_) | refine RunL.op rfl rfl (OpJ.loadE T43 rfl pk (by assumption) (by exact fun _ => rfl) rfl (by decide) ?_)
    refine RunL.op rfl rfl (OpJ.storeW T43 rfl rfl rfl rfl (by simp [Value.oneCell', Pa.c, Ly.c, Mv.c, Co.c]) up ?_)
    refine asg rfl rfl ?_
    refine kp [4, 5] rfl ?_
    refine Run.ret ?_
    have hres : lRecv t m = .error 22 := (by unfold lRecv; rw [if_pos h1]); refine ret_out (none, 0, none, 0) (.cellA T43 rfl pk (by rfl) (.tmp rfl .nil)) trivial (by rw [hres]; rfl) ?_; rw [hres]; exact gv
  · skip
    refine Run.skip ?_
    refine sr ?_
    refine mvo rfl rfl ?_
    refine RunL.op rfl rfl (OpJ.fieldAddr F47_6 rfl ?_)
    first | refine RunL.op rfl rfl (OpJ.loadF T9 rfl pk (by rfl) ?_) | refine RunL.op rfl rfl (OpJ.loadO T9 rfl pk (by assumption) (by rfl) (by exact fun _ => rfl) ?_)
    refine RunL.op rfl rfl (OpJ.fieldAddr F47_4 rfl ?_)
    first | refine RunL.op rfl rfl (OpJ.loadF T3 rfl pk (by rfl) ?_) | refine RunL.op rfl rfl (OpJ.loadO T3 rfl pk (by assumption) (by rfl) (by exact fun _ => rfl) ?_)
    refine RunL.op rfl rfl (OpJ.fieldAddr F47_5 rfl ?_)
    first | refine RunL.op rfl rfl (OpJ.loadF T3 rfl pk (by rfl) ?_) | refine RunL.op rfl rfl (OpJ.loadO T3 rfl pk (by assumption) (by rfl) (by exact fun _ => rfl) ?_)
    refine RunL.callX C121 rfl rfl rfl (ac121 bx t la _ lc pa _ pc m.lot m.qty m.cost rfl hnl) tks fun ⟨la2, lc2⟩ _ => ?_
    refine kp [0, 3, 4] rfl ?_
    refine sr ?_
    refine mvo rfl rfl ?_
    first | refine RunL.op rfl rfl (OpJ.loadW T47 rfl pk (by rfl) ?_) | refine RunL.op rfl rfl (OpJ.loadP T47 rfl pk (by simp) ?_) | refine RunL.op rfl rfl (OpJ.loadE T47 rfl pk (by assumption) (by exact fun _ => rfl) rfl (by decide) ?_)
    refine RunL.op rfl rfl (OpJ.fieldAddr F47_5 rfl ?_)
    first | refine RunL.op rfl rfl (OpJ.loadF T3 rfl pk (by rfl) ?_) | refine RunL.op rfl rfl (OpJ.loadO T3 rfl pk (by assumption) (by rfl) (by exact fun _ => rfl) ?_)
    refine RunL.callX C122 rfl rfl rfl (ac122 bx { t with layers := addLot t.layers m.lot m.qty m.cost } la2 _ lc2 pa _ pc m m.cost rfl hnp) tks fun ⟨pa2, pc2⟩ _ => ?_
    refine kp [3, 4] rfl ?_
    refine sr ?_
    refine RunL.op rfl rfl (OpJ.fieldAddr F47_4 rfl ?_)
    first | refine RunL.op rfl rfl (OpJ.loadF T3 rfl pk (by rfl) ?_) | refine RunL.op rfl rfl (OpJ.loadO T3 rfl pk (by assumption) (by rfl) (by exact fun _ => rfl) ?_)
    refine RunL.op rfl rfl (OpJ.fieldAddr F47_5 rfl ?_)
    first | refine RunL.op rfl rfl (OpJ.loadF T3 rfl pk (by rfl) ?_) | refine RunL.op rfl rfl (OpJ.loadO T3 rfl pk (by assumption) (by rfl) (by exact fun _ => rfl) ?_)
    refine RunL.op rfl rfl (OpJ.build B43 rfl rfl fun cs hcs => ?_)
    simp only [Sk.c, Mv.c, Co.c, bldL, bldA, Value.cells, bs, Nat.reduceAdd, Nat.reduceLeDiff, Nat.reduceLT] at hcs; subst hcs
    refine RunL.op rfl rfl (OpJ.storeW T43 rfl rfl rfl rfl (by simp [Value.oneCell', Pa.c, Ly.c, Mv.c, Co.c]) up ?_)
    refine asg rfl rfl ?_
    refine kp [4, 5] rfl ?_
    refine Run.ret ?_
    have hres : lRecv t m = .ok _ := (by unfold lRecv; rw [if_neg h1]); refine ret_out (la2, lc2, pa2, pc2) (.cellA T43 rfl pk (by rfl) (.tmp rfl .nil)) trivial (by rw [hres]; rfl) ?_; rw [hres]; exact gv
-- (*lots.book).issue
theorem ac86 (bx : Nat) (t : Sk) (la : Option Addr) (nl lc : Nat) (pa : Option Addr) (np pc : Nat) (m : Mv) (enl : nl = t.layers.length) (enp : np = t.past.length) (ht : t.ok 999999) (hm : m.ok) : AC Tryz.prog 86 ⟨[.pointer (some ⟨bx, 0, none⟩), .agg ⟨m.c⟩]⟩ (stars [pt bx (blk (SC t la nl lc pa np pc) 92), own 64 4 la nl lc ((t.layers).flatMap Ly.c), own 66 7 pa np pc ((t.past).flatMap Pa.c)]) (Outs (fun _ : Option Addr × Nat × Option Addr × Nat => True) (fun _ => AvV (lIssue t m)) (fun x => LvB 92 64 66 bx (lIssue t m) x)) := by
  subst enl enp
  have hn : t.layers.length ≤ 1000000 ∧ t.past.length ≤ 1000000 := ⟨Nat.le_trans ht.nl (by decide), Nat.le_trans ht.np (by decide)⟩
  have hnl := hn.1; have hnp := hn.2; have hnl9 := ht.nl; have hnp9 := ht.np
  obtain ⟨hm1, hm2⟩ := hm
  refine AC.go Tryz.func86 rfl (Nat.le_of_ble_eq_true rfl) fun β => ?_
  refine sr ?_
  refine RunL.op rfl rfl (OpJ.boxA rfl fun b3 => ?_)
  refine RunL.op rfl rfl (OpJ.alloc Z43 fun b4 => ?_)
  refine asg rfl rfl ?_
  refine kp [0, 3, 4] rfl ?_
  refine Run.seq ?_
  refine sr ?_
  refine mvo rfl rfl ?_
  refine RunL.op rfl rfl (OpJ.fieldAddr F47_6 rfl ?_)
  first | refine RunL.op rfl rfl (OpJ.loadF T9 rfl pk (by rfl) ?_) | refine RunL.op rfl rfl (OpJ.loadO T9 rfl pk (by assumption) (by rfl) (by exact fun _ => rfl) ?_)
  refine RunL.call C123 rfl rfl rfl (ac123 bx t la _ lc pa _ pc m.lot rfl hnl) tks ?_
  rcases hf : lotF m.lot t.layers with _ | ⟨j, l⟩
  · skip
    refine mvo rfl rfl ?_
    refine RunL.op rfl rfl (OpJ.extract rfl rfl ?_)
    refine RunL.op rfl rfl (OpJ.extract rfl rfl ?_)
    refine asg rfl rfl ?_
    refine asg rfl rfl ?_
    refine kp [0, 3, 4, 7] rfl ?_
    refine Run.block ?_
    refine sr ?_
    refine mvo rfl rfl ?_
    refine RunL.op rfl rfl (OpJ.not rfl ?_)
    refine mvo rfl rfl ?_
    refine RunL.no rfl rfl rfl rfl ?_
    refine RunL.no rfl rfl rfl rfl ?_
    refine RunL.no rfl rfl rfl rfl ?_
    refine RunL.op rfl rfl (OpJ.pickT rfl rfl ?_)
    refine asg rfl rfl ?_
    refine kp [0, 3, 4, 16] rfl ?_
    refine Run.true rfl ?_
    refine sr ?_
    first | refine RunL.op rfl rfl (OpJ.loadW T43 rfl pk (by rfl) ?_) | refine RunL.op rfl rfl (OpJ.loadP T43 rfl pk (by simp) ?_) | refine RunL.op rfl rfl (OpJ.loadE T43 rfl pk (by assumption) (by exact fun _ => rfl) rfl (by decide) ?_)
    refine RunL.op rfl rfl (OpJ.storeW T43 rfl rfl rfl rfl (by simp [Value.oneCell', Pa.c, Ly.c, Mv.c, Co.c]) up ?_)
    refine asg rfl rfl ?_
    refine kp [4, 5] rfl ?_
    refine Run.ret ?_
    have hres : lIssue t m = .error 22 := (by unfold lIssue; rw [hf]); refine ret_out (none, 0, none, 0) (.cellA T43 rfl pk (by rfl) (.tmp rfl .nil)) trivial (by rw [hres]; rfl) ?_; rw [hres]; exact gv
  · skip
    obtain ⟨hy, hll, hI⟩ := lotF_some hf
    have hj := (List.getElem?_eq_some_iff.1 hy).1
    have hly := ht.ly j l hy
    have hql : qtyLot t.layers m.lot = l.qty := (by unfold qtyLot; rw [hf])
    refine mvo rfl rfl ?_
    refine RunL.op rfl rfl (OpJ.extract rfl rfl ?_)
    refine RunL.op rfl rfl (OpJ.extract rfl rfl ?_)
    refine asg rfl rfl ?_
    refine asg rfl rfl ?_
    refine kp [0, 3, 4, 7] rfl ?_
    refine Run.block ?_
    refine sr ?_
    refine mvo rfl rfl ?_
    refine RunL.op rfl rfl (OpJ.not rfl ?_)
    refine mvo rfl rfl ?_
    refine RunL.yes rfl rfl rfl rfl (OpJ.fieldAddr F47_6 rfl ?_)
    first | refine RunL.yes rfl rfl rfl rfl (OpJ.loadF T9 rfl pk (by rfl) ?_) | refine RunL.yes rfl rfl rfl rfl (OpJ.loadO T9 rfl pk (by assumption) (by rfl) (by exact fun _ => rfl) ?_)
    refine RunL.yes rfl rfl rfl rfl (OpJ.eqlS rfl rfl ?_)
    refine RunL.op rfl rfl (OpJ.pickF rfl rfl ?_)
    refine asg rfl rfl ?_
    refine kp [0, 3, 4, 16] rfl ?_
    first | refine Run.if rfl (fun h1 => ?_) (fun h1 => ?_) | refine Run.cond rfl (fun h1 => ?_) (fun h1 => ?_)
    · skip
      refine sr ?_
      first | refine RunL.op rfl rfl (OpJ.loadW T43 rfl pk (by rfl) ?_) | refine RunL.op rfl rfl (OpJ.loadP T43 rfl pk (by simp) ?_) | refine RunL.op rfl rfl (OpJ.loadE T43 rfl pk (by assumption) (by exact fun _ => rfl) rfl (by decide) ?_)
      refine RunL.op rfl rfl (OpJ.storeW T43 rfl rfl rfl rfl (by simp [Value.oneCell', Pa.c, Ly.c, Mv.c, Co.c]) up ?_)
      refine asg rfl rfl ?_
      refine kp [4, 5] rfl ?_
      refine Run.ret ?_
      have hres : lIssue t m = .error 22 := (by unfold lIssue; rw [hf]; simp only; rw [if_pos (by assumption)]); refine ret_out (none, 0, none, 0) (.cellA T43 rfl pk (by rfl) (.tmp rfl .nil)) trivial (by rw [hres]; rfl) ?_; rw [hres]; exact gv
    · skip
      refine Run.seq ?_
      refine regionD HM ?_
      refine tk 0 rfl rfl rfl (DetJ.move rfl) ?_
      refine tk 1 rfl rfl rfl (DetJ.fieldAddr F47_6 rfl) ?_
      first | refine RunD.takeF 2 rfl rfl kr T9 rfl pk (by rfl) ?_ | refine RunD.takeO 2 rfl rfl kr T9 rfl pk (by assumption) (by rfl) (by exact fun _ => rfl) ?_
      refine tk 4 rfl rfl rfl (DetJ.fieldAddr F47_4 rfl) ?_
      first | refine RunD.takeF 5 rfl rfl kr T3 rfl pk (by rfl) ?_ | refine RunD.takeO 5 rfl rfl kr T3 rfl pk (by assumption) (by rfl) (by exact fun _ => rfl) ?_
      refine RunD.op 3 [true, true, false, false, false] rfl rfl rfl kr kr (OpJ.callRet C124 rfl rfl (ac124 bx t la _ lc pa _ pc m.lot rfl hnl) tks ⟨po, ?_⟩)
      refine tk 6 rfl rfl rfl (DetJ.lss rfl rfl) ?_
      refine tk 7 rfl rfl rfl (DetJ.assign rfl) ?_
      refine kd [0, 3, 4, 25] rfl ?_
      first | refine Run.if rfl (fun h2 => ?_) (fun h2 => ?_) | refine Run.cond rfl (fun h2 => ?_) (fun h2 => ?_)
      · skip
        refine sr ?_
        first | refine RunL.op rfl rfl (OpJ.loadW T43 rfl pk (by rfl) ?_) | refine RunL.op rfl rfl (OpJ.loadP T43 rfl pk (by simp) ?_) | refine RunL.op rfl rfl (OpJ.loadE T43 rfl pk (by assumption) (by exact fun _ => rfl) rfl (by decide) ?_)
        refine RunL.op rfl rfl (OpJ.storeW T43 rfl rfl rfl rfl (by simp [Value.oneCell', Pa.c, Ly.c, Mv.c, Co.c]) up ?_)
        refine asg rfl rfl ?_
        refine kp [4, 5] rfl ?_
        refine Run.ret ?_
        have hres : lIssue t m = .error 21 := (by unfold lIssue; rw [hf]; simp only; rw [if_neg (by assumption), if_pos (by rw [← hql]; assumption)]); refine ret_out (none, 0, none, 0) (.cellA T43 rfl pk (by rfl) (.tmp rfl .nil)) trivial (by rw [hres]; rfl) ?_; rw [hres]; exact gv
      · skip
        refine Run.skip ?_
        refine sr ?_
        refine mvo rfl rfl ?_
        refine RunL.op rfl rfl (OpJ.fieldAddr F47_6 rfl ?_)
        first | refine RunL.op rfl rfl (OpJ.loadF T9 rfl pk (by rfl) ?_) | refine RunL.op rfl rfl (OpJ.loadO T9 rfl pk (by assumption) (by rfl) (by exact fun _ => rfl) ?_)
        refine RunL.op rfl rfl (OpJ.fieldAddr F47_4 rfl ?_)
        first | refine RunL.op rfl rfl (OpJ.loadF T3 rfl pk (by rfl) ?_) | refine RunL.op rfl rfl (OpJ.loadO T3 rfl pk (by assumption) (by rfl) (by exact fun _ => rfl) ?_)
        refine RunL.call C125 rfl rfl rfl (ac125 bx t la _ lc pa _ pc m.lot j l m.qty hf hly hm1 rfl hnl) tks ?_
        refine asg rfl rfl ?_
        refine kp [0, 3, 4, 8] rfl ?_
        refine sr ?_
        refine mvo rfl rfl ?_
        first | refine RunL.op rfl rfl (OpJ.loadW T47 rfl pk (by rfl) ?_) | refine RunL.op rfl rfl (OpJ.loadP T47 rfl pk (by simp) ?_) | refine RunL.op rfl rfl (OpJ.loadE T47 rfl pk (by assumption) (by exact fun _ => rfl) rfl (by decide) ?_)
        refine mvo rfl rfl ?_
        refine RunL.callX C122 rfl rfl rfl (ac122 bx { t with layers := takeL t.layers j l m.qty } la _ lc pa _ pc m (takeV l m.qty) rfl hnp) tks fun ⟨pa2, pc2⟩ _ => ?_
        refine kp [3, 4, 8] rfl ?_
        refine sr ?_
        refine RunL.op rfl rfl (OpJ.fieldAddr F47_4 rfl ?_)
        first | refine RunL.op rfl rfl (OpJ.loadF T3 rfl pk (by rfl) ?_) | refine RunL.op rfl rfl (OpJ.loadO T3 rfl pk (by assumption) (by rfl) (by exact fun _ => rfl) ?_)
        refine RunL.op rfl rfl (OpJ.neg rfl ?_)
        refine mvo rfl rfl ?_
        refine RunL.op rfl rfl (OpJ.neg rfl ?_)
        refine RunL.op rfl rfl (OpJ.build B43 rfl rfl fun cs hcs => ?_)
        simp only [Sk.c, Mv.c, Co.c, bldL, bldA, Value.cells, bs, Nat.reduceAdd, Nat.reduceLeDiff, Nat.reduceLT] at hcs; subst hcs
        refine RunL.op rfl rfl (OpJ.storeW T43 rfl rfl rfl rfl (by simp [Value.oneCell', Pa.c, Ly.c, Mv.c, Co.c]) up ?_)
        refine asg rfl rfl ?_
        refine kp [4, 5] rfl ?_
        refine Run.ret ?_
        have hres : lIssue t m = .ok _ := (by unfold lIssue; rw [hf]; simp only; rw [if_neg (by assumption), if_neg (by rw [← hql]; assumption)]); refine ret_out (la, lc, pa2, pc2) (.cellA T43 rfl pk (by rfl) (.tmp rfl .nil)) trivial (by rw [hres]; rfl) ?_; rw [hres]; exact gv
-- (*lots.book).back
theorem ac87 (bx : Nat) (t : Sk) (la : Option Addr) (nl lc : Nat) (bp : Nat) (np pc : Nat) (m : Mv) (i : Nat) (p : Pa) (hx : t.past[i]? = some p) (enl : nl = t.layers.length) (enp : np = t.past.length) (ht : t.ok 999999) (hm : m.ok) : AC Tryz.prog 87 ⟨[.pointer (some ⟨bx, 0, none⟩), .agg ⟨m.c⟩, .pointer (some ⟨bp, 0 + i * 7, none⟩)]⟩ (stars [pt bx (blk (SC t la nl lc (some ⟨bp, 0, none⟩) np pc) 92), own 64 4 la nl lc ((t.layers).flatMap Ly.c), own 66 7 (some ⟨bp, 0, none⟩) np pc ((t.past).flatMap Pa.c)]) (Outs (fun _ : Option Addr × Nat × Option Addr × Nat => True) (fun _ => AvV (lBackR t m i p)) (fun x => LvB 92 64 66 bx (lBackR t m i p) x)) := by
  subst enl enp
  have hn : t.layers.length ≤ 1000000 ∧ t.past.length ≤ 1000000 := ⟨Nat.le_trans ht.nl (by decide), Nat.le_trans ht.np (by decide)⟩
  have hnl := hn.1; have hnp := hn.2; have hnl9 := ht.nl; have hnp9 := ht.np
  obtain ⟨hm1, hm2⟩ := hm
  have hi := (List.getElem?_eq_some_iff.1 hx).1
  obtain ⟨hp1, hp2, hp3, hp4⟩ := ht.pa i p hx
  have hx1 := set_get hx (sendP p m)
  refine AC.go Tryz.func87 rfl (Nat.le_of_ble_eq_true rfl) fun β => ?_
  refine sr ?_
  refine RunL.op rfl rfl (OpJ.boxA rfl fun b4 => ?_)
  refine RunL.op rfl rfl (OpJ.alloc Z43 fun b6 => ?_)
  refine asg rfl rfl ?_
  refine kp [0, 2, 4, 6] rfl ?_
  refine Run.seq ?_
  refine regionD HM ?_
  refine tk 0 rfl rfl rfl (DetJ.move rfl) ?_
  refine tk 1 rfl rfl rfl (DetJ.nilCheck rfl) ?_
  refine tk 2 rfl rfl rfl (DetJ.fieldAddr F66_4 rfl) ?_
  first | refine RunD.takeF 3 rfl rfl kr T3 rfl pk (by rfl) ?_ | refine RunD.takeO 3 rfl rfl kr T3 rfl pk (by assumption) (by rfl) (by exact fun _ => rfl) ?_
  refine tk 4 rfl rfl rfl (DetJ.move rfl) ?_
  refine tk 5 rfl rfl rfl (DetJ.nilCheck rfl) ?_
  refine tk 6 rfl rfl rfl (DetJ.fieldAddr F66_6 rfl) ?_
  first | refine RunD.takeF 7 rfl rfl kr T3 rfl pk (by rfl) ?_ | refine RunD.takeO 7 rfl rfl kr T3 rfl pk (by assumption) (by rfl) (by exact fun _ => rfl) ?_
  refine tk 8 rfl rfl rfl (DetJ.sub rfl rfl) ?_
  refine tk 9 rfl rfl rfl (DetJ.fieldAddr F47_4 rfl) ?_
  first | refine RunD.takeF 10 rfl rfl kr T3 rfl pk (by rfl) ?_ | refine RunD.takeO 10 rfl rfl kr T3 rfl pk (by assumption) (by rfl) (by exact fun _ => rfl) ?_
  refine tk 11 rfl rfl rfl (DetJ.move rfl) ?_
  refine tk 12 rfl rfl rfl (DetJ.nilCheck rfl) ?_
  refine tk 13 rfl rfl rfl (DetJ.fieldAddr F66_3 rfl) ?_
  first | refine RunD.takeF 14 rfl rfl kr T3 rfl pk (by rfl) ?_ | refine RunD.takeO 14 rfl rfl kr T3 rfl pk (by assumption) (by rfl) (by exact fun _ => rfl) ?_
  refine tk 15 rfl rfl rfl (DetJ.move rfl) ?_
  refine tk 16 rfl rfl rfl (DetJ.nilCheck rfl) ?_
  refine tk 17 rfl rfl rfl (DetJ.fieldAddr F66_5 rfl) ?_
  first | refine RunD.takeF 18 rfl rfl kr T3 rfl pk (by rfl) ?_ | refine RunD.takeO 18 rfl rfl kr T3 rfl pk (by assumption) (by rfl) (by exact fun _ => rfl) ?_
  refine tk 19 rfl rfl rfl (DetJ.sub rfl rfl) ?_
  refine RunD.op 20 [false, false, false, true, true, false, false, true, true, false, false, false, false, false, true, true, false, false, true, true] rfl rfl rfl kr kr (OpJ.callRet C126 rfl rfl (ac126 _ _ _ (W_i64 _) hm1 (W_i64 _)) .nil ⟨po, ?_⟩)
  refine tk 21 rfl rfl rfl (DetJ.assign rfl) ?_
  refine kd [0, 2, 4, 6, 8] rfl ?_
  refine Run.seq ?_
  refine regionD HM ?_
  refine tk 0 rfl rfl rfl (DetJ.move rfl) ?_
  refine tk 1 rfl rfl rfl (DetJ.nilCheck rfl) ?_
  refine tk 2 rfl rfl rfl (DetJ.fieldAddr F66_5 rfl) ?_
  first | refine RunD.takeF 3 rfl rfl kr T3 rfl pk (by rfl) ?_ | refine RunD.takeO 3 rfl rfl kr T3 rfl pk (by assumption) (by rfl) (by exact fun _ => rfl) ?_
  refine tk 4 rfl rfl rfl (DetJ.fieldAddr F47_4 rfl) ?_
  first | refine RunD.takeF 5 rfl rfl kr T3 rfl pk (by rfl) ?_ | refine RunD.takeO 5 rfl rfl kr T3 rfl pk (by assumption) (by rfl) (by exact fun _ => rfl) ?_
  refine tk 6 rfl rfl rfl (DetJ.add rfl rfl) ?_
  refine tk 7 rfl rfl rfl (DetJ.nilCheck rfl) ?_
  refine tk 8 rfl rfl rfl (DetJ.fieldAddr F66_5 rfl) ?_
  refine RunD.op 9 [false, false, false, false, false, false, false, false, false] rfl rfl rfl kr kr (OpJ.storeO (i := i) (u' := sendP p m) T3 rfl rfl rfl hx (fun _ => rfl) (by decide) rfl up ⟨po, ?_⟩)
  refine kd [0, 2, 4, 6, 8] rfl ?_
  refine sr ?_
  refine mvo rfl rfl ?_
  refine RunL.op rfl rfl (OpJ.nilCheck rfl ?_)
  refine RunL.op rfl rfl (OpJ.fieldAddr F66_6 rfl ?_)
  refine RunL.op rfl rfl (OpJ.loadO T3 rfl pk hx1 (by rfl) (by exact fun _ => rfl) ?_)
  refine mvo rfl rfl ?_
  refine RunL.op rfl rfl (OpJ.add rfl rfl ?_)
  refine RunL.op rfl rfl (OpJ.nilCheck rfl ?_)
  refine RunL.op rfl rfl (OpJ.fieldAddr F66_6 rfl ?_)
  refine RunL.op rfl rfl (OpJ.storeO (i := i) (u' := backP p m) T3 rfl rfl rfl hx1 (fun _ => rfl) (by decide) rfl up ?_)
  rw [List.set_set]
  have hx := set_get hx (backP p m)
  refine kp [0, 2, 4, 6, 8] rfl ?_
  refine Run.seq ?_
  refine regionD HM ?_
  refine tk 0 rfl rfl rfl (DetJ.move rfl) ?_
  refine tk 1 rfl rfl rfl (DetJ.move rfl) ?_
  refine tk 2 rfl rfl rfl (DetJ.nilCheck rfl) ?_
  refine tk 3 rfl rfl rfl (DetJ.fieldAddr F66_2 rfl) ?_
  first | refine RunD.takeF 4 rfl rfl kr T9 rfl pk (by rfl) ?_ | refine RunD.takeO 4 rfl rfl kr T9 rfl pk (by assumption) (by rfl) (by exact fun _ => rfl) ?_
  refine tk 5 rfl rfl rfl (DetJ.fieldAddr F47_4 rfl) ?_
  first | refine RunD.takeF 6 rfl rfl kr T3 rfl pk (by rfl) ?_ | refine RunD.takeO 6 rfl rfl kr T3 rfl pk (by assumption) (by rfl) (by exact fun _ => rfl) ?_
  refine tk 7 rfl rfl rfl (DetJ.move rfl) ?_
  refine RunD.op 8 [false, false, false, false, false, false, true, false] rfl rfl rfl kr kr (OpJ.callOuts C121 rfl rfl (ac121 bx { t with past := t.past.set i (backP p m) } la _ lc (some ⟨bp, 0, none⟩) _ pc p.lot m.qty (backV p m) rfl hnl) tks fun ⟨la2, lc2⟩ _ => ⟨po, ?_⟩)
  refine kd [4, 6, 8] rfl ?_
  refine sr ?_
  refine RunL.op rfl rfl (OpJ.fieldAddr F47_4 rfl ?_)
  first | refine RunL.op rfl rfl (OpJ.loadF T3 rfl pk (by rfl) ?_) | refine RunL.op rfl rfl (OpJ.loadO T3 rfl pk (by assumption) (by rfl) (by exact fun _ => rfl) ?_)
  refine mvo rfl rfl ?_
  refine RunL.op rfl rfl (OpJ.build B43 rfl rfl fun cs hcs => ?_)
  simp only [Sk.c, Mv.c, Co.c, bldL, bldA, Value.cells, bs, Nat.reduceAdd, Nat.reduceLeDiff, Nat.reduceLT] at hcs; subst hcs
  refine RunL.op rfl rfl (OpJ.storeW T43 rfl rfl rfl rfl (by simp [Value.oneCell', Pa.c, Ly.c, Mv.c, Co.c]) up ?_)
  refine asg rfl rfl ?_
  refine kp [6, 7] rfl ?_
  refine Run.ret ?_
  refine ret_out (la2, lc2, (some ⟨bp, 0, none⟩), pc) (.cellA T43 rfl pk (by rfl) (.tmp rfl .nil)) trivial rfl ?_; simp only [LvB, lBackR, List.length_set]; exact gv
-- (*lots.book).send
theorem ac88 (bx : Nat) (t : Sk) (la : Option Addr) (nl lc : Nat) (bp : Nat) (np pc : Nat) (m : Mv) (i : Nat) (p : Pa) (hx : t.past[i]? = some p) (enl : nl = t.layers.length) (enp : np = t.past.length) (ht : t.ok 999999) (hm : m.ok) (hq1 : 1 ≤ m.qty) : AC Tryz.prog 88 ⟨[.pointer (some ⟨bx, 0, none⟩), .agg ⟨m.c⟩, .pointer (some ⟨bp, 0 + i * 7, none⟩)]⟩ (stars [pt bx (blk (SC t la nl lc (some ⟨bp, 0, none⟩) np pc) 92), own 64 4 la nl lc ((t.layers).flatMap Ly.c), own 66 7 (some ⟨bp, 0, none⟩) np pc ((t.past).flatMap Pa.c)]) (Outs (fun _ : Option Addr × Nat × Option Addr × Nat => True) (fun _ => AvV (lSendR t m i p)) (fun x => LvB 92 64 66 bx (lSendR t m i p) x)) := by
  subst enl enp
  have hn : t.layers.length ≤ 1000000 ∧ t.past.length ≤ 1000000 := ⟨Nat.le_trans ht.nl (by decide), Nat.le_trans ht.np (by decide)⟩
  have hnl := hn.1; have hnp := hn.2; have hnl9 := ht.nl; have hnp9 := ht.np
  obtain ⟨hm1, hm2⟩ := hm
  have hi := (List.getElem?_eq_some_iff.1 hx).1
  obtain ⟨hp1, hp2, hp3, hp4⟩ := ht.pa i p hx
  refine AC.go Tryz.func88 rfl (Nat.le_of_ble_eq_true rfl) fun β => ?_
  refine sr ?_
  refine RunL.op rfl rfl (OpJ.boxA rfl fun b4 => ?_)
  refine RunL.op rfl rfl (OpJ.alloc Z43 fun b6 => ?_)
  refine asg rfl rfl ?_
  refine kp [0, 2, 4, 6] rfl ?_
  refine Run.seq ?_
  refine Run.seq ?_
  refine regionD HM ?_
  refine tk 0 rfl rfl rfl (DetJ.move rfl) ?_
  refine tk 1 rfl rfl rfl (DetJ.move rfl) ?_
  refine tk 2 rfl rfl rfl (DetJ.nilCheck rfl) ?_
  refine tk 3 rfl rfl rfl (DetJ.fieldAddr F66_2 rfl) ?_
  first | refine RunD.takeF 4 rfl rfl kr T9 rfl pk (by rfl) ?_ | refine RunD.takeO 4 rfl rfl kr T9 rfl pk (by assumption) (by rfl) (by exact fun _ => rfl) ?_
  refine tk 6 rfl rfl rfl (DetJ.fieldAddr F47_4 rfl) ?_
  first | refine RunD.takeF 7 rfl rfl kr T3 rfl pk (by rfl) ?_ | refine RunD.takeO 7 rfl rfl kr T3 rfl pk (by assumption) (by rfl) (by exact fun _ => rfl) ?_
  refine RunD.op 5 [true, true, false, false, false, true, false] rfl rfl rfl kr kr (OpJ.callRet C124 rfl rfl (ac124 bx t la _ lc (some ⟨bp, 0, none⟩) _ pc p.lot rfl hnl) tks ⟨po, ?_⟩)
  rcases hf : lotF p.lot t.layers with _ | ⟨j, l⟩
  · skip
    have hql : qtyLot t.layers p.lot = 0 := (by unfold qtyLot; rw [hf])
    rw [hql]
    refine tk 8 rfl rfl rfl (DetJ.lss rfl rfl) ?_
    first | refine RunD.set (congrArg Value.bool (decide_eq_true (show (0 : Int) < m.qty by omega))) ?_ | skip
    refine kd [0, 2, 4, 6, 17] rfl ?_
    refine Run.true rfl ?_
    refine sr ?_
    first | refine RunL.op rfl rfl (OpJ.loadW T43 rfl pk (by rfl) ?_) | refine RunL.op rfl rfl (OpJ.loadP T43 rfl pk (by simp) ?_) | refine RunL.op rfl rfl (OpJ.loadE T43 rfl pk (by assumption) (by exact fun _ => rfl) rfl (by decide) ?_)
    refine RunL.op rfl rfl (OpJ.storeW T43 rfl rfl rfl rfl (by simp [Value.oneCell', Pa.c, Ly.c, Mv.c, Co.c]) up ?_)
    refine asg rfl rfl ?_
    refine kp [6, 7] rfl ?_
    refine Run.ret ?_
    have hres : lSendR t m i p = .error 21 := (by unfold lSendR; rw [hf]); refine ret_out (none, 0, none, 0) (.cellA T43 rfl pk (by rfl) (.tmp rfl .nil)) trivial (by rw [hres]; rfl) ?_; rw [hres]; exact gv
  · skip
    obtain ⟨hy, hll, hI⟩ := lotF_some hf
    have hj := (List.getElem?_eq_some_iff.1 hy).1
    have hly := ht.ly j l hy
    have hql : qtyLot t.layers p.lot = l.qty := (by unfold qtyLot; rw [hf])
    rw [hql]
    refine tk 8 rfl rfl rfl (DetJ.lss rfl rfl) ?_
    first | refine RunD.set (congrArg Value.bool (decide_eq_true (show (0 : Int) < m.qty by omega))) ?_ | skip
    refine kd [0, 2, 4, 6, 17] rfl ?_
    first | refine Run.if rfl (fun h1 => ?_) (fun h1 => ?_) | refine Run.cond rfl (fun h1 => ?_) (fun h1 => ?_)
    · skip
      refine sr ?_
      first | refine RunL.op rfl rfl (OpJ.loadW T43 rfl pk (by rfl) ?_) | refine RunL.op rfl rfl (OpJ.loadP T43 rfl pk (by simp) ?_) | refine RunL.op rfl rfl (OpJ.loadE T43 rfl pk (by assumption) (by exact fun _ => rfl) rfl (by decide) ?_)
      refine RunL.op rfl rfl (OpJ.storeW T43 rfl rfl rfl rfl (by simp [Value.oneCell', Pa.c, Ly.c, Mv.c, Co.c]) up ?_)
      refine asg rfl rfl ?_
      refine kp [6, 7] rfl ?_
      refine Run.ret ?_
      have hres : lSendR t m i p = .error 21 := (by unfold lSendR; rw [hf]; simp only; rw [if_pos (by assumption)]); refine ret_out (none, 0, none, 0) (.cellA T43 rfl pk (by rfl) (.tmp rfl .nil)) trivial (by rw [hres]; rfl) ?_; rw [hres]; exact gv
    · skip
      refine Run.skip ?_
      refine Run.seq ?_
      refine regionD HM ?_
      refine tk 0 rfl rfl rfl (DetJ.move rfl) ?_
      refine tk 1 rfl rfl rfl (DetJ.nilCheck rfl) ?_
      refine tk 2 rfl rfl rfl (DetJ.fieldAddr F66_5 rfl) ?_
      first | refine RunD.takeF 3 rfl rfl kr T3 rfl pk (by rfl) ?_ | refine RunD.takeO 3 rfl rfl kr T3 rfl pk (by assumption) (by rfl) (by exact fun _ => rfl) ?_
      refine tk 4 rfl rfl rfl (DetJ.fieldAddr F47_4 rfl) ?_
      first | refine RunD.takeF 5 rfl rfl kr T3 rfl pk (by rfl) ?_ | refine RunD.takeO 5 rfl rfl kr T3 rfl pk (by assumption) (by rfl) (by exact fun _ => rfl) ?_
      refine tk 6 rfl rfl rfl (DetJ.add rfl rfl) ?_
      refine tk 7 rfl rfl rfl (DetJ.nilCheck rfl) ?_
      refine tk 8 rfl rfl rfl (DetJ.fieldAddr F66_5 rfl) ?_
      refine RunD.op 9 [false, false, false, false, false, false, false, false, false] rfl rfl rfl kr kr (OpJ.storeO (i := i) (u' := sendP p m) T3 rfl rfl rfl hx (fun _ => rfl) (by decide) rfl up ⟨po, ?_⟩)
      have hx := set_get hx (sendP p m)
      refine kd [0, 2, 4, 6] rfl ?_
      refine Run.seq ?_
      refine regionD HM ?_
      refine tk 0 rfl rfl rfl (DetJ.move rfl) ?_
      refine tk 1 rfl rfl rfl (DetJ.move rfl) ?_
      refine tk 2 rfl rfl rfl (DetJ.nilCheck rfl) ?_
      refine tk 3 rfl rfl rfl (DetJ.fieldAddr F66_2 rfl) ?_
      first | refine RunD.takeF 4 rfl rfl kr T9 rfl pk (by rfl) ?_ | refine RunD.takeO 4 rfl rfl kr T9 rfl pk (by assumption) (by rfl) (by exact fun _ => rfl) ?_
      refine tk 5 rfl rfl rfl (DetJ.fieldAddr F47_4 rfl) ?_
      first | refine RunD.takeF 6 rfl rfl kr T3 rfl pk (by rfl) ?_ | refine RunD.takeO 6 rfl rfl kr T3 rfl pk (by assumption) (by rfl) (by exact fun _ => rfl) ?_
      refine RunD.op 7 [false, false, false, false, false, true, false] rfl rfl rfl kr kr (OpJ.callRet C125 rfl rfl (ac125 bx { t with past := t.past.set i (sendP p m) } la _ lc (some ⟨bp, 0, none⟩) _ pc p.lot j l m.qty hf hly hm1 rfl hnl) tks ⟨po, ?_⟩)
      refine tk 8 rfl rfl rfl (DetJ.assign rfl) ?_
      refine kd [4, 6, 8] rfl ?_
      refine sr ?_
      refine RunL.op rfl rfl (OpJ.fieldAddr F47_4 rfl ?_)
      first | refine RunL.op rfl rfl (OpJ.loadF T3 rfl pk (by rfl) ?_) | refine RunL.op rfl rfl (OpJ.loadO T3 rfl pk (by assumption) (by rfl) (by exact fun _ => rfl) ?_)
      refine RunL.op rfl rfl (OpJ.neg rfl ?_)
      refine mvo rfl rfl ?_
      refine RunL.op rfl rfl (OpJ.neg rfl ?_)
      refine mvo rfl rfl ?_
      refine RunL.op rfl rfl (OpJ.fieldAddr F47_5 rfl ?_)
      first | refine RunL.op rfl rfl (OpJ.loadF T3 rfl pk (by rfl) ?_) | refine RunL.op rfl rfl (OpJ.loadO T3 rfl pk (by assumption) (by rfl) (by exact fun _ => rfl) ?_)
      refine RunL.op rfl rfl (OpJ.sub rfl rfl ?_)
      refine RunL.op rfl rfl (OpJ.build B43 rfl rfl fun cs hcs => ?_)
      simp only [Sk.c, Mv.c, Co.c, bldL, bldA, Value.cells, bs, Nat.reduceAdd, Nat.reduceLeDiff, Nat.reduceLT] at hcs; subst hcs
      refine RunL.op rfl rfl (OpJ.storeW T43 rfl rfl rfl rfl (by simp [Value.oneCell', Pa.c, Ly.c, Mv.c, Co.c]) up ?_)
      refine asg rfl rfl ?_
      refine kp [6, 7] rfl ?_
      refine Run.ret ?_
      have hres : lSendR t m i p = .ok _ := (by unfold lSendR; rw [hf]; simp only; rw [if_neg (by assumption)]); refine ret_out (la, lc, (some ⟨bp, 0, none⟩), pc) (.cellA T43 rfl pk (by rfl) (.tmp rfl .nil)) trivial (by rw [hres]; rfl) ?_; rw [hres]; simp only [LvB, List.length_set]; exact gv
-- (*lots.book).land
theorem ac89 (bx : Nat) (t : Sk) (la : Option Addr) (nl lc : Nat) (bp : Nat) (np pc : Nat) (m : Mv) (i : Nat) (p : Pa) (hx : t.past[i]? = some p) (enl : nl = t.layers.length) (enp : np = t.past.length) (ht : t.ok 999999) (hm : m.ok) : AC Tryz.prog 89 ⟨[.pointer (some ⟨bx, 0, none⟩), .agg ⟨m.c⟩, .pointer (some ⟨bp, 0 + i * 7, none⟩)]⟩ (stars [pt bx (blk (SC t la nl lc (some ⟨bp, 0, none⟩) np pc) 92), own 64 4 la nl lc ((t.layers).flatMap Ly.c), own 66 7 (some ⟨bp, 0, none⟩) np pc ((t.past).flatMap Pa.c)]) (Outs (fun _ : Option Addr × Nat × Option Addr × Nat => True) (fun _ => AvV (lLandR t m i p)) (fun x => LvB 92 64 66 bx (lLandR t m i p) x)) := by
  subst enl enp
  have hn : t.layers.length ≤ 1000000 ∧ t.past.length ≤ 1000000 := ⟨Nat.le_trans ht.nl (by decide), Nat.le_trans ht.np (by decide)⟩
  have hnl := hn.1; have hnp := hn.2; have hnl9 := ht.nl; have hnp9 := ht.np
  obtain ⟨hm1, hm2⟩ := hm
  have hi := (List.getElem?_eq_some_iff.1 hx).1
  obtain ⟨hp1, hp2, hp3, hp4⟩ := ht.pa i p hx
  have hlq := lotQ_i64 ht.ly hp1
  refine AC.go Tryz.func89 rfl (Nat.le_of_ble_eq_true rfl) fun β => ?_
  refine sr ?_
  refine RunL.op rfl rfl (OpJ.boxA rfl fun b4 => ?_)
  refine RunL.op rfl rfl (OpJ.alloc Z43 fun b6 => ?_)
  refine asg rfl rfl ?_
  refine kp [0, 2, 4, 6] rfl ?_
  refine Run.seq ?_
  refine regionD HM ?_
  refine tk 0 rfl rfl rfl (DetJ.move rfl) ?_
  refine tk 1 rfl rfl rfl (DetJ.nilCheck rfl) ?_
  refine tk 2 rfl rfl rfl (DetJ.fieldAddr F66_3 rfl) ?_
  first | refine RunD.takeF 3 rfl rfl kr T3 rfl pk (by rfl) ?_ | refine RunD.takeO 3 rfl rfl kr T3 rfl pk (by assumption) (by rfl) (by exact fun _ => rfl) ?_
  refine tk 4 rfl rfl rfl (DetJ.move rfl) ?_
  refine tk 5 rfl rfl rfl (DetJ.move rfl) ?_
  refine tk 6 rfl rfl rfl (DetJ.nilCheck rfl) ?_
  refine tk 7 rfl rfl rfl (DetJ.fieldAddr F66_2 rfl) ?_
  first | refine RunD.takeF 8 rfl rfl kr T9 rfl pk (by rfl) ?_ | refine RunD.takeO 8 rfl rfl kr T9 rfl pk (by assumption) (by rfl) (by exact fun _ => rfl) ?_
  refine RunD.op 9 [false, false, false, true, false, true, true, true, true] rfl rfl rfl kr kr (OpJ.callRet C124 rfl rfl (ac124 bx t la _ lc (some ⟨bp, 0, none⟩) _ pc p.lot rfl hnl) tks ⟨po, ?_⟩)
  refine tk 10 rfl rfl rfl (DetJ.min rfl rfl) ?_
  refine tk 11 rfl rfl rfl (DetJ.assign rfl) ?_
  refine kd [0, 2, 4, 6, 8] rfl ?_
  refine Run.seq ?_
  refine sr ?_
  refine mvo rfl rfl ?_
  refine RunL.op rfl rfl (OpJ.eql rfl rfl ?_)
  refine kp [0, 2, 4, 6, 8, 22] rfl ?_
  first | refine Run.if rfl (fun h1 => ?_) (fun h1 => ?_) | refine Run.cond rfl (fun h1 => ?_) (fun h1 => ?_)
  · skip
    refine sr ?_
    refine RunL.op rfl rfl (OpJ.fieldAddr F47_5 rfl ?_)
    first | refine RunL.op rfl rfl (OpJ.loadF T3 rfl pk (by rfl) ?_) | refine RunL.op rfl rfl (OpJ.loadO T3 rfl pk (by assumption) (by rfl) (by exact fun _ => rfl) ?_)
    refine RunL.op rfl rfl (OpJ.build B43 rfl rfl fun cs hcs => ?_)
    simp only [Sk.c, Mv.c, Co.c, bldL, bldA, Value.cells, bs, Nat.reduceAdd, Nat.reduceLeDiff, Nat.reduceLT] at hcs; subst hcs
    refine RunL.op rfl rfl (OpJ.storeW T43 rfl rfl rfl rfl (by simp [Value.oneCell', Pa.c, Ly.c, Mv.c, Co.c]) up ?_)
    refine asg rfl rfl ?_
    refine kp [6, 7] rfl ?_
    refine Run.ret ?_
    have hres : lLandR t m i p = .ok _ := (by unfold lLandR; rw [if_pos (by assumption)]); refine ret_out (la, lc, (some ⟨bp, 0, none⟩), pc) (.cellA T43 rfl pk (by rfl) (.tmp rfl .nil)) trivial (by rw [hres]; rfl) ?_; rw [hres]; exact gv
  · skip
    refine Run.skip ?_
    refine Run.seq ?_
    refine regionD HM ?_
    refine tk 0 rfl rfl rfl (DetJ.fieldAddr F47_5 rfl) ?_
    first | refine RunD.takeF 1 rfl rfl kr T3 rfl pk (by rfl) ?_ | refine RunD.takeO 1 rfl rfl kr T3 rfl pk (by assumption) (by rfl) (by exact fun _ => rfl) ?_
    refine tk 2 rfl rfl rfl (DetJ.move rfl) ?_
    refine tk 3 rfl rfl rfl (DetJ.move rfl) ?_
    refine tk 4 rfl rfl rfl (DetJ.nilCheck rfl) ?_
    refine tk 5 rfl rfl rfl (DetJ.fieldAddr F66_3 rfl) ?_
    first | refine RunD.takeF 6 rfl rfl kr T3 rfl pk (by rfl) ?_ | refine RunD.takeO 6 rfl rfl kr T3 rfl pk (by assumption) (by rfl) (by exact fun _ => rfl) ?_
    refine RunD.op 7 [false, false, false, true, false, false, false] rfl rfl rfl kr kr (OpJ.callRet C126 rfl rfl (ac126 _ _ _ hm2 hlq hp1) .nil ⟨po, ?_⟩)
    refine tk 8 rfl rfl rfl (DetJ.assign rfl) ?_
    refine kd [0, 2, 4, 6, 9] rfl ?_
    refine sr ?_
    refine mvo rfl rfl ?_
    refine mvo rfl rfl ?_
    refine RunL.op rfl rfl (OpJ.nilCheck rfl ?_)
    refine RunL.op rfl rfl (OpJ.fieldAddr F66_2 rfl ?_)
    first | refine RunL.op rfl rfl (OpJ.loadF T9 rfl pk (by rfl) ?_) | refine RunL.op rfl rfl (OpJ.loadO T9 rfl pk (by assumption) (by rfl) (by exact fun _ => rfl) ?_)
    refine mvo rfl rfl ?_
    refine RunL.callX C121 rfl rfl rfl (ac121 bx t la _ lc (some ⟨bp, 0, none⟩) _ pc p.lot 0 (partN m.cost (lotQ t p) p.qty) rfl hnl) tks fun ⟨la2, lc2⟩ _ => ?_
    refine kp [4, 6, 9] rfl ?_
    refine sr ?_
    refine mvo rfl rfl ?_
    refine RunL.op rfl rfl (OpJ.fieldAddr F47_5 rfl ?_)
    first | refine RunL.op rfl rfl (OpJ.loadF T3 rfl pk (by rfl) ?_) | refine RunL.op rfl rfl (OpJ.loadO T3 rfl pk (by assumption) (by rfl) (by exact fun _ => rfl) ?_)
    refine mvo rfl rfl ?_
    refine RunL.op rfl rfl (OpJ.sub rfl rfl ?_)
    refine RunL.op rfl rfl (OpJ.build B43 rfl rfl fun cs hcs => ?_)
    simp only [Sk.c, Mv.c, Co.c, bldL, bldA, Value.cells, bs, Nat.reduceAdd, Nat.reduceLeDiff, Nat.reduceLT] at hcs; subst hcs
    refine RunL.op rfl rfl (OpJ.storeW T43 rfl rfl rfl rfl (by simp [Value.oneCell', Pa.c, Ly.c, Mv.c, Co.c]) up ?_)
    refine asg rfl rfl ?_
    refine kp [6, 7] rfl ?_
    refine Run.ret ?_
    have hres : lLandR t m i p = .ok _ := (by unfold lLandR; rw [if_neg (by assumption)]); refine ret_out (la2, lc2, (some ⟨bp, 0, none⟩), pc) (.cellA T43 rfl pk (by rfl) (.tmp rfl .nil)) trivial (by rw [hres]; rfl) ?_; rw [hres]; exact gv
end Go.Proofs.YtdcchollplhioaaGreatDoor

namespace Go.Proofs.YtdcchollplhioaaGreatDoor
open Go Go.SL Go.Proofs
theorem C50 : CI Tryz.prog 50 := .of (by kernel_rfl)
theorem C84 : CI Tryz.prog 84 := .of (by kernel_rfl)
theorem C85 : CI Tryz.prog 85 := .of (by kernel_rfl)
theorem C86 : CI Tryz.prog 86 := .of (by kernel_rfl)
theorem C87 : CI Tryz.prog 87 := .of (by kernel_rfl)
theorem C88 : CI Tryz.prog 88 := .of (by kernel_rfl)
theorem C89 : CI Tryz.prog 89 := .of (by kernel_rfl)
theorem C90 : CI Tryz.prog 90 := .of (by kernel_rfl)
theorem T88 : TI Tryz.prog 88 false 1 := .of (by kernel_rfl)
-- (*lots.book).do$1
theorem ac84 (bx : Nat) (t : Sk) (la : Option Addr) (nl lc : Nat) (pa : Option Addr) (np pc : Nat) (m : Mv) (g : FuncId) (Cg : CI Tryz.prog g) (R : Nat → Pa → Except Int (Sk × Co)) (kind : Int) (b2 b3 : Nat) (enp : np = t.past.length) (hnp : t.past.length ≤ 1000000) (hg : ∀ (bp i : Nat) (p : Pa), pa = some ⟨bp, 0, none⟩ → t.past[i]? = some p → AC Tryz.prog g ⟨[.pointer (some ⟨bx, 0, none⟩), .agg ⟨m.c⟩, .pointer (some ⟨bp, 0 + i * 7, none⟩)]⟩ (stars [pt bx (blk (SC t la nl lc pa np pc) 92), own 64 4 la nl lc ((t.layers).flatMap Ly.c), own 66 7 pa np pc ((t.past).flatMap Pa.c)]) (Outs (fun _ : Option Addr × Nat × Option Addr × Nat => True) (fun _ => AvV (R i p)) (fun x => LvB 92 64 66 bx (R i p) x))) : AC Tryz.prog 84 ⟨[I kind, .func (.func g) ⟨[.pointer (some ⟨bx, 0, none⟩)]⟩ ⟨[]⟩, .pointer (some ⟨b2, 0, none⟩), .pointer (some ⟨b3, 0, none⟩)]⟩ (stars [pt b2 (blk [.pointer (some ⟨bx, 0, none⟩)] 88), pt b3 (blk m.c 47), pt bx (blk (SC t la nl lc pa np pc) 92), own 64 4 la nl lc ((t.layers).flatMap Ly.c), own 66 7 pa np pc ((t.past).flatMap Pa.c)]) (Outs (fun _ : Option Addr × Nat × Option Addr × Nat => True) (fun _ => AvV (lRef kind t m R)) (fun x => LvB 92 64 66 bx (lRef kind t m R) x)) := by
  subst enp
  refine AC.go Tryz.func84 rfl (Nat.le_of_ble_eq_true rfl) fun β => ?_
  refine sr ?_
  refine RunL.op rfl rfl (OpJ.alloc Z43 fun b6 => ?_)
  refine asg rfl rfl ?_
  refine kp [0, 1, 2, 3, 6] rfl ?_
  refine sr ?_
  first | refine RunL.op rfl rfl (OpJ.loadF T88 rfl pk (by rfl) ?_) | refine RunL.op rfl rfl (OpJ.loadO T88 rfl pk (by assumption) (by rfl) (by exact fun _ => rfl) ?_)
  refine mvo rfl rfl ?_
  refine RunL.op rfl rfl (OpJ.fieldAddr F47_7 rfl ?_)
  first | refine RunL.op rfl rfl (OpJ.loadF T3 rfl pk (by rfl) ?_) | refine RunL.op rfl rfl (OpJ.loadO T3 rfl pk (by assumption) (by rfl) (by exact fun _ => rfl) ?_)
  refine RunL.call C50 rfl rfl rfl (ac50 bx t la nl lc pa _ pc kind m.ref rfl hnp) tks ?_
  rcases hf : findI (isPast kind m.ref) t.past with _ | ⟨i, p⟩
  · skip
    refine asg rfl rfl ?_
    refine kp [1, 3, 6, 8] rfl ?_
    refine Run.seq ?_
    refine Run.block ?_
    refine sr ?_
    refine mvo rfl rfl ?_
    refine RunL.op rfl rfl (OpJ.eqlNil U71 rfl ?_)
    refine asg rfl rfl ?_
    refine kp [1, 3, 6, 8, 14] rfl ?_
    refine Run.true rfl ?_
    refine sr ?_
    refine RunL.op rfl rfl (OpJ.build B43 rfl rfl fun cs hcs => ?_)
    simp only [Sk.c, Mv.c, Co.c, bldL, bldA, Value.cells, bs, Nat.reduceAdd, Nat.reduceLeDiff, Nat.reduceLT] at hcs; subst hcs
    refine RunL.op rfl rfl (OpJ.storeW T43 rfl rfl rfl rfl (by simp [Value.oneCell', Pa.c, Ly.c, Mv.c, Co.c]) up ?_)
    refine asg rfl rfl ?_
    refine kp [6, 7] rfl ?_
    refine Run.ret ?_
    have hres : lRef kind t m R = .error 28 := (by unfold lRef refd; rw [hf]); refine ret_out (none, 0, none, 0) (.cellA T43 rfl pk (by rfl) (.tmp rfl .nil)) trivial (by rw [hres]; rfl) ?_; rw [hres]; exact gv
  · skip
    obtain ⟨hx, _⟩ := findI_some hf
    have hi := (List.getElem?_eq_some_iff.1 hx).1
    refine RunL.ownAddr pk (flat_ne (k := 7) (fun _ => rfl) (by decide) hx) fun b e hcap => ?_
    subst e
    simp only [ptrOf]
    refine asg rfl rfl ?_
    refine kp [1, 3, 6, 8] rfl ?_
    refine Run.seq ?_
    refine Run.block ?_
    refine sr ?_
    refine mvo rfl rfl ?_
    refine RunL.op rfl rfl (OpJ.eqlNil U71 rfl ?_)
    refine asg rfl rfl ?_
    refine kp [1, 3, 6, 8, 14] rfl ?_
    refine Run.false rfl ?_
    refine Run.seq ?_
    refine regionD HM ?_
    refine tk 0 rfl rfl rfl (DetJ.fieldAddr F47_4 rfl) ?_
    first | refine RunD.takeF 1 rfl rfl kr T3 rfl pk (by rfl) ?_ | refine RunD.takeO 1 rfl rfl kr T3 rfl pk (by assumption) (by rfl) (by exact fun _ => rfl) ?_
    refine tk 2 rfl rfl rfl (DetJ.move rfl) ?_
    refine tk 3 rfl rfl rfl (DetJ.nilCheck rfl) ?_
    refine tk 4 rfl rfl rfl (DetJ.fieldAddr F66_3 rfl) ?_
    first | refine RunD.takeF 5 rfl rfl kr T3 rfl pk (by rfl) ?_ | refine RunD.takeO 5 rfl rfl kr T3 rfl pk (by assumption) (by rfl) (by exact fun _ => rfl) ?_
    refine tk 6 rfl rfl rfl (DetJ.move rfl) ?_
    refine tk 7 rfl rfl rfl (DetJ.nilCheck rfl) ?_
    refine tk 8 rfl rfl rfl (DetJ.fieldAddr F66_5 rfl) ?_
    first | refine RunD.takeF 9 rfl rfl kr T3 rfl pk (by rfl) ?_ | refine RunD.takeO 9 rfl rfl kr T3 rfl pk (by assumption) (by rfl) (by exact fun _ => rfl) ?_
    refine tk 10 rfl rfl rfl (DetJ.sub rfl rfl) ?_
    refine tk 11 rfl rfl rfl (DetJ.gtr rfl rfl) ?_
    refine tk 12 rfl rfl rfl (DetJ.assign rfl) ?_
    refine kd [1, 3, 6, 8, 18] rfl ?_
    first | refine Run.if rfl (fun h1 => ?_) (fun h1 => ?_) | refine Run.cond rfl (fun h1 => ?_) (fun h1 => ?_)
    · skip
      refine sr ?_
      refine RunL.op rfl rfl (OpJ.build B43 rfl rfl fun cs hcs => ?_)
      simp only [Sk.c, Mv.c, Co.c, bldL, bldA, Value.cells, bs, Nat.reduceAdd, Nat.reduceLeDiff, Nat.reduceLT] at hcs; subst hcs
      refine RunL.op rfl rfl (OpJ.storeW T43 rfl rfl rfl rfl (by simp [Value.oneCell', Pa.c, Ly.c, Mv.c, Co.c]) up ?_)
      refine asg rfl rfl ?_
      refine kp [6, 7] rfl ?_
      refine Run.ret ?_
      have hres : lRef kind t m R = .error 21 := (by unfold lRef refd; rw [hf]; simp only; rw [if_pos (by assumption)]); refine ret_out (none, 0, none, 0) (.cellA T43 rfl pk (by rfl) (.tmp rfl .nil)) trivial (by rw [hres]; rfl) ?_; rw [hres]; exact gv
    · skip
      refine Run.skip ?_
      refine sr ?_
      refine mvo rfl rfl ?_
      first | refine RunL.op rfl rfl (OpJ.loadW T47 rfl pk (by rfl) ?_) | refine RunL.op rfl rfl (OpJ.loadP T47 rfl pk (by simp) ?_) | refine RunL.op rfl rfl (OpJ.loadE T47 rfl pk (by assumption) (by exact fun _ => rfl) rfl (by decide) ?_)
      refine mvo rfl rfl ?_
      refine RunL.callX Cg rfl rfl rfl (hg b i p rfl hx) tks fun ⟨la2, lc2, pa2, pc2⟩ _ => ?_
      rcases hR : R i p with e | ⟨t2, c2⟩
      · skip
        refine RunL.op rfl rfl (OpJ.extract rfl rfl ?_)
        refine RunL.op rfl rfl (OpJ.extract rfl rfl ?_)
        refine RunL.op rfl rfl (OpJ.storeW T43 rfl rfl rfl rfl (by simp [Value.oneCell', Pa.c, Ly.c, Mv.c, Co.c]) up ?_)
        refine asg rfl rfl ?_
        refine kp [6, 7] rfl ?_
        refine Run.ret ?_
        have hres : lRef kind t m R = R i p := (by unfold lRef refd; rw [hf]; simp only; rw [if_neg (by assumption)]); refine ret_out (la2, lc2, pa2, pc2) (.cellA T43 rfl pk (by rfl) (.tmp rfl .nil)) trivial (by rw [hres, hR]; rfl) ?_; rw [hres, hR]; exact gv
      · skip
        refine RunL.op rfl rfl (OpJ.extract rfl rfl ?_)
        refine RunL.op rfl rfl (OpJ.extract rfl rfl ?_)
        refine RunL.op rfl rfl (OpJ.storeW T43 rfl rfl rfl rfl (by simp [Value.oneCell', Pa.c, Ly.c, Mv.c, Co.c]) up ?_)
        refine asg rfl rfl ?_
        refine kp [6, 7] rfl ?_
        refine Run.ret ?_
        have hres : lRef kind t m R = R i p := (by unfold lRef refd; rw [hf]; simp only; rw [if_neg (by assumption)]); refine ret_out (la2, lc2, pa2, pc2) (.cellA T43 rfl pk (by rfl) (.tmp rfl .nil)) trivial (by rw [hres, hR]; rfl) ?_; rw [hres, hR]; exact gv
-- (*lots.book).do
theorem ac51 (bx : Nat) (t : Sk) (la : Option Addr) (nl lc : Nat) (pa : Option Addr) (np pc : Nat) (m : Mv) (enl : nl = t.layers.length) (enp : np = t.past.length) (ht : t.ok 999999) (hm : m.ok) (hone : m.kind = 4 → 1 ≤ m.qty) : AC Tryz.prog 51 ⟨[.pointer (some ⟨bx, 0, none⟩), .agg ⟨m.c⟩]⟩ (stars [pt bx (blk (SC t la nl lc pa np pc) 92), own 64 4 la nl lc ((t.layers).flatMap Ly.c), own 66 7 pa np pc ((t.past).flatMap Pa.c)]) (Outs (fun _ : Option Addr × Nat × Option Addr × Nat => True) (fun _ => AvV (lDo t m)) (fun x => LvB 92 64 66 bx (lDo t m) x)) := by
  subst enl enp
  have hn : t.layers.length ≤ 1000000 ∧ t.past.length ≤ 1000000 := ⟨Nat.le_trans ht.nl (by decide), Nat.le_trans ht.np (by decide)⟩
  have hnl := hn.1; have hnp := hn.2; have hnl9 := ht.nl; have hnp9 := ht.np
  obtain ⟨hm1, hm2⟩ := hm
  refine AC.go Tryz.func51 rfl (Nat.le_of_ble_eq_true rfl) fun β => ?_
  refine sr ?_
  refine RunL.op rfl rfl (OpJ.box rfl rfl fun b2 => ?_)
  refine RunL.op rfl rfl (OpJ.boxA rfl fun b3 => ?_)
  refine RunL.op rfl rfl (OpJ.alloc Z43 fun b4 => ?_)
  refine asg rfl rfl ?_
  refine kp [2, 3, 4] rfl ?_
  refine sr ?_
  refine RunL.op rfl rfl (OpJ.makeFunc rfl rfl ?_)
  refine asg rfl rfl ?_
  refine kp [2, 3, 4, 6] rfl ?_
  refine Run.seq ?_
  refine sr ?_
  refine RunL.op rfl rfl (OpJ.fieldAddr F47_3 rfl ?_)
  first | refine RunL.op rfl rfl (OpJ.loadF T3 rfl pk (by rfl) ?_) | refine RunL.op rfl rfl (OpJ.loadO T3 rfl pk (by assumption) (by rfl) (by exact fun _ => rfl) ?_)
  refine kp [2, 3, 4, 6, 9] rfl ?_
  refine Run.block ?_
  refine sr ?_
  refine RunL.op rfl rfl (OpJ.eql rfl rfl ?_)
  refine asg rfl rfl ?_
  refine kp [2, 3, 4, 6, 9, 10] rfl ?_
  first | refine Run.if rfl (fun h1 => ?_) (fun h1 => ?_) | refine Run.cond rfl (fun h1 => ?_) (fun h1 => ?_)
  · skip
    refine sr ?_
    first | refine RunL.op rfl rfl (OpJ.loadF T88 rfl pk (by rfl) ?_) | refine RunL.op rfl rfl (OpJ.loadO T88 rfl pk (by assumption) (by rfl) (by exact fun _ => rfl) ?_)
    first | refine RunL.op rfl rfl (OpJ.loadW T47 rfl pk (by rfl) ?_) | refine RunL.op rfl rfl (OpJ.loadP T47 rfl pk (by simp) ?_) | refine RunL.op rfl rfl (OpJ.loadE T47 rfl pk (by assumption) (by exact fun _ => rfl) rfl (by decide) ?_)
    refine RunL.callX C85 rfl rfl rfl (ac85 bx t la _ lc pa _ pc m rfl rfl ht ⟨hm1, hm2⟩) tks fun x _ => ?_
    rcases hres : lRecv t m with e | ⟨t2, c2⟩
    · skip
      refine RunL.op rfl rfl (OpJ.extract rfl rfl ?_)
      refine RunL.op rfl rfl (OpJ.extract rfl rfl ?_)
      refine RunL.op rfl rfl (OpJ.storeW T43 rfl rfl rfl rfl (by simp [Value.oneCell', Pa.c, Ly.c, Mv.c, Co.c]) up ?_)
      refine asg rfl rfl ?_
      refine kp [4, 5] rfl ?_
      refine Run.ret ?_
      have hd := lDo_1 (t := t) (m := m) (by assumption); refine ret_out x (.cellA T43 rfl pk (by rfl) (.tmp rfl .nil)) trivial (by rw [hd, hres]; rfl) ?_; rw [hd, hres]; exact gv
    · skip
      refine RunL.op rfl rfl (OpJ.extract rfl rfl ?_)
      refine RunL.op rfl rfl (OpJ.extract rfl rfl ?_)
      refine RunL.op rfl rfl (OpJ.storeW T43 rfl rfl rfl rfl (by simp [Value.oneCell', Pa.c, Ly.c, Mv.c, Co.c]) up ?_)
      refine asg rfl rfl ?_
      refine kp [4, 5] rfl ?_
      refine Run.ret ?_
      have hd := lDo_1 (t := t) (m := m) (by assumption); refine ret_out x (.cellA T43 rfl pk (by rfl) (.tmp rfl .nil)) trivial (by rw [hd, hres]; rfl) ?_; rw [hd, hres]; exact gv
  · skip
    refine sr ?_
    refine RunL.op rfl rfl (OpJ.eql rfl rfl ?_)
    refine asg rfl rfl ?_
    refine kp [2, 3, 4, 6, 9, 17] rfl ?_
    first | refine Run.if rfl (fun h2 => ?_) (fun h2 => ?_) | refine Run.cond rfl (fun h2 => ?_) (fun h2 => ?_)
    · skip
      refine sr ?_
      first | refine RunL.op rfl rfl (OpJ.loadF T88 rfl pk (by rfl) ?_) | refine RunL.op rfl rfl (OpJ.loadO T88 rfl pk (by assumption) (by rfl) (by exact fun _ => rfl) ?_)
      first | refine RunL.op rfl rfl (OpJ.loadW T47 rfl pk (by rfl) ?_) | refine RunL.op rfl rfl (OpJ.loadP T47 rfl pk (by simp) ?_) | refine RunL.op rfl rfl (OpJ.loadE T47 rfl pk (by assumption) (by exact fun _ => rfl) rfl (by decide) ?_)
      refine RunL.callX C86 rfl rfl rfl (ac86 bx t la _ lc pa _ pc m rfl rfl ht ⟨hm1, hm2⟩) tks fun x _ => ?_
      rcases hres : lIssue t m with e | ⟨t2, c2⟩
      · skip
        refine RunL.op rfl rfl (OpJ.extract rfl rfl ?_)
        refine RunL.op rfl rfl (OpJ.extract rfl rfl ?_)
        refine RunL.op rfl rfl (OpJ.storeW T43 rfl rfl rfl rfl (by simp [Value.oneCell', Pa.c, Ly.c, Mv.c, Co.c]) up ?_)
        refine asg rfl rfl ?_
        refine kp [4, 5] rfl ?_
        refine Run.ret ?_
        have hd := lDo_2 (t := t) (m := m) (by assumption); refine ret_out x (.cellA T43 rfl pk (by rfl) (.tmp rfl .nil)) trivial (by rw [hd, hres]; rfl) ?_; rw [hd, hres]; exact gv
      · skip
        refine RunL.op rfl rfl (OpJ.extract rfl rfl ?_)
        refine RunL.op rfl rfl (OpJ.extract rfl rfl ?_)
        refine RunL.op rfl rfl (OpJ.storeW T43 rfl rfl rfl rfl (by simp [Value.oneCell', Pa.c, Ly.c, Mv.c, Co.c]) up ?_)
        refine asg rfl rfl ?_
        refine kp [4, 5] rfl ?_
        refine Run.ret ?_
        have hd := lDo_2 (t := t) (m := m) (by assumption); refine ret_out x (.cellA T43 rfl pk (by rfl) (.tmp rfl .nil)) trivial (by rw [hd, hres]; rfl) ?_; rw [hd, hres]; exact gv
    · skip
      refine sr ?_
      refine RunL.op rfl rfl (OpJ.eql rfl rfl ?_)
      refine asg rfl rfl ?_
      refine kp [2, 4, 6, 9, 24] rfl ?_
      first | refine Run.if rfl (fun h3 => ?_) (fun h3 => ?_) | refine Run.cond rfl (fun h3 => ?_) (fun h3 => ?_)
      · skip
        refine sr ?_
        refine mvo rfl rfl ?_
        first | refine RunL.op rfl rfl (OpJ.loadF T88 rfl pk (by rfl) ?_) | refine RunL.op rfl rfl (OpJ.loadO T88 rfl pk (by assumption) (by rfl) (by exact fun _ => rfl) ?_)
        refine RunL.op rfl rfl (OpJ.makeFunc rfl rfl ?_)
        refine RunL.callX C84 rfl rfl rfl (ac84 bx t la _ lc pa _ pc m 87 C87 (lBackR t m) 2 b2 b3 rfl hnp (fun bp i p e hx => by subst e; exact ac87 bx t la _ lc bp _ pc m i p hx rfl rfl ht ⟨hm1, hm2⟩)) tks fun x _ => ?_
        rcases hres : lRef 2 t m (lBackR t m) with e | ⟨t2, c2⟩
        · skip
          refine RunL.op rfl rfl (OpJ.extract rfl rfl ?_)
          refine RunL.op rfl rfl (OpJ.extract rfl rfl ?_)
          refine RunL.op rfl rfl (OpJ.storeW T43 rfl rfl rfl rfl (by simp [Value.oneCell', Pa.c, Ly.c, Mv.c, Co.c]) up ?_)
          refine asg rfl rfl ?_
          refine kp [4, 5] rfl ?_
          refine Run.ret ?_
          have hd := lDo_3 (t := t) (m := m) (by assumption); refine ret_out x (.cellA T43 rfl pk (by rfl) (.tmp rfl .nil)) trivial (by rw [hd, lBack, hres]; rfl) ?_; rw [hd, lBack, hres]; exact gv
        · skip
          refine RunL.op rfl rfl (OpJ.extract rfl rfl ?_)
          refine RunL.op rfl rfl (OpJ.extract rfl rfl ?_)
          refine RunL.op rfl rfl (OpJ.storeW T43 rfl rfl rfl rfl (by simp [Value.oneCell', Pa.c, Ly.c, Mv.c, Co.c]) up ?_)
          refine asg rfl rfl ?_
          refine kp [4, 5] rfl ?_
          refine Run.ret ?_
          have hd := lDo_3 (t := t) (m := m) (by assumption); refine ret_out x (.cellA T43 rfl pk (by rfl) (.tmp rfl .nil)) trivial (by rw [hd, lBack, hres]; rfl) ?_; rw [hd, lBack, hres]; exact gv
      · skip
        refine sr ?_
        refine RunL.op rfl rfl (OpJ.eql rfl rfl ?_)
        refine asg rfl rfl ?_
        refine kp [2, 4, 6, 9, 32] rfl ?_
        first | refine Run.if rfl (fun h4 => ?_) (fun h4 => ?_) | refine Run.cond rfl (fun h4 => ?_) (fun h4 => ?_)
        · skip
          refine sr ?_
          refine mvo rfl rfl ?_
          first | refine RunL.op rfl rfl (OpJ.loadF T88 rfl pk (by rfl) ?_) | refine RunL.op rfl rfl (OpJ.loadO T88 rfl pk (by assumption) (by rfl) (by exact fun _ => rfl) ?_)
          refine RunL.op rfl rfl (OpJ.makeFunc rfl rfl ?_)
          refine RunL.callX C84 rfl rfl rfl (ac84 bx t la _ lc pa _ pc m 88 C88 (lSendR t m) 1 b2 b3 rfl hnp (fun bp i p e hx => by subst e; exact ac88 bx t la _ lc bp _ pc m i p hx rfl rfl ht ⟨hm1, hm2⟩ (hone (by assumption)))) tks fun x _ => ?_
          rcases hres : lRef 1 t m (lSendR t m) with e | ⟨t2, c2⟩
          · skip
            refine RunL.op rfl rfl (OpJ.extract rfl rfl ?_)
            refine RunL.op rfl rfl (OpJ.extract rfl rfl ?_)
            refine RunL.op rfl rfl (OpJ.storeW T43 rfl rfl rfl rfl (by simp [Value.oneCell', Pa.c, Ly.c, Mv.c, Co.c]) up ?_)
            refine asg rfl rfl ?_
            refine kp [4, 5] rfl ?_
            refine Run.ret ?_
            have hd := lDo_4 (t := t) (m := m) (by assumption); refine ret_out x (.cellA T43 rfl pk (by rfl) (.tmp rfl .nil)) trivial (by rw [hd, lSend, hres]; rfl) ?_; rw [hd, lSend, hres]; exact gv
          · skip
            refine RunL.op rfl rfl (OpJ.extract rfl rfl ?_)
            refine RunL.op rfl rfl (OpJ.extract rfl rfl ?_)
            refine RunL.op rfl rfl (OpJ.storeW T43 rfl rfl rfl rfl (by simp [Value.oneCell', Pa.c, Ly.c, Mv.c, Co.c]) up ?_)
            refine asg rfl rfl ?_
            refine kp [4, 5] rfl ?_
            refine Run.ret ?_
            have hd := lDo_4 (t := t) (m := m) (by assumption); refine ret_out x (.cellA T43 rfl pk (by rfl) (.tmp rfl .nil)) trivial (by rw [hd, lSend, hres]; rfl) ?_; rw [hd, lSend, hres]; exact gv
        · skip
          refine sr ?_
          refine RunL.op rfl rfl (OpJ.eql rfl rfl ?_)
          refine asg rfl rfl ?_
          refine kp [2, 4, 6, 40] rfl ?_
          first | refine Run.if rfl (fun h5 => ?_) (fun h5 => ?_) | refine Run.cond rfl (fun h5 => ?_) (fun h5 => ?_)
          · skip
            refine sr ?_
            refine mvo rfl rfl ?_
            first | refine RunL.op rfl rfl (OpJ.loadF T88 rfl pk (by rfl) ?_) | refine RunL.op rfl rfl (OpJ.loadO T88 rfl pk (by assumption) (by rfl) (by exact fun _ => rfl) ?_)
            refine RunL.op rfl rfl (OpJ.makeFunc rfl rfl ?_)
            refine RunL.callX C84 rfl rfl rfl (ac84 bx t la _ lc pa _ pc m 89 C89 (lLandR t m) 1 b2 b3 rfl hnp (fun bp i p e hx => by subst e; exact ac89 bx t la _ lc bp _ pc m i p hx rfl rfl ht ⟨hm1, hm2⟩)) tks fun x _ => ?_
            rcases hres : lRef 1 t m (lLandR t m) with e | ⟨t2, c2⟩
            · skip
              refine RunL.op rfl rfl (OpJ.extract rfl rfl ?_)
              refine RunL.op rfl rfl (OpJ.extract rfl rfl ?_)
              refine RunL.op rfl rfl (OpJ.storeW T43 rfl rfl rfl rfl (by simp [Value.oneCell', Pa.c, Ly.c, Mv.c, Co.c]) up ?_)
              refine asg rfl rfl ?_
              refine kp [4, 5] rfl ?_
              refine Run.ret ?_
              have hd := lDo_5 (t := t) (m := m) (by assumption); refine ret_out x (.cellA T43 rfl pk (by rfl) (.tmp rfl .nil)) trivial (by rw [hd, lLand, hres]; rfl) ?_; rw [hd, lLand, hres]; exact gv
            · skip
              refine RunL.op rfl rfl (OpJ.extract rfl rfl ?_)
              refine RunL.op rfl rfl (OpJ.extract rfl rfl ?_)
              refine RunL.op rfl rfl (OpJ.storeW T43 rfl rfl rfl rfl (by simp [Value.oneCell', Pa.c, Ly.c, Mv.c, Co.c]) up ?_)
              refine asg rfl rfl ?_
              refine kp [4, 5] rfl ?_
              refine Run.ret ?_
              have hd := lDo_5 (t := t) (m := m) (by assumption); refine ret_out x (.cellA T43 rfl pk (by rfl) (.tmp rfl .nil)) trivial (by rw [hd, lLand, hres]; rfl) ?_; rw [hd, lLand, hres]; exact gv
          · skip
            refine Run.skip ?_
            refine sr ?_
            first | refine RunL.op rfl rfl (OpJ.loadW T43 rfl pk (by rfl) ?_) | refine RunL.op rfl rfl (OpJ.loadP T43 rfl pk (by simp) ?_) | refine RunL.op rfl rfl (OpJ.loadE T43 rfl pk (by assumption) (by exact fun _ => rfl) rfl (by decide) ?_)
            refine RunL.op rfl rfl (OpJ.storeW T43 rfl rfl rfl rfl (by simp [Value.oneCell', Pa.c, Ly.c, Mv.c, Co.c]) up ?_)
            refine asg rfl rfl ?_
            refine kp [4, 5] rfl ?_
            refine Run.ret ?_
            have hres := lDo_0 (t := t) (m := m) (by refine ⟨?_, ?_, ?_, ?_, ?_⟩ <;> assumption); refine ret_out (none, 0, none, 0) (.cellA T43 rfl pk (by rfl) (.tmp rfl .nil)) trivial (by rw [hres]; rfl) ?_; rw [hres]; exact gv
-- (*lots.book).over
theorem ac52 (bx : Nat) (t : Sk) (la : Option Addr) (nl lc : Nat) (pa : Option Addr) (np pc : Nat) (c : Co) (enl : nl = t.layers.length) (hnl : t.layers.length ≤ 1000000) : AC Tryz.prog 52 ⟨[.pointer (some ⟨bx, 0, none⟩), .agg ⟨c.c⟩]⟩ (stars [pt bx (blk (SC t la nl lc pa np pc) 92), own 64 4 la nl lc ((t.layers).flatMap Ly.c)]) (Ret (Bo (overB t c)) [pt bx (blk (SC t la nl lc pa np pc) 92), own 64 4 la nl lc ((t.layers).flatMap Ly.c)]) := by
  subst enl
  refine AC.go Tryz.func52 rfl (Nat.le_of_ble_eq_true rfl) fun β => ?_
  refine sr ?_
  refine RunL.op rfl rfl (OpJ.boxA rfl fun b3 => ?_)
  refine asg rfl rfl ?_
  refine kp [0, 3] rfl ?_
  refine Run.seq ?_
  refine sr ?_
  refine mvo rfl rfl ?_
  refine RunL.op rfl rfl (OpJ.nilCheck rfl ?_)
  refine RunL.op rfl rfl (OpJ.fieldAddr F92_0 rfl ?_)
  refine RunL.op rfl rfl (OpJ.fieldAddr F28_3 rfl ?_)
  first | refine RunL.op rfl rfl (OpJ.loadF T25 rfl pk (by rfl) ?_) | refine RunL.op rfl rfl (OpJ.loadO T25 rfl pk (by assumption) (by rfl) (by exact fun _ => rfl) ?_)
  refine RunL.op rfl rfl (OpJ.len S25 rfl ?_)
  refine mvo rfl rfl ?_
  refine kp [0, 3, 11, 12, 13] rfl ?_
  refine Run.block ?_
  refine Run.loop (fun mm E L => ∃ i : Nat, mm = t.layers.length - i ∧ i ≤ t.layers.length ∧ (∀ j y, j < i → t.layers[j]? = some y → farB y.value = false) ∧ E = [(0, .pointer (some ⟨bx, 0, none⟩)), (3, .pointer (some ⟨b3, 0, none⟩)), (11, .slice la t.layers.length lc), (12, I t.layers.length), (13, I i)] ∧ L = [pt b3 (blk c.c 43), pt bx (blk (SC t la t.layers.length lc pa np pc) 92), own 64 4 la t.layers.length lc ((t.layers).flatMap Ly.c)]) ⟨_, 0, rfl, Nat.zero_le _, fun _ _ h => by omega, rfl, rfl⟩ ?_
  rintro _ _ _ ⟨i, rfl, hi, hI0, rfl, rfl⟩
  refine sr ?_
  refine RunL.op rfl rfl (OpJ.lss rfl rfl ?_)
  refine kp [0, 3, 11, 12, 13, 14] rfl ?_
  refine Run.seq ?_
  first | refine Run.if rfl (fun h1 => ?_) (fun h1 => ?_) | refine Run.cond rfl (fun h1 => ?_) (fun h1 => ?_)
  · skip
    refine Run.skip ?_
    refine Run.seq ?_
    refine Run.block ?_
    refine sr ?_
    obtain ⟨x, hx⟩ := get_ex (xs := t.layers) (i := i) (by omega)
    refine RunL.ownAddr pk (flat_ne (k := 4) (fun _ => rfl) (by decide) hx) fun b e hcap => ?_
    subst e
    refine RunL.op rfl rfl (OpJ.indexAddr S25 rfl rfl (by omega) ?_)
    first | refine RunL.op rfl rfl (OpJ.loadW T64 rfl pk (by rfl) ?_) | refine RunL.op rfl rfl (OpJ.loadP T64 rfl pk (by simp) ?_) | refine RunL.op rfl rfl (OpJ.loadE T64 rfl pk (by assumption) (by exact fun _ => rfl) rfl (by decide) ?_)
    refine RunL.op rfl rfl (OpJ.alloc Z64 fun b6 => ?_)
    refine RunL.op rfl rfl (OpJ.storeW T64 rfl rfl rfl rfl (by simp [Value.oneCell', Pa.c, Ly.c, Mv.c, Co.c]) up ?_)
    refine kp [0, 3, 6, 11, 12, 13] rfl ?_
    refine sr ?_
    refine RunL.op rfl rfl (OpJ.fieldAddr F64_3 rfl ?_)
    first | refine RunL.op rfl rfl (OpJ.loadF T3 rfl pk (by rfl) ?_) | refine RunL.op rfl rfl (OpJ.loadO T3 rfl pk (by assumption) (by rfl) (by exact fun _ => rfl) ?_)
    refine RunL.call C90 rfl rfl rfl (ac90 _) .nil ?_
    refine kp [0, 3, 11, 12, 13, 19] rfl ?_
    first | refine Run.if rfl (fun h2 => ?_) (fun h2 => ?_) | refine Run.cond rfl (fun h2 => ?_) (fun h2 => ?_)
    · skip
      refine sr ?_
      refine asg rfl rfl ?_
      refine kp [4] rfl ?_
      refine Run.ret ?_
      exact ret_one (.tmp rfl .nil) (congrArg Bo (overB_far hx h2).symm) gv
    · skip
      refine Run.skip ?_
      refine Run.region ?_
      first | refine RunL.op rfl rfl (OpJ.addI rfl rfl (by omega) ?_) | refine RunL.op rfl rfl (OpJ.add rfl rfl ?_)
      refine mvo rfl rfl ?_
      exact RunL.next (Keep.sub (kt (ks := [0, 3, 11, 12, 13]) rfl)) _ ⟨_, by omega, i + 1, rfl, by omega, (fun j y hj hy => (by rcases Nat.lt_succ_iff_lt_or_eq.1 hj with h | rfl; exact hI0 j y h hy; rw [hx] at hy; cases hy; exact h2)), rfl, rfl⟩ gv
  · skip
    refine Run.exit ?_
    refine sr ?_
    refine mvo rfl rfl ?_
    refine RunL.op rfl rfl (OpJ.nilCheck rfl ?_)
    refine RunL.op rfl rfl (OpJ.fieldAddr F92_0 rfl ?_)
    refine RunL.op rfl rfl (OpJ.fieldAddr F28_0 rfl ?_)
    first | refine RunL.op rfl rfl (OpJ.loadF T3 rfl pk (by rfl) ?_) | refine RunL.op rfl rfl (OpJ.loadO T3 rfl pk (by assumption) (by rfl) (by exact fun _ => rfl) ?_)
    refine RunL.op rfl rfl (OpJ.gtr rfl rfl ?_)
    refine mvo rfl rfl ?_
    first | refine RunL.splitP (t := 27) rfl (fun g3 => ?_) (fun g3 => ?_) | refine RunL.split (t := 27) rfl (fun g3 => ?_) (fun g3 => ?_)
    · skip
      refine RunL.no rfl rfl rfl rfl ?_
      refine RunL.no rfl rfl rfl rfl ?_
      refine RunL.no rfl rfl rfl rfl ?_
      refine RunL.no rfl rfl rfl rfl ?_
      refine RunL.no rfl rfl rfl rfl ?_
      refine RunL.no rfl rfl rfl rfl ?_
      refine RunL.op rfl rfl (OpJ.pickT rfl rfl ?_)
      refine mvo rfl rfl ?_
      refine RunL.no rfl rfl rfl rfl ?_
      refine RunL.no rfl rfl rfl rfl ?_
      refine RunL.no rfl rfl rfl rfl ?_
      refine RunL.op rfl rfl (OpJ.pickT rfl rfl ?_)
      refine asg rfl rfl ?_
      refine kp [4] rfl ?_
      refine Run.ret ?_
      exact ret_one (.tmp rfl .nil) (congrArg Bo (by rw [overB_rest (fun j y hj => hI0 j y (by omega))]; simp [*])) gv
    · skip
      refine RunL.yes rfl rfl rfl rfl (OpJ.move rfl ?_)
      refine RunL.yes rfl rfl rfl rfl (OpJ.nilCheck rfl ?_)
      refine RunL.yes rfl rfl rfl rfl (OpJ.fieldAddr F92_0 rfl ?_)
      refine RunL.yes rfl rfl rfl rfl (OpJ.fieldAddr F28_1 rfl ?_)
      first | refine RunL.yes rfl rfl rfl rfl (OpJ.loadF T3 rfl pk (by rfl) ?_) | refine RunL.yes rfl rfl rfl rfl (OpJ.loadO T3 rfl pk (by assumption) (by rfl) (by exact fun _ => rfl) ?_)
      refine RunL.callG C90 rfl rfl rfl rfl rfl (ac90 _) .nil ?_
      refine RunL.op rfl rfl (OpJ.pickF rfl rfl ?_)
      refine mvo rfl rfl ?_
      first | refine RunL.splitP (t := 35) rfl (fun g4 => ?_) (fun g4 => ?_) | refine RunL.split (t := 35) rfl (fun g4 => ?_) (fun g4 => ?_)
      · skip
        refine RunL.no rfl rfl rfl rfl ?_
        refine RunL.no rfl rfl rfl rfl ?_
        refine RunL.no rfl rfl rfl rfl ?_
        refine RunL.op rfl rfl (OpJ.pickT rfl rfl ?_)
        refine asg rfl rfl ?_
        refine kp [4] rfl ?_
        refine Run.ret ?_
        exact ret_one (.tmp rfl .nil) (congrArg Bo (by rw [overB_rest (fun j y hj => hI0 j y (by omega))]; simp [*])) gv
      · skip
        refine RunL.yes rfl rfl rfl rfl (OpJ.fieldAddr F43_3 rfl ?_)
        first | refine RunL.yes rfl rfl rfl rfl (OpJ.loadF T3 rfl pk (by rfl) ?_) | refine RunL.yes rfl rfl rfl rfl (OpJ.loadO T3 rfl pk (by assumption) (by rfl) (by exact fun _ => rfl) ?_)
        refine RunL.callG C90 rfl rfl rfl rfl rfl (ac90 _) .nil ?_
        refine RunL.op rfl rfl (OpJ.pickF rfl rfl ?_)
        refine asg rfl rfl ?_
        refine kp [4] rfl ?_
        refine Run.ret ?_
        exact ret_one (.tmp rfl .nil) (congrArg Bo (by rw [overB_rest (fun j y hj => hI0 j y (by omega))]; simp [*])) gv
end Go.Proofs.YtdcchollplhioaaGreatDoor

namespace Go.SL
open Go
theorem W_in {n : Int} (h : i64 n) : W n = n := wrap_i64_in h
theorem partN_le {v q n : Int} (hv : 0 ≤ v) (hv2 : v ≤ 2000000000000000) (hq : 0 ≤ q) (hqn : q ≤ n) (hn : n ≤ 1000000000) (hn1 : 1 ≤ n) : 0 ≤ partN v q n ∧ partN v q n ≤ v := by
  unfold partN
  split
  · exact ⟨hv, Int.le_refl _⟩
  · rename_i hne
    have hvq : 0 ≤ v * q := Int.mul_nonneg hv hq
    have hneg : negB v q n = false := by
      unfold negB
      have h1 : decide (v < 0) = false := decide_eq_false (by omega)
      have h2 : decide (q < 0) = false := decide_eq_false (by omega)
      have h3 : decide (n < 0) = false := decide_eq_false (by omega)
      rw [h1, h2, h3]; simp
    have m1 : mag v = v := by unfold mag; split <;> omega
    have m2 : mag q = q := by unfold mag; split <;> omega
    have m3 : mag n = n := by unfold mag; split <;> omega
    have hd : 0 ≤ v * q / n := Int.ediv_nonneg hvq (by omega)
    have hsz : mdSize v q n 4 = v * q / n ∨ (mdSize v q n 4 = v * q / n + 1 ∧ v * q % n ≠ 0) := by
      unfold mdSize
      rw [m1, m2, m3]
      split
      · rename_i ha
        unfold awayB at ha
        rw [Bool.and_eq_true] at ha
        exact .inr ⟨rfl, of_decide_eq_true ha.1⟩
      · exact .inl (by omega)
    have hlt : 1 ≤ v → v * q / n < v := fun h => Int.ediv_lt_of_lt_mul (by omega) (Int.mul_lt_mul_of_pos_left (by omega) (by omega))
    have hz : v = 0 → v * q / n = 0 ∧ v * q % n = 0 := by rintro rfl; simp
    have hb : 0 ≤ mdSize v q n 4 ∧ mdSize v q n 4 ≤ v := by
      by_cases h0 : v = 0
      · have := hz h0; rcases hsz with h | ⟨h, h'⟩ <;> omega
      · have := hlt (by omega); rcases hsz with h | ⟨h, h'⟩ <;> omega
    unfold mdN
    rw [if_neg (by omega), hneg]
    unfold signedN
    simp only [Bool.false_eq_true, if_false]
    rw [if_neg (by omega)]
    exact hb
theorem partN_nonneg {v q n : Int} (hv : 0 ≤ v) (hq : 0 ≤ q) (hn : 0 ≤ n) : 0 ≤ partN v q n := by
  unfold partN
  split
  · exact hv
  · have hneg : negB v q n = false := by
      unfold negB
      rw [decide_eq_false (show ¬ v < 0 by omega), decide_eq_false (show ¬ q < 0 by omega), decide_eq_false (show ¬ n < 0 by omega)]; simp
    have h0 : 0 ≤ mdSize v q n 4 := by
      have hm : 0 ≤ mag v * mag q / mag n := Int.ediv_nonneg (Int.mul_nonneg (by unfold mag; split <;> omega) (by unfold mag; split <;> omega)) (by unfold mag; split <;> omega)
      unfold mdSize; split <;> omega
    unfold mdN
    split
    · decide
    · rw [hneg]; unfold signedN; simp only [Bool.false_eq_true, if_false]; split <;> omega
theorem partN_same {v n : Int} : partN v n n = v := by unfold partN; rw [if_pos rfl]

def sumBy {α : Type} (f : α → Int) : List α → Int
  | [] => 0
  | x :: xs => f x + sumBy f xs
theorem sumBy_append {α : Type} (f : α → Int) : ∀ xs ys : List α, sumBy f (xs ++ ys) = sumBy f xs + sumBy f ys
  | [], ys => by simp [sumBy]
  | x :: xs, ys => by simp only [List.cons_append, sumBy, sumBy_append f xs ys]; omega
theorem sumBy_set {α : Type} (f : α → Int) : ∀ (xs : List α) (i : Nat) (x y : α), xs[i]? = some x → sumBy f (xs.set i y) = sumBy f xs - f x + f y
  | [], i, x, y, h => by cases h
  | a :: xs, 0, x, y, h => by cases h; simp only [List.set_cons_zero, sumBy]; omega
  | a :: xs, i + 1, x, y, h => by simp only [List.set_cons_succ, sumBy, sumBy_set f xs i x y (by simpa using h)]; omega
theorem sumBy_erase {α : Type} (f : α → Int) : ∀ (xs : List α) (i : Nat) (x : α), xs[i]? = some x → sumBy f (xs.eraseIdx i) = sumBy f xs - f x
  | [], i, x, h => by cases h
  | a :: xs, 0, x, h => by cases h; simp only [List.eraseIdx_cons_zero, sumBy]; omega
  | a :: xs, i + 1, x, h => by simp only [List.eraseIdx_cons_succ, sumBy, sumBy_erase f xs i x (by simpa using h)]; omega
theorem sumBy_ins (f : Ly → Int) (ls : List Ly) (i : Nat) (x : Ly) : sumBy f (insL ls i x) = sumBy f ls + f x := by
  have h := sumBy_append f (ls.take i) (ls.drop i)
  rw [List.take_append_drop] at h
  simp only [insL, sumBy_append, sumBy]; omega
theorem sumBy_nonneg {α : Type} {f : α → Int} : ∀ {xs : List α}, (∀ x ∈ xs, 0 ≤ f x) → 0 ≤ sumBy f xs
  | [], _ => Int.le_refl _
  | x :: xs, h => by
    have h1 := h x (by simp); have h2 := sumBy_nonneg (f := f) (xs := xs) fun y hy => h y (by simp [hy])
    simp only [sumBy]; omega
theorem sumBy_le {α : Type} {f : α → Int} {xs : List α} {i : Nat} {x : α} (h : ∀ x ∈ xs, 0 ≤ f x) (hx : xs[i]? = some x) : f x ≤ sumBy f xs := by
  have h1 := sumBy_erase f xs i x hx
  have h2 := sumBy_nonneg (f := f) (xs := xs.eraseIdx i) fun y hy => h y (List.mem_of_mem_eraseIdx hy)
  omega
def LG (l : Ly) : Prop := 1 ≤ l.qty ∧ 0 ≤ l.value
def LGs (ls : List Ly) : Prop := ∀ l ∈ ls, LG l
theorem LGs.q {ls : List Ly} (h : LGs ls) : ∀ l ∈ ls, 0 ≤ l.qty := fun l hl => by have := (h l hl).1; omega
theorem LGs.v {ls : List Ly} (h : LGs ls) : ∀ l ∈ ls, 0 ≤ l.value := fun l hl => (h l hl).2
theorem mem_set {α : Type} {xs : List α} {i : Nat} {x y : α} (h : y ∈ xs.set i x) : y = x ∨ y ∈ xs := by
  rcases List.mem_or_eq_of_mem_set h with h | h
  · exact .inr h
  · exact .inl h
theorem takeV_le {l : Ly} {q : Int} (hl : LG l) (h1 : 0 ≤ q) (h2 : q ≤ l.qty) (hq : l.qty ≤ 1000000000) (hv : l.value ≤ 1000000000000000) : 0 ≤ takeV l q ∧ takeV l q ≤ l.value :=
  partN_le hl.2 (by omega) h1 h2 hq hl.1
theorem takeL_good {ls : List Ly} {i : Nat} {l : Ly} {q : Int} (h : LGs ls) (hx : ls[i]? = some l) (h1 : 1 ≤ q) (h2 : q ≤ l.qty) (hq : sumBy Ly.qty ls ≤ 1000000000) (hv : sumBy Ly.value ls ≤ 1000000000000000) :
    LGs (takeL ls i l q) ∧ sumBy Ly.qty (takeL ls i l q) = sumBy Ly.qty ls - q ∧ sumBy Ly.value (takeL ls i l q) = sumBy Ly.value ls - takeV l q ∧ 0 ≤ takeV l q ∧ takeV l q ≤ sumBy Ly.value ls := by
  have hl := h l (List.mem_of_getElem? hx)
  have hlq := sumBy_le h.q hx
  have hlv := sumBy_le h.v hx
  have hl1 := hl.1; have hl2 := hl.2
  have ht := takeV_le hl (by omega) h2 (by omega) (by omega)
  have hw : W (l.qty - q) = l.qty - q := W_in ⟨by omega, by omega⟩
  have hw2 : W (l.value - takeV l q) = l.value - takeV l q := W_in ⟨by omega, by omega⟩
  unfold takeL
  rw [hw]
  split
  · rename_i hz
    have hqq : q = l.qty := by omega
    have htv : takeV l q = l.value := by unfold takeV; rw [hqq]; exact partN_same
    refine ⟨fun x hx => h x (List.mem_of_mem_eraseIdx hx), ?_, ?_, ht.1, by omega⟩
    · show sumBy Ly.qty _ = _; rw [sumBy_erase _ _ _ _ hx]; omega
    · show sumBy Ly.value _ = _; rw [sumBy_erase _ _ _ _ hx, htv]
  · rename_i hz
    have e : takeX l q = { l with qty := l.qty - q, value := l.value - takeV l q } := by unfold takeX; rw [hw, hw2]
    rw [e]
    refine ⟨fun x hx => ?_, ?_, ?_, ht.1, by omega⟩
    · rcases mem_set hx with rfl | hx
      · exact ⟨by simp only; omega, by simp only; omega⟩
      · exact h x hx
    · show sumBy Ly.qty _ = _; rw [sumBy_set _ _ _ _ _ hx]; simp only; omega
    · show sumBy Ly.value _ = _; rw [sumBy_set _ _ _ _ _ hx]; simp only; omega
theorem issueL_good : ∀ (ls : List Ly) (left v : Int), LGs ls → 0 ≤ left → left ≤ sumBy Ly.qty ls → sumBy Ly.qty ls ≤ 1000000000 → 0 ≤ v → v + sumBy Ly.value ls ≤ 1000000000000000 →
    LGs (issueL ls left v).1 ∧ sumBy Ly.qty (issueL ls left v).1 = sumBy Ly.qty ls - left ∧ (issueL ls left v).2 + sumBy Ly.value (issueL ls left v).1 = v + sumBy Ly.value ls ∧ 0 ≤ (issueL ls left v).2
  | [], left, v, h, h0, h1, hq, hv, hs => by
    simp only [sumBy] at h1
    have : left = 0 := by omega
    subst this
    exact ⟨h, by simp [issueL, sumBy], rfl, hv⟩
  | l :: ls, left, v, h, h0, h1, hq, hv, hs => by
    have hl := h l (by simp)
    have hr : LGs ls := fun x hx => h x (by simp [hx])
    have hrq := sumBy_nonneg hr.q; have hrv := sumBy_nonneg hr.v
    have hl1 := hl.1; have hl2 := hl.2
    simp only [sumBy] at h1 hq hs ⊢
    unfold issueL
    split
    · exact ⟨h, by simp only [sumBy]; omega, by simp only [sumBy], hv⟩
    · rename_i hp
      simp only
      by_cases hlt : l.qty < left
      · rw [if_pos hlt, Int.sub_self, if_pos (show W 0 = 0 by decide)]
        have ht : takeV l l.qty = l.value := by unfold takeV; exact partN_same
        rw [ht, W_in (show i64 (left - l.qty) from ⟨by omega, by omega⟩), W_in (show i64 (v + l.value) from ⟨by omega, by omega⟩)]
        have ih := issueL_good ls (left - l.qty) (v + l.value) hr (by omega) (by omega) (by omega) (by omega) (by omega)
        exact ⟨ih.1, by rw [ih.2.1]; omega, by rw [ih.2.2.1]; omega, ih.2.2.2⟩
      · rw [if_neg hlt, W_in (show i64 (l.qty - left) from ⟨by omega, by omega⟩)]
        have htl := takeV_le (q := left) hl (by omega) (by omega) (by omega) (by omega)
        split
        · rename_i hz
          have hll : left = l.qty := by omega
          have ht : takeV l left = l.value := by unfold takeV; rw [hll]; exact partN_same
          rw [ht, Int.sub_self, W_in (show i64 0 by decide), W_in (show i64 (v + l.value) from ⟨by omega, by omega⟩)]
          have ih := issueL_good ls 0 (v + l.value) hr (by omega) (by omega) (by omega) (by omega) (by omega)
          exact ⟨ih.1, by rw [ih.2.1]; omega, by rw [ih.2.2.1]; omega, ih.2.2.2⟩
        · rename_i hz
          rw [W_in (show i64 (v + takeV l left) from ⟨by omega, by omega⟩)]
          have e : takeX l left = { l with qty := l.qty - left, value := l.value - takeV l left } := by
            unfold takeX; rw [W_in (show i64 (l.qty - left) from ⟨by omega, by omega⟩), W_in (show i64 (l.value - takeV l left) from ⟨by omega, by omega⟩)]
          rw [e]
          refine ⟨fun x hx => ?_, by simp only [sumBy]; omega, by simp only [sumBy]; omega, by simp only; omega⟩
          rcases List.mem_cons.1 hx with rfl | hx
          · exact ⟨by simp only; omega, by simp only; omega⟩
          · exact hr x hx

/-! the past -/
structure PG (p : Pa) : Prop where
  kd : p.kind = 1 ∨ p.kind = 2
  q1 : 1 ≤ p.qty
  q2 : p.qty ≤ 1000000000
  u0 : 0 ≤ p.used
  u1 : p.used ≤ p.qty
  v0 : 0 ≤ p.value
  v1 : p.value ≤ 2000000000000000
  w0 : 0 ≤ p.usedValue
  w1 : p.usedValue ≤ p.value
  full : p.used = p.qty → p.kind = 2 → p.usedValue = p.value
def seqNew (seq : Int) (ps : List Pa) : Prop := ∀ p ∈ ps, p.seq ≠ seq
structure PGs (ps : List Pa) : Prop where
  all : ∀ p ∈ ps, PG p
  uniq : (ps.map Pa.seq).Nodup
theorem isPast_iff {kind seq : Int} {p : Pa} : isPast kind seq p = true ↔ p.seq = seq ∧ (kind = 0 ∨ p.kind = kind) := by
  unfold isPast; simp
theorem back_good {p : Pa} {m : Mv} (h : PG p) (h1 : 1 ≤ m.qty) (h2 : m.qty ≤ W (p.qty - p.used)) :
    PG (backP p m) ∧ (backP p m).used = p.used + m.qty ∧ (backP p m).usedValue = p.usedValue + backV p m ∧ 0 ≤ backV p m ∧ backV p m ≤ p.value - p.usedValue := by
  obtain ⟨kd, q1, q2, u0, u1, v0, v1, w0, w1, full⟩ := h
  have e1 : W (p.qty - p.used) = p.qty - p.used := W_in ⟨by omega, by omega⟩
  have e2 : W (p.value - p.usedValue) = p.value - p.usedValue := W_in ⟨by omega, by omega⟩
  rw [e1] at h2
  have hb : 0 ≤ backV p m ∧ backV p m ≤ p.value - p.usedValue := by
    unfold backV; rw [e1, e2]; exact partN_le (by omega) (by omega) (by omega) h2 (by omega) (by omega)
  have hf : m.qty = p.qty - p.used → backV p m = p.value - p.usedValue := fun e => by unfold backV; rw [e1, e2, e]; exact partN_same
  have e : backP p m = { p with used := p.used + m.qty, usedValue := p.usedValue + backV p m } := by
    unfold backP; rw [W_in (show i64 (p.used + m.qty) from ⟨by omega, by omega⟩), W_in (show i64 (p.usedValue + backV p m) from ⟨by omega, by omega⟩)]
  rw [e]
  refine ⟨⟨kd, q1, q2, ?_, ?_, v0, v1, ?_, ?_, ?_⟩, rfl, rfl, hb⟩ <;> simp only
  · omega
  · omega
  · omega
  · omega
  · intro hu hk; have := hf (by omega); omega
theorem send_good {p : Pa} {m : Mv} (h : PG p) (hk : p.kind = 1) (h1 : 1 ≤ m.qty) (h2 : m.qty ≤ W (p.qty - p.used)) : PG (sendP p m) := by
  obtain ⟨kd, q1, q2, u0, u1, v0, v1, w0, w1, full⟩ := h
  have e1 : W (p.qty - p.used) = p.qty - p.used := W_in ⟨by omega, by omega⟩
  rw [e1] at h2
  have e : sendP p m = { p with used := p.used + m.qty } := by unfold sendP; rw [W_in (show i64 (p.used + m.qty) from ⟨by omega, by omega⟩)]
  rw [e]
  refine ⟨kd, q1, q2, ?_, ?_, v0, v1, w0, w1, ?_⟩ <;> simp only
  · omega
  · omega
  · intro hu hk'; omega
theorem PGs.set {ps : List Pa} {i : Nat} {p p' : Pa} (h : PGs ps) (hx : ps[i]? = some p) (hp : PG p') (hs : p'.seq = p.seq) : PGs (ps.set i p') := by
  refine ⟨fun x hx' => ?_, ?_⟩
  · rcases mem_set hx' with rfl | hx'
    · exact hp
    · exact h.all x hx'
  · rw [List.map_set, hs]
    have : (ps.map Pa.seq).set i p.seq = ps.map Pa.seq := by
      apply List.ext_getElem?
      intro j
      rw [List.getElem?_set]
      split
      · rename_i e; subst e; split
        · rw [List.getElem?_map, hx]; rfl
        · rename_i hlt; rw [List.getElem?_eq_none (by omega)]
      · rfl
    rw [this]; exact h.uniq
theorem PGs.add {ps : List Pa} {p : Pa} (h : PGs ps) (hp : PG p) (hn : seqNew p.seq ps) : PGs (ps ++ [p]) := by
  refine ⟨fun x hx => ?_, ?_⟩
  · rcases List.mem_append.1 hx with hx | hx
    · exact h.all x hx
    · rw [List.mem_singleton.1 hx]; exact hp
  · rw [List.map_append, List.map_singleton, List.nodup_append]
    refine ⟨h.uniq, by simp, ?_⟩
    intro a ha b hb
    rw [List.mem_singleton.1 hb]
    obtain ⟨x, hx, rfl⟩ := List.mem_map.1 ha
    exact hn x hx
theorem seqNew_of_none {seq : Int} {ps : List Pa} (h : ¬ (findI (isPast 0 seq) ps).isSome = true) : seqNew seq ps := fun p hp e => by
  apply h
  obtain ⟨i, hi, rfl⟩ := List.getElem_of_mem hp
  unfold findI
  cases hf : ps.findIdx? (isPast 0 seq) with
  | none => rw [List.findIdx?_eq_none_iff] at hf; have := hf _ hp; rw [Bool.eq_false_iff] at this; exact absurd (isPast_iff.2 ⟨e, .inl rfl⟩) this
  | some j =>
    obtain ⟨hj, _, _⟩ := List.findIdx?_eq_some_iff_getElem.1 hf
    simp [List.getElem?_eq_getElem hj]
theorem findI_isSome {α : Type} {f : α → Bool} {xs : List α} {x : α} (hx : x ∈ xs) (hf : f x = true) : (findI f xs).isSome = true := by
  unfold findI
  cases h : xs.findIdx? f with
  | none => rw [List.findIdx?_eq_none_iff] at h; have := h _ hx; rw [hf] at this; cases this
  | some j =>
    obtain ⟨hj, _, _⟩ := List.findIdx?_eq_some_iff_getElem.1 h
    simp [List.getElem?_eq_getElem hj]
theorem seqNew_of_two {seq : Int} {ps : List Pa} (hk : ∀ p ∈ ps, PG p) (h : ¬ ((findI (isPast 1 seq) ps).isSome || (findI (isPast 2 seq) ps).isSome) = true) : seqNew seq ps := fun p hp e => by
  apply h
  rw [Bool.or_eq_true]
  rcases (hk p hp).kd with hk | hk
  · exact .inl (findI_isSome hp (isPast_iff.2 ⟨e, .inr hk⟩))
  · exact .inr (findI_isSome hp (isPast_iff.2 ⟨e, .inr hk⟩))

/-! what the first error of a movement says -/
structure MG (m : Mv) : Prop where
  k : 1 ≤ m.kind ∧ m.kind ≤ 6
  q : (m.kind = 5 ∨ m.kind = 6 → m.qty = 0) ∧ (m.kind = 1 ∨ m.kind = 2 ∨ m.kind = 3 ∨ m.kind = 4 → 1 ≤ m.qty ∧ m.qty ≤ 1000000000)
  c : 0 ≤ m.cost ∧ m.cost ≤ 1000000000000
  c0 : m.kind = 2 ∨ m.kind = 3 → m.cost = 0
theorem inB_true {n lo hi : Int} : inB n lo hi = true ↔ lo ≤ n ∧ n ≤ hi := by unfold inB; simp
theorem MG.of {m : Mv} (h : m.one = 0) : MG m := by
  have hk := @inB_true m.kind 1 6
  unfold Mv.one at h
  split at h
  · cases h
  split at h
  · cases h
  split at h
  · cases h
  rename_i h3
  split at h
  · cases h
  rename_i h4
  have h3' : inB m.kind 1 6 = true := by simpa using h3
  have hk' := hk.1 h3'
  have h4' : m.quantityOk = true ∧ m.costOk = true := by simpa using h4
  obtain ⟨hq, hc⟩ := h4'
  unfold Mv.quantityOk at hq
  unfold Mv.costOk at hc
  refine ⟨hk', ⟨fun e => ?_, fun e => ?_⟩, ?_, fun e => ?_⟩
  · rw [if_pos e] at hq; exact of_decide_eq_true hq
  · rw [if_neg (by omega)] at hq; exact inB_true.1 hq
  · split at hc
    · have := of_decide_eq_true hc; omega
    · split at hc
      · have := inB_true.1 hc; omega
      · exact inB_true.1 hc
  · rw [if_pos e] at hc; exact of_decide_eq_true hc
theorem near_in {n lo hi : Int} (h : near n lo hi = n) (hlh : lo ≤ hi) : lo ≤ n ∧ n ≤ hi := by
  unfold near at h; split at h
  · omega
  · split at h <;> omega
theorem farB_no {n : Int} (h : ¬ farB n = true) : -1000000000000000 ≤ n ∧ n ≤ 1000000000000000 := by
  unfold farB at h
  have : near n (-1000000000000000) 1000000000000000 = n := by simpa using h
  exact near_in this (by decide)
theorem largeB_no {n : Int} (h : ¬ largeB n = true) : -1000000000000000 ≤ n ∧ n ≤ 1000000000000000 := by
  unfold largeB at h
  have := of_decide_eq_false (Bool.eq_false_iff.2 h); omega
theorem withinB_yes {n : Int} (h : withinB n = true) : -1000000000000000 ≤ n ∧ n ≤ 1000000000000000 := by
  unfold withinB at h
  exact of_decide_eq_true h
end Go.SL
