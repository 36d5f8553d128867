/- Laws of the walks and of the models, part 2 (merged by program). -/
import Derived.Test.YtcpghpifbgpkjaaGreatDoorC1
import Derived.MapKept
import Derived.Laws.IdiomRangeMap
import Derived.Shelf.Spec.SlicesInsertGrow
import Derived.KernelRfl
set_option linter.unusedVariables false
set_option linter.unusedSimpArgs false
set_option maxRecDepth 20000
set_option maxHeartbeats 4000000
namespace Go.SL
open Go
theorem bl_irrefl : ∀ x : List UInt8, Op.bytesLess x x = false
  | [] => rfl
  | a :: x => by
    have h1 : ¬ a < a := by rw [UInt8.lt_iff_toNat_lt]; omega
    simp [Op.bytesLess, h1, bl_irrefl x]
theorem bl_trans : ∀ x y z : List UInt8, Op.bytesLess x y = true → Op.bytesLess y z = true → Op.bytesLess x z = true
  | _, [], _, h, _ => by simp [Op.bytesLess] at h
  | _, _ :: _, [], _, h => by simp [Op.bytesLess] at h
  | [], _ :: _, _ :: _, _, _ => rfl
  | a :: x, b :: y, c :: z, h1, h2 => by
    simp only [Op.bytesLess, Bool.or_eq_true, Bool.and_eq_true, decide_eq_true_eq, beq_iff_eq] at h1 h2 ⊢
    have ih := bl_trans x y z
    rcases h1 with h1 | ⟨rfl, h1⟩ <;> rcases h2 with h2 | ⟨rfl, h2⟩
    · left; rw [UInt8.lt_iff_toNat_lt] at *; omega
    · left; exact h1
    · left; exact h2
    · right; exact ⟨rfl, ih h1 h2⟩
theorem bl_total : ∀ x y : List UInt8, x ≠ y → Op.bytesLess x y = true ∨ Op.bytesLess y x = true
  | [], [], h => absurd rfl h
  | [], _ :: _, _ => .inl rfl
  | _ :: _, [], _ => .inr rfl
  | a :: x, b :: y, h => by
    simp only [Op.bytesLess, Bool.or_eq_true, Bool.and_eq_true, decide_eq_true_eq, beq_iff_eq]
    rcases Nat.lt_trichotomy a.toNat b.toNat with h1 | h1 | h1
    · left; left; rw [UInt8.lt_iff_toNat_lt]; exact h1
    · have e : a = b := UInt8.toNat_inj.1 h1
      subst e
      rcases bl_total x y (fun e => h (by rw [e])) with h2 | h2
      · left; right; exact ⟨rfl, h2⟩
      · right; right; exact ⟨rfl, h2⟩
    · right; left; rw [UInt8.lt_iff_toNat_lt]; exact h1
def blt (a b : ByteArray) : Bool := Op.bytesLess a.toList b.toList
theorem toL_inj {a b : ByteArray} (h : a.toList = b.toList) : a = b := by
  rw [ByteArray.toList_eq, ByteArray.toList_eq] at h
  cases a; cases b
  simp only [ByteArray.mk.injEq] at *
  exact Array.toList_inj.1 h
theorem blt_irrefl (a : ByteArray) : blt a a = false := bl_irrefl _
theorem blt_trans {a b c : ByteArray} (h1 : blt a b = true) (h2 : blt b c = true) : blt a c = true := bl_trans _ _ _ h1 h2
theorem blt_total {a b : ByteArray} (h : a ≠ b) : blt a b = true ∨ blt b a = true := bl_total _ _ fun e => h (toL_inj e)
theorem blt_ne {a b : ByteArray} (h : blt a b = true) : a ≠ b := fun e => by rw [e, blt_irrefl] at h; cases h
def LS (ls : List Ly) : Prop := ls.Pairwise fun a b => blt a.lot b.lot = true
theorem LS.lt {ls : List Ly} (h : LS ls) {i j : Nat} {x y : Ly} (hx : ls[i]? = some x) (hy : ls[j]? = some y) (hij : i < j) : blt x.lot y.lot = true := by
  obtain ⟨hi, rfl⟩ := List.getElem?_eq_some_iff.1 hx
  obtain ⟨hj, rfl⟩ := List.getElem?_eq_some_iff.1 hy
  exact List.pairwise_iff_getElem.1 h i j hi hj hij
theorem rlF_eq {lot : ByteArray} {ls : List Ly} (h : LS ls) : rlF lot ls = lotF lot ls := by
  unfold rlF
  cases hf : findI (isLot lot) ls with
  | some x =>
    obtain ⟨i, x⟩ := x
    obtain ⟨hx, he⟩ := findI_some hf
    have he : x.lot = lot := of_decide_eq_true he
    have := findI_at hx (show lotB lot x = true by simp [lotB, he]) fun j y hj hy => by
      have hlt := h.lt hy hx hj
      rw [he] at hlt
      have hne := blt_ne hlt
      unfold blt at hlt
      simp [lotB, hne, hlt]
    unfold lotF; rw [this]; simp [he]
  | none =>
    unfold lotF
    cases hg : findI (lotB lot) ls with
    | none => rfl
    | some x =>
      obtain ⟨i, x⟩ := x
      obtain ⟨hx, _⟩ := findI_some hg
      simp only
      rw [if_neg]
      intro he
      have := findI_isSome (f := isLot lot) (List.mem_of_getElem? hx) (decide_eq_true he)
      rw [hf] at this; cases this
theorem findI_cons {α : Type} {f : α → Bool} {l : α} {ls : List α} : findI f (l :: ls) = if f l = true then some (0, l) else (findI f ls).map fun x => (x.1 + 1, x.2) := by
  unfold findI
  rw [List.findIdx?_cons]
  by_cases h : f l = true
  · simp [h]
  · simp only [h]
    cases ls.findIdx? f with
    | none => rfl
    | some j => simp; cases ls[j]? <;> rfl
theorem lotF_nil {lot : ByteArray} : lotF lot [] = none := by unfold lotF findI; simp
theorem lotI_nil {lot : ByteArray} : lotI lot [] = 0 := by unfold lotI findI; simp
theorem lotF_cons {lot : ByteArray} {l : Ly} {ls : List Ly} : lotF lot (l :: ls) = if l.lot = lot then some (0, l) else if lotB lot l = true then none else (lotF lot ls).map fun x => (x.1 + 1, x.2) := by
  unfold lotF
  rw [findI_cons]
  by_cases h : l.lot = lot
  · have hb : lotB lot l = true := by simp [lotB, h]
    rw [if_pos hb, if_pos h]; simp [h]
  · rw [if_neg h]
    by_cases hb : lotB lot l = true
    · rw [if_pos hb, if_pos hb]; simp [h]
    · rw [if_neg hb, if_neg hb]
      cases hf : findI (lotB lot) ls with
      | none => rfl
      | some x => obtain ⟨j, y⟩ := x; simp only [Option.map_some]; split <;> rfl
theorem lotI_cons {lot : ByteArray} {l : Ly} {ls : List Ly} : lotI lot (l :: ls) = if lotB lot l = true then 0 else lotI lot ls + 1 := by
  unfold lotI
  rw [findI_cons]
  by_cases hb : lotB lot l = true
  · rw [if_pos hb, if_pos hb]
  · rw [if_neg hb, if_neg hb]
    cases findI (lotB lot) ls with
    | none => rfl
    | some x => rfl
def putG (lot : ByteArray) (x : Ly) : Bool → List Ly → List Ly
  | d, [] => if d = true then [] else [x]
  | d, l :: ls => (if (!d && !blt l.lot lot) = true then [x] else []) ++ (if l.lot ≠ lot then [l] else []) ++ putG lot x (d || (!d && !blt l.lot lot)) ls
theorem put_G {lot : ByteArray} {x : Ly} : ∀ {ls : List Ly} {d : Bool} {out : List Ly}, putE x (putF lot x (d, out) ls) = out ++ putG lot x d ls
  | [], d, out => by
    unfold putF putE putG
    cases d <;> simp
  | l :: ls, d, out => by
    have e : putF lot x (d, out) (l :: ls) = putF lot x (putS lot x (d, out) l) ls := rfl
    rw [e]
    have e2 : putS lot x (d, out) l = ((putS lot x (d, out) l).1, (putS lot x (d, out) l).2) := rfl
    rw [e2, put_G, putG]
    have e3 : Op.bytesLess l.lot.toList lot.toList = blt l.lot lot := rfl
    unfold putS
    simp only [e3]
    cases d <;> cases blt l.lot lot <;> by_cases h : l.lot = lot <;> simp [h]
theorem G_all {lot : ByteArray} {x : Ly} : ∀ {ls : List Ly}, (∀ l ∈ ls, l.lot ≠ lot) → putG lot x true ls = ls
  | [], _ => rfl
  | l :: ls, h => by
    rw [putG, if_pos (h l (by simp))]
    simp only [Bool.not_true, Bool.false_and, Bool.or_false, Bool.false_eq_true, if_false, List.nil_append]
    rw [G_all fun y hy => h y (by simp [hy])]; rfl
theorem LS.tail {l : Ly} {ls : List Ly} (h : LS (l :: ls)) : LS ls ∧ ∀ y ∈ ls, blt l.lot y.lot = true := ⟨(List.pairwise_cons.1 h).2, (List.pairwise_cons.1 h).1⟩
theorem lotB_blt {lot : ByteArray} {l : Ly} : lotB lot l = !blt l.lot lot := by
  unfold lotB
  have e3 : Op.bytesLess l.lot.toList lot.toList = blt l.lot lot := rfl
  rw [e3]
  by_cases h : l.lot = lot
  · rw [h, blt_irrefl]; simp
  · simp [h]
theorem G_false {lot : ByteArray} {x : Ly} : ∀ {ls : List Ly}, LS ls → putG lot x false ls = match lotF lot ls with | some (i, _) => ls.set i x | none => insL ls (lotI lot ls) x
  | [], _ => by rw [putG, lotF_nil, lotI_nil]; rfl
  | l :: ls, h => by
    obtain ⟨h1, h2⟩ := h.tail
    rw [putG, lotF_cons, lotI_cons, lotB_blt]
    by_cases he : l.lot = lot
    · subst he
      rw [blt_irrefl]
      simp only [Bool.not_false, Bool.and_self, if_true, Bool.or_true, ne_eq, not_true_eq_false, if_false, List.append_nil]
      rw [G_all fun y hy => (blt_ne (h2 y hy)).symm]; rfl
    · cases hb : blt l.lot lot with
      | true =>
        simp only [he, Bool.not_true, Bool.and_false, Bool.false_eq_true, if_false, ne_eq, not_false_eq_true, if_true, List.nil_append, Bool.or_false]
        rw [G_false h1]
        cases lotF lot ls with
        | none => simp [insL]
        | some y => rfl
      | false =>
        simp only [he, Bool.not_false, Bool.and_self, if_true, Bool.or_true, ne_eq, not_false_eq_true, if_false]
        have hgt : blt lot l.lot = true := by
          rcases blt_total he with h3 | h3
          · rw [hb] at h3; cases h3
          · exact h3
        rw [G_all fun y hy => (blt_ne (blt_trans hgt (h2 y hy))).symm]; rfl
theorem G_true {lot : ByteArray} {x : Ly} : ∀ {ls : List Ly}, LS ls → putG lot x true ls = match lotF lot ls with | some (i, _) => ls.eraseIdx i | none => ls
  | [], _ => by rw [putG, lotF_nil]; rfl
  | l :: ls, h => by
    obtain ⟨h1, h2⟩ := h.tail
    rw [putG, lotF_cons, lotB_blt]
    simp only [Bool.not_true, Bool.false_and, Bool.or_false, Bool.false_eq_true, if_false, List.nil_append]
    by_cases he : l.lot = lot
    · subst he
      simp only [ne_eq, not_true_eq_false, if_false, if_true, List.nil_append]
      rw [G_all fun y hy => (blt_ne (h2 y hy)).symm]; rfl
    · cases hb : blt l.lot lot with
      | true =>
        simp only [he, Bool.not_true, Bool.false_eq_true, if_false, ne_eq, not_false_eq_true, if_true]
        rw [G_true h1]
        cases lotF lot ls with
        | none => rfl
        | some y => rfl
      | false =>
        simp only [he, Bool.not_false, if_true, ne_eq, not_false_eq_true, if_false]
        have hgt : blt lot l.lot = true := by
          rcases blt_total he with h3 | h3
          · rw [hb] at h3; cases h3
          · exact h3
        rw [G_all fun y hy => (blt_ne (blt_trans hgt (h2 y hy))).symm]; rfl
theorem putL_eq {ls : List Ly} {lot : ByteArray} {q v : Int} (h : LS ls) : putL ls lot q v = match lotF lot ls with
    | some (i, _) => if q = 0 then ls.eraseIdx i else ls.set i ⟨0, lot, q, v⟩
    | none => if q = 0 then ls else insL ls (lotI lot ls) ⟨0, lot, q, v⟩ := by
  unfold putL
  rw [put_G, List.nil_append]
  by_cases hq : q = 0
  · rw [decide_eq_true hq, G_true h]; cases lotF lot ls <;> simp [hq]
  · rw [decide_eq_false hq, G_false h]; cases lotF lot ls <;> simp [hq]
structure S4 (s : Sk) : Prop where
  sg : SG s
  li : LI s.layers s.qty s.value
  ls : LS s.layers
  z : ∀ l ∈ s.layers, l.seq = 0
theorem W_add_W {a b : Int} : W (a + W (0 - b)) = W (a - b) := by
  unfold W; rw [IntKind.wrap_i64, IntKind.wrap_i64, IntKind.wrap_i64]; omega
theorem rlQV {lot : ByteArray} {ls : List Ly} (h : LS ls) : (∀ i l, lotF lot ls = some (i, l) → rlQ ls lot = l.qty ∧ rlV ls lot = l.value) ∧ (lotF lot ls = none → rlQ ls lot = 0 ∧ rlV ls lot = 0) := by
  unfold rlQ rlV
  rw [rlF_eq h]
  constructor
  · intro i l hf; rw [hf]; exact ⟨rfl, rfl⟩
  · intro hf; rw [hf]; exact ⟨rfl, rfl⟩
theorem addL_take {lot : ByteArray} {ls : List Ly} {i : Nat} {l : Ly} {q : Int} (h : LS ls) (hz : ∀ l ∈ ls, l.seq = 0) (hf : lotF lot ls = some (i, l)) : addL ls lot (W (0 - q)) (W (0 - rlP ls lot q)) = takeL ls i l q := by
  have hqv := (rlQV h).1 i l hf
  obtain ⟨hx, hl, _⟩ := lotF_some hf
  have hz := hz l (List.mem_of_getElem? hx)
  unfold addL rlP
  rw [putL_eq h, hf, hqv.1, hqv.2, W_add_W, W_add_W]
  unfold takeL takeX takeV
  simp only
  by_cases h0 : W (l.qty - q) = 0
  · rw [if_pos h0, if_pos h0]
  · rw [if_neg h0, if_neg h0]
    congr 1
    cases l; simp_all
theorem addL_add {lot : ByteArray} {ls : List Ly} {q v : Int} (h : LS ls) (hg : LGs ls) (hb : sumBy Ly.qty ls ≤ 1000000000) (hz : ∀ l ∈ ls, l.seq = 0) (q0 : 0 ≤ q) (q1 : q ≤ 1000000000) (hn : lotF lot ls = none → q ≠ 0) : addL ls lot q v = addLot ls lot q v := by
  unfold addL addLot
  rw [putL_eq h]
  cases hf : lotF lot ls with
  | none =>
    have hqv := (rlQV h).2 hf
    have := hn hf
    simp only
    rw [hqv.1, hqv.2, W_in (n := 0 + q) ⟨by omega, by omega⟩, if_neg (by omega)]
    unfold bump newLy
    simp only
    rw [W_in (n := 0 + q) ⟨by omega, by omega⟩]
  | some x =>
    obtain ⟨i, l⟩ := x
    have hqv := (rlQV h).1 i l hf
    obtain ⟨hx, hl, _⟩ := lotF_some hf
    have hz := hz l (List.mem_of_getElem? hx)
    have h1 := (hg l (List.mem_of_getElem? hx)).1
    have h2 : l.qty ≤ sumBy Ly.qty ls := sumBy_le hg.q hx
    simp only
    rw [hqv.1, hqv.2, W_in (n := l.qty + q) ⟨by omega, by omega⟩, if_neg (by omega)]
    congr 1
    unfold bump
    rw [W_in (n := l.qty + q) ⟨by omega, by omega⟩]
    cases l; simp_all
theorem rl_do {s : Sk} {m : Mv} (h : S4 s) (hg : MG m) : rlDo s m = lDo s m := by
  have hb : sumBy Ly.qty s.layers ≤ 1000000000 := by rw [h.li.q]; exact h.sg.q1
  have hfine := h.sg.fine
  rcases (show m.kind = 1 ∨ m.kind = 2 ∨ m.kind = 3 ∨ m.kind = 4 ∨ m.kind = 5 ∨ m.kind = 6 by have := hg.k; omega) with hk | hk | hk | hk | hk | hk
  · rw [rlDo_1 hk, lDo_1 hk]; unfold rlRecv lRecv
    have hq := hg.q.2 (by omega)
    rw [addL_add h.ls h.li.g hb h.z (by omega) (by omega) (fun _ => by omega), hk]
  · rw [rlDo_2 hk, lDo_2 hk]; unfold rlIssue lIssue
    rw [rlF_eq h.ls]
    cases hf : lotF m.lot s.layers with
    | none =>
      simp only [idxOf]
      by_cases he : m.lot = ⟨#[]⟩
      · simp only [if_pos he]
      · simp only [if_neg he]; rfl
    | some x =>
      obtain ⟨i, l⟩ := x
      have hqv := (rlQV h.ls).1 i l hf
      simp only [idxOf]
      by_cases he : m.lot = ⟨#[]⟩
      · simp only [if_pos he]
      · have hi0 : ¬ ((i : Int) < 0) := by omega
        simp only [if_neg he, if_neg hi0]
        rw [addL_take h.ls h.z hf, hk]
        simp only [rlP, hqv.1, hqv.2]
        rfl
  · rw [rlDo_3 hk, lDo_3 hk]; unfold rlBack lBack lRef
    have hq := hg.q.2 (by omega)
    cases hr : refd 2 m s.past with
    | error e => rfl
    | ok x =>
      obtain ⟨i, p⟩ := x
      simp only [lBackR]
      rw [addL_add h.ls h.li.g hb h.z (by omega) (by omega) (fun _ => by omega)]
  · rw [rlDo_4 hk, lDo_4 hk]; unfold rlSend lSend lRef
    have hq := hg.q.2 (by omega)
    cases hr : refd 1 m s.past with
    | error e => rfl
    | ok x =>
      obtain ⟨i, p⟩ := x
      simp only [lSendR]
      cases hf : lotF p.lot s.layers with
      | none =>
        have hqv := (rlQV h.ls).2 hf
        simp only
        rw [hqv.1, if_pos (by omega)]
      | some x =>
        obtain ⟨j, l⟩ := x
        have hqv := (rlQV h.ls).1 j l hf
        simp only
        rw [addL_take h.ls h.z hf]
        simp only [rlP, hqv.1, hqv.2]
        rfl
  · rw [rlDo_5 hk, lDo_5 hk]; unfold rlLand lLand lRef
    have hq := hg.q.1 (by omega)
    cases hf : findI (isPast 1 m.ref) s.past with
    | none =>
      have hr : refd 1 m s.past = .error 28 := by unfold refd; rw [hf]
      rw [hr]
    | some x =>
      obtain ⟨i, p⟩ := x
      have hr := refd_fine hf hq (fun i p hx => (hfine i p hx).2)
      rw [hr]
      simp only [lLandR]
      have hQ : qtyLot s.layers p.lot = rlQ s.layers p.lot := by
        unfold qtyLot
        cases hl : lotF p.lot s.layers with
        | none => exact ((rlQV h.ls).2 hl).1.symm
        | some y => obtain ⟨j, l⟩ := y; exact ((rlQV h.ls).1 j l hl).1.symm
      have hM : lotQ s p = rlMin s p := by unfold lotQ rlMin; rw [hQ]
      rw [hM]
      by_cases h0 : rlMin s p = 0
      · rw [if_pos h0, if_pos h0]
      · rw [if_neg h0, if_neg h0]
        by_cases hl : lotF p.lot s.layers = none
        · exfalso
          have := ((rlQV h.ls).2 hl).1
          have hp1 := (h.sg.ps.all p (List.mem_of_getElem? (findI_some hf).1)).q1
          unfold rlMin at h0
          rw [this, if_pos (by omega)] at h0
          exact h0 rfl
        · rw [addL_add h.ls h.li.g hb h.z (by omega) (by omega) (fun e => absurd e hl)]
  · rw [rlDo_0 (by omega), lDo_0 (by omega)]
theorem rl_eq {s : Sk} {m : Mv} (h : S4 s) : rlStep s m = lStep s m := by
  unfold rlStep lStep
  by_cases h1 : m.one = 0
  · rw [rl_do h (MG.of h1)] <;> rfl
  · rw [if_pos h1, if_pos h1]
theorem mem_ins {ls : List Ly} {i : Nat} {x y : Ly} (h : y ∈ insL ls i x) : y = x ∨ y ∈ ls := by
  unfold insL at h
  rw [List.mem_append, List.mem_cons] at h
  rcases h with h | h | h
  · exact .inr (List.mem_of_mem_take h)
  · exact .inl h
  · exact .inr (List.mem_of_mem_drop h)
theorem LS_ins {lot : ByteArray} {x : Ly} (hx : x.lot = lot) : ∀ {ls : List Ly}, LS ls → lotF lot ls = none → LS (insL ls (lotI lot ls) x)
  | [], _, _ => by rw [lotI_nil]; exact List.pairwise_singleton _ _
  | l :: ls, h, hn => by
    obtain ⟨h1, h2⟩ := h.tail
    rw [lotF_cons] at hn
    split at hn
    · cases hn
    rename_i he
    rw [lotI_cons, lotB_blt]
    cases hb : blt l.lot lot with
    | false =>
      have hgt : blt lot l.lot = true := by
        rcases blt_total he with h3 | h3
        · rw [hb] at h3; cases h3
        · exact h3
      simp only [Bool.not_false, if_true]
      refine List.pairwise_cons.2 ⟨fun y hy => ?_, h⟩
      rw [hx]
      rcases List.mem_cons.1 hy with rfl | hy
      · exact hgt
      · exact blt_trans hgt (h2 y hy)
    | true =>
      rw [lotB_blt, hb] at hn
      simp only [Bool.not_true, Bool.false_eq_true, if_false] at hn ⊢
      have hn' : lotF lot ls = none := by cases hl : lotF lot ls with | none => rfl | some y => rw [hl] at hn; cases hn
      refine List.pairwise_cons.2 ⟨fun y hy => ?_, LS_ins hx h1 hn'⟩
      rcases mem_ins hy with rfl | hy
      · rw [hx]; exact hb
      · exact h2 y hy
theorem LS_map {ls : List Ly} : LS ls ↔ (ls.map Ly.lot).Pairwise fun a b => blt a b = true := by
  unfold LS; rw [List.pairwise_map]
theorem LS_set {ls : List Ly} {i : Nat} {l x : Ly} (h : LS ls) (hx : ls[i]? = some l) (he : x.lot = l.lot) : LS (ls.set i x) := by
  rw [LS_map] at h ⊢
  rw [List.map_set, he, set_same (by rw [List.getElem?_map, hx]; rfl)]
  exact h
theorem LS_add {ls : List Ly} {lot : ByteArray} {q v : Int} (h : LS ls) (hz : ∀ l ∈ ls, l.seq = 0) : LS (addLot ls lot q v) ∧ ∀ y ∈ addLot ls lot q v, y.seq = 0 := by
  unfold addLot
  cases hf : lotF lot ls with
  | none => exact ⟨LS_ins (lot := lot) (x := bump (newLy lot) q v) rfl h hf, fun y hy => by rcases mem_ins hy with rfl | hy; rfl; exact hz y hy⟩
  | some x =>
    obtain ⟨i, l⟩ := x
    obtain ⟨hx, hl, _⟩ := lotF_some hf
    exact ⟨LS_set h hx rfl, fun y hy => by rcases mem_set hy with rfl | hy; exact hz l (List.mem_of_getElem? hx); exact hz y hy⟩
theorem LS_take {ls : List Ly} {i : Nat} {l : Ly} {q : Int} (h : LS ls) (hz : ∀ l ∈ ls, l.seq = 0) (hx : ls[i]? = some l) : LS (takeL ls i l q) ∧ ∀ y ∈ takeL ls i l q, y.seq = 0 := by
  unfold takeL
  split
  · exact ⟨h.sublist (List.eraseIdx_sublist _ _), fun y hy => hz y (List.mem_of_mem_eraseIdx hy)⟩
  · exact ⟨LS_set h hx rfl, fun y hy => by rcases mem_set hy with rfl | hy; exact hz l (List.mem_of_getElem? hx); exact hz y hy⟩
theorem lDo_sorted {s t : Sk} {m : Mv} {c : Co} (h : LS s.layers) (hz : ∀ l ∈ s.layers, l.seq = 0) (hd : lDo s m = .ok (t, c)) : LS t.layers ∧ ∀ y ∈ t.layers, y.seq = 0 := by
  unfold lDo at hd
  split at hd
  · unfold lRecv at hd; split at hd <;> cases hd; exact LS_add h hz
  split at hd
  · unfold lIssue at hd
    split at hd
    · cases hd
    · rename_i i l hf
      split at hd
      · cases hd
      · split at hd <;> cases hd
        exact LS_take h hz (lotF_some hf).1
  split at hd
  · unfold lBack lRef at hd
    split at hd
    · cases hd
    · unfold lBackR at hd; cases hd; exact LS_add h hz
  split at hd
  · unfold lSend lRef at hd
    split at hd
    · cases hd
    · unfold lSendR at hd
      split at hd
      · cases hd
      · rename_i j l hf
        split at hd <;> cases hd
        exact LS_take h hz (lotF_some hf).1
  split at hd
  · unfold lLand lRef at hd
    split at hd
    · cases hd
    · unfold lLandR at hd
      split at hd
      · cases hd; exact ⟨h, hz⟩
      · cases hd; exact LS_add h hz
  · cases hd
theorem S4.step {s t : Sk} {m : Mv} {c : Co} (h : S4 s) (hst : lStep s m = .ok (t, c)) : S4 t := by
  have hf := lStep_f h.sg h.li hst
  have hs : LS t.layers ∧ ∀ y ∈ t.layers, y.seq = 0 := by
    unfold lStep at hst
    split at hst
    · cases hst
    split at hst
    · cases hst
    split at hst
    · cases hst
    · rename_i t1 c1 hd
      split at hst <;> cases hst
      exact (show LS t1.layers ∧ ∀ y ∈ t1.layers, y.seq = 0 from lDo_sorted h.ls h.z hd)
  exact ⟨hf.2.1, hf.2.2, hs.1, hs.2⟩
end Go.SL

namespace Go.SL
open Go
structure RInv (k : Int) (s : Sk) : Prop where
  i : Inv k s
  l2 : k = 2 → s.layers = []
  s3 : k = 3 → S3 s
  s4 : k = 4 → S4 s
theorem aStep_lay {s t : Sk} {m : Mv} {c : Co} (h : aStep s m = .ok (t, c)) : t.layers = s.layers := by
  unfold aStep at h
  split at h
  · cases h
  split at h
  · cases h
  split at h
  · cases h
  · rename_i t1 c1 hd
    split at h <;> cases h
    exact (show t1.layers = s.layers from aDo_layers hd)
theorem rStepM_eq {k : Int} {s : Sk} {m : Mv} (h : RInv k s) : rStepM k s m = stepM k s m := by
  by_cases h1 : k = 1
  · rw [rStepM_1 h1, stepM_1 h1]
  by_cases h2 : k = 2
  · rw [rStepM_2 h2, stepM_2 h2]
  by_cases h3 : k = 3
  · rw [rStepM_3 h3, stepM_3 h3, rs_eq (h.s3 h3)]
  by_cases h4 : k = 4
  · rw [rStepM_4 h4, stepM_4 h4, rl_eq (h.s4 h4)]
  · rw [rStepM_0 ⟨h1, h2, h3, h4⟩, stepM_0 ⟨h1, h2, h3, h4⟩]
theorem RInv.step {k : Int} {s t : Sk} {m : Mv} {c : Co} (h : RInv k s) (hst : stepM k s m = .ok (t, c)) : RInv k t :=
  ⟨(stepM_f h.i hst).2, fun hk => by rw [stepM_2 hk] at hst; rw [aStep_lay hst]; exact h.l2 hk, fun hk => by rw [stepM_3 hk] at hst; exact (h.s3 hk).step hst, fun hk => by rw [stepM_4 hk] at hst; exact (h.s4 hk).step hst⟩
theorem RInv.fine {k : Int} {s : Sk} (h : RInv k s) : s.fine := h.i.sg.fine
theorem start_rinv {k p : Int} : RInv k (start0 k p) := by
  have hi := start_inv k p
  have hl := start0_l k p
  refine ⟨hi, fun _ => hl, fun hk => ?_, fun hk => ⟨hi.sg, hi.li (.inr hk), by rw [hl]; exact List.Pairwise.nil, fun l h => by rw [hl] at h; cases h⟩⟩
  have hp := hi.pr hk
  exact ⟨hi.sg, hp.1, hp.2, by rw [start0_v, start0_q, Int.zero_mul], hl⟩
end Go.SL

namespace Go.SL
open Go
def targK (kind : Int) : Int := if kind = 3 then 2 else 1
def backQ (l : List Mv) (kind ref : Int) : Int := match l with
  | [] => 0
  | y :: l => (if y.kind = kind ∧ y.ref = ref then y.qty else 0) + backQ l kind ref
def referM (l : List Mv) (m : Mv) : Int :=
  if (l.length : Int) < m.ref then 28 else match l[(m.ref - 1).toNat]? with
  | none => 28
  | some x => if x.item ≠ m.item ∨ x.kind ≠ targK m.kind then 28 else if m.value < x.value then 17 else if x.qty < backQ l m.kind m.ref + m.qty then 21 else 0
def chkL (done : List Mv) : List Mv → Option (Nat × Int)
  | [] => none
  | m :: ms => if m.seq ≠ (done.length : Int) + 1 then some (done.length, 17) else if m.one ≠ 0 then some (done.length, m.one)
    else if refersB m.kind = true ∧ referM done m ≠ 0 then some (done.length, referM done m) else chkL (done ++ [m]) ms
def chkM (ms : List Mv) : Option (Nat × Int) := if 2000 < ms.length then some (0, 9) else chkL [] ms
theorem backQ_app (l : List Mv) (y : Mv) (k r : Int) : backQ (l ++ [y]) k r = backQ l k r + (if y.kind = k ∧ y.ref = r then y.qty else 0) := by
  induction l with
  | nil => simp [backQ]
  | cons x l ih => simp only [List.cons_append, backQ, ih]; omega
def Fine (ms : List Mv) : Prop := ∀ (i : Nat) (m : Mv), ms[i]? = some m → m.seq = (i : Int) + 1 ∧ m.one = 0 ∧ (refersB m.kind = true → referM (ms.take i) m = 0)
theorem chkL_none : ∀ {ms done : List Mv}, chkL done ms = none ↔ ∀ (i : Nat) (m : Mv), ms[i]? = some m → m.seq = ((done.length + i : Nat) : Int) + 1 ∧ m.one = 0 ∧ (refersB m.kind = true → referM (done ++ ms.take i) m = 0)
  | [], done => by simp [chkL]
  | x :: ms, done => by
    simp only [chkL]
    constructor
    · intro h
      split at h
      · cases h
      split at h
      · cases h
      split at h
      · cases h
      rename_i h1 h2 h3
      have ih := chkL_none.1 h
      intro i m hm
      cases i with
      | zero =>
        simp only [List.getElem?_cons_zero, Option.some.injEq] at hm
        subst hm
        refine ⟨by simpa using h1, by simpa using h2, fun hr => ?_⟩
        simpa [hr] using h3
      | succ i =>
        have := ih i m (by simpa using hm)
        simp only [List.length_append, List.length_cons, List.length_nil, List.append_assoc, List.singleton_append] at this
        simp only [List.take_succ_cons]
        refine ⟨by rw [this.1]; omega, this.2⟩
    · intro h
      have h0 := h 0 x rfl
      simp only [List.take_zero, List.append_nil] at h0
      rw [if_neg (by rw [h0.1]; simp), if_neg (by simp [h0.2.1]), if_neg (fun ⟨a, b⟩ => b (h0.2.2 a))]
      refine chkL_none.2 fun i m hm => ?_
      have := h (i + 1) m (by simpa using hm)
      simp only [List.take_succ_cons] at this
      simp only [List.length_append, List.length_cons, List.length_nil, List.append_assoc, List.singleton_append]
      exact ⟨by rw [this.1]; omega, this.2⟩
theorem chkM_none {ms : List Mv} : chkM ms = none ↔ ms.length ≤ 2000 ∧ Fine ms := by
  unfold chkM Fine
  split
  · constructor
    · intro h; cases h
    · intro h; omega
  · rw [chkL_none]
    simp only [List.length_nil, Nat.zero_add, List.nil_append]
    exact ⟨fun h => ⟨by omega, h⟩, fun h => h.2⟩
def insB {α : Type} (p : α → Bool) (x : α) (o : List α) : List α := o.takeWhile (fun y => !p y) ++ x :: o.dropWhile (fun y => !p y)
def cutN {α : Type} (p : α → Bool) (o : List α) : Nat := (o.takeWhile fun y => !p y).length
theorem insB_eq {α : Type} (p : α → Bool) (x : α) (o : List α) : insB p x o = o.take (cutN p o) ++ x :: o.drop (cutN p o) := by
  have h := List.takeWhile_append_dropWhile (p := fun y => !p y) (l := o)
  unfold insB cutN
  have h1 : ∀ a b : List α, (a ++ b).take a.length = a ∧ (a ++ b).drop a.length = b := fun a b => by simp
  have h2 := h1 (o.takeWhile fun y => !p y) (o.dropWhile fun y => !p y)
  rw [h] at h2
  rw [h2.1, h2.2]
theorem cutN_le {α : Type} {p : α → Bool} {o : List α} : cutN p o ≤ o.length := (List.takeWhile_prefix _).length_le
theorem cutN_lt {α : Type} {p : α → Bool} : ∀ {o : List α} {i : Nat} {y : α}, i < cutN p o → o[i]? = some y → p y = false
  | [], i, y, h, _ => by simp [cutN] at h
  | x :: o, i, y, h, hy => by
    simp only [cutN, List.takeWhile_cons] at h
    split at h
    · rename_i hx
      cases i with
      | zero => simp only [List.getElem?_cons_zero, Option.some.injEq] at hy; subst hy; simpa using hx
      | succ i => exact cutN_lt (o := o) (i := i) (by unfold cutN; simpa using h) (by simpa using hy)
    · simp at h
theorem cutN_at {α : Type} {p : α → Bool} : ∀ {o : List α} {y : α}, o[cutN p o]? = some y → p y = true
  | [], y, h => by simp at h
  | x :: o, y, h => by
    simp only [cutN, List.takeWhile_cons] at h
    split at h
    · exact cutN_at (o := o) (by unfold cutN; simpa using h)
    · rename_i hx
      simp only [List.length_nil, List.getElem?_cons_zero, Option.some.injEq] at h
      subst h; simpa using hx
def Mono {α : Type} (p : α → Bool) (o : List α) : Prop := ∀ (i j : Nat) (x y : α), i ≤ j → o[i]? = some x → o[j]? = some y → p x = true → p y = true
theorem cutN_iff {α : Type} {p : α → Bool} {o : List α} (hm : Mono p o) {i : Nat} {y : α} (hy : o[i]? = some y) : p y = true ↔ cutN p o ≤ i := by
  constructor
  · intro hp
    refine Nat.le_of_not_lt fun h => ?_
    have := cutN_lt h hy
    rw [this] at hp; cases hp
  · intro h
    have hl := (List.getElem?_eq_some_iff.1 hy).1
    obtain ⟨z, hz⟩ : ∃ z, o[cutN p o]? = some z := ⟨_, List.getElem?_eq_getElem (by omega)⟩
    exact hm _ _ _ _ h hz hy (cutN_at hz)
theorem cutN_mid {α : Type} {p : α → Bool} {o : List α} {n : Nat} (hn : n ≤ o.length) (h0 : ∀ i y, i < n → o[i]? = some y → p y = false) (h1 : ∀ y, o[n]? = some y → p y = true) : cutN p o = n := by
  rcases Nat.lt_trichotomy (cutN p o) n with h | h | h
  · obtain ⟨z, hz⟩ : ∃ z, o[cutN p o]? = some z := ⟨_, List.getElem?_eq_getElem (by omega)⟩
    have a := h0 _ _ h hz
    have b := cutN_at hz
    rw [a] at b; cases b
  · exact h
  · have hl := cutN_le (p := p) (o := o)
    obtain ⟨z, hz⟩ : ∃ z, o[n]? = some z := ⟨_, List.getElem?_eq_getElem (by omega)⟩
    have a := cutN_lt h hz
    rw [h1 z hz] at a; cases a
def laterB (v : Int) (y : Mv) : Bool := decide (v < y.value)
def ordM (ms : List Mv) : List Mv := ms.foldl (fun o m => insB (laterB m.value) m o) []
theorem ordM_app (ms : List Mv) (m : Mv) : ordM (ms ++ [m]) = insB (laterB m.value) m (ordM ms) := by simp [ordM]
theorem insB_perm {α : Type} (p : α → Bool) (x : α) (o : List α) : (insB p x o).Perm (x :: o) := by
  unfold insB
  refine List.perm_middle.trans ?_
  rw [List.takeWhile_append_dropWhile]
theorem ordM_perm (ms : List Mv) : (ordM ms).Perm ms := by
  suffices H : ∀ (ms o : List Mv), (ms.foldl (fun o m => insB (laterB m.value) m o) o).Perm (o ++ ms) by simpa [ordM] using H ms []
  intro ms
  induction ms with
  | nil => intro o; simp
  | cons m ms ih =>
    intro o
    simp only [List.foldl_cons]
    refine (ih _).trans ?_
    refine ((insB_perm _ _ _).append_right ms).trans ?_
    exact List.perm_middle.symm
end Go.SL

namespace Go.SL
open Go
def entsF {α : Type} (f g : α → Value) : Nat → List α → List MapEntry
  | _, [] => []
  | n, x :: xs => ⟨f x, g x, n⟩ :: entsF f g (n + 1) xs
def ents {α : Type} (f g : α → Value) (xs : List α) : Array MapEntry := ⟨entsF f g 0 xs⟩
def amap {α : Type} (b : Nat) (f g : α → Value) (xs : List α) : HP := pt b (.map (ents f g xs) xs.length)
def kAt {α κ : Type} [DecidableEq κ] (kf : α → κ) (k : κ) : List α → Option (Nat × α)
  | [] => none
  | x :: xs => if kf x = k then some (0, x) else (kAt kf k xs).map fun p => (p.1 + 1, p.2)
section
variable {α κ : Type} [DecidableEq κ] {f g : α → Value} {kf : α → κ}
theorem entsF_len : ∀ (xs : List α) (n : Nat), (entsF f g n xs).length = xs.length
  | [], _ => rfl
  | x :: xs, n => by simp [entsF, entsF_len xs]
theorem entsF_get : ∀ (xs : List α) (n i : Nat), (entsF f g n xs)[i]? = xs[i]?.map fun x => ⟨f x, g x, n + i⟩
  | [], _, _ => by simp [entsF]
  | x :: xs, n, 0 => by simp [entsF]
  | x :: xs, n, i + 1 => by simp only [entsF, List.getElem?_cons_succ, entsF_get xs]; cases xs[i]? <;> simp; omega
theorem entsF_app (y : α) : ∀ (xs : List α) (n : Nat), entsF f g n (xs ++ [y]) = entsF f g n xs ++ [⟨f y, g y, n + xs.length⟩]
  | [], n => by simp [entsF]
  | x :: xs, n => by simp only [List.cons_append, entsF, entsF_app y xs, List.length_cons]; rw [show n + 1 + xs.length = n + (xs.length + 1) by omega]
theorem entsF_mem {xs : List α} {n : Nat} {e : MapEntry} (h : e ∈ entsF f g n xs) : ∃ i x, xs[i]? = some x ∧ e = ⟨f x, g x, n + i⟩ := by
  obtain ⟨i, hi⟩ := List.getElem?_of_mem h
  rw [entsF_get] at hi
  cases hx : xs[i]? with
  | none => rw [hx] at hi; cases hi
  | some x => rw [hx] at hi; exact ⟨i, x, hx, (Option.some.inj hi).symm⟩
theorem entsF_nodup : ∀ (xs : List α) (n : Nat), ((entsF f g n xs).map (·.born)).Nodup ∧ ∀ b ∈ (entsF f g n xs).map (·.born), n ≤ b
  | [], n => by simp [entsF]
  | x :: xs, n => by
    obtain ⟨h1, h2⟩ := entsF_nodup xs (n + 1)
    simp only [entsF, List.map_cons]
    refine ⟨List.nodup_cons.2 ⟨fun h => ?_, h1⟩, fun b hb => ?_⟩
    · have := h2 _ h; omega
    · rcases List.mem_cons.1 hb with rfl | h
      · exact Nat.le_refl _
      · have := h2 _ h; omega
theorem kAt_some {k : κ} : ∀ {xs : List α} {i : Nat} {x : α}, kAt kf k xs = some (i, x) → xs[i]? = some x ∧ kf x = k
  | y :: xs, i, x, h => by
    simp only [kAt] at h
    split at h
    · rename_i hk; cases h; exact ⟨rfl, hk⟩
    · cases hr : kAt kf k xs with
      | none => rw [hr] at h; cases h
      | some p =>
        rw [hr] at h; simp only [Option.map_some, Option.some.injEq, Prod.mk.injEq] at h
        obtain ⟨rfl, rfl⟩ := h
        have := kAt_some (i := p.1) (x := p.2) (by rw [hr])
        exact ⟨by simpa using this.1, this.2⟩
theorem kAt_no {k : κ} : ∀ {xs : List α}, (∀ x ∈ xs, kf x ≠ k) → kAt kf k xs = none
  | [], _ => rfl
  | y :: xs, h => by
    simp only [kAt]
    rw [if_neg (h y (List.mem_cons_self ..)), kAt_no fun x hx => h x (List.mem_cons_of_mem _ hx)]; rfl
def kSet (kf : α → κ) (y : α) (xs : List α) : List α := match kAt kf (kf y) xs with | some (i, _) => xs.set i y | none => xs ++ [y]
theorem entsF_set (y : α) : ∀ (xs : List α) (n i : Nat), i < xs.length → entsF f g n (xs.set i y) = (entsF f g n xs).set i ⟨f y, g y, n + i⟩
  | x :: xs, n, 0, _ => by simp [entsF]
  | x :: xs, n, i + 1, h => by
    simp only [List.set_cons_succ, entsF]
    rw [entsF_set y xs (n + 1) i (by simpa using h), show n + 1 + i = n + (i + 1) by omega]
end
section
variable {P : Program} {β : Base} {E : Env} {L L' M M' : List HP} {K : Value → List HP → Prop} {d : Option Tmp} {ty : TypeId} {pos : String} {af : Array Edge} {gd : Option (Nat × Bool)} {x y z : Operand} {t kt et : TypeId} {α : Type} {f g : α → Value} {b : Nat} {xs : List α}
theorem Sat.heap {o : Obj} {w : World} (hs : Sat β L w) (p : Pick L (pt b o) M) : w.heap[b]? = some o := by
  obtain ⟨⟨h, ⟨h1, h2, _, rfl, h1p, _⟩, hsub, _⟩, _⟩ := hs.pick p
  exact hsub b o (by simp [Hp.add, h1p b])
theorem OpJ.makeMap (h : ∀ b, K (.map (some b)) (pt b (.map #[] 0) :: L)) : OpJ P β E L ⟨d, .makeMap t none, ty, pos, af, gd⟩ K :=
  OpJ.vals fun a w ha hs => by
    refine ⟨.map (some w.heap.size), pt w.heap.size (.map #[] 0) :: L, w.alloc (.map #[] 0), ?_, Has.alloc hs _, h w.heap.size⟩
    simp [execOp, Instr.makeMap, newObj, Sem.run, Result.andThen]
class MPI (P : Program) (t : TypeId) (kt et : outParam TypeId) : Prop where
  eq : P.underlying t = some (.map kt et)
class ZVI (P : Program) (t : TypeId) (z : outParam Value) : Prop where
  eq : (P.info? t).bind (·.zero) = some z
theorem ZVI.run {z : Value} (Z : ZVI P t z) (w : World) : (zeroValue t).run P w = .ok z w := by
  have h := Z.eq
  cases hi : P.info? t with
  | none => simp [hi] at h
  | some i => simp [hi] at h; simp [zeroValue, typeInfo, hi, h, Result.andThen]
structure KeyEnc {κ : Type} [DecidableEq κ] (enc : κ → Value) (kd : TypeDesc) : Prop where
  isk : ∀ a, MapKept.IsKey kd (enc a)
  now : ∀ a b, Instr.sameNow kd (enc a) (enc b) = some (decide (a = b))
theorem keyInt : KeyEnc (fun n : Int => Value.int .i64 n) (.int .i64) := ⟨fun _ => rfl, fun a b => by simp [Instr.sameNow]; exact decide_eq_decide.2 Iff.rfl⟩
section
variable {κ : Type} [DecidableEq κ] {enc : κ → Value} {kd : TypeDesc} {kf : α → κ} {k : κ}
theorem findNow_ents (KE : KeyEnc enc kd) : ∀ (xs : List α) (n i : Nat), Instr.findNow kd (enc k) (entsF (fun x => enc (kf x)) g n xs) i = some ((kAt kf k xs).map fun p => (i + p.1, g p.2))
  | [], _, _ => rfl
  | x :: xs, n, i => by
    simp only [entsF, Instr.findNow, KE.now, kAt]
    by_cases h : k = kf x
    · simp [h]
    · have h' : ¬ kf x = k := fun e => h e.symm
      simp only [decide_eq_false h, if_neg h', findNow_ents KE xs]
      cases kAt kf k xs <;> simp; omega
theorem run_findKey_ents (KE : KeyEnc enc kd) (U : UI P kt kd) (w : World) : (Instr.findKey kt (enc k) (entsF (fun x => enc (kf x)) g 0 xs)).run P w = .ok ((kAt kf k xs).map fun p => (p.1, g p.2)) w := by
  have h := MapKept.run_findKey (P := P) (w := w) U.eq (findNow_ents (g := g) (kf := kf) (k := k) KE xs 0 0)
  simpa only [Nat.zero_add] using h
theorem OpJ.lookup2 {zv : Value} (KE : KeyEnc enc kd) (Mp : MPI P t kt et) (U : UI P kt kd) (Z : ZVI P et zv) (hx : E.ev x = some (.map (some b))) (hy : E.ev y = some (enc k)) (p : Pick L (amap b (fun x => enc (kf x)) g xs) M)
    (h : K (.tuple ⟨[match kAt kf k xs with | some q => g q.2 | none => zv, .bool (kAt kf k xs).isSome]⟩) L) : OpJ P β E L ⟨d, .lookup t x y true, ty, pos, af, gd⟩ K :=
  OpJ.same (fun a w ha hs => by
    have hb := hs.heap p
    have hf := run_findKey_ents (g := g) (kf := kf) (k := k) (xs := xs) KE U w
    simp only [execOp, ha.ev hx, ha.ev hy, Instr.lookup, Sem.run_bind, Sem.run_pure, run_underlying Mp.eq, MapKept.run_getObj_map hb, MapKept.run_checkKey U.eq (KE.isk k), ents, hf, Result.andThen]
    cases hk : kAt kf k xs with
    | none => simp [hk, Z.run, Result.andThen]
    | some q => simp [hk, Result.andThen]) h
theorem OpJ.mapUpdate (y0 : α) (KE : KeyEnc enc kd) (Mp : MPI P t kt et) (U : UI P kt kd) (hx : E.ev x = some (.map (some b))) (hy : E.ev y = some (enc (kf y0))) (hz : E.ev z = some (g y0))
    (u : Upd L (amap b (fun x => enc (kf x)) g xs) (amap b (fun x => enc (kf x)) g (kSet kf y0 xs)) L') (h : K undef L') : OpJ P β E L ⟨d, .mapUpdate t x y z, ty, pos, af, gd⟩ K :=
  OpJ.skips (fun a w ha hs => by
    obtain ⟨M', g1, g2⟩ := u.star
    have hs' : Has β (star (pt b (.map (ents (fun x => enc (kf x)) g xs) xs.length)) (stars M')) w := hs.mono g1
    have hb : w.heap[b]? = some (.map (ents (fun x => enc (kf x)) g xs) xs.length) := Sat.heap (L := _ :: M') hs' .here
    have hf := run_findKey_ents (g := g) (kf := kf) (k := kf y0) (xs := xs) KE U w
    refine ⟨{ w with heap := w.heap.setIfInBounds b (.map (ents (fun x => enc (kf x)) g (kSet kf y0 xs)) (kSet kf y0 xs).length) }, ?_, Has.mono (Has.setObj (o' := .map (ents (fun x => enc (kf x)) g (kSet kf y0 xs)) (kSet kf y0 xs).length) hs' rfl rfl rfl rfl) g2⟩
    simp only [execOp, ha.ev hx, ha.ev hy, ha.ev hz, Instr.mapUpdate, Sem.run_bind, Sem.run_pure, run_underlying Mp.eq, MapKept.run_getObj_map hb, MapKept.run_checkKey U.eq (KE.isk _), ents, hf, Result.andThen, kSet]
    cases hk : kAt kf (kf y0) xs with
    | none =>
      simp only [Option.map_none, MapKept.run_setObj_map _ hb, entsF_app, Nat.zero_add, List.length_append, List.length_cons, List.length_nil, List.push_toArray]
    | some q =>
      obtain ⟨hq, hkq⟩ := kAt_some hk
      have hlt := (List.getElem?_eq_some_iff.1 hq).1
      have he : (entsF (fun x => enc (kf x)) g 0 xs)[q.1]? = some ⟨enc (kf y0), g q.2, q.1⟩ := by rw [entsF_get, hq]; simp [hkq]
      simp only [Option.map_some, Nat.zero_add, List.getElem?_toArray, he, Option.getD_some, Sem.run_bind, MapKept.run_keyThatStays (KE.isk _), MapKept.run_setObj_map _ hb, Result.andThen, List.length_set]
      congr 4
      rw [entsF_set _ _ _ _ hlt]
      apply Array.toList_inj.1
      apply List.ext_getElem?
      intro j
      simp only [Array.getElem?_toList, Array.getElem?_modify, List.getElem?_set, List.getElem?_toArray]
      by_cases hj : q.1 = j
      · subst hj; have hb' := (List.getElem?_eq_some_iff.1 he).2; simp [he, entsF_len, hlt, hb']
      · simp [hj]) h
end
abbrev iter (b n : Nat) (seen : Array Nat) : Obj := .mapIter (some b) n seen n
theorem OpJ.range (Mp : MPI P t kt et) (hx : E.ev x = some (.map (some b))) (p : Pick L (amap b f g xs) M)
    (h : ∀ r, K (.pointer (some ⟨r, 0, none⟩)) (pt r (iter b xs.length #[]) :: L)) : OpJ P β E L ⟨d, .range t x, ty, pos, af, gd⟩ K :=
  OpJ.vals fun a w ha hs => by
    have hb := hs.heap p
    refine ⟨.pointer (some ⟨w.heap.size, 0, none⟩), pt w.heap.size (iter b xs.length #[]) :: L, w.alloc (iter b xs.length #[]), ?_, Has.alloc hs _, h w.heap.size⟩
    simp only [execOp, ha.ev hx, Sem.run_bind, Sem.run_pure, run_range_map w t kt et b _ _ Mp.eq hb, Result.andThen]
theorem run_next_at (w : World) (ty : TypeId) {r b n : Nat} {seen : Array Nat} {es : Array MapEntry} (hr : w.heap[r]? = some (iter b n seen)) (hb : w.heap[b]? = some (.map es n)) (hold : ∀ x ∈ es.toList, x.born < n) :
    ((leftOf es seen).size = 0 ∧ (Instr.next (.pointer (some ⟨r, 0, none⟩)) false ty).run P w = .ok (.tuple #[.bool false]) w) ∨
    ∃ e ∈ (leftOf es seen).toList, ∃ w1 : World, (w1 = w ∨ w1 = w.drew) ∧ (Instr.next (.pointer (some ⟨r, 0, none⟩)) false ty).run P w = .ok (.tuple #[.bool true, e.key, e.val]) { w1 with heap := w1.heap.setIfInBounds r (iter b n (seen.push e.born)) } := by
  simp only [Instr.next, getObj, Sem.run_bind, Sem.run, hr, hb, Result.andThen, next_test_false seen es n n hold (Nat.le_refl _), Bool.false_eq_true, if_false]
  unfold leftOf
  have hmem : ∀ x ∈ (Array.filter (fun e => !seen.contains e.born) es).toList, x.born < n := fun x hx => hold x (by simp at hx ⊢; exact hx.1)
  generalize Array.filter (fun e => !seen.contains e.born) es = L at hmem ⊢
  have e1 : L.filter (fun x => decide (x.born < n)) = L := Array.filter_eq_self.2 (fun x hx => by simpa using hmem x (by simpa using hx))
  have e2 : L.filter (fun x => decide (x.born ≥ n)) = #[] := by
    rw [Array.filter_eq_empty_iff]
    intro x hx
    have := hmem x (by simpa using hx)
    simp
    omega
  simp only [e1, e2, Array.append_empty]
  by_cases h0 : L.size = 0
  · left
    have : L = #[] := Array.eq_empty_of_size_eq_zero h0
    subst this
    refine ⟨rfl, ?_⟩
    simp [choose, Sem.run, Question.forced]
  · right
    have hne : L.isEmpty = false := by simp [Array.isEmpty, h0]
    simp only [hne, Bool.false_eq_true, if_false, Array.empty_append, Array.size_map]
    have hch : ∃ (j : Nat) (w1 : World), j < L.size ∧ (w1 = w ∨ w1 = w.drew) ∧ (choose (Question.mapNext L.size)).run P w = .ok j w1 := by
      by_cases hf : L.size ≤ 1
      · exact ⟨0, w, by omega, .inl rfl, by simp [choose, Sem.run, Question.forced, hf]⟩
      · exact ⟨_, w.drew, Nat.mod_lt _ (by omega), .inr rfl, by
          simp only [choose, Sem.run, Question.forced, decide_eq_true_eq, hf, if_false, Question.cut]
          rfl⟩
    obtain ⟨j, w1, hj, hw1, hrun⟩ := hch
    refine ⟨L[j], by simp, w1, hw1, ?_⟩
    have hr1 : w1.heap[r]? = some (iter b n seen) := by rcases hw1 with rfl | rfl <;> exact hr
    have hset : (setObj r (iter b n (seen.push L[j].born))).run P w1 = .ok () { w1 with heap := w1.heap.setIfInBounds r (iter b n (seen.push L[j].born)) } := by
      simp only [setObj, Sem.run, hr1]
    simp only [hrun, Array.getElem?_map, Array.getElem?_eq_getElem hj, Option.map_some, Sem.run_bind, hset, Result.andThen]
    rfl
theorem OpJ.next {r : Nat} {seen : Array Nat} {Ls : Array Nat → List HP} (hx : E.ev x = some (.pointer (some ⟨r, 0, none⟩))) (p : Pick L (amap b f g xs) M) (u : ∀ s, Upd L (pt r (iter b xs.length seen)) (pt r (iter b xs.length s)) (Ls s))
    (h0 : (∀ i, i < xs.length → i ∈ seen) → K (.tuple ⟨[.bool false]⟩) L) (h1 : ∀ i y, xs[i]? = some y → i ∉ seen → K (.tuple ⟨[.bool true, f y, g y]⟩) (Ls (seen.push i))) : OpJ P β E L ⟨d, .next x false, ty, pos, af, gd⟩ K :=
  OpJ.vals fun a w ha hs => by
    have hb := hs.heap p
    obtain ⟨M1, g1, _⟩ := (u #[]).star
    have hs1 : Has β (star (pt r (iter b xs.length seen)) (stars M1)) w := hs.mono g1
    have hr : w.heap[r]? = some (iter b xs.length seen) := Sat.heap (L := _ :: M1) hs1 .here
    have hold : ∀ e ∈ (ents f g xs).toList, e.born < xs.length := fun e he => by
      obtain ⟨i, y, hy, rfl⟩ := entsF_mem he
      have := (List.getElem?_eq_some_iff.1 hy).1
      show 0 + i < _; omega
    rcases run_next_at (P := P) w ty hr hb hold with ⟨hz, hrun⟩ | ⟨e, he, w1, hw1, hrun⟩
    · refine ⟨_, L, w, by simp only [execOp, ha.ev hx, Sem.run_bind, Sem.run_pure, hrun, Result.andThen], hs, h0 fun i hi => ?_⟩
      have hall := all_seen _ _ hz
      obtain ⟨y, hy⟩ : ∃ y, xs[i]? = some y := ⟨_, List.getElem?_eq_getElem hi⟩
      have hm : (⟨f y, g y, 0 + i⟩ : MapEntry) ∈ (ents f g xs).toList := List.mem_of_getElem? (by show (entsF f g 0 xs)[i]? = _; rw [entsF_get, hy]; rfl)
      have := hall _ hm
      simpa using this
    · obtain ⟨hm, hns⟩ := mem_left he
      obtain ⟨i, y, hy, rfl⟩ := entsF_mem hm
      have hsn : i ∉ seen := by simpa using hns
      obtain ⟨M2, g2, g3⟩ := (u (seen.push i)).star
      have hs2 : Has β (star (pt r (iter b xs.length seen)) (stars M2)) w := hs.mono g2
      have hs3 : Has β (star (pt r (iter b xs.length seen)) (stars M2)) w1 := by rcases hw1 with rfl | rfl; exact hs2; exact hs2.drew
      refine ⟨_, Ls (seen.push i), { w1 with heap := w1.heap.setIfInBounds r (iter b xs.length (seen.push i)) }, ?_, Has.mono (Has.setObj (o' := iter b xs.length (seen.push i)) hs3 rfl rfl rfl rfl) g3, h1 i y hy hsn⟩
      simp only [execOp, ha.ev hx, Sem.run_bind, Sem.run_pure, hrun, Result.andThen, Nat.zero_add]
theorem OpJ.entry {r i : Nat} {seen : Array Nat} {y : α} (hx : E.ev x = some (.pointer (some ⟨r, 0, none⟩))) (p : Pick L (amap b f g xs) M) (q : Pick L (pt r (iter b xs.length (seen.push i))) M') (hy : xs[i]? = some y)
    (h : K (.tuple ⟨[f y, g y]⟩) L) : OpJ P β E L ⟨d, .entry x, ty, pos, af, gd⟩ K :=
  OpJ.same (fun a w ha hs => by
    have hb := hs.heap p
    have hr := hs.heap q
    have hm : (⟨f y, g y, i⟩ : MapEntry) ∈ entsF f g 0 xs := List.mem_of_getElem? (by rw [entsF_get, hy]; simp)
    have hf : (entsF f g 0 xs).toArray.find? (fun x => x.born == i) = some ⟨f y, g y, i⟩ := by
      rw [← Array.find?_toList]; exact find_born (⟨f y, g y, i⟩ : MapEntry) _ (entsF_nodup xs 0).1 hm
    simp only [execOp, ha.ev hx, Sem.run_bind, Sem.run_pure, Instr.entry, getObj, Sem.run, hr, hb, ents, Result.andThen, Array.back?_push, bne_self_eq_false, Bool.false_eq_true, if_false, hf]) h
end
end Go.SL

namespace Go.SL
open Go
section
variable {P : Program} {β : Base} {E : Env} {L L' M M' : List HP} {K : Value → List HP → Prop} {d : Option Tmp} {ty : TypeId} {pos : String} {af : Array Edge} {gd : Option (Nat × Bool)} {x y z : Operand} {t kt et : TypeId}
variable {κ : Type} [DecidableEq κ] {enc : κ → Value} {k : κ} {b : Nat}
structure KeyAgg (P : Program) (kt : TypeId) {κ : Type} [DecidableEq κ] (enc : κ → Value) : Prop where
  check : ∀ (em : Bool) (n : Nat) (a : κ) (w : World), (Instr.checkKey em (n + 2) kt (enc a)).run P w = .ok () w
  under : ∃ fs, P.underlying kt = some (.struct fs)
  eq : ∀ (a c : κ) (w : World), (Op.equal kt (enc a) (enc c)).run P w = .ok (decide (a = c)) w
  stays : ∀ (a : κ) (w : World), (Instr.keyThatStays (enc a) (enc a)).run P w = .ok (enc a) w
theorem run_findAsking (KA : KeyAgg P kt enc) {α : Type} {kf : α → κ} {g : α → Value} (w : World) : ∀ (xs : List α) (n i : Nat), (Instr.findAsking kt (enc k) (entsF (fun x => enc (kf x)) g n xs) i).run P w = .ok ((kAt kf k xs).map fun p => (i + p.1, g p.2)) w
  | [], _, _ => rfl
  | x :: xs, n, i => by
    simp only [entsF, Instr.findAsking, Sem.run_bind, KA.eq, Result.andThen, kAt]
    by_cases h : k = kf x
    · simp [h]
    · have h' : ¬ kf x = k := fun e => h e.symm
      simp only [decide_eq_false h, Bool.false_eq_true, if_false, if_neg h', run_findAsking KA w xs (n + 1) (i + 1)]
      cases kAt kf k xs <;> simp; omega
theorem run_findKeyA (KA : KeyAgg P kt enc) {α : Type} {kf : α → κ} {g : α → Value} (w : World) (xs : List α) : (Instr.findKey kt (enc k) (entsF (fun x => enc (kf x)) g 0 xs)).run P w = .ok ((kAt kf k xs).map fun p => (p.1, g p.2)) w := by
  obtain ⟨fs, hfs⟩ := KA.under
  have ha := run_findAsking (k := k) (kf := kf) (g := g) KA w xs 0 0
  simp only [Nat.zero_add] at ha
  cases xs with
  | nil => simp [Instr.findKey, run_underlying hfs, entsF, Instr.findNow, kAt, Result.andThen]
  | cons x xs =>
    have hn : Instr.findNow (.struct fs) (enc k) (entsF (fun x => enc (kf x)) g 0 (x :: xs)) 0 = none := by simp [entsF, Instr.findNow, Instr.sameNow]
    simp only [Instr.findKey, Sem.run_bind, run_underlying hfs, Result.andThen, hn]
    exact ha
def look (xs : List (κ × Int)) (k : κ) : Int := match kAt (Prod.fst : κ × Int → κ) k xs with | some q => q.2.2 | none => 0
abbrev TM (enc : κ → Value) (b : Nat) (xs : List (κ × Int)) : HP := amap b (fun x => enc x.1) (fun x => Value.int .i64 x.2) xs
def tmap (enc : κ → Value) (b : Nat) (T : κ → Int) : HP := fun h => ∃ xs, (∀ k, look xs k = T k) ∧ TM enc b xs h
def tmapE (enc : κ → Value) (b : Nat) (T : κ → Int) (k : κ) (s : Nat) : HP := fun h => ∃ xs, (∀ k, look xs k = T k) ∧ (∃ q, kAt (Prod.fst : κ × Int → κ) k xs = some (s, q)) ∧ TM enc b xs h
theorem tmap.nil : ∀ h, pt b (.map #[] 0) h → tmap enc b (fun _ => 0) h := fun h hh => ⟨[], fun k => rfl, hh⟩
theorem tmapE.drop {T : κ → Int} {s : Nat} : ∀ h, tmapE enc b T k s h → tmap enc b T h := fun h ⟨xs, h1, _, h2⟩ => ⟨xs, h1, h2⟩
theorem OpJ.lookupT {A : HP} {T : κ → Int} (KA : KeyAgg P kt enc) (Mp : MPI P t kt et) (Z : ZVI P et (.int .i64 0)) (hx : E.ev x = some (.map (some b))) (hy : E.ev y = some (enc k)) (hA : ∀ h, A h → tmap enc b T h) (p : Pick L A M)
    (h : K (.int .i64 (T k)) L) : OpJ P β E L ⟨d, .lookup t x y false, ty, pos, af, gd⟩ K :=
  OpJ.same (fun a w ha hs => by
    obtain ⟨⟨hp, ⟨h1, h2, _, rfl, hA1, _⟩, hsub, _⟩, _⟩ := hs.pick p
    obtain ⟨xs, hT, hm⟩ := hA _ hA1
    have hb : w.heap[b]? = some (.map (ents (fun x => enc x.1) (fun x : κ × Int => Value.int .i64 x.2) xs) xs.length) := hsub b _ (by simp [Hp.add, hm b])
    have hf := run_findKeyA (kf := Prod.fst) (g := fun x : κ × Int => Value.int .i64 x.2) (k := k) KA w xs
    have hT' := hT k
    unfold look at hT'
    simp only [execOp, ha.ev hx, ha.ev hy, Instr.lookup, Sem.run_bind, Sem.run_pure, run_underlying Mp.eq, MapKept.run_getObj_map hb, KA.check, ents, hf, Result.andThen]
    cases hk : kAt (Prod.fst : κ × Int → κ) k xs with
    | none => rw [hk] at hT'; simp [Z.run, Result.andThen, ← hT']
    | some q => rw [hk] at hT'; simp [Result.andThen, ← hT']) h
theorem OpJ.lookupT0 {T : κ → Int} (KA : KeyAgg P kt enc) (Mp : MPI P t kt et) (Z : ZVI P et (.int .i64 0)) (hx : E.ev x = some (.map (some b))) (hy : E.ev y = some (enc k)) (p : Pick L (tmap enc b T) M)
    (h : K (.int .i64 (T k)) L) : OpJ P β E L ⟨d, .lookup t x y false, ty, pos, af, gd⟩ K := OpJ.lookupT KA Mp Z hx hy (fun _ h => h) p h
theorem OpJ.lookupTE {T : κ → Int} {k' : κ} {s : Nat} (KA : KeyAgg P kt enc) (Mp : MPI P t kt et) (Z : ZVI P et (.int .i64 0)) (hx : E.ev x = some (.map (some b))) (hy : E.ev y = some (enc k)) (p : Pick L (tmapE enc b T k' s) M)
    (h : K (.int .i64 (T k)) L) : OpJ P β E L ⟨d, .lookup t x y false, ty, pos, af, gd⟩ K := OpJ.lookupT KA Mp Z hx hy tmapE.drop p h
theorem kAt_push {y : κ × Int} : ∀ {xs : List (κ × Int)}, kAt (Prod.fst : κ × Int → κ) k xs = none → kAt (Prod.fst : κ × Int → κ) k (xs ++ [y]) = if y.1 = k then some (xs.length, y) else none
  | [], _ => by simp [kAt]
  | x :: xs, h => by
    simp only [kAt] at h
    split at h
    · cases h
    · rename_i hk
      have ih := kAt_push (y := y) (xs := xs) (by cases hr : kAt (Prod.fst : κ × Int → κ) k xs with | none => rfl | some q => rw [hr] at h; cases h)
      simp only [List.cons_append, kAt, if_neg hk, ih]
      split <;> simp
theorem kAt_app {y : κ × Int} {q : Nat × (κ × Int)} : ∀ {xs : List (κ × Int)} {q : Nat × (κ × Int)}, kAt (Prod.fst : κ × Int → κ) k xs = some q → kAt (Prod.fst : κ × Int → κ) k (xs ++ [y]) = some q
  | x :: xs, q, h => by
    simp only [kAt, List.cons_append] at h ⊢
    split
    · rename_i hk; rw [if_pos hk] at h; exact h
    · rename_i hk
      rw [if_neg hk] at h
      cases hr : kAt (Prod.fst : κ × Int → κ) k xs with
      | none => rw [hr] at h; cases h
      | some r => rw [kAt_app (q := r) hr]; rw [hr] at h; exact h
theorem kAt_set {v : Int} {q : κ × Int} {k' : κ} : ∀ {xs : List (κ × Int)} {s : Nat}, kAt (Prod.fst : κ × Int → κ) k xs = some (s, q) → kAt (Prod.fst : κ × Int → κ) k' (xs.set s (k, v)) = if k' = k then some (s, (k, v)) else kAt (Prod.fst : κ × Int → κ) k' xs
  | x :: xs, s, h => by
    simp only [kAt] at h
    split at h
    · rename_i hk
      cases h
      simp only [List.set_cons_zero, kAt]
      by_cases e : k' = k
      · subst e; simp
      · have e1 : ¬ k = k' := fun c => e c.symm
        have e2 : ¬ q.1 = k' := fun c => e (c.symm.trans hk)
        simp only [if_neg e1, if_neg e2, if_neg e]
    · rename_i hk
      cases hr : kAt (Prod.fst : κ × Int → κ) k xs with
      | none => rw [hr] at h; cases h
      | some r =>
        rw [hr] at h
        simp only [Option.map_some, Option.some.injEq, Prod.mk.injEq] at h
        obtain ⟨rfl, rfl⟩ := h
        simp only [List.set_cons_succ, kAt]
        have ih := kAt_set (v := v) (q := r.2) (k' := k') (s := r.1) (xs := xs) (by rw [hr])
        by_cases e : k' = k
        · subst e; rw [if_neg hk, ih]; simp
        · by_cases e2 : x.1 = k'
          · rw [if_pos e2, if_neg e, if_pos e2]
          · rw [if_neg e2, ih, if_neg e, if_neg e, if_neg e2]
theorem OpJ.mapEntryT {T : κ → Int} {Ls : Nat → List HP} (KA : KeyAgg P kt enc) (Mp : MPI P t kt et) (Z : ZVI P et (.int .i64 0)) (hx : E.ev x = some (.map (some b))) (hy : E.ev y = some (enc k)) (u : ∀ s, Upd L (tmap enc b T) (tmapE enc b T k s) (Ls s))
    (h : ∀ (s : Nat) (v : Value), K (.tuple ⟨[v, .int .i64 (s : Int)]⟩) (Ls s)) : OpJ P β E L ⟨d, .mapEntry t x y, ty, pos, af, gd⟩ K :=
  OpJ.vals fun a w ha hs => by
    obtain ⟨M0, g1, _⟩ := (u 0).star
    have hs0 : Has β (star (tmap enc b T) (stars M0)) w := hs.mono g1
    obtain ⟨⟨hp, ⟨h1, h2, hdj, rfl, ⟨xs, hT, hm⟩, hr2⟩, hsub, hown⟩, hrest⟩ := hs0
    have hb : w.heap[b]? = some (.map (ents (fun x => enc x.1) (fun x : κ × Int => Value.int .i64 x.2) xs) xs.length) := hsub b _ (by simp [Hp.add, hm b])
    have hf := run_findKeyA (kf := Prod.fst) (g := fun x : κ × Int => Value.int .i64 x.2) (k := k) KA w xs
    have hsx : Has β (star (TM enc b xs) (stars M0)) w := ⟨⟨_, ⟨h1, h2, hdj, rfl, hm, hr2⟩, hsub, hown⟩, hrest⟩
    cases hk : kAt (Prod.fst : κ × Int → κ) k xs with
    | none =>
      rw [hk] at hf
      have hT0 : T k = 0 := by have := hT k; unfold look at this; rw [hk] at this; exact this.symm
      obtain ⟨M1, g2, g3⟩ := (u xs.length).star
      have hsy : Has β (star (tmap enc b T) (stars M1)) w := hs.mono g2
      refine ⟨.tuple ⟨[.int .i64 0, .int .i64 (xs.length : Int)]⟩, Ls xs.length, { w with heap := w.heap.setIfInBounds b (.map (ents (fun x => enc x.1) (fun x : κ × Int => Value.int .i64 x.2) (xs ++ [(k, 0)])) (xs ++ [(k, 0)]).length) }, ?_, ?_, h xs.length _⟩
      · simp only [execOp, ha.ev hx, ha.ev hy, Instr.mapEntry, Sem.run_bind, Sem.run_pure, run_underlying Mp.eq, MapKept.run_getObj_map hb, KA.check, ents, hf, Result.andThen, Option.map_none, Z.run, MapKept.run_setObj_map _ hb, entsF_app, Nat.zero_add, List.length_append, List.length_cons, List.length_nil, List.push_toArray]
        rfl
      · obtain ⟨⟨hp', ⟨h1', h2', hdj', hpe, ⟨xs', hT', hm'⟩, hr2'⟩, hsub', hown'⟩, hrest'⟩ := hsy
        subst hpe
        have hb' : w.heap[b]? = some (.map (ents (fun x => enc x.1) (fun x : κ × Int => Value.int .i64 x.2) xs') xs'.length) := hsub' b _ (by simp [Hp.add, hm' b])
        have hm2 : pt b (.map (ents (fun x => enc x.1) (fun x : κ × Int => Value.int .i64 x.2) xs) xs.length) h1' := by
          intro c; rw [hm' c]; split
          · rw [hb] at hb'; exact hb'.symm
          · rfl
        have hs2 : Has β (star (TM enc b xs) (stars M1)) w := ⟨⟨_, ⟨h1', h2', hdj', rfl, hm2, hr2'⟩, hsub', hown'⟩, hrest'⟩
        have hs3 := Has.setObj (o' := .map (ents (fun x => enc x.1) (fun x : κ × Int => Value.int .i64 x.2) (xs ++ [(k, 0)])) (xs ++ [(k, 0)]).length) (w' := { w with heap := w.heap.setIfInBounds b (.map (ents (fun x => enc x.1) (fun x : κ × Int => Value.int .i64 x.2) (xs ++ [(k, 0)])) (xs ++ [(k, 0)]).length) }) hs2 rfl rfl rfl rfl
        refine Has.mono hs3 fun h hh => g3 h (star_mono (fun h' hh' => ⟨xs ++ [(k, 0)], fun k' => ?_, ⟨(k, 0), by rw [kAt_push hk]; simp⟩, hh'⟩) (fun _ => id) hh)
        have hTk := hT k'
        unfold look at hTk ⊢
        cases hk' : kAt (Prod.fst : κ × Int → κ) k' xs with
        | none =>
          rw [hk'] at hTk; rw [kAt_push hk']
          by_cases e : k = k'
          · subst e; simp [hT0]
          · simp [e]; exact hTk
        | some r => rw [hk'] at hTk; rw [kAt_app (q := r) hk']; exact hTk
    | some q =>
      rw [hk] at hf
      obtain ⟨hq, hkq⟩ := kAt_some hk
      have he : (entsF (fun x => enc x.1) (fun x : κ × Int => Value.int .i64 x.2) 0 xs)[q.1]? = some ⟨enc k, .int .i64 q.2.2, q.1⟩ := by rw [entsF_get, hq]; simp [hkq]
      obtain ⟨M1, g2, g3⟩ := (u q.1).star
      have hsy : Has β (star (tmap enc b T) (stars M1)) w := hs.mono g2
      refine ⟨.tuple ⟨[.int .i64 q.2.2, .int .i64 (q.1 : Int)]⟩, Ls q.1, { w with heap := w.heap.setIfInBounds b (.map (ents (fun x => enc x.1) (fun x : κ × Int => Value.int .i64 x.2) xs) xs.length) }, ?_, ?_, h q.1 _⟩
      · simp only [execOp, ha.ev hx, ha.ev hy, Instr.mapEntry, Sem.run_bind, Sem.run_pure, run_underlying Mp.eq, MapKept.run_getObj_map hb, KA.check, ents, hf, Result.andThen, Option.map_some, List.getElem?_toArray, he, Option.getD_some, KA.stays, MapKept.run_setObj_map _ hb]
        congr 4
        apply Array.toList_inj.1
        apply List.ext_getElem?
        intro j
        simp only [Array.getElem?_toList, Array.getElem?_modify, List.getElem?_toArray]
        by_cases hj : q.1 = j
        · subst hj; rw [if_pos rfl, he]; rfl
        · rw [if_neg hj]
      · obtain ⟨⟨hp', ⟨h1', h2', hdj', hpe, ⟨xs', hT', hm'⟩, hr2'⟩, hsub', hown'⟩, hrest'⟩ := hsy
        subst hpe
        have hb' : w.heap[b]? = some (.map (ents (fun x => enc x.1) (fun x : κ × Int => Value.int .i64 x.2) xs') xs'.length) := hsub' b _ (by simp [Hp.add, hm' b])
        have hm2 : pt b (.map (ents (fun x => enc x.1) (fun x : κ × Int => Value.int .i64 x.2) xs) xs.length) h1' := by
          intro c; rw [hm' c]; split
          · rw [hb] at hb'; exact hb'.symm
          · rfl
        have hs2 : Has β (star (TM enc b xs) (stars M1)) w := ⟨⟨_, ⟨h1', h2', hdj', rfl, hm2, hr2'⟩, hsub', hown'⟩, hrest'⟩
        have hs3 := Has.setObj (o' := .map (ents (fun x => enc x.1) (fun x : κ × Int => Value.int .i64 x.2) xs) xs.length) (w' := { w with heap := w.heap.setIfInBounds b (.map (ents (fun x => enc x.1) (fun x : κ × Int => Value.int .i64 x.2) xs) xs.length) }) hs2 rfl rfl rfl rfl
        exact Has.mono hs3 fun h hh => g3 h (star_mono (fun h' hh' => ⟨xs, hT, ⟨q.2, hk⟩, hh'⟩) (fun _ => id) hh)
theorem OpJ.entryStoreT {T : κ → Int} {s : Nat} {v : Int} (hx : E.ev x = some (.map (some b))) (hy : E.ev y = some (.int .i64 (s : Int))) (hz : E.ev z = some (.int .i64 v)) (u : Upd L (tmapE enc b T k s) (tmap enc b (fun k' => if k' = k then v else T k')) L')
    (h : K undef L') : OpJ P β E L ⟨d, .entryStore t x y z, ty, pos, af, gd⟩ K :=
  OpJ.skips (fun a w ha hs => by
    obtain ⟨M1, g1, g2⟩ := u.star
    obtain ⟨⟨hp, ⟨h1, h2, hdj, rfl, ⟨xs, hT, ⟨q, hk⟩, hm⟩, hr2⟩, hsub, hown⟩, hrest⟩ := (hs.mono g1 : Has β (star (tmapE enc b T k s) (stars M1)) w)
    have hb : w.heap[b]? = some (.map (ents (fun x => enc x.1) (fun x : κ × Int => Value.int .i64 x.2) xs) xs.length) := hsub b _ (by simp [Hp.add, hm b])
    have hsx : Has β (star (TM enc b xs) (stars M1)) w := ⟨⟨_, ⟨h1, h2, hdj, rfl, hm, hr2⟩, hsub, hown⟩, hrest⟩
    obtain ⟨hq, hkq⟩ := kAt_some hk
    have hlt := (List.getElem?_eq_some_iff.1 hq).1
    have he : (entsF (fun x => enc x.1) (fun x : κ × Int => Value.int .i64 x.2) 0 xs)[s]? = some ⟨enc k, .int .i64 q.2, s⟩ := by rw [entsF_get, hq]; simp [← hkq]
    have hfi : (ents (fun x => enc x.1) (fun x : κ × Int => Value.int .i64 x.2) xs).findIdx? (fun e => (e.born : Int) == (s : Int)) = some s := by
      simp only [ents, List.findIdx?_toArray]
      rw [List.findIdx?_eq_some_iff_getElem]
      refine ⟨by show s < (entsF _ _ 0 xs).length; rw [entsF_len]; exact hlt, ?_, fun j hj => ?_⟩
      · have := (List.getElem?_eq_some_iff.1 he).2
        show ((((entsF _ _ 0 xs)[s]'_).born : Int) == (s : Int)) = true
        rw [this]; simp
      · obtain ⟨y', hy'⟩ : ∃ y', xs[j]? = some y' := ⟨_, List.getElem?_eq_getElem (by omega)⟩
        have hg : (entsF (fun x => enc x.1) (fun x : κ × Int => Value.int .i64 x.2) 0 xs)[j]? = some ⟨enc y'.1, .int .i64 y'.2, j⟩ := by rw [entsF_get, hy']; simp
        have := (List.getElem?_eq_some_iff.1 hg).2
        show ¬ ((((entsF _ _ 0 xs)[j]'_).born : Int) == (s : Int)) = true
        rw [this]; simp; omega
    refine ⟨{ w with heap := w.heap.setIfInBounds b (.map (ents (fun x => enc x.1) (fun x : κ × Int => Value.int .i64 x.2) (xs.set s (k, v))) (xs.set s (k, v)).length) }, ?_, ?_⟩
    · simp only [execOp, ha.ev hx, ha.ev hy, ha.ev hz, Instr.entryStore, Sem.run_bind, Sem.run_pure, MapKept.run_getObj_map hb, asInt, asIntOf, Result.andThen, hfi, MapKept.run_setObj_map _ hb, List.length_set]
      congr 4
      apply Array.toList_inj.1
      apply List.ext_getElem?
      intro j
      simp only [ents, entsF_set _ _ _ _ hlt, Array.getElem?_toList, Array.getElem?_modify, List.getElem?_set, List.getElem?_toArray]
      by_cases hj : s = j
      · subst hj; have hb' := (List.getElem?_eq_some_iff.1 he).2; simp [he, entsF_len, hlt, hb']
      · simp [hj]
    · have hs3 := Has.setObj (o' := .map (ents (fun x => enc x.1) (fun x : κ × Int => Value.int .i64 x.2) (xs.set s (k, v))) (xs.set s (k, v)).length) (w' := { w with heap := w.heap.setIfInBounds b (.map (ents (fun x => enc x.1) (fun x : κ × Int => Value.int .i64 x.2) (xs.set s (k, v))) (xs.set s (k, v)).length) }) hsx rfl rfl rfl rfl
      refine Has.mono hs3 fun h hh => g2 h (star_mono (fun h' hh' => ⟨xs.set s (k, v), fun k' => ?_, hh'⟩) (fun _ => id) hh)
      have hTk := hT k'
      unfold look at hTk ⊢
      rw [kAt_set hk]
      by_cases e : k' = k
      · simp [e]
      · simp only [if_neg e]; exact hTk) h
theorem run_forIn_unit {α : Type} {body : α → PUnit → Sem (ForInStep PUnit)} : ∀ {fs : List α} {w : World}, (∀ f ∈ fs, ∀ w, (body f ⟨⟩).run P w = .ok (.yield ⟨⟩) w) → (forIn fs PUnit.unit body).run P w = .ok ⟨⟩ w
  | [], w, _ => rfl
  | f :: fs, w, h => by
    rw [List.forIn_cons]
    simp only [Sem.run_bind, h f (List.mem_cons_self ..), Result.andThen]
    exact run_forIn_unit fun g hg => h g (List.mem_cons_of_mem _ hg)
def keyField (P : Program) (f : Field) : Option (Nat × Bool) := match P.underlying f.type with
  | some (.int .i64) => some (f.offset, true)
  | some .string => some (f.offset, false)
  | _ => none
def keyInfo (P : Program) (t : TypeId) : Option (List (Nat × Bool)) := match P.underlying t with
  | some (.struct fs) => fs.toList.mapM (keyField P)
  | _ => none
theorem keyInfo_spec {t : TypeId} {ps : List (Nat × Bool)} (h : keyInfo P t = some ps) : ∃ fs, P.underlying t = some (.struct fs) ∧ fs.toList.mapM (keyField P) = some ps := by
  unfold keyInfo at h
  split at h
  · rename_i fs hu; exact ⟨fs, hu, h⟩
  · cases h
theorem run_checkAgg {fs : Array Field} {cs : List Value} {ps : List (Nat × Bool)} (hu : P.underlying kt = some (.struct fs)) (hp : fs.toList.mapM (keyField P) = some ps)
    (hc : ∀ p ∈ ps, ∃ v, cs[p.1]? = some v ∧ MapKept.IsKey (if p.2 then .int .i64 else .string) v) (em : Bool) (n : Nat) (w : World) : (Instr.checkKey em (n + 2) kt (.agg ⟨cs⟩)).run P w = .ok () w := by
  unfold Instr.checkKey
  simp only [Sem.run_bind, run_underlying hu, Result.andThen]
  rw [← Array.forIn_toList]
  rw [run_forIn_unit (fun f hf w => ?_)]
  · rfl
  obtain ⟨i, hi⟩ := List.getElem?_of_mem hf
  obtain ⟨p, hpf, hpm⟩ : ∃ p, keyField P f = some p ∧ p ∈ ps := by
    have hm := mapM_some_get hp i
    cases hpi : keyField P f with
    | none =>
      exfalso
      have hl := mapM_some_length hp
      have : fs.toList[i]? = some f := hi
      obtain ⟨y, hy⟩ : ∃ y, ps[i]? = some y := ⟨_, List.getElem?_eq_getElem (by have := (List.getElem?_eq_some_iff.1 hi).1; omega)⟩
      have h2 := hm _ hi
      rw [hpi, hy] at h2; cases h2
    | some q => exact ⟨q, rfl, List.mem_of_getElem? (by have h2 := hm _ hi; rw [hpi] at h2; exact h2.symm)⟩
  obtain ⟨v, hv, hk⟩ := hc p hpm
  by_cases hn : f.name = "_"
  · simp [hn, Result.andThen]
  · unfold keyField at hpf
    split at hpf
    · rename_i hu2
      cases hpf
      have hv' : (⟨cs⟩ : Array Value)[f.offset]? = some v := by simpa using hv
      simp only [ne_eq, hn, not_false_eq_true, if_true, Sem.run_bind, part, isAgg, run_underlying hu2, Result.andThen, Sem.run_pure, Bool.false_eq_true, if_false, hv', MapKept.run_checkKey hu2 hk]
    · rename_i hu2
      cases hpf
      have hv' : (⟨cs⟩ : Array Value)[f.offset]? = some v := by simpa using hv
      simp only [ne_eq, hn, not_false_eq_true, if_true, Sem.run_bind, part, isAgg, run_underlying hu2, Result.andThen, Sem.run_pure, Bool.false_eq_true, if_false, hv', MapKept.run_checkKey hu2 hk]
    · cases hpf
end
section
variable {P : Program} {β : Base} {n : Nat} {ops : Array Oper} {fuel : Nat} {listed : Array Bool} {pend : Pend} {E : Env} {L L' Ls M : List HP} {K : Env → List HP → Prop}
theorem RunD.opG (i : Nat) (mask : List Bool) {o : Oper} {jg : Nat} {gb : Bool} {gd : Tmp} (hi : ops[i]? = some o) (hg : o.guard = some (jg, gb)) (hj : (ops[jg]?).bind (·.dst) = some gd) (hb : E.get gd = some (.bool gb)) (hd : dstOk n o.dst = true) (hr : Region.ready .any ops listed = [i]) (hm : maskOk ops i (pend.map (·.1)) mask = true)
    (h : OpJ P β E L o fun v L' => PendOk (applyMask mask pend) L' ∧ RunD P β n ops fuel (listed.setIfInBounds i true) (applyMask mask pend) (E.put o.dst v) L' K) : RunD P β n ops (fuel + 1) listed pend E L K := fun a w ha hs hp Q hnp hQ => by
  intro hc0
  refine ⟨?_, fun h0 => (by rw [hr] at h0; cases h0), fun j hj' => ?_⟩
  · intro p hpm
    simp only [Pend.w, List.mem_map] at hpm
    obtain ⟨q, hq, rfl⟩ := hpm
    exact hp q hq
  · rw [hr] at hj'
    obtain rfl : j = i := by simpa using hj'
    unfold wpOp
    rw [hi]
    have hw : Region.wanted o (yielded ops a.tmps) = true := by simp [Region.wanted, hg, yielded_of ha hj hb]
    simp only [hw, if_true]
    refine .inl (h a w ha.env hs _ _ fun v L' w' ⟨hpo, hK⟩ hs' => ?_)
    refine wpAnyS_sub _ _ _ _ _ _ ?_ (hK (a.put o.dst v) w' (ha.put (dstOk_spec hd) v) hs' (fun p hpm => hs'.gives (hpo p hpm)) Q hnp hQ)
    intro p hp
    rw [List.mem_filter] at hp
    obtain ⟨hp1, hp2⟩ := hp
    simp only [Pend.w, List.mem_map] at hp1 ⊢
    obtain ⟨q, hq, rfl⟩ := hp1
    exact ⟨q, maskOk_spec hm q hq (by simpa using hp2), rfl⟩
end
section
variable {P : Program} {β : Base} {n : Nat} {c : Code} {arr : Array Oper} {os : List Oper} {E : Env} {L L' : List HP} {Q : Po} {K : Env → List HP → Prop} {A B : HP}
theorem Run.imp (A B : HP) (u : Upd L A B L') (e : ∀ h, A h → B h) (h : Run P β n c E L' Q) : Run P β n c E L Q := fun a w ha hs => by
  obtain ⟨M, g1, g2⟩ := u.star
  exact h a w ha (Has.mono hs fun hp hh => g2 hp (star_mono e (fun _ => id) (g1 hp hh)))
theorem RunL.imp (A B : HP) (u : Upd L A B L') (e : ∀ h, A h → B h) (h : RunL P β n arr os E L' K) : RunL P β n arr os E L K := fun a w ha hs Q hQ => by
  obtain ⟨M, g1, g2⟩ := u.star
  exact h a w ha (Has.mono hs fun hp hh => g2 hp (star_mono e (fun _ => id) (g1 hp hh))) Q hQ
end
end Go.SL

namespace Go.SL
open Go
structure Ks where
  s : Sk
  la : Option Addr
  lc : Nat
  pa : Option Addr
  pc : Nat
def Ks.c (x : Ks) : List Value := [I x.s.qty, I x.s.value, I x.s.price, .slice x.la x.s.layers.length x.lc, .slice x.pa x.s.past.length x.pc]
structure Eg where
  k : Int
  ms : List Mv
  cs : List Co
  ord : List Int
  kp : List Ks
  last : Ks
abbrev EgC (g : Eg) (mo : Option Addr) (mc : Nat) (co : Option Addr) (cc : Nat) (oo : Option Addr) (oc : Nat) (ko : Option Addr) (kc : Nat) : List Value := [I g.k, .slice mo g.ms.length mc, .slice co g.cs.length cc, .slice oo g.ord.length oc, .slice ko g.kp.length kc,
  I g.last.s.qty, I g.last.s.value, I g.last.s.price, .slice g.last.la g.last.s.layers.length g.last.lc, .slice g.last.pa g.last.s.past.length g.last.pc]
def costAt (cs : List Co) (seq : Int) : Co × Bool := if 1 ≤ seq ∧ seq ≤ cs.length then (cs[(seq - 1).toNat]?.getD ⟨0, 0, 0, 0⟩, true) else (⟨0, 0, 0, 0⟩, false)
theorem costAt_no {cs : List Co} {seq : Int} (h : ¬ (1 ≤ seq ∧ seq ≤ cs.length)) : costAt cs seq = (⟨0, 0, 0, 0⟩, false) := if_neg h
theorem costAt_ok {cs : List Co} {i : Nat} {c : Co} (h : cs[i]? = some c) : costAt cs ((i : Int) + 1) = (c, true) := by
  have := (List.getElem?_eq_some_iff.1 h).1
  unfold costAt
  rw [if_pos (by omega), show ((i : Int) + 1 - 1).toNat = i by omega, h]; rfl
theorem mv1 : ∀ x, ∀ v ∈ Mv.c x, Value.oneCell' v = true := fun x => by simp [Mv.c, Value.oneCell']
theorem iv1 : ∀ x, ∀ v ∈ Iv x, Value.oneCell' v = true := fun x => by simp [Iv, Value.oneCell']
theorem co1 : ∀ x, ∀ v ∈ Co.c x, Value.oneCell' v = true := fun x => by simp [Co.c, Value.oneCell']
theorem ks1 : ∀ x, ∀ v ∈ Ks.c x, Value.oneCell' v = true := fun x => by simp [Ks.c, Value.oneCell']
def atW (f : Co → Int) (day : Int) (l : List (Mv × Co)) : Int := l.foldl (fun a x => if x.1.value ≤ day then IntKind.i64.wrap (a + f x.2) else a) 0
theorem take_one {α : Type} {l : List α} {i : Nat} {x : α} (h : l[i]? = some x) : l.take (i + 1) = l.take i ++ [x] := by rw [List.take_add_one, h]; rfl
theorem atW_in {f : Co → Int} {day : Int} {l : List (Mv × Co)} {i : Nat} {m : Mv} {c : Co} (h : l[i]? = some (m, c)) (hd : m.value ≤ day) : atW f day (l.take (i + 1)) = IntKind.i64.wrap (atW f day (l.take i) + f c) := by
  rw [take_one h]; simp only [atW, List.foldl_append, List.foldl_cons, List.foldl_nil]; rw [if_pos hd]
theorem atW_out {f : Co → Int} {day : Int} {l : List (Mv × Co)} {i : Nat} {m : Mv} {c : Co} (h : l[i]? = some (m, c)) (hd : ¬ m.value ≤ day) : atW f day (l.take (i + 1)) = atW f day (l.take i) := by
  rw [take_one h]; simp only [atW, List.foldl_append, List.foldl_cons, List.foldl_nil]; rw [if_neg hd]
theorem zip_get2 {α γ : Type} {xs : List α} {ys : List γ} {i : Nat} {x : α} {y : γ} (hx : xs[i]? = some x) (hy : ys[i]? = some y) : (xs.zip ys)[i]? = some (x, y) := by
  rw [List.getElem?_zip_eq_some]; exact ⟨hx, hy⟩
def dnB (ms : List Mv) (v : Int) (j : Int) : Bool := decide (v < ((ms[j.toNat]?).map Mv.value).getD 0)
theorem Mono.down {α : Type} {p : α → Bool} {o : List α} (hm : Mono p o) {h : Nat} {y : α} (hy : o[h]? = some y) (hp : p y = false) {k : Nat} {z : α} (hk : k ≤ h) (hz : o[k]? = some z) : p z = false := by
  cases hpz : p z with
  | false => rfl
  | true => rw [hm k h z y hk hz hy hpz] at hp; cases hp
section
variable {P : Program} {β : Base} {n : Nat} {arr : Array Oper} {os : List Oper} {E : Env} {L L' M F As : List HP} {K : Env → List HP → Prop}
theorem RunL.packs (As : List HP) (tk : Takes L As F) (h : RunL P β n arr os E (stars As :: F) K) : RunL P β n arr os E L K := RunL.mapL (L' := stars As :: F) (fun w hs => Has.mono hs fun _ hh => tk.star hh) h
end
theorem AC.one {P : Program} {f : FuncId} {args : Array Value} {As : List HP} {v : Value} (h : AC P f args (stars As) (Ret v As)) : AC P f args (stars [stars As]) (Ret v [stars As]) :=
  AC.mono h (fun h hh => by have := stars_mk (As := As) (M := []) hh; rwa [List.append_nil] at this) (fun r h hh => ⟨hh.1, stars_un (As := As) (M := []) (by rw [List.append_nil]; exact hh.2)⟩)
def cmpV (ms : List Mv) (v j : Int) : Int := if v < ((ms[j.toNat]?).map Mv.value).getD 0 then 1 else -1
theorem cmpV_dn (ms : List Mv) (v : Int) : (fun y => decide (0 ≤ cmpV ms v y)) = dnB ms v := by
  funext y; unfold cmpV dnB
  by_cases h : v < ((ms[y.toNat]?).map Mv.value).getD 0
  · rw [if_pos h]; simp [h]
  · rw [if_neg h]; simp [h]
theorem cmpV_at {ms : List Mv} {v : Int} {i : Nat} {m : Mv} (h : ms[i]? = some m) : cmpV ms v (i : Int) = if v < m.value then 1 else -1 := by
  unfold cmpV; rw [show ((i : Int)).toNat = i from rfl, h]; rfl
structure Aj where
  seq : Int
  value : Int
  var : Int
def Aj.c (x : Aj) : List Value := [I x.seq, I x.value, I x.var]
abbrev KV := Int × Co
def nowOf (kv : List KV) (i : Nat) : Option Co := (kAt (Prod.fst : KV → Int) (i : Int) kv).map fun q => q.2.2
def adjOne (kv : List KV) (i : Nat) (was : Co) : List Aj := match nowOf kv i with
  | none => []
  | some now => if now.value ≠ was.value ∨ now.var ≠ was.var then [⟨was.seq, IntKind.i64.wrap (now.value - was.value), IntKind.i64.wrap (now.var - was.var)⟩] else []
def adjL (kv : List KV) (cs : List Co) (n : Nat) : List Aj := ((cs.take n).zipIdx.map fun x => adjOne kv x.2 x.1).flatten
theorem adjL_succ {kv : List KV} {cs : List Co} {i : Nat} {c : Co} (h : cs[i]? = some c) : adjL kv cs (i + 1) = adjL kv cs i ++ adjOne kv i c := by
  have hl := (List.getElem?_eq_some_iff.1 h).1
  unfold adjL
  rw [take_one h, List.zipIdx_append]
  simp [List.length_take, Nat.min_eq_left (Nat.le_of_lt hl)]
abbrev KVf (x : KV) : Value := I x.1
abbrev KVg (x : KV) : Value := .agg ⟨x.2.c⟩
theorem adj_none {kv : List KV} {cs : List Co} {i : Nat} {c : Co} (h : cs[i]? = some c) (hk : kAt (Prod.fst : KV → Int) (i : Int) kv = none) : adjL kv cs (i + 1) = adjL kv cs i := by
  rw [adjL_succ h]; unfold adjOne nowOf; rw [hk]; simp
theorem adj_same {kv : List KV} {cs : List Co} {i : Nat} {c : Co} {q : Nat × KV} (h : cs[i]? = some c) (hk : kAt (Prod.fst : KV → Int) (i : Int) kv = some q) (h1 : ¬ (q.2.2.value ≠ c.value ∨ q.2.2.var ≠ c.var)) : adjL kv cs (i + 1) = adjL kv cs i := by
  rw [adjL_succ h]; unfold adjOne nowOf; rw [hk]; simp only [Option.map_some]; rw [if_neg h1]; simp
theorem adj_new {kv : List KV} {cs : List Co} {i : Nat} {c : Co} {q : Nat × KV} (h : cs[i]? = some c) (hk : kAt (Prod.fst : KV → Int) (i : Int) kv = some q) (h1 : q.2.2.value ≠ c.value ∨ q.2.2.var ≠ c.var) :
    adjL kv cs (i + 1) = adjL kv cs i ++ [⟨c.seq, IntKind.i64.wrap (q.2.2.value - c.value), IntKind.i64.wrap (q.2.2.var - c.var)⟩] := by
  rw [adjL_succ h]; unfold adjOne nowOf; rw [hk]; simp only [Option.map_some]; rw [if_pos h1]
theorem adjL_len {kv : List KV} {cs : List Co} (n : Nat) : (adjL kv cs n).length ≤ n := by
  induction n with
  | zero => simp [adjL]
  | succ n ih =>
    cases hx : cs[n]? with
    | none =>
      have : cs.length ≤ n := by rw [List.getElem?_eq_none_iff] at hx; exact hx
      have e : adjL kv cs (n + 1) = adjL kv cs n := by unfold adjL; rw [List.take_of_length_le (by omega), List.take_of_length_le this]
      rw [e]; omega
    | some c =>
      rw [adjL_succ hx, List.length_append]
      have : (adjOne kv n c).length ≤ 1 := by unfold adjOne; split; simp; split <;> simp
      omega
def encR (p : Int × Int) : Value := .agg ⟨[I p.1, I p.2]⟩
def tq (l : List Mv) (p : Int × Int) : Int := if refersB p.1 = true then backQ l p.1 p.2 else 0
theorem tq_app {l : List Mv} {m : Mv} (hr : refersB m.kind = true) : (fun p => if p = (m.kind, m.ref) then tq l (m.kind, m.ref) + m.qty else tq l p) = tq (l ++ [m]) := by
  funext p
  obtain ⟨a, b⟩ := p
  unfold tq
  by_cases e : (a, b) = (m.kind, m.ref)
  · rw [if_pos e]
    cases e
    simp only [hr, if_true, backQ_app, and_self]
  · rw [if_neg e]
    simp only [backQ_app]
    by_cases ha : refersB a = true
    · simp only [ha, if_true]
      rw [if_neg (fun ⟨h1, h2⟩ => e (by rw [h1, h2]))]; omega
    · simp [ha]
theorem tq_skip {l : List Mv} {m : Mv} (hr : ¬ refersB m.kind = true) : tq (l ++ [m]) = tq l := by
  funext p
  obtain ⟨a, b⟩ := p
  unfold tq
  by_cases ha : refersB a = true
  · simp only [ha, if_true, backQ_app]
    rw [if_neg (fun ⟨h1, _⟩ => hr (by rw [h1]; exact ha))]; omega
  · simp [ha]
theorem tq_nil : tq [] = fun _ => 0 := by funext p; unfold tq; simp [backQ]
theorem backQ_bound {l : List Mv} {k r : Int} (h : ∀ m ∈ l, 0 ≤ m.qty ∧ m.qty ≤ 1000000000) : 0 ≤ backQ l k r ∧ backQ l k r ≤ 1000000000 * l.length := by
  induction l with
  | nil => simp [backQ]
  | cons x l ih =>
    have h1 := h x (List.mem_cons_self ..)
    have h2 := ih fun m hm => h m (List.mem_cons_of_mem _ hm)
    simp only [backQ, List.length_cons]
    split <;> omega
theorem ref_28 {l : List Mv} {m : Mv} (h : (l.length : Int) < m.ref) : referM l m = 28 := if_pos h
theorem ref_x {l : List Mv} {m x : Mv} {i : Nat} (hi : m.ref = (i : Int) + 1) (hx : l[i]? = some x) : referM l m = if x.item ≠ m.item ∨ x.kind ≠ targK m.kind then 28 else if m.value < x.value then 17 else if x.qty < backQ l m.kind m.ref + m.qty then 21 else 0 := by
  have := (List.getElem?_eq_some_iff.1 hx).1
  unfold referM
  rw [if_neg (by omega), show (m.ref - 1).toNat = i by omega, hx]
theorem one_ref {m : Mv} (h : m.one = 0) (hr : refersB m.kind = true) : 1 ≤ m.ref := by
  unfold Mv.one at h
  split at h
  · cases h
  split at h
  · cases h
  split at h
  · cases h
  split at h
  · cases h
  split at h
  · cases h
  split at h
  · cases h
  · rename_i h6
    unfold Mv.refBad at h6
    simp [hr] at h6
    exact h6
theorem tq_at {l : List Mv} {m : Mv} (hr : refersB m.kind = true) : tq (l ++ [m]) (m.kind, m.ref) = backQ l m.kind m.ref + m.qty := by unfold tq; simp [hr, backQ_app]
def FineTo (ms : List Mv) (i : Nat) : Prop := ∀ (j : Nat) (m : Mv), j < i → ms[j]? = some m → m.seq = (j : Int) + 1 ∧ m.one = 0 ∧ (refersB m.kind = true → referM (ms.take j) m = 0)
def chkE (ms : List Mv) : Int := match chkM ms with | none => 0 | some p => p.2
theorem chkL_skip : ∀ (l1 done l2 : List Mv), (∀ (j : Nat) (m : Mv), l1[j]? = some m → m.seq = ((done.length + j : Nat) : Int) + 1 ∧ m.one = 0 ∧ (refersB m.kind = true → referM (done ++ l1.take j) m = 0)) → chkL done (l1 ++ l2) = chkL (done ++ l1) l2
  | [], done, l2, _ => by simp
  | x :: l1, done, l2, h => by
    have h0 := h 0 x rfl
    simp only [List.take_zero, List.append_nil] at h0
    simp only [List.cons_append, chkL]
    rw [if_neg (by rw [h0.1]; simp), if_neg (by simp [h0.2.1]), if_neg (fun ⟨a, b⟩ => b (h0.2.2 a))]
    rw [chkL_skip l1 (done ++ [x]) l2 fun j m hm => ?_]
    · simp
    · have := h (j + 1) m (by simpa using hm)
      simp only [List.take_succ_cons] at this
      simp only [List.length_append, List.length_cons, List.length_nil, List.append_assoc, List.singleton_append]
      exact ⟨by rw [this.1]; omega, this.2⟩
theorem chk_at {ms : List Mv} {i : Nat} {m : Mv} (hn : ms.length ≤ 2000) (hx : ms[i]? = some m) (hf : FineTo ms i) : chkM ms = chkL (ms.take i) (m :: ms.drop (i + 1)) := by
  have hi := (List.getElem?_eq_some_iff.1 hx).1
  have e : ms = ms.take i ++ (m :: ms.drop (i + 1)) := by
    have h1 := List.drop_eq_getElem_cons hi
    rw [(List.getElem?_eq_some_iff.1 hx).2] at h1
    rw [← h1, List.take_append_drop]
  have hs := chkL_skip (ms.take i) [] (m :: ms.drop (i + 1)) fun j y hy => by
    have hj : j < i := by have := (List.getElem?_eq_some_iff.1 hy).1; rw [List.length_take] at this; omega
    rw [List.getElem?_take_of_lt hj] at hy
    have := hf j y hj hy
    simp only [List.length_nil, Nat.zero_add, List.nil_append, List.take_take, Nat.min_eq_left (Nat.le_of_lt hj)]
    exact this
  unfold chkM
  rw [if_neg (by omega)]
  conv => lhs; rw [e]
  exact hs
theorem chk_seq {ms : List Mv} {i : Nat} {m : Mv} (hn : ms.length ≤ 2000) (hx : ms[i]? = some m) (hf : FineTo ms i) (h : m.seq ≠ (i : Int) + 1) : chkE ms = 17 := by
  have hi := (List.getElem?_eq_some_iff.1 hx).1
  unfold chkE; rw [chk_at hn hx hf, chkL, if_pos (by rw [List.length_take, Nat.min_eq_left (Nat.le_of_lt hi)]; exact h)]
theorem chk_one {ms : List Mv} {i : Nat} {m : Mv} (hn : ms.length ≤ 2000) (hx : ms[i]? = some m) (hf : FineTo ms i) (h : m.seq = (i : Int) + 1) (h1 : m.one ≠ 0) : chkE ms = m.one := by
  have hi := (List.getElem?_eq_some_iff.1 hx).1
  unfold chkE; rw [chk_at hn hx hf, chkL, if_neg (by rw [List.length_take, Nat.min_eq_left (Nat.le_of_lt hi)]; simp [h]), if_pos h1]
theorem chk_ref {ms : List Mv} {i : Nat} {m : Mv} (hn : ms.length ≤ 2000) (hx : ms[i]? = some m) (hf : FineTo ms i) (h : m.seq = (i : Int) + 1) (h1 : m.one = 0) (hr : refersB m.kind = true) (h2 : referM (ms.take i) m ≠ 0) : chkE ms = referM (ms.take i) m := by
  have hi := (List.getElem?_eq_some_iff.1 hx).1
  unfold chkE; rw [chk_at hn hx hf, chkL, if_neg (by rw [List.length_take, Nat.min_eq_left (Nat.le_of_lt hi)]; simp [h]), if_neg (by simp [h1]), if_pos ⟨hr, h2⟩]
theorem FineTo.next {ms : List Mv} {i : Nat} {m : Mv} (hf : FineTo ms i) (hx : ms[i]? = some m) (h : m.seq = (i : Int) + 1) (h1 : m.one = 0) (h2 : refersB m.kind = true → referM (ms.take i) m = 0) : FineTo ms (i + 1) := fun j y hj hy => by
  rcases Nat.lt_succ_iff_lt_or_eq.1 hj with h' | rfl
  · exact hf j y h' hy
  · rw [hx] at hy; cases hy; exact ⟨h, h1, h2⟩
theorem chk_none {ms : List Mv} (hn : ms.length ≤ 2000) (hf : FineTo ms ms.length) : chkE ms = 0 := by
  have : chkM ms = none := chkM_none.2 ⟨hn, fun i m hm => hf i m (List.getElem?_eq_some_iff.1 hm).1 hm⟩
  unfold chkE; rw [this]
theorem chk_many {ms : List Mv} (hn : 2000 < ms.length) : chkE ms = 9 := by unfold chkE chkM; rw [if_pos hn]
theorem FineTo.qty {ms : List Mv} {i : Nat} (hf : FineTo ms i) : ∀ m ∈ ms.take i, 0 ≤ m.qty ∧ m.qty ≤ 1000000000 := fun m hm => by
  obtain ⟨j, hj⟩ := List.getElem?_of_mem hm
  have hlt : j < i := by have := (List.getElem?_eq_some_iff.1 hj).1; rw [List.length_take] at this; omega
  rw [List.getElem?_take_of_lt hlt] at hj
  have hmg := MG.of (hf j m hlt hj).2.1
  have h1 := hmg.q.1; have h2 := hmg.q.2; have h3 := hmg.k
  omega
theorem tq_take_skip {ms : List Mv} {i : Nat} {m : Mv} (hx : ms[i]? = some m) (hr : ¬ refersB m.kind = true) : tq (ms.take i) = tq (ms.take (i + 1)) := by rw [take_one hx, tq_skip hr]
theorem RdS.inl {A B : HP} {oa : Option Addr} {cs : List Value} (h : RdS A oa cs) : RdS (star A B) oa cs := fun hp hr => by
  obtain ⟨h1, h2, hd, rfl, ha, hb⟩ := hr
  rcases h h1 ha with h0 | ⟨b, o, e, c, t, fr, hb1, hc⟩
  · exact .inl h0
  · exact .inr ⟨b, o, e, c, t, fr, by simp only [Hp.add, hb1], hc⟩
theorem RdS.inr {A B : HP} {oa : Option Addr} {cs : List Value} (h : RdS B oa cs) : RdS (star A B) oa cs := fun hp hr => by
  obtain ⟨h1, h2, hd, rfl, ha, hb⟩ := hr
  rcases h h2 hb with h0 | ⟨b, o, e, c, t, fr, hb1, hc⟩
  · exact .inl h0
  · refine .inr ⟨b, o, e, c, t, fr, ?_, hc⟩
    rcases hd b with h' | h'
    · simp only [Hp.add, h', hb1]
    · rw [hb1] at h'; cases h'
def KsR (KL KP : HP) (x : Ks) : Prop := RdS KL x.la (x.s.layers.flatMap Ly.c) ∧ RdS KP x.pa (x.s.past.flatMap Pa.c)
theorem KsR.more {KL KP A B : HP} {x : Ks} (h : KsR KL KP x) : KsR (star A KL) (star B KP) x := ⟨h.1.inr, h.2.inr⟩
def Before (k : Int) (st : Sk) (sm : List Mv) (n : Nat) (s : Sk) : Prop := ∃ cs, runL (stepM k) st (sm.take n) = .ok (s, cs)
structure RunH (g : Eg) (st : Sk) (ms sm : List Mv) (ord : List Int) (j0 : Nat) (KL KP : HP) : Prop where
  len : ord.length = sm.length
  n : sm.length ≤ 2000
  idx : ∀ (i : Nat) (y : Int), ord[i]? = some y → ∃ (q : Nat) (m : Mv), y = (q : Int) ∧ ms[q]? = some m ∧ sm[i]? = some m
  dis : ord.Nodup
  ok : ∀ m ∈ sm, m.ok
  fr : 16 * j0 ≤ sm.length
  kpn : j0 < g.kp.length ∧ g.kp.length ≤ 1000
  kp : ∀ (j : Nat) (x : Ks), j ≤ j0 → g.kp[j]? = some x → Before g.k st sm (16 * j) x.s ∧ KsR KL KP x
  st0 : st.ok 0
def kvOf (ord : List Int) (cs : List Co) (n : Nat) : List KV := (ord.zip cs).drop n
theorem kv_next {ord : List Int} {cs : List Co} {n : Nat} {y : Int} {c : Co} (hn : n ≤ cs.length) (hy : ord[cs.length]? = some y) : kvOf ord (cs ++ [c]) n = kvOf ord cs n ++ [(y, c)] := by
  have hl := (List.getElem?_eq_some_iff.1 hy).1
  have e : ord = ord.take cs.length ++ (y :: ord.drop (cs.length + 1)) := by
    have h1 := List.drop_eq_getElem_cons hl
    rw [(List.getElem?_eq_some_iff.1 hy).2] at h1
    rw [← h1, List.take_append_drop]
  have ht : (ord.take cs.length).length = cs.length := by rw [List.length_take]; omega
  have hz : ord.zip (cs ++ [c]) = ord.zip cs ++ [(y, c)] := by
    conv => lhs; rw [e]
    rw [List.zip_append ht]
    have h2 : ord.zip cs = (ord.take cs.length).zip cs := by
      apply List.ext_getElem?
      intro j
      by_cases hj : j < cs.length
      · have h3 : (ord.zip cs)[j]? = some (ord[j]'(by omega), cs[j]) := List.getElem?_zip_eq_some.2 ⟨List.getElem?_eq_getElem (by omega), List.getElem?_eq_getElem hj⟩
        have h4 : ((ord.take cs.length).zip cs)[j]? = some (ord[j]'(by omega), cs[j]) := List.getElem?_zip_eq_some.2 ⟨by rw [List.getElem?_take_of_lt hj]; exact List.getElem?_eq_getElem (by omega), List.getElem?_eq_getElem hj⟩
        rw [h3, h4]
      · rw [List.getElem?_eq_none (by rw [List.length_zip]; omega), List.getElem?_eq_none (by rw [List.length_zip]; omega)]
    rw [h2]; simp
  unfold kvOf
  rw [hz, List.drop_append_of_le_length (by rw [List.length_zip]; omega)]
theorem kv_push {ord : List Int} {cs : List Co} {n : Nat} {y : Int} {c : Co} (hd : ord.Nodup) (hy : ord[cs.length]? = some y) : kSet (Prod.fst : KV → Int) (y, c) (kvOf ord cs n) = kvOf ord cs n ++ [(y, c)] := by
  have : kAt (Prod.fst : KV → Int) y (kvOf ord cs n) = none := by
    refine kAt_no fun x hx => ?_
    have hx1 : x ∈ ord.zip cs := List.mem_of_mem_drop hx
    obtain ⟨j, hj⟩ := List.getElem?_of_mem hx1
    obtain ⟨a, b⟩ := x
    obtain ⟨h1, h2⟩ := List.getElem?_zip_eq_some.1 hj
    have hlt := (List.getElem?_eq_some_iff.1 h2).1
    intro e
    simp only at e
    subst e
    have hl1 := (List.getElem?_eq_some_iff.1 h1).1
    have := (List.getElem?_inj hl1 hd).1 (h1.trans hy.symm)
    omega
  unfold kSet; simp only [this]
def Grow (A B : HP) : Prop := ∀ oa cs, RdS A oa cs → RdS B oa cs
theorem KsR.grow {KL KP KL' KP' : HP} {x : Ks} (h : KsR KL KP x) (h1 : Grow KL KL') (h2 : Grow KP KP') : KsR KL' KP' x := ⟨h1 _ _ h.1, h2 _ _ h.2⟩
structure RunI (g : Eg) (st : Sk) (sm : List Mv) (j0 i : Nat) (KL0 KP0 KL KP : HP) (x : Ks) (kp : List Ks) (cs : List Co) : Prop where
  le : 16 * j0 + i ≤ sm.length
  cur : runL (stepM g.k) st (sm.take (16 * j0 + i)) = .ok (x.s, cs)
  cr : KsR KL KP x
  kl : kp.length = j0 + (i + 15) / 16
  kp : ∀ (j : Nat) (y : Ks), kp[j]? = some y → Before g.k st sm (16 * j) y.s ∧ KsR KL KP y
  gl : Grow KL0 KL
  gp : Grow KP0 KP
theorem kp_snoc {g : Eg} {st : Sk} {sm : List Mv} {j0 i : Nat} {KL0 KP0 KL KP : HP} {x : Ks} {kp : List Ks} {cs : List Co} (h : RunI g st sm j0 i KL0 KP0 KL KP x kp cs) (hm : (16 * j0 + i) % 16 = 0) : ∀ (j : Nat) (y : Ks), (kp ++ [x])[j]? = some y → Before g.k st sm (16 * j) y.s ∧ KsR KL KP y := fun j y hy => by
  by_cases hj : j < kp.length
  · rw [List.getElem?_append_left hj] at hy; exact h.kp j y hy
  · have hlt := (List.getElem?_eq_some_iff.1 hy).1
    rw [List.length_append, List.length_singleton] at hlt
    obtain rfl : j = kp.length := by omega
    rw [List.getElem?_append_right (Nat.le_refl _)] at hy
    simp at hy; subst hy
    have := h.kl
    refine ⟨?_, h.cr⟩
    rw [show 16 * kp.length = 16 * j0 + i by omega]
    exact ⟨cs, h.cur⟩
theorem RunI.next {g : Eg} {st : Sk} {sm : List Mv} {j0 i : Nat} {KL0 KP0 KL KP A B : HP} {x x' : Ks} {kp kp' : List Ks} {cs : List Co} {m : Mv} {c : Co} (h : RunI g st sm j0 i KL0 KP0 KL KP x kp cs) (hx : sm[16 * j0 + i]? = some m) (hst : stepM g.k x.s m = .ok (x'.s, c))
    (hA : RdS A x'.la (x'.s.layers.flatMap Ly.c)) (hB : RdS B x'.pa (x'.s.past.flatMap Pa.c)) (hk : (16 * j0 + i) % 16 = 0 ∧ kp' = kp ++ [x] ∨ (16 * j0 + i) % 16 ≠ 0 ∧ kp' = kp) : RunI g st sm j0 (i + 1) KL0 KP0 (star A KL) (star B KP) x' kp' (cs ++ [c]) := by
  have hl := (List.getElem?_eq_some_iff.1 hx).1
  have hkl := h.kl
  refine ⟨by omega, runL_snoc h.cur hx hst, ⟨hA.inl, hB.inl⟩, ?_, fun j y hy => ?_, fun oa cs hr => (h.gl oa cs hr).inr, fun oa cs hr => (h.gp oa cs hr).inr⟩
  · rcases hk with ⟨h1, rfl⟩ | ⟨h1, rfl⟩
    · rw [List.length_append, List.length_singleton]; omega
    · omega
  · rcases hk with ⟨h1, rfl⟩ | ⟨h1, rfl⟩
    · have := kp_snoc h h1 j y hy; exact ⟨this.1, this.2.more⟩
    · have := h.kp j y hy; exact ⟨this.1, this.2.more⟩
theorem RunI.start {g : Eg} {st : Sk} {ms sm : List Mv} {ord : List Int} {j0 : Nat} {KL KP : HP} {x : Ks} {cs : List Co} (H : RunH g st ms sm ord j0 KL KP) (hx : g.kp[j0]? = some x) (hb : runL (stepM g.k) st (sm.take (16 * j0)) = .ok (x.s, cs)) : RunI g st sm j0 0 KL KP KL KP x (g.kp.take j0) cs := by
  have hk := H.kpn
  refine ⟨H.fr, hb, (H.kp j0 x (Nat.le_refl _) hx).2, by rw [List.length_take]; omega, fun j y hy => ?_, fun _ _ h => h, fun _ _ h => h⟩
  have hj : j < j0 := by have := (List.getElem?_eq_some_iff.1 hy).1; rw [List.length_take] at this; omega
  rw [List.getElem?_take_of_lt hj] at hy
  exact H.kp j y (by omega) hy
structure RunF (g : Eg) (st : Sk) (sm : List Mv) (KL0 KP0 KL KP : HP) (x : Ks) (kp : List Ks) : Prop where
  kl : kp.length = sm.length / 16 + 1
  kp : ∀ (j : Nat) (y : Ks), kp[j]? = some y → Before g.k st sm (16 * j) y.s ∧ KsR KL KP y
  cr : KsR KL KP x
  gl : Grow KL0 KL
  gp : Grow KP0 KP
theorem RunI.fin {g : Eg} {st : Sk} {sm : List Mv} {j0 i : Nat} {KL0 KP0 KL KP : HP} {x : Ks} {kp kp' : List Ks} {cs : List Co} (h : RunI g st sm j0 i KL0 KP0 KL KP x kp cs) (hi : 16 * j0 + i = sm.length) (hk : sm.length % 16 = 0 ∧ kp' = kp ++ [x] ∨ sm.length % 16 ≠ 0 ∧ kp' = kp) : RunF g st sm KL0 KP0 KL KP x kp' := by
  have hkl := h.kl
  rcases hk with ⟨h1, rfl⟩ | ⟨h1, rfl⟩
  · exact ⟨by rw [List.length_append, List.length_singleton]; omega, kp_snoc h (by omega), h.cr, h.gl, h.gp⟩
  · exact ⟨by omega, h.kp, h.cr, h.gl, h.gp⟩
structure RunO where
  bm : Nat
  ka : Option Addr
  kc : Nat
  x : Ks
  kp : List Ks
  KL : HP
  KP : HP
def Z7 : List Value := [.map none, .slice none 0 0, I 0, I 0, I 0, .slice none 0 0, .slice none 0 0]
def runV (r : Except (Nat × Int) (Sk × List Co)) (o : RunO) : Value := match r with
  | .error p => .tuple ⟨[.agg ⟨Z7⟩, I p.2]⟩
  | .ok _ => .tuple ⟨[.agg ⟨[.map (some o.bm), .slice o.ka o.kp.length o.kc, I o.x.s.qty, I o.x.s.value, I o.x.s.price, .slice o.x.la o.x.s.layers.length o.x.lc, .slice o.x.pa o.x.s.past.length o.x.pc]⟩, I 0]⟩
def runP (g : Eg) (st : Sk) (sm : List Mv) (KL KP : HP) (o : RunO) : Prop := match runL (stepM g.k) st sm with
  | .error _ => Grow KL o.KL ∧ Grow KP o.KP
  | .ok (t, _) => o.x.s = t ∧ RunF g st sm KL KP o.KL o.KP o.x o.kp
def runBs (T : TypeId) (ord : List Int) (n : Nat) (r : Except (Nat × Int) (Sk × List Co)) (o : RunO) : List HP := match r with
  | .error _ => [o.KL, o.KP]
  | .ok (_, cs) => [amap o.bm KVf KVg (kvOf ord cs n), own T 5 o.ka o.kp.length o.kc (o.kp.flatMap Ks.c), o.KL, o.KP]
theorem kv_start {ord : List Int} {cs : List Co} {sm : List Mv} {n : Nat} (h : cs.length = (sm.take n).length) (hn : n ≤ sm.length) : kvOf ord cs n = [] := by
  rw [List.length_take, Nat.min_eq_left hn] at h
  unfold kvOf
  exact List.drop_eq_nil_of_le (by rw [List.length_zip]; omega)
def eg0 (k p : Int) : Eg := ⟨k, [], [], [], [⟨start0 k p, none, 0, none, 0⟩], ⟨start0 k p, none, 0, none, 0⟩⟩
end Go.SL

namespace Go.SL
open Go Go.Proofs Go.Shelf Go.Lib
theorem setCell_heap {w : World} {b o : Nat} {v : Value} {cs : Array Value} {t : TypeId} {fr : Nat × Nat} (hb : w.heap[b]? = some (.cells cs t fr)) : (w.setCell ⟨b, o, none⟩ v).heap = w.heap.setIfInBounds b (.cells (cs.setIfInBounds o v) t fr) := by
  have hlt := (Array.getElem?_eq_some_iff.1 hb).1
  apply Array.ext_getElem?
  intro j
  simp only [World.setCell, Array.getElem?_modify]
  by_cases hj : b = j
  · subst hj
    rw [if_pos rfl, hb, Array.getElem?_setIfInBounds_self_of_lt hlt]; rfl
  · rw [if_neg hj, Array.getElem?_setIfInBounds_ne hj]
theorem setCells_heap (b : Nat) : ∀ (vs : List Value) (o : Nat) (w : World) (cs : List Value) (t : TypeId) (fr : Nat × Nat), w.heap[b]? = some (.cells ⟨cs⟩ t fr) → o + vs.length ≤ cs.length →
    (w.setCells b o vs).heap = w.heap.setIfInBounds b (.cells ⟨cs.take o ++ vs ++ cs.drop (o + vs.length)⟩ t fr)
  | [], o, w, cs, t, fr, hb, h => by
    have hlt := (Array.getElem?_eq_some_iff.1 hb).1
    simp only [World.setCells, List.append_nil, List.length_nil, Nat.add_zero, List.take_append_drop]
    apply Array.ext_getElem?
    intro j
    by_cases hj : b = j
    · subst hj; rw [Array.getElem?_setIfInBounds_self_of_lt hlt, hb]
    · rw [Array.getElem?_setIfInBounds_ne hj]
  | v :: vs, o, w, cs, t, fr, hb, h => by
    have hlt := (Array.getElem?_eq_some_iff.1 hb).1
    simp only [List.length_cons] at h
    have h1 := setCell_heap (v := v) (o := o) hb
    have hb1 : (w.setCell ⟨b, o, none⟩ v).heap[b]? = some (.cells ⟨cs.set o v⟩ t fr) := by
      rw [h1, Array.getElem?_setIfInBounds_self_of_lt hlt]; simp
    have ih := setCells_heap b vs (o + 1) (w.setCell ⟨b, o, none⟩ v) (cs.set o v) t fr hb1 (by rw [List.length_set]; omega)
    rw [World.setCells, ih, h1]
    have e : (cs.set o v).take (o + 1) ++ vs ++ (cs.set o v).drop (o + 1 + vs.length) = cs.take o ++ (v :: vs) ++ cs.drop (o + (v :: vs).length) := by
      have e1 : (cs.set o v).take (o + 1) = cs.take o ++ [v] := by
        have hs : cs.set o v = cs.take o ++ v :: cs.drop (o + 1) := by rw [List.set_eq_take_append_cons_drop, if_pos (by omega)]
        rw [hs, List.take_append, List.take_of_length_le (by rw [List.length_take]; omega), List.length_take, Nat.min_eq_left (by omega)]
        simp
      have e2 : (cs.set o v).drop (o + 1 + vs.length) = cs.drop (o + (vs.length + 1)) := by
        rw [List.drop_set_of_lt (by omega), show o + 1 + vs.length = o + (vs.length + 1) by omega]
      rw [e1, e2]; simp
    rw [e]
    apply Array.ext_getElem?
    intro j
    by_cases hj : b = j
    · subst hj; rw [Array.getElem?_setIfInBounds_self_of_lt (by simpa using hlt), Array.getElem?_setIfInBounds_self_of_lt hlt]
    · rw [Array.getElem?_setIfInBounds_ne hj, Array.getElem?_setIfInBounds_ne hj, Array.getElem?_setIfInBounds_ne hj]
theorem setCells_rest (b : Nat) : ∀ (vs : List Value) (o : Nat) (w : World), (w.setCells b o vs).os = w.os ∧ (w.setCells b o vs).tape = w.tape ∧ (w.setCells b o vs).output = w.output
  | [], _, _ => ⟨rfl, rfl, rfl⟩
  | v :: vs, o, w => setCells_rest b vs (o + 1) (w.setCell ⟨b, o, none⟩ v)
theorem Has.setCells {β : Base} {A : HP} {w : World} {b o : Nat} {vs cs : List Value} {t : TypeId} (hs : Has β (star (pt b (blk cs t)) A) w) (h : o + vs.length ≤ cs.length) : Has β (star (pt b (blk (cs.take o ++ vs ++ cs.drop (o + vs.length)) t)) A) (w.setCells b o vs) := by
  have hb : w.heap[b]? = some (.cells ⟨cs⟩ t (0, 0)) := by
    obtain ⟨⟨hp, ⟨h1, h2, _, rfl, h1p, _⟩, hsub, _⟩, _⟩ := hs
    exact hsub b _ (by simp [Hp.add, h1p b, blk])
  have hr := setCells_rest b vs o w
  exact Has.setObj hs (setCells_heap b vs o w cs t (0, 0) hb h) hr.1 hr.2.1 hr.2.2
theorem ep' {A : HP} {h : Hp} (hs : A h) : star A emp h := ⟨h, fun _ => none, fun b => .inr rfl, by rw [Hp.add_none' (fun _ => rfl)], hs, fun _ => rfl⟩
theorem iv_len (os : List Int) : (os.flatMap Iv).length = os.length := by rw [flat_len (enc := Iv) (k := 1) (fun _ => rfl), Nat.mul_one]
theorem iv_take (os : List Int) (i : Nat) : (os.flatMap Iv).take i = (os.take i).flatMap Iv := by
  have : ∀ l : List Int, l.flatMap Iv = l.map fun n => I n := fun l => by induction l with | nil => rfl | cons x l ih => simp [Iv, ih]
  rw [this, this, List.map_take]
theorem iv_drop (os : List Int) (i : Nat) : (os.flatMap Iv).drop i = (os.drop i).flatMap Iv := by
  have : ∀ l : List Int, l.flatMap Iv = l.map fun n => I n := fun l => by induction l with | nil => rfl | cons x l ih => simp [Iv, ih]
  rw [this, this, List.map_drop]
theorem cell_blk {w : World} {b : Nat} {cs : List Value} {t : TypeId} (hb : w.heap[b]? = some (blk cs t)) {j : Nat} {u : Value} (hj : cs[j]? = some u) : w.cell? ⟨b, j, none⟩ = some u := by
  have hb' : w.heap[b]? = some (.cells ⟨cs⟩ t (0, 0)) := hb
  simp [World.cell?, hb', hj]
theorem frozen_blk {w : World} {b o : Nat} {cs : List Value} {t : TypeId} (hb : w.heap[b]? = some (blk cs t)) : w.frozen? ⟨b, o, none⟩ = false := by
  have hb' : w.heap[b]? = some (.cells ⟨cs⟩ t (0, 0)) := hb
  simp [World.frozen?, hb']
theorem Has.pt_heap {β : Base} {A : HP} {w : World} {b : Nat} {o : Obj} (hs : Has β (star (pt b o) A) w) : w.heap[b]? = some o := by
  obtain ⟨⟨hp, ⟨h1, h2, _, rfl, h1p, _⟩, hsub, _⟩, _⟩ := hs
  exact hsub b _ (by simp [Hp.add, h1p b])
def insN (os : List Int) (i : Nat) (v : Int) : List Int := os.take i ++ v :: os.drop i
theorem insN_len {os : List Int} {i : Nat} {v : Int} (hi : i ≤ os.length) : (insN os i v).length = os.length + 1 := by simp [insN]; omega
theorem insN_flat {os : List Int} {i : Nat} {v : Int} : (insN os i v).flatMap Iv = (os.flatMap Iv).take i ++ [I v] ++ (os.flatMap Iv).drop i := by rw [iv_take, iv_drop]; simp [insN, Iv]
theorem take_len {α : Type} {a b : List α} {n : Nat} (h : a.length = n) : (a ++ b).take n = a := by subst h; simp
theorem drop_len {α : Type} {a b : List α} {n : Nat} (h : a.length = n) : (a ++ b).drop n = b := by subst h; simp
theorem shift_row (cs junk : List Value) (i : Nat) (x : Value) (hi : i < cs.length) (R : List Value) : (((cs ++ junk).take (i + 1) ++ cs.drop i ++ R).take i ++ [x] ++ ((cs ++ junk).take (i + 1) ++ cs.drop i ++ R).drop (i + [x].length)).take (cs.length + 1) = cs.take i ++ [x] ++ cs.drop i := by
  have e1 : ((cs ++ junk).take (i + 1) ++ cs.drop i ++ R).take i = cs.take i := by
    rw [List.append_assoc, List.take_append_of_le_length (by rw [List.length_take, List.length_append]; omega), List.take_take, Nat.min_eq_left (by omega), List.take_append_of_le_length (by omega)]
  have e2 : ((cs ++ junk).take (i + 1) ++ cs.drop i ++ R).drop (i + [x].length) = cs.drop i ++ R := by
    rw [List.append_assoc]; exact drop_len (by rw [List.length_take, List.length_append, List.length_singleton]; omega)
  rw [e1, e2, ← List.append_assoc]
  exact take_len (by simp; omega)
theorem grow_row (A Z D R : List Value) (x : Value) (h : D.length + 1 ≤ Z.length) : ((((A ++ Z).take A.length ++ [x] ++ (A ++ Z).drop (A.length + [x].length)).take (A.length + 1) ++ D ++ R)).take (A.length + 1 + D.length) = A ++ [x] ++ D := by
  have e1 : ((A ++ Z).take A.length ++ [x] ++ (A ++ Z).drop (A.length + [x].length)).take (A.length + 1) = A ++ [x] := by
    rw [take_len rfl]; exact take_len (by simp)
  rw [e1]
  exact take_len (by simp; omega)
section
variable {P : Program} {ρ : Ren}
theorem ac_insert (L : Lays2.n21 P ρ) (oa : Option Addr) (cap : Nat) (os : List Int) (i : Nat) (v : Int) (vb : Nat) (hi : i ≤ os.length) (hlen : os.length ≤ 1000000) (hc63 : cap ≤ 9223372036854775807) :
    AC P (ρ.f 21) ⟨[.slice oa os.length cap, I (i : Int), .slice (some ⟨vb, 0, none⟩) 1 1]⟩ (stars [own (ρ.t 3) 1 oa os.length cap (os.flatMap Iv), pt vb (blk [I v] (ρ.t 3))])
      (Outs (fun x : Option Addr × Nat => x.2 ≤ 9223372036854775807) (fun x => .slice x.1 (os.length + 1) x.2) (fun x => [own (ρ.t 3) 1 x.1 (os.length + 1) x.2 ((insN os i v).flatMap Iv)])) := fun w h hA hsub => by
  have hs : Has ⟨w, h⟩ (stars [own (ρ.t 3) 1 oa os.length cap (os.flatMap Iv), pt vb (blk [I v] (ρ.t 3))]) w := ⟨⟨h, hA, hsub, fun b hb => .inl hb⟩, ⟨fun _ _ _ => rfl, Nat.le_refl _, rfl, rfl, rfl⟩⟩
  have hcl := iv_len os
  have hv := Has.pt_heap (b := vb) (o := blk [I v] (ρ.t 3)) (A := stars [own (ρ.t 3) 1 oa os.length cap (os.flatMap Iv)]) (hs.mono fun _ hh => star_left hh)
  have hvs : ∀ (j : Nat) (u : Value), [I v][j]? = some u → w.cell? ⟨vb, 0 + j, none⟩ = some u := fun j u hj => by rw [Nat.zero_add]; exact cell_blk hv hj
  have h1v : ∀ u ∈ [I v], u.oneCell' = true := fun u hu => by simp at hu; subst hu; rfl
  have h1c := flat_one iv1 os
  have fresh : ∀ (w0 w' : World) (row : List Value), Has ⟨w, h⟩ emp w0 → w0.heap.size = w.heap.size → ∀ G : Nat, w' = w0.alloc (blk row (ρ.t 3)) → row.take (os.length + 1) = (insN os i v).flatMap Iv → os.length + 1 ≤ G → G ≤ row.length →
      Has ⟨w, h⟩ (own (ρ.t 3) 1 (some ⟨w.heap.size, 0, none⟩) (os.length + 1) G ((insN os i v).flatMap Iv)) w' := fun w0 w' row h0 hz G hw hr hG hGr => by
    subst hw
    have h1 := Has.alloc h0 (blk row (ρ.t 3))
    rw [hz] at h1
    refine h1.mono fun hp hh => ?_
    obtain ⟨p1, p2, hd, rfl, hp1, hp2⟩ := hh
    rw [Hp.add_none' hp2]
    refine ⟨by rw [iv_len, insN_len hi, Nat.mul_one], hG, .inr ⟨_, row.drop (os.length + 1), rfl, ?_, ?_⟩⟩
    · rw [iv_len, insN_len hi, List.length_drop]; omega
    · rw [← hr, List.take_append_drop]; exact hp1
  have hem : Has ⟨w, h⟩ emp w := (hs.right.right : Has ⟨w, h⟩ (stars []) w)
  have hownh := hs.left
  have hbig : (os.length + 1) * 8 ≤ 140737488355328 := by omega
  have endgrow : i = os.length → cap < os.length + 1 → (∀ a, oa = some a → ∀ (j : Nat) (u : Value), (os.flatMap Iv)[j]? = some u → w.cell? (a.add j) = some u) → (oa = none → os.length = 0) → os.length ≤ cap → Calls P (ρ.f 21) ⟨[.slice oa os.length cap, I (i : Int), .slice (some ⟨vb, 0, none⟩) 1 1]⟩ w fun e w' => ∃ r, e = .returned r ∧ Has ⟨w, h⟩ (Outs (fun x : Option Addr × Nat => x.2 ≤ 9223372036854775807) (fun x => .slice x.1 (os.length + 1) x.2) (fun x => [own (ρ.t 3) 1 x.1 (os.length + 1) x.2 ((insN os i v).flatMap Iv)]) r) w' := fun hin hroom hcs hnil hnc => by
    have hcall := Any2.slices_Insert_int_end_grow L oa os.length cap vb 0 1 1 (os.flatMap Iv) [I v] w (by omega) hnc hroom hbig hcl rfl hnil hcs hvs h1v
    rw [← hin] at hcall
    refine (show Calls P (ρ.f 21) ⟨[.slice oa os.length cap, I (i : Int), .slice (some ⟨vb, 0, none⟩) 1 1]⟩ w _ from by rw [hin] at hcall ⊢; exact hcall).mono fun e w' he => ?_
    obtain ⟨he, hw'⟩ := he
    have hge := grownCap_ge w (os.length + 1) cap (ρ.t 3)
    have hle := grownCap_le_maxLen w (os.length + 1) cap (ρ.t 3) (by unfold maxLen; omega)
    refine ⟨_, he, Has.mono (fresh w.drew w' ((os.flatMap Iv) ++ [I v] ++ (Builtin.zeroCells (Value.int .i64 0).cells (grownCap w (os.length + 1) cap (ρ.t 3) - (os.length + 1))).toList) hem.drew rfl _ ?_ ?_ hge ?_) fun hp hh => ⟨(some ⟨w.heap.size, 0, none⟩, grownCap w (os.length + 1) cap (ρ.t 3)), ⟨hle, rfl⟩, ep' hh⟩⟩
    · rw [hw']
      congr 2
      apply Array.ext'
      simp
    · rw [insN_flat, hin, List.take_append_of_le_length (by simp [hcl]), List.take_of_length_le (by simp [hcl]), List.take_of_length_le (by omega), List.drop_eq_nil_of_le (by omega), List.append_nil]
    · have hz : (Builtin.zeroCells (Value.int .i64 0).cells (grownCap w (os.length + 1) cap (ρ.t 3) - (os.length + 1))).toList.length = (grownCap w (os.length + 1) cap (ρ.t 3) - (os.length + 1)) * 1 := by rw [Array.length_toList, size_zeroCells]; rfl
      rw [List.length_append, hz]; simp only [List.length_append, hcl, List.length_singleton]; omega
  have place : ∀ (A : HP) (b : Nat) (row : List Value) (w' : World) (G : Nat), Has ⟨w, h⟩ (star (pt b (blk row (ρ.t 3))) A) w' → row.take (os.length + 1) = (insN os i v).flatMap Iv → os.length + 1 ≤ G → G ≤ 9223372036854775807 → G ≤ row.length →
      Has ⟨w, h⟩ (Outs (fun x : Option Addr × Nat => x.2 ≤ 9223372036854775807) (fun x => .slice x.1 (os.length + 1) x.2) (fun x => [own (ρ.t 3) 1 x.1 (os.length + 1) x.2 ((insN os i v).flatMap Iv)]) (.slice (some ⟨b, 0, none⟩) (os.length + 1) G)) w' := fun A b row w' G hh hr hroom hG hcap =>
    hh.left.mono fun hp hpt => ⟨(some ⟨b, 0, none⟩, G), ⟨hG, rfl⟩, ep' ⟨by rw [iv_len, insN_len hi, Nat.mul_one], hroom, .inr ⟨b, row.drop (os.length + 1), rfl, by rw [iv_len, insN_len hi, List.length_drop]; omega, by rw [← hr, List.take_append_drop]; exact hpt⟩⟩⟩
  obtain ⟨⟨hp, ⟨p1, p2, hd, rfl, ⟨_, hnc, hcase⟩, hrest⟩, hsub1, hown1⟩, hr1⟩ := hs
  rcases hcase with ⟨hc0, he⟩ | ⟨b, junk, rfl, hjl, hpt⟩
  · exact endgrow (by omega) (by omega) (fun a _ j u hj => by have := (List.getElem?_eq_some_iff.1 hj).1; omega) (fun _ => by omega) hnc
  · have hsb : Has ⟨w, _⟩ (star (pt b (blk (os.flatMap Iv ++ junk) (ρ.t 3))) (stars [pt vb (blk [I v] (ρ.t 3))])) w := ⟨⟨_, ⟨p1, p2, hd, rfl, hpt, hrest⟩, hsub1, hown1⟩, hr1⟩
    have hb := hsb.pt_heap
    have hcs : ∀ (j : Nat) (u : Value), (os.flatMap Iv)[j]? = some u → w.cell? ⟨b, 0 + j, none⟩ = some u := fun j u hj => by
      rw [Nat.zero_add]; exact cell_blk hb (by rw [List.getElem?_append_left (List.getElem?_eq_some_iff.1 hj).1]; exact hj)
    have hcs2 : ∀ a, some (⟨b, 0, none⟩ : Addr) = some a → ∀ (j : Nat) (u : Value), (os.flatMap Iv)[j]? = some u → w.cell? (a.add j) = some u := fun a ha j u hj => by
      cases ha; rw [Addr.add_eq rfl]; exact hcs j u hj
    have hne : vb ≠ b := fun e => by
      subst e
      obtain ⟨q1, q2, hdq, hq, hq1, hq2⟩ := hrest
      have h1 : p1 vb = some (blk (os.flatMap Iv ++ junk) (ρ.t 3)) := by rw [hpt vb]; simp
      have h2 : p2 vb = some (blk [I v] (ρ.t 3)) := by rw [hq]; simp [Hp.add, hq1 vb]
      rcases hd vb with h' | h'
      · rw [h1] at h'; cases h'
      · rw [h2] at h'; cases h'
    rw [Nat.mul_one] at hjl
    have hjl2 : cap ≤ (os.flatMap Iv ++ junk).length := by rw [List.length_append]; exact hjl
    by_cases hroom : os.length + 1 ≤ cap
    · have hsp : ∀ j, j < cap → (w.cell? ⟨b, 0 + j, none⟩).isSome = true := fun j hj => by
        rw [Nat.zero_add, cell_blk hb (List.getElem?_eq_getElem (show j < (os.flatMap Iv ++ junk).length by omega))]; rfl
      by_cases hin : i = os.length
      · have hcall := Any2.slices_Insert_int_end_room L b 0 os.length cap vb 0 1 1 [I v] w (by omega) hroom hc63 rfl (fun j hj => by rw [Nat.zero_add]; have := hsp (os.length + j) (by omega); rwa [Nat.zero_add] at this) (fun j _ => frozen_blk hb) hvs h1v
        rw [show ((os.length : Nat) : Int) = (i : Int) by rw [hin]] at hcall
        refine hcall.mono fun e w' he => ?_
        obtain ⟨he, hw'⟩ := he
        subst hw'
        refine ⟨_, he, place _ b _ _ cap (Has.setCells hsb (by simp only [List.length_singleton]; omega)) ?_ hroom hc63 (by simp only [List.length_append, List.length_take, List.length_drop, List.length_singleton] at hjl2 ⊢; omega)⟩
        rw [insN_flat, hin, Nat.zero_add, List.take_append_of_le_length (by simp only [List.length_append, List.length_take, List.length_singleton]; omega), List.take_of_length_le (by simp only [List.length_append, List.length_take, List.length_singleton]; omega),
          List.take_append_of_le_length (by omega), List.take_of_length_le (by omega), List.drop_eq_nil_of_le (by omega), List.append_nil]
      · have hcall := Any2.slices_Insert_int_shift L b 0 os.length cap i vb 0 1 1 (os.flatMap Iv) [I v] w (by omega) (by omega) hroom hc63 hne hcl rfl hcs (fun j hj => hsp j (by omega)) (fun j _ => frozen_blk hb) hvs h1c h1v
          (ρ.t 3) (ρ.t 3) 1 (os.flatMap Iv ++ junk).length (by have : w.heap[vb]? = some (.cells ⟨[I v]⟩ (ρ.t 3) (0, 0)) := hv; simp [World.shape?, this]) (by have : w.heap[b]? = some (.cells ⟨os.flatMap Iv ++ junk⟩ (ρ.t 3) (0, 0)) := hb; simp [World.shape?, this]) (by omega) (frozen_blk hv) (frozen_blk hv)
        refine hcall.mono fun e w' he => ?_
        obtain ⟨he, hw'⟩ := he
        subst hw'
        have h1 := Has.setCells (o := 0 + (i + 1)) (vs := (os.flatMap Iv).drop i) hsb.drew (by rw [List.length_drop]; omega)
        have h2 := Has.setCells (o := 0 + i) (vs := [I v]) h1 (by simp only [List.length_append, List.length_take, List.length_drop, List.length_singleton] at hjl2 ⊢; omega)
        refine ⟨_, he, place _ b _ _ cap h2 ?_ hroom hc63 (by simp only [List.length_append, List.length_take, List.length_drop, List.length_singleton] at hjl2 ⊢; omega)⟩
        rw [insN_flat]
        simp only [Nat.zero_add]
        have hsr := shift_row (os.flatMap Iv) junk i (I v) (by omega) ((os.flatMap Iv ++ junk).drop (i + 1 + ((os.flatMap Iv).drop i).length))
        rw [hcl] at hsr
        exact hsr
    · by_cases hin : i = os.length
      · exact endgrow hin (by omega) hcs2 (fun e => by cases e) hnc
      · have hcall := Any2.slices_Insert_int_grow L b 0 os.length cap i vb 0 1 1 (os.flatMap Iv) [I v] w (by omega) (by omega) hnc (by omega) hbig hcl rfl hcs hvs h1c h1v
        refine hcall.mono fun e w' he => ?_
        obtain ⟨he, hw'⟩ := he
        subst hw'
        have hge := grownCap_ge w (os.length + 1) cap (ρ.t 3)
        have hle := grownCap_le_maxLen w (os.length + 1) cap (ρ.t 3) (by unfold maxLen; omega)
        obtain ⟨G, hG⟩ : ∃ G, G = grownCap w (os.length + 1) cap (ρ.t 3) := ⟨_, rfl⟩
        rw [← hG] at hge hle he ⊢
        obtain ⟨Z, hZ, hZl⟩ : ∃ Z : List Value, ((os.flatMap Iv).take i).toArray ++ Builtin.zeroCells (Value.int .i64 0).cells (os.length + 1 - i) ++ Builtin.zeroCells (Value.int .i64 0).cells (G - (os.length + 1)) = ⟨(os.flatMap Iv).take i ++ Z⟩ ∧ Z.length = G - i := by
          refine ⟨(Builtin.zeroCells (Value.int .i64 0).cells (os.length + 1 - i)).toList ++ (Builtin.zeroCells (Value.int .i64 0).cells (G - (os.length + 1))).toList, by apply Array.ext'; simp, ?_⟩
          have z1 : (Builtin.zeroCells (Value.int .i64 0).cells (os.length + 1 - i)).toList.length = (os.length + 1 - i) * 1 := by rw [Array.length_toList, size_zeroCells]; rfl
          have z2 : (Builtin.zeroCells (Value.int .i64 0).cells (G - (os.length + 1))).toList.length = (G - (os.length + 1)) * 1 := by rw [Array.length_toList, size_zeroCells]; rfl
          rw [List.length_append, z1, z2]; omega
        rw [hZ]
        have hAl : ((os.flatMap Iv).take i).length = i := by rw [List.length_take]; omega
        have h0 := Has.alloc hem (blk ((os.flatMap Iv).take i ++ Z) (ρ.t 3))
        have h1 := Has.setCells (o := i) (vs := [I v]) h0.drew (by simp only [List.length_append, List.length_singleton, hAl, hZl]; omega)
        have h2 := Has.setCells (o := i + 1) (vs := (os.flatMap Iv).drop i) h1.drew (by simp only [List.length_append, List.length_take, List.length_drop, List.length_singleton, hAl, hZl] at *; omega)
        refine ⟨_, he, place _ _ _ _ G h2 ?_ hge hle ?_⟩
        · rw [insN_flat]
          have hd : i + 1 + ((os.flatMap Iv).drop i).length = os.length + 1 := by rw [List.length_drop, hcl]; omega
          have hg : ∀ R : List Value, ((((((os.flatMap Iv).take i ++ Z).take i ++ [I v] ++ ((os.flatMap Iv).take i ++ Z).drop (i + [I v].length)).take (i + 1) ++ (os.flatMap Iv).drop i ++ R)).take (os.length + 1)) = (os.flatMap Iv).take i ++ [I v] ++ (os.flatMap Iv).drop i := fun R => by
            have h5 := grow_row ((os.flatMap Iv).take i) Z ((os.flatMap Iv).drop i) R (I v) (by rw [List.length_drop, hZl]; omega)
            rw [hAl, hd] at h5
            exact h5
          exact hg _
        · simp only [List.length_append, List.length_take, List.length_drop, List.length_singleton, hZl] at *; omega
end
end Go.SL

namespace Go.SL
open Go
section
variable {P : Program} {β : Base} {E : Env} {L L' M M' : List HP} {K : Value → List HP → Prop} {d : Option Tmp} {ty : TypeId} {pos : String} {af : Array Edge} {g : Option (Nat × Bool)} {x y : Operand} {t t' : TypeId} {e : TypeId} {k i : Nat} {α : Type} {enc : α → List Value}
def cutA (k : Nat) (oa : Option Addr) (c i : Nat) : Option Addr := oa.map fun a => if c = i then a else a.add (i * k)
theorem DetJ.sliceLoA {oa : Option Addr} {l c : Nat} {oh : Operand} (S : SI P t e k) (hx : E.ev x = some (.slice oa l c)) (hh : E.ev oh = some (.int .i64 (i : Int))) (hi : i ≤ l) :
    DetJ P β E L ⟨d, .slice t x (some oh) none none, ty, pos, af, g⟩ (.slice (cutA k oa c i) (l - i) (c - i)) :=
  fun a w ha _ => by
    simp only [execOp, Option.map_none, Option.map_some, ha.ev hx, ha.ev hh, Instr.sliceAt, Instr.slice]
    simp [run_underlying S.under, Instr.sliceBounds, Instr.sliceBound, asIntOf, hi, S.run_size, cutA]
    cases oa with
    | none => simp
    | some a => simp; split <;> rfl
theorem RdS.cut {R : HP} {oa : Option Addr} {c : Nat} {xs : List α} (hr : RdS R oa (xs.flatMap enc)) (hk : ∀ x, (enc x).length = k) (i : Nat) (hi : xs.length ≤ c) : RdS R (cutA k oa c i) ((xs.drop i).flatMap enc) := fun h hh => by
  by_cases hic : c = i
  · left; rw [List.drop_of_length_le (by omega)]; rfl
  · rcases hr h hh with h0 | ⟨b', o, rfl, cs, t, fr, hb, hc⟩
    · left; rw [flat_drop hk, h0]; simp
    · right
      refine ⟨b', o + i * k, ?_, cs, t, fr, hb, fun j v hj => ?_⟩
      · simp only [cutA, Option.map_some, if_neg hic, Addr.add_eq]
      · rw [flat_drop hk, List.getElem?_drop] at hj
        rw [Nat.add_assoc]; exact hc _ _ hj
theorem RdS.lo {R : HP} {oa : Option Addr} {xs : List α} (hr : RdS R oa (xs.flatMap enc)) (hk : ∀ x, (enc x).length = k) (i : Nat) : RdS R oa ((xs.take i).flatMap enc) := fun h hh => by
  rcases hr h hh with h0 | ⟨b, o, e, c, t, fr, hb, hc⟩
  · left; rw [flat_take hk, h0]; simp
  · right; refine ⟨b, o, e, c, t, fr, hb, fun j v hj => hc j v ?_⟩
    rw [flat_take hk, List.getElem?_take] at hj
    split at hj
    · exact hj
    · cases hj
end
end Go.SL
namespace Go.SL
open Go
theorem RunL.ownCap {P : Program} {β : Base} {n : Nat} {arr : Array Oper} {os : List Oper} {E : Env} {L M : List HP} {K : Env → List HP → Prop} {T : TypeId} {k m cap : Nat} {oa : Option Addr} {cs : List Value} (p : Pick L (own T k oa m cap cs) M) (h : m ≤ cap → RunL P β n arr os E L K) : RunL P β n arr os E L K := fun a w ha hs Q hQ => by
  have hs1 : Has β (star (own T k oa m cap cs) (stars M)) w := Has.mono hs fun _ => p.star
  obtain ⟨⟨hp, ⟨ha1, hb1, hd, rfl, ⟨hl1, hc1, ho⟩, hM⟩, _⟩, _⟩ := hs1
  exact h hc1 a w ha hs Q hQ
end Go.SL
namespace Go.SL
open Go
section
variable {P : Program} {β : Base} {nn : Nat} {ops : Array Oper} {fuel : Nat} {listed : Array Bool} {pend : Pend} {E : Env} {L M : List HP} {K : Env → List HP → Prop}
theorem RunD.takeGA (i : Nat) {m jg : Nat} {gb : Bool} {gd : Tmp} {ad : Addr} {R : HP} {vs : List Value} {x : Operand} {t : TypeId} {d : Option Tmp} {ty : TypeId} {pos : String} {af : Array Edge} (hi : ops[i]? = some ⟨d, .load t x, ty, pos, af, some (jg, gb)⟩) (hj : (ops[jg]?).bind (·.dst) = some gd) (hgb : E.get gd = some (.bool gb)) (hd : dstOk nn d = true)
    (hchk : (Region.noSelect ops && Region.free .any ops listed i && (Region.ready .any ops listed).contains i) = true) (T : TI P t true m) (hx : E.ev x = some (.pointer (some ad))) (p : Pick L R M) (hr : Rd R ad vs) (hn : vs.length = m)
    (h : RunD P β nn ops fuel (listed.setIfInBounds i true) ((i, [R]) :: pend) (E.put d (.agg ⟨vs⟩)) L K) : RunD P β nn ops (fuel + 1) listed pend E L K :=
  RunD.takeG (Ls := [R]) i hi rfl hj hgb hd hchk (DetJ.loadA T hx .here hr hn) (.cons p .nil) h
theorem RunD.takeGW (i : Nat) {m b jg : Nat} {gb : Bool} {gd : Tmp} {cs : List Value} {bt : TypeId} {x : Operand} {t : TypeId} {d : Option Tmp} {ty : TypeId} {pos : String} {af : Array Edge} (hi : ops[i]? = some ⟨d, .load t x, ty, pos, af, some (jg, gb)⟩) (hj : (ops[jg]?).bind (·.dst) = some gd) (hgb : E.get gd = some (.bool gb)) (hd : dstOk nn d = true)
    (hchk : (Region.noSelect ops && Region.free .any ops listed i && (Region.ready .any ops listed).contains i) = true) (T : TI P t true m) (hx : E.ev x = some (.pointer (some ⟨b, 0, none⟩))) (p : Pick L (pt b (blk cs bt)) M) (hn : cs.length = m)
    (h : RunD P β nn ops fuel (listed.setIfInBounds i true) ((i, [pt b (blk cs bt)]) :: pend) (E.put d (.agg ⟨cs⟩)) L K) : RunD P β nn ops (fuel + 1) listed pend E L K :=
  RunD.takeGA i hi hj hgb hd hchk T hx p Rd.whole hn h
theorem RunD.takeGE {α : Type} {enc : α → List Value} {e : TypeId} {k b n cap : Nat} {xs : List α} {u : α} (i : Nat) {ie m jg : Nat} {gb : Bool} {gd : Tmp} {x : Operand} {t : TypeId} {d : Option Tmp} {ty : TypeId} {pos : String} {af : Array Edge} (hi : ops[i]? = some ⟨d, .load t x, ty, pos, af, some (jg, gb)⟩) (hj : (ops[jg]?).bind (·.dst) = some gd) (hgb : E.get gd = some (.bool gb)) (hd : dstOk nn d = true)
    (hchk : (Region.noSelect ops && Region.free .any ops listed i && (Region.ready .any ops listed).contains i) = true) (T : TI P t true m) (hx : E.ev x = some (.pointer (some ⟨b, 0 + ie * k, none⟩))) (p : Pick L (own e k (some ⟨b, 0, none⟩) n cap (xs.flatMap enc)) M) (hu : xs[ie]? = some u) (hk : ∀ x, (enc x).length = k) (hm : m = k) (h0 : 0 < k)
    (h : RunD P β nn ops fuel (listed.setIfInBounds i true) ((i, [own e k (some ⟨b, 0, none⟩) n cap (xs.flatMap enc)]) :: pend) (E.put d (.agg ⟨enc u⟩)) L K) : RunD P β nn ops (fuel + 1) listed pend E L K :=
  RunD.takeGA i hi hj hgb hd hchk T hx p (own.el hu h0 hk) ((hk u).trans hm.symm) h
end
end Go.SL
namespace Go.SL
open Go
theorem RunD.takeGR1 {P : Program} {β : Base} {nn : Nat} {ops : Array Oper} {fuel : Nat} {listed : Array Bool} {pend : Pend} {E : Env} {L M : List HP} {K : Env → List HP → Prop} (i : Nat) {m jg : Nat} {gb : Bool} {gd : Tmp} {ad : Addr} {R : HP} {v : Value} {x : Operand} {t : TypeId} {d : Option Tmp} {ty : TypeId} {pos : String} {af : Array Edge} (hi : ops[i]? = some ⟨d, .load t x, ty, pos, af, some (jg, gb)⟩) (hj : (ops[jg]?).bind (·.dst) = some gd) (hgb : E.get gd = some (.bool gb)) (hd : dstOk nn d = true)
    (hchk : (Region.noSelect ops && Region.free .any ops listed i && (Region.ready .any ops listed).contains i) = true) (T : TI P t false m) (hx : E.ev x = some (.pointer (some ad))) (p : Pick L R M) (hr : Rd R ad [v])
    (h : RunD P β nn ops fuel (listed.setIfInBounds i true) ((i, [R]) :: pend) (E.put d v) L K) : RunD P β nn ops (fuel + 1) listed pend E L K :=
  RunD.takeG (Ls := [R]) i hi rfl hj hgb hd hchk (DetJ.load1 T hx .here hr) (.cons p .nil) h
end Go.SL

namespace Go.SL
open Go
class BP (b : Bool) (p q : outParam Prop) : Prop where
  t : b = true → p
  f : b = false → q
instance (priority := high) BP.dec {p : Prop} [Decidable p] : BP (decide p) p (¬ p) := ⟨of_decide_eq_true, of_decide_eq_false⟩
instance (priority := low) BP.any {b : Bool} : BP b (b = true) (b = false) := ⟨id, id⟩
structure Dts (P : Program) (β : Base) (n : Nat) (ops : Array Oper) (fuel : Nat) (listed : Array Bool) (pend : Pend) (is : List Nat) (E : Env) (L : List HP) (K : Env → List HP → Prop) : Prop where
  of : RunD P β n ops fuel listed pend E L K
section
variable {P : Program} {β : Base} {n i : Nat} {ops : Array Oper} {fuel : Nat} {listed : Array Bool} {pend : Pend} {is : List Nat} {E : Env} {L M : List HP} {H : Env → List HP → Prop} {v : Value}
theorem DetJ.pickXT {c x y : Operand} {u v : Value} {d : Option Tmp} {ty : TypeId} {pos : String} {af : Array Edge} {g : Option (Nat × Bool)} (hc : E.ev c = some u) (hu : u = .bool true) (hx : E.ev x = some v) : DetJ P β E L ⟨d, .pick c x y, ty, pos, af, g⟩ v := DetJ.pickT (hu ▸ hc) hx
theorem DetJ.pickXF {c x y : Operand} {u v : Value} {d : Option Tmp} {ty : TypeId} {pos : String} {af : Array Edge} {g : Option (Nat × Bool)} (hc : E.ev c = some u) (hu : u = .bool false) (hy : E.ev y = some v) : DetJ P β E L ⟨d, .pick c x y, ty, pos, af, g⟩ v := DetJ.pickF (hu ▸ hc) hy
theorem DetJ.notXT {x : Operand} {u : Value} {t : TypeId} {d : Option Tmp} {ty : TypeId} {pos : String} {af : Array Edge} {g : Option (Nat × Bool)} (hx : E.ev x = some u) (hu : u = .bool true) : DetJ P β E L ⟨d, .unOp .not t x, ty, pos, af, g⟩ (.bool false) := DetJ.not (b := true) (hu ▸ hx)
theorem DetJ.notXF {x : Operand} {u : Value} {t : TypeId} {d : Option Tmp} {ty : TypeId} {pos : String} {af : Array Edge} {g : Option (Nat × Bool)} (hx : E.ev x = some u) (hu : u = .bool false) : DetJ P β E L ⟨d, .unOp .not t x, ty, pos, af, g⟩ (.bool true) := DetJ.not (b := false) (hu ▸ hx)
theorem Dts.done (h : RunD P β n ops fuel listed pend E L H) : Dts P β n ops fuel listed pend [] E L H := ⟨h⟩
theorem Dts.det {o : Oper} (hi : ops[i]? = some o) (hg : o.guard = none) (hd : dstOk n o.dst = true) (hc : (Region.noSelect ops && Region.free .any ops listed i && (Region.ready .any ops listed).contains i) = true) (h : ∃ v, DetJ P β E [] o v ∧ Dts P β n ops fuel (listed.setIfInBounds i true) ((i, []) :: pend) is (E.put o.dst v) L H) :
    Dts P β n ops (fuel + 1) listed pend (i :: is) E L H := ⟨let ⟨_, hy, h⟩ := h; RunD.take i hi hg hd hc hy .nil h.of⟩
theorem Dts.yes {o : Oper} {jg : Nat} {gb : Bool} {gd : Tmp} {u : Value} (hi : ops[i]? = some o) (hg : o.guard = some (jg, gb)) (hj : (ops[jg]?).bind (·.dst) = some gd) (hu0 : E.get gd = some u) (hu : u = .bool gb) (hd : dstOk n o.dst = true) (hc : (Region.noSelect ops && Region.free .any ops listed i && (Region.ready .any ops listed).contains i) = true) (h : ∃ v, DetJ P β E [] o v ∧ Dts P β n ops fuel (listed.setIfInBounds i true) ((i, []) :: pend) is (E.put o.dst v) L H) :
    Dts P β n ops (fuel + 1) listed pend (i :: is) E L H := ⟨let ⟨_, hy, h⟩ := h; RunD.takeG i hi hg hj (by rw [hu0, hu]) hd hc hy .nil h.of⟩
theorem Dts.noT {o : Oper} {jg : Nat} {gd : Tmp} {u : Value} (hi : ops[i]? = some o) (hg : o.guard = some (jg, true)) (hj : (ops[jg]?).bind (·.dst) = some gd) (hu0 : E.get gd = some u) (hu : u = .bool false) (hd : dstOk n o.dst = true) (hc : (Region.noSelect ops && Region.free .any ops listed i && (Region.ready .any ops listed).contains i) = true)
    (h : Dts P β n ops fuel (listed.setIfInBounds i true) ((i, []) :: pend) is (E.put o.dst undef) L H) : Dts P β n ops (fuel + 1) listed pend (i :: is) E L H := ⟨RunD.takeN i hi hg hj (by rw [hu0, hu]; rfl) hd hc h.of⟩
theorem Dts.noF {o : Oper} {jg : Nat} {gd : Tmp} {u : Value} (hi : ops[i]? = some o) (hg : o.guard = some (jg, false)) (hj : (ops[jg]?).bind (·.dst) = some gd) (hu0 : E.get gd = some u) (hu : u = .bool true) (hd : dstOk n o.dst = true) (hc : (Region.noSelect ops && Region.free .any ops listed i && (Region.ready .any ops listed).contains i) = true)
    (h : Dts P β n ops fuel (listed.setIfInBounds i true) ((i, []) :: pend) is (E.put o.dst undef) L H) : Dts P β n ops (fuel + 1) listed pend (i :: is) E L H := ⟨RunD.takeN i hi hg hj (by rw [hu0, hu]; rfl) hd hc h.of⟩
theorem Dts.U {o : Oper} {jg : Nat} {b : Bool} {gd : Tmp} {u : Value} (hi : ops[i]? = some o) (hg : o.guard = some (jg, b)) (hj : (ops[jg]?).bind (·.dst) = some gd) (hu0 : E.get gd = some u) (hu : u = Go.undef) (hd : dstOk n o.dst = true) (hc : (Region.noSelect ops && Region.free .any ops listed i && (Region.ready .any ops listed).contains i) = true)
    (h : Dts P β n ops fuel (listed.setIfInBounds i true) ((i, []) :: pend) is (E.put o.dst undef) L H) : Dts P β n ops (fuel + 1) listed pend (i :: is) E L H := ⟨RunD.takeU i hi hg hj (by rw [hu0, hu]) hd h.of hc⟩
theorem Dts.F {b off : Nat} {cs : List Value} {bt : TypeId} {m : Nat} {x : Operand} {t : TypeId} {d : Option Tmp} {ty : TypeId} {pos : String} {af : Array Edge} (hi : ops[i]? = some ⟨d, .load t x, ty, pos, af, none⟩) (hd : dstOk n d = true) (hc : (Region.noSelect ops && Region.free .any ops listed i && (Region.ready .any ops listed).contains i) = true) (T : TI P t false m) (hx : E.ev x = some (.pointer (some ⟨b, off, none⟩))) (p : Pick L (pt b (blk cs bt)) M) (hv : cs[off]? = some v)
    (h : Dts P β n ops fuel (listed.setIfInBounds i true) ((i, [pt b (blk cs bt)]) :: pend) is (E.put d v) L H) : Dts P β n ops (fuel + 1) listed pend (i :: is) E L H := ⟨RunD.takeF i hi hd hc T hx p hv h.of⟩
theorem Dts.O {α : Type} {enc : α → List Value} {e : TypeId} {ie k b j nn cap : Nat} {xs : List α} {u : α} {m : Nat} {x : Operand} {t : TypeId} {d : Option Tmp} {ty : TypeId} {pos : String} {af : Array Edge} (hi : ops[i]? = some ⟨d, .load t x, ty, pos, af, none⟩) (hd : dstOk n d = true) (hc : (Region.noSelect ops && Region.free .any ops listed i && (Region.ready .any ops listed).contains i) = true) (T : TI P t false m) (hx : E.ev x = some (.pointer (some ⟨b, 0 + ie * k + j, none⟩))) (p : Pick L (own e k (some ⟨b, 0, none⟩) nn cap (xs.flatMap enc)) M) (hu : xs[ie]? = some u) (hv : (enc u)[j]? = some v) (hk : ∀ x, (enc x).length = k)
    (h : Dts P β n ops fuel (listed.setIfInBounds i true) ((i, [own e k (some ⟨b, 0, none⟩) nn cap (xs.flatMap enc)]) :: pend) is (E.put d v) L H) : Dts P β n ops (fuel + 1) listed pend (i :: is) E L H := ⟨RunD.takeO i hi hd hc T hx p hu hv hk h.of⟩
theorem Dts.W {b : Nat} {cs : List Value} {bt : TypeId} {m : Nat} {x : Operand} {t : TypeId} {d : Option Tmp} {ty : TypeId} {pos : String} {af : Array Edge} (hi : ops[i]? = some ⟨d, .load t x, ty, pos, af, none⟩) (hd : dstOk n d = true) (hc : (Region.noSelect ops && Region.free .any ops listed i && (Region.ready .any ops listed).contains i) = true) (T : TI P t true m) (hx : E.ev x = some (.pointer (some ⟨b, 0, none⟩))) (p : Pick L (pt b (blk cs bt)) M) (hn : cs.length = m)
    (h : Dts P β n ops fuel (listed.setIfInBounds i true) ((i, [pt b (blk cs bt)]) :: pend) is (E.put d (.agg ⟨cs⟩)) L H) : Dts P β n ops (fuel + 1) listed pend (i :: is) E L H := ⟨RunD.takeW i hi hd hc T hx p hn h.of⟩
theorem Dts.PP {b off : Nat} {cs : List Value} {bt : TypeId} {m : Nat} {x : Operand} {t : TypeId} {d : Option Tmp} {ty : TypeId} {pos : String} {af : Array Edge} (hi : ops[i]? = some ⟨d, .load t x, ty, pos, af, none⟩) (hd : dstOk n d = true) (hc : (Region.noSelect ops && Region.free .any ops listed i && (Region.ready .any ops listed).contains i) = true) (T : TI P t true m) (hx : E.ev x = some (.pointer (some ⟨b, off, none⟩))) (p : Pick L (pt b (blk cs bt)) M) (hn : off + m ≤ cs.length)
    (h : Dts P β n ops fuel (listed.setIfInBounds i true) ((i, [pt b (blk cs bt)]) :: pend) is (E.put d (.agg ⟨(cs.drop off).take m⟩)) L H) : Dts P β n ops (fuel + 1) listed pend (i :: is) E L H := ⟨RunD.takeP i hi hd hc T hx p hn h.of⟩
theorem Dts.EE {α : Type} {enc : α → List Value} {e : TypeId} {k b nn cap ie : Nat} {xs : List α} {u : α} {m : Nat} {x : Operand} {t : TypeId} {d : Option Tmp} {ty : TypeId} {pos : String} {af : Array Edge} (hi : ops[i]? = some ⟨d, .load t x, ty, pos, af, none⟩) (hd : dstOk n d = true) (hc : (Region.noSelect ops && Region.free .any ops listed i && (Region.ready .any ops listed).contains i) = true) (T : TI P t true m) (hx : E.ev x = some (.pointer (some ⟨b, 0 + ie * k, none⟩))) (p : Pick L (own e k (some ⟨b, 0, none⟩) nn cap (xs.flatMap enc)) M) (hu : xs[ie]? = some u) (hk : ∀ x, (enc x).length = k) (hm : m = k) (h0 : 0 < k)
    (h : Dts P β n ops fuel (listed.setIfInBounds i true) ((i, [own e k (some ⟨b, 0, none⟩) nn cap (xs.flatMap enc)]) :: pend) is (E.put d (.agg ⟨enc u⟩)) L H) : Dts P β n ops (fuel + 1) listed pend (i :: is) E L H := ⟨RunD.takeE i hi hd hc T hx p hu hk hm h0 h.of⟩
theorem Dts.B {zs cs : List Value} {places : List (Nat × Nat)} {xs : List (Nat × Operand)} {ps : List (Nat × Value)} {t : TypeId} {d : Option Tmp} {ty : TypeId} {pos : String} {af : Array Edge} (hi : ops[i]? = some ⟨d, .build t ⟨xs⟩, ty, pos, af, none⟩) (hd : dstOk n d = true) (hc : (Region.noSelect ops && Region.free .any ops listed i && (Region.ready .any ops listed).contains i) = true) (B : BI P t zs places) (hx : E.evp xs = some ps) (hb : bldL places zs ps = some cs)
    (h : Dts P β n ops fuel (listed.setIfInBounds i true) ((i, []) :: pend) is (E.put d (.agg ⟨cs⟩)) L H) : Dts P β n ops (fuel + 1) listed pend (i :: is) E L H := ⟨RunD.takeB i hi hd hc B hx (by rw [hb]; rfl) fun cs' h' => by cases hb.symm.trans h'; exact h.of⟩
theorem Dts.GF {b off : Nat} {cs : List Value} {bt : TypeId} {jg : Nat} {gb : Bool} {gd : Tmp} {u : Value} {m : Nat} {x : Operand} {t : TypeId} {d : Option Tmp} {ty : TypeId} {pos : String} {af : Array Edge} (hi : ops[i]? = some ⟨d, .load t x, ty, pos, af, some (jg, gb)⟩) (hj : (ops[jg]?).bind (·.dst) = some gd) (hu0 : E.get gd = some u) (hu : u = .bool gb) (hd : dstOk n d = true) (hc : (Region.noSelect ops && Region.free .any ops listed i && (Region.ready .any ops listed).contains i) = true) (T : TI P t false m) (hx : E.ev x = some (.pointer (some ⟨b, off, none⟩))) (p : Pick L (pt b (blk cs bt)) M) (hv : cs[off]? = some v)
    (h : Dts P β n ops fuel (listed.setIfInBounds i true) ((i, [pt b (blk cs bt)]) :: pend) is (E.put d v) L H) : Dts P β n ops (fuel + 1) listed pend (i :: is) E L H := ⟨RunD.takeGF i hi hj (by rw [hu0, hu]) hd hc T hx p hv h.of⟩
theorem Dts.GO {α : Type} {enc : α → List Value} {e : TypeId} {ie k b j nn cap : Nat} {xs : List α} {w : α} {jg : Nat} {gb : Bool} {gd : Tmp} {u : Value} {m : Nat} {x : Operand} {t : TypeId} {d : Option Tmp} {ty : TypeId} {pos : String} {af : Array Edge} (hi : ops[i]? = some ⟨d, .load t x, ty, pos, af, some (jg, gb)⟩) (hj : (ops[jg]?).bind (·.dst) = some gd) (hu0 : E.get gd = some u) (hu : u = .bool gb) (hd : dstOk n d = true) (hc : (Region.noSelect ops && Region.free .any ops listed i && (Region.ready .any ops listed).contains i) = true) (T : TI P t false m) (hx : E.ev x = some (.pointer (some ⟨b, 0 + ie * k + j, none⟩))) (p : Pick L (own e k (some ⟨b, 0, none⟩) nn cap (xs.flatMap enc)) M) (hw : xs[ie]? = some w) (hv : (enc w)[j]? = some v) (hk : ∀ x, (enc x).length = k)
    (h : Dts P β n ops fuel (listed.setIfInBounds i true) ((i, [own e k (some ⟨b, 0, none⟩) nn cap (xs.flatMap enc)]) :: pend) is (E.put d v) L H) : Dts P β n ops (fuel + 1) listed pend (i :: is) E L H := ⟨RunD.takeGO i hi hj (by rw [hu0, hu]) hd hc T hx p hw hv hk h.of⟩
theorem Dts.GW {b : Nat} {cs : List Value} {bt : TypeId} {jg : Nat} {gb : Bool} {gd : Tmp} {u : Value} {m : Nat} {x : Operand} {t : TypeId} {d : Option Tmp} {ty : TypeId} {pos : String} {af : Array Edge} (hi : ops[i]? = some ⟨d, .load t x, ty, pos, af, some (jg, gb)⟩) (hj : (ops[jg]?).bind (·.dst) = some gd) (hu0 : E.get gd = some u) (hu : u = .bool gb) (hd : dstOk n d = true) (hc : (Region.noSelect ops && Region.free .any ops listed i && (Region.ready .any ops listed).contains i) = true) (T : TI P t true m) (hx : E.ev x = some (.pointer (some ⟨b, 0, none⟩))) (p : Pick L (pt b (blk cs bt)) M) (hn : cs.length = m)
    (h : Dts P β n ops fuel (listed.setIfInBounds i true) ((i, [pt b (blk cs bt)]) :: pend) is (E.put d (.agg ⟨cs⟩)) L H) : Dts P β n ops (fuel + 1) listed pend (i :: is) E L H := ⟨RunD.takeGW i hi hj (by rw [hu0, hu]) hd hc T hx p hn h.of⟩
theorem Dts.GE {α : Type} {enc : α → List Value} {e : TypeId} {k b nn cap ie : Nat} {xs : List α} {w : α} {jg : Nat} {gb : Bool} {gd : Tmp} {u : Value} {m : Nat} {x : Operand} {t : TypeId} {d : Option Tmp} {ty : TypeId} {pos : String} {af : Array Edge} (hi : ops[i]? = some ⟨d, .load t x, ty, pos, af, some (jg, gb)⟩) (hj : (ops[jg]?).bind (·.dst) = some gd) (hu0 : E.get gd = some u) (hu : u = .bool gb) (hd : dstOk n d = true) (hc : (Region.noSelect ops && Region.free .any ops listed i && (Region.ready .any ops listed).contains i) = true) (T : TI P t true m) (hx : E.ev x = some (.pointer (some ⟨b, 0 + ie * k, none⟩))) (p : Pick L (own e k (some ⟨b, 0, none⟩) nn cap (xs.flatMap enc)) M) (hw : xs[ie]? = some w) (hk : ∀ x, (enc x).length = k) (hm : m = k) (h0 : 0 < k)
    (h : Dts P β n ops fuel (listed.setIfInBounds i true) ((i, [own e k (some ⟨b, 0, none⟩) nn cap (xs.flatMap enc)]) :: pend) is (E.put d (.agg ⟨enc w⟩)) L H) : Dts P β n ops (fuel + 1) listed pend (i :: is) E L H := ⟨RunD.takeGE i hi hj (by rw [hu0, hu]) hd hc T hx p hw hk hm h0 h.of⟩
end
end Go.SL
namespace Go.SL
open Go
section
variable {P : Program} {β : Base} {n : Nat} {ops : Array Oper} {fuel : Nat} {listed : Array Bool} {pend : Pend} {E E' : Env} {L L' : List HP} {H : Env → List HP → Prop} {Q : Po}
attribute [local irreducible] OpJ RunL Run RunD DetJ pt own star Rd RdS
theorem dx (is : List Nat) {G : (Env → List HP → Prop) → Prop} (h : G H) (s : ∀ H', Hold (G H') → Dts P β n ops fuel listed pend is E L H' := by intro H' hk; repeat (first | exact Dts.done hk.of | (refine Dts.det rfl rfl rfl kr ?_; (first | refine ⟨_, DetJ.move rfl, ?_⟩ | refine ⟨_, DetJ.assign rfl, ?_⟩ | refine ⟨_, DetJ.fieldAddr inferInstance rfl, ?_⟩ | refine ⟨_, DetJ.nilCheck rfl, ?_⟩ | refine ⟨_, DetJ.extract rfl rfl, ?_⟩ | refine ⟨_, DetJ.indexAddr inferInstance rfl rfl (by omega), ?_⟩ | refine ⟨_, DetJ.pickXT rfl gd rfl, ?_⟩ | refine ⟨_, DetJ.pickXF rfl gd rfl, ?_⟩ | refine ⟨_, DetJ.pick rfl rfl rfl, ?_⟩ | refine ⟨_, DetJ.len inferInstance rfl, ?_⟩ | refine ⟨_, DetJ.addI rfl rfl (by omega), ?_⟩ | refine ⟨_, DetJ.add rfl rfl, ?_⟩ | refine ⟨_, DetJ.subI rfl rfl (by omega), ?_⟩ | refine ⟨_, DetJ.sub rfl rfl, ?_⟩ | refine ⟨_, DetJ.eql rfl rfl, ?_⟩ | refine ⟨_, DetJ.neq rfl rfl, ?_⟩ | refine ⟨_, DetJ.lss rfl rfl, ?_⟩ | refine ⟨_, DetJ.gtr rfl rfl, ?_⟩ | refine ⟨_, DetJ.leq rfl rfl, ?_⟩ | refine ⟨_, DetJ.geq rfl rfl, ?_⟩ | refine ⟨_, DetJ.mul rfl rfl, ?_⟩ | refine ⟨_, DetJ.eqlS rfl rfl, ?_⟩ | refine ⟨_, DetJ.neqS rfl rfl, ?_⟩ | refine ⟨_, DetJ.lssS rfl rfl, ?_⟩ | refine ⟨_, DetJ.gtrS rfl rfl, ?_⟩ | refine ⟨_, DetJ.eqlNil PI.eq rfl, ?_⟩ | refine ⟨_, DetJ.neqNil PI.eq rfl, ?_⟩ | refine ⟨_, DetJ.eqlNilSl inferInstance rfl, ?_⟩ | refine ⟨_, DetJ.eqlA inferInstance rfl rfl rfl, ?_⟩ | refine ⟨_, DetJ.neqA inferInstance rfl rfl rfl, ?_⟩ | refine ⟨_, DetJ.eqlB UI.eq rfl rfl, ?_⟩ | refine ⟨_, DetJ.neqB UI.eq rfl rfl, ?_⟩ | refine ⟨_, DetJ.notXT rfl gd, ?_⟩ | refine ⟨_, DetJ.notXF rfl gd, ?_⟩ | refine ⟨_, DetJ.not rfl, ?_⟩ | refine ⟨_, DetJ.neg rfl, ?_⟩ | refine ⟨_, DetJ.lenS UI.eq rfl, ?_⟩ | refine ⟨_, DetJ.min rfl rfl, ?_⟩ | refine ⟨_, DetJ.indexAddrArr inferInstance rfl rfl (by omega), ?_⟩ | refine ⟨_, DetJ.quo rfl rfl (by omega), ?_⟩ | refine ⟨_, DetJ.rem rfl rfl (by omega), ?_⟩ | refine ⟨_, DetJ.conv SoI.eq UI.eq rfl, ?_⟩ | refine ⟨_, DetJ.fieldA inferInstance inferInstance rfl, ?_⟩ | refine ⟨_, DetJ.field1 inferInstance inferInstance rfl (by rfl), ?_⟩ | refine ⟨_, DetJ.makeFunc rfl rfl, ?_⟩)) | refine Dts.F rfl rfl kr inferInstance rfl pk (by rfl) ?_ | refine Dts.O rfl rfl kr inferInstance rfl pk (by assumption) (by rfl) (by exact fun _ => rfl) ?_ | refine Dts.W rfl rfl kr inferInstance rfl pk (by rfl) ?_ | refine Dts.PP rfl rfl kr inferInstance rfl pk (by simp) ?_ | refine Dts.EE rfl rfl kr inferInstance rfl pk (by assumption) (by exact fun _ => rfl) rfl (by decide) ?_ | refine Dts.B rfl rfl kr inferInstance rfl (by simp only [Sk.c, Mv.c, Co.c, bldL, Value.cells, bs, Nat.reduceAdd, Nat.reduceLeDiff, Nat.reduceLT]; rfl) ?_ | (refine Dts.yes rfl rfl rfl rfl gd rfl kr ?_; (first | refine ⟨_, DetJ.move rfl, ?_⟩ | refine ⟨_, DetJ.assign rfl, ?_⟩ | refine ⟨_, DetJ.fieldAddr inferInstance rfl, ?_⟩ | refine ⟨_, DetJ.nilCheck rfl, ?_⟩ | refine ⟨_, DetJ.extract rfl rfl, ?_⟩ | refine ⟨_, DetJ.indexAddr inferInstance rfl rfl (by omega), ?_⟩ | refine ⟨_, DetJ.pickXT rfl gd rfl, ?_⟩ | refine ⟨_, DetJ.pickXF rfl gd rfl, ?_⟩ | refine ⟨_, DetJ.pick rfl rfl rfl, ?_⟩ | refine ⟨_, DetJ.len inferInstance rfl, ?_⟩ | refine ⟨_, DetJ.addI rfl rfl (by omega), ?_⟩ | refine ⟨_, DetJ.add rfl rfl, ?_⟩ | refine ⟨_, DetJ.subI rfl rfl (by omega), ?_⟩ | refine ⟨_, DetJ.sub rfl rfl, ?_⟩ | refine ⟨_, DetJ.eql rfl rfl, ?_⟩ | refine ⟨_, DetJ.neq rfl rfl, ?_⟩ | refine ⟨_, DetJ.lss rfl rfl, ?_⟩ | refine ⟨_, DetJ.gtr rfl rfl, ?_⟩ | refine ⟨_, DetJ.leq rfl rfl, ?_⟩ | refine ⟨_, DetJ.geq rfl rfl, ?_⟩ | refine ⟨_, DetJ.mul rfl rfl, ?_⟩ | refine ⟨_, DetJ.eqlS rfl rfl, ?_⟩ | refine ⟨_, DetJ.neqS rfl rfl, ?_⟩ | refine ⟨_, DetJ.lssS rfl rfl, ?_⟩ | refine ⟨_, DetJ.gtrS rfl rfl, ?_⟩ | refine ⟨_, DetJ.eqlNil PI.eq rfl, ?_⟩ | refine ⟨_, DetJ.neqNil PI.eq rfl, ?_⟩ | refine ⟨_, DetJ.eqlNilSl inferInstance rfl, ?_⟩ | refine ⟨_, DetJ.eqlA inferInstance rfl rfl rfl, ?_⟩ | refine ⟨_, DetJ.neqA inferInstance rfl rfl rfl, ?_⟩ | refine ⟨_, DetJ.eqlB UI.eq rfl rfl, ?_⟩ | refine ⟨_, DetJ.neqB UI.eq rfl rfl, ?_⟩ | refine ⟨_, DetJ.notXT rfl gd, ?_⟩ | refine ⟨_, DetJ.notXF rfl gd, ?_⟩ | refine ⟨_, DetJ.not rfl, ?_⟩ | refine ⟨_, DetJ.neg rfl, ?_⟩ | refine ⟨_, DetJ.lenS UI.eq rfl, ?_⟩ | refine ⟨_, DetJ.min rfl rfl, ?_⟩ | refine ⟨_, DetJ.indexAddrArr inferInstance rfl rfl (by omega), ?_⟩ | refine ⟨_, DetJ.quo rfl rfl (by omega), ?_⟩ | refine ⟨_, DetJ.rem rfl rfl (by omega), ?_⟩ | refine ⟨_, DetJ.conv SoI.eq UI.eq rfl, ?_⟩ | refine ⟨_, DetJ.fieldA inferInstance inferInstance rfl, ?_⟩ | refine ⟨_, DetJ.field1 inferInstance inferInstance rfl (by rfl), ?_⟩ | refine ⟨_, DetJ.makeFunc rfl rfl, ?_⟩)) | refine Dts.GF rfl rfl rfl gd rfl kr inferInstance rfl pk (by rfl) ?_ | refine Dts.GO rfl rfl rfl gd rfl kr inferInstance rfl pk (by assumption) (by rfl) (by exact fun _ => rfl) ?_ | refine Dts.GW rfl rfl rfl gd rfl kr inferInstance rfl pk (by rfl) ?_ | refine Dts.GE rfl rfl rfl gd rfl kr inferInstance rfl pk (by assumption) (by exact fun _ => rfl) rfl (by decide) ?_ | refine Dts.noT rfl rfl rfl rfl gd rfl kr ?_ | refine Dts.noF rfl rfl rfl rfl gd rfl kr ?_ | refine Dts.U rfl rfl rfl rfl gd rfl kr ?_)) : RunD P β n ops fuel listed pend E L H := (s H ⟨h⟩).of
theorem cnd {x : Operand} {b : Bool} {c1 c2 : Code} {p q : Prop} [I : BP b p q] (hx : E.ev x = some (.bool b)) (ht : p → Run P β n c1 E L Q) (hf : q → Run P β n c2 E L Q) : Run P β n (.cond x c1 c2) E L Q := Run.cond hx (fun h => ht (I.t h)) (fun h => hf (I.f h))
theorem dwk (h : H E' L') (hk : E.pick (E'.map (·.1)) = some E') (g : Gives L L') (hr : Region.ready .any ops listed = [] := by kernel_rfl) : RunD P β n ops fuel listed pend E L H := RunD.weak (kt hk).sub g (RunD.done hr h)
end
end Go.SL

namespace Go.SL
open Go
theorem t0 {p : Prop} (h : p := by first | (simp [tup, Mv.costOk, inB, Mv.lotOk, Mv.quantityOk, Mv.rQty, backV, partN, codeB, digitB, farB, largeB, leapB, letterB, near, refersB, withinB, *]; done) | (exfalso; omega)) : p := h
theorem t1 {p : Prop} (h : p := by first | (simp [tup, Mv.one, Mv.refBad, Mv.lotOk, *]; done) | (exfalso; simp_all; done)) : p := h
theorem t2 {p : Prop} (h : p := by first | (simp [tup, Mv.one, Mv.refBad, *]; done) | (exfalso; simp_all; done)) : p := h
end Go.SL

namespace Go.SL
open Go
theorem CI.k {P : Program} {f : FuncId} (h : (P.funcs[f]?).map (fun fn => (fn.name == "runtime.NumGoroutine", fn.body.isNone)) = some (false, false) := by kernel_rfl) : CI P f := .of h
theorem TI.k {P : Program} {t : TypeId} {agg : Bool} {size : Nat} (h : tinfo P t = some (agg, size) := by kernel_rfl) : TI P t agg size := .of h
theorem FI.k {P : Program} {s ft : TypeId} {i off : Nat} (h : finfo P s i = some (ft, off, false) := by kernel_rfl) : FI P s i ft off := .of h
def KP (ks : List Nat) (H : Env → List HP → Prop) : Env → List HP → Prop := fun E L => ∃ E', E.pick ks = some E' ∧ H E' L
section
variable {P : Program} {β : Base} {n k : Nat} {arr : Array Oper} {os : List Oper} {E E' : Env} {L L' : List HP} {H : Env → List HP → Prop} {Q : Po} {y : Code} {id t : Nat}
theorem kpx {ks : List Nat} (hk : E.pick ks = some E') (h : H E' L) : RunL P β n arr [] E L (KP ks H) := RunL.nil ⟨E', hk, h⟩
theorem RunL.unkp {ks : List Nat} (r : RunL P β n arr os E L (KP ks H)) : RunL P β n arr os E L H := fun a w ha hs Q hQ => r a w ha hs Q fun a' w' E1 L1 ⟨E', he, hh⟩ ha' hs' => hQ a' w' E' L1 hh (ha'.sub (kt he).sub) hs'
theorem spl (t : Nat) {b : Bool} {p q : Prop} [I : BP b p q] (h : E.get t = some (.bool b)) (ht : p → RunL P β n arr os ((t, .bool true) :: E) L H) (hf : q → RunL P β n arr os ((t, .bool false) :: E) L H) : RunL P β n arr os E L H := RunL.split h (fun e => ht (I.t e)) (fun e => hf (I.f e))
theorem sF {p : Prop} [Decidable p] (h : ¬ p) (r : RunL P β n arr os ((t, .bool false) :: E) L H) : RunL P β n arr os ((t, .bool (decide p)) :: E) L H := RunL.set (congrArg Value.bool (decide_eq_false h)) r
theorem sT {p : Prop} [Decidable p] (h : p) (r : RunL P β n arr os ((t, .bool true) :: E) L H) : RunL P β n arr os ((t, .bool (decide p)) :: E) L H := RunL.set (congrArg Value.bool (decide_eq_true h)) r
section
variable {ops : Array Oper} {fuel : Nat} {listed : Array Bool} {pend : Pend}
theorem dF {p : Prop} [Decidable p] (h : ¬ p) (r : RunD P β n ops fuel listed pend ((t, .bool false) :: E) L H) : RunD P β n ops fuel listed pend ((t, .bool (decide p)) :: E) L H := RunD.set (congrArg Value.bool (decide_eq_false h)) r
theorem dT {p : Prop} [Decidable p] (h : p) (r : RunD P β n ops fuel listed pend ((t, .bool true) :: E) L H) : RunD P β n ops fuel listed pend ((t, .bool (decide p)) :: E) L H := RunD.set (congrArg Value.bool (decide_eq_true h)) r
end
end
section
variable {P : Program} {β : Base} {n i fuel m b : Nat} {arr ops : Array Oper} {os : List Oper} {E : Env} {L L' : List HP} {H : Env → List HP → Prop} {d : Option Tmp} {t bt ty : TypeId} {pos : String} {af : Array Edge} {x y : Operand} {zs vs cs : List Value} {v : Value} {listed : Array Bool} {pend : Pend} {ks : List Nat} {E' : Env}
theorem oal [Z : ZI P t zs] (h : ∀ b, RunL P β n arr os (E.put d (.pointer (some ⟨b, 0, none⟩))) (pt b (blk zs t) :: L) H) (hd : dstOk n d = true := by exact rfl) : RunL P β n arr (⟨d, .alloc t, ty, pos, af, none⟩ :: os) E L H := RunL.op hd rfl (OpJ.alloc Z h)
theorem obx (hx : E.ev x = some (.agg ⟨vs⟩)) (h : ∀ b, RunL P β n arr os (E.put d (.pointer (some ⟨b, 0, none⟩))) (pt b (blk vs t) :: L) H) (hd : dstOk n d = true := by exact rfl) : RunL P β n arr (⟨d, .box t x, ty, pos, af, none⟩ :: os) E L H := RunL.op hd rfl (OpJ.boxA hx h)
theorem kq (ks : List Nat) (h : H E' L) (hk : E.pick ks = some E' := by exact rfl) : RunL P β n arr [] E L H := kp ks hk h
attribute [local irreducible] OpJ RunL Run RunD DetJ pt own star Rd RdS
theorem dsw (i : Nat) (mask : List Bool) (h : RunD P β n ops fuel (listed.setIfInBounds i true) (applyMask mask pend) (E.put d undef) L' H) (hi : ops[i]? = some ⟨d, .store t x y, ty, pos, af, none⟩ := by exact rfl) (hd : dstOk n d = true := by exact rfl) (hr : Region.ready .any ops listed = [i] := by kernel_rfl) (hm : maskOk ops i (pend.map (·.1)) mask = true := by kernel_rfl)
    (T : TI P t true m := by exact inferInstance) (hx : E.ev x = some (.pointer (some ⟨b, 0, none⟩)) := by exact rfl) (hy : E.ev y = some (.agg ⟨vs⟩) := by exact rfl) (hn : vs.length = m := by exact rfl) (h1 : ∀ v ∈ vs, v.oneCell' = true := by simp [Value.oneCell', Pa.c, Ly.c, Mv.c, Co.c]) (u : Upd L (pt b (blk cs bt)) (pt b (blk vs bt)) L' := by repeat (first | exact Upd.here | apply Upd.there)) (hc : cs.length = m := by exact rfl) (hp : PendOk (applyMask mask pend) L' := by exact po) :
    RunD P β n ops (fuel + 1) listed pend E L H := RunD.op i mask hi rfl hd hr hm (OpJ.storeW T hx hy hn hc h1 u ⟨hp, h⟩)
end
section
variable {P : Program} {β : Base} {n : Nat} {arr : Array Oper} {E E' : Env} {L L' : List HP} {Q : Po} {y : Code} {id : Nat}
attribute [local irreducible] OpJ RunL Run RunD DetJ pt own star Rd RdS
theorem eo {f : FuncId} {fn : Func} {c : Code} {vs : List Value} {K : Value → HP} (hf : P.funcs[f]? = some fn) (h : ∀ β, Run P β fn.ntmps c (Env.ofArgs 0 vs) L (bodyPo P β fn.ntmps fn K)) (hb : fn.body = some c := by exact rfl) (hn : vs.length ≤ fn.ntmps := by exact Nat.le_of_ble_eq_true rfl) : AC P f ⟨vs⟩ (stars L) K := AC.go hf hb hn h
theorem rg (k : Nat) (ks : List Nat) (h : Run P β n y E' L' Q) (s : ∀ H', Hold (H' E' L') → Sts P β n arr k arr.toList E L (KP ks H') := by intro H' hk; repeat (first | exact Sts.done (kpx rfl hk.of) | ((first | refine Sts.o1 rfl ?_ | refine Sts.yes rfl rfl rfl gd ?_); (first | refine OpJ.move rfl ?_ | refine OpJ.assign rfl ?_ | refine OpJ.fieldAddr inferInstance rfl ?_ | (refine gLd ?_; first | refine OpJ.loadF inferInstance rfl pk (by rfl) ?_ | refine OpJ.loadO inferInstance rfl pk (by assumption) (by rfl) (by exact fun _ => rfl) ?_ | refine OpJ.loadW inferInstance rfl pk (by rfl) ?_ | refine OpJ.loadP inferInstance rfl pk (by simp) ?_ | refine OpJ.loadE inferInstance rfl pk (by assumption) (by exact fun _ => rfl) rfl (by decide) ?_) | refine OpJ.extract rfl rfl ?_ | (refine gPick ?_; first | refine OpJ.pickXT rfl gd rfl ?_ | refine OpJ.pickXF rfl gd rfl ?_ | refine OpJ.pick rfl rfl rfl ?_) | (refine gSt ?_; first | refine OpJ.storeW inferInstance rfl rfl rfl rfl (by simp [Value.oneCell', Pa.c, Ly.c, Mv.c, Co.c]) up ?_ | refine OpJ.store1 inferInstance rfl rfl rfl up (by simp) ?_ | refine OpJ.store inferInstance rfl rfl rfl rfl (by simp [Value.cells, Value.oneCell', Pa.c, Ly.c, Mv.c, Co.c]) up (by simp) ?_) | (refine gAdd ?_; first | refine OpJ.addI rfl rfl (by omega) ?_ | refine OpJ.add rfl rfl ?_) | (refine gSub ?_; first | refine OpJ.subI rfl rfl (by omega) ?_ | refine OpJ.sub rfl rfl ?_) | (refine gQuo ?_; first | refine OpJ.quo rfl rfl (by omega) ?_) | (refine gRem ?_; first | refine OpJ.rem rfl rfl (by omega) ?_) | (refine gShl ?_; first | refine OpJ.shl rfl rfl (by omega) ?_) | (refine gShr ?_; first | refine OpJ.shr rfl rfl (by omega) ?_) | (refine gBin ?_; first | refine OpJ.eql rfl rfl ?_ | refine OpJ.neq rfl rfl ?_ | refine OpJ.lss rfl rfl ?_ | refine OpJ.gtr rfl rfl ?_ | refine OpJ.leq rfl rfl ?_ | refine OpJ.geq rfl rfl ?_ | refine OpJ.mul rfl rfl ?_ | refine OpJ.eqlS rfl rfl ?_ | refine OpJ.neqS rfl rfl ?_ | refine OpJ.lssS rfl rfl ?_ | refine OpJ.gtrS rfl rfl ?_ | refine OpJ.geqS rfl rfl ?_ | refine OpJ.eqlNil PI.eq rfl ?_ | refine OpJ.neqNil PI.eq rfl ?_ | refine OpJ.eqlNilSl inferInstance rfl ?_ | refine OpJ.eqlA inferInstance rfl rfl rfl ?_ | refine OpJ.neqA inferInstance rfl rfl rfl ?_ | refine OpJ.eqlB UI.eq rfl rfl ?_ | refine OpJ.neqB UI.eq rfl rfl ?_ | refine OpJ.band rfl rfl ?_ | refine OpJ.bor rfl rfl ?_) | refine OpJ.nilCheck rfl ?_ | (refine gCall ?_; first | refine OpJ.len inferInstance rfl ?_ | refine OpJ.lenS UI.eq rfl ?_ | refine OpJ.min rfl rfl ?_) | (refine gIA ?_; first | refine OpJ.indexAddr inferInstance rfl rfl (by omega) ?_ | refine OpJ.indexAddrArr inferInstance rfl rfl (by omega) ?_) | (refine gUn ?_; first | refine OpJ.notXT rfl gd ?_ | refine OpJ.notXF rfl gd ?_ | refine OpJ.not rfl ?_ | refine OpJ.neg rfl ?_) | (refine gCv ?_; first | refine OpJ.conv SoI.eq UI.eq rfl ?_) | (refine gFld ?_; first | refine OpJ.fieldA inferInstance inferInstance rfl ?_ | refine OpJ.field1 inferInstance inferInstance rfl (by rfl) ?_) | refine OpJ.makeFunc rfl rfl ?_ | (refine gBld ?_; first | refine OpJ.buildX inferInstance rfl (by simp only [Sk.c, Mv.c, Co.c, bldL, Value.cells, bs, Nat.reduceAdd, Nat.reduceLeDiff, Nat.reduceLT]; rfl) ?_ | refine OpJ.buildArrX inferInstance rfl (by simp only [bldA, Value.cells, bs, Nat.reduceAdd, Nat.reduceLeDiff, Nat.reduceLT]; rfl) ?_))) | refine Sts.noT rfl rfl rfl gd ?_ | refine Sts.noF rfl rfl rfl gd ?_ | refine Sts.undef rfl rfl rfl gd ?_)) : Run P β n (.seq (.region id arr false) y) E L Q := sr (RunL.unkp (s _ ⟨h⟩).of)
end
end Go.SL

namespace Go.SL
open Go
def SortV (o : List Mv) : Prop := ∀ (i j : Nat) (x y : Mv), i ≤ j → o[i]? = some x → o[j]? = some y → x.value ≤ y.value
theorem SortV.mono {o : List Mv} (h : SortV o) (v : Int) : Mono (laterB v) o := fun i j x y hij hx hy hp => by
  have := h i j x y hij hx hy
  simp only [laterB, decide_eq_true_eq] at hp ⊢; omega
theorem ins_get {α : Type} {o : List α} {n : Nat} {x : α} (hn : n ≤ o.length) (i : Nat) : (o.take n ++ x :: o.drop n)[i]? = if i < n then o[i]? else if i = n then some x else o[i - 1]? := by
  have hl : (o.take n).length = n := by rw [List.length_take]; omega
  by_cases h : i < n
  · rw [if_pos h, List.getElem?_append_left (by omega), List.getElem?_take_of_lt h]
  · rw [if_neg h, List.getElem?_append_right (by omega), hl]
    by_cases h2 : i = n
    · subst h2; simp
    · rw [if_neg h2, show i - n = (i - n - 1) + 1 by omega, List.getElem?_cons_succ, List.getElem?_drop]
      congr 1; omega
theorem SortV.ins {o : List Mv} (h : SortV o) (m : Mv) : SortV (insB (laterB m.value) m o) := by
  have hc := cutN_le (p := laterB m.value) (o := o)
  rw [insB_eq]
  intro i j x y hij hx hy
  rw [ins_get hc] at hx hy
  have lo : ∀ a z, a < cutN (laterB m.value) o → o[a]? = some z → z.value ≤ m.value := fun a z ha hz => by
    have := cutN_lt ha hz
    simp only [laterB, decide_eq_false_iff_not] at this; omega
  have hi : ∀ a z, cutN (laterB m.value) o ≤ a → o[a]? = some z → m.value ≤ z.value := fun a z ha hz => by
    have := (cutN_iff (h.mono m.value) hz).2 ha
    simp only [laterB, decide_eq_true_eq] at this; omega
  split at hx
  · split at hy
    · exact h _ _ _ _ hij hx hy
    · split at hy
      · cases hy; exact lo _ _ (by assumption) hx
      · exact h _ _ _ _ (by omega) hx hy
  · split at hx
    · cases hx
      split at hy
      · omega
      · split at hy
        · cases hy; exact Int.le_refl _
        · exact hi _ _ (by omega) hy
    · split at hy
      · omega
      · split at hy
        · omega
        · exact h _ _ _ _ (by omega) hx hy
theorem ordM_sort (ms : List Mv) : SortV (ordM ms) := by
  suffices H : ∀ (ms o : List Mv), SortV o → SortV (ms.foldl (fun o m => insB (laterB m.value) m o) o) from H ms [] (fun i j x y _ hx => by simp at hx)
  intro ms
  induction ms with
  | nil => intro o h; exact h
  | cons m ms ih => intro o h; exact ih _ (h.ins m)
theorem ordM_len (ms : List Mv) : (ordM ms).length = ms.length := (ordM_perm ms).length_eq
structure IdxI (ms : List Mv) (ord : List Int) : Prop where
  len : ord.length = ms.length
  idx : ∀ (i : Nat) (y : Int), ord[i]? = some y → ∃ (q : Nat) (m : Mv), y = (q : Int) ∧ ms[q]? = some m ∧ (ordM ms)[i]? = some m
  dis : ord.Nodup
theorem IdxI.nil : IdxI [] [] := ⟨rfl, fun i y h => by simp at h, List.nodup_nil⟩
theorem IdxI.mono {ms : List Mv} {ord : List Int} (h : IdxI ms ord) (v : Int) : Mono (dnB ms v) ord := fun i j x y hij hx hy hp => by
  obtain ⟨q, m, rfl, hq, hs⟩ := h.idx i x hx
  obtain ⟨r, n, rfl, hr, ht⟩ := h.idx j y hy
  have := ordM_sort ms i j m n hij hs ht
  unfold dnB at hp ⊢
  rw [show ((q : Int)).toNat = q from rfl, hq] at hp
  rw [show ((r : Int)).toNat = r from rfl, hr]
  simp only [Option.map_some, Option.getD_some, decide_eq_true_eq] at hp ⊢; omega
theorem IdxI.cut {ms : List Mv} {ord : List Int} (h : IdxI ms ord) (v : Int) : cutN (dnB ms v) ord = cutN (laterB v) (ordM ms) := by
  refine cutN_mid (by rw [h.len, ← ordM_len]; exact cutN_le) (fun i y hi hy => ?_) (fun y hy => ?_)
  · obtain ⟨q, m, rfl, hq, hs⟩ := h.idx i y hy
    have := cutN_lt hi hs
    unfold dnB
    rw [show ((q : Int)).toNat = q from rfl, hq]
    exact this
  · obtain ⟨q, m, rfl, hq, hs⟩ := h.idx _ y hy
    have := cutN_at hs
    unfold dnB
    rw [show ((q : Int)).toNat = q from rfl, hq]
    exact this
theorem IdxI.ins {ms : List Mv} {ord : List Int} (h : IdxI ms ord) (m : Mv) : IdxI (ms ++ [m]) (insN ord (cutN (dnB ms m.value) ord) (ms.length : Int)) := by
  have hc := cutN_le (p := laterB m.value) (o := ordM ms)
  have hc2 := cutN_le (p := dnB ms m.value) (o := ord)
  have up : ∀ (i : Nat) (y : Int), ord[i]? = some y → ∃ (q : Nat) (x : Mv), y = (q : Int) ∧ (ms ++ [m])[q]? = some x ∧ (ordM ms)[i]? = some x := fun i y hy => by
    obtain ⟨q, x, e, hq, hs⟩ := h.idx i y hy
    exact ⟨q, x, e, by rw [List.getElem?_append_left (List.getElem?_eq_some_iff.1 hq).1]; exact hq, hs⟩
  refine ⟨by rw [insN_len hc2, h.len]; simp, fun i y hy => ?_, ?_⟩
  · unfold insN at hy
    rw [ins_get hc2] at hy
    rw [h.cut] at hy
    rw [ordM_app, insB_eq, ins_get hc]
    by_cases h1 : i < cutN (laterB m.value) (ordM ms)
    · rw [if_pos h1] at hy ⊢; exact up i y hy
    · rw [if_neg h1] at hy ⊢
      by_cases h2 : i = cutN (laterB m.value) (ordM ms)
      · rw [if_pos h2] at hy ⊢
        cases hy
        exact ⟨ms.length, m, rfl, by simp, rfl⟩
      · rw [if_neg h2] at hy ⊢; exact up _ y hy
  · unfold insN
    have hp : (ord.take (cutN (dnB ms m.value) ord) ++ (ms.length : Int) :: ord.drop (cutN (dnB ms m.value) ord)).Perm ((ms.length : Int) :: ord) := by
      refine List.perm_middle.trans ?_
      rw [List.take_append_drop]
    refine hp.nodup_iff.2 (List.nodup_cons.2 ⟨fun hm => ?_, h.dis⟩)
    obtain ⟨i, hi⟩ := List.getElem?_of_mem hm
    obtain ⟨q, x, e, hq, _⟩ := h.idx i _ hi
    have := (List.getElem?_eq_some_iff.1 hq).1
    omega
theorem chkL_ne : ∀ {ms done : List Mv} {p : Nat × Int}, chkL done ms = some p → p.2 ≠ 0
  | [], done, p, h => by cases h
  | x :: ms, done, p, h => by
    simp only [chkL] at h
    split at h
    · cases h; show (17 : Int) ≠ 0; decide
    split at h
    · cases h; assumption
    split at h
    · rename_i h3; cases h; exact h3.2
    · exact chkL_ne h
theorem chkE_none {ms : List Mv} : chkE ms = 0 ↔ chkM ms = none := by
  unfold chkE
  cases h : chkM ms with
  | none => simp
  | some p =>
    have : p.2 ≠ 0 := by
      unfold chkM at h
      split at h
      · cases h; decide
      · exact chkL_ne h
    simp [this]
theorem one_ok {m : Mv} (h : m.one = 0) : m.ok := by
  have hm := MG.of h
  have h1 := hm.q.1; have h2 := hm.q.2; have h3 := hm.k; have h4 := hm.c
  unfold Mv.ok i64
  omega
structure EngI (g : Eg) (p : Int) (KL KP : HP) : Prop where
  len : g.ms.length ≤ 2000
  fine : Fine g.ms
  ix : IdxI g.ms g.ord
  kl : g.kp.length = g.ms.length / 16 + 1
  kp : ∀ (j : Nat) (x : Ks), g.kp[j]? = some x → Before g.k (start0 g.k p) (ordM g.ms) (16 * j) x.s ∧ KsR KL KP x
  cr : KsR KL KP g.last
  st : startE g.k p = 0
  cl : g.cs.length = g.ms.length
  run : ∃ cs0, runL (stepM g.k) (start0 g.k p) (ordM g.ms) = .ok (g.last.s, cs0) ∧ ∀ (i q : Nat), g.ord[i]? = some (q : Int) → g.cs[q]? = cs0[i]?
theorem ordM_pre {ms : List Mv} {m : Mv} {n : Nat} (h : n ≤ cutN (laterB m.value) (ordM ms)) : (ordM (ms ++ [m])).take n = (ordM ms).take n := by
  have hc := cutN_le (p := laterB m.value) (o := ordM ms)
  rw [ordM_app, insB_eq, List.take_append_of_le_length (by rw [List.length_take]; omega), List.take_take, Nat.min_eq_left h]
theorem EngI.runH {g : Eg} {p : Int} {KL KP : HP} {m : Mv} (h : EngI g p KL KP) (hf : chkE (g.ms ++ [m]) = 0) : RunH g (start0 g.k p) (g.ms ++ [m]) (ordM (g.ms ++ [m])) (insN g.ord (cutN (dnB g.ms m.value) g.ord) (g.ms.length : Int)) (cutN (dnB g.ms m.value) g.ord / 16) KL KP := by
  have hi := h.ix.ins m
  have hc := h.ix.cut m.value
  have hcl := cutN_le (p := laterB m.value) (o := ordM g.ms)
  rw [ordM_len] at hcl
  have hno := chkE_none.1 hf
  have hfi := chkM_none.1 hno
  have hl2 := hfi.1
  have hkl := h.kl
  have hlen := h.len
  refine ⟨by rw [hi.len, ordM_len], by rw [ordM_len]; exact hl2, hi.idx, hi.dis, fun y hy => ?_, ?_, by omega, fun j x hj hx => ?_, start0_ok 0⟩
  · obtain ⟨q, hq⟩ := List.getElem?_of_mem ((ordM_perm _).mem_iff.1 hy)
    exact one_ok (hfi.2 q y hq).2.1
  · rw [ordM_len, List.length_append, List.length_singleton]; have := Nat.div_mul_le_self (cutN (dnB g.ms m.value) g.ord) 16; omega
  · obtain ⟨⟨cs, hb⟩, hk⟩ := h.kp j x hx
    exact ⟨⟨cs, by rw [ordM_pre (by omega)]; exact hb⟩, hk⟩
abbrev addAt (g : Eg) (m : Mv) : Nat := cutN (dnB g.ms m.value) g.ord
abbrev addOrd (g : Eg) (m : Mv) : List Int := insN g.ord (addAt g m) (g.ms.length : Int)
def addRun (g : Eg) (p : Int) (m : Mv) : Except (Nat × Int) (Sk × List Co) := runL (stepM g.k) (start0 g.k p) (ordM (g.ms ++ [m]))
def addE (g : Eg) (p : Int) (m : Mv) : Int := if chkE (g.ms ++ [m]) ≠ 0 then chkE (g.ms ++ [m]) else match addRun g p m with | .error x => x.2 | .ok _ => 0
def addKv (g : Eg) (p : Int) (m : Mv) : List KV := match addRun g p m with | .error _ => [] | .ok x => kvOf (addOrd g m) x.2 (16 * (addAt g m / 16))
def Co0 : Co := ⟨0, 0, 0, 0⟩
def newCs (kv : List KV) (cs : List Co) (cs1 : List Co) : Prop := cs1.length = cs.length ∧ ∀ q, q < cs.length → cs1[q]? = match kAt (Prod.fst : KV → Int) (q : Int) kv with | some x => some x.2.2 | none => cs[q]?
structure AddO where
  g : Eg
  mo : Option Addr
  mc : Nat
  co : Option Addr
  cc : Nat
  oo : Option Addr
  oc : Nat
  ko : Option Addr
  kc : Nat
  ja : Option Addr
  jc : Nat
  KL : HP
  KP : HP
def addP (g : Eg) (p : Int) (m : Mv) (KL KP : HP) (o : AddO) : Prop := if addE g p m = 0 then EngI o.g p o.KL o.KP ∧ o.g.ms = g.ms ++ [m] ∧ o.g.k = g.k ∧ newCs (addKv g p m) (g.cs ++ [Co0]) o.g.cs else EngI g p o.KL o.KP
def addV (g : Eg) (p : Int) (m : Mv) (o : AddO) : Value := if addE g p m = 0 then .tuple ⟨[.agg ⟨(o.g.cs[g.ms.length]?.getD Co0).c⟩, .slice o.ja (adjL (addKv g p m) g.cs g.cs.length).length o.jc, I 0]⟩ else .tuple ⟨[.agg ⟨Co0.c⟩, .slice none 0 0, I (addE g p m)]⟩
theorem EngI.grow {g : Eg} {p : Int} {KL KP KL' KP' : HP} (h : EngI g p KL KP) (h1 : Grow KL KL') (h2 : Grow KP KP') : EngI g p KL' KP' := ⟨h.len, h.fine, h.ix, h.kl, fun j x hx => ⟨(h.kp j x hx).1, (h.kp j x hx).2.grow h1 h2⟩, h.cr.grow h1 h2, h.st, h.cl, h.run⟩
theorem addE_chk {g : Eg} {p : Int} {m : Mv} (h : chkE (g.ms ++ [m]) ≠ 0) : addE g p m = chkE (g.ms ++ [m]) := if_pos h
theorem addE_run {g : Eg} {p : Int} {m : Mv} {x : Nat × Int} (h : chkE (g.ms ++ [m]) = 0) (hr : addRun g p m = .error x) : addE g p m = x.2 := by unfold addE; rw [if_neg (fun h' => h' h), hr]
theorem addE_ok {g : Eg} {p : Int} {m : Mv} {x : Sk × List Co} (h : chkE (g.ms ++ [m]) = 0) (hr : addRun g p m = .ok x) : addE g p m = 0 := by unfold addE; rw [if_neg (fun h' => h' h), hr]
def leftC (n : Nat) (seen : Array Nat) : Nat := ((List.range n).filter fun j => !seen.contains j).length
theorem leftC_push {n i : Nat} {seen : Array Nat} (hi : i < n) (h : i ∉ seen) : leftC n (seen.push i) < leftC n seen :=
  filter_lt (fun j => !seen.contains j) (fun j => !(seen.push i).contains j) (fun x hx => by
    rw [contains_push] at hx
    cases hc : seen.contains x with
    | false => rfl
    | true => rw [hc, Bool.true_or] at hx; exact absurd hx (by decide)) i (by simpa using h) (by rw [contains_push, beq_self_eq_true, Bool.or_true]; rfl) (List.range n) (List.mem_range.2 hi)
theorem kAt_at {α κ : Type} [DecidableEq κ] {kf : α → κ} : ∀ {xs : List α} {i : Nat} {y : α}, (xs.map kf).Nodup → xs[i]? = some y → kAt kf (kf y) xs = some (i, y)
  | [], i, y, _, h => by simp at h
  | x :: xs, 0, y, _, h => by simp only [List.getElem?_cons_zero, Option.some.injEq] at h; subst h; simp [kAt]
  | x :: xs, i + 1, y, hn, h => by
    simp only [List.getElem?_cons_succ] at h
    simp only [List.map_cons, List.nodup_cons] at hn
    have hne : ¬ kf x = kf y := fun e => hn.1 (e ▸ List.mem_map_of_mem (List.mem_of_getElem? h))
    simp only [kAt, if_neg hne, kAt_at hn.2 h]
    rfl
structure PartC (kv : List KV) (seen : Array Nat) (cs cs1 : List Co) : Prop where
  len : cs1.length = cs.length
  at_ : ∀ q, q < cs.length → cs1[q]? = match kAt (Prod.fst : KV → Int) (q : Int) kv with | some x => if x.1 ∈ seen then some x.2.2 else cs[q]? | none => cs[q]?
theorem PartC.start {kv : List KV} {cs : List Co} : PartC kv #[] cs cs := ⟨rfl, fun q hq => by split <;> simp⟩
theorem PartC.next {kv : List KV} {seen : Array Nat} {cs cs1 : List Co} {i q : Nat} {c : Co} (h : PartC kv seen cs cs1) (hn : (kv.map Prod.fst).Nodup) (hi : kv[i]? = some ((q : Int), c)) (hq : q < cs.length) : PartC kv (seen.push i) cs (cs1.set q c) := by
  have hk := kAt_at (kf := (Prod.fst : KV → Int)) hn hi
  have hl := h.len
  refine ⟨by rw [List.length_set]; exact hl, fun r hr => ?_⟩
  by_cases e : q = r
  · subst e
    simp only [hk]
    rw [List.getElem?_set_self (by omega)]
    simp
  · rw [List.getElem?_set_ne e, h.at_ r hr]
    cases hr' : kAt (Prod.fst : KV → Int) (r : Int) kv with
    | none => rfl
    | some x =>
      have hs := kAt_some hr'
      have hne : x.1 ≠ i := fun e2 => e (by
        have h1 := hs.1
        rw [e2, hi] at h1
        have h2 := hs.2
        simp only [Option.some.injEq] at h1
        rw [← h1] at h2
        simp only at h2
        omega)
      simp only [Array.mem_push]
      by_cases hm : x.1 ∈ seen
      · simp [hm]
      · simp [hm, hne]
theorem PartC.fin {kv : List KV} {seen : Array Nat} {cs cs1 : List Co} (h : PartC kv seen cs cs1) (ha : ∀ i, i < kv.length → i ∈ seen) : newCs kv cs cs1 := ⟨h.len, fun q hq => by
  rw [h.at_ q hq]
  cases hk : kAt (Prod.fst : KV → Int) (q : Int) kv with
  | none => rfl
  | some x => simp only; rw [if_pos (ha _ (List.getElem?_eq_some_iff.1 (kAt_some hk).1).1)]⟩
theorem IdxI.mem {ms : List Mv} {ord : List Int} (h : IdxI ms ord) : ∀ y ∈ ord, ∃ (i : Nat) (m : Mv), y = (i : Int) ∧ ms[i]? = some m := fun y hy => by
  obtain ⟨i, hi⟩ := List.getElem?_of_mem hy
  obtain ⟨q, m, e, hq, _⟩ := h.idx i y hi
  exact ⟨q, m, e, hq⟩
theorem zst_one : ∀ v ∈ Z7, Value.oneCell' v = true := by simp [Z7, Value.oneCell']
theorem kv_ord {ord : List Int} {cs : List Co} {n i : Nat} {yq : Int} {c : Co} (h : (kvOf ord cs n)[i]? = some (yq, c)) : yq ∈ ord := by
  unfold kvOf at h
  exact (List.of_mem_zip (List.mem_of_mem_drop (List.mem_of_getElem? h))).1
theorem zip_sub {α γ : Type} : ∀ (xs : List α) (ys : List γ), List.Sublist ((xs.zip ys).map Prod.fst) xs
  | [], _ => by simp
  | x :: xs, [] => by simp
  | x :: xs, y :: ys => by simp only [List.zip_cons_cons, List.map_cons]; exact (zip_sub xs ys).cons_cons x
theorem kv_keys {ord : List Int} {cs : List Co} {n : Nat} (hd : ord.Nodup) : ((kvOf ord cs n).map Prod.fst).Nodup := by
  unfold kvOf
  exact (((List.drop_sublist n (ord.zip cs)).map Prod.fst).trans (zip_sub ord cs)).nodup hd
theorem kv_get {ord : List Int} {cs : List Co} {n i : Nat} : (kvOf ord cs n)[i]? = (ord.zip cs)[n + i]? := by unfold kvOf; rw [List.getElem?_drop]
theorem EngI.add {g : Eg} {p : Int} {KL KP KL' KP' : HP} {m : Mv} {t : Sk} {cs0 cs1 : List Co} {x : Ks} {kp' : List Ks} (h : EngI g p KL KP) (hf : chkE (g.ms ++ [m]) = 0) (hr : addRun g p m = .ok (t, cs0)) (ox : x.s = t)
    (hF : RunF g (start0 g.k p) (ordM (g.ms ++ [m])) KL KP KL' KP' x kp') (hN : newCs (kvOf (addOrd g m) cs0 (16 * (addAt g m / 16))) (g.cs ++ [Co0]) cs1) : EngI ⟨g.k, g.ms ++ [m], cs1, addOrd g m, kp', x⟩ p KL' KP' := by
  have hfi := chkM_none.1 (chkE_none.1 hf)
  have hi := h.ix.ins m
  have hc := h.ix.cut m.value
  have hcl := cutN_le (p := laterB m.value) (o := ordM g.ms)
  have hc2 : addAt g m ≤ g.ord.length := cutN_le
  have hol := h.ix.len
  have hgl := h.cl
  have hl0 := runL_len hr
  rw [ordM_len, List.length_append, List.length_singleton] at hl0
  refine ⟨hfi.1, hfi.2, hi, by rw [hF.kl, ordM_len], hF.kp, hF.cr, h.st, by rw [hN.1, List.length_append, List.length_append, hgl]; rfl, cs0, by rw [ox]; exact hr, fun i q hq => ?_⟩
  have hqm : q < g.ms.length + 1 := by
    obtain ⟨r, y, e, hy, _⟩ := hi.idx i _ hq
    have := (List.getElem?_eq_some_iff.1 hy).1
    rw [List.length_append, List.length_singleton] at this; omega
  have hn := hN.2 q (by rw [List.length_append, List.length_singleton]; omega)
  have hil : i < g.ms.length + 1 := by
    have := (List.getElem?_eq_some_iff.1 hq).1
    have h2 : (addOrd g m).length = (g.ms ++ [m]).length := hi.len
    rw [List.length_append, List.length_singleton] at h2
    exact h2 ▸ this
  obtain ⟨c, hcc⟩ : ∃ c, cs0[i]? = some c := ⟨_, List.getElem?_eq_getElem (by omega)⟩
  have hz : (addOrd g m |>.zip cs0)[i]? = some ((q : Int), c) := List.getElem?_zip_eq_some.2 ⟨hq, hcc⟩
  by_cases hi16 : i < 16 * (addAt g m / 16)
  · have hnone : kAt (Prod.fst : KV → Int) (q : Int) (kvOf (addOrd g m) cs0 (16 * (addAt g m / 16))) = none := by
      refine kAt_no fun y hy e => ?_
      obtain ⟨j, hj⟩ := List.getElem?_of_mem hy
      rw [kv_get] at hj
      obtain ⟨a, b⟩ := y
      obtain ⟨h1, _⟩ := List.getElem?_zip_eq_some.1 hj
      simp only at e
      subst e
      have := (List.getElem?_inj (List.getElem?_eq_some_iff.1 hq).1 hi.dis).1 (hq.trans h1.symm)
      omega
    rw [hnone] at hn
    have hia : i < addAt g m := by omega
    have hgo : g.ord[i]? = some (q : Int) := by
      have : (addOrd g m)[i]? = g.ord[i]? := by
        show (insN g.ord (addAt g m) _)[i]? = _
        unfold insN; rw [ins_get hc2, if_pos hia]
      rw [← this]; exact hq
    obtain ⟨cs', hrun, hcs⟩ := h.run
    have hq2 : q < g.ms.length := by
      obtain ⟨r, y, e, hy, _⟩ := h.ix.idx i _ hgo
      have := (List.getElem?_eq_some_iff.1 hy).1
      omega
    show cs1[q]? = cs0[i]?
    rw [hn]
    simp only
    rw [List.getElem?_append_left (by omega), hcs i q hgo]
    have hlo := ordM_len g.ms
    have hln := ordM_len (g.ms ++ [m])
    rw [List.length_append, List.length_singleton] at hln
    obtain ⟨u1, e1⟩ := runL_take_ok hrun (n := addAt g m) (by omega)
    obtain ⟨u2, e2⟩ := runL_take_ok hr (n := addAt g m) (by omega)
    rw [ordM_pre (by rw [← hc]; exact Nat.le_refl _), e1] at e2
    have he : cs'.take (addAt g m) = cs0.take (addAt g m) := by simpa using (congrArg (fun r => match r with | Except.ok x => x.2 | .error _ => []) e2)
    rw [← List.getElem?_take_of_lt hia, he, List.getElem?_take_of_lt hia]
  · have hk : kAt (Prod.fst : KV → Int) (q : Int) (kvOf (addOrd g m) cs0 (16 * (addAt g m / 16))) = some (i - 16 * (addAt g m / 16), ((q : Int), c)) :=
      kAt_at (kf := (Prod.fst : KV → Int)) (y := ((q : Int), c)) (kv_keys hi.dis) (by rw [kv_get, show 16 * (addAt g m / 16) + (i - 16 * (addAt g m / 16)) = i by omega]; exact hz)
    rw [hk] at hn
    show cs1[q]? = cs0[i]?
    rw [hn, hcc]
end Go.SL

namespace Go.SL
open Go
abbrev repM (k p : Int) (ms : List Mv) : Except (Int × Int) (Sk × List Co) := runM k p (ordM ms)
def skOf (k p : Int) (ms : List Mv) : Sk := match repM k p ms with | .ok x => x.1 | .error _ => sk0
def findC (cs : List Co) (s : Int) : Co := (cs.find? fun c => decide (c.seq = s)).getD Co0
def csOf (k p : Int) (ms : List Mv) : List Co := match repM k p ms with | .ok x => (List.range ms.length).map fun (q : Nat) => findC x.2 ((q : Int) + 1) | .error _ => []
theorem find_at {α : Type} {f : α → Bool} : ∀ {xs : List α} {i : Nat} {x : α}, xs[i]? = some x → f x = true → (∀ (j : Nat) (y : α), xs[j]? = some y → f y = true → j = i) → xs.find? f = some x
  | [], i, x, h, _, _ => by simp at h
  | y :: xs, 0, x, h, hf, _ => by
    simp only [List.getElem?_cons_zero, Option.some.injEq] at h; subst h
    simp [hf]
  | y :: xs, i + 1, x, h, hf, hu => by
    have hy : f y = false := by
      cases hy : f y with
      | false => rfl
      | true => have := hu 0 y rfl hy; omega
    simp only [List.getElem?_cons_succ] at h
    simp only [List.find?_cons, hy]
    exact find_at h hf fun j z hz hfz => by have := hu (j + 1) z (by simpa using hz) hfz; omega
theorem skOf_ok {k p : Int} {ms : List Mv} {t : Sk} {cs : List Co} (h : repM k p ms = .ok (t, cs)) : skOf k p ms = t := by unfold skOf; rw [h]
theorem csOf_ok {k p : Int} {ms : List Mv} {t : Sk} {cs : List Co} (h : repM k p ms = .ok (t, cs)) : csOf k p ms = (List.range ms.length).map fun (q : Nat) => findC cs ((q : Int) + 1) := by unfold csOf; rw [h]
theorem Fine.inj {ms : List Mv} (hf : Fine ms) {i j : Nat} {x y : Mv} (hi : ms[i]? = some x) (hj : ms[j]? = some y) (e : x.seq = y.seq) : i = j := by
  have h1 := (hf i x hi).1
  have h2 := (hf j y hj).1
  omega
theorem Fine.nodup {ms : List Mv} (hf : Fine ms) : (ms.map Mv.seq).Nodup := by
  rw [List.nodup_iff_pairwise_ne, List.pairwise_iff_getElem]
  intro i j hi hj hij e
  rw [List.length_map] at hi hj
  rw [List.getElem_map, List.getElem_map] at e
  have := hf.inj (List.getElem?_eq_getElem hi) (List.getElem?_eq_getElem hj) e
  omega
theorem ord_inj {ms : List Mv} (hf : Fine ms) {i j : Nat} {x y : Mv} (hi : (ordM ms)[i]? = some x) (hj : (ordM ms)[j]? = some y) (e : x.seq = y.seq) : i = j := by
  have hn : ((ordM ms).map Mv.seq).Nodup := ((ordM_perm ms).map Mv.seq).nodup_iff.2 hf.nodup
  have h1 : ((ordM ms).map Mv.seq)[i]? = some x.seq := by rw [List.getElem?_map, hi]; rfl
  have h2 : ((ordM ms).map Mv.seq)[j]? = some x.seq := by rw [List.getElem?_map, hj, e]; rfl
  exact (List.getElem?_inj (List.getElem?_eq_some_iff.1 h1).1 hn).1 (h1.trans h2.symm)
theorem ord_at {ms : List Mv} {q : Nat} {m : Mv} (hq : ms[q]? = some m) : ∃ i : Nat, (ordM ms)[i]? = some m := List.getElem?_of_mem ((ordM_perm ms).mem_iff.2 (List.mem_of_getElem? hq))
theorem cs_at {k p : Int} {ms : List Mv} {t : Sk} {cs0 : List Co} (hf : Fine ms) (hr : repM k p ms = .ok (t, cs0)) {q : Nat} {m : Mv} (hq : ms[q]? = some m) :
    ∃ (i : Nat) (c : Co), (ordM ms)[i]? = some m ∧ cs0[i]? = some c ∧ (csOf k p ms)[q]? = some c ∧ findC cs0 ((q : Int) + 1) = c ∧ c.seq = (q : Int) + 1 := by
  obtain ⟨i, hi⟩ := ord_at hq
  have hl := runM_len hr
  have hil := (List.getElem?_eq_some_iff.1 hi).1
  obtain ⟨c, hc⟩ : ∃ c, cs0[i]? = some c := ⟨_, List.getElem?_eq_getElem (by omega)⟩
  have hs := runM_seq hr hi hc
  have hm := (hf q m hq).1
  have hfc : findC cs0 ((q : Int) + 1) = c := by
    unfold findC
    rw [find_at hc (by rw [hs, hm]; simp) fun j y hy hfy => by
      have hjl := (List.getElem?_eq_some_iff.1 hy).1
      obtain ⟨z, hz⟩ : ∃ z, (ordM ms)[j]? = some z := ⟨_, List.getElem?_eq_getElem (by omega)⟩
      have hs2 := runM_seq hr hz hy
      exact ord_inj hf hz hi (by rw [← hs2, of_decide_eq_true hfy, hm])]
    rfl
  refine ⟨i, c, hi, hc, ?_, hfc, by rw [hs, hm]⟩
  rw [csOf_ok hr, List.getElem?_map, List.getElem?_range (List.getElem?_eq_some_iff.1 hq).1]
  simp only [Option.map_some, hfc]
theorem csOf_len {k p : Int} {ms : List Mv} {x : Sk × List Co} (hr : repM k p ms = .ok x) : (csOf k p ms).length = ms.length := by
  obtain ⟨t, cs⟩ := x
  rw [csOf_ok hr]; simp
theorem EngI.rep {g : Eg} {p : Int} {KL KP : HP} (h : EngI g p KL KP) : ∃ cs0, repM g.k p g.ms = .ok (g.last.s, cs0) ∧ ∀ (i q : Nat), g.ord[i]? = some (q : Int) → g.cs[q]? = cs0[i]? := by
  obtain ⟨cs0, hr, hc⟩ := h.run
  exact ⟨cs0, runM_iff.2 ⟨h.st, hr⟩, hc⟩
theorem EngI.sk_eq {g : Eg} {p : Int} {KL KP : HP} (h : EngI g p KL KP) : g.last.s = skOf g.k p g.ms := by
  obtain ⟨cs0, hr, _⟩ := h.rep
  rw [skOf_ok hr]
theorem EngI.cs_eq {g : Eg} {p : Int} {KL KP : HP} (h : EngI g p KL KP) : g.cs = csOf g.k p g.ms := by
  obtain ⟨cs0, hr, hc⟩ := h.rep
  have hl := csOf_len hr
  apply List.ext_getElem?
  intro q
  by_cases hq : q < g.ms.length
  · obtain ⟨i, c, h1, h2, h3, _⟩ := cs_at h.fine hr (List.getElem?_eq_getElem hq)
    rw [h3]
    have hil := (List.getElem?_eq_some_iff.1 h1).1
    rw [ordM_len] at hil
    obtain ⟨y, hy⟩ : ∃ y, g.ord[i]? = some y := ⟨_, List.getElem?_eq_getElem (by rw [h.ix.len]; exact hil)⟩
    obtain ⟨r, m, rfl, hm, ho⟩ := h.ix.idx i y hy
    rw [h1] at ho
    cases ho
    obtain rfl : r = q := h.fine.inj hm (List.getElem?_eq_getElem hq) rfl
    rw [hc i r hy, h2]
  · rw [List.getElem?_eq_none (by rw [h.cl]; omega), List.getElem?_eq_none (by omega)]
theorem EngI.nil {k p : Int} (h : startE k p = 0) : EngI (eg0 k p) p emp emp := by
  refine ⟨Nat.zero_le _, (fun i m hm => by simp [eg0] at hm), IdxI.nil, by simp [eg0], fun j x hx => ?_, ⟨?_, ?_⟩, h, rfl, [], rfl, fun i q hq => by simp [eg0] at hq⟩
  · unfold eg0 at hx
    cases j with
    | succ j => simp at hx
    | zero =>
      simp only [List.getElem?_cons_zero, Option.some.injEq] at hx
      subst hx
      exact ⟨⟨[], rfl⟩, by unfold KsR; simp only [start0_l, start0_p]; exact ⟨RdS.nil, RdS.nil⟩⟩
  · simp only [eg0, start0_l]; exact RdS.nil
  · simp only [eg0, start0_p]; exact RdS.nil
def difOne (now was : Co) : List Aj := if now.value ≠ was.value ∨ now.var ≠ was.var then [⟨was.seq, IntKind.i64.wrap (now.value - was.value), IntKind.i64.wrap (now.var - was.var)⟩] else []
def difL (cs cs1 : List Co) : List Aj := ((cs.zip cs1).map fun x => difOne x.2 x.1).flatten
theorem adj_dif {kv : List KV} {cs cs1 : List Co} (h : newCs kv (cs ++ [Co0]) cs1) : adjL kv cs cs.length = difL cs cs1 := by
  have hl := h.1
  rw [List.length_append, List.length_singleton] at hl
  unfold adjL difL
  rw [List.take_length]
  congr 1
  apply List.ext_getElem?
  intro i
  rw [List.getElem?_map, List.getElem?_map, List.getElem?_zipIdx]
  by_cases hi : i < cs.length
  · obtain ⟨c, hc⟩ : ∃ c, cs[i]? = some c := ⟨_, List.getElem?_eq_getElem hi⟩
    obtain ⟨d, hd⟩ : ∃ d, cs1[i]? = some d := ⟨_, List.getElem?_eq_getElem (by omega)⟩
    rw [zip_get2 hc hd, hc]
    simp only [Option.map_some, Option.some.injEq, Nat.zero_add]
    have h2 := h.2 i (by rw [List.length_append]; omega)
    rw [hd, List.getElem?_append_left hi, hc] at h2
    unfold adjOne nowOf
    cases hk : kAt (Prod.fst : KV → Int) (i : Int) kv with
    | none =>
      rw [hk] at h2
      simp only [Option.some.injEq] at h2
      subst h2
      unfold difOne; simp
    | some q =>
      rw [hk] at h2
      simp only [Option.some.injEq] at h2
      subst h2
      rfl
  · have h1 : cs[i]? = none := List.getElem?_eq_none (by omega)
    have h3 : (cs.zip cs1)[i]? = none := List.getElem?_eq_none (by rw [List.length_zip]; omega)
    rw [h1, h3]; rfl
def addErr (k p : Int) (ms : List Mv) (m : Mv) : Int := if chkE (ms ++ [m]) ≠ 0 then chkE (ms ++ [m]) else match repM k p (ms ++ [m]) with | .error x => x.2 | .ok _ => 0
def addMs (k p : Int) (ms : List Mv) (m : Mv) : List Mv := if addErr k p ms m = 0 then ms ++ [m] else ms
def addC (k p : Int) (ms : List Mv) (m : Mv) : Co := if addErr k p ms m = 0 then (csOf k p (ms ++ [m]))[ms.length]?.getD Co0 else Co0
def addD (k p : Int) (ms : List Mv) (m : Mv) : List Aj := if addErr k p ms m = 0 then difL (csOf k p ms) (csOf k p (ms ++ [m])) else []
theorem addE_eq {g : Eg} {p : Int} {m : Mv} (h : startE g.k p = 0) : addE g p m = addErr g.k p g.ms m := by
  unfold addE addErr addRun
  split
  · rfl
  · cases hr : runL (stepM g.k) (start0 g.k p) (ordM (g.ms ++ [m])) with
    | error x => obtain ⟨i, e⟩ := x; rw [show repM g.k p (g.ms ++ [m]) = .error ((i : Int), e) from runM_er h hr]
    | ok x => rw [show repM g.k p (g.ms ++ [m]) = .ok x from runM_ok h hr]
structure Good (k p : Int) (ms : List Mv) : Prop where
  st : startE k p = 0
  n : ms.length ≤ 2000
  fine : Fine ms
  rep : ∃ t cs, repM k p ms = .ok (t, cs)
theorem Good.nil {k p : Int} (h : startE k p = 0) : Good k p [] := ⟨h, by decide, fun i m hm => by simp at hm, start0 k p, [], runM_ok h rfl⟩
theorem addErr_ok {k p : Int} {ms : List Mv} {m : Mv} (h : addErr k p ms m = 0) : chkE (ms ++ [m]) = 0 ∧ ∃ x, repM k p (ms ++ [m]) = .ok x := by
  unfold addErr at h
  split at h
  · rename_i h1; exact absurd h h1
  · rename_i h1
    refine ⟨Decidable.not_not.1 h1, ?_⟩
    cases hr : repM k p (ms ++ [m]) with
    | error x => obtain ⟨i, e⟩ := x; rw [hr] at h; exact absurd h (runM_err hr)
    | ok x => exact ⟨x, rfl⟩
theorem Good.add {k p : Int} {ms : List Mv} {m : Mv} (hg : Good k p ms) (h : addErr k p ms m = 0) : Good k p (ms ++ [m]) := by
  obtain ⟨h1, ⟨t, cs⟩, h2⟩ := addErr_ok h
  have h3 := chkM_none.1 (chkE_none.1 h1)
  exact ⟨hg.st, h3.1, h3.2, t, cs, h2⟩
theorem Good.addMs {k p : Int} {ms : List Mv} (m : Mv) (hg : Good k p ms) : Good k p (addMs k p ms m) := by
  unfold SL.addMs
  split
  · exact hg.add (by assumption)
  · exact hg
def fillM (k p : Int) (l : List Mv) : List Mv := l.foldl (fun ms m => addMs k p ms { m with seq := (ms.length : Int) + 1 }) []
theorem addMs_len {k p : Int} {ms : List Mv} {m : Mv} : (addMs k p ms m).length ≤ ms.length + 1 := by
  unfold addMs; split <;> simp
end Go.SL

namespace Go.SL
open Go
section
variable {P : Program} {f : FuncId} {args : Array Value} {α γ : Type} {φ : α → Prop} {Bs : α → List HP} {Rs : List HP} {Q : Value → HP}
def boxed (φ : α → Prop) (Bs : α → List HP) : HP := hex fun x => lift (φ x) (stars (Bs x))
theorem AC.open (h : ∀ x, φ x → AC P f args (stars (Bs x ++ Rs)) Q) : AC P f args (stars (boxed φ Bs :: Rs)) Q := fun w hp hA hs => by
  obtain ⟨h1, h2, hd, rfl, ⟨x, hx, hb⟩, hr⟩ := hA
  exact h x hx w _ (stars_append ⟨h1, h2, hd, rfl, hb, hr⟩) hs
theorem boxed.mk {x : α} (hx : φ x) {h : Hp} (hs : stars (Bs x ++ Rs) h) : stars (boxed φ Bs :: Rs) h :=
  star_mono (fun _ hb => ⟨x, hx, hb⟩) (fun _ => id) (stars_un hs)
def Imp (L M : List HP) : Prop := ∀ (β : Base) (w : World), Sat β L w → Sat β M w
theorem Imp.gv {L M : List HP} (g : Gives L M) : Imp L M := fun β w hs => hs.gives g
theorem Imp.trans {L M N : List HP} (h : Imp L M) (k : Imp M N) : Imp L N := fun β w hs => k β w (h β w hs)
theorem Imp.bx {x : α} {L M : List HP} (hx : φ x) (g : Gives L (Bs x ++ Rs)) (g2 : Gives (boxed φ Bs :: Rs) M) : Imp L M := fun β w hs =>
  Sat.gives g2 (Has.mono (hs.gives g) fun _ h => boxed.mk hx h)
theorem Imp.ownNil {L : List HP} (T : TypeId) (k : Nat) : Imp L (own T k none 0 0 [] :: L) := fun β w hs => Has.ownNil hs
theorem Imp.emp {L : List HP} : Imp L (SL.emp :: L) := fun β w hs => Has.mono hs fun h hh => ⟨fun _ => none, h, fun b => .inl rfl, by funext b; simp [Hp.add], fun _ => rfl, hh⟩
theorem Has.self {A : HP} {w : World} {hp : Hp} (hA : A hp) (hs : hp.sub w) : Has ⟨w, hp⟩ A w := ⟨⟨hp, hA, hs, fun b hb => .inl hb⟩, ⟨fun _ _ _ => rfl, Nat.le_refl _, rfl, rfl, rfl⟩⟩
theorem AC.wrapR {v : Value} {Cs : List HP} (h : ∀ x, φ x → ∃ (As F : List HP) (v0 : Value) (B0 : List HP), Takes (Bs x ++ Rs) As F ∧ AC P f args (stars As) (Ret v0 B0) ∧ v0 = v ∧ Imp (B0 ++ F) Cs) : AC P f args (stars (boxed φ Bs :: Rs)) (Ret v Cs) := fun w hp hA hs => by
  obtain ⟨h1, h2, hd, rfl, ⟨x, hx, hb⟩, hr⟩ := hA
  have hS : Sat ⟨w, _⟩ (Bs x ++ Rs) w := Has.self (stars_append ⟨h1, h2, hd, rfl, hb, hr⟩) hs
  obtain ⟨As, F, v0, B0, tk, hc, rfl, hi⟩ := h x hx
  refine (hc.frame (Has.mono hS fun _ => tk.star)).mono ?_
  rintro e w' ⟨r, rfl, ⟨hq, ⟨q1, q2, qd, rfl, ⟨hr, hB⟩, hF⟩, hsub, hown⟩, hrest⟩
  have hs2 : Sat _ (B0 ++ F) w' := ⟨⟨_, stars_mk ⟨q1, q2, qd, rfl, hB, hF⟩, hsub, hown⟩, hrest⟩
  exact ⟨r, rfl, (hi _ _ hs2).mono fun _ h => ⟨hr, h⟩⟩
theorem AC.wrapO {ψ : γ → Prop} {R' : γ → Value} {Cs : γ → List HP} (h : ∀ x, φ x → ∃ (As F : List HP) (δ : Type) (ψ0 : δ → Prop) (R0 : δ → Value) (B0 : δ → List HP), Takes (Bs x ++ Rs) As F ∧ AC P f args (stars As) (Outs ψ0 R0 B0) ∧ ∀ y, ψ0 y → ∃ z, ψ z ∧ R0 y = R' z ∧ Imp (B0 y ++ F) (Cs z)) :
    AC P f args (stars (boxed φ Bs :: Rs)) (Outs ψ R' Cs) := fun w hp hA hs => by
  obtain ⟨h1, h2, hd, rfl, ⟨x, hx, hb⟩, hr⟩ := hA
  have hS : Sat ⟨w, _⟩ (Bs x ++ Rs) w := Has.self (stars_append ⟨h1, h2, hd, rfl, hb, hr⟩) hs
  obtain ⟨As, F, δ, ψ0, R0, B0, tk, hc, hk⟩ := h x hx
  refine (hc.frame (Has.mono hS fun _ => tk.star)).mono ?_
  rintro e w' ⟨r, rfl, ⟨hq, ⟨q1, q2, qd, rfl, ⟨y, ⟨hy, hr⟩, hB⟩, hF⟩, hsub, hown⟩, hrest⟩
  obtain ⟨z, hz, e2, hi⟩ := hk y hy
  have hs2 : Sat _ (B0 y ++ F) w' := ⟨⟨_, stars_mk ⟨q1, q2, qd, rfl, hB, hF⟩, hsub, hown⟩, hrest⟩
  exact ⟨r, rfl, (hi _ _ hs2).mono fun _ h => ⟨z, ⟨hz, hr.trans e2⟩, h⟩⟩
theorem AC.outs {As : List HP} {ψ0 : α → Prop} {R0 : α → Value} {B0 : α → List HP} {ψ : γ → Prop} {R' : γ → Value} {Cs : γ → List HP} (hc : AC P f args (stars As) (Outs ψ0 R0 B0)) (hk : ∀ y, ψ0 y → ∃ z, ψ z ∧ R0 y = R' z ∧ Imp (B0 y) (Cs z)) : AC P f args (stars As) (Outs ψ R' Cs) := fun w hp hA hs => by
  refine (hc w hp hA hs).mono ?_
  rintro e w' ⟨r, rfl, ⟨hq, ⟨y, ⟨hy, hr⟩, hB⟩, hsub, hown⟩, hrest⟩
  obtain ⟨z, hz, e2, hi⟩ := hk y hy
  exact ⟨r, rfl, (hi _ _ ⟨⟨_, hB, hsub, hown⟩, hrest⟩).mono fun _ h => ⟨z, ⟨hz, hr.trans e2⟩, h⟩⟩
end
end Go.SL

namespace Go.SL
open Go
def heavyM (m : Mv) : Bool := decide (100 < (m.item.size : Int) ∨ 100 < (m.lot.size : Int))
def lightMs (ms : List Mv) : Bool := !(decide (50 < (ms.length : Int)) || ms.any heavyM)
theorem light_1 {ms : List Mv} (h : 50 < (ms.length : Int)) : lightMs ms = false := by unfold lightMs; rw [decide_eq_true h]; rfl
theorem light_2 {ms : List Mv} {i : Nat} {m : Mv} (hx : ms[i]? = some m) (h : 100 < (m.item.size : Int) ∨ 100 < (m.lot.size : Int)) : lightMs ms = false := by
  have : ms.any heavyM = true := List.any_eq_true.2 ⟨m, List.mem_of_getElem? hx, decide_eq_true h⟩
  unfold lightMs; rw [this, Bool.or_true]; rfl
theorem light_3 {ms : List Mv} {i : Nat} (h : ¬ 50 < (ms.length : Int)) (hi : i = ms.length) (hI : ∀ (j : Nat) (y : Mv), j < i → ms[j]? = some y → heavyM y = false) : lightMs ms = true := by
  have : ms.any heavyM = false := List.any_eq_false.2 fun y hy => by
    obtain ⟨j, hj⟩ := List.getElem?_of_mem hy
    simp [hI j y (by rw [hi]; exact (List.getElem?_eq_some_iff.1 hj).1) hj]
  unfold lightMs; rw [decide_eq_false h, this]; rfl
theorem light_len {ms : List Mv} (h : lightMs ms = true) : ms.length ≤ 50 := by
  unfold lightMs at h
  simp only [Bool.not_eq_true', Bool.or_eq_false_iff] at h
  have := of_decide_eq_false h.1; omega
theorem heavy_no {m : Mv} (h1 : ¬ 100 < (m.item.size : Int)) (h2 : ¬ 100 < (m.lot.size : Int)) : heavyM m = false := decide_eq_false (not_or.2 ⟨h1, h2⟩)
theorem notYetM {q : Mv → Bool} {ms : List Mv} {i : Nat} {m : Mv} (hx : ms[i]? = some m) (h : q m = false) (hI : ∀ (j : Nat) (y : Mv), j < i → ms[j]? = some y → q y = false) : ∀ (j : Nat) (y : Mv), j < i + 1 → ms[j]? = some y → q y = false := fun j y hj hy => by
  rcases Nat.lt_succ_iff_lt_or_eq.1 hj with h' | rfl
  · exact hI j y h' hy
  · rw [hx] at hy; cases hy; exact h
def AloneTo (ms : List Mv) (i : Nat) : Prop := ∀ (a : Nat) (x : Mv), a < i → ms[a]? = some x → x.kind ≤ 2 ∧ ∀ (b : Nat) (y : Mv), b < a → ms[b]? = some y → y.value ≠ x.value
def Alone (ms : List Mv) : Prop := AloneTo ms ms.length
theorem AloneTo.next {ms : List Mv} {i : Nat} {m : Mv} (h : AloneTo ms i) (hx : ms[i]? = some m) (hk : m.kind ≤ 2) (hv : ∀ (b : Nat) (y : Mv), b < i → ms[b]? = some y → y.value ≠ m.value) : AloneTo ms (i + 1) := fun a x ha hxa => by
  rcases Nat.lt_succ_iff_lt_or_eq.1 ha with h' | rfl
  · exact h a x h' hxa
  · rw [hx] at hxa; cases hxa; exact ⟨hk, hv⟩
theorem Fine.lt {ms : List Mv} {i : Nat} {m : Mv} (hf : Fine ms) (hx : ms[i]? = some m) : ∀ y ∈ ordM (ms.take i), y.seq < m.seq := fun y hy => by
  obtain ⟨j, hj⟩ := List.getElem?_of_mem ((ordM_perm _).mem_iff.1 hy)
  have hji : j < i := by have := (List.getElem?_eq_some_iff.1 hj).1; rw [List.length_take] at this; omega
  rw [List.getElem?_take_of_lt hji] at hj
  have h1 := (hf j y hj).1; have h2 := (hf i m hx).1; omega
theorem ordM_succ {ms : List Mv} {i : Nat} {m : Mv} (hx : ms[i]? = some m) : ordM (ms.take (i + 1)) = insB (laterB m.value) m (ordM (ms.take i)) := by rw [take_one hx, ordM_app]
def mvX (a b c d e : Int) : Mv := ⟨a, b, ⟨#[120]⟩, c, d, e, ⟨#[]⟩, 0⟩
end Go.SL

namespace Go.SL
open Go
def x1 : Mv := mvX 1 10 1 4 40
def x2 : Mv := mvX 2 20 2 3 0
def x3 : Mv := mvX 3 5 1 2 50
def x4 : Mv := mvX 4 1 2 1 0
theorem li0 : startE 1 0 = 0 := by kernel_rfl
theorem li1 : addErr 1 0 [] x1 = 0 ∧ addC 1 0 [] x1 = ⟨1, 4, 40, 0⟩ ∧ addD 1 0 [] x1 = [] ∧ addMs 1 0 [] x1 = [x1] := ⟨by kernel_rfl, by kernel_rfl, by kernel_rfl, by kernel_rfl⟩
theorem li2 : addErr 1 0 [x1] x2 = 0 ∧ addC 1 0 [x1] x2 = ⟨2, -3, -30, 0⟩ ∧ addD 1 0 [x1] x2 = [] ∧ addMs 1 0 [x1] x2 = [x1, x2] := ⟨by kernel_rfl, by kernel_rfl, by kernel_rfl, by kernel_rfl⟩
theorem li3 : addErr 1 0 [x1, x2] x3 = 0 ∧ addC 1 0 [x1, x2] x3 = ⟨3, 2, 50, 0⟩ ∧ addD 1 0 [x1, x2] x3 = [⟨2, -30, 0⟩] ∧ addMs 1 0 [x1, x2] x3 = [x1, x2, x3] := ⟨by kernel_rfl, by kernel_rfl, by kernel_rfl, by kernel_rfl⟩
theorem li4 : addErr 1 0 [x1, x2, x3] x4 = 21 ∧ addMs 1 0 [x1, x2, x3] x4 = [x1, x2, x3] := ⟨by kernel_rfl, by kernel_rfl⟩
def lk : Sk := skOf 1 0 [x1, x2, x3]
theorem li5 : costAt (csOf 1 0 [x1, x2, x3]) 2 = (⟨2, -3, -60, 0⟩, true) ∧ atW Co.qty 10 ([x1, x2, x3].zip (csOf 1 0 [x1, x2, x3])) = 6 ∧ atW Co.value 10 ([x1, x2, x3].zip (csOf 1 0 [x1, x2, x3])) = 90 ∧ lk.qty = 3 ∧ lk.value = 30 := ⟨by kernel_rfl, by kernel_rfl, by kernel_rfl, by kernel_rfl, by kernel_rfl⟩
end Go.SL

namespace Go.SL
open Go
theorem Good.day {k p : Int} {ms : List Mv} (h : Good k p ms) : ∀ m ∈ ms, m.value ≤ 109572 := fun m hm => by
  obtain ⟨i, hi⟩ := List.getElem?_of_mem hm
  have h1 := (h.fine i m hi).2.1
  unfold Mv.one at h1
  split at h1
  · cases h1
  · rename_i h2
    unfold inB at h2
    simp only [Bool.not_eq_true', Bool.not_eq_false, decide_eq_true_eq] at h2
    omega
end Go.SL
namespace Go.SL
open Go
theorem Good.sk {k p : Int} {ms : List Mv} (h : Good k p ms) : (skOf k p ms).layers.length ≤ 1000000 ∧ (skOf k p ms).past.length ≤ 1000000 := by
  obtain ⟨t, cs0, hr⟩ := h.rep
  have h1 := runL_ok (fun m hm => by obtain ⟨q, hq⟩ := List.getElem?_of_mem ((ordM_perm _).mem_iff.1 hm); exact one_ok (h.fine q m hq).2.1) (start0_ok (k := k) (p := p) 0) (runM_iff.1 hr).2
  have h2 := h1.nl; have h3 := h1.np; have h4 := h.n
  rw [ordM_len] at h2 h3
  rw [skOf_ok hr]; omega
theorem cost_rep {k p : Int} {ms : List Mv} {t : Sk} {cs0 : List Co} (hf : Fine ms) (hr : repM k p ms = .ok (t, cs0)) {i : Nat} {c : Co} (hc : cs0[i]? = some c) : costAt (csOf k p ms) c.seq = (c, true) := by
  have hl := runM_len hr
  obtain ⟨m, hm⟩ : ∃ m, (ordM ms)[i]? = some m := ⟨_, List.getElem?_eq_getElem (by have := (List.getElem?_eq_some_iff.1 hc).1; omega)⟩
  obtain ⟨q, hq⟩ := List.getElem?_of_mem ((ordM_perm ms).mem_iff.1 (List.mem_of_getElem? hm))
  obtain ⟨j, c', hj, hcj, h3, _, hs⟩ := cs_at hf hr hq
  obtain rfl : j = i := ord_inj hf hj hm rfl
  rw [hc] at hcj; cases hcj
  rw [hs]; exact costAt_ok h3
end Go.SL

namespace Go.SL
open Go
structure Pair (n : Nat) (c d : Co) : Prop where
  s : c.seq = n
  t : d.seq = n
  q : c.qty = d.qty
  b : (-2000000000000000 ≤ c.value ∧ c.value ≤ 2000000000000000) ∧ (-2000000000000000 ≤ d.value ∧ d.value ≤ 2000000000000000) ∧ (-1000000000000000 ≤ c.var ∧ c.var ≤ 1000000000000000) ∧ -1000000000000000 ≤ d.var ∧ d.var ≤ 1000000000000000
def PairL : Nat → List Co → List Co → Prop
  | _, [], _ => True
  | n, c :: cs, d :: ds => Pair n c d ∧ PairL (n + 1) cs ds
  | _, _ :: _, [] => False
theorem PairL.of : ∀ {cs ds : List Co} {n : Nat}, cs.length ≤ ds.length → (∀ (i : Nat) (c d : Co), cs[i]? = some c → ds[i]? = some d → Pair (n + i) c d) → PairL n cs ds
  | [], _, _, _, _ => by unfold PairL; trivial
  | c :: cs, [], _, h, _ => by simp at h
  | c :: cs, d :: ds, n, h, hp => by
    unfold PairL
    refine ⟨hp 0 c d rfl rfl, PairL.of (by simpa using h) fun i x y hx hy => ?_⟩
    have := hp (i + 1) x y (by simpa using hx) (by simpa using hy)
    rwa [show n + (i + 1) = n + 1 + i by omega] at this
theorem dif_cons {c d : Co} {cs ds : List Co} : difL (c :: cs) (d :: ds) = difOne d c ++ difL cs ds := rfl
structure Srt (n N : Int) (D : List Aj) : Prop where
  one : ∀ d ∈ D, n ≤ d.seq ∧ d.seq < N ∧ (d.value ≠ 0 ∨ d.var ≠ 0)
  two : D.Pairwise fun a b => a.seq < b.seq
end Go.SL
namespace Go.SL
open Go
end Go.SL
namespace Go.SL
open Go
theorem dif_len : ∀ {cs ds : List Co}, (difL cs ds).length ≤ cs.length
  | [], _ => by simp [difL]
  | c :: cs, [] => by simp [difL]
  | c :: cs, d :: ds => by
    have ih := dif_len (cs := cs) (ds := ds)
    have h1 : (difOne d c).length ≤ 1 := by unfold difOne; split <;> simp
    rw [dif_cons, List.length_append, List.length_cons]; omega
theorem addD_len {k p : Int} {ms : List Mv} {m : Mv} (h : Good k p ms) : (addD k p ms m).length ≤ 2000 := by
  obtain ⟨t, cs0, hr⟩ := h.rep
  have hl := csOf_len hr
  have hn := h.n
  unfold addD
  split
  · have := dif_len (cs := csOf k p ms) (ds := csOf k p (ms ++ [m])); omega
  · simp
end Go.SL

namespace Go.SL
open Go
def eM (m : Mv) : Mv := { m with seq := 0 }
def eL (l : Ly) : Ly := { l with seq := 0 }
def eC (c : Co) : Co := { c with seq := 0 }
def eS (s : Sk) : Sk := ⟨s.qty, s.value, s.price, s.layers.map eL, []⟩
theorem one_e (m : Mv) : (eM m).one = m.one := by
  unfold Mv.one Mv.quantityOk Mv.costOk Mv.lotOk Mv.refBad; rfl
theorem issueL_e : ∀ (ls : List Ly) (q v : Int), issueL (ls.map eL) q v = ((issueL ls q v).1.map eL, (issueL ls q v).2)
  | [], _, _ => rfl
  | l :: ls, q, v => by
    simp only [List.map_cons, issueL, show (eL l).qty = l.qty from rfl, show ∀ x, takeV (eL l) x = takeV l x from fun _ => rfl, show ∀ x, takeX (eL l) x = eL (takeX l x) from fun _ => rfl]
    by_cases h : q ≤ 0
    · rw [if_pos h, if_pos h]; rfl
    · rw [if_neg h, if_neg h]
      split
      · split
        · exact issueL_e ls _ _
        · rfl
      · split
        · exact issueL_e ls _ _
        · rfl
theorem takeL_e (ls : List Ly) (i : Nat) (l : Ly) (q : Int) : takeL (ls.map eL) i (eL l) q = (takeL ls i l q).map eL := by
  unfold takeL
  simp only [show (eL l).qty = l.qty from rfl, show takeX (eL l) q = eL (takeX l q) from rfl]
  split
  · rw [List.eraseIdx_eq_take_drop_succ, List.eraseIdx_eq_take_drop_succ, List.map_append, List.map_take, List.map_drop]
  · rw [List.map_set]
theorem findI_map {α γ : Type} {f : α → γ} {p : γ → Bool} {q : α → Bool} (h : ∀ x, p (f x) = q x) (xs : List α) : findI p (xs.map f) = (findI q xs).map fun y => (y.1, f y.2) := by
  unfold findI
  rw [List.findIdx?_map, show p ∘ f = q from funext h]
  cases xs.findIdx? q with
  | none => rfl
  | some i => simp only [List.getElem?_map]; cases xs[i]? <;> rfl
theorem lotI_e (lot : ByteArray) (ls : List Ly) : lotI lot (ls.map eL) = lotI lot ls := by
  unfold lotI
  rw [findI_map (f := eL) (q := lotB lot) (fun _ => rfl)]
  cases findI (lotB lot) ls with
  | none => simp
  | some y => rfl
theorem lotF_e (lot : ByteArray) (ls : List Ly) : lotF lot (ls.map eL) = (lotF lot ls).map fun y => (y.1, eL y.2) := by
  unfold lotF
  rw [findI_map (f := eL) (q := lotB lot) (fun _ => rfl)]
  cases findI (lotB lot) ls with
  | none => rfl
  | some y =>
    obtain ⟨i, l⟩ := y
    simp only [Option.map_some, show (eL l).lot = l.lot from rfl]
    split <;> rfl
theorem addLot_e (ls : List Ly) (lot : ByteArray) (q v : Int) : addLot (ls.map eL) lot q v = (addLot ls lot q v).map eL := by
  unfold addLot
  rw [lotF_e, lotI_e]
  cases lotF lot ls with
  | none =>
    simp only [Option.map_none, insL, List.map_append, List.map_cons, List.map_take, List.map_drop]; rfl
  | some y => simp only [Option.map_some, List.map_set]; rfl
theorem over_e (t : Sk) (c : Co) : overB (eS t) (eC c) = overB t c := by
  unfold overB eS eC
  simp only [List.any_map]
  rfl
def eR (r : Except Int (Sk × Co)) : Except Int (Sk × Co) := match r with | .error e => .error e | .ok (t, c) => .ok (eS t, eC c)
theorem fStep_e {s t : Sk} {m : Mv} {c : Co} (hk : m.kind = 1 ∨ m.kind = 2) (h : fStep s m = .ok (t, c)) : eR (fStep (eS s) (eM m)) = .ok (eS t, eC c) := by
  unfold fStep at h ⊢
  split at h
  · cases h
  rename_i h1
  split at h
  · cases h
  rw [if_neg (show ¬ (eM m).one ≠ 0 from by rw [one_e]; exact h1), if_neg (by simp [eS, findI])]
  split at h
  · cases h
  rename_i t0 c0 hd
  split at h
  · cases h
  rename_i ho
  cases h
  have key : ∃ t1 c1, fDo (eS s) (eM m) ⟨(eM m).seq, 0, 0, 0⟩ = .ok (t1, c1) ∧ eS t1 = eS t0 ∧ eC c1 = eC c := by
    unfold fDo at hd ⊢
    rcases hk with hk | hk
    · rw [if_pos hk] at hd; rw [if_pos (show (eM m).kind = 1 from hk)]
      unfold fRecv at hd; cases hd
      refine ⟨_, _, rfl, ?_, rfl⟩
      simp [eS, eM, eL]
    · rw [if_neg (by omega), if_pos hk] at hd; rw [if_neg (by show ¬ m.kind = 1; omega), if_pos (show (eM m).kind = 2 from hk)]
      unfold fIssue at hd ⊢
      split at hd
      · cases hd
      rename_i hq
      cases hd
      rw [if_neg (show ¬ (eS s).qty < (eM m).qty from hq)]
      refine ⟨_, _, rfl, ?_, ?_⟩
      · show eS ⟨_, _, _, (issueL (s.layers.map eL) m.qty 0).1, _⟩ = eS ⟨_, _, _, (issueL s.layers m.qty 0).1, _⟩
        rw [issueL_e]
        unfold eS; simp [eL]
      · show eC ⟨_, _, W (0 - (issueL (s.layers.map eL) m.qty 0).2), _⟩ = _
        rw [issueL_e]; rfl
  obtain ⟨t1, c1, e1, e2, e3⟩ := key
  have hs : eS (summed t1 c1) = eS (summed t0 c) := by
    have a1 := congrArg Sk.qty e2; have a2 := congrArg Sk.value e2; have a3 := congrArg Sk.price e2; have a4 := congrArg Sk.layers e2
    have b1 := congrArg Co.qty e3; have b2 := congrArg Co.value e3
    simp only [eS, eC] at a1 a2 a3 a4 b1 b2
    simp only [summed, eS, a1, a2, a3, a4, b1, b2]
  rw [e1]
  simp only
  rw [← over_e, hs, e3, over_e, if_neg ho]
  simp only [eR, hs, e3]
theorem aStep_e {s t : Sk} {m : Mv} {c : Co} (hk : m.kind = 1 ∨ m.kind = 2) (h : aStep s m = .ok (t, c)) : eR (aStep (eS s) (eM m)) = .ok (eS t, eC c) := by
  unfold aStep at h ⊢
  split at h
  · cases h
  rename_i h1
  split at h
  · cases h
  rw [if_neg (show ¬ (eM m).one ≠ 0 from by rw [one_e]; exact h1), if_neg (by simp [eS, findI])]
  split at h
  · cases h
  rename_i t0 c0 hd
  split at h
  · cases h
  rename_i ho
  cases h
  have key : ∃ t1 c1, aDo (eS s) (eM m) = .ok (t1, c1) ∧ eS t1 = eS t0 ∧ eC c1 = eC c := by
    unfold aDo at hd ⊢
    rcases hk with hk | hk
    · rw [if_pos hk] at hd; rw [if_pos (show (eM m).kind = 1 from hk)]
      unfold aRecv at hd; cases hd
      refine ⟨_, _, rfl, ?_, rfl⟩
      simp [eS, eM, eL]
    · rw [if_neg (by omega), if_pos hk] at hd; rw [if_neg (by show ¬ m.kind = 1; omega), if_pos (show (eM m).kind = 2 from hk)]
      unfold aIssue at hd ⊢
      split at hd
      · cases hd
      rename_i hq
      cases hd
      rw [if_neg (show ¬ (eS s).qty < (eM m).qty from hq)]
      refine ⟨_, _, rfl, ?_, rfl⟩
      simp [eS, eM, eL]
  obtain ⟨t1, c1, e1, e2, e3⟩ := key
  have a1 := congrArg Sk.qty e2; have a2 := congrArg Sk.value e2; have a3 := congrArg Sk.price e2; have a4 := congrArg Sk.layers e2
  have b1 := congrArg Co.qty e3; have b2 := congrArg Co.value e3; have b3 := congrArg Co.var e3
  simp only [eS, eC] at a1 a2 a3 a4 b1 b2 b3
  have hs : eS (summed t1 c1) = eS (summed t0 c) := by simp only [summed, eS, a1, a2, a3, a4, b1, b2]
  rw [e1]
  simp only
  have ho2 : aOver (summed t1 c1) c1 = aOver (summed t0 c) c := by simp only [aOver, summed, a1, a2, b1, b2, b3]; rfl
  rw [ho2, if_neg ho]
  simp only [eR, hs, e3]
theorem sStep_e {s t : Sk} {m : Mv} {c : Co} (hk : m.kind = 1 ∨ m.kind = 2) (h : sStep s m = .ok (t, c)) : eR (sStep (eS s) (eM m)) = .ok (eS t, eC c) := by
  unfold sStep at h ⊢
  split at h
  · cases h
  rename_i h1
  split at h
  · cases h
  rw [if_neg (show ¬ (eM m).one ≠ 0 from by rw [one_e]; exact h1), if_neg (by simp [eS, findI])]
  split at h
  · cases h
  rename_i t0 c0 hd
  split at h
  · cases h
  rename_i ho
  cases h
  have key : ∃ t1 c1, sDo (eS s) (eM m) ⟨0, 0, 0, 0⟩ = .ok (t1, c1) ∧ eS t1 = eS t0 ∧ eC c1 = eC c0 := by
    unfold sDo at hd ⊢
    rcases hk with hk | hk
    · rw [if_pos hk] at hd; rw [if_pos (show (eM m).kind = 1 from hk)]
      unfold sRecv at hd ⊢
      split at hd
      · cases hd
      rename_i hp
      cases hd
      rw [if_neg (show ¬ priceE (eM m) (eS s).price ≠ 0 from hp)]
      refine ⟨_, _, rfl, ?_, rfl⟩
      simp [eS, eM, eL]
    · rw [if_neg (by omega), if_pos hk] at hd; rw [if_neg (by show ¬ m.kind = 1; omega), if_pos (show (eM m).kind = 2 from hk)]
      unfold sIssue at hd ⊢
      split at hd
      · cases hd
      rename_i hq
      split at hd
      · cases hd
      rename_i hp
      cases hd
      rw [if_neg (show ¬ (eS s).qty < (eM m).qty from hq), if_neg (show ¬ priceE (eM m) (eS s).price ≠ 0 from hp)]
      refine ⟨_, _, rfl, ?_, rfl⟩
      simp [eS, eM, eL]
  obtain ⟨t1, c1, e1, e2, e3⟩ := key
  have a1 := congrArg Sk.qty e2; have a2 := congrArg Sk.value e2; have a3 := congrArg Sk.price e2; have a4 := congrArg Sk.layers e2
  have b1 := congrArg Co.qty e3; have b2 := congrArg Co.value e3; have b3 := congrArg Co.var e3
  simp only [eS, eC] at a1 a2 a3 a4 b1 b2 b3
  have hs : eS (sSum (eS s) t1 c1) = eS (sSum s t0 c0) := by
    show eS ⟨_, _, t1.price, t1.layers, _⟩ = eS ⟨_, _, t0.price, t0.layers, _⟩
    simp only [eS, a3, a4, b1, b2]
  rw [e1]
  simp only
  have ho2 : sOver (eS s) t1 c1 = sOver s t0 c0 := by simp only [sOver, eS, b1, b2, b3]
  rw [ho2, if_neg ho]
  simp only [eR, hs, eC, b1, b2, b3]
theorem lStep_e {s t : Sk} {m : Mv} {c : Co} (hk : m.kind = 1 ∨ m.kind = 2) (h : lStep s m = .ok (t, c)) : eR (lStep (eS s) (eM m)) = .ok (eS t, eC c) := by
  unfold lStep at h ⊢
  split at h
  · cases h
  rename_i h1
  split at h
  · cases h
  rw [if_neg (show ¬ (eM m).one ≠ 0 from by rw [one_e]; exact h1), if_neg (by simp [eS, findI])]
  split at h
  · cases h
  rename_i t0 c0 hd
  split at h
  · cases h
  rename_i ho
  cases h
  have key : ∃ t1 c1, lDo (eS s) (eM m) = .ok (t1, c1) ∧ eS t1 = eS t0 ∧ eC c1 = eC c0 := by
    unfold lDo at hd ⊢
    rcases hk with hk | hk
    · rw [if_pos hk] at hd; rw [if_pos (show (eM m).kind = 1 from hk)]
      unfold lRecv at hd ⊢
      split at hd
      · cases hd
      rename_i hp
      cases hd
      rw [if_neg (show ¬ (eM m).lot = ⟨#[]⟩ from hp)]
      refine ⟨_, _, rfl, ?_, rfl⟩
      show eS ⟨_, _, _, addLot (s.layers.map eL) m.lot m.qty m.cost, _⟩ = _
      rw [addLot_e]
      unfold eS; simp [eL]
    · rw [if_neg (by omega), if_pos hk] at hd; rw [if_neg (by show ¬ m.kind = 1; omega), if_pos (show (eM m).kind = 2 from hk)]
      unfold lIssue at hd ⊢
      rw [show lotF (eM m).lot (eS s).layers = (lotF m.lot s.layers).map fun y => (y.1, eL y.2) from lotF_e _ _]
      cases hf : lotF m.lot s.layers with
      | none => rw [hf] at hd; cases hd
      | some y =>
        obtain ⟨i, l⟩ := y
        rw [hf] at hd
        simp only [Option.map_some] at hd ⊢
        split at hd
        · cases hd
        rename_i hp
        split at hd
        · cases hd
        rename_i hq
        cases hd
        rw [if_neg (show ¬ (eM m).lot = ⟨#[]⟩ from hp), if_neg (show ¬ (eL l).qty < (eM m).qty from hq)]
        refine ⟨_, _, rfl, ?_, rfl⟩
        show eS ⟨_, _, _, takeL (s.layers.map eL) i (eL l) m.qty, _⟩ = _
        rw [takeL_e]
        unfold eS; simp [eL]
  obtain ⟨t1, c1, e1, e2, e3⟩ := key
  have hs : eS (summed t1 c1) = eS (summed t0 c0) := by
    have a1 := congrArg Sk.qty e2; have a2 := congrArg Sk.value e2; have a3 := congrArg Sk.price e2; have a4 := congrArg Sk.layers e2
    have b1 := congrArg Co.qty e3; have b2 := congrArg Co.value e3
    simp only [eS, eC] at a1 a2 a3 a4 b1 b2
    simp only [summed, eS, a1, a2, a3, a4, b1, b2]
  rw [e1]
  simp only
  rw [← over_e, hs, e3, over_e, if_neg ho]
  have b1 := congrArg Co.qty e3; have b2 := congrArg Co.value e3; have b3 := congrArg Co.var e3
  simp only [eC] at b1 b2 b3
  simp only [eR, hs, eC, b1, b2, b3]
theorem stepM_e {k : Int} {s t : Sk} {m : Mv} {c : Co} (hk : m.kind = 1 ∨ m.kind = 2) (h : stepM k s m = .ok (t, c)) : eR (stepM k (eS s) (eM m)) = .ok (eS t, eC c) := by
  unfold stepM at h ⊢
  split at h
  · rw [if_pos (by assumption)]; exact fStep_e hk h
  rw [if_neg (by assumption)]
  split at h
  · rw [if_pos (by assumption)]; exact aStep_e hk h
  rw [if_neg (by assumption)]
  split at h
  · rw [if_pos (by assumption)]; exact sStep_e hk h
  rw [if_neg (by assumption)]
  split at h
  · rw [if_pos (by assumption)]; exact lStep_e hk h
  · cases h
theorem step_two {k : Int} {s s' t t' : Sk} {m m' : Mv} {c c' : Co} (hk : m.kind = 1 ∨ m.kind = 2) (hs : eS s = eS s') (hm : eM m = eM m') (h : stepM k s m = .ok (t, c)) (h' : stepM k s' m' = .ok (t', c')) : eS t = eS t' ∧ eC c = eC c' := by
  have hk' : m'.kind = 1 ∨ m'.kind = 2 := by have := congrArg Mv.kind hm; simp only [eM] at this; rw [← this]; exact hk
  have a := stepM_e hk h
  have b := stepM_e hk' h'
  rw [← hs, ← hm, a] at b
  simp only [Except.ok.injEq, Prod.mk.injEq] at b
  exact b
end Go.SL
namespace Go.SL
open Go
theorem run_two {k : Int} : ∀ {ms ms' : List Mv} {s s' t t' : Sk} {cs cs' : List Co}, (∀ m ∈ ms, m.kind = 1 ∨ m.kind = 2) → eS s = eS s' → ms.map eM = ms'.map eM → runL (stepM k) s ms = .ok (t, cs) → runL (stepM k) s' ms' = .ok (t', cs') → eS t = eS t' ∧ cs.map eC = cs'.map eC
  | [], [], s, s', t, t', cs, cs', _, hs, _, h, h' => by cases h; cases h'; exact ⟨hs, rfl⟩
  | [], m' :: ms', _, _, _, _, _, _, _, _, hm, _, _ => by simp at hm
  | m :: ms, [], _, _, _, _, _, _, _, _, hm, _, _ => by simp at hm
  | m :: ms, m' :: ms', s, s', t, t', cs, cs', hk, hs, hm, h, h' => by
    obtain ⟨s1, c1, ds, a1, a2, rfl⟩ := runL_cons h
    obtain ⟨s1', c1', ds', b1, b2, rfl⟩ := runL_cons h'
    simp only [List.map_cons, List.cons.injEq] at hm
    have h1 := step_two (hk m (List.mem_cons_self ..)) hs hm.1 a1 b1
    have h2 := run_two (fun x hx => hk x (List.mem_cons_of_mem _ hx)) h1.1 hm.2 a2 b2
    exact ⟨h2.1, by simp only [List.map_cons, h1.2, h2.2]⟩
theorem Alone.kind {l : List Mv} (h : Alone l) : ∀ x ∈ l, x.kind ≤ 2 := fun x hx => by
  obtain ⟨i, hi⟩ := List.getElem?_of_mem hx
  exact (h i x (List.getElem?_eq_some_iff.1 hi).1 hi).1
theorem Alone.inj {l : List Mv} (h : Alone l) {x y : Mv} (hx : x ∈ l) (hy : y ∈ l) (e : x.value = y.value) : x = y := by
  obtain ⟨i, hi⟩ := List.getElem?_of_mem hx
  obtain ⟨j, hj⟩ := List.getElem?_of_mem hy
  rcases Nat.lt_trichotomy i j with hl | rfl | hl
  · exact absurd e ((h j y (List.getElem?_eq_some_iff.1 hj).1 hj).2 i x hl hi)
  · rw [hi] at hj; cases hj; rfl
  · exact absurd e.symm ((h i x (List.getElem?_eq_some_iff.1 hi).1 hi).2 j y hl hj)
structure Both (k p : Int) (F H : List Mv) : Prop where
  ord : (ordM F).map eM = (ordM H).map eM
  gF : Good k p F
  gH : Good k p H
  kn : ∀ m ∈ ordM F, m.kind = 1 ∨ m.kind = 2
theorem Both.at_ {k p : Int} {F H : List Mv} (h : Both k p F H) {i : Nat} {x y : Mv} (hx : (ordM F)[i]? = some x) (hy : (ordM H)[i]? = some y) : x.value = y.value ∧ ∃ a b, costAt (csOf k p F) x.seq = (a, true) ∧ costAt (csOf k p H) y.seq = (b, true) ∧ a.qty = b.qty ∧ a.value = b.value ∧ a.var = b.var := by
  obtain ⟨t, cs, hr⟩ := h.gF.rep
  obtain ⟨t', cs', hr'⟩ := h.gH.rep
  have l1 := runM_len hr
  have l2 := runM_len hr'
  have hi := (List.getElem?_eq_some_iff.1 hx).1
  have hj := (List.getElem?_eq_some_iff.1 hy).1
  have e0 := congrArg (·[i]?) h.ord
  simp only [List.getElem?_map, hx, hy, Option.map_some, Option.some.injEq] at e0
  obtain ⟨a, ha⟩ : ∃ a, cs[i]? = some a := ⟨_, List.getElem?_eq_getElem (by omega)⟩
  obtain ⟨b, hb⟩ : ∃ b, cs'[i]? = some b := ⟨_, List.getElem?_eq_getElem (by omega)⟩
  have hrun := run_two h.kn rfl h.ord (runM_iff.1 hr).2 (runM_iff.1 hr').2
  have e1 := congrArg (·[i]?) hrun.2
  simp only [List.getElem?_map, ha, hb, Option.map_some, Option.some.injEq] at e1
  have s1 := runM_seq hr hx ha
  have s2 := runM_seq hr' hy hb
  refine ⟨(show (eM x).value = (eM y).value by rw [e0]), a, b, by rw [← s1]; exact cost_rep h.gF.fine hr ha, by rw [← s2]; exact cost_rep h.gH.fine hr' hb, (show (eC a).qty = (eC b).qty by rw [e1]), (show (eC a).value = (eC b).value by rw [e1]), (show (eC a).var = (eC b).var by rw [e1])⟩
theorem Both.sk {k p : Int} {F H : List Mv} (h : Both k p F H) : (skOf k p F).qty = (skOf k p H).qty ∧ (skOf k p F).value = (skOf k p H).value := by
  obtain ⟨t, cs, hr⟩ := h.gF.rep
  obtain ⟨t', cs', hr'⟩ := h.gH.rep
  have hrun := run_two h.kn rfl h.ord (runM_iff.1 hr).2 (runM_iff.1 hr').2
  rw [skOf_ok hr, skOf_ok hr']
  exact ⟨(show (eS t).qty = (eS t').qty by rw [hrun.1]), (show (eS t).value = (eS t').value by rw [hrun.1])⟩
theorem Both.len {k p : Int} {F H : List Mv} (h : Both k p F H) : (ordM F).length = (ordM H).length := by
  have := congrArg List.length h.ord
  rwa [List.length_map, List.length_map] at this
end Go.SL
namespace Go.SL
open Go
end Go.SL

namespace Go.SL
open Go
theorem backQ_5 : ∀ {l : List Mv} {r : Int}, (∀ y ∈ l, y.kind = 5 → y.qty = 0) → backQ l 5 r = 0
  | [], _, _ => rfl
  | x :: l, r, h => by
    simp only [backQ]
    rw [backQ_5 fun y hy => h y (List.mem_cons_of_mem _ hy)]
    split
    · rename_i h1; have := h x (List.mem_cons_self ..) h1.1; omega
    · rfl
theorem backQ_succ {l : List Mv} {i : Nat} {x : Mv} (h : l[i]? = some x) (k r : Int) : backQ (l.take (i + 1)) k r = backQ (l.take i) k r + (if x.kind = k ∧ x.ref = r then x.qty else 0) := by
  rw [take_one h, backQ_app]
theorem backQ_in {l : List Mv} {i : Nat} {x : Mv} {k r : Int} (h : l[i]? = some x) (h1 : x.kind = k) (h2 : x.ref = r) : backQ (l.take (i + 1)) k r = backQ (l.take i) k r + x.qty := by
  rw [backQ_succ h, if_pos ⟨h1, h2⟩]
theorem backQ_out {l : List Mv} {i : Nat} {x : Mv} {k r : Int} (h : l[i]? = some x) (h1 : ¬ (x.kind = k ∧ x.ref = r)) : backQ (l.take (i + 1)) k r = backQ (l.take i) k r := by
  rw [backQ_succ h, if_neg h1]; omega
structure Dn (l : List Mv) : Prop where
  q : ∀ y ∈ l, 0 ≤ y.qty ∧ y.qty ≤ 1000000000
  z : ∀ y ∈ l, y.kind = 5 → y.qty = 0
theorem FineTo.dn {ms : List Mv} {i : Nat} (h : FineTo ms i) : Dn (ms.take i) := ⟨h.qty, fun m hm hk => by
  obtain ⟨j, hj⟩ := List.getElem?_of_mem hm
  have hlt : j < i := by have := (List.getElem?_eq_some_iff.1 hj).1; rw [List.length_take] at this; omega
  rw [List.getElem?_take_of_lt hlt] at hj
  have hmg := MG.of (h j m hlt hj).2.1
  exact hmg.q.1 (.inl hk)⟩
def foundB (cs : List Co) (s : Int) : Bool := (cs.find? fun c => decide (c.seq = s)).isSome
theorem find_yes {cs : List Co} {i : Nat} {c : Co} {s : Int} (hc : cs[i]? = some c) (hs : c.seq = s) (hn : ∀ (j : Nat) (y : Co), j < i → cs[j]? = some y → y.seq ≠ s) : findC cs s = c ∧ foundB cs s = true := by
  have : cs.find? (fun c => decide (c.seq = s)) = some c := by
    have e := take_get hc
    rw [e, List.find?_append, List.find?_eq_none.2 fun y hy => by
      obtain ⟨j, hj⟩ := List.getElem?_of_mem hy
      have hlt : j < i := by have := (List.getElem?_eq_some_iff.1 hj).1; rw [List.length_take] at this; omega
      rw [List.getElem?_take_of_lt hlt] at hj
      simpa using hn j y hlt hj]
    simp [hs]
  unfold findC foundB; rw [this]; exact ⟨rfl, rfl⟩
theorem find_no {cs : List Co} {i : Nat} {s : Int} (hi : i = cs.length) (hn : ∀ (j : Nat) (y : Co), j < i → cs[j]? = some y → y.seq ≠ s) : findC cs s = Co0 ∧ foundB cs s = false := by
  have : cs.find? (fun c => decide (c.seq = s)) = none := List.find?_eq_none.2 fun y hy => by
    obtain ⟨j, hj⟩ := List.getElem?_of_mem hy
    simpa using hn j y (by rw [hi]; exact (List.getElem?_eq_some_iff.1 hj).1) hj
  unfold findC foundB; rw [this]; exact ⟨rfl, rfl⟩
theorem notC {cs : List Co} {i : Nat} {c : Co} {s : Int} (hx : cs[i]? = some c) (h : c.seq ≠ s) (hI : ∀ (j : Nat) (y : Co), j < i → cs[j]? = some y → y.seq ≠ s) : ∀ (j : Nat) (y : Co), j < i + 1 → cs[j]? = some y → y.seq ≠ s := fun j y hj hy => by
  rcases Nat.lt_succ_iff_lt_or_eq.1 hj with h' | rfl
  · exact hI j y h' hy
  · rw [hx] at hy; cases hy; exact h
theorem find_cost {k p : Int} {ms : List Mv} {t : Sk} {cs0 : List Co} (hf : Fine ms) (hr : repM k p ms = .ok (t, cs0)) (s : Int) : findC cs0 s = (costAt (csOf k p ms) s).1 ∧ foundB cs0 s = (costAt (csOf k p ms) s).2 := by
  have hl := csOf_len hr
  by_cases h : 1 ≤ s ∧ s ≤ ms.length
  · obtain ⟨q, m, hq, rfl⟩ := (by
      have := List.getElem?_eq_getElem (l := ms) (i := (s - 1).toNat) (by omega)
      exact ⟨(s - 1).toNat, _, this, by omega⟩ : ∃ (q : Nat) (m : Mv), ms[q]? = some m ∧ s = (q : Int) + 1)
    obtain ⟨i, c, hi, hc, h3, hfc, hs⟩ := cs_at hf hr hq
    rw [costAt_ok h3]
    have hu : ∀ (j : Nat) (y : Co), cs0[j]? = some y → y.seq = (q : Int) + 1 → j = i := fun j y hy hyq => by
      have hl2 := runM_len hr
      obtain ⟨z, hz⟩ : ∃ z, (ordM ms)[j]? = some z := ⟨_, List.getElem?_eq_getElem (by have := (List.getElem?_eq_some_iff.1 hy).1; omega)⟩
      have hs2 := runM_seq hr hz hy
      have hm := (hf q m hq).1
      exact ord_inj hf hz hi (by omega)
    exact find_yes hc hs fun j y hj hy e => by have := hu j y hy e; omega
  · rw [costAt_no (by rw [hl]; exact h)]
    refine find_no rfl fun j y hj hy e => h ?_
    have hl2 := runM_len hr
    obtain ⟨z, hz⟩ : ∃ z, (ordM ms)[j]? = some z := ⟨_, List.getElem?_eq_getElem (by omega)⟩
    have hs2 := runM_seq hr hz hy
    obtain ⟨q, hq⟩ := List.getElem?_of_mem ((ordM_perm ms).mem_iff.1 (List.mem_of_getElem? hz))
    have hm := (hf q z hq).1
    have := (List.getElem?_eq_some_iff.1 hq).1
    omega
def RrV (r : Except (Int × Int) (Sk × List Co)) (x : Option Addr × Nat × Option Addr × Nat × Option Addr × Nat) : Value :=
  match r with
  | .error (_, e) => .tuple ⟨[.agg ⟨[I 0, I 0, I 0, .slice none 0 0, .slice none 0 0]⟩, .slice none 0 0, I e]⟩
  | .ok (t, cs) => .tuple ⟨[.agg ⟨t.c x.1 x.2.1 x.2.2.1 x.2.2.2.1⟩, .slice x.2.2.2.2.1 cs.length x.2.2.2.2.2, I 0]⟩
theorem cut_back {p : Mv → Bool} {o : List Mv} {n : Nat} (hm : Mono p o) (hn : n ≤ o.length) (h1 : ∀ (j : Nat) (y : Mv), n ≤ j → o[j]? = some y → p y = true) (h0 : n = 0 ∨ ∃ y, o[n - 1]? = some y ∧ p y = false) : cutN p o = n := by
  refine cutN_mid hn (fun i y hi hy => ?_) (fun y hy => h1 n y (Nat.le_refl _) hy)
  rcases h0 with rfl | ⟨z, hz, hpz⟩
  · omega
  · exact hm.down hz hpz (by omega) hy
theorem dif_take {cs ds : List Co} {n : Nat} {c d : Co} (hc : cs[n]? = some c) (hd : ds[n]? = some d) : difL (cs.take (n + 1)) ds = difL (cs.take n) ds ++ difOne d c := by
  have e : ∀ (cs ds : List Co) (n : Nat), cs[n]? = some c → ds[n]? = some d → (cs.take (n + 1)).zip ds = (cs.take n).zip ds ++ [(c, d)] := by
    intro cs
    induction cs with
    | nil => intro ds n h; simp at h
    | cons x cs ih =>
      intro ds n h1 h2
      cases ds with
      | nil => simp at h2
      | cons y ds =>
        cases n with
        | zero => simp at h1 h2; subst h1 h2; simp
        | succ n =>
          simp only [List.take_succ_cons, List.zip_cons_cons, List.cons_append]
          rw [ih ds n (by simpa using h1) (by simpa using h2)]
  unfold difL; rw [e cs ds n hc hd]; simp
theorem difOne_no {c d : Co} (h : ¬ (c.value ≠ d.value ∨ c.var ≠ d.var)) : difOne d c = [] := if_neg (by omega)
theorem difOne_yes {c d : Co} (h : c.value ≠ d.value ∨ c.var ≠ d.var) : difOne d c = [⟨c.seq, IntKind.i64.wrap (d.value - c.value), IntKind.i64.wrap (d.var - c.var)⟩] := if_pos (by omega)
def addsM (k p : Int) (l : List Mv) : List Mv := l.foldl (addMs k p) []
theorem addsM_succ {k p : Int} {l : List Mv} {i : Nat} {m : Mv} (h : l[i]? = some m) : addsM k p (l.take (i + 1)) = addMs k p (addsM k p (l.take i)) m := by
  rw [take_one h]; unfold addsM; rw [List.foldl_append]; rfl
theorem adds_good {k p : Int} (h : startE k p = 0) (l : List Mv) : Good k p (addsM k p l) := by
  suffices H : ∀ (l ms : List Mv), Good k p ms → Good k p (l.foldl (addMs k p) ms) from H l [] (Good.nil h)
  intro l
  induction l with
  | nil => intro ms h; exact h
  | cons m l ih => intro ms h; exact ih _ (h.addMs _)
theorem adds_sub {k p : Int} : ∀ {l : List Mv} {y : Mv}, y ∈ addsM k p l → y ∈ l := by
  suffices H : ∀ (l ms : List Mv) (y : Mv), y ∈ l.foldl (addMs k p) ms → y ∈ ms ∨ y ∈ l by
    intro l y h; rcases H l [] y h with h | h; cases h; exact h
  intro l
  induction l with
  | nil => intro ms y h; exact .inl h
  | cons m l ih =>
    intro ms y h
    rcases ih _ _ h with h | h
    · unfold addMs at h
      split at h
      · rcases List.mem_append.1 h with h | h
        · exact .inl h
        · rw [List.mem_singleton.1 h]; exact .inr (List.mem_cons_self ..)
      · exact .inl h
    · exact .inr (List.mem_cons_of_mem _ h)
theorem adds_len {k p : Int} {l : List Mv} : (addsM k p l).length ≤ l.length := by
  suffices H : ∀ (l ms : List Mv), (l.foldl (addMs k p) ms).length ≤ ms.length + l.length by have := H l []; simpa [addsM] using this
  intro l
  induction l with
  | nil => intro ms; simp
  | cons m l ih => intro ms; have h1 := ih (addMs k p ms m); have h2 := addMs_len (k := k) (p := p) (ms := ms) (m := m); simp only [List.foldl_cons, List.length_cons]; omega
end Go.SL
namespace Go.SL
open Go
theorem later_next {p : Mv → Bool} {o : List Mv} {q : Nat} {y : Mv} (h0 : 0 < q) (hy : o[q - 1]? = some y) (hp : p y = true) (hJ : ∀ (j : Nat) (y : Mv), q ≤ j → o[j]? = some y → p y = true) : ∀ (j : Nat) (z : Mv), q - 1 ≤ j → o[j]? = some z → p z = true := fun j z hj hz => by
  rcases Nat.lt_or_ge j q with h' | h'
  · have e : j = q - 1 := by omega
    rw [e, hy] at hz; cases hz; exact hp
  · exact hJ j z h' hz
end Go.SL
namespace Go.SL
open Go
theorem addErr_chk {k p : Int} {ms : List Mv} {m : Mv} (h : chkE (ms ++ [m]) ≠ 0) : addErr k p ms m = chkE (ms ++ [m]) := if_pos h
theorem addErr_rep {k p : Int} {ms : List Mv} {m : Mv} {i e : Int} (h : chkE (ms ++ [m]) = 0) (hr : repM k p (ms ++ [m]) = .error (i, e)) : addErr k p ms m = e := by unfold addErr; rw [if_neg (fun h' => h' h), hr]
theorem addErr_0 {k p : Int} {ms : List Mv} {m : Mv} {x : Sk × List Co} (h : chkE (ms ++ [m]) = 0) (hr : repM k p (ms ++ [m]) = .ok x) : addErr k p ms m = 0 := by unfold addErr; rw [if_neg (fun h' => h' h), hr]
theorem addMs_n {k p : Int} {ms : List Mv} {m : Mv} (h : addErr k p ms m ≠ 0) : addMs k p ms m = ms := if_neg h
theorem addMs_y {k p : Int} {ms : List Mv} {m : Mv} (h : addErr k p ms m = 0) : addMs k p ms m = ms ++ [m] := if_pos h
theorem addC_n {k p : Int} {ms : List Mv} {m : Mv} (h : addErr k p ms m ≠ 0) : addC k p ms m = Co0 := if_neg h
theorem addD_n {k p : Int} {ms : List Mv} {m : Mv} (h : addErr k p ms m ≠ 0) : addD k p ms m = [] := if_neg h
theorem addD_y {k p : Int} {ms : List Mv} {m : Mv} (h : addErr k p ms m = 0) : addD k p ms m = difL (csOf k p ms) (csOf k p (ms ++ [m])) := if_pos h
theorem seq_of2 {ms : List Mv} (hf : Fine ms) {i : Nat} {m : Mv} (h : ms[i]? = some m) : m.seq = (i : Int) + 1 := (hf i m h).1
theorem find_q {k p : Int} {ms : List Mv} {t : Sk} {cs0 : List Co} (hf : Fine ms) (hr : repM k p ms = .ok (t, cs0)) {q : Nat} {m : Mv} (hq : ms[q]? = some m) : ∃ c, (csOf k p ms)[q]? = some c ∧ findC cs0 ((q : Int) + 1) = c ∧ foundB cs0 ((q : Int) + 1) = true ∧ c.seq = (q : Int) + 1 := by
  obtain ⟨i, c, hi, hc, h3, hfc, hs⟩ := cs_at hf hr hq
  have h := find_cost hf hr ((q : Int) + 1)
  rw [costAt_ok h3] at h
  exact ⟨c, h3, hfc, h.2, hs⟩
theorem find_last {k p : Int} {ms : List Mv} {m : Mv} {t : Sk} {cs1 : List Co} (h : chkE (ms ++ [m]) = 0) (hr : repM k p (ms ++ [m]) = .ok (t, cs1)) : findC cs1 m.seq = addC k p ms m := by
  have hf := (chkM_none.1 (chkE_none.1 h)).2
  have hq : (ms ++ [m])[ms.length]? = some m := by simp
  obtain ⟨c, hc, hfc, _, _⟩ := find_q hf hr hq
  rw [(hf _ _ hq).1, hfc]
  unfold addC
  rw [if_pos (addErr_0 h hr), hc]; rfl
end Go.SL

namespace Go.SL
open Go
def cs1 : List Co := [⟨1, 10, 100, 0⟩, ⟨2, 10, 140, 0⟩, ⟨3, -5, -50, 0⟩]
end Go.SL
