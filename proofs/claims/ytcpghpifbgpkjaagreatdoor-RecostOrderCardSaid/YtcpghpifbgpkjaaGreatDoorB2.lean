/- Laws of the walks and of the models, part 2. Merged by program out of: RLaw RLaw2 RLaw3 RecM Sho Sx SL16 SL17 EngM SL18 EngA EngB SL19 RecL SL20 RecX RecP RecQ. -/
import Derived.Test.YtcpghpifbgpkjaaGreatDoorB1
import Derived.MapKept
import Derived.Laws.IdiomRangeMap
import Derived.Shelf.Spec.SlicesInsertGrow
import Derived.KernelRfl
set_option linter.unusedVariables false
set_option linter.unusedSimpArgs false
set_option maxRecDepth 20000
set_option maxHeartbeats 4000000
namespace Go.SL
open Go
/-- A state of 'standard price'. -/
structure S3 (s : Sk) : Prop where
  sg : SG s
  p0 : 0 ≤ s.price
  p1 : s.price ≤ 1000000000000
  vq : s.value = s.qty * s.price
  ly : s.layers = []
theorem within_iff {n : Int} : withinB n = true ↔ -1000000000000000 ≤ n ∧ n ≤ 1000000000000000 := by unfold withinB; simp
theorem withinF {n : Int} (h : ¬ (-1000000000000000 ≤ n ∧ n ≤ 1000000000000000)) : withinB n = false := by
  rw [Bool.eq_false_iff]; exact fun e => h (within_iff.1 e)
theorem mul_of {a b : Int} (h : -9223372036854775808 ≤ a * b ∧ a * b ≤ 9223372036854775807) : mulOk a b = true ∧ mulN a b = a * b := by
  unfold mulOk mulN; exact ⟨decide_eq_true h, if_pos h⟩
theorem mul_not {a b : Int} (h : ¬ (-9223372036854775808 ≤ a * b ∧ a * b ≤ 9223372036854775807)) : mulOk a b = false := by unfold mulOk; exact decide_eq_false h
/-- The value at a price: within the limit, or one more. -/
theorem valN_of {q p : Int} (h0 : 0 ≤ q * p) : (q * p ≤ 1000000000000000 → valN q p = q * p) ∧ (1000000000000000 < q * p → withinB (valN q p) = false) := by
  constructor
  · intro h
    have := mul_of (a := q) (b := p) ⟨by omega, by omega⟩
    unfold valN; rw [if_pos this.1, this.2, if_neg (by omega)]
  · intro h
    unfold valN
    split
    · rename_i hm
      have : mulN q p = q * p := by
        unfold mulOk at hm; unfold mulN; exact if_pos (of_decide_eq_true hm)
      rw [this]; split
      · exact withinF (n := 1000000000000001) (by decide)
      · exact withinF (by omega)
    · exact withinF (n := 1000000000000001) (by decide)
theorem rsFin_nice {s : Sk} {m : Mv} {pr cq : Int} {ps : Int → List Pa} {var : Int → Int} (hq : W (s.qty + cq) = s.qty + cq) (h0 : 0 ≤ s.qty + cq) (hq1 : s.qty + cq ≤ 1000000000) (hp : 0 ≤ (s.qty + cq) * pr) (hv : (s.qty + cq) * pr ≤ 1000000000000000) (hs : -1000000000000000 ≤ s.value ∧ s.value ≤ 1000000000000000) :
    rsFin s m pr cq ps var = if withinB (var ((s.qty + cq) * pr - s.value)) = false then .error 4 else .ok (⟨s.qty + cq, (s.qty + cq) * pr, pr, [], ps ((s.qty + cq) * pr - s.value)⟩, ⟨m.seq, cq, (s.qty + cq) * pr - s.value, var ((s.qty + cq) * pr - s.value)⟩) := by
  have e1 : rsV s pr cq = (s.qty + cq) * pr := by unfold rsV rsQ; rw [hq]; exact (valN_of hp).1 hv
  have e2 : rsC s pr cq = (s.qty + cq) * pr - s.value := by unfold rsC; rw [e1]; exact W_in ⟨by omega, by omega⟩
  unfold rsFin
  rw [e2, e1]
  unfold rsQ
  rw [hq, if_neg (by omega), if_neg (by rw [within_iff.2 ⟨by omega, hv⟩]; simp; omega)]
theorem rsFin_big {s : Sk} {m : Mv} {pr cq : Int} {ps : Int → List Pa} {var : Int → Int} (hq : W (s.qty + cq) = s.qty + cq) (h0 : 0 ≤ s.qty + cq) (hp : 0 ≤ (s.qty + cq) * pr) (hv : 1000000000 < s.qty + cq ∨ 1000000000000000 < (s.qty + cq) * pr) :
    rsFin s m pr cq ps var = .error 4 := by
  unfold rsFin rsQ
  rw [hq, if_neg (by omega)]
  refine if_pos ?_
  rcases hv with hv | hv
  · exact .inl hv
  · right; unfold rsV rsQ; rw [hq]; exact (valN_of hp).2 hv
/-- What the method's step comes to, from its costs. -/
def sEnd (s t : Sk) (m : Mv) (c : Co) : Except Int (Sk × Co) := if sOver s t c = true then .error 4 else .ok (sSum s t c, { c with seq := m.seq })
theorem sEnd_nice {s t : Sk} {m : Mv} {c : Co} (hq : W (s.qty + c.qty) = s.qty + c.qty) (hq1 : s.qty + c.qty ≤ 1000000000) (hv : -1000000000000000 ≤ s.value + c.value ∧ s.value + c.value ≤ 1000000000000000) :
    sEnd s t m c = if withinB c.var = false then .error 4 else .ok ({ t with qty := s.qty + c.qty, value := s.value + c.value }, { c with seq := m.seq }) := by
  have e1 : addN s.value c.value = s.value + c.value := by unfold addN; exact if_pos ⟨by omega, by omega⟩
  have e2 : addOk s.value c.value = true := by unfold addOk; exact decide_eq_true ⟨by omega, by omega⟩
  unfold sEnd sOver sSum
  rw [e1, e2, hq, within_iff.2 hv, decide_eq_false (by omega)]
  cases withinB c.var <;> simp
theorem sEnd_big {s t : Sk} {m : Mv} {c : Co} (hq : W (s.qty + c.qty) = s.qty + c.qty) (hv : 1000000000 < s.qty + c.qty ∨ 1000000000000000 < s.value + c.value) : sEnd s t m c = .error 4 := by
  unfold sEnd sOver
  refine if_pos ?_
  rcases hv with hv | hv
  · rw [hq, decide_eq_true hv]; simp
  · by_cases ha : -9223372036854775808 ≤ s.value + c.value ∧ s.value + c.value ≤ 9223372036854775807
    · have e1 : addN s.value c.value = s.value + c.value := by unfold addN; exact if_pos ha
      rw [e1, withinF (n := s.value + c.value) (by omega)]; simp
    · have e2 : addOk s.value c.value = false := by unfold addOk; exact decide_eq_false ha
      rw [e2]; simp
theorem SG.fine {s : Sk} (h : SG s) : s.fine := fun i p hx => by
  have g := h.ps.all p (List.mem_of_getElem? hx)
  refine ⟨g.kd, ?_⟩
  have := g.u0; have := g.u1; have := g.q1; have := g.q2
  rw [W_in ⟨by omega, by omega⟩]; omega
theorem sStep_end {s : Sk} {m : Mv} (h1 : m.one = 0) (h2 : ¬ (findI (isPast 0 m.seq) s.past).isSome = true) (hf : s.fine) : sStep s m = match sDo s m ⟨0, 0, 0, 0⟩ with | .error e => .error e | .ok (t, c) => sEnd s t m c := by
  unfold sStep
  rw [if_neg (by simp [h1]), if_neg (by rw [known_eq hf]; exact h2)]
  rfl
/-- Receipts and returns by customers: the quantity grows. -/
theorem rs_up {s t : Sk} {m : Mv} {ps : Int → List Pa} {var : Int → Int} {v : Int} (h : S3 s) (hg : MG m) (hk : m.kind = 1 ∨ m.kind = 3) (ht : t = { s with past := ps (m.qty * s.price) }) (hv : v = var (m.qty * s.price)) :
    rsFin s m s.price m.qty ps var = if priceE m s.price ≠ 0 then .error (priceE m s.price) else sEnd s t m ⟨0, m.qty, priceV m s.price, v⟩ := by
  have hq := hg.q.2 (by omega)
  have q0 := h.sg.q0; have q1 := h.sg.q1; have v0 := h.sg.v0; have v1 := h.sg.v1
  have hp0 := h.p0
  have hmp : 0 ≤ m.qty * s.price := Int.mul_nonneg (by omega) hp0
  have hsp : 0 ≤ s.value := by rw [h.vq]; exact Int.mul_nonneg q0 hp0
  have hsum : (s.qty + m.qty) * s.price = s.value + m.qty * s.price := by rw [Int.add_mul, ← h.vq]
  have hW : W (s.qty + m.qty) = s.qty + m.qty := W_in ⟨by omega, by omega⟩
  subst hv
  by_cases hbig : 1000000000 < s.qty + m.qty ∨ 1000000000000000 < (s.qty + m.qty) * s.price
  · rw [rsFin_big hW (by omega) (by rw [hsum]; omega) hbig]
    by_cases he : priceE m s.price ≠ 0
    · rw [if_pos he]
      have : priceE m s.price = 4 := by unfold priceE at he ⊢; split <;> simp_all
      rw [this]
    · rw [if_neg he]
      have hpv := (priceV_of he).1
      refine (sEnd_big hW ?_).symm
      simp only
      rw [hpv, ← hsum]; exact hbig
  · have hb : s.qty + m.qty ≤ 1000000000 ∧ (s.qty + m.qty) * s.price ≤ 1000000000000000 := by omega
    have hm := mul_of (a := m.qty) (b := s.price) ⟨by omega, by omega⟩
    have he : ¬ priceE m s.price ≠ 0 := by unfold priceE; rw [if_pos hm.1]; decide
    have hpv := (priceV_of he).1
    have hcv : (s.qty + m.qty) * s.price - s.value = m.qty * s.price := by omega
    rw [if_neg he, rsFin_nice hW (by omega) hb.1 (by rw [hsum]; omega) hb.2 ⟨v0, v1⟩, sEnd_nice hW hb.1 (by simp only; rw [hpv]; omega), hcv, hpv, ht]
    simp only
    rw [hsum]
    cases withinB (var (m.qty * s.price)) <;> simp [h.ly]
/-- Issues and returns to the supplier: the quantity falls. -/
theorem rs_down {s t : Sk} {m : Mv} {ps : Int → List Pa} {var : Int → Int} {v : Int} (h : S3 s) (hg : MG m) (hk : m.kind = 2 ∨ m.kind = 4) (ht : t = { s with past := ps (-(m.qty * s.price)) }) (hv : v = var (-(m.qty * s.price))) :
    rsFin s m s.price (W (0 - m.qty)) ps var = if s.qty < m.qty then .error 21 else if priceE m s.price ≠ 0 then .error (priceE m s.price) else sEnd s t m ⟨0, W (0 - m.qty), W (0 - priceV m s.price), v⟩ := by
  have hq := hg.q.2 (by omega)
  have q0 := h.sg.q0; have q1 := h.sg.q1; have v0 := h.sg.v0; have v1 := h.sg.v1
  have hp0 := h.p0
  have hn : W (0 - m.qty) = -m.qty := neg_W ⟨by omega, by omega⟩
  have hmp : 0 ≤ m.qty * s.price := Int.mul_nonneg (by omega) hp0
  have hW : W (s.qty + -m.qty) = s.qty + -m.qty := W_in ⟨by omega, by omega⟩
  rw [hn]
  subst hv
  by_cases hlt : s.qty < m.qty
  · rw [if_pos hlt]; exact rsFin_21 (by unfold rsQ; rw [hW]; omega)
  · rw [if_neg hlt]
    have hle : m.qty * s.price ≤ s.value := by rw [h.vq]; exact Int.mul_le_mul_of_nonneg_right (by omega) hp0
    have hsum : (s.qty + -m.qty) * s.price = s.value - m.qty * s.price := by rw [Int.add_mul, ← h.vq, Int.neg_mul]; omega
    have hm := mul_of (a := m.qty) (b := s.price) ⟨by omega, by omega⟩
    have he : ¬ priceE m s.price ≠ 0 := by unfold priceE; rw [if_pos hm.1]; decide
    have hpv := (priceV_of he).1
    have hnv : W (0 - m.qty * s.price) = -(m.qty * s.price) := neg_W ⟨by omega, by omega⟩
    have hcv : (s.qty + -m.qty) * s.price - s.value = -(m.qty * s.price) := by omega
    rw [if_neg he, hpv, hnv, rsFin_nice hW (by omega) (by omega) (by rw [hsum]; omega) (by rw [hsum]; omega) ⟨v0, v1⟩, sEnd_nice hW (by simp only; omega) (by simp only; omega), hcv, ht]
    simp only
    rw [hsum]
    cases withinB (var (-(m.qty * s.price))) <;> simp [h.ly, Int.sub_eq_add_neg]
theorem rs_land {s : Sk} {m : Mv} (h : S3 s) : rsFin s m s.price 0 (fun _ => s.past) (fun _ => m.cost) = sEnd s s m ⟨0, 0, 0, m.cost⟩ := by
  have q0 := h.sg.q0; have q1 := h.sg.q1; have v0 := h.sg.v0; have v1 := h.sg.v1
  have hsp : 0 ≤ s.value := by rw [h.vq]; exact Int.mul_nonneg q0 h.p0
  have hW : W (s.qty + 0) = s.qty + 0 := W_in ⟨by omega, by omega⟩
  have hsum : (s.qty + 0) * s.price = s.value := by rw [Int.add_zero, ← h.vq]
  rw [rsFin_nice hW (by omega) (by omega) (by rw [hsum]; omega) (by rw [hsum]; omega) ⟨v0, v1⟩, sEnd_nice hW (by simp only; omega) (by simp only; omega), hsum]
  simp only [Int.add_zero, Int.sub_self]
  rw [show (⟨s.qty, s.value, s.price, [], s.past⟩ : Sk) = { s with qty := s.qty, value := s.value } by rw [← h.ly]]
theorem rs_repr {s : Sk} {m : Mv} (h : S3 s) (hc : 0 ≤ m.cost ∧ m.cost ≤ 1000000000000) : rsFin s m m.cost 0 (fun _ => s.past) (fun cv => W (0 - cv)) = match sRepr s m ⟨0, 0, 0, 0⟩ with | .error e => .error e | .ok (t, c) => sEnd s t m c := by
  have q0 := h.sg.q0; have q1 := h.sg.q1; have v0 := h.sg.v0; have v1 := h.sg.v1
  have p0 := h.p0; have p1 := h.p1
  have hsp : 0 ≤ s.value := by rw [h.vq]; exact Int.mul_nonneg q0 h.p0
  have hcp : 0 ≤ s.qty * m.cost := Int.mul_nonneg q0 hc.1
  have hW : W (s.qty + 0) = s.qty + 0 := W_in ⟨by omega, by omega⟩
  have hsub : subOk m.cost s.price = true ∧ subN m.cost s.price = m.cost - s.price := by
    unfold subOk subN; exact ⟨decide_eq_true ⟨by omega, by omega⟩, if_pos ⟨by omega, by omega⟩⟩
  have hd : s.qty * (m.cost - s.price) = s.qty * m.cost - s.value := by rw [Int.mul_sub, ← h.vq]
  have e0 : (s.qty + 0) * m.cost = s.qty * m.cost := by rw [Int.add_zero]
  unfold sRepr reprV
  rw [hsub.1, hsub.2]
  by_cases hbig : 1000000000000000 < s.qty * m.cost
  · rw [rsFin_big hW (by omega) (by rw [e0]; omega) (.inr (by rw [e0]; exact hbig))]
    by_cases hm : -9223372036854775808 ≤ s.qty * (m.cost - s.price) ∧ s.qty * (m.cost - s.price) ≤ 9223372036854775807
    · have hmm := mul_of hm
      rw [hmm.1, hmm.2]
      split
      · rename_i hx; split at hx <;> cases hx; rfl
      · rename_i t c hx
        split at hx
        · cases hx
        · cases hx
          exact (sEnd_big hW (.inr (by simp only; rw [hd]; omega))).symm
    · rw [mul_not hm]; rfl
  · have hm : -9223372036854775808 ≤ s.qty * (m.cost - s.price) ∧ s.qty * (m.cost - s.price) ≤ 9223372036854775807 := by rw [hd]; constructor <;> omega
    have hmm := mul_of hm
    rw [hmm.1, hmm.2, within_iff.2 (by rw [hd]; constructor <;> omega)]
    simp only [Bool.not_true, Bool.or_self, Bool.false_eq_true, if_false]
    rw [rsFin_nice hW (by omega) (by omega) (by rw [e0]; omega) (by rw [e0]; omega) ⟨v0, v1⟩, sEnd_nice hW (by simp only; omega) (by simp only; rw [hd]; omega), e0, hd]
    simp only [Int.add_zero]
    rw [show s.value + (s.qty * m.cost - s.value) = s.qty * m.cost by omega]
    rw [show (⟨s.qty, s.qty * m.cost, m.cost, [], s.past⟩ : Sk) = { s with price := m.cost, qty := s.qty, value := s.qty * m.cost } by rw [← h.ly]]
theorem neg_neg_W {x : Int} (h : i64 x) : W (0 - -x) = x := by rw [show 0 - -x = x by omega]; exact W_in h
theorem rs_eq {s : Sk} {m : Mv} (h : S3 s) : rsStep s m = sStep s m := by
  by_cases h1 : m.one = 0
  · by_cases h2 : (findI (isPast 0 m.seq) s.past).isSome = true
    · unfold rsStep sStep
      rw [if_neg (by simp [h1]), if_pos h2, if_neg (by simp [h1]), if_pos (by rw [known_eq h.sg.fine]; exact h2)]
    · have hg := MG.of h1
      rw [rs_do h1 h2, sStep_end h1 h2 h.sg.fine]
      rcases (show m.kind = 1 ∨ m.kind = 2 ∨ m.kind = 3 ∨ m.kind = 4 ∨ m.kind = 5 ∨ m.kind = 6 by have := hg.k; omega) with hk | hk | hk | hk | hk | hk
      · rw [rs_1 hk, sDo_1 hk, rs_up h hg (.inl hk) rfl rfl]; unfold sRecv
        by_cases he : priceE m s.price ≠ 0
        · simp only [if_pos he]
        · simp only [if_neg he]; rw [(priceV_of he).1]
      · rw [rs_2 hk, sDo_2 hk, rs_down h hg (.inl hk) rfl rfl]; unfold sIssue
        by_cases hlt : s.qty < m.qty
        · simp only [if_pos hlt]
        · simp only [if_neg hlt]
          by_cases he : priceE m s.price ≠ 0
          · simp only [if_pos he]
          · have hp := priceV_of he
            simp only [if_neg he]; rw [neg_neg_W (hp.1 ▸ hp.2), hp.1]
      · cases hr : refd (if m.kind = 3 then 2 else 1) m s.past with
        | error e =>
          rw [rs_e (.inl hk) hr, sDo_3 hk]; rw [if_pos hk] at hr; unfold sCust; rw [hr]
        | ok x =>
          obtain ⟨i, p⟩ := x
          rw [rs_3 hk hr, sDo_3 hk, rs_up h hg (.inr hk) rfl rfl]; rw [if_pos hk] at hr; unfold sCust; rw [hr]
          by_cases he : priceE m s.price ≠ 0
          · simp only [if_pos he]
          · simp only [if_neg he]; rw [(priceV_of he).1]
      · cases hr : refd (if m.kind = 3 then 2 else 1) m s.past with
        | error e =>
          rw [rs_e (.inr (.inl hk)) hr, sDo_4 hk]; rw [if_neg (by omega)] at hr; unfold sSupp; rw [hr]
        | ok x =>
          obtain ⟨i, p⟩ := x
          rw [rs_4 hk hr, sDo_4 hk, rs_down h hg (.inr hk) rfl rfl]; rw [if_neg (by omega)] at hr; unfold sSupp; rw [hr]
          by_cases hlt : s.qty < m.qty
          · simp only [if_pos hlt]
          · simp only [if_neg hlt]
            by_cases he : priceE m s.price ≠ 0
            · simp only [if_pos he]
            · have hp := priceV_of he
              simp only [if_neg he]; rw [neg_neg_W (hp.1 ▸ hp.2), hp.1]
      · cases hr : refd (if m.kind = 3 then 2 else 1) m s.past with
        | error e =>
          rw [rs_e (.inr (.inr hk)) hr, sDo_5 hk]; rw [if_neg (by omega)] at hr; unfold sLand; rw [hr]
        | ok x =>
          obtain ⟨i, p⟩ := x
          rw [rs_5 hk hr, sDo_5 hk, rs_land h]; rw [if_neg (by omega)] at hr; unfold sLand; rw [hr]
      · rw [rs_6 hk, sDo_6 (by omega), rs_repr h hg.c]
  · unfold rsStep sStep
    rw [if_pos h1, if_pos h1]
theorem rsFin_keep {s t : Sk} {m : Mv} {c : Co} {pr cq : Int} {ps : Int → List Pa} {var : Int → Int} (h : rsFin s m pr cq ps var = .ok (t, c)) (hp : 0 ≤ pr) : t.layers = [] ∧ t.value = t.qty * t.price := by
  unfold rsFin at h
  split at h
  · cases h
  rename_i h0
  split at h
  · cases h
  rename_i h1
  split at h
  · cases h
  cases h
  refine ⟨rfl, ?_⟩
  have hmp : 0 ≤ rsQ s cq * pr := Int.mul_nonneg (by omega) hp
  by_cases hb : rsQ s cq * pr ≤ 1000000000000000
  · exact (valN_of hmp).1 hb
  · exact absurd (.inr ((valN_of hmp).2 (by omega))) h1
theorem S3.step {s t : Sk} {m : Mv} {c : Co} (h : S3 s) (hst : sStep s m = .ok (t, c)) : S3 t := by
  have hf := sStep_f h.sg ⟨h.p0, h.p1⟩ hst
  have hg := hf.1.mg
  have hk : t.layers = [] ∧ t.value = t.qty * t.price := by
    rw [← rs_eq h] at hst
    unfold rsStep at hst
    split at hst
    · cases hst
    split at hst
    · cases hst
    unfold rsDo at hst
    split at hst
    · exact rsFin_keep hst h.p0
    split at hst
    · exact rsFin_keep hst h.p0
    split at hst
    · exact rsFin_keep hst hg.c.1
    split at hst
    · cases hst
    split at hst
    · exact rsFin_keep hst h.p0
    split at hst
    · exact rsFin_keep hst h.p0
    · exact rsFin_keep hst h.p0
  exact ⟨hf.2.1, hf.2.2.1, hf.2.2.2, hk.2, hk.1⟩
end Go.SL

namespace Go.SL
open Go
theorem bl_irrefl : ∀ x : List UInt8, Op.bytesLess x x = false
  | [] => rfl
  | a :: x => by
    have h1 : ¬ a < a := by rw [UInt8.lt_iff_toNat_lt]; omega
    simp [Op.bytesLess, h1, bl_irrefl x]
theorem bl_trans : ∀ x y z : List UInt8, Op.bytesLess x y = true → Op.bytesLess y z = true → Op.bytesLess x z = true
  | _, [], _, h, _ => by simp [Op.bytesLess] at h
  | _, _ :: _, [], _, h => by simp [Op.bytesLess] at h
  | [], _ :: _, _ :: _, _, _ => rfl
  | a :: x, b :: y, c :: z, h1, h2 => by
    simp only [Op.bytesLess, Bool.or_eq_true, Bool.and_eq_true, decide_eq_true_eq, beq_iff_eq] at h1 h2 ⊢
    have ih := bl_trans x y z
    rcases h1 with h1 | ⟨rfl, h1⟩ <;> rcases h2 with h2 | ⟨rfl, h2⟩
    · left; rw [UInt8.lt_iff_toNat_lt] at *; omega
    · left; exact h1
    · left; exact h2
    · right; exact ⟨rfl, ih h1 h2⟩
theorem bl_total : ∀ x y : List UInt8, x ≠ y → Op.bytesLess x y = true ∨ Op.bytesLess y x = true
  | [], [], h => absurd rfl h
  | [], _ :: _, _ => .inl rfl
  | _ :: _, [], _ => .inr rfl
  | a :: x, b :: y, h => by
    simp only [Op.bytesLess, Bool.or_eq_true, Bool.and_eq_true, decide_eq_true_eq, beq_iff_eq]
    rcases Nat.lt_trichotomy a.toNat b.toNat with h1 | h1 | h1
    · left; left; rw [UInt8.lt_iff_toNat_lt]; exact h1
    · have e : a = b := UInt8.toNat_inj.1 h1
      subst e
      rcases bl_total x y (fun e => h (by rw [e])) with h2 | h2
      · left; right; exact ⟨rfl, h2⟩
      · right; right; exact ⟨rfl, h2⟩
    · right; left; rw [UInt8.lt_iff_toNat_lt]; exact h1
def blt (a b : ByteArray) : Bool := Op.bytesLess a.toList b.toList
theorem toL_inj {a b : ByteArray} (h : a.toList = b.toList) : a = b := by
  rw [ByteArray.toList_eq, ByteArray.toList_eq] at h
  cases a; cases b
  simp only [ByteArray.mk.injEq] at *
  exact Array.toList_inj.1 h
theorem blt_irrefl (a : ByteArray) : blt a a = false := bl_irrefl _
theorem blt_trans {a b c : ByteArray} (h1 : blt a b = true) (h2 : blt b c = true) : blt a c = true := bl_trans _ _ _ h1 h2
theorem blt_total {a b : ByteArray} (h : a ≠ b) : blt a b = true ∨ blt b a = true := bl_total _ _ fun e => h (toL_inj e)
theorem blt_ne {a b : ByteArray} (h : blt a b = true) : a ≠ b := fun e => by rw [e, blt_irrefl] at h; cases h
theorem blt_asymm {a b : ByteArray} (h : blt a b = true) : blt b a = false := by
  cases hb : blt b a with
  | false => rfl
  | true => have := blt_trans h hb; rw [blt_irrefl] at this; cases this
/-- Sorted by lot, each once. -/
def LS (ls : List Ly) : Prop := ls.Pairwise fun a b => blt a.lot b.lot = true
theorem LS.lt {ls : List Ly} (h : LS ls) {i j : Nat} {x y : Ly} (hx : ls[i]? = some x) (hy : ls[j]? = some y) (hij : i < j) : blt x.lot y.lot = true := by
  obtain ⟨hi, rfl⟩ := List.getElem?_eq_some_iff.1 hx
  obtain ⟨hj, rfl⟩ := List.getElem?_eq_some_iff.1 hy
  exact List.pairwise_iff_getElem.1 h i j hi hj hij
theorem rlF_eq {lot : ByteArray} {ls : List Ly} (h : LS ls) : rlF lot ls = lotF lot ls := by
  unfold rlF
  cases hf : findI (isLot lot) ls with
  | some x =>
    obtain ⟨i, x⟩ := x
    obtain ⟨hx, he⟩ := findI_some hf
    have he : x.lot = lot := of_decide_eq_true he
    have := findI_at hx (show lotB lot x = true by simp [lotB, he]) fun j y hj hy => by
      have hlt := h.lt hy hx hj
      rw [he] at hlt
      have hne := blt_ne hlt
      unfold blt at hlt
      simp [lotB, hne, hlt]
    unfold lotF; rw [this]; simp [he]
  | none =>
    unfold lotF
    cases hg : findI (lotB lot) ls with
    | none => rfl
    | some x =>
      obtain ⟨i, x⟩ := x
      obtain ⟨hx, _⟩ := findI_some hg
      simp only
      rw [if_neg]
      intro he
      have := findI_isSome (f := isLot lot) (List.mem_of_getElem? hx) (decide_eq_true he)
      rw [hf] at this; cases this
theorem findI_cons {α : Type} {f : α → Bool} {l : α} {ls : List α} : findI f (l :: ls) = if f l = true then some (0, l) else (findI f ls).map fun x => (x.1 + 1, x.2) := by
  unfold findI
  rw [List.findIdx?_cons]
  by_cases h : f l = true
  · simp [h]
  · simp only [h]
    cases ls.findIdx? f with
    | none => rfl
    | some j => simp; cases ls[j]? <;> rfl
theorem lotF_nil {lot : ByteArray} : lotF lot [] = none := by unfold lotF findI; simp
theorem lotI_nil {lot : ByteArray} : lotI lot [] = 0 := by unfold lotI findI; simp
theorem lotF_cons {lot : ByteArray} {l : Ly} {ls : List Ly} : lotF lot (l :: ls) = if l.lot = lot then some (0, l) else if lotB lot l = true then none else (lotF lot ls).map fun x => (x.1 + 1, x.2) := by
  unfold lotF
  rw [findI_cons]
  by_cases h : l.lot = lot
  · have hb : lotB lot l = true := by simp [lotB, h]
    rw [if_pos hb, if_pos h]; simp [h]
  · rw [if_neg h]
    by_cases hb : lotB lot l = true
    · rw [if_pos hb, if_pos hb]; simp [h]
    · rw [if_neg hb, if_neg hb]
      cases hf : findI (lotB lot) ls with
      | none => rfl
      | some x => obtain ⟨j, y⟩ := x; simp only [Option.map_some]; split <;> rfl
theorem lotI_cons {lot : ByteArray} {l : Ly} {ls : List Ly} : lotI lot (l :: ls) = if lotB lot l = true then 0 else lotI lot ls + 1 := by
  unfold lotI
  rw [findI_cons]
  by_cases hb : lotB lot l = true
  · rw [if_pos hb, if_pos hb]
  · rw [if_neg hb, if_neg hb]
    cases findI (lotB lot) ls with
    | none => rfl
    | some x => rfl
/-- What 'put' makes of the rest. -/
def putG (lot : ByteArray) (x : Ly) : Bool → List Ly → List Ly
  | d, [] => if d = true then [] else [x]
  | d, l :: ls => (if (!d && !blt l.lot lot) = true then [x] else []) ++ (if l.lot ≠ lot then [l] else []) ++ putG lot x (d || (!d && !blt l.lot lot)) ls
theorem put_G {lot : ByteArray} {x : Ly} : ∀ {ls : List Ly} {d : Bool} {out : List Ly}, putE x (putF lot x (d, out) ls) = out ++ putG lot x d ls
  | [], d, out => by
    unfold putF putE putG
    cases d <;> simp
  | l :: ls, d, out => by
    have e : putF lot x (d, out) (l :: ls) = putF lot x (putS lot x (d, out) l) ls := rfl
    rw [e]
    have e2 : putS lot x (d, out) l = ((putS lot x (d, out) l).1, (putS lot x (d, out) l).2) := rfl
    rw [e2, put_G, putG]
    have e3 : Op.bytesLess l.lot.toList lot.toList = blt l.lot lot := rfl
    unfold putS
    simp only [e3]
    cases d <;> cases blt l.lot lot <;> by_cases h : l.lot = lot <;> simp [h]
theorem G_all {lot : ByteArray} {x : Ly} : ∀ {ls : List Ly}, (∀ l ∈ ls, l.lot ≠ lot) → putG lot x true ls = ls
  | [], _ => rfl
  | l :: ls, h => by
    rw [putG, if_pos (h l (by simp))]
    simp only [Bool.not_true, Bool.false_and, Bool.or_false, Bool.false_eq_true, if_false, List.nil_append]
    rw [G_all fun y hy => h y (by simp [hy])]; rfl
theorem LS.tail {l : Ly} {ls : List Ly} (h : LS (l :: ls)) : LS ls ∧ ∀ y ∈ ls, blt l.lot y.lot = true := ⟨(List.pairwise_cons.1 h).2, (List.pairwise_cons.1 h).1⟩
theorem lotB_blt {lot : ByteArray} {l : Ly} : lotB lot l = !blt l.lot lot := by
  unfold lotB
  have e3 : Op.bytesLess l.lot.toList lot.toList = blt l.lot lot := rfl
  rw [e3]
  by_cases h : l.lot = lot
  · rw [h, blt_irrefl]; simp
  · simp [h]
theorem G_false {lot : ByteArray} {x : Ly} : ∀ {ls : List Ly}, LS ls → putG lot x false ls = match lotF lot ls with | some (i, _) => ls.set i x | none => insL ls (lotI lot ls) x
  | [], _ => by rw [putG, lotF_nil, lotI_nil]; rfl
  | l :: ls, h => by
    obtain ⟨h1, h2⟩ := h.tail
    rw [putG, lotF_cons, lotI_cons, lotB_blt]
    by_cases he : l.lot = lot
    · subst he
      rw [blt_irrefl]
      simp only [Bool.not_false, Bool.and_self, if_true, Bool.or_true, ne_eq, not_true_eq_false, if_false, List.append_nil]
      rw [G_all fun y hy => (blt_ne (h2 y hy)).symm]; rfl
    · cases hb : blt l.lot lot with
      | true =>
        simp only [he, Bool.not_true, Bool.and_false, Bool.false_eq_true, if_false, ne_eq, not_false_eq_true, if_true, List.nil_append, Bool.or_false]
        rw [G_false h1]
        cases lotF lot ls with
        | none => simp [insL]
        | some y => rfl
      | false =>
        simp only [he, Bool.not_false, Bool.and_self, if_true, Bool.or_true, ne_eq, not_false_eq_true, if_false]
        have hgt : blt lot l.lot = true := by
          rcases blt_total he with h3 | h3
          · rw [hb] at h3; cases h3
          · exact h3
        rw [G_all fun y hy => (blt_ne (blt_trans hgt (h2 y hy))).symm]; rfl
theorem G_true {lot : ByteArray} {x : Ly} : ∀ {ls : List Ly}, LS ls → putG lot x true ls = match lotF lot ls with | some (i, _) => ls.eraseIdx i | none => ls
  | [], _ => by rw [putG, lotF_nil]; rfl
  | l :: ls, h => by
    obtain ⟨h1, h2⟩ := h.tail
    rw [putG, lotF_cons, lotB_blt]
    simp only [Bool.not_true, Bool.false_and, Bool.or_false, Bool.false_eq_true, if_false, List.nil_append]
    by_cases he : l.lot = lot
    · subst he
      simp only [ne_eq, not_true_eq_false, if_false, if_true, List.nil_append]
      rw [G_all fun y hy => (blt_ne (h2 y hy)).symm]; rfl
    · cases hb : blt l.lot lot with
      | true =>
        simp only [he, Bool.not_true, Bool.false_eq_true, if_false, ne_eq, not_false_eq_true, if_true]
        rw [G_true h1]
        cases lotF lot ls with
        | none => rfl
        | some y => rfl
      | false =>
        simp only [he, Bool.not_false, if_true, ne_eq, not_false_eq_true, if_false]
        have hgt : blt lot l.lot = true := by
          rcases blt_total he with h3 | h3
          · rw [hb] at h3; cases h3
          · exact h3
        rw [G_all fun y hy => (blt_ne (blt_trans hgt (h2 y hy))).symm]; rfl
theorem putL_eq {ls : List Ly} {lot : ByteArray} {q v : Int} (h : LS ls) : putL ls lot q v = match lotF lot ls with
    | some (i, _) => if q = 0 then ls.eraseIdx i else ls.set i ⟨0, lot, q, v⟩
    | none => if q = 0 then ls else insL ls (lotI lot ls) ⟨0, lot, q, v⟩ := by
  unfold putL
  rw [put_G, List.nil_append]
  by_cases hq : q = 0
  · rw [decide_eq_true hq, G_true h]; cases lotF lot ls <;> simp [hq]
  · rw [decide_eq_false hq, G_false h]; cases lotF lot ls <;> simp [hq]
/-- A state of 'lots'. -/
structure S4 (s : Sk) : Prop where
  sg : SG s
  li : LI s.layers s.qty s.value
  ls : LS s.layers
  z : ∀ l ∈ s.layers, l.seq = 0
theorem W_add_W {a b : Int} : W (a + W (0 - b)) = W (a - b) := by
  unfold W; rw [IntKind.wrap_i64, IntKind.wrap_i64, IntKind.wrap_i64]; omega
theorem rlQV {lot : ByteArray} {ls : List Ly} (h : LS ls) : (∀ i l, lotF lot ls = some (i, l) → rlQ ls lot = l.qty ∧ rlV ls lot = l.value) ∧ (lotF lot ls = none → rlQ ls lot = 0 ∧ rlV ls lot = 0) := by
  unfold rlQ rlV
  rw [rlF_eq h]
  constructor
  · intro i l hf; rw [hf]; exact ⟨rfl, rfl⟩
  · intro hf; rw [hf]; exact ⟨rfl, rfl⟩
theorem addL_take {lot : ByteArray} {ls : List Ly} {i : Nat} {l : Ly} {q : Int} (h : LS ls) (hz : ∀ l ∈ ls, l.seq = 0) (hf : lotF lot ls = some (i, l)) : addL ls lot (W (0 - q)) (W (0 - rlP ls lot q)) = takeL ls i l q := by
  have hqv := (rlQV h).1 i l hf
  obtain ⟨hx, hl, _⟩ := lotF_some hf
  have hz := hz l (List.mem_of_getElem? hx)
  unfold addL rlP
  rw [putL_eq h, hf, hqv.1, hqv.2, W_add_W, W_add_W]
  unfold takeL takeX takeV
  simp only
  by_cases h0 : W (l.qty - q) = 0
  · rw [if_pos h0, if_pos h0]
  · rw [if_neg h0, if_neg h0]
    congr 1
    cases l; simp_all
theorem addL_add {lot : ByteArray} {ls : List Ly} {q v : Int} (h : LS ls) (hg : LGs ls) (hb : sumBy Ly.qty ls ≤ 1000000000) (hz : ∀ l ∈ ls, l.seq = 0) (q0 : 0 ≤ q) (q1 : q ≤ 1000000000) (hn : lotF lot ls = none → q ≠ 0) : addL ls lot q v = addLot ls lot q v := by
  unfold addL addLot
  rw [putL_eq h]
  cases hf : lotF lot ls with
  | none =>
    have hqv := (rlQV h).2 hf
    have := hn hf
    simp only
    rw [hqv.1, hqv.2, W_in (n := 0 + q) ⟨by omega, by omega⟩, if_neg (by omega)]
    unfold bump newLy
    simp only
    rw [W_in (n := 0 + q) ⟨by omega, by omega⟩]
  | some x =>
    obtain ⟨i, l⟩ := x
    have hqv := (rlQV h).1 i l hf
    obtain ⟨hx, hl, _⟩ := lotF_some hf
    have hz := hz l (List.mem_of_getElem? hx)
    have h1 := (hg l (List.mem_of_getElem? hx)).1
    have h2 : l.qty ≤ sumBy Ly.qty ls := sumBy_le hg.q hx
    simp only
    rw [hqv.1, hqv.2, W_in (n := l.qty + q) ⟨by omega, by omega⟩, if_neg (by omega)]
    congr 1
    unfold bump
    rw [W_in (n := l.qty + q) ⟨by omega, by omega⟩]
    cases l; simp_all
theorem rl_do {s : Sk} {m : Mv} (h : S4 s) (hg : MG m) : rlDo s m = lDo s m := by
  have hb : sumBy Ly.qty s.layers ≤ 1000000000 := by rw [h.li.q]; exact h.sg.q1
  have hfine := h.sg.fine
  rcases (show m.kind = 1 ∨ m.kind = 2 ∨ m.kind = 3 ∨ m.kind = 4 ∨ m.kind = 5 ∨ m.kind = 6 by have := hg.k; omega) with hk | hk | hk | hk | hk | hk
  · rw [rlDo_1 hk, lDo_1 hk]; unfold rlRecv lRecv
    have hq := hg.q.2 (by omega)
    rw [addL_add h.ls h.li.g hb h.z (by omega) (by omega) (fun _ => by omega), hk]
  · rw [rlDo_2 hk, lDo_2 hk]; unfold rlIssue lIssue
    rw [rlF_eq h.ls]
    cases hf : lotF m.lot s.layers with
    | none =>
      simp only [idxOf]
      by_cases he : m.lot = ⟨#[]⟩
      · simp only [if_pos he]
      · simp only [if_neg he]; rfl
    | some x =>
      obtain ⟨i, l⟩ := x
      have hqv := (rlQV h.ls).1 i l hf
      simp only [idxOf]
      by_cases he : m.lot = ⟨#[]⟩
      · simp only [if_pos he]
      · have hi0 : ¬ ((i : Int) < 0) := by omega
        simp only [if_neg he, if_neg hi0]
        rw [addL_take h.ls h.z hf, hk]
        simp only [rlP, hqv.1, hqv.2]
        rfl
  · rw [rlDo_3 hk, lDo_3 hk]; unfold rlBack lBack lRef
    have hq := hg.q.2 (by omega)
    cases hr : refd 2 m s.past with
    | error e => rfl
    | ok x =>
      obtain ⟨i, p⟩ := x
      simp only [lBackR]
      rw [addL_add h.ls h.li.g hb h.z (by omega) (by omega) (fun _ => by omega)]
  · rw [rlDo_4 hk, lDo_4 hk]; unfold rlSend lSend lRef
    have hq := hg.q.2 (by omega)
    cases hr : refd 1 m s.past with
    | error e => rfl
    | ok x =>
      obtain ⟨i, p⟩ := x
      simp only [lSendR]
      cases hf : lotF p.lot s.layers with
      | none =>
        have hqv := (rlQV h.ls).2 hf
        simp only
        rw [hqv.1, if_pos (by omega)]
      | some x =>
        obtain ⟨j, l⟩ := x
        have hqv := (rlQV h.ls).1 j l hf
        simp only
        rw [addL_take h.ls h.z hf]
        simp only [rlP, hqv.1, hqv.2]
        rfl
  · rw [rlDo_5 hk, lDo_5 hk]; unfold rlLand lLand lRef
    have hq := hg.q.1 (by omega)
    cases hf : findI (isPast 1 m.ref) s.past with
    | none =>
      have hr : refd 1 m s.past = .error 28 := by unfold refd; rw [hf]
      rw [hr]
    | some x =>
      obtain ⟨i, p⟩ := x
      have hr := refd_fine hf hq (fun i p hx => (hfine i p hx).2)
      rw [hr]
      simp only [lLandR]
      have hQ : qtyLot s.layers p.lot = rlQ s.layers p.lot := by
        unfold qtyLot
        cases hl : lotF p.lot s.layers with
        | none => exact ((rlQV h.ls).2 hl).1.symm
        | some y => obtain ⟨j, l⟩ := y; exact ((rlQV h.ls).1 j l hl).1.symm
      have hM : lotQ s p = rlMin s p := by unfold lotQ rlMin; rw [hQ]
      rw [hM]
      by_cases h0 : rlMin s p = 0
      · rw [if_pos h0, if_pos h0]
      · rw [if_neg h0, if_neg h0]
        by_cases hl : lotF p.lot s.layers = none
        · exfalso
          have := ((rlQV h.ls).2 hl).1
          have hp1 := (h.sg.ps.all p (List.mem_of_getElem? (findI_some hf).1)).q1
          unfold rlMin at h0
          rw [this, if_pos (by omega)] at h0
          exact h0 rfl
        · rw [addL_add h.ls h.li.g hb h.z (by omega) (by omega) (fun e => absurd e hl)]
  · rw [rlDo_0 (by omega), lDo_0 (by omega)]
theorem rl_eq {s : Sk} {m : Mv} (h : S4 s) : rlStep s m = lStep s m := by
  unfold rlStep lStep
  by_cases h1 : m.one = 0
  · rw [rl_do h (MG.of h1)] <;> rfl
  · rw [if_pos h1, if_pos h1]
theorem mem_ins {ls : List Ly} {i : Nat} {x y : Ly} (h : y ∈ insL ls i x) : y = x ∨ y ∈ ls := by
  unfold insL at h
  rw [List.mem_append, List.mem_cons] at h
  rcases h with h | h | h
  · exact .inr (List.mem_of_mem_take h)
  · exact .inl h
  · exact .inr (List.mem_of_mem_drop h)
theorem LS_ins {lot : ByteArray} {x : Ly} (hx : x.lot = lot) : ∀ {ls : List Ly}, LS ls → lotF lot ls = none → LS (insL ls (lotI lot ls) x)
  | [], _, _ => by rw [lotI_nil]; exact List.pairwise_singleton _ _
  | l :: ls, h, hn => by
    obtain ⟨h1, h2⟩ := h.tail
    rw [lotF_cons] at hn
    split at hn
    · cases hn
    rename_i he
    rw [lotI_cons, lotB_blt]
    cases hb : blt l.lot lot with
    | false =>
      have hgt : blt lot l.lot = true := by
        rcases blt_total he with h3 | h3
        · rw [hb] at h3; cases h3
        · exact h3
      simp only [Bool.not_false, if_true]
      refine List.pairwise_cons.2 ⟨fun y hy => ?_, h⟩
      rw [hx]
      rcases List.mem_cons.1 hy with rfl | hy
      · exact hgt
      · exact blt_trans hgt (h2 y hy)
    | true =>
      rw [lotB_blt, hb] at hn
      simp only [Bool.not_true, Bool.false_eq_true, if_false] at hn ⊢
      have hn' : lotF lot ls = none := by cases hl : lotF lot ls with | none => rfl | some y => rw [hl] at hn; cases hn
      refine List.pairwise_cons.2 ⟨fun y hy => ?_, LS_ins hx h1 hn'⟩
      rcases mem_ins hy with rfl | hy
      · rw [hx]; exact hb
      · exact h2 y hy
theorem LS_map {ls : List Ly} : LS ls ↔ (ls.map Ly.lot).Pairwise fun a b => blt a b = true := by
  unfold LS; rw [List.pairwise_map]
theorem LS_set {ls : List Ly} {i : Nat} {l x : Ly} (h : LS ls) (hx : ls[i]? = some l) (he : x.lot = l.lot) : LS (ls.set i x) := by
  rw [LS_map] at h ⊢
  rw [List.map_set, he, set_same (by rw [List.getElem?_map, hx]; rfl)]
  exact h
theorem LS_add {ls : List Ly} {lot : ByteArray} {q v : Int} (h : LS ls) (hz : ∀ l ∈ ls, l.seq = 0) : LS (addLot ls lot q v) ∧ ∀ y ∈ addLot ls lot q v, y.seq = 0 := by
  unfold addLot
  cases hf : lotF lot ls with
  | none => exact ⟨LS_ins (lot := lot) (x := bump (newLy lot) q v) rfl h hf, fun y hy => by rcases mem_ins hy with rfl | hy; rfl; exact hz y hy⟩
  | some x =>
    obtain ⟨i, l⟩ := x
    obtain ⟨hx, hl, _⟩ := lotF_some hf
    exact ⟨LS_set h hx rfl, fun y hy => by rcases mem_set hy with rfl | hy; exact hz l (List.mem_of_getElem? hx); exact hz y hy⟩
theorem LS_take {ls : List Ly} {i : Nat} {l : Ly} {q : Int} (h : LS ls) (hz : ∀ l ∈ ls, l.seq = 0) (hx : ls[i]? = some l) : LS (takeL ls i l q) ∧ ∀ y ∈ takeL ls i l q, y.seq = 0 := by
  unfold takeL
  split
  · exact ⟨h.sublist (List.eraseIdx_sublist _ _), fun y hy => hz y (List.mem_of_mem_eraseIdx hy)⟩
  · exact ⟨LS_set h hx rfl, fun y hy => by rcases mem_set hy with rfl | hy; exact hz l (List.mem_of_getElem? hx); exact hz y hy⟩
theorem lDo_sorted {s t : Sk} {m : Mv} {c : Co} (h : LS s.layers) (hz : ∀ l ∈ s.layers, l.seq = 0) (hd : lDo s m = .ok (t, c)) : LS t.layers ∧ ∀ y ∈ t.layers, y.seq = 0 := by
  unfold lDo at hd
  split at hd
  · unfold lRecv at hd; split at hd <;> cases hd; exact LS_add h hz
  split at hd
  · unfold lIssue at hd
    split at hd
    · cases hd
    · rename_i i l hf
      split at hd
      · cases hd
      · split at hd <;> cases hd
        exact LS_take h hz (lotF_some hf).1
  split at hd
  · unfold lBack lRef at hd
    split at hd
    · cases hd
    · unfold lBackR at hd; cases hd; exact LS_add h hz
  split at hd
  · unfold lSend lRef at hd
    split at hd
    · cases hd
    · unfold lSendR at hd
      split at hd
      · cases hd
      · rename_i j l hf
        split at hd <;> cases hd
        exact LS_take h hz (lotF_some hf).1
  split at hd
  · unfold lLand lRef at hd
    split at hd
    · cases hd
    · unfold lLandR at hd
      split at hd
      · cases hd; exact ⟨h, hz⟩
      · cases hd; exact LS_add h hz
  · cases hd
theorem S4.step {s t : Sk} {m : Mv} {c : Co} (h : S4 s) (hst : lStep s m = .ok (t, c)) : S4 t := by
  have hf := lStep_f h.sg h.li hst
  have hs : LS t.layers ∧ ∀ y ∈ t.layers, y.seq = 0 := by
    unfold lStep at hst
    split at hst
    · cases hst
    split at hst
    · cases hst
    split at hst
    · cases hst
    · rename_i t1 c1 hd
      split at hst <;> cases hst
      exact (show LS t1.layers ∧ ∀ y ∈ t1.layers, y.seq = 0 from lDo_sorted h.ls h.z hd)
  exact ⟨hf.2.1, hf.2.2, hs.1, hs.2⟩
end Go.SL

namespace Go.SL
open Go
structure RInv (k : Int) (s : Sk) : Prop where
  i : Inv k s
  l2 : k = 2 → s.layers = []
  s3 : k = 3 → S3 s
  s4 : k = 4 → S4 s
theorem aStep_lay {s t : Sk} {m : Mv} {c : Co} (h : aStep s m = .ok (t, c)) : t.layers = s.layers := by
  unfold aStep at h
  split at h
  · cases h
  split at h
  · cases h
  split at h
  · cases h
  · rename_i t1 c1 hd
    split at h <;> cases h
    exact (show t1.layers = s.layers from aDo_layers hd)
theorem rStepM_eq {k : Int} {s : Sk} {m : Mv} (h : RInv k s) : rStepM k s m = stepM k s m := by
  by_cases h1 : k = 1
  · rw [rStepM_1 h1, stepM_1 h1]
  by_cases h2 : k = 2
  · rw [rStepM_2 h2, stepM_2 h2]
  by_cases h3 : k = 3
  · rw [rStepM_3 h3, stepM_3 h3, rs_eq (h.s3 h3)]
  by_cases h4 : k = 4
  · rw [rStepM_4 h4, stepM_4 h4, rl_eq (h.s4 h4)]
  · rw [rStepM_0 ⟨h1, h2, h3, h4⟩, stepM_0 ⟨h1, h2, h3, h4⟩]
theorem RInv.step {k : Int} {s t : Sk} {m : Mv} {c : Co} (h : RInv k s) (hst : stepM k s m = .ok (t, c)) : RInv k t :=
  ⟨(stepM_f h.i hst).2, fun hk => by rw [stepM_2 hk] at hst; rw [aStep_lay hst]; exact h.l2 hk, fun hk => by rw [stepM_3 hk] at hst; exact (h.s3 hk).step hst, fun hk => by rw [stepM_4 hk] at hst; exact (h.s4 hk).step hst⟩
theorem RInv.fine {k : Int} {s : Sk} (h : RInv k s) : s.fine := h.i.sg.fine
theorem start_rinv {k p : Int} : RInv k (start0 k p) := by
  have hi := start_inv k p
  have hl := start0_l k p
  refine ⟨hi, fun _ => hl, fun hk => ?_, fun hk => ⟨hi.sg, hi.li (.inr hk), by rw [hl]; exact List.Pairwise.nil, fun l h => by rw [hl] at h; cases h⟩⟩
  have hp := hi.pr hk
  exact ⟨hi.sg, hp.1, hp.2, by rw [start0_v, start0_q, Int.zero_mul], hl⟩
end Go.SL

namespace Go.SL
open Go
/-! a list of movements is checked -/
def targK (kind : Int) : Int := if kind = 3 then 2 else 1
/-- What was returned so far to a number, by movements of a kind. -/
def backQ (l : List Mv) (kind ref : Int) : Int := match l with
  | [] => 0
  | y :: l => (if y.kind = kind ∧ y.ref = ref then y.qty else 0) + backQ l kind ref
def referM (l : List Mv) (m : Mv) : Int :=
  if (l.length : Int) < m.ref then 28 else match l[(m.ref - 1).toNat]? with
  | none => 28
  | some x => if x.item ≠ m.item ∨ x.kind ≠ targK m.kind then 28 else if m.value < x.value then 17 else if x.qty < backQ l m.kind m.ref + m.qty then 21 else 0
/-- The first error of the movements behind 'done': its place and code. -/
def chkL (done : List Mv) : List Mv → Option (Nat × Int)
  | [] => none
  | m :: ms => if m.seq ≠ (done.length : Int) + 1 then some (done.length, 17) else if m.one ≠ 0 then some (done.length, m.one)
    else if refersB m.kind = true ∧ referM done m ≠ 0 then some (done.length, referM done m) else chkL (done ++ [m]) ms
def chkM (ms : List Mv) : Option (Nat × Int) := if 2000 < ms.length then some (0, 9) else chkL [] ms
theorem backQ_app (l : List Mv) (y : Mv) (k r : Int) : backQ (l ++ [y]) k r = backQ l k r + (if y.kind = k ∧ y.ref = r then y.qty else 0) := by
  induction l with
  | nil => simp [backQ]
  | cons x l ih => simp only [List.cons_append, backQ, ih]; omega
/-- A list without errors, element by element. -/
def Fine (ms : List Mv) : Prop := ∀ (i : Nat) (m : Mv), ms[i]? = some m → m.seq = (i : Int) + 1 ∧ m.one = 0 ∧ (refersB m.kind = true → referM (ms.take i) m = 0)
theorem chkL_none : ∀ {ms done : List Mv}, chkL done ms = none ↔ ∀ (i : Nat) (m : Mv), ms[i]? = some m → m.seq = ((done.length + i : Nat) : Int) + 1 ∧ m.one = 0 ∧ (refersB m.kind = true → referM (done ++ ms.take i) m = 0)
  | [], done => by simp [chkL]
  | x :: ms, done => by
    simp only [chkL]
    constructor
    · intro h
      split at h
      · cases h
      split at h
      · cases h
      split at h
      · cases h
      rename_i h1 h2 h3
      have ih := chkL_none.1 h
      intro i m hm
      cases i with
      | zero =>
        simp only [List.getElem?_cons_zero, Option.some.injEq] at hm
        subst hm
        refine ⟨by simpa using h1, by simpa using h2, fun hr => ?_⟩
        simpa [hr] using h3
      | succ i =>
        have := ih i m (by simpa using hm)
        simp only [List.length_append, List.length_cons, List.length_nil, List.append_assoc, List.singleton_append] at this
        simp only [List.take_succ_cons]
        refine ⟨by rw [this.1]; omega, this.2⟩
    · intro h
      have h0 := h 0 x rfl
      simp only [List.take_zero, List.append_nil] at h0
      rw [if_neg (by rw [h0.1]; simp), if_neg (by simp [h0.2.1]), if_neg (fun ⟨a, b⟩ => b (h0.2.2 a))]
      refine chkL_none.2 fun i m hm => ?_
      have := h (i + 1) m (by simpa using hm)
      simp only [List.take_succ_cons] at this
      simp only [List.length_append, List.length_cons, List.length_nil, List.append_assoc, List.singleton_append]
      exact ⟨by rw [this.1]; omega, this.2⟩
theorem chkM_none {ms : List Mv} : chkM ms = none ↔ ms.length ≤ 2000 ∧ Fine ms := by
  unfold chkM Fine
  split
  · constructor
    · intro h; cases h
    · intro h; omega
  · rw [chkL_none]
    simp only [List.length_nil, Nat.zero_add, List.nil_append]
    exact ⟨fun h => ⟨by omega, h⟩, fun h => h.2⟩
/-! the value order -/
def insB {α : Type} (p : α → Bool) (x : α) (o : List α) : List α := o.takeWhile (fun y => !p y) ++ x :: o.dropWhile (fun y => !p y)
/-- How many stand ahead of the first that fits. -/
def cutN {α : Type} (p : α → Bool) (o : List α) : Nat := (o.takeWhile fun y => !p y).length
theorem insB_eq {α : Type} (p : α → Bool) (x : α) (o : List α) : insB p x o = o.take (cutN p o) ++ x :: o.drop (cutN p o) := by
  have h := List.takeWhile_append_dropWhile (p := fun y => !p y) (l := o)
  unfold insB cutN
  have h1 : ∀ a b : List α, (a ++ b).take a.length = a ∧ (a ++ b).drop a.length = b := fun a b => by simp
  have h2 := h1 (o.takeWhile fun y => !p y) (o.dropWhile fun y => !p y)
  rw [h] at h2
  rw [h2.1, h2.2]
theorem cutN_le {α : Type} {p : α → Bool} {o : List α} : cutN p o ≤ o.length := (List.takeWhile_prefix _).length_le
theorem cutN_lt {α : Type} {p : α → Bool} : ∀ {o : List α} {i : Nat} {y : α}, i < cutN p o → o[i]? = some y → p y = false
  | [], i, y, h, _ => by simp [cutN] at h
  | x :: o, i, y, h, hy => by
    simp only [cutN, List.takeWhile_cons] at h
    split at h
    · rename_i hx
      cases i with
      | zero => simp only [List.getElem?_cons_zero, Option.some.injEq] at hy; subst hy; simpa using hx
      | succ i => exact cutN_lt (o := o) (i := i) (by unfold cutN; simpa using h) (by simpa using hy)
    · simp at h
theorem cutN_at {α : Type} {p : α → Bool} : ∀ {o : List α} {y : α}, o[cutN p o]? = some y → p y = true
  | [], y, h => by simp at h
  | x :: o, y, h => by
    simp only [cutN, List.takeWhile_cons] at h
    split at h
    · exact cutN_at (o := o) (by unfold cutN; simpa using h)
    · rename_i hx
      simp only [List.length_nil, List.getElem?_cons_zero, Option.some.injEq] at h
      subst h; simpa using hx
/-- Once it fits, it fits for all behind. -/
def Mono {α : Type} (p : α → Bool) (o : List α) : Prop := ∀ (i j : Nat) (x y : α), i ≤ j → o[i]? = some x → o[j]? = some y → p x = true → p y = true
theorem cutN_iff {α : Type} {p : α → Bool} {o : List α} (hm : Mono p o) {i : Nat} {y : α} (hy : o[i]? = some y) : p y = true ↔ cutN p o ≤ i := by
  constructor
  · intro hp
    refine Nat.le_of_not_lt fun h => ?_
    have := cutN_lt h hy
    rw [this] at hp; cases hp
  · intro h
    have hl := (List.getElem?_eq_some_iff.1 hy).1
    obtain ⟨z, hz⟩ : ∃ z, o[cutN p o]? = some z := ⟨_, List.getElem?_eq_getElem (by omega)⟩
    exact hm _ _ _ _ h hz hy (cutN_at hz)
theorem cutN_mid {α : Type} {p : α → Bool} {o : List α} {n : Nat} (hn : n ≤ o.length) (h0 : ∀ i y, i < n → o[i]? = some y → p y = false) (h1 : ∀ y, o[n]? = some y → p y = true) : cutN p o = n := by
  rcases Nat.lt_trichotomy (cutN p o) n with h | h | h
  · obtain ⟨z, hz⟩ : ∃ z, o[cutN p o]? = some z := ⟨_, List.getElem?_eq_getElem (by omega)⟩
    have a := h0 _ _ h hz
    have b := cutN_at hz
    rw [a] at b; cases b
  · exact h
  · have hl := cutN_le (p := p) (o := o)
    obtain ⟨z, hz⟩ : ∃ z, o[n]? = some z := ⟨_, List.getElem?_eq_getElem (by omega)⟩
    have a := cutN_lt h hz
    rw [h1 z hz] at a; cases a
/-- The movements in value order. -/
def laterB (v : Int) (y : Mv) : Bool := decide (v < y.value)
def ordM (ms : List Mv) : List Mv := ms.foldl (fun o m => insB (laterB m.value) m o) []
theorem ordM_app (ms : List Mv) (m : Mv) : ordM (ms ++ [m]) = insB (laterB m.value) m (ordM ms) := by simp [ordM]
theorem insB_perm {α : Type} (p : α → Bool) (x : α) (o : List α) : (insB p x o).Perm (x :: o) := by
  unfold insB
  refine List.perm_middle.trans ?_
  rw [List.takeWhile_append_dropWhile]
theorem ordM_perm (ms : List Mv) : (ordM ms).Perm ms := by
  suffices H : ∀ (ms o : List Mv), (ms.foldl (fun o m => insB (laterB m.value) m o) o).Perm (o ++ ms) by simpa [ordM] using H ms []
  intro ms
  induction ms with
  | nil => intro o; simp
  | cons m ms ih =>
    intro o
    simp only [List.foldl_cons]
    refine (ih _).trans ?_
    refine ((insB_perm _ _ _).append_right ms).trans ?_
    exact List.perm_middle.symm
end Go.SL

namespace Go.SL
open Go
theorem pk {L M : List HP} {A : HP} (p : Pick L A M := by repeat (first | exact Pick.here | apply Pick.there)) : Pick L A M := p
theorem up {L L' : List HP} {A B : HP} (p : Upd L A B L' := by repeat (first | exact Upd.here | apply Upd.there)) : Upd L A B L' := p
theorem tks {L M As : List HP} (p : Takes L As M := by repeat (first | exact Takes.nil | (apply Takes.cons; · repeat (first | exact Pick.here | apply Pick.there)))) : Takes L As M := p
theorem gv {L M : List HP} (p : Gives L M := by repeat (first | exact Gives.nil | (apply Gives.cons; · repeat (first | exact Pick.here | apply Pick.there)))) : Gives L M := p
theorem po {pend : Pend} {L : List HP} (p : PendOk pend L := by repeat (first | exact PendOk.nil | (apply PendOk.cons; · repeat (first | exact Gives.nil | (apply Gives.cons; · repeat (first | exact Pick.here | apply Pick.there)))))) : PendOk pend L := p
theorem kr {α : Type} {a b : α} (h : a = b := by kernel_rfl) : a = b := h
def Env.pick : List Nat → Env → Option Env
  | [], _ => some []
  | k :: ks, E => match E.get k with
    | none => none
    | some v => match Env.pick ks E with
      | none => none
      | some E' => some ((k, v) :: E')
theorem kt : ∀ {ks : List Nat} {E E' : Env}, E.pick ks = some E' → Keep ks E E'
  | [], E, E', h => by cases h; exact .nil
  | k :: ks, E, E', h => by
    unfold Env.pick at h
    split at h
    · cases h
    · rename_i v hv
      split at h
      · cases h
      · rename_i E2 he; cases h; exact .cons hv (kt he)
section
variable {P : Program} {β : Base} {n : Nat} {arr : Array Oper} {os : List Oper} {E E' : Env} {L : List HP} {K : Env → List HP → Prop} {d : Option Tmp} {ty : TypeId} {pos : String} {af : Array Edge} {x : Operand} {v : Value} {Q : Po}
theorem asg (hd : dstOk n d = true) (hx : E.ev x = some v) (h : RunL P β n arr os (E.put d v) L K) : RunL P β n arr (⟨d, .assign x, ty, pos, af, none⟩ :: os) E L K := RunL.op hd rfl (OpJ.assign hx h)
theorem mvo (hd : dstOk n d = true) (hx : E.ev x = some v) (h : RunL P β n arr os (E.put d v) L K) : RunL P β n arr (⟨d, .move x, ty, pos, af, none⟩ :: os) E L K := RunL.op hd rfl (OpJ.move hx h)
theorem kp (ks : List Nat) (hk : E.pick ks = some E') (h : K E' L) : RunL P β n arr [] E L K := RunL.keep (kt hk) h
theorem sr {id : Nat} {y : Code} (h : RunL P β n arr arr.toList E L fun E' L' => Run P β n y E' L' Q) : Run P β n (.seq (.region id arr false) y) E L Q := Run.seq (Run.region h)
variable {ops : Array Oper} {fuel : Nat} {listed : Array Bool} {pend : Pend}
theorem kd (ks : List Nat) (hk : E.pick ks = some E') (h : K E' L) (hr : Region.ready .any ops listed = [] := by kernel_rfl) : RunD P β n ops fuel listed pend E L K := RunD.keep hr (kt hk) h
theorem tk (i : Nat) {o : Oper} {v : Value} (hi : ops[i]? = some o) (hg : o.guard = none) (hd : dstOk n o.dst = true) (hy : DetJ P β E [] o v) (h : RunD P β n ops fuel (listed.setIfInBounds i true) ((i, []) :: pend) (E.put o.dst v) L K)
    (hchk : (Region.noSelect ops && Region.free .any ops listed i && (Region.ready .any ops listed).contains i) = true := by kernel_rfl) : RunD P β n ops (fuel + 1) listed pend E L K := RunD.take (Ls := []) i hi hg hd hchk hy .nil h
end
theorem bs : (∀ {α : Type} {a : α} {us : List α}, (a :: us).length = us.length + 1) ∧ (∀ {α : Type}, ([] : List α).length = 0) ∧ (∀ {α : Type} {a : α} {us : List α} {i : Nat}, (a :: us).take (i + 1) = a :: us.take i) ∧ (∀ {α : Type} {us : List α}, us.take 0 = []) ∧
    (∀ {α : Type} {a : α} {us : List α} {i : Nat}, (a :: us).drop (i + 1) = us.drop i) ∧ (∀ {α : Type} {us : List α}, us.drop 0 = us) ∧ (∀ {α : Type} {i : Nat}, ([] : List α).drop i = []) ∧ (∀ {α : Type} {a : α} {us vs : List α}, a :: us ++ vs = a :: (us ++ vs)) ∧
    (∀ {α : Type} {us : List α}, [] ++ us = us) ∧ (∀ {α : Type} {us : List α}, us ++ [] = us) ∧ (∀ {α : Type} {a : α} {us : List α} {i : Nat}, (a :: us)[i + 1]? = us[i]?) ∧ (∀ {α : Type} {a : α} {us : List α}, (a :: us)[0]? = some a) ∧
    (∀ n : Nat, 0 + n = n) ∧ (∀ n : Nat, n + 0 = n) ∧ (∀ n : Nat, (n ≤ n) = True) ∧ (∀ n : Nat, (0 < n.succ) = True) ∧ (∀ p : Prop, (p ∧ p) = p) ∧ (∀ p : Prop, (p ∧ True) = p) ∧ (∀ p : Prop, (True ∧ p) = p) ∧ (∀ {α : Type} (a b : α), (if True then a else b) = a) ∧ (∀ {α : Type} (a b : α), (some a = some b) = (a = b)) := by
  refine ⟨?_, ?_, ?_, ?_, ?_, ?_, ?_, ?_, ?_, ?_, ?_, ?_, ?_, ?_, ?_, ?_, ?_, ?_, ?_, ?_, ?_⟩ <;> simp
end Go.SL

namespace Go.SL
open Go
/-- What is told of a type's description. -/
class UI (P : Program) (t : TypeId) (d : outParam TypeDesc) : Prop where
  eq : P.underlying t = some d
theorem UI.some {P : Program} {t : TypeId} {d : TypeDesc} (u : UI P t d) : (P.underlying t).isSome = true := by rw [u.eq]; rfl
class SoI (P : Program) (t : TypeId) : Prop where
  eq : (P.underlying t).isSome = true
class PI (P : Program) (t : TypeId) : Prop where
  eq : P.underlying t = some (.pointer (P.pointee t))
structure Hold (G : Prop) : Prop where
  of : G
/-- 'RunL' with a count of the operations that are to be taken. -/
structure Sts (P : Program) (β : Base) (n : Nat) (arr : Array Oper) (k : Nat) (os : List Oper) (E : Env) (L : List HP) (K : Env → List HP → Prop) : Prop where
  of : RunL P β n arr os E L K
section
variable {P : Program} {β : Base} {n k : Nat} {arr : Array Oper} {os : List Oper} {E : Env} {L : List HP} {K : Value → List HP → Prop} {H : Env → List HP → Prop} {d : Option Tmp} {op : Op} {ty : TypeId} {pos : String} {af : Array Edge} {x y : Operand} {u v : Value} {t t' : TypeId} {g : Option (Nat × Bool)}
theorem OpJ.up {o : Oper} {K' : Value → List HP → Prop} (h : OpJ P β E L o K) (hk : ∀ v L, K v L → K' v L) : OpJ P β E L o K' := fun a w ha hs next Q hn => h a w ha hs next Q fun v L' w' hK hs' => hn v L' w' (hk v L' hK) hs'
theorem Sts.done (h : RunL P β n arr os E L H) : Sts P β n arr 0 os E L H := ⟨h⟩
theorem Sts.o1 (hd : dstOk n d = true) (h : OpJ P β E L ⟨d, op, ty, pos, af, none⟩ fun v L1 => Sts P β n arr k os (E.put d v) L1 H) : Sts P β n arr (k + 1) (⟨d, op, ty, pos, af, none⟩ :: os) E L H :=
  ⟨RunL.op hd rfl (h.up fun v L1 h => h.of)⟩
theorem Sts.yes {j : Nat} {b : Bool} {gd : Tmp} (hd : dstOk n d = true) (hj : (arr[j]?).bind (·.dst) = some gd) (hb : E.get gd = some u) (hu : u = .bool b)
    (h : OpJ P β E L ⟨d, op, ty, pos, af, some (j, b)⟩ fun v L1 => Sts P β n arr k os (E.put d v) L1 H) : Sts P β n arr (k + 1) (⟨d, op, ty, pos, af, some (j, b)⟩ :: os) E L H :=
  ⟨RunL.yes hd rfl hj (by rw [hb, hu]) (h.up fun v L1 h => h.of)⟩
theorem Sts.noT {j : Nat} {gd : Tmp} (hd : dstOk n d = true) (hj : (arr[j]?).bind (·.dst) = some gd) (hb : E.get gd = some u) (hu : u = .bool false)
    (h : Sts P β n arr k os (E.put d undef) L H) : Sts P β n arr (k + 1) (⟨d, op, ty, pos, af, some (j, true)⟩ :: os) E L H :=
  ⟨RunL.no hd rfl hj (by rw [hb, hu]; rfl) h.of⟩
theorem Sts.noF {j : Nat} {gd : Tmp} (hd : dstOk n d = true) (hj : (arr[j]?).bind (·.dst) = some gd) (hb : E.get gd = some u) (hu : u = .bool true)
    (h : Sts P β n arr k os (E.put d undef) L H) : Sts P β n arr (k + 1) (⟨d, op, ty, pos, af, some (j, false)⟩ :: os) E L H :=
  ⟨RunL.no hd rfl hj (by rw [hb, hu]; rfl) h.of⟩
theorem Sts.undef {j : Nat} {b : Bool} {gd : Tmp} (hd : dstOk n d = true) (hj : (arr[j]?).bind (·.dst) = some gd) (hb : E.get gd = some u) (hu : u = Go.undef)
    (h : Sts P β n arr k os (E.put d Go.undef) L H) : Sts P β n arr (k + 1) (⟨d, op, ty, pos, af, some (j, b)⟩ :: os) E L H :=
  ⟨RunL.undef hd rfl hj (by rw [hb, hu]) h.of⟩
theorem OpJ.pickXT {c : Operand} (hc : E.ev c = some u) (hu : u = .bool true) (hx : E.ev x = some v) (k : K v L) : OpJ P β E L ⟨d, .pick c x y, ty, pos, af, g⟩ K := OpJ.pickT (hu ▸ hc) hx k
theorem OpJ.pickXF {c : Operand} (hc : E.ev c = some u) (hu : u = .bool false) (hy : E.ev y = some v) (k : K v L) : OpJ P β E L ⟨d, .pick c x y, ty, pos, af, g⟩ K := OpJ.pickF (hu ▸ hc) hy k
theorem OpJ.notXT (hx : E.ev x = some u) (hu : u = .bool true) (h : K (.bool false) L) : OpJ P β E L ⟨d, .unOp .not t x, ty, pos, af, g⟩ K := OpJ.not (b := true) (hu ▸ hx) h
theorem OpJ.notXF (hx : E.ev x = some u) (hu : u = .bool false) (h : K (.bool true) L) : OpJ P β E L ⟨d, .unOp .not t x, ty, pos, af, g⟩ K := OpJ.not (b := false) (hu ▸ hx) h
theorem OpJ.buildX {zs cs : List Value} {places : List (Nat × Nat)} {xs : List (Nat × Operand)} {ps : List (Nat × Value)} (B : BI P t zs places) (hx : E.evp xs = some ps) (hb : bldL places zs ps = some cs) (h : K (.agg ⟨cs⟩) L) : OpJ P β E L ⟨d, .build t ⟨xs⟩, ty, pos, af, g⟩ K :=
  OpJ.build B hx (by rw [hb]; rfl) fun cs' h' => by cases hb.symm.trans h'; exact h
theorem OpJ.buildArrX {zs cs : List Value} {xs : List (Nat × Operand)} {ps : List (Nat × Value)} (B : BAI P t zs) (hx : E.evp xs = some ps) (hb : bldA zs ps = some cs) (h : K (.agg ⟨cs⟩) L) : OpJ P β E L ⟨d, .build t ⟨xs⟩, ty, pos, af, g⟩ K :=
  OpJ.buildArr B hx (by rw [hb]; rfl) fun cs' h' => by cases hb.symm.trans h'; exact h
theorem bx1 {α : Type} : Value.bool (!(none : Option α).isSome) = .bool true := rfl
theorem bx2 {α : Type} {a : α} : Value.bool (!(some a).isSome) = .bool false := rfl
theorem bx3 {α : Type} : Value.bool ((none : Option α).isSome) = .bool false := rfl
theorem bx4 {α : Type} {a : α} : Value.bool ((some a).isSome) = .bool true := rfl
theorem bx5 {α : Type} : Value.bool ((none : Option α).isNone) = .bool true := rfl
theorem bx6 {α : Type} {a : α} : Value.bool ((some a).isNone) = .bool false := rfl
theorem bx7 : Value.bool (!true) = .bool false := rfl
theorem bx8 : Value.bool (!false) = .bool true := rfl
theorem bx9 {α : Type} : Value.bool (!(none : Option α).isNone) = .bool false := rfl
theorem bx10 {α : Type} {a : α} : Value.bool (!(some a).isNone) = .bool true := rfl
/-! what kind of operation it is -/
section
variable {bo : BinOp} {uo : UnOp} {xs : Array (Nat × Operand)} {cc : Call} {z : Operand} {i : Nat}
theorem gLd (h : OpJ P β E L ⟨d, .load t x, ty, pos, af, g⟩ K) : OpJ P β E L ⟨d, .load t x, ty, pos, af, g⟩ K := h
theorem gSt (h : OpJ P β E L ⟨d, .store t x y, ty, pos, af, g⟩ K) : OpJ P β E L ⟨d, .store t x y, ty, pos, af, g⟩ K := h
theorem gAdd (h : OpJ P β E L ⟨d, .binOp .add t x y t', ty, pos, af, g⟩ K) : OpJ P β E L ⟨d, .binOp .add t x y t', ty, pos, af, g⟩ K := h
theorem gSub (h : OpJ P β E L ⟨d, .binOp .sub t x y t', ty, pos, af, g⟩ K) : OpJ P β E L ⟨d, .binOp .sub t x y t', ty, pos, af, g⟩ K := h
theorem gBin (h : OpJ P β E L ⟨d, .binOp bo t x y t', ty, pos, af, g⟩ K) : OpJ P β E L ⟨d, .binOp bo t x y t', ty, pos, af, g⟩ K := h
theorem gUn (h : OpJ P β E L ⟨d, .unOp uo t x, ty, pos, af, g⟩ K) : OpJ P β E L ⟨d, .unOp uo t x, ty, pos, af, g⟩ K := h
theorem gIA (h : OpJ P β E L ⟨d, .indexAddr t x y, ty, pos, af, g⟩ K) : OpJ P β E L ⟨d, .indexAddr t x y, ty, pos, af, g⟩ K := h
theorem gBld (h : OpJ P β E L ⟨d, .build t xs, ty, pos, af, g⟩ K) : OpJ P β E L ⟨d, .build t xs, ty, pos, af, g⟩ K := h
theorem gCall (h : OpJ P β E L ⟨d, .call cc, ty, pos, af, g⟩ K) : OpJ P β E L ⟨d, .call cc, ty, pos, af, g⟩ K := h
theorem gPick (h : OpJ P β E L ⟨d, .pick x y z, ty, pos, af, g⟩ K) : OpJ P β E L ⟨d, .pick x y z, ty, pos, af, g⟩ K := h
theorem gFld (h : OpJ P β E L ⟨d, .field t x i, ty, pos, af, g⟩ K) : OpJ P β E L ⟨d, .field t x i, ty, pos, af, g⟩ K := h
theorem gCv (h : OpJ P β E L ⟨d, .convert t t' x, ty, pos, af, g⟩ K) : OpJ P β E L ⟨d, .convert t t' x, ty, pos, af, g⟩ K := h
theorem gQuo (h : OpJ P β E L ⟨d, .binOp .quo t x y t', ty, pos, af, g⟩ K) : OpJ P β E L ⟨d, .binOp .quo t x y t', ty, pos, af, g⟩ K := h
theorem gRem (h : OpJ P β E L ⟨d, .binOp .rem t x y t', ty, pos, af, g⟩ K) : OpJ P β E L ⟨d, .binOp .rem t x y t', ty, pos, af, g⟩ K := h
theorem gShl (h : OpJ P β E L ⟨d, .binOp .shl t x y t', ty, pos, af, g⟩ K) : OpJ P β E L ⟨d, .binOp .shl t x y t', ty, pos, af, g⟩ K := h
theorem gShr (h : OpJ P β E L ⟨d, .binOp .shr t x y t', ty, pos, af, g⟩ K) : OpJ P β E L ⟨d, .binOp .shr t x y t', ty, pos, af, g⟩ K := h
end
end
end Go.SL
namespace Go.SL
open Go
section
variable {P : Program} {β : Base} {n : Nat} {arr : Array Oper} {os : List Oper} {E : Env} {L : List HP} {H : Env → List HP → Prop}
/-- The next 'k' operations. -/
theorem sx (k : Nat) {G : (Env → List HP → Prop) → Prop} (h : G H) (s : ∀ H', Hold (G H') → Sts P β n arr k os E L H' := by intro H' hk; repeat (first | exact Sts.done hk.of | ((first | refine Sts.o1 rfl ?_ | refine Sts.yes rfl rfl rfl (by with_reducible first | exact rfl | exact bx1 | exact bx2 | exact bx3 | exact bx4 | exact bx5 | exact bx6 | exact bx7 | exact bx8 | exact bx9 | exact bx10) ?_); (first | refine OpJ.move rfl ?_ | refine OpJ.assign rfl ?_ | refine OpJ.fieldAddr inferInstance rfl ?_ | (refine gLd ?_; first | refine OpJ.loadF inferInstance rfl pk (by rfl) ?_ | refine OpJ.loadO inferInstance rfl pk (by assumption) (by rfl) (by exact fun _ => rfl) ?_ | refine OpJ.loadW inferInstance rfl pk (by rfl) ?_ | refine OpJ.loadP inferInstance rfl pk (by simp) ?_ | refine OpJ.loadE inferInstance rfl pk (by assumption) (by exact fun _ => rfl) rfl (by decide) ?_) | refine OpJ.extract rfl rfl ?_ | (refine gPick ?_; first | refine OpJ.pickXT rfl (by with_reducible first | exact rfl | exact bx1 | exact bx2 | exact bx3 | exact bx4 | exact bx5 | exact bx6 | exact bx7 | exact bx8 | exact bx9 | exact bx10) rfl ?_ | refine OpJ.pickXF rfl (by with_reducible first | exact rfl | exact bx1 | exact bx2 | exact bx3 | exact bx4 | exact bx5 | exact bx6 | exact bx7 | exact bx8 | exact bx9 | exact bx10) rfl ?_ | refine OpJ.pick rfl rfl rfl ?_) | (refine gSt ?_; first | refine OpJ.storeW inferInstance rfl rfl rfl rfl (by simp [Value.oneCell', Pa.c, Ly.c, Mv.c, Co.c]) up ?_ | refine OpJ.store1 inferInstance rfl rfl rfl up (by simp) ?_ | refine OpJ.store inferInstance rfl rfl rfl rfl (by simp [Value.cells, Value.oneCell', Pa.c, Ly.c, Mv.c, Co.c]) up (by simp) ?_) | (refine gAdd ?_; first | refine OpJ.addI rfl rfl (by omega) ?_ | refine OpJ.add rfl rfl ?_) | (refine gSub ?_; first | refine OpJ.subI rfl rfl (by omega) ?_ | refine OpJ.sub rfl rfl ?_) | (refine gQuo ?_; first | refine OpJ.quo rfl rfl (by omega) ?_) | (refine gRem ?_; first | refine OpJ.rem rfl rfl (by omega) ?_) | (refine gShl ?_; first | refine OpJ.shl rfl rfl (by omega) ?_) | (refine gShr ?_; first | refine OpJ.shr rfl rfl (by omega) ?_) | (refine gBin ?_; first | refine OpJ.eql rfl rfl ?_ | refine OpJ.neq rfl rfl ?_ | refine OpJ.lss rfl rfl ?_ | refine OpJ.gtr rfl rfl ?_ | refine OpJ.leq rfl rfl ?_ | refine OpJ.geq rfl rfl ?_ | refine OpJ.mul rfl rfl ?_ | refine OpJ.eqlS rfl rfl ?_ | refine OpJ.neqS rfl rfl ?_ | refine OpJ.lssS rfl rfl ?_ | refine OpJ.gtrS rfl rfl ?_ | refine OpJ.geqS rfl rfl ?_ | refine OpJ.eqlNil PI.eq rfl ?_ | refine OpJ.neqNil PI.eq rfl ?_ | refine OpJ.eqlNilSl inferInstance rfl ?_ | refine OpJ.eqlA inferInstance rfl rfl rfl ?_ | refine OpJ.neqA inferInstance rfl rfl rfl ?_ | refine OpJ.eqlB UI.eq rfl rfl ?_ | refine OpJ.neqB UI.eq rfl rfl ?_ | refine OpJ.band rfl rfl ?_ | refine OpJ.bor rfl rfl ?_) | refine OpJ.nilCheck rfl ?_ | (refine gCall ?_; first | refine OpJ.len inferInstance rfl ?_ | refine OpJ.lenS UI.eq rfl ?_ | refine OpJ.min rfl rfl ?_) | (refine gIA ?_; first | refine OpJ.indexAddr inferInstance rfl rfl (by omega) ?_ | refine OpJ.indexAddrArr inferInstance rfl rfl (by omega) ?_) | (refine gUn ?_; first | refine OpJ.notXT rfl (by with_reducible first | exact rfl | exact bx1 | exact bx2 | exact bx3 | exact bx4 | exact bx5 | exact bx6 | exact bx7 | exact bx8 | exact bx9 | exact bx10) ?_ | refine OpJ.notXF rfl (by with_reducible first | exact rfl | exact bx1 | exact bx2 | exact bx3 | exact bx4 | exact bx5 | exact bx6 | exact bx7 | exact bx8 | exact bx9 | exact bx10) ?_ | refine OpJ.not rfl ?_ | refine OpJ.neg rfl ?_) | (refine gCv ?_; first | refine OpJ.conv SoI.eq UI.eq rfl ?_) | (refine gFld ?_; first | refine OpJ.fieldA inferInstance inferInstance rfl ?_ | refine OpJ.field1 inferInstance inferInstance rfl (by rfl) ?_) | refine OpJ.makeFunc rfl rfl ?_ | (refine gBld ?_; first | refine OpJ.buildX inferInstance rfl (by simp only [Sk.c, Mv.c, Co.c, bldL, Value.cells, bs, Nat.reduceAdd, Nat.reduceLeDiff, Nat.reduceLT]; rfl) ?_ | refine OpJ.buildArrX inferInstance rfl (by simp only [bldA, Value.cells, bs, Nat.reduceAdd, Nat.reduceLeDiff, Nat.reduceLT]; rfl) ?_))) | refine Sts.noT rfl rfl rfl (by with_reducible first | exact rfl | exact bx1 | exact bx2 | exact bx3 | exact bx4 | exact bx5 | exact bx6 | exact bx7 | exact bx8 | exact bx9 | exact bx10) ?_ | refine Sts.noF rfl rfl rfl (by with_reducible first | exact rfl | exact bx1 | exact bx2 | exact bx3 | exact bx4 | exact bx5 | exact bx6 | exact bx7 | exact bx8 | exact bx9 | exact bx10) ?_ | refine Sts.undef rfl rfl rfl (by with_reducible first | exact rfl | exact bx1 | exact bx2 | exact bx3 | exact bx4 | exact bx5 | exact bx6 | exact bx7 | exact bx8 | exact bx9 | exact bx10) ?_)) : RunL P β n arr os E L H := (s H ⟨h⟩).of
/-- The same where guards are told by computing. -/
theorem sy (k : Nat) {G : (Env → List HP → Prop) → Prop} (h : G H) (s : ∀ H', Hold (G H') → Sts P β n arr k os E L H' := by intro H' hk; repeat (first | exact Sts.done hk.of | ((first | refine Sts.o1 rfl ?_ | refine Sts.yes rfl rfl rfl (by rfl) ?_); (first | refine OpJ.move rfl ?_ | refine OpJ.assign rfl ?_ | refine OpJ.fieldAddr inferInstance rfl ?_ | (refine gLd ?_; first | refine OpJ.loadF inferInstance rfl pk (by rfl) ?_ | refine OpJ.loadO inferInstance rfl pk (by assumption) (by rfl) (by exact fun _ => rfl) ?_ | refine OpJ.loadW inferInstance rfl pk (by rfl) ?_ | refine OpJ.loadP inferInstance rfl pk (by simp) ?_ | refine OpJ.loadE inferInstance rfl pk (by assumption) (by exact fun _ => rfl) rfl (by decide) ?_) | refine OpJ.extract rfl rfl ?_ | (refine gPick ?_; first | refine OpJ.pickXT rfl (by rfl) rfl ?_ | refine OpJ.pickXF rfl (by rfl) rfl ?_ | refine OpJ.pick rfl rfl rfl ?_) | (refine gSt ?_; first | refine OpJ.storeW inferInstance rfl rfl rfl rfl (by simp [Value.oneCell', Pa.c, Ly.c, Mv.c, Co.c]) up ?_ | refine OpJ.store1 inferInstance rfl rfl rfl up (by simp) ?_ | refine OpJ.store inferInstance rfl rfl rfl rfl (by simp [Value.cells, Value.oneCell', Pa.c, Ly.c, Mv.c, Co.c]) up (by simp) ?_) | (refine gAdd ?_; first | refine OpJ.addI rfl rfl (by omega) ?_ | refine OpJ.add rfl rfl ?_) | (refine gSub ?_; first | refine OpJ.subI rfl rfl (by omega) ?_ | refine OpJ.sub rfl rfl ?_) | (refine gQuo ?_; first | refine OpJ.quo rfl rfl (by omega) ?_) | (refine gRem ?_; first | refine OpJ.rem rfl rfl (by omega) ?_) | (refine gShl ?_; first | refine OpJ.shl rfl rfl (by omega) ?_) | (refine gShr ?_; first | refine OpJ.shr rfl rfl (by omega) ?_) | (refine gBin ?_; first | refine OpJ.eql rfl rfl ?_ | refine OpJ.neq rfl rfl ?_ | refine OpJ.lss rfl rfl ?_ | refine OpJ.gtr rfl rfl ?_ | refine OpJ.leq rfl rfl ?_ | refine OpJ.geq rfl rfl ?_ | refine OpJ.mul rfl rfl ?_ | refine OpJ.eqlS rfl rfl ?_ | refine OpJ.neqS rfl rfl ?_ | refine OpJ.lssS rfl rfl ?_ | refine OpJ.gtrS rfl rfl ?_ | refine OpJ.geqS rfl rfl ?_ | refine OpJ.eqlNil PI.eq rfl ?_ | refine OpJ.neqNil PI.eq rfl ?_ | refine OpJ.eqlNilSl inferInstance rfl ?_ | refine OpJ.eqlA inferInstance rfl rfl rfl ?_ | refine OpJ.neqA inferInstance rfl rfl rfl ?_ | refine OpJ.eqlB UI.eq rfl rfl ?_ | refine OpJ.neqB UI.eq rfl rfl ?_ | refine OpJ.band rfl rfl ?_ | refine OpJ.bor rfl rfl ?_) | refine OpJ.nilCheck rfl ?_ | (refine gCall ?_; first | refine OpJ.len inferInstance rfl ?_ | refine OpJ.lenS UI.eq rfl ?_ | refine OpJ.min rfl rfl ?_) | (refine gIA ?_; first | refine OpJ.indexAddr inferInstance rfl rfl (by omega) ?_ | refine OpJ.indexAddrArr inferInstance rfl rfl (by omega) ?_) | (refine gUn ?_; first | refine OpJ.notXT rfl (by rfl) ?_ | refine OpJ.notXF rfl (by rfl) ?_ | refine OpJ.not rfl ?_ | refine OpJ.neg rfl ?_) | (refine gCv ?_; first | refine OpJ.conv SoI.eq UI.eq rfl ?_) | (refine gFld ?_; first | refine OpJ.fieldA inferInstance inferInstance rfl ?_ | refine OpJ.field1 inferInstance inferInstance rfl (by rfl) ?_) | refine OpJ.makeFunc rfl rfl ?_ | (refine gBld ?_; first | refine OpJ.buildX inferInstance rfl (by simp only [Sk.c, Mv.c, Co.c, bldL, Value.cells, bs, Nat.reduceAdd, Nat.reduceLeDiff, Nat.reduceLT]; rfl) ?_ | refine OpJ.buildArrX inferInstance rfl (by simp only [bldA, Value.cells, bs, Nat.reduceAdd, Nat.reduceLeDiff, Nat.reduceLT]; rfl) ?_))) | refine Sts.noT rfl rfl rfl (by rfl) ?_ | refine Sts.noF rfl rfl rfl (by rfl) ?_ | refine Sts.undef rfl rfl rfl (by rfl) ?_)) : RunL P β n arr os E L H := (s H ⟨h⟩).of
end
end Go.SL

namespace Go.SL
open Go
/-- The entries of a map that has only grown. -/
def entsF {α : Type} (f g : α → Value) : Nat → List α → List MapEntry
  | _, [] => []
  | n, x :: xs => ⟨f x, g x, n⟩ :: entsF f g (n + 1) xs
def ents {α : Type} (f g : α → Value) (xs : List α) : Array MapEntry := ⟨entsF f g 0 xs⟩
def amap {α : Type} (b : Nat) (f g : α → Value) (xs : List α) : HP := pt b (.map (ents f g xs) xs.length)
/-- The first place of a key. -/
def kAt {α κ : Type} [DecidableEq κ] (kf : α → κ) (k : κ) : List α → Option (Nat × α)
  | [] => none
  | x :: xs => if kf x = k then some (0, x) else (kAt kf k xs).map fun p => (p.1 + 1, p.2)
section
variable {α κ : Type} [DecidableEq κ] {f g : α → Value} {kf : α → κ}
theorem entsF_len : ∀ (xs : List α) (n : Nat), (entsF f g n xs).length = xs.length
  | [], _ => rfl
  | x :: xs, n => by simp [entsF, entsF_len xs]
theorem entsF_get : ∀ (xs : List α) (n i : Nat), (entsF f g n xs)[i]? = xs[i]?.map fun x => ⟨f x, g x, n + i⟩
  | [], _, _ => by simp [entsF]
  | x :: xs, n, 0 => by simp [entsF]
  | x :: xs, n, i + 1 => by simp only [entsF, List.getElem?_cons_succ, entsF_get xs]; cases xs[i]? <;> simp; omega
theorem entsF_app (y : α) : ∀ (xs : List α) (n : Nat), entsF f g n (xs ++ [y]) = entsF f g n xs ++ [⟨f y, g y, n + xs.length⟩]
  | [], n => by simp [entsF]
  | x :: xs, n => by simp only [List.cons_append, entsF, entsF_app y xs, List.length_cons]; rw [show n + 1 + xs.length = n + (xs.length + 1) by omega]
theorem entsF_mem {xs : List α} {n : Nat} {e : MapEntry} (h : e ∈ entsF f g n xs) : ∃ i x, xs[i]? = some x ∧ e = ⟨f x, g x, n + i⟩ := by
  obtain ⟨i, hi⟩ := List.getElem?_of_mem h
  rw [entsF_get] at hi
  cases hx : xs[i]? with
  | none => rw [hx] at hi; cases hi
  | some x => rw [hx] at hi; exact ⟨i, x, hx, (Option.some.inj hi).symm⟩
theorem entsF_nodup : ∀ (xs : List α) (n : Nat), ((entsF f g n xs).map (·.born)).Nodup ∧ ∀ b ∈ (entsF f g n xs).map (·.born), n ≤ b
  | [], n => by simp [entsF]
  | x :: xs, n => by
    obtain ⟨h1, h2⟩ := entsF_nodup xs (n + 1)
    simp only [entsF, List.map_cons]
    refine ⟨List.nodup_cons.2 ⟨fun h => ?_, h1⟩, fun b hb => ?_⟩
    · have := h2 _ h; omega
    · rcases List.mem_cons.1 hb with rfl | h
      · exact Nat.le_refl _
      · have := h2 _ h; omega
theorem kAt_some {k : κ} : ∀ {xs : List α} {i : Nat} {x : α}, kAt kf k xs = some (i, x) → xs[i]? = some x ∧ kf x = k
  | y :: xs, i, x, h => by
    simp only [kAt] at h
    split at h
    · rename_i hk; cases h; exact ⟨rfl, hk⟩
    · cases hr : kAt kf k xs with
      | none => rw [hr] at h; cases h
      | some p =>
        rw [hr] at h; simp only [Option.map_some, Option.some.injEq, Prod.mk.injEq] at h
        obtain ⟨rfl, rfl⟩ := h
        have := kAt_some (i := p.1) (x := p.2) (by rw [hr])
        exact ⟨by simpa using this.1, this.2⟩
theorem kAt_none {k : κ} : ∀ {xs : List α}, kAt kf k xs = none → ∀ x ∈ xs, kf x ≠ k
  | [], _, x, h => by cases h
  | y :: xs, h, x, hx => by
    simp only [kAt] at h
    split at h
    · cases h
    · rename_i hk
      rcases List.mem_cons.1 hx with rfl | h'
      · exact hk
      · exact kAt_none (by cases hr : kAt kf k xs with | none => rfl | some p => rw [hr] at h; cases h) x h'
theorem kAt_no {k : κ} : ∀ {xs : List α}, (∀ x ∈ xs, kf x ≠ k) → kAt kf k xs = none
  | [], _ => rfl
  | y :: xs, h => by
    simp only [kAt]
    rw [if_neg (h y (List.mem_cons_self ..)), kAt_no fun x hx => h x (List.mem_cons_of_mem _ hx)]; rfl
/-- The list with a key set. -/
def kSet (kf : α → κ) (y : α) (xs : List α) : List α := match kAt kf (kf y) xs with | some (i, _) => xs.set i y | none => xs ++ [y]
theorem entsF_set (y : α) : ∀ (xs : List α) (n i : Nat), i < xs.length → entsF f g n (xs.set i y) = (entsF f g n xs).set i ⟨f y, g y, n + i⟩
  | x :: xs, n, 0, _ => by simp [entsF]
  | x :: xs, n, i + 1, h => by
    simp only [List.set_cons_succ, entsF]
    rw [entsF_set y xs (n + 1) i (by simpa using h), show n + 1 + i = n + (i + 1) by omega]
end
section
variable {P : Program} {β : Base} {E : Env} {L L' M M' : List HP} {K : Value → List HP → Prop} {d : Option Tmp} {ty : TypeId} {pos : String} {af : Array Edge} {gd : Option (Nat × Bool)} {x y z : Operand} {t kt et : TypeId} {α : Type} {f g : α → Value} {b : Nat} {xs : List α}
theorem Sat.heap {o : Obj} {w : World} (hs : Sat β L w) (p : Pick L (pt b o) M) : w.heap[b]? = some o := by
  obtain ⟨⟨h, ⟨h1, h2, _, rfl, h1p, _⟩, hsub, _⟩, _⟩ := hs.pick p
  exact hsub b o (by simp [Hp.add, h1p b])
theorem OpJ.makeMap (h : ∀ b, K (.map (some b)) (pt b (.map #[] 0) :: L)) : OpJ P β E L ⟨d, .makeMap t none, ty, pos, af, gd⟩ K :=
  OpJ.vals fun a w ha hs => by
    refine ⟨.map (some w.heap.size), pt w.heap.size (.map #[] 0) :: L, w.alloc (.map #[] 0), ?_, Has.alloc hs _, h w.heap.size⟩
    simp [execOp, Instr.makeMap, newObj, Sem.run, Result.andThen]
/-! keys that are compared at once -/
class MPI (P : Program) (t : TypeId) (kt et : outParam TypeId) : Prop where
  eq : P.underlying t = some (.map kt et)
class ZVI (P : Program) (t : TypeId) (z : outParam Value) : Prop where
  eq : (P.info? t).bind (·.zero) = some z
theorem ZVI.run {z : Value} (Z : ZVI P t z) (w : World) : (zeroValue t).run P w = .ok z w := by
  have h := Z.eq
  cases hi : P.info? t with
  | none => simp [hi] at h
  | some i => simp [hi] at h; simp [zeroValue, typeInfo, hi, h, Result.andThen]
structure KeyEnc {κ : Type} [DecidableEq κ] (enc : κ → Value) (kd : TypeDesc) : Prop where
  isk : ∀ a, MapKept.IsKey kd (enc a)
  now : ∀ a b, Instr.sameNow kd (enc a) (enc b) = some (decide (a = b))
theorem keyInt : KeyEnc (fun n : Int => Value.int .i64 n) (.int .i64) := ⟨fun _ => rfl, fun a b => by simp [Instr.sameNow]; exact decide_eq_decide.2 Iff.rfl⟩
theorem keyStr : KeyEnc Value.string .string := ⟨fun _ => trivial, fun a b => by simp only [Instr.sameNow, Option.some.injEq]; exact str_beq a b⟩
section
variable {κ : Type} [DecidableEq κ] {enc : κ → Value} {kd : TypeDesc} {kf : α → κ} {k : κ}
theorem findNow_ents (KE : KeyEnc enc kd) : ∀ (xs : List α) (n i : Nat), Instr.findNow kd (enc k) (entsF (fun x => enc (kf x)) g n xs) i = some ((kAt kf k xs).map fun p => (i + p.1, g p.2))
  | [], _, _ => rfl
  | x :: xs, n, i => by
    simp only [entsF, Instr.findNow, KE.now, kAt]
    by_cases h : k = kf x
    · simp [h]
    · have h' : ¬ kf x = k := fun e => h e.symm
      simp only [decide_eq_false h, if_neg h', findNow_ents KE xs]
      cases kAt kf k xs <;> simp; omega
theorem run_findKey_ents (KE : KeyEnc enc kd) (U : UI P kt kd) (w : World) : (Instr.findKey kt (enc k) (entsF (fun x => enc (kf x)) g 0 xs)).run P w = .ok ((kAt kf k xs).map fun p => (p.1, g p.2)) w := by
  have h := MapKept.run_findKey (P := P) (w := w) U.eq (findNow_ents (g := g) (kf := kf) (k := k) KE xs 0 0)
  simpa only [Nat.zero_add] using h
theorem OpJ.lookup2 {zv : Value} (KE : KeyEnc enc kd) (Mp : MPI P t kt et) (U : UI P kt kd) (Z : ZVI P et zv) (hx : E.ev x = some (.map (some b))) (hy : E.ev y = some (enc k)) (p : Pick L (amap b (fun x => enc (kf x)) g xs) M)
    (h : K (.tuple ⟨[match kAt kf k xs with | some q => g q.2 | none => zv, .bool (kAt kf k xs).isSome]⟩) L) : OpJ P β E L ⟨d, .lookup t x y true, ty, pos, af, gd⟩ K :=
  OpJ.same (fun a w ha hs => by
    have hb := hs.heap p
    have hf := run_findKey_ents (g := g) (kf := kf) (k := k) (xs := xs) KE U w
    simp only [execOp, ha.ev hx, ha.ev hy, Instr.lookup, Sem.run_bind, Sem.run_pure, run_underlying Mp.eq, MapKept.run_getObj_map hb, MapKept.run_checkKey U.eq (KE.isk k), ents, hf, Result.andThen]
    cases hk : kAt kf k xs with
    | none => simp [hk, Z.run, Result.andThen]
    | some q => simp [hk, Result.andThen]) h
theorem OpJ.lookup1 {zv : Value} (KE : KeyEnc enc kd) (Mp : MPI P t kt et) (U : UI P kt kd) (Z : ZVI P et zv) (hx : E.ev x = some (.map (some b))) (hy : E.ev y = some (enc k)) (p : Pick L (amap b (fun x => enc (kf x)) g xs) M)
    (h : K (match kAt kf k xs with | some q => g q.2 | none => zv) L) : OpJ P β E L ⟨d, .lookup t x y false, ty, pos, af, gd⟩ K :=
  OpJ.same (fun a w ha hs => by
    have hb := hs.heap p
    have hf := run_findKey_ents (g := g) (kf := kf) (k := k) (xs := xs) KE U w
    simp only [execOp, ha.ev hx, ha.ev hy, Instr.lookup, Sem.run_bind, Sem.run_pure, run_underlying Mp.eq, MapKept.run_getObj_map hb, MapKept.run_checkKey U.eq (KE.isk k), ents, hf, Result.andThen]
    cases hk : kAt kf k xs with
    | none => simp [hk, Z.run, Result.andThen]
    | some q => simp [hk, Result.andThen]) h
theorem OpJ.mapUpdate (y0 : α) (KE : KeyEnc enc kd) (Mp : MPI P t kt et) (U : UI P kt kd) (hx : E.ev x = some (.map (some b))) (hy : E.ev y = some (enc (kf y0))) (hz : E.ev z = some (g y0))
    (u : Upd L (amap b (fun x => enc (kf x)) g xs) (amap b (fun x => enc (kf x)) g (kSet kf y0 xs)) L') (h : K undef L') : OpJ P β E L ⟨d, .mapUpdate t x y z, ty, pos, af, gd⟩ K :=
  OpJ.skips (fun a w ha hs => by
    obtain ⟨M', g1, g2⟩ := u.star
    have hs' : Has β (star (pt b (.map (ents (fun x => enc (kf x)) g xs) xs.length)) (stars M')) w := hs.mono g1
    have hb : w.heap[b]? = some (.map (ents (fun x => enc (kf x)) g xs) xs.length) := Sat.heap (L := _ :: M') hs' .here
    have hf := run_findKey_ents (g := g) (kf := kf) (k := kf y0) (xs := xs) KE U w
    refine ⟨{ w with heap := w.heap.setIfInBounds b (.map (ents (fun x => enc (kf x)) g (kSet kf y0 xs)) (kSet kf y0 xs).length) }, ?_, Has.mono (Has.setObj (o' := .map (ents (fun x => enc (kf x)) g (kSet kf y0 xs)) (kSet kf y0 xs).length) hs' rfl rfl rfl rfl) g2⟩
    simp only [execOp, ha.ev hx, ha.ev hy, ha.ev hz, Instr.mapUpdate, Sem.run_bind, Sem.run_pure, run_underlying Mp.eq, MapKept.run_getObj_map hb, MapKept.run_checkKey U.eq (KE.isk _), ents, hf, Result.andThen, kSet]
    cases hk : kAt kf (kf y0) xs with
    | none =>
      simp only [Option.map_none, MapKept.run_setObj_map _ hb, entsF_app, Nat.zero_add, List.length_append, List.length_cons, List.length_nil, List.push_toArray]
    | some q =>
      obtain ⟨hq, hkq⟩ := kAt_some hk
      have hlt := (List.getElem?_eq_some_iff.1 hq).1
      have he : (entsF (fun x => enc (kf x)) g 0 xs)[q.1]? = some ⟨enc (kf y0), g q.2, q.1⟩ := by rw [entsF_get, hq]; simp [hkq]
      simp only [Option.map_some, Nat.zero_add, List.getElem?_toArray, he, Option.getD_some, Sem.run_bind, MapKept.run_keyThatStays (KE.isk _), MapKept.run_setObj_map _ hb, Result.andThen, List.length_set]
      congr 4
      rw [entsF_set _ _ _ _ hlt]
      apply Array.toList_inj.1
      apply List.ext_getElem?
      intro j
      simp only [Array.getElem?_toList, Array.getElem?_modify, List.getElem?_set, List.getElem?_toArray]
      by_cases hj : q.1 = j
      · subst hj; have hb' := (List.getElem?_eq_some_iff.1 he).2; simp [he, entsF_len, hlt, hb']
      · simp [hj]) h
end
/-! ranging over a map -/
/-- The block of an iterator: the map's block, how many entries it had, the stamps handed out. -/
abbrev iter (b n : Nat) (seen : Array Nat) : Obj := .mapIter (some b) n seen n
theorem OpJ.range (Mp : MPI P t kt et) (hx : E.ev x = some (.map (some b))) (p : Pick L (amap b f g xs) M)
    (h : ∀ r, K (.pointer (some ⟨r, 0, none⟩)) (pt r (iter b xs.length #[]) :: L)) : OpJ P β E L ⟨d, .range t x, ty, pos, af, gd⟩ K :=
  OpJ.vals fun a w ha hs => by
    have hb := hs.heap p
    refine ⟨.pointer (some ⟨w.heap.size, 0, none⟩), pt w.heap.size (iter b xs.length #[]) :: L, w.alloc (iter b xs.length #[]), ?_, Has.alloc hs _, h w.heap.size⟩
    simp only [execOp, ha.ev hx, Sem.run_bind, Sem.run_pure, run_range_map w t kt et b _ _ Mp.eq hb, Result.andThen]
theorem run_next_at (w : World) (ty : TypeId) {r b n : Nat} {seen : Array Nat} {es : Array MapEntry} (hr : w.heap[r]? = some (iter b n seen)) (hb : w.heap[b]? = some (.map es n)) (hold : ∀ x ∈ es.toList, x.born < n) :
    ((leftOf es seen).size = 0 ∧ (Instr.next (.pointer (some ⟨r, 0, none⟩)) false ty).run P w = .ok (.tuple #[.bool false]) w) ∨
    ∃ e ∈ (leftOf es seen).toList, ∃ w1 : World, (w1 = w ∨ w1 = w.drew) ∧ (Instr.next (.pointer (some ⟨r, 0, none⟩)) false ty).run P w = .ok (.tuple #[.bool true, e.key, e.val]) { w1 with heap := w1.heap.setIfInBounds r (iter b n (seen.push e.born)) } := by
  simp only [Instr.next, getObj, Sem.run_bind, Sem.run, hr, hb, Result.andThen, next_test_false seen es n n hold (Nat.le_refl _), Bool.false_eq_true, if_false]
  unfold leftOf
  have hmem : ∀ x ∈ (Array.filter (fun e => !seen.contains e.born) es).toList, x.born < n := fun x hx => hold x (by simp at hx ⊢; exact hx.1)
  generalize Array.filter (fun e => !seen.contains e.born) es = L at hmem ⊢
  have e1 : L.filter (fun x => decide (x.born < n)) = L := Array.filter_eq_self.2 (fun x hx => by simpa using hmem x (by simpa using hx))
  have e2 : L.filter (fun x => decide (x.born ≥ n)) = #[] := by
    rw [Array.filter_eq_empty_iff]
    intro x hx
    have := hmem x (by simpa using hx)
    simp
    omega
  simp only [e1, e2, Array.append_empty]
  by_cases h0 : L.size = 0
  · left
    have : L = #[] := Array.eq_empty_of_size_eq_zero h0
    subst this
    refine ⟨rfl, ?_⟩
    simp [choose, Sem.run, Question.forced]
  · right
    have hne : L.isEmpty = false := by simp [Array.isEmpty, h0]
    simp only [hne, Bool.false_eq_true, if_false, Array.empty_append, Array.size_map]
    have hch : ∃ (j : Nat) (w1 : World), j < L.size ∧ (w1 = w ∨ w1 = w.drew) ∧ (choose (Question.mapNext L.size)).run P w = .ok j w1 := by
      by_cases hf : L.size ≤ 1
      · exact ⟨0, w, by omega, .inl rfl, by simp [choose, Sem.run, Question.forced, hf]⟩
      · exact ⟨_, w.drew, Nat.mod_lt _ (by omega), .inr rfl, by
          simp only [choose, Sem.run, Question.forced, decide_eq_true_eq, hf, if_false, Question.cut]
          rfl⟩
    obtain ⟨j, w1, hj, hw1, hrun⟩ := hch
    refine ⟨L[j], by simp, w1, hw1, ?_⟩
    have hr1 : w1.heap[r]? = some (iter b n seen) := by rcases hw1 with rfl | rfl <;> exact hr
    have hset : (setObj r (iter b n (seen.push L[j].born))).run P w1 = .ok () { w1 with heap := w1.heap.setIfInBounds r (iter b n (seen.push L[j].born)) } := by
      simp only [setObj, Sem.run, hr1]
    simp only [hrun, Array.getElem?_map, Array.getElem?_eq_getElem hj, Option.map_some, Sem.run_bind, hset, Result.andThen]
    rfl
theorem OpJ.next {r : Nat} {seen : Array Nat} {Ls : Array Nat → List HP} (hx : E.ev x = some (.pointer (some ⟨r, 0, none⟩))) (p : Pick L (amap b f g xs) M) (u : ∀ s, Upd L (pt r (iter b xs.length seen)) (pt r (iter b xs.length s)) (Ls s))
    (h0 : (∀ i, i < xs.length → i ∈ seen) → K (.tuple ⟨[.bool false]⟩) L) (h1 : ∀ i y, xs[i]? = some y → i ∉ seen → K (.tuple ⟨[.bool true, f y, g y]⟩) (Ls (seen.push i))) : OpJ P β E L ⟨d, .next x false, ty, pos, af, gd⟩ K :=
  OpJ.vals fun a w ha hs => by
    have hb := hs.heap p
    obtain ⟨M1, g1, _⟩ := (u #[]).star
    have hs1 : Has β (star (pt r (iter b xs.length seen)) (stars M1)) w := hs.mono g1
    have hr : w.heap[r]? = some (iter b xs.length seen) := Sat.heap (L := _ :: M1) hs1 .here
    have hold : ∀ e ∈ (ents f g xs).toList, e.born < xs.length := fun e he => by
      obtain ⟨i, y, hy, rfl⟩ := entsF_mem he
      have := (List.getElem?_eq_some_iff.1 hy).1
      show 0 + i < _; omega
    rcases run_next_at (P := P) w ty hr hb hold with ⟨hz, hrun⟩ | ⟨e, he, w1, hw1, hrun⟩
    · refine ⟨_, L, w, by simp only [execOp, ha.ev hx, Sem.run_bind, Sem.run_pure, hrun, Result.andThen], hs, h0 fun i hi => ?_⟩
      have hall := all_seen _ _ hz
      obtain ⟨y, hy⟩ : ∃ y, xs[i]? = some y := ⟨_, List.getElem?_eq_getElem hi⟩
      have hm : (⟨f y, g y, 0 + i⟩ : MapEntry) ∈ (ents f g xs).toList := List.mem_of_getElem? (by show (entsF f g 0 xs)[i]? = _; rw [entsF_get, hy]; rfl)
      have := hall _ hm
      simpa using this
    · obtain ⟨hm, hns⟩ := mem_left he
      obtain ⟨i, y, hy, rfl⟩ := entsF_mem hm
      have hsn : i ∉ seen := by simpa using hns
      obtain ⟨M2, g2, g3⟩ := (u (seen.push i)).star
      have hs2 : Has β (star (pt r (iter b xs.length seen)) (stars M2)) w := hs.mono g2
      have hs3 : Has β (star (pt r (iter b xs.length seen)) (stars M2)) w1 := by rcases hw1 with rfl | rfl; exact hs2; exact hs2.drew
      refine ⟨_, Ls (seen.push i), { w1 with heap := w1.heap.setIfInBounds r (iter b xs.length (seen.push i)) }, ?_, Has.mono (Has.setObj (o' := iter b xs.length (seen.push i)) hs3 rfl rfl rfl rfl) g3, h1 i y hy hsn⟩
      simp only [execOp, ha.ev hx, Sem.run_bind, Sem.run_pure, hrun, Result.andThen, Nat.zero_add]
/-- The round's key and value, behind the step. -/
theorem OpJ.entry {r i : Nat} {seen : Array Nat} {y : α} (hx : E.ev x = some (.pointer (some ⟨r, 0, none⟩))) (p : Pick L (amap b f g xs) M) (q : Pick L (pt r (iter b xs.length (seen.push i))) M') (hy : xs[i]? = some y)
    (h : K (.tuple ⟨[f y, g y]⟩) L) : OpJ P β E L ⟨d, .entry x, ty, pos, af, gd⟩ K :=
  OpJ.same (fun a w ha hs => by
    have hb := hs.heap p
    have hr := hs.heap q
    have hm : (⟨f y, g y, i⟩ : MapEntry) ∈ entsF f g 0 xs := List.mem_of_getElem? (by rw [entsF_get, hy]; simp)
    have hf : (entsF f g 0 xs).toArray.find? (fun x => x.born == i) = some ⟨f y, g y, i⟩ := by
      rw [← Array.find?_toList]; exact find_born (⟨f y, g y, i⟩ : MapEntry) _ (entsF_nodup xs 0).1 hm
    simp only [execOp, ha.ev hx, Sem.run_bind, Sem.run_pure, Instr.entry, getObj, Sem.run, hr, hb, ents, Result.andThen, Array.back?_push, bne_self_eq_false, Bool.false_eq_true, if_false, hf]) h
end
end Go.SL

namespace Go.SL
open Go
section
variable {P : Program} {β : Base} {E : Env} {L L' M M' : List HP} {K : Value → List HP → Prop} {d : Option Tmp} {ty : TypeId} {pos : String} {af : Array Edge} {gd : Option (Nat × Bool)} {x y z : Operand} {t kt et : TypeId}
variable {κ : Type} [DecidableEq κ] {enc : κ → Value} {k : κ} {b : Nat}
/-- Keys that are compared field by field. -/
structure KeyAgg (P : Program) (kt : TypeId) {κ : Type} [DecidableEq κ] (enc : κ → Value) : Prop where
  check : ∀ (em : Bool) (n : Nat) (a : κ) (w : World), (Instr.checkKey em (n + 2) kt (enc a)).run P w = .ok () w
  under : ∃ fs, P.underlying kt = some (.struct fs)
  eq : ∀ (a c : κ) (w : World), (Op.equal kt (enc a) (enc c)).run P w = .ok (decide (a = c)) w
  stays : ∀ (a : κ) (w : World), (Instr.keyThatStays (enc a) (enc a)).run P w = .ok (enc a) w
theorem run_findAsking (KA : KeyAgg P kt enc) {α : Type} {kf : α → κ} {g : α → Value} (w : World) : ∀ (xs : List α) (n i : Nat), (Instr.findAsking kt (enc k) (entsF (fun x => enc (kf x)) g n xs) i).run P w = .ok ((kAt kf k xs).map fun p => (i + p.1, g p.2)) w
  | [], _, _ => rfl
  | x :: xs, n, i => by
    simp only [entsF, Instr.findAsking, Sem.run_bind, KA.eq, Result.andThen, kAt]
    by_cases h : k = kf x
    · simp [h]
    · have h' : ¬ kf x = k := fun e => h e.symm
      simp only [decide_eq_false h, Bool.false_eq_true, if_false, if_neg h', run_findAsking KA w xs (n + 1) (i + 1)]
      cases kAt kf k xs <;> simp; omega
theorem run_findKeyA (KA : KeyAgg P kt enc) {α : Type} {kf : α → κ} {g : α → Value} (w : World) (xs : List α) : (Instr.findKey kt (enc k) (entsF (fun x => enc (kf x)) g 0 xs)).run P w = .ok ((kAt kf k xs).map fun p => (p.1, g p.2)) w := by
  obtain ⟨fs, hfs⟩ := KA.under
  have ha := run_findAsking (k := k) (kf := kf) (g := g) KA w xs 0 0
  simp only [Nat.zero_add] at ha
  cases xs with
  | nil => simp [Instr.findKey, run_underlying hfs, entsF, Instr.findNow, kAt, Result.andThen]
  | cons x xs =>
    have hn : Instr.findNow (.struct fs) (enc k) (entsF (fun x => enc (kf x)) g 0 (x :: xs)) 0 = none := by simp [entsF, Instr.findNow, Instr.sameNow]
    simp only [Instr.findKey, Sem.run_bind, run_underlying hfs, Result.andThen, hn]
    exact ha
def look (xs : List (κ × Int)) (k : κ) : Int := match kAt (Prod.fst : κ × Int → κ) k xs with | some q => q.2.2 | none => 0
abbrev TM (enc : κ → Value) (b : Nat) (xs : List (κ × Int)) : HP := amap b (fun x => enc x.1) (fun x => Value.int .i64 x.2) xs
/-- A map of numbers as the function that it is; a key without an entry has 0. -/
def tmap (enc : κ → Value) (b : Nat) (T : κ → Int) : HP := fun h => ∃ xs, (∀ k, look xs k = T k) ∧ TM enc b xs h
/-- .. of which an entry's stamp is known. -/
def tmapE (enc : κ → Value) (b : Nat) (T : κ → Int) (k : κ) (s : Nat) : HP := fun h => ∃ xs, (∀ k, look xs k = T k) ∧ (∃ q, kAt (Prod.fst : κ × Int → κ) k xs = some (s, q)) ∧ TM enc b xs h
theorem tmap.nil : ∀ h, pt b (.map #[] 0) h → tmap enc b (fun _ => 0) h := fun h hh => ⟨[], fun k => rfl, hh⟩
theorem tmapE.drop {T : κ → Int} {s : Nat} : ∀ h, tmapE enc b T k s h → tmap enc b T h := fun h ⟨xs, h1, _, h2⟩ => ⟨xs, h1, h2⟩
theorem OpJ.lookupT {A : HP} {T : κ → Int} (KA : KeyAgg P kt enc) (Mp : MPI P t kt et) (Z : ZVI P et (.int .i64 0)) (hx : E.ev x = some (.map (some b))) (hy : E.ev y = some (enc k)) (hA : ∀ h, A h → tmap enc b T h) (p : Pick L A M)
    (h : K (.int .i64 (T k)) L) : OpJ P β E L ⟨d, .lookup t x y false, ty, pos, af, gd⟩ K :=
  OpJ.same (fun a w ha hs => by
    obtain ⟨⟨hp, ⟨h1, h2, _, rfl, hA1, _⟩, hsub, _⟩, _⟩ := hs.pick p
    obtain ⟨xs, hT, hm⟩ := hA _ hA1
    have hb : w.heap[b]? = some (.map (ents (fun x => enc x.1) (fun x : κ × Int => Value.int .i64 x.2) xs) xs.length) := hsub b _ (by simp [Hp.add, hm b])
    have hf := run_findKeyA (kf := Prod.fst) (g := fun x : κ × Int => Value.int .i64 x.2) (k := k) KA w xs
    have hT' := hT k
    unfold look at hT'
    simp only [execOp, ha.ev hx, ha.ev hy, Instr.lookup, Sem.run_bind, Sem.run_pure, run_underlying Mp.eq, MapKept.run_getObj_map hb, KA.check, ents, hf, Result.andThen]
    cases hk : kAt (Prod.fst : κ × Int → κ) k xs with
    | none => rw [hk] at hT'; simp [Z.run, Result.andThen, ← hT']
    | some q => rw [hk] at hT'; simp [Result.andThen, ← hT']) h
theorem OpJ.lookupT0 {T : κ → Int} (KA : KeyAgg P kt enc) (Mp : MPI P t kt et) (Z : ZVI P et (.int .i64 0)) (hx : E.ev x = some (.map (some b))) (hy : E.ev y = some (enc k)) (p : Pick L (tmap enc b T) M)
    (h : K (.int .i64 (T k)) L) : OpJ P β E L ⟨d, .lookup t x y false, ty, pos, af, gd⟩ K := OpJ.lookupT KA Mp Z hx hy (fun _ h => h) p h
theorem OpJ.lookupTE {T : κ → Int} {k' : κ} {s : Nat} (KA : KeyAgg P kt enc) (Mp : MPI P t kt et) (Z : ZVI P et (.int .i64 0)) (hx : E.ev x = some (.map (some b))) (hy : E.ev y = some (enc k)) (p : Pick L (tmapE enc b T k' s) M)
    (h : K (.int .i64 (T k)) L) : OpJ P β E L ⟨d, .lookup t x y false, ty, pos, af, gd⟩ K := OpJ.lookupT KA Mp Z hx hy tmapE.drop p h
theorem kAt_push {y : κ × Int} : ∀ {xs : List (κ × Int)}, kAt (Prod.fst : κ × Int → κ) k xs = none → kAt (Prod.fst : κ × Int → κ) k (xs ++ [y]) = if y.1 = k then some (xs.length, y) else none
  | [], _ => by simp [kAt]
  | x :: xs, h => by
    simp only [kAt] at h
    split at h
    · cases h
    · rename_i hk
      have ih := kAt_push (y := y) (xs := xs) (by cases hr : kAt (Prod.fst : κ × Int → κ) k xs with | none => rfl | some q => rw [hr] at h; cases h)
      simp only [List.cons_append, kAt, if_neg hk, ih]
      split <;> simp
theorem kAt_app {y : κ × Int} {q : Nat × (κ × Int)} : ∀ {xs : List (κ × Int)} {q : Nat × (κ × Int)}, kAt (Prod.fst : κ × Int → κ) k xs = some q → kAt (Prod.fst : κ × Int → κ) k (xs ++ [y]) = some q
  | x :: xs, q, h => by
    simp only [kAt, List.cons_append] at h ⊢
    split
    · rename_i hk; rw [if_pos hk] at h; exact h
    · rename_i hk
      rw [if_neg hk] at h
      cases hr : kAt (Prod.fst : κ × Int → κ) k xs with
      | none => rw [hr] at h; cases h
      | some r => rw [kAt_app (q := r) hr]; rw [hr] at h; exact h
theorem kAt_set {v : Int} {q : κ × Int} {k' : κ} : ∀ {xs : List (κ × Int)} {s : Nat}, kAt (Prod.fst : κ × Int → κ) k xs = some (s, q) → kAt (Prod.fst : κ × Int → κ) k' (xs.set s (k, v)) = if k' = k then some (s, (k, v)) else kAt (Prod.fst : κ × Int → κ) k' xs
  | x :: xs, s, h => by
    simp only [kAt] at h
    split at h
    · rename_i hk
      cases h
      simp only [List.set_cons_zero, kAt]
      by_cases e : k' = k
      · subst e; simp
      · have e1 : ¬ k = k' := fun c => e c.symm
        have e2 : ¬ q.1 = k' := fun c => e (c.symm.trans hk)
        simp only [if_neg e1, if_neg e2, if_neg e]
    · rename_i hk
      cases hr : kAt (Prod.fst : κ × Int → κ) k xs with
      | none => rw [hr] at h; cases h
      | some r =>
        rw [hr] at h
        simp only [Option.map_some, Option.some.injEq, Prod.mk.injEq] at h
        obtain ⟨rfl, rfl⟩ := h
        simp only [List.set_cons_succ, kAt]
        have ih := kAt_set (v := v) (q := r.2) (k' := k') (s := r.1) (xs := xs) (by rw [hr])
        by_cases e : k' = k
        · subst e; rw [if_neg hk, ih]; simp
        · by_cases e2 : x.1 = k'
          · rw [if_pos e2, if_neg e, if_pos e2]
          · rw [if_neg e2, ih, if_neg e, if_neg e, if_neg e2]
theorem run_getD_none {α : Type} {d : α} : (none : Option α).getD d = d := rfl
theorem OpJ.mapEntryT {T : κ → Int} {Ls : Nat → List HP} (KA : KeyAgg P kt enc) (Mp : MPI P t kt et) (Z : ZVI P et (.int .i64 0)) (hx : E.ev x = some (.map (some b))) (hy : E.ev y = some (enc k)) (u : ∀ s, Upd L (tmap enc b T) (tmapE enc b T k s) (Ls s))
    (h : ∀ (s : Nat) (v : Value), K (.tuple ⟨[v, .int .i64 (s : Int)]⟩) (Ls s)) : OpJ P β E L ⟨d, .mapEntry t x y, ty, pos, af, gd⟩ K :=
  OpJ.vals fun a w ha hs => by
    obtain ⟨M0, g1, _⟩ := (u 0).star
    have hs0 : Has β (star (tmap enc b T) (stars M0)) w := hs.mono g1
    obtain ⟨⟨hp, ⟨h1, h2, hdj, rfl, ⟨xs, hT, hm⟩, hr2⟩, hsub, hown⟩, hrest⟩ := hs0
    have hb : w.heap[b]? = some (.map (ents (fun x => enc x.1) (fun x : κ × Int => Value.int .i64 x.2) xs) xs.length) := hsub b _ (by simp [Hp.add, hm b])
    have hf := run_findKeyA (kf := Prod.fst) (g := fun x : κ × Int => Value.int .i64 x.2) (k := k) KA w xs
    have hsx : Has β (star (TM enc b xs) (stars M0)) w := ⟨⟨_, ⟨h1, h2, hdj, rfl, hm, hr2⟩, hsub, hown⟩, hrest⟩
    cases hk : kAt (Prod.fst : κ × Int → κ) k xs with
    | none =>
      rw [hk] at hf
      have hT0 : T k = 0 := by have := hT k; unfold look at this; rw [hk] at this; exact this.symm
      obtain ⟨M1, g2, g3⟩ := (u xs.length).star
      have hsy : Has β (star (tmap enc b T) (stars M1)) w := hs.mono g2
      refine ⟨.tuple ⟨[.int .i64 0, .int .i64 (xs.length : Int)]⟩, Ls xs.length, { w with heap := w.heap.setIfInBounds b (.map (ents (fun x => enc x.1) (fun x : κ × Int => Value.int .i64 x.2) (xs ++ [(k, 0)])) (xs ++ [(k, 0)]).length) }, ?_, ?_, h xs.length _⟩
      · simp only [execOp, ha.ev hx, ha.ev hy, Instr.mapEntry, Sem.run_bind, Sem.run_pure, run_underlying Mp.eq, MapKept.run_getObj_map hb, KA.check, ents, hf, Result.andThen, Option.map_none, Z.run, MapKept.run_setObj_map _ hb, entsF_app, Nat.zero_add, List.length_append, List.length_cons, List.length_nil, List.push_toArray]
        rfl
      · obtain ⟨⟨hp', ⟨h1', h2', hdj', hpe, ⟨xs', hT', hm'⟩, hr2'⟩, hsub', hown'⟩, hrest'⟩ := hsy
        subst hpe
        have hb' : w.heap[b]? = some (.map (ents (fun x => enc x.1) (fun x : κ × Int => Value.int .i64 x.2) xs') xs'.length) := hsub' b _ (by simp [Hp.add, hm' b])
        have hm2 : pt b (.map (ents (fun x => enc x.1) (fun x : κ × Int => Value.int .i64 x.2) xs) xs.length) h1' := by
          intro c; rw [hm' c]; split
          · rw [hb] at hb'; exact hb'.symm
          · rfl
        have hs2 : Has β (star (TM enc b xs) (stars M1)) w := ⟨⟨_, ⟨h1', h2', hdj', rfl, hm2, hr2'⟩, hsub', hown'⟩, hrest'⟩
        have hs3 := Has.setObj (o' := .map (ents (fun x => enc x.1) (fun x : κ × Int => Value.int .i64 x.2) (xs ++ [(k, 0)])) (xs ++ [(k, 0)]).length) (w' := { w with heap := w.heap.setIfInBounds b (.map (ents (fun x => enc x.1) (fun x : κ × Int => Value.int .i64 x.2) (xs ++ [(k, 0)])) (xs ++ [(k, 0)]).length) }) hs2 rfl rfl rfl rfl
        refine Has.mono hs3 fun h hh => g3 h (star_mono (fun h' hh' => ⟨xs ++ [(k, 0)], fun k' => ?_, ⟨(k, 0), by rw [kAt_push hk]; simp⟩, hh'⟩) (fun _ => id) hh)
        have hTk := hT k'
        unfold look at hTk ⊢
        cases hk' : kAt (Prod.fst : κ × Int → κ) k' xs with
        | none =>
          rw [hk'] at hTk; rw [kAt_push hk']
          by_cases e : k = k'
          · subst e; simp [hT0]
          · simp [e]; exact hTk
        | some r => rw [hk'] at hTk; rw [kAt_app (q := r) hk']; exact hTk
    | some q =>
      rw [hk] at hf
      obtain ⟨hq, hkq⟩ := kAt_some hk
      have he : (entsF (fun x => enc x.1) (fun x : κ × Int => Value.int .i64 x.2) 0 xs)[q.1]? = some ⟨enc k, .int .i64 q.2.2, q.1⟩ := by rw [entsF_get, hq]; simp [hkq]
      obtain ⟨M1, g2, g3⟩ := (u q.1).star
      have hsy : Has β (star (tmap enc b T) (stars M1)) w := hs.mono g2
      refine ⟨.tuple ⟨[.int .i64 q.2.2, .int .i64 (q.1 : Int)]⟩, Ls q.1, { w with heap := w.heap.setIfInBounds b (.map (ents (fun x => enc x.1) (fun x : κ × Int => Value.int .i64 x.2) xs) xs.length) }, ?_, ?_, h q.1 _⟩
      · simp only [execOp, ha.ev hx, ha.ev hy, Instr.mapEntry, Sem.run_bind, Sem.run_pure, run_underlying Mp.eq, MapKept.run_getObj_map hb, KA.check, ents, hf, Result.andThen, Option.map_some, List.getElem?_toArray, he, Option.getD_some, KA.stays, MapKept.run_setObj_map _ hb]
        congr 4
        apply Array.toList_inj.1
        apply List.ext_getElem?
        intro j
        simp only [Array.getElem?_toList, Array.getElem?_modify, List.getElem?_toArray]
        by_cases hj : q.1 = j
        · subst hj; rw [if_pos rfl, he]; rfl
        · rw [if_neg hj]
      · obtain ⟨⟨hp', ⟨h1', h2', hdj', hpe, ⟨xs', hT', hm'⟩, hr2'⟩, hsub', hown'⟩, hrest'⟩ := hsy
        subst hpe
        have hb' : w.heap[b]? = some (.map (ents (fun x => enc x.1) (fun x : κ × Int => Value.int .i64 x.2) xs') xs'.length) := hsub' b _ (by simp [Hp.add, hm' b])
        have hm2 : pt b (.map (ents (fun x => enc x.1) (fun x : κ × Int => Value.int .i64 x.2) xs) xs.length) h1' := by
          intro c; rw [hm' c]; split
          · rw [hb] at hb'; exact hb'.symm
          · rfl
        have hs2 : Has β (star (TM enc b xs) (stars M1)) w := ⟨⟨_, ⟨h1', h2', hdj', rfl, hm2, hr2'⟩, hsub', hown'⟩, hrest'⟩
        have hs3 := Has.setObj (o' := .map (ents (fun x => enc x.1) (fun x : κ × Int => Value.int .i64 x.2) xs) xs.length) (w' := { w with heap := w.heap.setIfInBounds b (.map (ents (fun x => enc x.1) (fun x : κ × Int => Value.int .i64 x.2) xs) xs.length) }) hs2 rfl rfl rfl rfl
        exact Has.mono hs3 fun h hh => g3 h (star_mono (fun h' hh' => ⟨xs, hT, ⟨q.2, hk⟩, hh'⟩) (fun _ => id) hh)
theorem OpJ.entryStoreT {T : κ → Int} {s : Nat} {v : Int} (hx : E.ev x = some (.map (some b))) (hy : E.ev y = some (.int .i64 (s : Int))) (hz : E.ev z = some (.int .i64 v)) (u : Upd L (tmapE enc b T k s) (tmap enc b (fun k' => if k' = k then v else T k')) L')
    (h : K undef L') : OpJ P β E L ⟨d, .entryStore t x y z, ty, pos, af, gd⟩ K :=
  OpJ.skips (fun a w ha hs => by
    obtain ⟨M1, g1, g2⟩ := u.star
    obtain ⟨⟨hp, ⟨h1, h2, hdj, rfl, ⟨xs, hT, ⟨q, hk⟩, hm⟩, hr2⟩, hsub, hown⟩, hrest⟩ := (hs.mono g1 : Has β (star (tmapE enc b T k s) (stars M1)) w)
    have hb : w.heap[b]? = some (.map (ents (fun x => enc x.1) (fun x : κ × Int => Value.int .i64 x.2) xs) xs.length) := hsub b _ (by simp [Hp.add, hm b])
    have hsx : Has β (star (TM enc b xs) (stars M1)) w := ⟨⟨_, ⟨h1, h2, hdj, rfl, hm, hr2⟩, hsub, hown⟩, hrest⟩
    obtain ⟨hq, hkq⟩ := kAt_some hk
    have hlt := (List.getElem?_eq_some_iff.1 hq).1
    have he : (entsF (fun x => enc x.1) (fun x : κ × Int => Value.int .i64 x.2) 0 xs)[s]? = some ⟨enc k, .int .i64 q.2, s⟩ := by rw [entsF_get, hq]; simp [← hkq]
    have hfi : (ents (fun x => enc x.1) (fun x : κ × Int => Value.int .i64 x.2) xs).findIdx? (fun e => (e.born : Int) == (s : Int)) = some s := by
      simp only [ents, List.findIdx?_toArray]
      rw [List.findIdx?_eq_some_iff_getElem]
      refine ⟨by show s < (entsF _ _ 0 xs).length; rw [entsF_len]; exact hlt, ?_, fun j hj => ?_⟩
      · have := (List.getElem?_eq_some_iff.1 he).2
        show ((((entsF _ _ 0 xs)[s]'_).born : Int) == (s : Int)) = true
        rw [this]; simp
      · obtain ⟨y', hy'⟩ : ∃ y', xs[j]? = some y' := ⟨_, List.getElem?_eq_getElem (by omega)⟩
        have hg : (entsF (fun x => enc x.1) (fun x : κ × Int => Value.int .i64 x.2) 0 xs)[j]? = some ⟨enc y'.1, .int .i64 y'.2, j⟩ := by rw [entsF_get, hy']; simp
        have := (List.getElem?_eq_some_iff.1 hg).2
        show ¬ ((((entsF _ _ 0 xs)[j]'_).born : Int) == (s : Int)) = true
        rw [this]; simp; omega
    refine ⟨{ w with heap := w.heap.setIfInBounds b (.map (ents (fun x => enc x.1) (fun x : κ × Int => Value.int .i64 x.2) (xs.set s (k, v))) (xs.set s (k, v)).length) }, ?_, ?_⟩
    · simp only [execOp, ha.ev hx, ha.ev hy, ha.ev hz, Instr.entryStore, Sem.run_bind, Sem.run_pure, MapKept.run_getObj_map hb, asInt, asIntOf, Result.andThen, hfi, MapKept.run_setObj_map _ hb, List.length_set]
      congr 4
      apply Array.toList_inj.1
      apply List.ext_getElem?
      intro j
      simp only [ents, entsF_set _ _ _ _ hlt, Array.getElem?_toList, Array.getElem?_modify, List.getElem?_set, List.getElem?_toArray]
      by_cases hj : s = j
      · subst hj; have hb' := (List.getElem?_eq_some_iff.1 he).2; simp [he, entsF_len, hlt, hb']
      · simp [hj]
    · have hs3 := Has.setObj (o' := .map (ents (fun x => enc x.1) (fun x : κ × Int => Value.int .i64 x.2) (xs.set s (k, v))) (xs.set s (k, v)).length) (w' := { w with heap := w.heap.setIfInBounds b (.map (ents (fun x => enc x.1) (fun x : κ × Int => Value.int .i64 x.2) (xs.set s (k, v))) (xs.set s (k, v)).length) }) hsx rfl rfl rfl rfl
      refine Has.mono hs3 fun h hh => g2 h (star_mono (fun h' hh' => ⟨xs.set s (k, v), fun k' => ?_, hh'⟩) (fun _ => id) hh)
      have hTk := hT k'
      unfold look at hTk ⊢
      rw [kAt_set hk]
      by_cases e : k' = k
      · simp [e]
      · simp only [if_neg e]; exact hTk) h
theorem run_forIn_unit {α : Type} {body : α → PUnit → Sem (ForInStep PUnit)} : ∀ {fs : List α} {w : World}, (∀ f ∈ fs, ∀ w, (body f ⟨⟩).run P w = .ok (.yield ⟨⟩) w) → (forIn fs PUnit.unit body).run P w = .ok ⟨⟩ w
  | [], w, _ => rfl
  | f :: fs, w, h => by
    rw [List.forIn_cons]
    simp only [Sem.run_bind, h f (List.mem_cons_self ..), Result.andThen]
    exact run_forIn_unit fun g hg => h g (List.mem_cons_of_mem _ hg)
/-- A field of a key: where it lies, of what kind. -/
def keyField (P : Program) (f : Field) : Option (Nat × Bool) := match P.underlying f.type with
  | some (.int .i64) => some (f.offset, true)
  | some .string => some (f.offset, false)
  | _ => none
def keyInfo (P : Program) (t : TypeId) : Option (List (Nat × Bool)) := match P.underlying t with
  | some (.struct fs) => fs.toList.mapM (keyField P)
  | _ => none
theorem keyInfo_spec {t : TypeId} {ps : List (Nat × Bool)} (h : keyInfo P t = some ps) : ∃ fs, P.underlying t = some (.struct fs) ∧ fs.toList.mapM (keyField P) = some ps := by
  unfold keyInfo at h
  split at h
  · rename_i fs hu; exact ⟨fs, hu, h⟩
  · cases h
theorem run_checkAgg {fs : Array Field} {cs : List Value} {ps : List (Nat × Bool)} (hu : P.underlying kt = some (.struct fs)) (hp : fs.toList.mapM (keyField P) = some ps)
    (hc : ∀ p ∈ ps, ∃ v, cs[p.1]? = some v ∧ MapKept.IsKey (if p.2 then .int .i64 else .string) v) (em : Bool) (n : Nat) (w : World) : (Instr.checkKey em (n + 2) kt (.agg ⟨cs⟩)).run P w = .ok () w := by
  unfold Instr.checkKey
  simp only [Sem.run_bind, run_underlying hu, Result.andThen]
  rw [← Array.forIn_toList]
  rw [run_forIn_unit (fun f hf w => ?_)]
  · rfl
  obtain ⟨i, hi⟩ := List.getElem?_of_mem hf
  obtain ⟨p, hpf, hpm⟩ : ∃ p, keyField P f = some p ∧ p ∈ ps := by
    have hm := mapM_some_get hp i
    cases hpi : keyField P f with
    | none =>
      exfalso
      have hl := mapM_some_length hp
      have : fs.toList[i]? = some f := hi
      obtain ⟨y, hy⟩ : ∃ y, ps[i]? = some y := ⟨_, List.getElem?_eq_getElem (by have := (List.getElem?_eq_some_iff.1 hi).1; omega)⟩
      have h2 := hm _ hi
      rw [hpi, hy] at h2; cases h2
    | some q => exact ⟨q, rfl, List.mem_of_getElem? (by have h2 := hm _ hi; rw [hpi] at h2; exact h2.symm)⟩
  obtain ⟨v, hv, hk⟩ := hc p hpm
  by_cases hn : f.name = "_"
  · simp [hn, Result.andThen]
  · unfold keyField at hpf
    split at hpf
    · rename_i hu2
      cases hpf
      have hv' : (⟨cs⟩ : Array Value)[f.offset]? = some v := by simpa using hv
      simp only [ne_eq, hn, not_false_eq_true, if_true, Sem.run_bind, part, isAgg, run_underlying hu2, Result.andThen, Sem.run_pure, Bool.false_eq_true, if_false, hv', MapKept.run_checkKey hu2 hk]
    · rename_i hu2
      cases hpf
      have hv' : (⟨cs⟩ : Array Value)[f.offset]? = some v := by simpa using hv
      simp only [ne_eq, hn, not_false_eq_true, if_true, Sem.run_bind, part, isAgg, run_underlying hu2, Result.andThen, Sem.run_pure, Bool.false_eq_true, if_false, hv', MapKept.run_checkKey hu2 hk]
    · cases hpf
end
section
variable {P : Program} {β : Base} {n : Nat} {ops : Array Oper} {fuel : Nat} {listed : Array Bool} {pend : Pend} {E : Env} {L L' Ls M : List HP} {K : Env → List HP → Prop}
/-- The one operation that may come up, under a guard that says yes. -/
theorem RunD.opG (i : Nat) (mask : List Bool) {o : Oper} {jg : Nat} {gb : Bool} {gd : Tmp} (hi : ops[i]? = some o) (hg : o.guard = some (jg, gb)) (hj : (ops[jg]?).bind (·.dst) = some gd) (hb : E.get gd = some (.bool gb)) (hd : dstOk n o.dst = true) (hr : Region.ready .any ops listed = [i]) (hm : maskOk ops i (pend.map (·.1)) mask = true)
    (h : OpJ P β E L o fun v L' => PendOk (applyMask mask pend) L' ∧ RunD P β n ops fuel (listed.setIfInBounds i true) (applyMask mask pend) (E.put o.dst v) L' K) : RunD P β n ops (fuel + 1) listed pend E L K := fun a w ha hs hp Q hnp hQ => by
  intro hc0
  refine ⟨?_, fun h0 => (by rw [hr] at h0; cases h0), fun j hj' => ?_⟩
  · intro p hpm
    simp only [Pend.w, List.mem_map] at hpm
    obtain ⟨q, hq, rfl⟩ := hpm
    exact hp q hq
  · rw [hr] at hj'
    obtain rfl : j = i := by simpa using hj'
    unfold wpOp
    rw [hi]
    have hw : Region.wanted o (yielded ops a.tmps) = true := by simp [Region.wanted, hg, yielded_of ha hj hb]
    simp only [hw, if_true]
    refine .inl (h a w ha.env hs _ _ fun v L' w' ⟨hpo, hK⟩ hs' => ?_)
    refine wpAnyS_sub _ _ _ _ _ _ ?_ (hK (a.put o.dst v) w' (ha.put (dstOk_spec hd) v) hs' (fun p hpm => hs'.gives (hpo p hpm)) Q hnp hQ)
    intro p hp
    rw [List.mem_filter] at hp
    obtain ⟨hp1, hp2⟩ := hp
    simp only [Pend.w, List.mem_map] at hp1 ⊢
    obtain ⟨q, hq, rfl⟩ := hp1
    exact ⟨q, maskOk_spec hm q hq (by simpa using hp2), rfl⟩
end
section
variable {P : Program} {β : Base} {n : Nat} {c : Code} {arr : Array Oper} {os : List Oper} {E : Env} {L L' : List HP} {Q : Po} {K : Env → List HP → Prop} {A B : HP}
theorem Run.imp (A B : HP) (u : Upd L A B L') (e : ∀ h, A h → B h) (h : Run P β n c E L' Q) : Run P β n c E L Q := fun a w ha hs => by
  obtain ⟨M, g1, g2⟩ := u.star
  exact h a w ha (Has.mono hs fun hp hh => g2 hp (star_mono e (fun _ => id) (g1 hp hh)))
theorem RunL.imp (A B : HP) (u : Upd L A B L') (e : ∀ h, A h → B h) (h : RunL P β n arr os E L' K) : RunL P β n arr os E L K := fun a w ha hs Q hQ => by
  obtain ⟨M, g1, g2⟩ := u.star
  exact h a w ha (Has.mono hs fun hp hh => g2 hp (star_mono e (fun _ => id) (g1 hp hh))) Q hQ
end
end Go.SL

namespace Go.SL
open Go
/-- A kept state and where its lists lie. -/
structure Ks where
  s : Sk
  la : Option Addr
  lc : Nat
  pa : Option Addr
  pc : Nat
def Ks.c (x : Ks) : List Value := [I x.s.qty, I x.s.value, I x.s.price, .slice x.la x.s.layers.length x.lc, .slice x.pa x.s.past.length x.pc]
structure Eg where
  k : Int
  ms : List Mv
  cs : List Co
  ord : List Int
  kp : List Ks
  last : Ks
abbrev EgC (g : Eg) (mo : Option Addr) (mc : Nat) (co : Option Addr) (cc : Nat) (oo : Option Addr) (oc : Nat) (ko : Option Addr) (kc : Nat) : List Value := [I g.k, .slice mo g.ms.length mc, .slice co g.cs.length cc, .slice oo g.ord.length oc, .slice ko g.kp.length kc,
  I g.last.s.qty, I g.last.s.value, I g.last.s.price, .slice g.last.la g.last.s.layers.length g.last.lc, .slice g.last.pa g.last.s.past.length g.last.pc]
/-- What 'Cost' answers. -/
def costAt (cs : List Co) (seq : Int) : Co × Bool := if 1 ≤ seq ∧ seq ≤ cs.length then (cs[(seq - 1).toNat]?.getD ⟨0, 0, 0, 0⟩, true) else (⟨0, 0, 0, 0⟩, false)
theorem costAt_no {cs : List Co} {seq : Int} (h : ¬ (1 ≤ seq ∧ seq ≤ cs.length)) : costAt cs seq = (⟨0, 0, 0, 0⟩, false) := if_neg h
theorem costAt_ok {cs : List Co} {i : Nat} {c : Co} (h : cs[i]? = some c) : costAt cs ((i : Int) + 1) = (c, true) := by
  have := (List.getElem?_eq_some_iff.1 h).1
  unfold costAt
  rw [if_pos (by omega), show ((i : Int) + 1 - 1).toNat = i by omega, h]; rfl
theorem mv1 : ∀ x, ∀ v ∈ Mv.c x, Value.oneCell' v = true := fun x => by simp [Mv.c, Value.oneCell']
theorem iv1 : ∀ x, ∀ v ∈ Iv x, Value.oneCell' v = true := fun x => by simp [Iv, Value.oneCell']
theorem co1 : ∀ x, ∀ v ∈ Co.c x, Value.oneCell' v = true := fun x => by simp [Co.c, Value.oneCell']
theorem ks1 : ∀ x, ∀ v ∈ Ks.c x, Value.oneCell' v = true := fun x => by simp [Ks.c, Value.oneCell']
/-- The sum of the costs of the movements up to a day, as the machine adds. -/
def atW (f : Co → Int) (day : Int) (l : List (Mv × Co)) : Int := l.foldl (fun a x => if x.1.value ≤ day then IntKind.i64.wrap (a + f x.2) else a) 0
theorem take_one {α : Type} {l : List α} {i : Nat} {x : α} (h : l[i]? = some x) : l.take (i + 1) = l.take i ++ [x] := by rw [List.take_add_one, h]; rfl
theorem atW_in {f : Co → Int} {day : Int} {l : List (Mv × Co)} {i : Nat} {m : Mv} {c : Co} (h : l[i]? = some (m, c)) (hd : m.value ≤ day) : atW f day (l.take (i + 1)) = IntKind.i64.wrap (atW f day (l.take i) + f c) := by
  rw [take_one h]; simp only [atW, List.foldl_append, List.foldl_cons, List.foldl_nil]; rw [if_pos hd]
theorem atW_out {f : Co → Int} {day : Int} {l : List (Mv × Co)} {i : Nat} {m : Mv} {c : Co} (h : l[i]? = some (m, c)) (hd : ¬ m.value ≤ day) : atW f day (l.take (i + 1)) = atW f day (l.take i) := by
  rw [take_one h]; simp only [atW, List.foldl_append, List.foldl_cons, List.foldl_nil]; rw [if_neg hd]
theorem zip_get2 {α γ : Type} {xs : List α} {ys : List γ} {i : Nat} {x : α} {y : γ} (hx : xs[i]? = some x) (hy : ys[i]? = some y) : (xs.zip ys)[i]? = some (x, y) := by
  rw [List.getElem?_zip_eq_some]; exact ⟨hx, hy⟩
/-- How many values are at most 'v', in an order. -/
def ordCut (ms : List Mv) (v : Int) (o : List Int) : Nat := cutN (fun j => decide (v < ((ms[j.toNat]?).map Mv.value).getD 0)) o
def dnB (ms : List Mv) (v : Int) (j : Int) : Bool := decide (v < ((ms[j.toNat]?).map Mv.value).getD 0)
theorem Mono.down {α : Type} {p : α → Bool} {o : List α} (hm : Mono p o) {h : Nat} {y : α} (hy : o[h]? = some y) (hp : p y = false) {k : Nat} {z : α} (hk : k ≤ h) (hz : o[k]? = some z) : p z = false := by
  cases hpz : p z with
  | false => rfl
  | true => rw [hm k h z y hk hz hy hpz] at hp; cases hp
section
variable {P : Program} {β : Base} {n : Nat} {arr : Array Oper} {os : List Oper} {E : Env} {L L' M F As : List HP} {K : Env → List HP → Prop}
/-- Several parts of the heap as one. -/
theorem RunL.packs (As : List HP) (tk : Takes L As F) (h : RunL P β n arr os E (stars As :: F) K) : RunL P β n arr os E L K := RunL.mapL (L' := stars As :: F) (fun w hs => Has.mono hs fun _ hh => tk.star hh) h
end
/-- A contract over several parts as one over one part. -/
theorem AC.one {P : Program} {f : FuncId} {args : Array Value} {As : List HP} {v : Value} (h : AC P f args (stars As) (Ret v As)) : AC P f args (stars [stars As]) (Ret v [stars As]) :=
  AC.mono h (fun h hh => by have := stars_mk (As := As) (M := []) hh; rwa [List.append_nil] at this) (fun r h hh => ⟨hh.1, stars_un (As := As) (M := []) (by rw [List.append_nil]; exact hh.2)⟩)
/-- What the search's function answers. -/
def cmpV (ms : List Mv) (v j : Int) : Int := if v < ((ms[j.toNat]?).map Mv.value).getD 0 then 1 else -1
theorem cmpV_dn (ms : List Mv) (v : Int) : (fun y => decide (0 ≤ cmpV ms v y)) = dnB ms v := by
  funext y; unfold cmpV dnB
  by_cases h : v < ((ms[y.toNat]?).map Mv.value).getD 0
  · rw [if_pos h]; simp [h]
  · rw [if_neg h]; simp [h]
theorem cmpV_at {ms : List Mv} {v : Int} {i : Nat} {m : Mv} (h : ms[i]? = some m) : cmpV ms v (i : Int) = if v < m.value then 1 else -1 := by
  unfold cmpV; rw [show ((i : Int)).toNat = i from rfl, h]; rfl
/-- The adjustments: what has changed of the costs that have come anew, in their order. -/
structure Aj where
  seq : Int
  value : Int
  var : Int
def Aj.c (x : Aj) : List Value := [I x.seq, I x.value, I x.var]
theorem aj1 : ∀ x, ∀ v ∈ Aj.c x, Value.oneCell' v = true := fun x => by simp [Aj.c, Value.oneCell']
abbrev KV := Int × Co
def nowOf (kv : List KV) (i : Nat) : Option Co := (kAt (Prod.fst : KV → Int) (i : Int) kv).map fun q => q.2.2
def adjOne (kv : List KV) (i : Nat) (was : Co) : List Aj := match nowOf kv i with
  | none => []
  | some now => if now.value ≠ was.value ∨ now.var ≠ was.var then [⟨was.seq, IntKind.i64.wrap (now.value - was.value), IntKind.i64.wrap (now.var - was.var)⟩] else []
def adjL (kv : List KV) (cs : List Co) (n : Nat) : List Aj := ((cs.take n).zipIdx.map fun x => adjOne kv x.2 x.1).flatten
theorem adjL_succ {kv : List KV} {cs : List Co} {i : Nat} {c : Co} (h : cs[i]? = some c) : adjL kv cs (i + 1) = adjL kv cs i ++ adjOne kv i c := by
  have hl := (List.getElem?_eq_some_iff.1 h).1
  unfold adjL
  rw [take_one h, List.zipIdx_append]
  simp [List.length_take, Nat.min_eq_left (Nat.le_of_lt hl)]
abbrev KVf (x : KV) : Value := I x.1
abbrev KVg (x : KV) : Value := .agg ⟨x.2.c⟩
theorem adj_none {kv : List KV} {cs : List Co} {i : Nat} {c : Co} (h : cs[i]? = some c) (hk : kAt (Prod.fst : KV → Int) (i : Int) kv = none) : adjL kv cs (i + 1) = adjL kv cs i := by
  rw [adjL_succ h]; unfold adjOne nowOf; rw [hk]; simp
theorem adj_same {kv : List KV} {cs : List Co} {i : Nat} {c : Co} {q : Nat × KV} (h : cs[i]? = some c) (hk : kAt (Prod.fst : KV → Int) (i : Int) kv = some q) (h1 : ¬ (q.2.2.value ≠ c.value ∨ q.2.2.var ≠ c.var)) : adjL kv cs (i + 1) = adjL kv cs i := by
  rw [adjL_succ h]; unfold adjOne nowOf; rw [hk]; simp only [Option.map_some]; rw [if_neg h1]; simp
theorem adj_new {kv : List KV} {cs : List Co} {i : Nat} {c : Co} {q : Nat × KV} (h : cs[i]? = some c) (hk : kAt (Prod.fst : KV → Int) (i : Int) kv = some q) (h1 : q.2.2.value ≠ c.value ∨ q.2.2.var ≠ c.var) :
    adjL kv cs (i + 1) = adjL kv cs i ++ [⟨c.seq, IntKind.i64.wrap (q.2.2.value - c.value), IntKind.i64.wrap (q.2.2.var - c.var)⟩] := by
  rw [adjL_succ h]; unfold adjOne nowOf; rw [hk]; simp only [Option.map_some]; rw [if_pos h1]
theorem adjL_len {kv : List KV} {cs : List Co} (n : Nat) : (adjL kv cs n).length ≤ n := by
  induction n with
  | zero => simp [adjL]
  | succ n ih =>
    cases hx : cs[n]? with
    | none =>
      have : cs.length ≤ n := by rw [List.getElem?_eq_none_iff] at hx; exact hx
      have e : adjL kv cs (n + 1) = adjL kv cs n := by unfold adjL; rw [List.take_of_length_le (by omega), List.take_of_length_le this]
      rw [e]; omega
    | some c =>
      rw [adjL_succ hx, List.length_append]
      have : (adjOne kv n c).length ≤ 1 := by unfold adjOne; split; simp; split <;> simp
      omega
/-! what was returned so far -/
def encR (p : Int × Int) : Value := .agg ⟨[I p.1, I p.2]⟩
def tq (l : List Mv) (p : Int × Int) : Int := if refersB p.1 = true then backQ l p.1 p.2 else 0
theorem tq_app {l : List Mv} {m : Mv} (hr : refersB m.kind = true) : (fun p => if p = (m.kind, m.ref) then tq l (m.kind, m.ref) + m.qty else tq l p) = tq (l ++ [m]) := by
  funext p
  obtain ⟨a, b⟩ := p
  unfold tq
  by_cases e : (a, b) = (m.kind, m.ref)
  · rw [if_pos e]
    cases e
    simp only [hr, if_true, backQ_app, and_self]
  · rw [if_neg e]
    simp only [backQ_app]
    by_cases ha : refersB a = true
    · simp only [ha, if_true]
      rw [if_neg (fun ⟨h1, h2⟩ => e (by rw [h1, h2]))]; omega
    · simp [ha]
theorem tq_skip {l : List Mv} {m : Mv} (hr : ¬ refersB m.kind = true) : tq (l ++ [m]) = tq l := by
  funext p
  obtain ⟨a, b⟩ := p
  unfold tq
  by_cases ha : refersB a = true
  · simp only [ha, if_true, backQ_app]
    rw [if_neg (fun ⟨h1, _⟩ => hr (by rw [h1]; exact ha))]; omega
  · simp [ha]
theorem tq_nil : tq [] = fun _ => 0 := by funext p; unfold tq; simp [backQ]
theorem backQ_bound {l : List Mv} {k r : Int} (h : ∀ m ∈ l, 0 ≤ m.qty ∧ m.qty ≤ 1000000000) : 0 ≤ backQ l k r ∧ backQ l k r ≤ 1000000000 * l.length := by
  induction l with
  | nil => simp [backQ]
  | cons x l ih =>
    have h1 := h x (List.mem_cons_self ..)
    have h2 := ih fun m hm => h m (List.mem_cons_of_mem _ hm)
    simp only [backQ, List.length_cons]
    split <;> omega
theorem ref_28 {l : List Mv} {m : Mv} (h : (l.length : Int) < m.ref) : referM l m = 28 := if_pos h
theorem ref_x {l : List Mv} {m x : Mv} {i : Nat} (hi : m.ref = (i : Int) + 1) (hx : l[i]? = some x) : referM l m = if x.item ≠ m.item ∨ x.kind ≠ targK m.kind then 28 else if m.value < x.value then 17 else if x.qty < backQ l m.kind m.ref + m.qty then 21 else 0 := by
  have := (List.getElem?_eq_some_iff.1 hx).1
  unfold referM
  rw [if_neg (by omega), show (m.ref - 1).toNat = i by omega, hx]
theorem one_ref {m : Mv} (h : m.one = 0) (hr : refersB m.kind = true) : 1 ≤ m.ref := by
  unfold Mv.one at h
  split at h
  · cases h
  split at h
  · cases h
  split at h
  · cases h
  split at h
  · cases h
  split at h
  · cases h
  split at h
  · cases h
  · rename_i h6
    unfold Mv.refBad at h6
    simp [hr] at h6
    exact h6
theorem tq_at {l : List Mv} {m : Mv} (hr : refersB m.kind = true) : tq (l ++ [m]) (m.kind, m.ref) = backQ l m.kind m.ref + m.qty := by unfold tq; simp [hr, backQ_app]
/-! a list checked up to a place -/
def FineTo (ms : List Mv) (i : Nat) : Prop := ∀ (j : Nat) (m : Mv), j < i → ms[j]? = some m → m.seq = (j : Int) + 1 ∧ m.one = 0 ∧ (refersB m.kind = true → referM (ms.take j) m = 0)
def chkE (ms : List Mv) : Int := match chkM ms with | none => 0 | some p => p.2
theorem chkL_skip : ∀ (l1 done l2 : List Mv), (∀ (j : Nat) (m : Mv), l1[j]? = some m → m.seq = ((done.length + j : Nat) : Int) + 1 ∧ m.one = 0 ∧ (refersB m.kind = true → referM (done ++ l1.take j) m = 0)) → chkL done (l1 ++ l2) = chkL (done ++ l1) l2
  | [], done, l2, _ => by simp
  | x :: l1, done, l2, h => by
    have h0 := h 0 x rfl
    simp only [List.take_zero, List.append_nil] at h0
    simp only [List.cons_append, chkL]
    rw [if_neg (by rw [h0.1]; simp), if_neg (by simp [h0.2.1]), if_neg (fun ⟨a, b⟩ => b (h0.2.2 a))]
    rw [chkL_skip l1 (done ++ [x]) l2 fun j m hm => ?_]
    · simp
    · have := h (j + 1) m (by simpa using hm)
      simp only [List.take_succ_cons] at this
      simp only [List.length_append, List.length_cons, List.length_nil, List.append_assoc, List.singleton_append]
      exact ⟨by rw [this.1]; omega, this.2⟩
theorem chk_at {ms : List Mv} {i : Nat} {m : Mv} (hn : ms.length ≤ 2000) (hx : ms[i]? = some m) (hf : FineTo ms i) : chkM ms = chkL (ms.take i) (m :: ms.drop (i + 1)) := by
  have hi := (List.getElem?_eq_some_iff.1 hx).1
  have e : ms = ms.take i ++ (m :: ms.drop (i + 1)) := by
    have h1 := List.drop_eq_getElem_cons hi
    rw [(List.getElem?_eq_some_iff.1 hx).2] at h1
    rw [← h1, List.take_append_drop]
  have hs := chkL_skip (ms.take i) [] (m :: ms.drop (i + 1)) fun j y hy => by
    have hj : j < i := by have := (List.getElem?_eq_some_iff.1 hy).1; rw [List.length_take] at this; omega
    rw [List.getElem?_take_of_lt hj] at hy
    have := hf j y hj hy
    simp only [List.length_nil, Nat.zero_add, List.nil_append, List.take_take, Nat.min_eq_left (Nat.le_of_lt hj)]
    exact this
  unfold chkM
  rw [if_neg (by omega)]
  conv => lhs; rw [e]
  exact hs
theorem chk_seq {ms : List Mv} {i : Nat} {m : Mv} (hn : ms.length ≤ 2000) (hx : ms[i]? = some m) (hf : FineTo ms i) (h : m.seq ≠ (i : Int) + 1) : chkE ms = 17 := by
  have hi := (List.getElem?_eq_some_iff.1 hx).1
  unfold chkE; rw [chk_at hn hx hf, chkL, if_pos (by rw [List.length_take, Nat.min_eq_left (Nat.le_of_lt hi)]; exact h)]
theorem chk_one {ms : List Mv} {i : Nat} {m : Mv} (hn : ms.length ≤ 2000) (hx : ms[i]? = some m) (hf : FineTo ms i) (h : m.seq = (i : Int) + 1) (h1 : m.one ≠ 0) : chkE ms = m.one := by
  have hi := (List.getElem?_eq_some_iff.1 hx).1
  unfold chkE; rw [chk_at hn hx hf, chkL, if_neg (by rw [List.length_take, Nat.min_eq_left (Nat.le_of_lt hi)]; simp [h]), if_pos h1]
theorem chk_ref {ms : List Mv} {i : Nat} {m : Mv} (hn : ms.length ≤ 2000) (hx : ms[i]? = some m) (hf : FineTo ms i) (h : m.seq = (i : Int) + 1) (h1 : m.one = 0) (hr : refersB m.kind = true) (h2 : referM (ms.take i) m ≠ 0) : chkE ms = referM (ms.take i) m := by
  have hi := (List.getElem?_eq_some_iff.1 hx).1
  unfold chkE; rw [chk_at hn hx hf, chkL, if_neg (by rw [List.length_take, Nat.min_eq_left (Nat.le_of_lt hi)]; simp [h]), if_neg (by simp [h1]), if_pos ⟨hr, h2⟩]
theorem FineTo.next {ms : List Mv} {i : Nat} {m : Mv} (hf : FineTo ms i) (hx : ms[i]? = some m) (h : m.seq = (i : Int) + 1) (h1 : m.one = 0) (h2 : refersB m.kind = true → referM (ms.take i) m = 0) : FineTo ms (i + 1) := fun j y hj hy => by
  rcases Nat.lt_succ_iff_lt_or_eq.1 hj with h' | rfl
  · exact hf j y h' hy
  · rw [hx] at hy; cases hy; exact ⟨h, h1, h2⟩
theorem chk_none {ms : List Mv} (hn : ms.length ≤ 2000) (hf : FineTo ms ms.length) : chkE ms = 0 := by
  have : chkM ms = none := chkM_none.2 ⟨hn, fun i m hm => hf i m (List.getElem?_eq_some_iff.1 hm).1 hm⟩
  unfold chkE; rw [this]
theorem chk_many {ms : List Mv} (hn : 2000 < ms.length) : chkE ms = 9 := by unfold chkE chkM; rw [if_pos hn]
theorem FineTo.qty {ms : List Mv} {i : Nat} (hf : FineTo ms i) : ∀ m ∈ ms.take i, 0 ≤ m.qty ∧ m.qty ≤ 1000000000 := fun m hm => by
  obtain ⟨j, hj⟩ := List.getElem?_of_mem hm
  have hlt : j < i := by have := (List.getElem?_eq_some_iff.1 hj).1; rw [List.length_take] at this; omega
  rw [List.getElem?_take_of_lt hlt] at hj
  have hmg := MG.of (hf j m hlt hj).2.1
  have h1 := hmg.q.1; have h2 := hmg.q.2; have h3 := hmg.k
  omega
theorem tq_take_skip {ms : List Mv} {i : Nat} {m : Mv} (hx : ms[i]? = some m) (hr : ¬ refersB m.kind = true) : tq (ms.take i) = tq (ms.take (i + 1)) := by rw [take_one hx, tq_skip hr]
/-! the engine's run -/
theorem RdS.inl {A B : HP} {oa : Option Addr} {cs : List Value} (h : RdS A oa cs) : RdS (star A B) oa cs := fun hp hr => by
  obtain ⟨h1, h2, hd, rfl, ha, hb⟩ := hr
  rcases h h1 ha with h0 | ⟨b, o, e, c, t, fr, hb1, hc⟩
  · exact .inl h0
  · exact .inr ⟨b, o, e, c, t, fr, by simp only [Hp.add, hb1], hc⟩
theorem RdS.inr {A B : HP} {oa : Option Addr} {cs : List Value} (h : RdS B oa cs) : RdS (star A B) oa cs := fun hp hr => by
  obtain ⟨h1, h2, hd, rfl, ha, hb⟩ := hr
  rcases h h2 hb with h0 | ⟨b, o, e, c, t, fr, hb1, hc⟩
  · exact .inl h0
  · refine .inr ⟨b, o, e, c, t, fr, ?_, hc⟩
    rcases hd b with h' | h'
    · simp only [Hp.add, h', hb1]
    · rw [hb1] at h'; cases h'
def KsR (KL KP : HP) (x : Ks) : Prop := RdS KL x.la (x.s.layers.flatMap Ly.c) ∧ RdS KP x.pa (x.s.past.flatMap Pa.c)
theorem KsR.more {KL KP A B : HP} {x : Ks} (h : KsR KL KP x) : KsR (star A KL) (star B KP) x := ⟨h.1.inr, h.2.inr⟩
/-- The state before movement 'n' of a sequence. -/
def Before (k : Int) (st : Sk) (sm : List Mv) (n : Nat) (s : Sk) : Prop := ∃ cs, runL (stepM k) st (sm.take n) = .ok (s, cs)
structure RunH (g : Eg) (st : Sk) (ms sm : List Mv) (ord : List Int) (j0 : Nat) (KL KP : HP) : Prop where
  len : ord.length = sm.length
  n : sm.length ≤ 2000
  idx : ∀ (i : Nat) (y : Int), ord[i]? = some y → ∃ (q : Nat) (m : Mv), y = (q : Int) ∧ ms[q]? = some m ∧ sm[i]? = some m
  dis : ord.Nodup
  ok : ∀ m ∈ sm, m.ok
  fr : 16 * j0 ≤ sm.length
  kpn : j0 < g.kp.length ∧ g.kp.length ≤ 1000
  kp : ∀ (j : Nat) (x : Ks), j ≤ j0 → g.kp[j]? = some x → Before g.k st sm (16 * j) x.s ∧ KsR KL KP x
  st0 : st.ok 0
def kvOf (ord : List Int) (cs : List Co) (n : Nat) : List KV := (ord.zip cs).drop n
theorem kvOf_len {ord : List Int} {cs : List Co} {n : Nat} (h : cs.length ≤ ord.length) : (kvOf ord cs n).length = cs.length - n := by unfold kvOf; rw [List.length_drop, List.length_zip, Nat.min_eq_right h]
theorem kv_next {ord : List Int} {cs : List Co} {n : Nat} {y : Int} {c : Co} (hn : n ≤ cs.length) (hy : ord[cs.length]? = some y) : kvOf ord (cs ++ [c]) n = kvOf ord cs n ++ [(y, c)] := by
  have hl := (List.getElem?_eq_some_iff.1 hy).1
  have e : ord = ord.take cs.length ++ (y :: ord.drop (cs.length + 1)) := by
    have h1 := List.drop_eq_getElem_cons hl
    rw [(List.getElem?_eq_some_iff.1 hy).2] at h1
    rw [← h1, List.take_append_drop]
  have ht : (ord.take cs.length).length = cs.length := by rw [List.length_take]; omega
  have hz : ord.zip (cs ++ [c]) = ord.zip cs ++ [(y, c)] := by
    conv => lhs; rw [e]
    rw [List.zip_append ht]
    have h2 : ord.zip cs = (ord.take cs.length).zip cs := by
      apply List.ext_getElem?
      intro j
      by_cases hj : j < cs.length
      · have h3 : (ord.zip cs)[j]? = some (ord[j]'(by omega), cs[j]) := List.getElem?_zip_eq_some.2 ⟨List.getElem?_eq_getElem (by omega), List.getElem?_eq_getElem hj⟩
        have h4 : ((ord.take cs.length).zip cs)[j]? = some (ord[j]'(by omega), cs[j]) := List.getElem?_zip_eq_some.2 ⟨by rw [List.getElem?_take_of_lt hj]; exact List.getElem?_eq_getElem (by omega), List.getElem?_eq_getElem hj⟩
        rw [h3, h4]
      · rw [List.getElem?_eq_none (by rw [List.length_zip]; omega), List.getElem?_eq_none (by rw [List.length_zip]; omega)]
    rw [h2]; simp
  unfold kvOf
  rw [hz, List.drop_append_of_le_length (by rw [List.length_zip]; omega)]
theorem kv_push {ord : List Int} {cs : List Co} {n : Nat} {y : Int} {c : Co} (hd : ord.Nodup) (hy : ord[cs.length]? = some y) : kSet (Prod.fst : KV → Int) (y, c) (kvOf ord cs n) = kvOf ord cs n ++ [(y, c)] := by
  have : kAt (Prod.fst : KV → Int) y (kvOf ord cs n) = none := by
    refine kAt_no fun x hx => ?_
    have hx1 : x ∈ ord.zip cs := List.mem_of_mem_drop hx
    obtain ⟨j, hj⟩ := List.getElem?_of_mem hx1
    obtain ⟨a, b⟩ := x
    obtain ⟨h1, h2⟩ := List.getElem?_zip_eq_some.1 hj
    have hlt := (List.getElem?_eq_some_iff.1 h2).1
    intro e
    simp only at e
    subst e
    have hl1 := (List.getElem?_eq_some_iff.1 h1).1
    have := (List.getElem?_inj hl1 hd).1 (h1.trans hy.symm)
    omega
  unfold kSet; simp only [this]
def Grow (A B : HP) : Prop := ∀ oa cs, RdS A oa cs → RdS B oa cs
theorem KsR.grow {KL KP KL' KP' : HP} {x : Ks} (h : KsR KL KP x) (h1 : Grow KL KL') (h2 : Grow KP KP') : KsR KL' KP' x := ⟨h1 _ _ h.1, h2 _ _ h.2⟩
structure RunI (g : Eg) (st : Sk) (sm : List Mv) (j0 i : Nat) (KL0 KP0 KL KP : HP) (x : Ks) (kp : List Ks) (cs : List Co) : Prop where
  le : 16 * j0 + i ≤ sm.length
  cur : runL (stepM g.k) st (sm.take (16 * j0 + i)) = .ok (x.s, cs)
  cr : KsR KL KP x
  kl : kp.length = j0 + (i + 15) / 16
  kp : ∀ (j : Nat) (y : Ks), kp[j]? = some y → Before g.k st sm (16 * j) y.s ∧ KsR KL KP y
  gl : Grow KL0 KL
  gp : Grow KP0 KP
theorem kp_snoc {g : Eg} {st : Sk} {sm : List Mv} {j0 i : Nat} {KL0 KP0 KL KP : HP} {x : Ks} {kp : List Ks} {cs : List Co} (h : RunI g st sm j0 i KL0 KP0 KL KP x kp cs) (hm : (16 * j0 + i) % 16 = 0) : ∀ (j : Nat) (y : Ks), (kp ++ [x])[j]? = some y → Before g.k st sm (16 * j) y.s ∧ KsR KL KP y := fun j y hy => by
  by_cases hj : j < kp.length
  · rw [List.getElem?_append_left hj] at hy; exact h.kp j y hy
  · have hlt := (List.getElem?_eq_some_iff.1 hy).1
    rw [List.length_append, List.length_singleton] at hlt
    obtain rfl : j = kp.length := by omega
    rw [List.getElem?_append_right (Nat.le_refl _)] at hy
    simp at hy; subst hy
    have := h.kl
    refine ⟨?_, h.cr⟩
    rw [show 16 * kp.length = 16 * j0 + i by omega]
    exact ⟨cs, h.cur⟩
theorem RunI.next {g : Eg} {st : Sk} {sm : List Mv} {j0 i : Nat} {KL0 KP0 KL KP A B : HP} {x x' : Ks} {kp kp' : List Ks} {cs : List Co} {m : Mv} {c : Co} (h : RunI g st sm j0 i KL0 KP0 KL KP x kp cs) (hx : sm[16 * j0 + i]? = some m) (hst : stepM g.k x.s m = .ok (x'.s, c))
    (hA : RdS A x'.la (x'.s.layers.flatMap Ly.c)) (hB : RdS B x'.pa (x'.s.past.flatMap Pa.c)) (hk : (16 * j0 + i) % 16 = 0 ∧ kp' = kp ++ [x] ∨ (16 * j0 + i) % 16 ≠ 0 ∧ kp' = kp) : RunI g st sm j0 (i + 1) KL0 KP0 (star A KL) (star B KP) x' kp' (cs ++ [c]) := by
  have hl := (List.getElem?_eq_some_iff.1 hx).1
  have hkl := h.kl
  refine ⟨by omega, runL_snoc h.cur hx hst, ⟨hA.inl, hB.inl⟩, ?_, fun j y hy => ?_, fun oa cs hr => (h.gl oa cs hr).inr, fun oa cs hr => (h.gp oa cs hr).inr⟩
  · rcases hk with ⟨h1, rfl⟩ | ⟨h1, rfl⟩
    · rw [List.length_append, List.length_singleton]; omega
    · omega
  · rcases hk with ⟨h1, rfl⟩ | ⟨h1, rfl⟩
    · have := kp_snoc h h1 j y hy; exact ⟨this.1, this.2.more⟩
    · have := h.kp j y hy; exact ⟨this.1, this.2.more⟩
theorem RunI.start {g : Eg} {st : Sk} {ms sm : List Mv} {ord : List Int} {j0 : Nat} {KL KP : HP} {x : Ks} {cs : List Co} (H : RunH g st ms sm ord j0 KL KP) (hx : g.kp[j0]? = some x) (hb : runL (stepM g.k) st (sm.take (16 * j0)) = .ok (x.s, cs)) : RunI g st sm j0 0 KL KP KL KP x (g.kp.take j0) cs := by
  have hk := H.kpn
  refine ⟨H.fr, hb, (H.kp j0 x (Nat.le_refl _) hx).2, by rw [List.length_take]; omega, fun j y hy => ?_, fun _ _ h => h, fun _ _ h => h⟩
  have hj : j < j0 := by have := (List.getElem?_eq_some_iff.1 hy).1; rw [List.length_take] at this; omega
  rw [List.getElem?_take_of_lt hj] at hy
  exact H.kp j y (by omega) hy
/-- What a run has come to. -/
structure RunF (g : Eg) (st : Sk) (sm : List Mv) (KL0 KP0 KL KP : HP) (x : Ks) (kp : List Ks) : Prop where
  kl : kp.length = sm.length / 16 + 1
  kp : ∀ (j : Nat) (y : Ks), kp[j]? = some y → Before g.k st sm (16 * j) y.s ∧ KsR KL KP y
  cr : KsR KL KP x
  gl : Grow KL0 KL
  gp : Grow KP0 KP
theorem RunI.fin {g : Eg} {st : Sk} {sm : List Mv} {j0 i : Nat} {KL0 KP0 KL KP : HP} {x : Ks} {kp kp' : List Ks} {cs : List Co} (h : RunI g st sm j0 i KL0 KP0 KL KP x kp cs) (hi : 16 * j0 + i = sm.length) (hk : sm.length % 16 = 0 ∧ kp' = kp ++ [x] ∨ sm.length % 16 ≠ 0 ∧ kp' = kp) : RunF g st sm KL0 KP0 KL KP x kp' := by
  have hkl := h.kl
  rcases hk with ⟨h1, rfl⟩ | ⟨h1, rfl⟩
  · exact ⟨by rw [List.length_append, List.length_singleton]; omega, kp_snoc h (by omega), h.cr, h.gl, h.gp⟩
  · exact ⟨by omega, h.kp, h.cr, h.gl, h.gp⟩
structure RunO where
  bm : Nat
  ka : Option Addr
  kc : Nat
  x : Ks
  kp : List Ks
  KL : HP
  KP : HP
def Z7 : List Value := [.map none, .slice none 0 0, I 0, I 0, I 0, .slice none 0 0, .slice none 0 0]
def runV (r : Except (Nat × Int) (Sk × List Co)) (o : RunO) : Value := match r with
  | .error p => .tuple ⟨[.agg ⟨Z7⟩, I p.2]⟩
  | .ok _ => .tuple ⟨[.agg ⟨[.map (some o.bm), .slice o.ka o.kp.length o.kc, I o.x.s.qty, I o.x.s.value, I o.x.s.price, .slice o.x.la o.x.s.layers.length o.x.lc, .slice o.x.pa o.x.s.past.length o.x.pc]⟩, I 0]⟩
def runP (g : Eg) (st : Sk) (sm : List Mv) (KL KP : HP) (o : RunO) : Prop := match runL (stepM g.k) st sm with
  | .error _ => Grow KL o.KL ∧ Grow KP o.KP
  | .ok (t, _) => o.x.s = t ∧ RunF g st sm KL KP o.KL o.KP o.x o.kp
def runBs (T : TypeId) (ord : List Int) (n : Nat) (r : Except (Nat × Int) (Sk × List Co)) (o : RunO) : List HP := match r with
  | .error _ => [o.KL, o.KP]
  | .ok (_, cs) => [amap o.bm KVf KVg (kvOf ord cs n), own T 5 o.ka o.kp.length o.kc (o.kp.flatMap Ks.c), o.KL, o.KP]
theorem kv_start {ord : List Int} {cs : List Co} {sm : List Mv} {n : Nat} (h : cs.length = (sm.take n).length) (hn : n ≤ sm.length) : kvOf ord cs n = [] := by
  rw [List.length_take, Nat.min_eq_left hn] at h
  unfold kvOf
  exact List.drop_eq_nil_of_le (by rw [List.length_zip]; omega)
/-- The engine at its start. -/
def eg0 (k p : Int) : Eg := ⟨k, [], [], [], [⟨start0 k p, none, 0, none, 0⟩], ⟨start0 k p, none, 0, none, 0⟩⟩
end Go.SL

namespace Go.SL
open Go Go.Proofs Go.Shelf Go.Lib
theorem setCell_heap {w : World} {b o : Nat} {v : Value} {cs : Array Value} {t : TypeId} {fr : Nat × Nat} (hb : w.heap[b]? = some (.cells cs t fr)) : (w.setCell ⟨b, o, none⟩ v).heap = w.heap.setIfInBounds b (.cells (cs.setIfInBounds o v) t fr) := by
  have hlt := (Array.getElem?_eq_some_iff.1 hb).1
  apply Array.ext_getElem?
  intro j
  simp only [World.setCell, Array.getElem?_modify]
  by_cases hj : b = j
  · subst hj
    rw [if_pos rfl, hb, Array.getElem?_setIfInBounds_self_of_lt hlt]; rfl
  · rw [if_neg hj, Array.getElem?_setIfInBounds_ne hj]
theorem setCells_heap (b : Nat) : ∀ (vs : List Value) (o : Nat) (w : World) (cs : List Value) (t : TypeId) (fr : Nat × Nat), w.heap[b]? = some (.cells ⟨cs⟩ t fr) → o + vs.length ≤ cs.length →
    (w.setCells b o vs).heap = w.heap.setIfInBounds b (.cells ⟨cs.take o ++ vs ++ cs.drop (o + vs.length)⟩ t fr)
  | [], o, w, cs, t, fr, hb, h => by
    have hlt := (Array.getElem?_eq_some_iff.1 hb).1
    simp only [World.setCells, List.append_nil, List.length_nil, Nat.add_zero, List.take_append_drop]
    apply Array.ext_getElem?
    intro j
    by_cases hj : b = j
    · subst hj; rw [Array.getElem?_setIfInBounds_self_of_lt hlt, hb]
    · rw [Array.getElem?_setIfInBounds_ne hj]
  | v :: vs, o, w, cs, t, fr, hb, h => by
    have hlt := (Array.getElem?_eq_some_iff.1 hb).1
    simp only [List.length_cons] at h
    have h1 := setCell_heap (v := v) (o := o) hb
    have hb1 : (w.setCell ⟨b, o, none⟩ v).heap[b]? = some (.cells ⟨cs.set o v⟩ t fr) := by
      rw [h1, Array.getElem?_setIfInBounds_self_of_lt hlt]; simp
    have ih := setCells_heap b vs (o + 1) (w.setCell ⟨b, o, none⟩ v) (cs.set o v) t fr hb1 (by rw [List.length_set]; omega)
    rw [World.setCells, ih, h1]
    have e : (cs.set o v).take (o + 1) ++ vs ++ (cs.set o v).drop (o + 1 + vs.length) = cs.take o ++ (v :: vs) ++ cs.drop (o + (v :: vs).length) := by
      have e1 : (cs.set o v).take (o + 1) = cs.take o ++ [v] := by
        have hs : cs.set o v = cs.take o ++ v :: cs.drop (o + 1) := by rw [List.set_eq_take_append_cons_drop, if_pos (by omega)]
        rw [hs, List.take_append, List.take_of_length_le (by rw [List.length_take]; omega), List.length_take, Nat.min_eq_left (by omega)]
        simp
      have e2 : (cs.set o v).drop (o + 1 + vs.length) = cs.drop (o + (vs.length + 1)) := by
        rw [List.drop_set_of_lt (by omega), show o + 1 + vs.length = o + (vs.length + 1) by omega]
      rw [e1, e2]; simp
    rw [e]
    apply Array.ext_getElem?
    intro j
    by_cases hj : b = j
    · subst hj; rw [Array.getElem?_setIfInBounds_self_of_lt (by simpa using hlt), Array.getElem?_setIfInBounds_self_of_lt hlt]
    · rw [Array.getElem?_setIfInBounds_ne hj, Array.getElem?_setIfInBounds_ne hj, Array.getElem?_setIfInBounds_ne hj]
theorem setCells_rest (b : Nat) : ∀ (vs : List Value) (o : Nat) (w : World), (w.setCells b o vs).os = w.os ∧ (w.setCells b o vs).tape = w.tape ∧ (w.setCells b o vs).output = w.output
  | [], _, _ => ⟨rfl, rfl, rfl⟩
  | v :: vs, o, w => setCells_rest b vs (o + 1) (w.setCell ⟨b, o, none⟩ v)
/-- A stretch of a block is written. -/
theorem Has.setCells {β : Base} {A : HP} {w : World} {b o : Nat} {vs cs : List Value} {t : TypeId} (hs : Has β (star (pt b (blk cs t)) A) w) (h : o + vs.length ≤ cs.length) : Has β (star (pt b (blk (cs.take o ++ vs ++ cs.drop (o + vs.length)) t)) A) (w.setCells b o vs) := by
  have hb : w.heap[b]? = some (.cells ⟨cs⟩ t (0, 0)) := by
    obtain ⟨⟨hp, ⟨h1, h2, _, rfl, h1p, _⟩, hsub, _⟩, _⟩ := hs
    exact hsub b _ (by simp [Hp.add, h1p b, blk])
  have hr := setCells_rest b vs o w
  exact Has.setObj hs (setCells_heap b vs o w cs t (0, 0) hb h) hr.1 hr.2.1 hr.2.2
theorem ep' {A : HP} {h : Hp} (hs : A h) : star A emp h := ⟨h, fun _ => none, fun b => .inr rfl, by rw [Hp.add_none' (fun _ => rfl)], hs, fun _ => rfl⟩
theorem iv_len (os : List Int) : (os.flatMap Iv).length = os.length := by rw [flat_len (enc := Iv) (k := 1) (fun _ => rfl), Nat.mul_one]
theorem iv_take (os : List Int) (i : Nat) : (os.flatMap Iv).take i = (os.take i).flatMap Iv := by
  have : ∀ l : List Int, l.flatMap Iv = l.map fun n => I n := fun l => by induction l with | nil => rfl | cons x l ih => simp [Iv, ih]
  rw [this, this, List.map_take]
theorem iv_drop (os : List Int) (i : Nat) : (os.flatMap Iv).drop i = (os.drop i).flatMap Iv := by
  have : ∀ l : List Int, l.flatMap Iv = l.map fun n => I n := fun l => by induction l with | nil => rfl | cons x l ih => simp [Iv, ih]
  rw [this, this, List.map_drop]
theorem cell_blk {w : World} {b : Nat} {cs : List Value} {t : TypeId} (hb : w.heap[b]? = some (blk cs t)) {j : Nat} {u : Value} (hj : cs[j]? = some u) : w.cell? ⟨b, j, none⟩ = some u := by
  have hb' : w.heap[b]? = some (.cells ⟨cs⟩ t (0, 0)) := hb
  simp [World.cell?, hb', hj]
theorem frozen_blk {w : World} {b o : Nat} {cs : List Value} {t : TypeId} (hb : w.heap[b]? = some (blk cs t)) : w.frozen? ⟨b, o, none⟩ = false := by
  have hb' : w.heap[b]? = some (.cells ⟨cs⟩ t (0, 0)) := hb
  simp [World.frozen?, hb']
theorem Has.pt_heap {β : Base} {A : HP} {w : World} {b : Nat} {o : Obj} (hs : Has β (star (pt b o) A) w) : w.heap[b]? = some o := by
  obtain ⟨⟨hp, ⟨h1, h2, _, rfl, h1p, _⟩, hsub, _⟩, _⟩ := hs
  exact hsub b _ (by simp [Hp.add, h1p b])
def insN (os : List Int) (i : Nat) (v : Int) : List Int := os.take i ++ v :: os.drop i
theorem insN_len {os : List Int} {i : Nat} {v : Int} (hi : i ≤ os.length) : (insN os i v).length = os.length + 1 := by simp [insN]; omega
theorem insN_flat {os : List Int} {i : Nat} {v : Int} : (insN os i v).flatMap Iv = (os.flatMap Iv).take i ++ [I v] ++ (os.flatMap Iv).drop i := by rw [iv_take, iv_drop]; simp [insN, Iv]
theorem take_len {α : Type} {a b : List α} {n : Nat} (h : a.length = n) : (a ++ b).take n = a := by subst h; simp
theorem drop_len {α : Type} {a b : List α} {n : Nat} (h : a.length = n) : (a ++ b).drop n = b := by subst h; simp
theorem shift_row (cs junk : List Value) (i : Nat) (x : Value) (hi : i < cs.length) (R : List Value) : (((cs ++ junk).take (i + 1) ++ cs.drop i ++ R).take i ++ [x] ++ ((cs ++ junk).take (i + 1) ++ cs.drop i ++ R).drop (i + [x].length)).take (cs.length + 1) = cs.take i ++ [x] ++ cs.drop i := by
  have e1 : ((cs ++ junk).take (i + 1) ++ cs.drop i ++ R).take i = cs.take i := by
    rw [List.append_assoc, List.take_append_of_le_length (by rw [List.length_take, List.length_append]; omega), List.take_take, Nat.min_eq_left (by omega), List.take_append_of_le_length (by omega)]
  have e2 : ((cs ++ junk).take (i + 1) ++ cs.drop i ++ R).drop (i + [x].length) = cs.drop i ++ R := by
    rw [List.append_assoc]; exact drop_len (by rw [List.length_take, List.length_append, List.length_singleton]; omega)
  rw [e1, e2, ← List.append_assoc]
  exact take_len (by simp; omega)
theorem grow_row (A Z D R : List Value) (x : Value) (h : D.length + 1 ≤ Z.length) : ((((A ++ Z).take A.length ++ [x] ++ (A ++ Z).drop (A.length + [x].length)).take (A.length + 1) ++ D ++ R)).take (A.length + 1 + D.length) = A ++ [x] ++ D := by
  have e1 : ((A ++ Z).take A.length ++ [x] ++ (A ++ Z).drop (A.length + [x].length)).take (A.length + 1) = A ++ [x] := by
    rw [take_len rfl]; exact take_len (by simp)
  rw [e1]
  exact take_len (by simp; omega)
section
variable {P : Program} {ρ : Ren}
theorem ac_insert (L : Lays2.n21 P ρ) (oa : Option Addr) (cap : Nat) (os : List Int) (i : Nat) (v : Int) (vb : Nat) (hi : i ≤ os.length) (hlen : os.length ≤ 1000000) (hc63 : cap ≤ 9223372036854775807) :
    AC P (ρ.f 21) ⟨[.slice oa os.length cap, I (i : Int), .slice (some ⟨vb, 0, none⟩) 1 1]⟩ (stars [own (ρ.t 3) 1 oa os.length cap (os.flatMap Iv), pt vb (blk [I v] (ρ.t 3))])
      (Outs (fun x : Option Addr × Nat => x.2 ≤ 9223372036854775807) (fun x => .slice x.1 (os.length + 1) x.2) (fun x => [own (ρ.t 3) 1 x.1 (os.length + 1) x.2 ((insN os i v).flatMap Iv)])) := fun w h hA hsub => by
  have hs : Has ⟨w, h⟩ (stars [own (ρ.t 3) 1 oa os.length cap (os.flatMap Iv), pt vb (blk [I v] (ρ.t 3))]) w := ⟨⟨h, hA, hsub, fun b hb => .inl hb⟩, ⟨fun _ _ _ => rfl, Nat.le_refl _, rfl, rfl, rfl⟩⟩
  have hcl := iv_len os
  have hv := Has.pt_heap (b := vb) (o := blk [I v] (ρ.t 3)) (A := stars [own (ρ.t 3) 1 oa os.length cap (os.flatMap Iv)]) (hs.mono fun _ hh => star_left hh)
  have hvs : ∀ (j : Nat) (u : Value), [I v][j]? = some u → w.cell? ⟨vb, 0 + j, none⟩ = some u := fun j u hj => by rw [Nat.zero_add]; exact cell_blk hv hj
  have h1v : ∀ u ∈ [I v], u.oneCell' = true := fun u hu => by simp at hu; subst hu; rfl
  have h1c := flat_one iv1 os
  have fresh : ∀ (w0 w' : World) (row : List Value), Has ⟨w, h⟩ emp w0 → w0.heap.size = w.heap.size → ∀ G : Nat, w' = w0.alloc (blk row (ρ.t 3)) → row.take (os.length + 1) = (insN os i v).flatMap Iv → os.length + 1 ≤ G → G ≤ row.length →
      Has ⟨w, h⟩ (own (ρ.t 3) 1 (some ⟨w.heap.size, 0, none⟩) (os.length + 1) G ((insN os i v).flatMap Iv)) w' := fun w0 w' row h0 hz G hw hr hG hGr => by
    subst hw
    have h1 := Has.alloc h0 (blk row (ρ.t 3))
    rw [hz] at h1
    refine h1.mono fun hp hh => ?_
    obtain ⟨p1, p2, hd, rfl, hp1, hp2⟩ := hh
    rw [Hp.add_none' hp2]
    refine ⟨by rw [iv_len, insN_len hi, Nat.mul_one], hG, .inr ⟨_, row.drop (os.length + 1), rfl, ?_, ?_⟩⟩
    · rw [iv_len, insN_len hi, List.length_drop]; omega
    · rw [← hr, List.take_append_drop]; exact hp1
  have hem : Has ⟨w, h⟩ emp w := (hs.right.right : Has ⟨w, h⟩ (stars []) w)
  have hownh := hs.left
  have hbig : (os.length + 1) * 8 ≤ 140737488355328 := by omega
  have endgrow : i = os.length → cap < os.length + 1 → (∀ a, oa = some a → ∀ (j : Nat) (u : Value), (os.flatMap Iv)[j]? = some u → w.cell? (a.add j) = some u) → (oa = none → os.length = 0) → os.length ≤ cap → Calls P (ρ.f 21) ⟨[.slice oa os.length cap, I (i : Int), .slice (some ⟨vb, 0, none⟩) 1 1]⟩ w fun e w' => ∃ r, e = .returned r ∧ Has ⟨w, h⟩ (Outs (fun x : Option Addr × Nat => x.2 ≤ 9223372036854775807) (fun x => .slice x.1 (os.length + 1) x.2) (fun x => [own (ρ.t 3) 1 x.1 (os.length + 1) x.2 ((insN os i v).flatMap Iv)]) r) w' := fun hin hroom hcs hnil hnc => by
    have hcall := Any2.slices_Insert_int_end_grow L oa os.length cap vb 0 1 1 (os.flatMap Iv) [I v] w (by omega) hnc hroom hbig hcl rfl hnil hcs hvs h1v
    rw [← hin] at hcall
    refine (show Calls P (ρ.f 21) ⟨[.slice oa os.length cap, I (i : Int), .slice (some ⟨vb, 0, none⟩) 1 1]⟩ w _ from by rw [hin] at hcall ⊢; exact hcall).mono fun e w' he => ?_
    obtain ⟨he, hw'⟩ := he
    have hge := grownCap_ge w (os.length + 1) cap (ρ.t 3)
    have hle := grownCap_le_maxLen w (os.length + 1) cap (ρ.t 3) (by unfold maxLen; omega)
    refine ⟨_, he, Has.mono (fresh w.drew w' ((os.flatMap Iv) ++ [I v] ++ (Builtin.zeroCells (Value.int .i64 0).cells (grownCap w (os.length + 1) cap (ρ.t 3) - (os.length + 1))).toList) hem.drew rfl _ ?_ ?_ hge ?_) fun hp hh => ⟨(some ⟨w.heap.size, 0, none⟩, grownCap w (os.length + 1) cap (ρ.t 3)), ⟨hle, rfl⟩, ep' hh⟩⟩
    · rw [hw']
      congr 2
      apply Array.ext'
      simp
    · rw [insN_flat, hin, List.take_append_of_le_length (by simp [hcl]), List.take_of_length_le (by simp [hcl]), List.take_of_length_le (by omega), List.drop_eq_nil_of_le (by omega), List.append_nil]
    · have hz : (Builtin.zeroCells (Value.int .i64 0).cells (grownCap w (os.length + 1) cap (ρ.t 3) - (os.length + 1))).toList.length = (grownCap w (os.length + 1) cap (ρ.t 3) - (os.length + 1)) * 1 := by rw [Array.length_toList, size_zeroCells]; rfl
      rw [List.length_append, hz]; simp only [List.length_append, hcl, List.length_singleton]; omega
  have place : ∀ (A : HP) (b : Nat) (row : List Value) (w' : World) (G : Nat), Has ⟨w, h⟩ (star (pt b (blk row (ρ.t 3))) A) w' → row.take (os.length + 1) = (insN os i v).flatMap Iv → os.length + 1 ≤ G → G ≤ 9223372036854775807 → G ≤ row.length →
      Has ⟨w, h⟩ (Outs (fun x : Option Addr × Nat => x.2 ≤ 9223372036854775807) (fun x => .slice x.1 (os.length + 1) x.2) (fun x => [own (ρ.t 3) 1 x.1 (os.length + 1) x.2 ((insN os i v).flatMap Iv)]) (.slice (some ⟨b, 0, none⟩) (os.length + 1) G)) w' := fun A b row w' G hh hr hroom hG hcap =>
    hh.left.mono fun hp hpt => ⟨(some ⟨b, 0, none⟩, G), ⟨hG, rfl⟩, ep' ⟨by rw [iv_len, insN_len hi, Nat.mul_one], hroom, .inr ⟨b, row.drop (os.length + 1), rfl, by rw [iv_len, insN_len hi, List.length_drop]; omega, by rw [← hr, List.take_append_drop]; exact hpt⟩⟩⟩
  obtain ⟨⟨hp, ⟨p1, p2, hd, rfl, ⟨_, hnc, hcase⟩, hrest⟩, hsub1, hown1⟩, hr1⟩ := hs
  rcases hcase with ⟨hc0, he⟩ | ⟨b, junk, rfl, hjl, hpt⟩
  · exact endgrow (by omega) (by omega) (fun a _ j u hj => by have := (List.getElem?_eq_some_iff.1 hj).1; omega) (fun _ => by omega) hnc
  · have hsb : Has ⟨w, _⟩ (star (pt b (blk (os.flatMap Iv ++ junk) (ρ.t 3))) (stars [pt vb (blk [I v] (ρ.t 3))])) w := ⟨⟨_, ⟨p1, p2, hd, rfl, hpt, hrest⟩, hsub1, hown1⟩, hr1⟩
    have hb := hsb.pt_heap
    have hcs : ∀ (j : Nat) (u : Value), (os.flatMap Iv)[j]? = some u → w.cell? ⟨b, 0 + j, none⟩ = some u := fun j u hj => by
      rw [Nat.zero_add]; exact cell_blk hb (by rw [List.getElem?_append_left (List.getElem?_eq_some_iff.1 hj).1]; exact hj)
    have hcs2 : ∀ a, some (⟨b, 0, none⟩ : Addr) = some a → ∀ (j : Nat) (u : Value), (os.flatMap Iv)[j]? = some u → w.cell? (a.add j) = some u := fun a ha j u hj => by
      cases ha; rw [Addr.add_eq rfl]; exact hcs j u hj
    have hne : vb ≠ b := fun e => by
      subst e
      obtain ⟨q1, q2, hdq, hq, hq1, hq2⟩ := hrest
      have h1 : p1 vb = some (blk (os.flatMap Iv ++ junk) (ρ.t 3)) := by rw [hpt vb]; simp
      have h2 : p2 vb = some (blk [I v] (ρ.t 3)) := by rw [hq]; simp [Hp.add, hq1 vb]
      rcases hd vb with h' | h'
      · rw [h1] at h'; cases h'
      · rw [h2] at h'; cases h'
    rw [Nat.mul_one] at hjl
    have hjl2 : cap ≤ (os.flatMap Iv ++ junk).length := by rw [List.length_append]; exact hjl
    by_cases hroom : os.length + 1 ≤ cap
    · have hsp : ∀ j, j < cap → (w.cell? ⟨b, 0 + j, none⟩).isSome = true := fun j hj => by
        rw [Nat.zero_add, cell_blk hb (List.getElem?_eq_getElem (show j < (os.flatMap Iv ++ junk).length by omega))]; rfl
      by_cases hin : i = os.length
      · have hcall := Any2.slices_Insert_int_end_room L b 0 os.length cap vb 0 1 1 [I v] w (by omega) hroom hc63 rfl (fun j hj => by rw [Nat.zero_add]; have := hsp (os.length + j) (by omega); rwa [Nat.zero_add] at this) (fun j _ => frozen_blk hb) hvs h1v
        rw [show ((os.length : Nat) : Int) = (i : Int) by rw [hin]] at hcall
        refine hcall.mono fun e w' he => ?_
        obtain ⟨he, hw'⟩ := he
        subst hw'
        refine ⟨_, he, place _ b _ _ cap (Has.setCells hsb (by simp only [List.length_singleton]; omega)) ?_ hroom hc63 (by simp only [List.length_append, List.length_take, List.length_drop, List.length_singleton] at hjl2 ⊢; omega)⟩
        rw [insN_flat, hin, Nat.zero_add, List.take_append_of_le_length (by simp only [List.length_append, List.length_take, List.length_singleton]; omega), List.take_of_length_le (by simp only [List.length_append, List.length_take, List.length_singleton]; omega),
          List.take_append_of_le_length (by omega), List.take_of_length_le (by omega), List.drop_eq_nil_of_le (by omega), List.append_nil]
      · have hcall := Any2.slices_Insert_int_shift L b 0 os.length cap i vb 0 1 1 (os.flatMap Iv) [I v] w (by omega) (by omega) hroom hc63 hne hcl rfl hcs (fun j hj => hsp j (by omega)) (fun j _ => frozen_blk hb) hvs h1c h1v
          (ρ.t 3) (ρ.t 3) 1 (os.flatMap Iv ++ junk).length (by have : w.heap[vb]? = some (.cells ⟨[I v]⟩ (ρ.t 3) (0, 0)) := hv; simp [World.shape?, this]) (by have : w.heap[b]? = some (.cells ⟨os.flatMap Iv ++ junk⟩ (ρ.t 3) (0, 0)) := hb; simp [World.shape?, this]) (by omega) (frozen_blk hv) (frozen_blk hv)
        refine hcall.mono fun e w' he => ?_
        obtain ⟨he, hw'⟩ := he
        subst hw'
        have h1 := Has.setCells (o := 0 + (i + 1)) (vs := (os.flatMap Iv).drop i) hsb.drew (by rw [List.length_drop]; omega)
        have h2 := Has.setCells (o := 0 + i) (vs := [I v]) h1 (by simp only [List.length_append, List.length_take, List.length_drop, List.length_singleton] at hjl2 ⊢; omega)
        refine ⟨_, he, place _ b _ _ cap h2 ?_ hroom hc63 (by simp only [List.length_append, List.length_take, List.length_drop, List.length_singleton] at hjl2 ⊢; omega)⟩
        rw [insN_flat]
        simp only [Nat.zero_add]
        have hsr := shift_row (os.flatMap Iv) junk i (I v) (by omega) ((os.flatMap Iv ++ junk).drop (i + 1 + ((os.flatMap Iv).drop i).length))
        rw [hcl] at hsr
        exact hsr
    · by_cases hin : i = os.length
      · exact endgrow hin (by omega) hcs2 (fun e => by cases e) hnc
      · have hcall := Any2.slices_Insert_int_grow L b 0 os.length cap i vb 0 1 1 (os.flatMap Iv) [I v] w (by omega) (by omega) hnc (by omega) hbig hcl rfl hcs hvs h1c h1v
        refine hcall.mono fun e w' he => ?_
        obtain ⟨he, hw'⟩ := he
        subst hw'
        have hge := grownCap_ge w (os.length + 1) cap (ρ.t 3)
        have hle := grownCap_le_maxLen w (os.length + 1) cap (ρ.t 3) (by unfold maxLen; omega)
        obtain ⟨G, hG⟩ : ∃ G, G = grownCap w (os.length + 1) cap (ρ.t 3) := ⟨_, rfl⟩
        rw [← hG] at hge hle he ⊢
        obtain ⟨Z, hZ, hZl⟩ : ∃ Z : List Value, ((os.flatMap Iv).take i).toArray ++ Builtin.zeroCells (Value.int .i64 0).cells (os.length + 1 - i) ++ Builtin.zeroCells (Value.int .i64 0).cells (G - (os.length + 1)) = ⟨(os.flatMap Iv).take i ++ Z⟩ ∧ Z.length = G - i := by
          refine ⟨(Builtin.zeroCells (Value.int .i64 0).cells (os.length + 1 - i)).toList ++ (Builtin.zeroCells (Value.int .i64 0).cells (G - (os.length + 1))).toList, by apply Array.ext'; simp, ?_⟩
          have z1 : (Builtin.zeroCells (Value.int .i64 0).cells (os.length + 1 - i)).toList.length = (os.length + 1 - i) * 1 := by rw [Array.length_toList, size_zeroCells]; rfl
          have z2 : (Builtin.zeroCells (Value.int .i64 0).cells (G - (os.length + 1))).toList.length = (G - (os.length + 1)) * 1 := by rw [Array.length_toList, size_zeroCells]; rfl
          rw [List.length_append, z1, z2]; omega
        rw [hZ]
        have hAl : ((os.flatMap Iv).take i).length = i := by rw [List.length_take]; omega
        have h0 := Has.alloc hem (blk ((os.flatMap Iv).take i ++ Z) (ρ.t 3))
        have h1 := Has.setCells (o := i) (vs := [I v]) h0.drew (by simp only [List.length_append, List.length_singleton, hAl, hZl]; omega)
        have h2 := Has.setCells (o := i + 1) (vs := (os.flatMap Iv).drop i) h1.drew (by simp only [List.length_append, List.length_take, List.length_drop, List.length_singleton, hAl, hZl] at *; omega)
        refine ⟨_, he, place _ _ _ _ G h2 ?_ hge hle ?_⟩
        · rw [insN_flat]
          have hd : i + 1 + ((os.flatMap Iv).drop i).length = os.length + 1 := by rw [List.length_drop, hcl]; omega
          have hg : ∀ R : List Value, ((((((os.flatMap Iv).take i ++ Z).take i ++ [I v] ++ ((os.flatMap Iv).take i ++ Z).drop (i + [I v].length)).take (i + 1) ++ (os.flatMap Iv).drop i ++ R)).take (os.length + 1)) = (os.flatMap Iv).take i ++ [I v] ++ (os.flatMap Iv).drop i := fun R => by
            have h5 := grow_row ((os.flatMap Iv).take i) Z ((os.flatMap Iv).drop i) R (I v) (by rw [List.length_drop, hZl]; omega)
            rw [hAl, hd] at h5
            exact h5
          exact hg _
        · simp only [List.length_append, List.length_take, List.length_drop, List.length_singleton, hZl] at *; omega
end
end Go.SL

namespace Go.SL
open Go
/-- The order of values. -/
def SortV (o : List Mv) : Prop := ∀ (i j : Nat) (x y : Mv), i ≤ j → o[i]? = some x → o[j]? = some y → x.value ≤ y.value
theorem SortV.mono {o : List Mv} (h : SortV o) (v : Int) : Mono (laterB v) o := fun i j x y hij hx hy hp => by
  have := h i j x y hij hx hy
  simp only [laterB, decide_eq_true_eq] at hp ⊢; omega
theorem ins_get {α : Type} {o : List α} {n : Nat} {x : α} (hn : n ≤ o.length) (i : Nat) : (o.take n ++ x :: o.drop n)[i]? = if i < n then o[i]? else if i = n then some x else o[i - 1]? := by
  have hl : (o.take n).length = n := by rw [List.length_take]; omega
  by_cases h : i < n
  · rw [if_pos h, List.getElem?_append_left (by omega), List.getElem?_take_of_lt h]
  · rw [if_neg h, List.getElem?_append_right (by omega), hl]
    by_cases h2 : i = n
    · subst h2; simp
    · rw [if_neg h2, show i - n = (i - n - 1) + 1 by omega, List.getElem?_cons_succ, List.getElem?_drop]
      congr 1; omega
theorem SortV.ins {o : List Mv} (h : SortV o) (m : Mv) : SortV (insB (laterB m.value) m o) := by
  have hc := cutN_le (p := laterB m.value) (o := o)
  rw [insB_eq]
  intro i j x y hij hx hy
  rw [ins_get hc] at hx hy
  have lo : ∀ a z, a < cutN (laterB m.value) o → o[a]? = some z → z.value ≤ m.value := fun a z ha hz => by
    have := cutN_lt ha hz
    simp only [laterB, decide_eq_false_iff_not] at this; omega
  have hi : ∀ a z, cutN (laterB m.value) o ≤ a → o[a]? = some z → m.value ≤ z.value := fun a z ha hz => by
    have := (cutN_iff (h.mono m.value) hz).2 ha
    simp only [laterB, decide_eq_true_eq] at this; omega
  split at hx
  · split at hy
    · exact h _ _ _ _ hij hx hy
    · split at hy
      · cases hy; exact lo _ _ (by assumption) hx
      · exact h _ _ _ _ (by omega) hx hy
  · split at hx
    · cases hx
      split at hy
      · omega
      · split at hy
        · cases hy; exact Int.le_refl _
        · exact hi _ _ (by omega) hy
    · split at hy
      · omega
      · split at hy
        · omega
        · exact h _ _ _ _ (by omega) hx hy
theorem ordM_sort (ms : List Mv) : SortV (ordM ms) := by
  suffices H : ∀ (ms o : List Mv), SortV o → SortV (ms.foldl (fun o m => insB (laterB m.value) m o) o) from H ms [] (fun i j x y _ hx => by simp at hx)
  intro ms
  induction ms with
  | nil => intro o h; exact h
  | cons m ms ih => intro o h; exact ih _ (h.ins m)
theorem ordM_len (ms : List Mv) : (ordM ms).length = ms.length := (ordM_perm ms).length_eq
/-- The indices of a list of movements, in their order. -/
structure IdxI (ms : List Mv) (ord : List Int) : Prop where
  len : ord.length = ms.length
  idx : ∀ (i : Nat) (y : Int), ord[i]? = some y → ∃ (q : Nat) (m : Mv), y = (q : Int) ∧ ms[q]? = some m ∧ (ordM ms)[i]? = some m
  dis : ord.Nodup
theorem IdxI.nil : IdxI [] [] := ⟨rfl, fun i y h => by simp at h, List.nodup_nil⟩
theorem IdxI.mono {ms : List Mv} {ord : List Int} (h : IdxI ms ord) (v : Int) : Mono (dnB ms v) ord := fun i j x y hij hx hy hp => by
  obtain ⟨q, m, rfl, hq, hs⟩ := h.idx i x hx
  obtain ⟨r, n, rfl, hr, ht⟩ := h.idx j y hy
  have := ordM_sort ms i j m n hij hs ht
  unfold dnB at hp ⊢
  rw [show ((q : Int)).toNat = q from rfl, hq] at hp
  rw [show ((r : Int)).toNat = r from rfl, hr]
  simp only [Option.map_some, Option.getD_some, decide_eq_true_eq] at hp ⊢; omega
theorem IdxI.cut {ms : List Mv} {ord : List Int} (h : IdxI ms ord) (v : Int) : cutN (dnB ms v) ord = cutN (laterB v) (ordM ms) := by
  refine cutN_mid (by rw [h.len, ← ordM_len]; exact cutN_le) (fun i y hi hy => ?_) (fun y hy => ?_)
  · obtain ⟨q, m, rfl, hq, hs⟩ := h.idx i y hy
    have := cutN_lt hi hs
    unfold dnB
    rw [show ((q : Int)).toNat = q from rfl, hq]
    exact this
  · obtain ⟨q, m, rfl, hq, hs⟩ := h.idx _ y hy
    have := cutN_at hs
    unfold dnB
    rw [show ((q : Int)).toNat = q from rfl, hq]
    exact this
theorem IdxI.ins {ms : List Mv} {ord : List Int} (h : IdxI ms ord) (m : Mv) : IdxI (ms ++ [m]) (insN ord (cutN (dnB ms m.value) ord) (ms.length : Int)) := by
  have hc := cutN_le (p := laterB m.value) (o := ordM ms)
  have hc2 := cutN_le (p := dnB ms m.value) (o := ord)
  have up : ∀ (i : Nat) (y : Int), ord[i]? = some y → ∃ (q : Nat) (x : Mv), y = (q : Int) ∧ (ms ++ [m])[q]? = some x ∧ (ordM ms)[i]? = some x := fun i y hy => by
    obtain ⟨q, x, e, hq, hs⟩ := h.idx i y hy
    exact ⟨q, x, e, by rw [List.getElem?_append_left (List.getElem?_eq_some_iff.1 hq).1]; exact hq, hs⟩
  refine ⟨by rw [insN_len hc2, h.len]; simp, fun i y hy => ?_, ?_⟩
  · unfold insN at hy
    rw [ins_get hc2] at hy
    rw [h.cut] at hy
    rw [ordM_app, insB_eq, ins_get hc]
    by_cases h1 : i < cutN (laterB m.value) (ordM ms)
    · rw [if_pos h1] at hy ⊢; exact up i y hy
    · rw [if_neg h1] at hy ⊢
      by_cases h2 : i = cutN (laterB m.value) (ordM ms)
      · rw [if_pos h2] at hy ⊢
        cases hy
        exact ⟨ms.length, m, rfl, by simp, rfl⟩
      · rw [if_neg h2] at hy ⊢; exact up _ y hy
  · unfold insN
    have hp : (ord.take (cutN (dnB ms m.value) ord) ++ (ms.length : Int) :: ord.drop (cutN (dnB ms m.value) ord)).Perm ((ms.length : Int) :: ord) := by
      refine List.perm_middle.trans ?_
      rw [List.take_append_drop]
    refine hp.nodup_iff.2 (List.nodup_cons.2 ⟨fun hm => ?_, h.dis⟩)
    obtain ⟨i, hi⟩ := List.getElem?_of_mem hm
    obtain ⟨q, x, e, hq, _⟩ := h.idx i _ hi
    have := (List.getElem?_eq_some_iff.1 hq).1
    omega
theorem chkL_ne : ∀ {ms done : List Mv} {p : Nat × Int}, chkL done ms = some p → p.2 ≠ 0
  | [], done, p, h => by cases h
  | x :: ms, done, p, h => by
    simp only [chkL] at h
    split at h
    · cases h; show (17 : Int) ≠ 0; decide
    split at h
    · cases h; assumption
    split at h
    · rename_i h3; cases h; exact h3.2
    · exact chkL_ne h
theorem chkE_none {ms : List Mv} : chkE ms = 0 ↔ chkM ms = none := by
  unfold chkE
  cases h : chkM ms with
  | none => simp
  | some p =>
    have : p.2 ≠ 0 := by
      unfold chkM at h
      split at h
      · cases h; decide
      · exact chkL_ne h
    simp [this]
theorem one_ok {m : Mv} (h : m.one = 0) : m.ok := by
  have hm := MG.of h
  have h1 := hm.q.1; have h2 := hm.q.2; have h3 := hm.k; have h4 := hm.c
  unfold Mv.ok i64
  omega
structure EngI (g : Eg) (p : Int) (KL KP : HP) : Prop where
  len : g.ms.length ≤ 2000
  fine : Fine g.ms
  ix : IdxI g.ms g.ord
  kl : g.kp.length = g.ms.length / 16 + 1
  kp : ∀ (j : Nat) (x : Ks), g.kp[j]? = some x → Before g.k (start0 g.k p) (ordM g.ms) (16 * j) x.s ∧ KsR KL KP x
  cr : KsR KL KP g.last
  st : startE g.k p = 0
  cl : g.cs.length = g.ms.length
  run : ∃ cs0, runL (stepM g.k) (start0 g.k p) (ordM g.ms) = .ok (g.last.s, cs0) ∧ ∀ (i q : Nat), g.ord[i]? = some (q : Int) → g.cs[q]? = cs0[i]?
theorem ordM_pre {ms : List Mv} {m : Mv} {n : Nat} (h : n ≤ cutN (laterB m.value) (ordM ms)) : (ordM (ms ++ [m])).take n = (ordM ms).take n := by
  have hc := cutN_le (p := laterB m.value) (o := ordM ms)
  rw [ordM_app, insB_eq, List.take_append_of_le_length (by rw [List.length_take]; omega), List.take_take, Nat.min_eq_left h]
theorem EngI.runH {g : Eg} {p : Int} {KL KP : HP} {m : Mv} (h : EngI g p KL KP) (hf : chkE (g.ms ++ [m]) = 0) : RunH g (start0 g.k p) (g.ms ++ [m]) (ordM (g.ms ++ [m])) (insN g.ord (cutN (dnB g.ms m.value) g.ord) (g.ms.length : Int)) (cutN (dnB g.ms m.value) g.ord / 16) KL KP := by
  have hi := h.ix.ins m
  have hc := h.ix.cut m.value
  have hcl := cutN_le (p := laterB m.value) (o := ordM g.ms)
  rw [ordM_len] at hcl
  have hno := chkE_none.1 hf
  have hfi := chkM_none.1 hno
  have hl2 := hfi.1
  have hkl := h.kl
  have hlen := h.len
  refine ⟨by rw [hi.len, ordM_len], by rw [ordM_len]; exact hl2, hi.idx, hi.dis, fun y hy => ?_, ?_, by omega, fun j x hj hx => ?_, start0_ok 0⟩
  · obtain ⟨q, hq⟩ := List.getElem?_of_mem ((ordM_perm _).mem_iff.1 hy)
    exact one_ok (hfi.2 q y hq).2.1
  · rw [ordM_len, List.length_append, List.length_singleton]; have := Nat.div_mul_le_self (cutN (dnB g.ms m.value) g.ord) 16; omega
  · obtain ⟨⟨cs, hb⟩, hk⟩ := h.kp j x hx
    exact ⟨⟨cs, by rw [ordM_pre (by omega)]; exact hb⟩, hk⟩
/-! what an insertion comes to -/
abbrev addAt (g : Eg) (m : Mv) : Nat := cutN (dnB g.ms m.value) g.ord
abbrev addOrd (g : Eg) (m : Mv) : List Int := insN g.ord (addAt g m) (g.ms.length : Int)
def addRun (g : Eg) (p : Int) (m : Mv) : Except (Nat × Int) (Sk × List Co) := runL (stepM g.k) (start0 g.k p) (ordM (g.ms ++ [m]))
def addE (g : Eg) (p : Int) (m : Mv) : Int := if chkE (g.ms ++ [m]) ≠ 0 then chkE (g.ms ++ [m]) else match addRun g p m with | .error x => x.2 | .ok _ => 0
def addKv (g : Eg) (p : Int) (m : Mv) : List KV := match addRun g p m with | .error _ => [] | .ok x => kvOf (addOrd g m) x.2 (16 * (addAt g m / 16))
def Co0 : Co := ⟨0, 0, 0, 0⟩
/-- The costs with those of a map written over them. -/
def newCs (kv : List KV) (cs : List Co) (cs1 : List Co) : Prop := cs1.length = cs.length ∧ ∀ q, q < cs.length → cs1[q]? = match kAt (Prod.fst : KV → Int) (q : Int) kv with | some x => some x.2.2 | none => cs[q]?
structure AddO where
  g : Eg
  mo : Option Addr
  mc : Nat
  co : Option Addr
  cc : Nat
  oo : Option Addr
  oc : Nat
  ko : Option Addr
  kc : Nat
  ja : Option Addr
  jc : Nat
  KL : HP
  KP : HP
def addP (g : Eg) (p : Int) (m : Mv) (KL KP : HP) (o : AddO) : Prop := if addE g p m = 0 then EngI o.g p o.KL o.KP ∧ o.g.ms = g.ms ++ [m] ∧ o.g.k = g.k ∧ newCs (addKv g p m) (g.cs ++ [Co0]) o.g.cs else EngI g p o.KL o.KP
def addV (g : Eg) (p : Int) (m : Mv) (o : AddO) : Value := if addE g p m = 0 then .tuple ⟨[.agg ⟨(o.g.cs[g.ms.length]?.getD Co0).c⟩, .slice o.ja (adjL (addKv g p m) g.cs g.cs.length).length o.jc, I 0]⟩ else .tuple ⟨[.agg ⟨Co0.c⟩, .slice none 0 0, I (addE g p m)]⟩
theorem EngI.grow {g : Eg} {p : Int} {KL KP KL' KP' : HP} (h : EngI g p KL KP) (h1 : Grow KL KL') (h2 : Grow KP KP') : EngI g p KL' KP' := ⟨h.len, h.fine, h.ix, h.kl, fun j x hx => ⟨(h.kp j x hx).1, (h.kp j x hx).2.grow h1 h2⟩, h.cr.grow h1 h2, h.st, h.cl, h.run⟩
theorem addE_chk {g : Eg} {p : Int} {m : Mv} (h : chkE (g.ms ++ [m]) ≠ 0) : addE g p m = chkE (g.ms ++ [m]) := if_pos h
theorem addE_run {g : Eg} {p : Int} {m : Mv} {x : Nat × Int} (h : chkE (g.ms ++ [m]) = 0) (hr : addRun g p m = .error x) : addE g p m = x.2 := by unfold addE; rw [if_neg (fun h' => h' h), hr]
theorem addE_ok {g : Eg} {p : Int} {m : Mv} {x : Sk × List Co} (h : chkE (g.ms ++ [m]) = 0) (hr : addRun g p m = .ok x) : addE g p m = 0 := by unfold addE; rw [if_neg (fun h' => h' h), hr]
/-! the round over what came anew -/
def leftC (n : Nat) (seen : Array Nat) : Nat := ((List.range n).filter fun j => !seen.contains j).length
theorem leftC_push {n i : Nat} {seen : Array Nat} (hi : i < n) (h : i ∉ seen) : leftC n (seen.push i) < leftC n seen :=
  filter_lt (fun j => !seen.contains j) (fun j => !(seen.push i).contains j) (fun x hx => by
    rw [contains_push] at hx
    cases hc : seen.contains x with
    | false => rfl
    | true => rw [hc, Bool.true_or] at hx; exact absurd hx (by decide)) i (by simpa using h) (by rw [contains_push, beq_self_eq_true, Bool.or_true]; rfl) (List.range n) (List.mem_range.2 hi)
theorem kAt_at {α κ : Type} [DecidableEq κ] {kf : α → κ} : ∀ {xs : List α} {i : Nat} {y : α}, (xs.map kf).Nodup → xs[i]? = some y → kAt kf (kf y) xs = some (i, y)
  | [], i, y, _, h => by simp at h
  | x :: xs, 0, y, _, h => by simp only [List.getElem?_cons_zero, Option.some.injEq] at h; subst h; simp [kAt]
  | x :: xs, i + 1, y, hn, h => by
    simp only [List.getElem?_cons_succ] at h
    simp only [List.map_cons, List.nodup_cons] at hn
    have hne : ¬ kf x = kf y := fun e => hn.1 (e ▸ List.mem_map_of_mem (List.mem_of_getElem? h))
    simp only [kAt, if_neg hne, kAt_at hn.2 h]
    rfl
structure PartC (kv : List KV) (seen : Array Nat) (cs cs1 : List Co) : Prop where
  len : cs1.length = cs.length
  at_ : ∀ q, q < cs.length → cs1[q]? = match kAt (Prod.fst : KV → Int) (q : Int) kv with | some x => if x.1 ∈ seen then some x.2.2 else cs[q]? | none => cs[q]?
theorem PartC.start {kv : List KV} {cs : List Co} : PartC kv #[] cs cs := ⟨rfl, fun q hq => by split <;> simp⟩
theorem PartC.next {kv : List KV} {seen : Array Nat} {cs cs1 : List Co} {i q : Nat} {c : Co} (h : PartC kv seen cs cs1) (hn : (kv.map Prod.fst).Nodup) (hi : kv[i]? = some ((q : Int), c)) (hq : q < cs.length) : PartC kv (seen.push i) cs (cs1.set q c) := by
  have hk := kAt_at (kf := (Prod.fst : KV → Int)) hn hi
  have hl := h.len
  refine ⟨by rw [List.length_set]; exact hl, fun r hr => ?_⟩
  by_cases e : q = r
  · subst e
    simp only [hk]
    rw [List.getElem?_set_self (by omega)]
    simp
  · rw [List.getElem?_set_ne e, h.at_ r hr]
    cases hr' : kAt (Prod.fst : KV → Int) (r : Int) kv with
    | none => rfl
    | some x =>
      have hs := kAt_some hr'
      have hne : x.1 ≠ i := fun e2 => e (by
        have h1 := hs.1
        rw [e2, hi] at h1
        have h2 := hs.2
        simp only [Option.some.injEq] at h1
        rw [← h1] at h2
        simp only at h2
        omega)
      simp only [Array.mem_push]
      by_cases hm : x.1 ∈ seen
      · simp [hm]
      · simp [hm, hne]
theorem PartC.fin {kv : List KV} {seen : Array Nat} {cs cs1 : List Co} (h : PartC kv seen cs cs1) (ha : ∀ i, i < kv.length → i ∈ seen) : newCs kv cs cs1 := ⟨h.len, fun q hq => by
  rw [h.at_ q hq]
  cases hk : kAt (Prod.fst : KV → Int) (q : Int) kv with
  | none => rfl
  | some x => simp only; rw [if_pos (ha _ (List.getElem?_eq_some_iff.1 (kAt_some hk).1).1)]⟩
theorem IdxI.mem {ms : List Mv} {ord : List Int} (h : IdxI ms ord) : ∀ y ∈ ord, ∃ (i : Nat) (m : Mv), y = (i : Int) ∧ ms[i]? = some m := fun y hy => by
  obtain ⟨i, hi⟩ := List.getElem?_of_mem hy
  obtain ⟨q, m, e, hq, _⟩ := h.idx i y hi
  exact ⟨q, m, e, hq⟩
theorem zst_one : ∀ v ∈ Z7, Value.oneCell' v = true := by simp [Z7, Value.oneCell']
theorem kv_ord {ord : List Int} {cs : List Co} {n i : Nat} {yq : Int} {c : Co} (h : (kvOf ord cs n)[i]? = some (yq, c)) : yq ∈ ord := by
  unfold kvOf at h
  exact (List.of_mem_zip (List.mem_of_mem_drop (List.mem_of_getElem? h))).1
theorem zip_sub {α γ : Type} : ∀ (xs : List α) (ys : List γ), List.Sublist ((xs.zip ys).map Prod.fst) xs
  | [], _ => by simp
  | x :: xs, [] => by simp
  | x :: xs, y :: ys => by simp only [List.zip_cons_cons, List.map_cons]; exact (zip_sub xs ys).cons_cons x
theorem kv_keys {ord : List Int} {cs : List Co} {n : Nat} (hd : ord.Nodup) : ((kvOf ord cs n).map Prod.fst).Nodup := by
  unfold kvOf
  exact (((List.drop_sublist n (ord.zip cs)).map Prod.fst).trans (zip_sub ord cs)).nodup hd
theorem kv_get {ord : List Int} {cs : List Co} {n i : Nat} : (kvOf ord cs n)[i]? = (ord.zip cs)[n + i]? := by unfold kvOf; rw [List.getElem?_drop]
theorem EngI.add {g : Eg} {p : Int} {KL KP KL' KP' : HP} {m : Mv} {t : Sk} {cs0 cs1 : List Co} {x : Ks} {kp' : List Ks} (h : EngI g p KL KP) (hf : chkE (g.ms ++ [m]) = 0) (hr : addRun g p m = .ok (t, cs0)) (ox : x.s = t)
    (hF : RunF g (start0 g.k p) (ordM (g.ms ++ [m])) KL KP KL' KP' x kp') (hN : newCs (kvOf (addOrd g m) cs0 (16 * (addAt g m / 16))) (g.cs ++ [Co0]) cs1) : EngI ⟨g.k, g.ms ++ [m], cs1, addOrd g m, kp', x⟩ p KL' KP' := by
  have hfi := chkM_none.1 (chkE_none.1 hf)
  have hi := h.ix.ins m
  have hc := h.ix.cut m.value
  have hcl := cutN_le (p := laterB m.value) (o := ordM g.ms)
  have hc2 : addAt g m ≤ g.ord.length := cutN_le
  have hol := h.ix.len
  have hgl := h.cl
  have hl0 := runL_len hr
  rw [ordM_len, List.length_append, List.length_singleton] at hl0
  refine ⟨hfi.1, hfi.2, hi, by rw [hF.kl, ordM_len], hF.kp, hF.cr, h.st, by rw [hN.1, List.length_append, List.length_append, hgl]; rfl, cs0, by rw [ox]; exact hr, fun i q hq => ?_⟩
  have hqm : q < g.ms.length + 1 := by
    obtain ⟨r, y, e, hy, _⟩ := hi.idx i _ hq
    have := (List.getElem?_eq_some_iff.1 hy).1
    rw [List.length_append, List.length_singleton] at this; omega
  have hn := hN.2 q (by rw [List.length_append, List.length_singleton]; omega)
  have hil : i < g.ms.length + 1 := by
    have := (List.getElem?_eq_some_iff.1 hq).1
    have h2 : (addOrd g m).length = (g.ms ++ [m]).length := hi.len
    rw [List.length_append, List.length_singleton] at h2
    exact h2 ▸ this
  obtain ⟨c, hcc⟩ : ∃ c, cs0[i]? = some c := ⟨_, List.getElem?_eq_getElem (by omega)⟩
  have hz : (addOrd g m |>.zip cs0)[i]? = some ((q : Int), c) := List.getElem?_zip_eq_some.2 ⟨hq, hcc⟩
  by_cases hi16 : i < 16 * (addAt g m / 16)
  · have hnone : kAt (Prod.fst : KV → Int) (q : Int) (kvOf (addOrd g m) cs0 (16 * (addAt g m / 16))) = none := by
      refine kAt_no fun y hy e => ?_
      obtain ⟨j, hj⟩ := List.getElem?_of_mem hy
      rw [kv_get] at hj
      obtain ⟨a, b⟩ := y
      obtain ⟨h1, _⟩ := List.getElem?_zip_eq_some.1 hj
      simp only at e
      subst e
      have := (List.getElem?_inj (List.getElem?_eq_some_iff.1 hq).1 hi.dis).1 (hq.trans h1.symm)
      omega
    rw [hnone] at hn
    have hia : i < addAt g m := by omega
    have hgo : g.ord[i]? = some (q : Int) := by
      have : (addOrd g m)[i]? = g.ord[i]? := by
        show (insN g.ord (addAt g m) _)[i]? = _
        unfold insN; rw [ins_get hc2, if_pos hia]
      rw [← this]; exact hq
    obtain ⟨cs', hrun, hcs⟩ := h.run
    have hq2 : q < g.ms.length := by
      obtain ⟨r, y, e, hy, _⟩ := h.ix.idx i _ hgo
      have := (List.getElem?_eq_some_iff.1 hy).1
      omega
    show cs1[q]? = cs0[i]?
    rw [hn]
    simp only
    rw [List.getElem?_append_left (by omega), hcs i q hgo]
    have hlo := ordM_len g.ms
    have hln := ordM_len (g.ms ++ [m])
    rw [List.length_append, List.length_singleton] at hln
    obtain ⟨u1, e1⟩ := runL_take_ok hrun (n := addAt g m) (by omega)
    obtain ⟨u2, e2⟩ := runL_take_ok hr (n := addAt g m) (by omega)
    rw [ordM_pre (by rw [← hc]; exact Nat.le_refl _), e1] at e2
    have he : cs'.take (addAt g m) = cs0.take (addAt g m) := by simpa using (congrArg (fun r => match r with | Except.ok x => x.2 | .error _ => []) e2)
    rw [← List.getElem?_take_of_lt hia, he, List.getElem?_take_of_lt hia]
  · have hk : kAt (Prod.fst : KV → Int) (q : Int) (kvOf (addOrd g m) cs0 (16 * (addAt g m / 16))) = some (i - 16 * (addAt g m / 16), ((q : Int), c)) :=
      kAt_at (kf := (Prod.fst : KV → Int)) (y := ((q : Int), c)) (kv_keys hi.dis) (by rw [kv_get, show 16 * (addAt g m / 16) + (i - 16 * (addAt g m / 16)) = i by omega]; exact hz)
    rw [hk] at hn
    show cs1[q]? = cs0[i]?
    rw [hn, hcc]
end Go.SL

namespace Go.SL
open Go
abbrev repM (k p : Int) (ms : List Mv) : Except (Int × Int) (Sk × List Co) := runM k p (ordM ms)
def skOf (k p : Int) (ms : List Mv) : Sk := match repM k p ms with | .ok x => x.1 | .error _ => sk0
def findC (cs : List Co) (s : Int) : Co := (cs.find? fun c => decide (c.seq = s)).getD Co0
def csOf (k p : Int) (ms : List Mv) : List Co := match repM k p ms with | .ok x => (List.range ms.length).map fun (q : Nat) => findC x.2 ((q : Int) + 1) | .error _ => []
theorem find_at {α : Type} {f : α → Bool} : ∀ {xs : List α} {i : Nat} {x : α}, xs[i]? = some x → f x = true → (∀ (j : Nat) (y : α), xs[j]? = some y → f y = true → j = i) → xs.find? f = some x
  | [], i, x, h, _, _ => by simp at h
  | y :: xs, 0, x, h, hf, _ => by
    simp only [List.getElem?_cons_zero, Option.some.injEq] at h; subst h
    simp [hf]
  | y :: xs, i + 1, x, h, hf, hu => by
    have hy : f y = false := by
      cases hy : f y with
      | false => rfl
      | true => have := hu 0 y rfl hy; omega
    simp only [List.getElem?_cons_succ] at h
    simp only [List.find?_cons, hy]
    exact find_at h hf fun j z hz hfz => by have := hu (j + 1) z (by simpa using hz) hfz; omega
theorem skOf_ok {k p : Int} {ms : List Mv} {t : Sk} {cs : List Co} (h : repM k p ms = .ok (t, cs)) : skOf k p ms = t := by unfold skOf; rw [h]
theorem csOf_ok {k p : Int} {ms : List Mv} {t : Sk} {cs : List Co} (h : repM k p ms = .ok (t, cs)) : csOf k p ms = (List.range ms.length).map fun (q : Nat) => findC cs ((q : Int) + 1) := by unfold csOf; rw [h]
theorem Fine.inj {ms : List Mv} (hf : Fine ms) {i j : Nat} {x y : Mv} (hi : ms[i]? = some x) (hj : ms[j]? = some y) (e : x.seq = y.seq) : i = j := by
  have h1 := (hf i x hi).1
  have h2 := (hf j y hj).1
  omega
theorem Fine.nodup {ms : List Mv} (hf : Fine ms) : (ms.map Mv.seq).Nodup := by
  rw [List.nodup_iff_pairwise_ne, List.pairwise_iff_getElem]
  intro i j hi hj hij e
  rw [List.length_map] at hi hj
  rw [List.getElem_map, List.getElem_map] at e
  have := hf.inj (List.getElem?_eq_getElem hi) (List.getElem?_eq_getElem hj) e
  omega
theorem ord_inj {ms : List Mv} (hf : Fine ms) {i j : Nat} {x y : Mv} (hi : (ordM ms)[i]? = some x) (hj : (ordM ms)[j]? = some y) (e : x.seq = y.seq) : i = j := by
  have hn : ((ordM ms).map Mv.seq).Nodup := ((ordM_perm ms).map Mv.seq).nodup_iff.2 hf.nodup
  have h1 : ((ordM ms).map Mv.seq)[i]? = some x.seq := by rw [List.getElem?_map, hi]; rfl
  have h2 : ((ordM ms).map Mv.seq)[j]? = some x.seq := by rw [List.getElem?_map, hj, e]; rfl
  exact (List.getElem?_inj (List.getElem?_eq_some_iff.1 h1).1 hn).1 (h1.trans h2.symm)
theorem ord_at {ms : List Mv} {q : Nat} {m : Mv} (hq : ms[q]? = some m) : ∃ i : Nat, (ordM ms)[i]? = some m := List.getElem?_of_mem ((ordM_perm ms).mem_iff.2 (List.mem_of_getElem? hq))
theorem cs_at {k p : Int} {ms : List Mv} {t : Sk} {cs0 : List Co} (hf : Fine ms) (hr : repM k p ms = .ok (t, cs0)) {q : Nat} {m : Mv} (hq : ms[q]? = some m) :
    ∃ (i : Nat) (c : Co), (ordM ms)[i]? = some m ∧ cs0[i]? = some c ∧ (csOf k p ms)[q]? = some c ∧ findC cs0 ((q : Int) + 1) = c ∧ c.seq = (q : Int) + 1 := by
  obtain ⟨i, hi⟩ := ord_at hq
  have hl := runM_len hr
  have hil := (List.getElem?_eq_some_iff.1 hi).1
  obtain ⟨c, hc⟩ : ∃ c, cs0[i]? = some c := ⟨_, List.getElem?_eq_getElem (by omega)⟩
  have hs := runM_seq hr hi hc
  have hm := (hf q m hq).1
  have hfc : findC cs0 ((q : Int) + 1) = c := by
    unfold findC
    rw [find_at hc (by rw [hs, hm]; simp) fun j y hy hfy => by
      have hjl := (List.getElem?_eq_some_iff.1 hy).1
      obtain ⟨z, hz⟩ : ∃ z, (ordM ms)[j]? = some z := ⟨_, List.getElem?_eq_getElem (by omega)⟩
      have hs2 := runM_seq hr hz hy
      exact ord_inj hf hz hi (by rw [← hs2, of_decide_eq_true hfy, hm])]
    rfl
  refine ⟨i, c, hi, hc, ?_, hfc, by rw [hs, hm]⟩
  rw [csOf_ok hr, List.getElem?_map, List.getElem?_range (List.getElem?_eq_some_iff.1 hq).1]
  simp only [Option.map_some, hfc]
theorem csOf_len {k p : Int} {ms : List Mv} {x : Sk × List Co} (hr : repM k p ms = .ok x) : (csOf k p ms).length = ms.length := by
  obtain ⟨t, cs⟩ := x
  rw [csOf_ok hr]; simp
theorem EngI.rep {g : Eg} {p : Int} {KL KP : HP} (h : EngI g p KL KP) : ∃ cs0, repM g.k p g.ms = .ok (g.last.s, cs0) ∧ ∀ (i q : Nat), g.ord[i]? = some (q : Int) → g.cs[q]? = cs0[i]? := by
  obtain ⟨cs0, hr, hc⟩ := h.run
  exact ⟨cs0, runM_iff.2 ⟨h.st, hr⟩, hc⟩
theorem EngI.sk_eq {g : Eg} {p : Int} {KL KP : HP} (h : EngI g p KL KP) : g.last.s = skOf g.k p g.ms := by
  obtain ⟨cs0, hr, _⟩ := h.rep
  rw [skOf_ok hr]
theorem EngI.cs_eq {g : Eg} {p : Int} {KL KP : HP} (h : EngI g p KL KP) : g.cs = csOf g.k p g.ms := by
  obtain ⟨cs0, hr, hc⟩ := h.rep
  have hl := csOf_len hr
  apply List.ext_getElem?
  intro q
  by_cases hq : q < g.ms.length
  · obtain ⟨i, c, h1, h2, h3, _⟩ := cs_at h.fine hr (List.getElem?_eq_getElem hq)
    rw [h3]
    have hil := (List.getElem?_eq_some_iff.1 h1).1
    rw [ordM_len] at hil
    obtain ⟨y, hy⟩ : ∃ y, g.ord[i]? = some y := ⟨_, List.getElem?_eq_getElem (by rw [h.ix.len]; exact hil)⟩
    obtain ⟨r, m, rfl, hm, ho⟩ := h.ix.idx i y hy
    rw [h1] at ho
    cases ho
    obtain rfl : r = q := h.fine.inj hm (List.getElem?_eq_getElem hq) rfl
    rw [hc i r hy, h2]
  · rw [List.getElem?_eq_none (by rw [h.cl]; omega), List.getElem?_eq_none (by omega)]
theorem EngI.nil {k p : Int} (h : startE k p = 0) : EngI (eg0 k p) p emp emp := by
  refine ⟨Nat.zero_le _, (fun i m hm => by simp [eg0] at hm), IdxI.nil, by simp [eg0], fun j x hx => ?_, ⟨?_, ?_⟩, h, rfl, [], rfl, fun i q hq => by simp [eg0] at hq⟩
  · unfold eg0 at hx
    cases j with
    | succ j => simp at hx
    | zero =>
      simp only [List.getElem?_cons_zero, Option.some.injEq] at hx
      subst hx
      exact ⟨⟨[], rfl⟩, by unfold KsR; simp only [start0_l, start0_p]; exact ⟨RdS.nil, RdS.nil⟩⟩
  · simp only [eg0, start0_l]; exact RdS.nil
  · simp only [eg0, start0_p]; exact RdS.nil
/-! the adjustments -/
def difOne (now was : Co) : List Aj := if now.value ≠ was.value ∨ now.var ≠ was.var then [⟨was.seq, IntKind.i64.wrap (now.value - was.value), IntKind.i64.wrap (now.var - was.var)⟩] else []
def difL (cs cs1 : List Co) : List Aj := ((cs.zip cs1).map fun x => difOne x.2 x.1).flatten
theorem adj_dif {kv : List KV} {cs cs1 : List Co} (h : newCs kv (cs ++ [Co0]) cs1) : adjL kv cs cs.length = difL cs cs1 := by
  have hl := h.1
  rw [List.length_append, List.length_singleton] at hl
  unfold adjL difL
  rw [List.take_length]
  congr 1
  apply List.ext_getElem?
  intro i
  rw [List.getElem?_map, List.getElem?_map, List.getElem?_zipIdx]
  by_cases hi : i < cs.length
  · obtain ⟨c, hc⟩ : ∃ c, cs[i]? = some c := ⟨_, List.getElem?_eq_getElem hi⟩
    obtain ⟨d, hd⟩ : ∃ d, cs1[i]? = some d := ⟨_, List.getElem?_eq_getElem (by omega)⟩
    rw [zip_get2 hc hd, hc]
    simp only [Option.map_some, Option.some.injEq, Nat.zero_add]
    have h2 := h.2 i (by rw [List.length_append]; omega)
    rw [hd, List.getElem?_append_left hi, hc] at h2
    unfold adjOne nowOf
    cases hk : kAt (Prod.fst : KV → Int) (i : Int) kv with
    | none =>
      rw [hk] at h2
      simp only [Option.some.injEq] at h2
      subst h2
      unfold difOne; simp
    | some q =>
      rw [hk] at h2
      simp only [Option.some.injEq] at h2
      subst h2
      rfl
  · have h1 : cs[i]? = none := List.getElem?_eq_none (by omega)
    have h3 : (cs.zip cs1)[i]? = none := List.getElem?_eq_none (by rw [List.length_zip]; omega)
    rw [h1, h3]; rfl
/-! what a movement that comes does -/
def addErr (k p : Int) (ms : List Mv) (m : Mv) : Int := if chkE (ms ++ [m]) ≠ 0 then chkE (ms ++ [m]) else match repM k p (ms ++ [m]) with | .error x => x.2 | .ok _ => 0
def addMs (k p : Int) (ms : List Mv) (m : Mv) : List Mv := if addErr k p ms m = 0 then ms ++ [m] else ms
def addC (k p : Int) (ms : List Mv) (m : Mv) : Co := if addErr k p ms m = 0 then (csOf k p (ms ++ [m]))[ms.length]?.getD Co0 else Co0
def addD (k p : Int) (ms : List Mv) (m : Mv) : List Aj := if addErr k p ms m = 0 then difL (csOf k p ms) (csOf k p (ms ++ [m])) else []
theorem addE_eq {g : Eg} {p : Int} {m : Mv} (h : startE g.k p = 0) : addE g p m = addErr g.k p g.ms m := by
  unfold addE addErr addRun
  split
  · rfl
  · cases hr : runL (stepM g.k) (start0 g.k p) (ordM (g.ms ++ [m])) with
    | error x => obtain ⟨i, e⟩ := x; rw [show repM g.k p (g.ms ++ [m]) = .error ((i : Int), e) from runM_er h hr]
    | ok x => rw [show repM g.k p (g.ms ++ [m]) = .ok x from runM_ok h hr]
/-- What lies in an engine. -/
structure Good (k p : Int) (ms : List Mv) : Prop where
  st : startE k p = 0
  n : ms.length ≤ 2000
  fine : Fine ms
  rep : ∃ t cs, repM k p ms = .ok (t, cs)
theorem EngI.good {g : Eg} {p : Int} {KL KP : HP} (h : EngI g p KL KP) : Good g.k p g.ms := by
  obtain ⟨cs0, hr, _⟩ := h.rep
  exact ⟨h.st, h.len, h.fine, _, _, hr⟩
theorem Good.nil {k p : Int} (h : startE k p = 0) : Good k p [] := ⟨h, by decide, fun i m hm => by simp at hm, start0 k p, [], runM_ok h rfl⟩
theorem addErr_ok {k p : Int} {ms : List Mv} {m : Mv} (h : addErr k p ms m = 0) : chkE (ms ++ [m]) = 0 ∧ ∃ x, repM k p (ms ++ [m]) = .ok x := by
  unfold addErr at h
  split at h
  · rename_i h1; exact absurd h h1
  · rename_i h1
    refine ⟨Decidable.not_not.1 h1, ?_⟩
    cases hr : repM k p (ms ++ [m]) with
    | error x => obtain ⟨i, e⟩ := x; rw [hr] at h; exact absurd h (runM_err hr)
    | ok x => exact ⟨x, rfl⟩
theorem Good.add {k p : Int} {ms : List Mv} {m : Mv} (hg : Good k p ms) (h : addErr k p ms m = 0) : Good k p (ms ++ [m]) := by
  obtain ⟨h1, ⟨t, cs⟩, h2⟩ := addErr_ok h
  have h3 := chkM_none.1 (chkE_none.1 h1)
  exact ⟨hg.st, h3.1, h3.2, t, cs, h2⟩
theorem Good.addMs {k p : Int} {ms : List Mv} (m : Mv) (hg : Good k p ms) : Good k p (addMs k p ms m) := by
  unfold SL.addMs
  split
  · exact hg.add (by assumption)
  · exact hg
def fillM (k p : Int) (l : List Mv) : List Mv := l.foldl (fun ms m => addMs k p ms { m with seq := (ms.length : Int) + 1 }) []
theorem fillM_0 {k p : Int} {ms : List Mv} : fillM k p (ms.take 0) = [] := rfl
theorem fillM_succ {k p : Int} {l : List Mv} {i : Nat} {m : Mv} (h : l[i]? = some m) : fillM k p (l.take (i + 1)) = addMs k p (fillM k p (l.take i)) { m with seq := ((fillM k p (l.take i)).length : Int) + 1 } := by
  rw [take_one h]; unfold fillM; rw [List.foldl_append]; rfl
theorem fill_good {k p : Int} (h : startE k p = 0) (l : List Mv) : Good k p (fillM k p l) := by
  suffices H : ∀ (l ms : List Mv), Good k p ms → Good k p (l.foldl (fun ms m => addMs k p ms { m with seq := (ms.length : Int) + 1 }) ms) from H l [] (Good.nil h)
  intro l
  induction l with
  | nil => intro ms h; exact h
  | cons m l ih => intro ms h; exact ih _ (h.addMs _)
theorem addMs_len {k p : Int} {ms : List Mv} {m : Mv} : (addMs k p ms m).length ≤ ms.length + 1 := by
  unfold addMs; split <;> simp
theorem fill_len {k p : Int} : ∀ {l : List Mv}, (fillM k p l).length ≤ l.length := by
  suffices H : ∀ (l ms : List Mv), (l.foldl (fun ms m => addMs k p ms { m with seq := (ms.length : Int) + 1 }) ms).length ≤ ms.length + l.length by
    intro l; have := H l []; simpa [fillM] using this
  intro l
  induction l with
  | nil => intro ms; simp
  | cons m l ih =>
    intro ms
    have h1 := ih (addMs k p ms { m with seq := (ms.length : Int) + 1 })
    have h2 := addMs_len (k := k) (p := p) (ms := ms) (m := { m with seq := (ms.length : Int) + 1 })
    simp only [List.foldl_cons, List.length_cons]; omega
theorem addC_seq {k p : Int} {ms : List Mv} {m : Mv} (h : addErr k p ms m = 0) : (addC k p ms m).seq = m.seq := by
  obtain ⟨h1, ⟨t, cs⟩, h2⟩ := addErr_ok h
  have h3 := chkM_none.1 (chkE_none.1 h1)
  have hq : (ms ++ [m])[ms.length]? = some m := by simp
  obtain ⟨i, c, _, _, hc, _, hs⟩ := cs_at h3.2 h2 hq
  unfold addC; rw [if_pos h, hc]
  simp only [Option.getD_some]
  rw [hs, (h3.2 _ _ hq).1]
end Go.SL

namespace Go.SL
open Go
section
variable {P : Program} {f : FuncId} {args : Array Value} {α γ : Type} {φ : α → Prop} {Bs : α → List HP} {Rs : List HP} {Q : Value → HP}
def boxed (φ : α → Prop) (Bs : α → List HP) : HP := hex fun x => lift (φ x) (stars (Bs x))
theorem AC.open (h : ∀ x, φ x → AC P f args (stars (Bs x ++ Rs)) Q) : AC P f args (stars (boxed φ Bs :: Rs)) Q := fun w hp hA hs => by
  obtain ⟨h1, h2, hd, rfl, ⟨x, hx, hb⟩, hr⟩ := hA
  exact h x hx w _ (stars_append ⟨h1, h2, hd, rfl, hb, hr⟩) hs
theorem boxed.mk {x : α} (hx : φ x) {h : Hp} (hs : stars (Bs x ++ Rs) h) : stars (boxed φ Bs :: Rs) h :=
  star_mono (fun _ hb => ⟨x, hx, hb⟩) (fun _ => id) (stars_un hs)
theorem stars_cons {A : HP} {L M : List HP} (h : ∀ h, stars L h → stars M h) : ∀ h, stars (A :: L) h → stars (A :: M) h := fun _ hs => star_mono (fun _ => id) h hs
/-- What a world satisfies, told in another way. -/
def Imp (L M : List HP) : Prop := ∀ (β : Base) (w : World), Sat β L w → Sat β M w
theorem Imp.gv {L M : List HP} (g : Gives L M) : Imp L M := fun β w hs => hs.gives g
theorem Imp.trans {L M N : List HP} (h : Imp L M) (k : Imp M N) : Imp L N := fun β w hs => k β w (h β w hs)
theorem Imp.bx {x : α} {L M : List HP} (hx : φ x) (g : Gives L (Bs x ++ Rs)) (g2 : Gives (boxed φ Bs :: Rs) M) : Imp L M := fun β w hs =>
  Sat.gives g2 (Has.mono (hs.gives g) fun _ h => boxed.mk hx h)
theorem Imp.ownNil {L : List HP} (T : TypeId) (k : Nat) : Imp L (own T k none 0 0 [] :: L) := fun β w hs => Has.ownNil hs
theorem Imp.emp {L : List HP} : Imp L (SL.emp :: L) := fun β w hs => Has.mono hs fun h hh => ⟨fun _ => none, h, fun b => .inl rfl, by funext b; simp [Hp.add], fun _ => rfl, hh⟩
theorem Has.self {A : HP} {w : World} {hp : Hp} (hA : A hp) (hs : hp.sub w) : Has ⟨w, hp⟩ A w := ⟨⟨hp, hA, hs, fun b hb => .inl hb⟩, ⟨fun _ _ _ => rfl, Nat.le_refl _, rfl, rfl, rfl⟩⟩
/-- A contract over what is known of a boxed part, as one over the boxed part. -/
theorem AC.wrapR {v : Value} {Cs : List HP} (h : ∀ x, φ x → ∃ (As F : List HP) (v0 : Value) (B0 : List HP), Takes (Bs x ++ Rs) As F ∧ AC P f args (stars As) (Ret v0 B0) ∧ v0 = v ∧ Imp (B0 ++ F) Cs) : AC P f args (stars (boxed φ Bs :: Rs)) (Ret v Cs) := fun w hp hA hs => by
  obtain ⟨h1, h2, hd, rfl, ⟨x, hx, hb⟩, hr⟩ := hA
  have hS : Sat ⟨w, _⟩ (Bs x ++ Rs) w := Has.self (stars_append ⟨h1, h2, hd, rfl, hb, hr⟩) hs
  obtain ⟨As, F, v0, B0, tk, hc, rfl, hi⟩ := h x hx
  refine (hc.frame (Has.mono hS fun _ => tk.star)).mono ?_
  rintro e w' ⟨r, rfl, ⟨hq, ⟨q1, q2, qd, rfl, ⟨hr, hB⟩, hF⟩, hsub, hown⟩, hrest⟩
  have hs2 : Sat _ (B0 ++ F) w' := ⟨⟨_, stars_mk ⟨q1, q2, qd, rfl, hB, hF⟩, hsub, hown⟩, hrest⟩
  exact ⟨r, rfl, (hi _ _ hs2).mono fun _ h => ⟨hr, h⟩⟩
theorem AC.wrapO {ψ : γ → Prop} {R' : γ → Value} {Cs : γ → List HP} (h : ∀ x, φ x → ∃ (As F : List HP) (δ : Type) (ψ0 : δ → Prop) (R0 : δ → Value) (B0 : δ → List HP), Takes (Bs x ++ Rs) As F ∧ AC P f args (stars As) (Outs ψ0 R0 B0) ∧ ∀ y, ψ0 y → ∃ z, ψ z ∧ R0 y = R' z ∧ Imp (B0 y ++ F) (Cs z)) :
    AC P f args (stars (boxed φ Bs :: Rs)) (Outs ψ R' Cs) := fun w hp hA hs => by
  obtain ⟨h1, h2, hd, rfl, ⟨x, hx, hb⟩, hr⟩ := hA
  have hS : Sat ⟨w, _⟩ (Bs x ++ Rs) w := Has.self (stars_append ⟨h1, h2, hd, rfl, hb, hr⟩) hs
  obtain ⟨As, F, δ, ψ0, R0, B0, tk, hc, hk⟩ := h x hx
  refine (hc.frame (Has.mono hS fun _ => tk.star)).mono ?_
  rintro e w' ⟨r, rfl, ⟨hq, ⟨q1, q2, qd, rfl, ⟨y, ⟨hy, hr⟩, hB⟩, hF⟩, hsub, hown⟩, hrest⟩
  obtain ⟨z, hz, e2, hi⟩ := hk y hy
  have hs2 : Sat _ (B0 y ++ F) w' := ⟨⟨_, stars_mk ⟨q1, q2, qd, rfl, hB, hF⟩, hsub, hown⟩, hrest⟩
  exact ⟨r, rfl, (hi _ _ hs2).mono fun _ h => ⟨z, ⟨hz, hr.trans e2⟩, h⟩⟩
/-- What is not needed and holds of nothing is added; what is not named is dropped. -/
theorem AC.give {Es Ds Cs : List HP} {v : Value} (hc : AC P f args (stars Es) (Ret v Ds)) (he : stars Es (fun _ => none) := by repeat (first | exact (fun _ => rfl) | refine ⟨fun _ => none, fun _ => none, fun _ => .inl rfl, rfl, fun _ => rfl, ?_⟩)) (g : Gives Ds Cs := by exact gv) : AC P f args (stars []) (Ret v Cs) := fun w hp hA hs => by
  have h0 : hp = fun _ => none := funext hA
  subst h0
  refine (hc w _ he hs).mono ?_
  rintro e w' ⟨r, rfl, ⟨hq, ⟨hr, hB⟩, hsub, hown⟩, hrest⟩
  have hS : Sat ⟨w, fun _ => none⟩ Ds w' := ⟨⟨_, hB, hsub, hown⟩, hrest⟩
  exact ⟨r, rfl, (hS.gives g).mono fun _ h => ⟨hr, h⟩⟩
/-- A contract, told in another way. -/
theorem AC.outs {As : List HP} {ψ0 : α → Prop} {R0 : α → Value} {B0 : α → List HP} {ψ : γ → Prop} {R' : γ → Value} {Cs : γ → List HP} (hc : AC P f args (stars As) (Outs ψ0 R0 B0)) (hk : ∀ y, ψ0 y → ∃ z, ψ z ∧ R0 y = R' z ∧ Imp (B0 y) (Cs z)) : AC P f args (stars As) (Outs ψ R' Cs) := fun w hp hA hs => by
  refine (hc w hp hA hs).mono ?_
  rintro e w' ⟨r, rfl, ⟨hq, ⟨y, ⟨hy, hr⟩, hB⟩, hsub, hown⟩, hrest⟩
  obtain ⟨z, hz, e2, hi⟩ := hk y hy
  exact ⟨r, rfl, (hi _ _ ⟨⟨_, hB, hsub, hown⟩, hrest⟩).mono fun _ h => ⟨z, ⟨hz, hr.trans e2⟩, h⟩⟩
end
end Go.SL

namespace Go.SL
open Go
def heavyM (m : Mv) : Bool := decide (100 < (m.item.size : Int) ∨ 100 < (m.lot.size : Int))
def lightMs (ms : List Mv) : Bool := !(decide (50 < (ms.length : Int)) || ms.any heavyM)
theorem light_1 {ms : List Mv} (h : 50 < (ms.length : Int)) : lightMs ms = false := by unfold lightMs; rw [decide_eq_true h]; rfl
theorem light_2 {ms : List Mv} {i : Nat} {m : Mv} (hx : ms[i]? = some m) (h : 100 < (m.item.size : Int) ∨ 100 < (m.lot.size : Int)) : lightMs ms = false := by
  have : ms.any heavyM = true := List.any_eq_true.2 ⟨m, List.mem_of_getElem? hx, decide_eq_true h⟩
  unfold lightMs; rw [this, Bool.or_true]; rfl
theorem light_3 {ms : List Mv} {i : Nat} (h : ¬ 50 < (ms.length : Int)) (hi : i = ms.length) (hI : ∀ (j : Nat) (y : Mv), j < i → ms[j]? = some y → heavyM y = false) : lightMs ms = true := by
  have : ms.any heavyM = false := List.any_eq_false.2 fun y hy => by
    obtain ⟨j, hj⟩ := List.getElem?_of_mem hy
    simp [hI j y (by rw [hi]; exact (List.getElem?_eq_some_iff.1 hj).1) hj]
  unfold lightMs; rw [decide_eq_false h, this]; rfl
theorem light_len {ms : List Mv} (h : lightMs ms = true) : ms.length ≤ 50 := by
  unfold lightMs at h
  simp only [Bool.not_eq_true', Bool.or_eq_false_iff] at h
  have := of_decide_eq_false h.1; omega
theorem heavy_no {m : Mv} (h1 : ¬ 100 < (m.item.size : Int)) (h2 : ¬ 100 < (m.lot.size : Int)) : heavyM m = false := decide_eq_false (not_or.2 ⟨h1, h2⟩)
theorem notYetM {q : Mv → Bool} {ms : List Mv} {i : Nat} {m : Mv} (hx : ms[i]? = some m) (h : q m = false) (hI : ∀ (j : Nat) (y : Mv), j < i → ms[j]? = some y → q y = false) : ∀ (j : Nat) (y : Mv), j < i + 1 → ms[j]? = some y → q y = false := fun j y hj hy => by
  rcases Nat.lt_succ_iff_lt_or_eq.1 hj with h' | rfl
  · exact hI j y h' hy
  · rw [hx] at hy; cases hy; exact h
/-- Receipts and issues on different days. -/
def AloneTo (ms : List Mv) (i : Nat) : Prop := ∀ (a : Nat) (x : Mv), a < i → ms[a]? = some x → x.kind ≤ 2 ∧ ∀ (b : Nat) (y : Mv), b < a → ms[b]? = some y → y.value ≠ x.value
def Alone (ms : List Mv) : Prop := AloneTo ms ms.length
theorem AloneTo.next {ms : List Mv} {i : Nat} {m : Mv} (h : AloneTo ms i) (hx : ms[i]? = some m) (hk : m.kind ≤ 2) (hv : ∀ (b : Nat) (y : Mv), b < i → ms[b]? = some y → y.value ≠ m.value) : AloneTo ms (i + 1) := fun a x ha hxa => by
  rcases Nat.lt_succ_iff_lt_or_eq.1 ha with h' | rfl
  · exact h a x h' hxa
  · rw [hx] at hxa; cases hxa; exact ⟨hk, hv⟩
theorem val_next {ms : List Mv} {k : Nat} {y : Mv} {v : Int} (hy : ms[k]? = some y) (h : y.value ≠ v) (hI : ∀ (b : Nat) (y : Mv), b < k → ms[b]? = some y → y.value ≠ v) : ∀ (b : Nat) (y : Mv), b < k + 1 → ms[b]? = some y → y.value ≠ v := fun b z hb hz => by
  rcases Nat.lt_succ_iff_lt_or_eq.1 hb with h' | rfl
  · exact hI b z h' hz
  · rw [hy] at hz; cases hz; exact h
/-- The order of values, and of numbers among the same. -/
def ordP (m y : Mv) : Bool := decide (m.value < y.value ∨ m.value = y.value ∧ m.seq < y.seq)
theorem ordP_later {m y : Mv} (h : y.seq < m.seq) : ordP m y = laterB m.value y := by
  unfold ordP laterB
  by_cases h1 : m.value < y.value
  · rw [decide_eq_true h1, decide_eq_true (.inl h1)]
  · rw [decide_eq_false h1, decide_eq_false (by omega)]
theorem Fine.lt {ms : List Mv} {i : Nat} {m : Mv} (hf : Fine ms) (hx : ms[i]? = some m) : ∀ y ∈ ordM (ms.take i), y.seq < m.seq := fun y hy => by
  obtain ⟨j, hj⟩ := List.getElem?_of_mem ((ordM_perm _).mem_iff.1 hy)
  have hji : j < i := by have := (List.getElem?_eq_some_iff.1 hj).1; rw [List.length_take] at this; omega
  rw [List.getElem?_take_of_lt hji] at hj
  have h1 := (hf j y hj).1; have h2 := (hf i m hx).1; omega
theorem ordM_succ {ms : List Mv} {i : Nat} {m : Mv} (hx : ms[i]? = some m) : ordM (ms.take (i + 1)) = insB (laterB m.value) m (ordM (ms.take i)) := by rw [take_one hx, ordM_app]
theorem insB_len {α : Type} {p : α → Bool} {x : α} {o : List α} : (insB p x o).length = o.length + 1 := by rw [(insB_perm p x o).length_eq]; rfl
def mvX (a b c d e : Int) : Mv := ⟨a, b, ⟨#[120]⟩, c, d, e, ⟨#[]⟩, 0⟩
end Go.SL

namespace Go.SL
open Go
section
variable {P : Program} {β : Base} {E : Env} {L L' M M' : List HP} {K : Value → List HP → Prop} {d : Option Tmp} {ty : TypeId} {pos : String} {af : Array Edge} {g : Option (Nat × Bool)} {x y : Operand} {t t' : TypeId} {e : TypeId} {k i : Nat} {α : Type} {enc : α → List Value}
def cutA (k : Nat) (oa : Option Addr) (c i : Nat) : Option Addr := oa.map fun a => if c = i then a else a.add (i * k)
theorem DetJ.sliceLoA {oa : Option Addr} {l c : Nat} {oh : Operand} (S : SI P t e k) (hx : E.ev x = some (.slice oa l c)) (hh : E.ev oh = some (.int .i64 (i : Int))) (hi : i ≤ l) :
    DetJ P β E L ⟨d, .slice t x (some oh) none none, ty, pos, af, g⟩ (.slice (cutA k oa c i) (l - i) (c - i)) :=
  fun a w ha _ => by
    simp only [execOp, Option.map_none, Option.map_some, ha.ev hx, ha.ev hh, Instr.sliceAt, Instr.slice]
    simp [run_underlying S.under, Instr.sliceBounds, Instr.sliceBound, asIntOf, hi, S.run_size, cutA]
    cases oa with
    | none => simp
    | some a => simp; split <;> rfl
theorem RdS.cut {R : HP} {oa : Option Addr} {c : Nat} {xs : List α} (hr : RdS R oa (xs.flatMap enc)) (hk : ∀ x, (enc x).length = k) (i : Nat) (hi : xs.length ≤ c) : RdS R (cutA k oa c i) ((xs.drop i).flatMap enc) := fun h hh => by
  by_cases hic : c = i
  · left; rw [List.drop_of_length_le (by omega)]; rfl
  · rcases hr h hh with h0 | ⟨b', o, rfl, cs, t, fr, hb, hc⟩
    · left; rw [flat_drop hk, h0]; simp
    · right
      refine ⟨b', o + i * k, ?_, cs, t, fr, hb, fun j v hj => ?_⟩
      · simp only [cutA, Option.map_some, if_neg hic, Addr.add_eq]
      · rw [flat_drop hk, List.getElem?_drop] at hj
        rw [Nat.add_assoc]; exact hc _ _ hj
/-- 'append(s[:n:n], ts...)': s is read alone. -/
theorem OpJ.appendFull {bytes n m c : Nat} {zs cs news : List Value} {oa : Option Addr} {ad : Addr} {R R2 : HP} (S : SI P t e k) (I : MI P e k bytes zs) (hx : E.ev x = some (.slice oa n n)) (hy : E.ev y = some (.slice (some ad) m c))
    (p : Pick L R M) (hR : RdS R oa cs) (hcl : cs.length = n * k) (h0 : 0 < k) (p2 : Pick L R2 M') (hr : Rd R2 ad news) (hl : news.length = m * k) (hb : (n + m) * bytes ≤ 140737488355328) (h63 : n + m ≤ 9223372036854775807) (hm : 0 < m)
    (h : ∀ oa' cap', K (.slice oa' (n + m) cap') (own e k oa' (n + m) cap' (cs ++ news) :: L)) : OpJ P β E L ⟨d, .call ⟨.builtin .append, #[x, y], #[t, t]⟩, ty, pos, af, g⟩ K := OpJ.vals fun a w ha hs => by
  obtain ⟨i, z, hi, rfl, rfl, hz, rfl, hzl⟩ := I.info
  have hnews := hs.rd p2 hr
  have hexec : ∀ v w', (Builtin.append_ #[t, t] ty #[.slice oa n n, .slice (some ad) m c]).run P w = .ok v w' → (execOp a.eval ⟨d, .call ⟨.builtin .append, #[x, y], #[t, t]⟩, ty, pos, af, g⟩).run P w = .ok (.value v) w' := fun v w' hr => by
    simp [execOp, resolve, invoke, builtin, ha.ev hx, ha.ev hy, hr]
  have fresh : ∀ (old : Nat), old < n + m → ∃ w', w' = w.drew.alloc (.cells (cs.toArray ++ news.toArray ++ Builtin.zeroCells z.cells (grownCap w (n + m) old e - (n + m))) e) ∧
      Sat β (own e i.size (some ⟨w.heap.size, 0, none⟩) (n + m) (grownCap w (n + m) old e) (cs ++ news) :: L) w' := fun old ho => by
    refine ⟨_, rfl, ?_⟩
    have hge := grownCap_ge w (n + m) old e
    have h1 := Has.alloc (Has.drew hs) (.cells (cs.toArray ++ news.toArray ++ Builtin.zeroCells z.cells (grownCap w (n + m) old e - (n + m))) e)
    refine h1.mono fun hp => star_mono (fun hp1 hpt => ?_) fun _ => id
    have hzs : z.cells.size = i.size := by rw [← hzl]; simp
    have hla : (cs ++ news).length = (n + m) * i.size := by rw [List.length_append, hcl, hl, Nat.add_mul]
    refine ⟨hla, hge, .inr ⟨w.heap.size, (Builtin.zeroCells z.cells (grownCap w (n + m) old e - (n + m))).toList, rfl, ?_, ?_⟩⟩
    · rw [hla, Array.length_toList, size_zeroCells, hzs, ← Nat.add_mul]
      exact Nat.mul_le_mul_right _ (by omega)
    · have he : (cs.toArray ++ news.toArray ++ Builtin.zeroCells z.cells (grownCap w (n + m) old e - (n + m))) = (⟨cs ++ news ++ (Builtin.zeroCells z.cells (grownCap w (n + m) old e - (n + m))).toList⟩ : Array Value) := by
        apply Array.ext'; simp
      rw [he] at hpt
      exact hpt
  obtain ⟨w', rfl, hs'⟩ := fresh n (by omega)
  by_cases hn : n = 0
  · subst hn
    obtain rfl : cs = [] := List.eq_nil_of_length_eq_zero (by simpa using hcl)
    cases oa with
    | none =>
      have hrun := run_append_nil (P := P) w t ty e i z S.under hi hz ad m c news hl hnews hm (by omega) (by rw [Nat.zero_add] at hb; omega)
      simp only [Nat.zero_add, List.nil_append, Array.empty_append] at hs' hrun h ⊢
      exact ⟨_, _, _, hexec _ _ hrun, hs', h _ _⟩
    | some a0 =>
      have hrun := run_append_grow (P := P) w t ty e i z S.under hi hz a0 0 0 [] (by simp) (fun j u hj => by simp at hj) ad m c news hl hnews (by omega) (by omega) (growslice_fits (by omega) hb)
      exact ⟨_, _, _, hexec _ _ hrun, hs', h _ _⟩
  · have hne : cs ≠ [] := fun e => by
      subst e
      have : 0 < n * i.size := Nat.mul_pos (by omega) h0
      simp at hcl; omega
    obtain ⟨b, o, rfl⟩ : ∃ b o, oa = some ⟨b, o, none⟩ := by
      obtain ⟨⟨hp, hlp, _⟩, _⟩ := hs
      obtain ⟨h1', h2', _, rfl, hA, _⟩ := p.star hlp
      exact hR.addr hne hA
    have holds := hs.rd p (hR.rd hne)
    have hrun := run_append_grow (P := P) w t ty e i z S.under hi hz ⟨b, o, none⟩ n n cs hcl holds ad m c news hl hnews (by omega) (by omega) (growslice_fits (by omega) hb)
    exact ⟨_, _, _, hexec _ _ hrun, hs', h _ _⟩
/-- 'append(xs[:n:n], u)'. -/
theorem OpJ.appendFull1 {bytes n b' : Nat} {zs : List Value} {oa : Option Addr} {bt : TypeId} {cs : List Value} {R : HP} (xs : List α) (u : α) (S : SI P t e k) (I : MI P e k bytes zs) (hx : E.ev x = some (.slice oa n n)) (hy : E.ev y = some (.slice (some ⟨b', 0, none⟩) 1 1))
    (p : Pick L R M) (hR : RdS R oa (xs.flatMap enc)) (hk : ∀ x, (enc x).length = k) (h0 : 0 < k) (p2 : Pick L (pt b' (blk cs bt)) M') (hcs : cs = enc u) (hn : n = xs.length) (hb : (xs.length + 1) * bytes ≤ 140737488355328) (h63 : xs.length + 1 ≤ 9223372036854775807)
    (h : ∀ oa' cap', K (.slice oa' (xs ++ [u]).length cap') (own e k oa' (xs ++ [u]).length cap' ((xs ++ [u]).flatMap enc) :: L)) : OpJ P β E L ⟨d, .call ⟨.builtin .append, #[x, y], #[t, t]⟩, ty, pos, af, g⟩ K := by
  subst hcs
  subst hn
  have hl : (xs ++ [u]).length = xs.length + 1 := by simp
  have hf := flat_append1 (enc := enc) xs u
  refine OpJ.appendFull S I hx hy p hR (flat_len hk xs) h0 p2 Rd.whole (by rw [hk]; omega) hb h63 (by omega) fun oa' cap' => ?_
  rw [← hl, ← hf]; exact h oa' cap'
theorem RdS.lo {R : HP} {oa : Option Addr} {xs : List α} (hr : RdS R oa (xs.flatMap enc)) (hk : ∀ x, (enc x).length = k) (i : Nat) : RdS R oa ((xs.take i).flatMap enc) := fun h hh => by
  rcases hr h hh with h0 | ⟨b, o, e, c, t, fr, hb, hc⟩
  · left; rw [flat_take hk, h0]; simp
  · right; refine ⟨b, o, e, c, t, fr, hb, fun j v hj => hc j v ?_⟩
    rw [flat_take hk, List.getElem?_take] at hj
    split at hj
    · exact hj
    · cases hj
end
end Go.SL
namespace Go.SL
open Go
theorem RunL.ownCap {P : Program} {β : Base} {n : Nat} {arr : Array Oper} {os : List Oper} {E : Env} {L M : List HP} {K : Env → List HP → Prop} {T : TypeId} {k m cap : Nat} {oa : Option Addr} {cs : List Value} (p : Pick L (own T k oa m cap cs) M) (h : m ≤ cap → RunL P β n arr os E L K) : RunL P β n arr os E L K := fun a w ha hs Q hQ => by
  have hs1 : Has β (star (own T k oa m cap cs) (stars M)) w := Has.mono hs fun _ => p.star
  obtain ⟨⟨hp, ⟨ha1, hb1, hd, rfl, ⟨hl1, hc1, ho⟩, hM⟩, _⟩, _⟩ := hs1
  exact h hc1 a w ha hs Q hQ
end Go.SL
namespace Go.SL
open Go
section
variable {P : Program} {β : Base} {nn : Nat} {ops : Array Oper} {fuel : Nat} {listed : Array Bool} {pend : Pend} {E : Env} {L M : List HP} {K : Env → List HP → Prop}
/-- Whole values read under a guard that says yes, taken early. -/
theorem RunD.takeGA (i : Nat) {m jg : Nat} {gb : Bool} {gd : Tmp} {ad : Addr} {R : HP} {vs : List Value} {x : Operand} {t : TypeId} {d : Option Tmp} {ty : TypeId} {pos : String} {af : Array Edge} (hi : ops[i]? = some ⟨d, .load t x, ty, pos, af, some (jg, gb)⟩) (hj : (ops[jg]?).bind (·.dst) = some gd) (hgb : E.get gd = some (.bool gb)) (hd : dstOk nn d = true)
    (hchk : (Region.noSelect ops && Region.free .any ops listed i && (Region.ready .any ops listed).contains i) = true) (T : TI P t true m) (hx : E.ev x = some (.pointer (some ad))) (p : Pick L R M) (hr : Rd R ad vs) (hn : vs.length = m)
    (h : RunD P β nn ops fuel (listed.setIfInBounds i true) ((i, [R]) :: pend) (E.put d (.agg ⟨vs⟩)) L K) : RunD P β nn ops (fuel + 1) listed pend E L K :=
  RunD.takeG (Ls := [R]) i hi rfl hj hgb hd hchk (DetJ.loadA T hx .here hr hn) (.cons p .nil) h
theorem RunD.takeGW (i : Nat) {m b jg : Nat} {gb : Bool} {gd : Tmp} {cs : List Value} {bt : TypeId} {x : Operand} {t : TypeId} {d : Option Tmp} {ty : TypeId} {pos : String} {af : Array Edge} (hi : ops[i]? = some ⟨d, .load t x, ty, pos, af, some (jg, gb)⟩) (hj : (ops[jg]?).bind (·.dst) = some gd) (hgb : E.get gd = some (.bool gb)) (hd : dstOk nn d = true)
    (hchk : (Region.noSelect ops && Region.free .any ops listed i && (Region.ready .any ops listed).contains i) = true) (T : TI P t true m) (hx : E.ev x = some (.pointer (some ⟨b, 0, none⟩))) (p : Pick L (pt b (blk cs bt)) M) (hn : cs.length = m)
    (h : RunD P β nn ops fuel (listed.setIfInBounds i true) ((i, [pt b (blk cs bt)]) :: pend) (E.put d (.agg ⟨cs⟩)) L K) : RunD P β nn ops (fuel + 1) listed pend E L K :=
  RunD.takeGA i hi hj hgb hd hchk T hx p Rd.whole hn h
theorem RunD.takeGE {α : Type} {enc : α → List Value} {e : TypeId} {k b n cap : Nat} {xs : List α} {u : α} (i : Nat) {ie m jg : Nat} {gb : Bool} {gd : Tmp} {x : Operand} {t : TypeId} {d : Option Tmp} {ty : TypeId} {pos : String} {af : Array Edge} (hi : ops[i]? = some ⟨d, .load t x, ty, pos, af, some (jg, gb)⟩) (hj : (ops[jg]?).bind (·.dst) = some gd) (hgb : E.get gd = some (.bool gb)) (hd : dstOk nn d = true)
    (hchk : (Region.noSelect ops && Region.free .any ops listed i && (Region.ready .any ops listed).contains i) = true) (T : TI P t true m) (hx : E.ev x = some (.pointer (some ⟨b, 0 + ie * k, none⟩))) (p : Pick L (own e k (some ⟨b, 0, none⟩) n cap (xs.flatMap enc)) M) (hu : xs[ie]? = some u) (hk : ∀ x, (enc x).length = k) (hm : m = k) (h0 : 0 < k)
    (h : RunD P β nn ops fuel (listed.setIfInBounds i true) ((i, [own e k (some ⟨b, 0, none⟩) n cap (xs.flatMap enc)]) :: pend) (E.put d (.agg ⟨enc u⟩)) L K) : RunD P β nn ops (fuel + 1) listed pend E L K :=
  RunD.takeGA i hi hj hgb hd hchk T hx p (own.el hu h0 hk) ((hk u).trans hm.symm) h
end
end Go.SL

namespace Go.SL
open Go
def x1 : Mv := mvX 1 10 1 4 40
def x2 : Mv := mvX 2 20 2 3 0
def x3 : Mv := mvX 3 5 1 2 50
def x4 : Mv := mvX 4 1 2 1 0
theorem li0 : startE 1 0 = 0 := by kernel_rfl
theorem li1 : addErr 1 0 [] x1 = 0 ∧ addC 1 0 [] x1 = ⟨1, 4, 40, 0⟩ ∧ addD 1 0 [] x1 = [] ∧ addMs 1 0 [] x1 = [x1] := ⟨by kernel_rfl, by kernel_rfl, by kernel_rfl, by kernel_rfl⟩
theorem li2 : addErr 1 0 [x1] x2 = 0 ∧ addC 1 0 [x1] x2 = ⟨2, -3, -30, 0⟩ ∧ addD 1 0 [x1] x2 = [] ∧ addMs 1 0 [x1] x2 = [x1, x2] := ⟨by kernel_rfl, by kernel_rfl, by kernel_rfl, by kernel_rfl⟩
theorem li3 : addErr 1 0 [x1, x2] x3 = 0 ∧ addC 1 0 [x1, x2] x3 = ⟨3, 2, 50, 0⟩ ∧ addD 1 0 [x1, x2] x3 = [⟨2, -30, 0⟩] ∧ addMs 1 0 [x1, x2] x3 = [x1, x2, x3] := ⟨by kernel_rfl, by kernel_rfl, by kernel_rfl, by kernel_rfl⟩
theorem li4 : addErr 1 0 [x1, x2, x3] x4 = 21 ∧ addMs 1 0 [x1, x2, x3] x4 = [x1, x2, x3] := ⟨by kernel_rfl, by kernel_rfl⟩
def lk : Sk := skOf 1 0 [x1, x2, x3]
theorem li5 : costAt (csOf 1 0 [x1, x2, x3]) 2 = (⟨2, -3, -60, 0⟩, true) ∧ atW Co.qty 10 ([x1, x2, x3].zip (csOf 1 0 [x1, x2, x3])) = 6 ∧ atW Co.value 10 ([x1, x2, x3].zip (csOf 1 0 [x1, x2, x3])) = 90 ∧ lk.qty = 3 ∧ lk.value = 30 := ⟨by kernel_rfl, by kernel_rfl, by kernel_rfl, by kernel_rfl, by kernel_rfl⟩
end Go.SL

namespace Go.SL
open Go
theorem WWl (a b : Int) : W (W a + b) = W (a + b) := by simp only [W, IntKind.wrap_i64]; omega
theorem WWr (a b : Int) : W (a + W b) = W (a + b) := by simp only [W, IntKind.wrap_i64]; omega
theorem WW (a : Int) : W (W a) = W a := W_in (W_i64 a)
/-! the costs, by movement -/
theorem rep_map {k p : Int} {ms : List Mv} {t : Sk} {cs0 : List Co} (hf : Fine ms) (hr : repM k p ms = .ok (t, cs0)) : cs0 = (ordM ms).map (fun m => findC cs0 m.seq) ∧ csOf k p ms = ms.map (fun m => findC cs0 m.seq) := by
  have hl := runM_len hr
  have hc := csOf_len hr
  constructor
  · apply List.ext_getElem?
    intro i
    rw [List.getElem?_map]
    by_cases hi : i < cs0.length
    · obtain ⟨m, hm⟩ : ∃ m, (ordM ms)[i]? = some m := ⟨_, List.getElem?_eq_getElem (by omega)⟩
      obtain ⟨q, hq⟩ := List.getElem?_of_mem ((ordM_perm ms).mem_iff.1 (List.mem_of_getElem? hm))
      obtain ⟨j, c, hj, hcj, _, hfc, hs⟩ := cs_at hf hr hq
      obtain rfl : j = i := ord_inj hf hj hm rfl
      rw [hm, hcj]
      simp only [Option.map_some]
      rw [(hf q m hq).1, hfc]
    · rw [List.getElem?_eq_none (by omega), List.getElem?_eq_none (by omega)]; rfl
  · apply List.ext_getElem?
    intro q
    rw [List.getElem?_map]
    by_cases hq : q < ms.length
    · obtain ⟨m, hm⟩ : ∃ m, ms[q]? = some m := ⟨_, List.getElem?_eq_getElem hq⟩
      obtain ⟨j, c, hj, hcj, h3, hfc, hs⟩ := cs_at hf hr hm
      rw [h3, hm]
      simp only [Option.map_some]
      rw [(hf q m hm).1, hfc]
    · rw [List.getElem?_eq_none (by omega), List.getElem?_eq_none (by omega)]; rfl
/-! wrapping sums -/
def accW (q : Mv → Bool) (f : Co → Int) (a : Int) (l : List (Mv × Co)) : Int := l.foldl (fun a x => if q x.1 = true then W (a + f x.2) else a) a
def accS (q : Mv → Bool) (f : Co → Int) : List (Mv × Co) → Int
  | [] => 0
  | x :: l => (if q x.1 = true then f x.2 else 0) + accS q f l
theorem accW_eq {q : Mv → Bool} {f : Co → Int} : ∀ {l : List (Mv × Co)} {a : Int}, W (accW q f a l) = W (a + accS q f l)
  | [], a => by simp [accW, accS]
  | x :: l, a => by
    show W (accW q f (if q x.1 = true then W (a + f x.2) else a) l) = _
    rw [accW_eq]
    simp only [accS]
    split
    · rw [WWl]; congr 1; omega
    · congr 1; omega
theorem accW_i64 {q : Mv → Bool} {f : Co → Int} : ∀ {l : List (Mv × Co)} {a : Int}, i64 a → i64 (accW q f a l)
  | [], a, h => h
  | x :: l, a, h => by
    show i64 (accW q f (if q x.1 = true then W (a + f x.2) else a) l)
    refine accW_i64 ?_
    split
    · exact W_i64 _
    · exact h
theorem accW_eq' {q : Mv → Bool} {f : Co → Int} {l : List (Mv × Co)} {a : Int} (h : i64 a) : accW q f a l = W (a + accS q f l) := by
  rw [← accW_eq, W_in (accW_i64 h)]
theorem atW_acc {f : Co → Int} {day : Int} {l : List (Mv × Co)} : atW f day l = accW (fun m => decide (m.value ≤ day)) f 0 l := by
  unfold atW accW
  simp only [decide_eq_true_eq]
theorem accS_split {f : Co → Int} {q r s : Mv → Bool} (h : ∀ m, (if s m = true then (1 : Int) else 0) = (if q m = true then 1 else 0) + (if r m = true then 1 else 0)) : ∀ l : List (Mv × Co), accS s f l = accS q f l + accS r f l
  | [] => rfl
  | x :: l => by
    simp only [accS]
    rw [accS_split h l]
    have := h x.1
    by_cases h1 : s x.1 = true <;> by_cases h2 : q x.1 = true <;> by_cases h3 : r x.1 = true <;> simp only [h1, h2, h3, if_true, if_false, Bool.false_eq_true] at this ⊢ <;> omega
def btw (a b : Int) (m : Mv) : Bool := decide (a < m.value ∧ m.value ≤ b)
theorem at_btw {f : Co → Int} {a b : Int} {l : List (Mv × Co)} (h : a ≤ b) : accW (btw a b) f (atW f a l) l = atW f b l := by
  rw [atW_acc, atW_acc, accW_eq' (accW_i64 (by decide)), accW_eq' (a := 0) (by decide), accW_eq' (a := 0) (by decide), WWl]
  congr 1
  rw [accS_split (s := fun m => decide (m.value ≤ b)) (q := fun m => decide (m.value ≤ a)) (r := btw a b) (fun m => ?_) l]
  · omega
  · unfold btw
    by_cases h1 : m.value ≤ a <;> by_cases h2 : m.value ≤ b <;> simp [h1, h2] <;> omega
theorem accW_succ {q : Mv → Bool} {f : Co → Int} {a : Int} {l : List (Mv × Co)} {i : Nat} {m : Mv} {c : Co} (h : l[i]? = some (m, c)) : accW q f a (l.take (i + 1)) = if q m = true then IntKind.i64.wrap (accW q f a (l.take i) + f c) else accW q f a (l.take i) := by
  rw [take_one h]; simp only [accW, List.foldl_append, List.foldl_cons, List.foldl_nil]
def sumC (f : Co → Int) : List Co → Int
  | [] => 0
  | c :: cs => f c + sumC f cs
theorem sumC_perm {f : Co → Int} {a b : List Co} (h : a.Perm b) : sumC f a = sumC f b := by
  induction h with
  | nil => rfl
  | cons x _ ih => simp only [sumC, ih]
  | swap x y l => simp only [sumC]; omega
  | trans _ _ h1 h2 => rw [h1, h2]
theorem wsum_S {f : Co → Int} : ∀ {cs : List Co} {a : Int}, W (wsumFrom f a cs) = W (a + sumC f cs)
  | [], a => by simp [wsumFrom, sumC]
  | c :: cs, a => by
    show W (wsumFrom f (W (a + f c)) cs) = _
    rw [wsum_S, WWl]; simp only [sumC]; congr 1; omega
theorem wsum_i64 {f : Co → Int} : ∀ {cs : List Co} {a : Int}, i64 a → i64 (wsumFrom f a cs)
  | [], a, h => h
  | c :: cs, a, h => wsum_i64 (cs := cs) (W_i64 _)
theorem accS_all {f : Co → Int} {q : Mv → Bool} : ∀ {ms : List Mv} {cs : List Co}, ms.length = cs.length → (∀ m ∈ ms, q m = true) → accS q f (ms.zip cs) = sumC f cs
  | [], [], _, _ => rfl
  | [], c :: cs, h, _ => by simp at h
  | m :: ms, [], h, _ => by simp at h
  | m :: ms, c :: cs, h, hq => by
    simp only [List.zip_cons_cons, accS, sumC, hq m (List.mem_cons_self ..), if_true]
    rw [accS_all (by simpa using h) fun x hx => hq x (List.mem_cons_of_mem _ hx)]
theorem Good.day {k p : Int} {ms : List Mv} (h : Good k p ms) : ∀ m ∈ ms, m.value ≤ 109572 := fun m hm => by
  obtain ⟨i, hi⟩ := List.getElem?_of_mem hm
  have h1 := (h.fine i m hi).2.1
  unfold Mv.one at h1
  split at h1
  · cases h1
  · rename_i h2
    unfold inB at h2
    simp only [Bool.not_eq_true', Bool.not_eq_false, decide_eq_true_eq] at h2
    omega
theorem at_last {k p : Int} {ms : List Mv} (h : Good k p ms) : atW Co.qty 109572 (ms.zip (csOf k p ms)) = (skOf k p ms).qty ∧ atW Co.value 109572 (ms.zip (csOf k p ms)) = (skOf k p ms).value := by
  obtain ⟨t, cs0, hr⟩ := h.rep
  have hsum := runM_sum hr
  obtain ⟨e0, e1⟩ := rep_map h.fine hr
  have hp : (csOf k p ms).Perm cs0 := by rw [e1]; conv => rhs; rw [e0]
                                         exact ((ordM_perm ms).map _).symm
  rw [skOf_ok hr, hsum.1, hsum.2]
  have key : ∀ f : Co → Int, atW f 109572 (ms.zip (csOf k p ms)) = wsum f cs0 := fun f => by
    rw [atW_acc, accW_eq' (by decide), accS_all (csOf_len hr).symm (fun m hm => decide_eq_true (h.day m hm)), sumC_perm hp]
    have h1 := wsum_S (f := f) (cs := cs0) (a := 0)
    rw [← h1, W_in (wsum_i64 (by decide))]; rfl
  exact ⟨key _, key _⟩
end Go.SL
namespace Go.SL
open Go
theorem addC_no {k p : Int} {ms : List Mv} {m : Mv} (h : ¬ addErr k p ms m = 0) : addC k p ms m = Co0 := if_neg h
theorem addD_no {k p : Int} {ms : List Mv} {m : Mv} (h : ¬ addErr k p ms m = 0) : addD k p ms m = [] := if_neg h
theorem addMs_no {k p : Int} {ms : List Mv} {m : Mv} (h : ¬ addErr k p ms m = 0) : addMs k p ms m = ms := if_neg h
theorem addMs_ok {k p : Int} {ms : List Mv} {m : Mv} (h : addErr k p ms m = 0) : addMs k p ms m = ms ++ [m] := if_pos h
theorem Good.sk {k p : Int} {ms : List Mv} (h : Good k p ms) : (skOf k p ms).layers.length ≤ 1000000 ∧ (skOf k p ms).past.length ≤ 1000000 := by
  obtain ⟨t, cs0, hr⟩ := h.rep
  have h1 := runL_ok (fun m hm => by obtain ⟨q, hq⟩ := List.getElem?_of_mem ((ordM_perm _).mem_iff.1 hm); exact one_ok (h.fine q m hq).2.1) (start0_ok (k := k) (p := p) 0) (runM_iff.1 hr).2
  have h2 := h1.nl; have h3 := h1.np; have h4 := h.n
  rw [ordM_len] at h2 h3
  rw [skOf_ok hr]; omega
theorem Good.oks {k p : Int} {ms : List Mv} (h : Good k p ms) : ∀ m ∈ ordM ms, m.ok := fun m hm => by
  obtain ⟨q, hq⟩ := List.getElem?_of_mem ((ordM_perm _).mem_iff.1 hm); exact one_ok (h.fine q m hq).2.1
/-- The cost of a replay is the engine's. -/
theorem cost_rep {k p : Int} {ms : List Mv} {t : Sk} {cs0 : List Co} (hf : Fine ms) (hr : repM k p ms = .ok (t, cs0)) {i : Nat} {c : Co} (hc : cs0[i]? = some c) : costAt (csOf k p ms) c.seq = (c, true) := by
  have hl := runM_len hr
  obtain ⟨m, hm⟩ : ∃ m, (ordM ms)[i]? = some m := ⟨_, List.getElem?_eq_getElem (by have := (List.getElem?_eq_some_iff.1 hc).1; omega)⟩
  obtain ⟨q, hq⟩ := List.getElem?_of_mem ((ordM_perm ms).mem_iff.1 (List.mem_of_getElem? hm))
  obtain ⟨j, c', hj, hcj, h3, _, hs⟩ := cs_at hf hr hq
  obtain rfl : j = i := ord_inj hf hj hm rfl
  rw [hc] at hcj; cases hcj
  rw [hs]; exact costAt_ok h3
theorem cost_seq {k p : Int} {ms : List Mv} {t : Sk} {cs0 : List Co} (hf : Fine ms) (hr : repM k p ms = .ok (t, cs0)) {i : Nat} {c : Co} (hc : cs0[i]? = some c) : 1 ≤ c.seq ∧ c.seq ≤ ms.length := by
  have h := cost_rep hf hr hc
  unfold costAt at h
  split at h
  · rename_i h1; rw [csOf_len hr] at h1; exact h1
  · cases h
theorem seq_of {ms : List Mv} (hf : Fine ms) {i : Nat} {m : Mv} (h : ms[i]? = some m) : m.seq = (i : Int) + 1 := (hf i m h).1
end Go.SL

namespace Go.SL
open Go
theorem cs_fact {k p : Int} {ms : List Mv} (h : Good k p ms) {q : Nat} {m : Mv} (hq : ms[q]? = some m) : ∃ c, (csOf k p ms)[q]? = some c ∧ c.seq = (q : Int) + 1 ∧ c.qty = changeM m ∧ (-2000000000000000 ≤ c.value ∧ c.value ≤ 2000000000000000) ∧ -1000000000000000 ≤ c.var ∧ c.var ≤ 1000000000000000 := by
  obtain ⟨t, cs0, hr⟩ := h.rep
  obtain ⟨i, c, hi, hc, h3, _, hs⟩ := cs_at h.fine hr hq
  obtain ⟨s1, t1, hI1, hI2, hsf⟩ := (runL_each (start_inv k p) (runM_iff.1 hr).2).2 i m c hi hc
  exact ⟨c, h3, hs, (changeM_of (k := k) hsf).symm, hsf.vb hI1 hI2, hsf.r0, hsf.r1⟩
structure Pair (n : Nat) (c d : Co) : Prop where
  s : c.seq = n
  t : d.seq = n
  q : c.qty = d.qty
  b : (-2000000000000000 ≤ c.value ∧ c.value ≤ 2000000000000000) ∧ (-2000000000000000 ≤ d.value ∧ d.value ≤ 2000000000000000) ∧ (-1000000000000000 ≤ c.var ∧ c.var ≤ 1000000000000000) ∧ -1000000000000000 ≤ d.var ∧ d.var ≤ 1000000000000000
def PairL : Nat → List Co → List Co → Prop
  | _, [], _ => True
  | n, c :: cs, d :: ds => Pair n c d ∧ PairL (n + 1) cs ds
  | _, _ :: _, [] => False
theorem PairL.of : ∀ {cs ds : List Co} {n : Nat}, cs.length ≤ ds.length → (∀ (i : Nat) (c d : Co), cs[i]? = some c → ds[i]? = some d → Pair (n + i) c d) → PairL n cs ds
  | [], _, _, _, _ => by unfold PairL; trivial
  | c :: cs, [], _, h, _ => by simp at h
  | c :: cs, d :: ds, n, h, hp => by
    unfold PairL
    refine ⟨hp 0 c d rfl rfl, PairL.of (by simpa using h) fun i x y hx hy => ?_⟩
    have := hp (i + 1) x y (by simpa using hx) (by simpa using hy)
    rwa [show n + (i + 1) = n + 1 + i by omega] at this
theorem pair_cs {k p : Int} {ms : List Mv} {m : Mv} (h : Good k p ms) (h2 : Good k p (ms ++ [m])) : PairL 1 (csOf k p ms) (csOf k p (ms ++ [m])) := by
  obtain ⟨t, cs0, hr⟩ := h.rep
  obtain ⟨t2, cs2, hr2⟩ := h2.rep
  have l1 := csOf_len hr
  have l2 := csOf_len hr2
  refine PairL.of (by rw [l1, l2]; simp) fun i c d hc hd => ?_
  have hi := (List.getElem?_eq_some_iff.1 hc).1
  obtain ⟨x, hx⟩ : ∃ x, ms[i]? = some x := ⟨_, List.getElem?_eq_getElem (by omega)⟩
  have hx2 : (ms ++ [m])[i]? = some x := by rw [List.getElem?_append_left (by omega)]; exact hx
  obtain ⟨c', e1, s1, q1, v1, r1⟩ := cs_fact h hx
  obtain ⟨d', e2, s2, q2, v2, r2⟩ := cs_fact h2 hx2
  rw [hc] at e1; rw [hd] at e2
  cases e1; cases e2
  exact ⟨by omega, by omega, by rw [q1, q2], v1, v2, r1, r2⟩
def putD (l : List Co) (d : Aj) : List Co := match l[d.seq.toNat]? with | some o => l.set d.seq.toNat { o with value := W (o.value + d.value), var := W (o.var + d.var) } | none => l
theorem putD_len {l : List Co} {d : Aj} : (putD l d).length = l.length := by unfold putD; split <;> simp
theorem putD_at {l : List Co} {d : Aj} {i : Nat} {o : Co} (hi : d.seq = i) (ho : l[i]? = some o) : putD l d = l.set i { o with value := W (o.value + d.value), var := W (o.var + d.var) } := by
  unfold putD; rw [show d.seq.toNat = i by omega, ho]
theorem puts_len : ∀ {ds : List Aj} {l : List Co}, (ds.foldl putD l).length = l.length
  | [], _ => rfl
  | d :: ds, l => by rw [List.foldl_cons, puts_len, putD_len]
theorem dif_cons {c d : Co} {cs ds : List Co} : difL (c :: cs) (d :: ds) = difOne d c ++ difL cs ds := rfl
theorem put_all : ∀ {cs ds pre : List Co}, PairL pre.length cs ds → (difL cs ds).foldl putD (pre ++ cs) = pre ++ ds.take cs.length
  | [], ds, pre, _ => by simp [difL]
  | c :: cs, [], pre, h => by unfold PairL at h; exact h.elim
  | c :: cs, d :: ds, pre, h => by
    unfold PairL at h
    obtain ⟨hp, ht⟩ := h
    have ih := put_all (cs := cs) (ds := ds) (pre := pre ++ [d]) (by rw [List.length_append]; exact ht)
    rw [List.append_assoc, List.append_assoc] at ih
    rw [dif_cons, List.foldl_append]
    obtain ⟨s, t, q, ⟨b1, b2⟩, ⟨b3, b4⟩, ⟨b5, b6⟩, b7, b8⟩ := hp
    have key : (difOne d c).foldl putD (pre ++ c :: cs) = pre ++ d :: cs := by
      unfold difOne
      split
      · rename_i hne
        have ho : (pre ++ c :: cs)[pre.length]? = some c := by rw [List.getElem?_append_right (Nat.le_refl _)]; simp
        show putD (pre ++ c :: cs) _ = _
        rw [putD_at (i := pre.length) s ho, List.set_append_right _ _ (Nat.le_refl _)]
        simp only [Nat.sub_self, List.set_cons_zero]
        congr 2
        have w1 : IntKind.i64.wrap (d.value - c.value) = d.value - c.value := W_in ⟨by omega, by omega⟩
        have w2 : IntKind.i64.wrap (d.var - c.var) = d.var - c.var := W_in ⟨by omega, by omega⟩
        cases c; cases d
        simp only at s t q w1 w2 b1 b2 b3 b4 b5 b6 b7 b8 ⊢
        rw [w1, w2, W_in ⟨by omega, by omega⟩, W_in ⟨by omega, by omega⟩]
        subst q
        congr 1
        · omega
        · omega
        · omega
      · rename_i hne
        have h1 : d.value = c.value := by omega
        have h2 : d.var = c.var := by omega
        have : c = d := by
          cases c; cases d
          simp only at s t q h1 h2
          subst q h1 h2
          congr 1; omega
        rw [this]; rfl
    rw [key]
    simp only [List.length_cons, List.take_succ_cons, List.singleton_append] at ih ⊢
    exact ih
/-- Numbers that grow, each with a change. -/
structure Srt (n N : Int) (D : List Aj) : Prop where
  one : ∀ d ∈ D, n ≤ d.seq ∧ d.seq < N ∧ (d.value ≠ 0 ∨ d.var ≠ 0)
  two : D.Pairwise fun a b => a.seq < b.seq
theorem srt_dif : ∀ {cs ds : List Co} {n : Nat}, PairL n cs ds → Srt n (n + cs.length) (difL cs ds)
  | [], ds, n, _ => ⟨fun d hd => by simp [difL] at hd, by simp [difL]⟩
  | c :: cs, [], n, h => by unfold PairL at h; exact h.elim
  | c :: cs, d :: ds, n, h => by
    unfold PairL at h
    obtain ⟨hp, ht⟩ := h
    have ih := srt_dif ht
    rw [dif_cons]
    have hs := hp.s
    obtain ⟨⟨b1, b2⟩, ⟨b3, b4⟩, ⟨b5, b6⟩, b7, b8⟩ := hp.b
    have h1 : ∀ x ∈ difOne d c, x.seq = n ∧ (x.value ≠ 0 ∨ x.var ≠ 0) := fun x hx => by
      unfold difOne at hx
      split at hx
      · rename_i hne
        rw [List.mem_singleton.1 hx]
        have w1 : IntKind.i64.wrap (d.value - c.value) = d.value - c.value := W_in ⟨by omega, by omega⟩
        have w2 : IntKind.i64.wrap (d.var - c.var) = d.var - c.var := W_in ⟨by omega, by omega⟩
        refine ⟨hs, ?_⟩
        simp only
        rw [w1, w2]; omega
      · simp at hx
    refine ⟨fun x hx => ?_, List.pairwise_append.2 ⟨?_, ih.two, fun x hx y hy => ?_⟩⟩
    · rcases List.mem_append.1 hx with hx | hx
      · have := h1 x hx
        simp only [List.length_cons]
        exact ⟨by omega, by omega, this.2⟩
      · have := ih.one x hx
        simp only [List.length_cons]
        exact ⟨by omega, by omega, this.2.2⟩
    · unfold difOne
      split
      · exact List.pairwise_singleton _ _
      · exact List.Pairwise.nil
    · have a1 := (h1 x hx).1
      have a2 := (ih.one y hy).1
      omega
theorem Srt.prev {n N : Int} {D : List Aj} (h : Srt n N D) {i : Nat} {a b : Aj} (ha : D[i]? = some a) (hb : D[i + 1]? = some b) : a.seq < b.seq := by
  have := List.pairwise_iff_getElem.1 h.two i (i + 1) (List.getElem?_eq_some_iff.1 ha).1 (List.getElem?_eq_some_iff.1 hb).1 (Nat.lt_succ_self _)
  rwa [(List.getElem?_eq_some_iff.1 ha).2, (List.getElem?_eq_some_iff.1 hb).2] at this
/-- The costs as the law keeps them. -/
def kept (k p : Int) (ms : List Mv) : List Co := Co0 :: csOf k p ms
def kept1 (k p : Int) (ms : List Mv) (m : Mv) (n : Nat) : List Co := ((addD k p ms m).take n).foldl putD (kept k p ms)
theorem kept1_len {k p : Int} {ms : List Mv} {m : Mv} {n : Nat} (h : Good k p ms) : (kept1 k p ms m n).length = ms.length + 1 := by
  obtain ⟨t, cs0, hr⟩ := h.rep
  unfold kept1 kept; rw [puts_len, List.length_cons, csOf_len hr]
theorem kept1_succ {k p : Int} {ms : List Mv} {m : Mv} {n : Nat} {d : Aj} (h : (addD k p ms m)[n]? = some d) : kept1 k p ms m (n + 1) = putD (kept1 k p ms m n) d := by
  unfold kept1; rw [take_one h, List.foldl_append]; rfl
theorem srt_add {k p : Int} {ms : List Mv} {m : Mv} (h : Good k p ms) : Srt 1 (ms.length + 1) (addD k p ms m) := by
  unfold addD
  split
  · rename_i he
    obtain ⟨t, cs0, hr⟩ := h.rep
    have := srt_dif (pair_cs h (h.add he))
    rw [csOf_len hr] at this
    exact ⟨(fun d hd => by have h3 := this.one d hd; exact ⟨by omega, by omega, h3.2.2⟩), this.two⟩
  · exact ⟨(fun d hd => by cases hd), List.Pairwise.nil⟩
theorem kept_fin {k p : Int} {ms : List Mv} {m : Mv} (h : Good k p ms) (he : addErr k p ms m = 0) : kept1 k p ms m (addD k p ms m).length ++ [addC k p ms m] = kept k p (ms ++ [m]) := by
  have h2 := h.add he
  obtain ⟨t, cs0, hr⟩ := h.rep
  obtain ⟨t2, cs2, hr2⟩ := h2.rep
  have l1 := csOf_len hr
  have l2 := csOf_len hr2
  have hp := pair_cs h h2
  have hput := put_all (pre := [Co0]) (cs := csOf k p ms) (ds := csOf k p (ms ++ [m])) hp
  have hD : addD k p ms m = difL (csOf k p ms) (csOf k p (ms ++ [m])) := if_pos he
  have hC : addC k p ms m = (csOf k p (ms ++ [m]))[ms.length]?.getD Co0 := if_pos he
  unfold kept1 kept
  rw [List.take_length, hD, hC]
  rw [List.singleton_append] at hput
  rw [hput, l1, List.singleton_append, List.cons_append]
  congr 1
  rw [List.length_append, List.length_singleton] at l2
  have hq : (csOf k p (ms ++ [m]))[ms.length]? = some ((csOf k p (ms ++ [m]))[ms.length]'(by omega)) := List.getElem?_eq_getElem (by omega)
  rw [hq]
  have := take_one hq
  rw [List.take_of_length_le (by omega)] at this
  exact this.symm
end Go.SL
namespace Go.SL
open Go
theorem kept_nil {k p : Int} (h : startE k p = 0) : kept k p [] = [Co0] := by
  unfold kept
  rw [show csOf k p [] = [] from by rw [csOf_ok (show repM k p [] = .ok (start0 k p, []) from runM_ok h rfl)]; rfl]
theorem kept_len {k p : Int} {ms : List Mv} (h : Good k p ms) : (kept k p ms).length = ms.length + 1 := by
  obtain ⟨t, cs0, hr⟩ := h.rep
  unfold kept; rw [List.length_cons, csOf_len hr]
theorem kept_at {k p : Int} {ms : List Mv} (h : Good k p ms) {i : Nat} {c : Co} (hc : (kept k p ms)[i]? = some c) (h1 : 1 ≤ i) : costAt (csOf k p ms) (i : Int) = (c, true) := by
  obtain ⟨j, rfl⟩ : ∃ j, i = j + 1 := ⟨i - 1, by omega⟩
  unfold kept at hc
  rw [List.getElem?_cons_succ] at hc
  have := costAt_ok hc
  rw [show ((j + 1 : Nat) : Int) = (j : Int) + 1 by omega]; exact this
theorem kept1_0 {k p : Int} {ms : List Mv} {m : Mv} : kept1 k p ms m 0 = kept k p ms := rfl
theorem kept1_put {k p : Int} {ms : List Mv} {m : Mv} {n s : Nat} {d : Aj} {o : Co} (hd : (addD k p ms m)[n]? = some d) (hs : d.seq = s) (ho : (kept1 k p ms m n)[s]? = some o) :
    ((kept1 k p ms m n).set s { o with value := IntKind.i64.wrap (o.value + d.value) }).set s { o with value := IntKind.i64.wrap (o.value + d.value), var := IntKind.i64.wrap (o.var + d.var) } = kept1 k p ms m (n + 1) := by
  rw [kept1_succ hd, putD_at hs ho, List.set_set]
theorem fill_new {k p : Int} {l : List Mv} {i : Nat} {m : Mv} (h : l[i]? = some m) : fillM k p (l.take (i + 1)) = addMs k p (fillM k p (l.take i)) { m with seq := ((fillM k p (l.take i)).length : Int) + 1 } := fillM_succ h
end Go.SL
namespace Go.SL
open Go
theorem dif_len : ∀ {cs ds : List Co}, (difL cs ds).length ≤ cs.length
  | [], _ => by simp [difL]
  | c :: cs, [] => by simp [difL]
  | c :: cs, d :: ds => by
    have ih := dif_len (cs := cs) (ds := ds)
    have h1 : (difOne d c).length ≤ 1 := by unfold difOne; split <;> simp
    rw [dif_cons, List.length_append, List.length_cons]; omega
theorem addD_len {k p : Int} {ms : List Mv} {m : Mv} (h : Good k p ms) : (addD k p ms m).length ≤ 2000 := by
  obtain ⟨t, cs0, hr⟩ := h.rep
  have hl := csOf_len hr
  have hn := h.n
  unfold addD
  split
  · have := dif_len (cs := csOf k p ms) (ds := csOf k p (ms ++ [m])); omega
  · simp
end Go.SL
