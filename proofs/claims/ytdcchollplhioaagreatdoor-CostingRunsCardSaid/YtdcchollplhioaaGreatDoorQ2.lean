/- Laws of the walks and of the models, part 2. Merged by program out of: RLaw RLaw2 RLaw3 Sho Sx. -/
import Derived.Test.YtdcchollplhioaaGreatDoorQ1
set_option linter.unusedVariables false
set_option linter.unusedSimpArgs false
set_option maxRecDepth 20000
set_option maxHeartbeats 4000000
namespace Go.SL
open Go
/-- A state of 'standard price'. -/
structure S3 (s : Sk) : Prop where
  sg : SG s
  p0 : 0 ≤ s.price
  p1 : s.price ≤ 1000000000000
  vq : s.value = s.qty * s.price
  ly : s.layers = []
theorem within_iff {n : Int} : withinB n = true ↔ -1000000000000000 ≤ n ∧ n ≤ 1000000000000000 := by unfold withinB; simp
theorem withinF {n : Int} (h : ¬ (-1000000000000000 ≤ n ∧ n ≤ 1000000000000000)) : withinB n = false := by
  rw [Bool.eq_false_iff]; exact fun e => h (within_iff.1 e)
theorem mul_of {a b : Int} (h : -9223372036854775808 ≤ a * b ∧ a * b ≤ 9223372036854775807) : mulOk a b = true ∧ mulN a b = a * b := by
  unfold mulOk mulN; exact ⟨decide_eq_true h, if_pos h⟩
theorem mul_not {a b : Int} (h : ¬ (-9223372036854775808 ≤ a * b ∧ a * b ≤ 9223372036854775807)) : mulOk a b = false := by unfold mulOk; exact decide_eq_false h
/-- The value at a price: within the limit, or one more. -/
theorem valN_of {q p : Int} (h0 : 0 ≤ q * p) : (q * p ≤ 1000000000000000 → valN q p = q * p) ∧ (1000000000000000 < q * p → withinB (valN q p) = false) := by
  constructor
  · intro h
    have := mul_of (a := q) (b := p) ⟨by omega, by omega⟩
    unfold valN; rw [if_pos this.1, this.2, if_neg (by omega)]
  · intro h
    unfold valN
    split
    · rename_i hm
      have : mulN q p = q * p := by
        unfold mulOk at hm; unfold mulN; exact if_pos (of_decide_eq_true hm)
      rw [this]; split
      · exact withinF (n := 1000000000000001) (by decide)
      · exact withinF (by omega)
    · exact withinF (n := 1000000000000001) (by decide)
theorem rsFin_nice {s : Sk} {m : Mv} {pr cq : Int} {ps : Int → List Pa} {var : Int → Int} (hq : W (s.qty + cq) = s.qty + cq) (h0 : 0 ≤ s.qty + cq) (hq1 : s.qty + cq ≤ 1000000000) (hp : 0 ≤ (s.qty + cq) * pr) (hv : (s.qty + cq) * pr ≤ 1000000000000000) (hs : -1000000000000000 ≤ s.value ∧ s.value ≤ 1000000000000000) :
    rsFin s m pr cq ps var = if withinB (var ((s.qty + cq) * pr - s.value)) = false then .error 4 else .ok (⟨s.qty + cq, (s.qty + cq) * pr, pr, [], ps ((s.qty + cq) * pr - s.value)⟩, ⟨m.seq, cq, (s.qty + cq) * pr - s.value, var ((s.qty + cq) * pr - s.value)⟩) := by
  have e1 : rsV s pr cq = (s.qty + cq) * pr := by unfold rsV rsQ; rw [hq]; exact (valN_of hp).1 hv
  have e2 : rsC s pr cq = (s.qty + cq) * pr - s.value := by unfold rsC; rw [e1]; exact W_in ⟨by omega, by omega⟩
  unfold rsFin
  rw [e2, e1]
  unfold rsQ
  rw [hq, if_neg (by omega), if_neg (by rw [within_iff.2 ⟨by omega, hv⟩]; simp; omega)]
theorem rsFin_big {s : Sk} {m : Mv} {pr cq : Int} {ps : Int → List Pa} {var : Int → Int} (hq : W (s.qty + cq) = s.qty + cq) (h0 : 0 ≤ s.qty + cq) (hp : 0 ≤ (s.qty + cq) * pr) (hv : 1000000000 < s.qty + cq ∨ 1000000000000000 < (s.qty + cq) * pr) :
    rsFin s m pr cq ps var = .error 4 := by
  unfold rsFin rsQ
  rw [hq, if_neg (by omega)]
  refine if_pos ?_
  rcases hv with hv | hv
  · exact .inl hv
  · right; unfold rsV rsQ; rw [hq]; exact (valN_of hp).2 hv
/-- What the method's step comes to, from its costs. -/
def sEnd (s t : Sk) (m : Mv) (c : Co) : Except Int (Sk × Co) := if sOver s t c = true then .error 4 else .ok (sSum s t c, { c with seq := m.seq })
theorem sEnd_nice {s t : Sk} {m : Mv} {c : Co} (hq : W (s.qty + c.qty) = s.qty + c.qty) (hq1 : s.qty + c.qty ≤ 1000000000) (hv : -1000000000000000 ≤ s.value + c.value ∧ s.value + c.value ≤ 1000000000000000) :
    sEnd s t m c = if withinB c.var = false then .error 4 else .ok ({ t with qty := s.qty + c.qty, value := s.value + c.value }, { c with seq := m.seq }) := by
  have e1 : addN s.value c.value = s.value + c.value := by unfold addN; exact if_pos ⟨by omega, by omega⟩
  have e2 : addOk s.value c.value = true := by unfold addOk; exact decide_eq_true ⟨by omega, by omega⟩
  unfold sEnd sOver sSum
  rw [e1, e2, hq, within_iff.2 hv, decide_eq_false (by omega)]
  cases withinB c.var <;> simp
theorem sEnd_big {s t : Sk} {m : Mv} {c : Co} (hq : W (s.qty + c.qty) = s.qty + c.qty) (hv : 1000000000 < s.qty + c.qty ∨ 1000000000000000 < s.value + c.value) : sEnd s t m c = .error 4 := by
  unfold sEnd sOver
  refine if_pos ?_
  rcases hv with hv | hv
  · rw [hq, decide_eq_true hv]; simp
  · by_cases ha : -9223372036854775808 ≤ s.value + c.value ∧ s.value + c.value ≤ 9223372036854775807
    · have e1 : addN s.value c.value = s.value + c.value := by unfold addN; exact if_pos ha
      rw [e1, withinF (n := s.value + c.value) (by omega)]; simp
    · have e2 : addOk s.value c.value = false := by unfold addOk; exact decide_eq_false ha
      rw [e2]; simp
theorem SG.fine {s : Sk} (h : SG s) : s.fine := fun i p hx => by
  have g := h.ps.all p (List.mem_of_getElem? hx)
  refine ⟨g.kd, ?_⟩
  have := g.u0; have := g.u1; have := g.q1; have := g.q2
  rw [W_in ⟨by omega, by omega⟩]; omega
theorem sStep_end {s : Sk} {m : Mv} (h1 : m.one = 0) (h2 : ¬ (findI (isPast 0 m.seq) s.past).isSome = true) (hf : s.fine) : sStep s m = match sDo s m ⟨0, 0, 0, 0⟩ with | .error e => .error e | .ok (t, c) => sEnd s t m c := by
  unfold sStep
  rw [if_neg (by simp [h1]), if_neg (by rw [known_eq hf]; exact h2)]
  rfl
/-- Receipts and returns by customers: the quantity grows. -/
theorem rs_up {s t : Sk} {m : Mv} {ps : Int → List Pa} {var : Int → Int} {v : Int} (h : S3 s) (hg : MG m) (hk : m.kind = 1 ∨ m.kind = 3) (ht : t = { s with past := ps (m.qty * s.price) }) (hv : v = var (m.qty * s.price)) :
    rsFin s m s.price m.qty ps var = if priceE m s.price ≠ 0 then .error (priceE m s.price) else sEnd s t m ⟨0, m.qty, priceV m s.price, v⟩ := by
  have hq := hg.q.2 (by omega)
  have q0 := h.sg.q0; have q1 := h.sg.q1; have v0 := h.sg.v0; have v1 := h.sg.v1
  have hp0 := h.p0
  have hmp : 0 ≤ m.qty * s.price := Int.mul_nonneg (by omega) hp0
  have hsp : 0 ≤ s.value := by rw [h.vq]; exact Int.mul_nonneg q0 hp0
  have hsum : (s.qty + m.qty) * s.price = s.value + m.qty * s.price := by rw [Int.add_mul, ← h.vq]
  have hW : W (s.qty + m.qty) = s.qty + m.qty := W_in ⟨by omega, by omega⟩
  subst hv
  by_cases hbig : 1000000000 < s.qty + m.qty ∨ 1000000000000000 < (s.qty + m.qty) * s.price
  · rw [rsFin_big hW (by omega) (by rw [hsum]; omega) hbig]
    by_cases he : priceE m s.price ≠ 0
    · rw [if_pos he]
      have : priceE m s.price = 4 := by unfold priceE at he ⊢; split <;> simp_all
      rw [this]
    · rw [if_neg he]
      have hpv := (priceV_of he).1
      refine (sEnd_big hW ?_).symm
      simp only
      rw [hpv, ← hsum]; exact hbig
  · have hb : s.qty + m.qty ≤ 1000000000 ∧ (s.qty + m.qty) * s.price ≤ 1000000000000000 := by omega
    have hm := mul_of (a := m.qty) (b := s.price) ⟨by omega, by omega⟩
    have he : ¬ priceE m s.price ≠ 0 := by unfold priceE; rw [if_pos hm.1]; decide
    have hpv := (priceV_of he).1
    have hcv : (s.qty + m.qty) * s.price - s.value = m.qty * s.price := by omega
    rw [if_neg he, rsFin_nice hW (by omega) hb.1 (by rw [hsum]; omega) hb.2 ⟨v0, v1⟩, sEnd_nice hW hb.1 (by simp only; rw [hpv]; omega), hcv, hpv, ht]
    simp only
    rw [hsum]
    cases withinB (var (m.qty * s.price)) <;> simp [h.ly]
/-- Issues and returns to the supplier: the quantity falls. -/
theorem rs_down {s t : Sk} {m : Mv} {ps : Int → List Pa} {var : Int → Int} {v : Int} (h : S3 s) (hg : MG m) (hk : m.kind = 2 ∨ m.kind = 4) (ht : t = { s with past := ps (-(m.qty * s.price)) }) (hv : v = var (-(m.qty * s.price))) :
    rsFin s m s.price (W (0 - m.qty)) ps var = if s.qty < m.qty then .error 21 else if priceE m s.price ≠ 0 then .error (priceE m s.price) else sEnd s t m ⟨0, W (0 - m.qty), W (0 - priceV m s.price), v⟩ := by
  have hq := hg.q.2 (by omega)
  have q0 := h.sg.q0; have q1 := h.sg.q1; have v0 := h.sg.v0; have v1 := h.sg.v1
  have hp0 := h.p0
  have hn : W (0 - m.qty) = -m.qty := neg_W ⟨by omega, by omega⟩
  have hmp : 0 ≤ m.qty * s.price := Int.mul_nonneg (by omega) hp0
  have hW : W (s.qty + -m.qty) = s.qty + -m.qty := W_in ⟨by omega, by omega⟩
  rw [hn]
  subst hv
  by_cases hlt : s.qty < m.qty
  · rw [if_pos hlt]; exact rsFin_21 (by unfold rsQ; rw [hW]; omega)
  · rw [if_neg hlt]
    have hle : m.qty * s.price ≤ s.value := by rw [h.vq]; exact Int.mul_le_mul_of_nonneg_right (by omega) hp0
    have hsum : (s.qty + -m.qty) * s.price = s.value - m.qty * s.price := by rw [Int.add_mul, ← h.vq, Int.neg_mul]; omega
    have hm := mul_of (a := m.qty) (b := s.price) ⟨by omega, by omega⟩
    have he : ¬ priceE m s.price ≠ 0 := by unfold priceE; rw [if_pos hm.1]; decide
    have hpv := (priceV_of he).1
    have hnv : W (0 - m.qty * s.price) = -(m.qty * s.price) := neg_W ⟨by omega, by omega⟩
    have hcv : (s.qty + -m.qty) * s.price - s.value = -(m.qty * s.price) := by omega
    rw [if_neg he, hpv, hnv, rsFin_nice hW (by omega) (by omega) (by rw [hsum]; omega) (by rw [hsum]; omega) ⟨v0, v1⟩, sEnd_nice hW (by simp only; omega) (by simp only; omega), hcv, ht]
    simp only
    rw [hsum]
    cases withinB (var (-(m.qty * s.price))) <;> simp [h.ly, Int.sub_eq_add_neg]
theorem rs_land {s : Sk} {m : Mv} (h : S3 s) : rsFin s m s.price 0 (fun _ => s.past) (fun _ => m.cost) = sEnd s s m ⟨0, 0, 0, m.cost⟩ := by
  have q0 := h.sg.q0; have q1 := h.sg.q1; have v0 := h.sg.v0; have v1 := h.sg.v1
  have hsp : 0 ≤ s.value := by rw [h.vq]; exact Int.mul_nonneg q0 h.p0
  have hW : W (s.qty + 0) = s.qty + 0 := W_in ⟨by omega, by omega⟩
  have hsum : (s.qty + 0) * s.price = s.value := by rw [Int.add_zero, ← h.vq]
  rw [rsFin_nice hW (by omega) (by omega) (by rw [hsum]; omega) (by rw [hsum]; omega) ⟨v0, v1⟩, sEnd_nice hW (by simp only; omega) (by simp only; omega), hsum]
  simp only [Int.add_zero, Int.sub_self]
  rw [show (⟨s.qty, s.value, s.price, [], s.past⟩ : Sk) = { s with qty := s.qty, value := s.value } by rw [← h.ly]]
theorem rs_repr {s : Sk} {m : Mv} (h : S3 s) (hc : 0 ≤ m.cost ∧ m.cost ≤ 1000000000000) : rsFin s m m.cost 0 (fun _ => s.past) (fun cv => W (0 - cv)) = match sRepr s m ⟨0, 0, 0, 0⟩ with | .error e => .error e | .ok (t, c) => sEnd s t m c := by
  have q0 := h.sg.q0; have q1 := h.sg.q1; have v0 := h.sg.v0; have v1 := h.sg.v1
  have p0 := h.p0; have p1 := h.p1
  have hsp : 0 ≤ s.value := by rw [h.vq]; exact Int.mul_nonneg q0 h.p0
  have hcp : 0 ≤ s.qty * m.cost := Int.mul_nonneg q0 hc.1
  have hW : W (s.qty + 0) = s.qty + 0 := W_in ⟨by omega, by omega⟩
  have hsub : subOk m.cost s.price = true ∧ subN m.cost s.price = m.cost - s.price := by
    unfold subOk subN; exact ⟨decide_eq_true ⟨by omega, by omega⟩, if_pos ⟨by omega, by omega⟩⟩
  have hd : s.qty * (m.cost - s.price) = s.qty * m.cost - s.value := by rw [Int.mul_sub, ← h.vq]
  have e0 : (s.qty + 0) * m.cost = s.qty * m.cost := by rw [Int.add_zero]
  unfold sRepr reprV
  rw [hsub.1, hsub.2]
  by_cases hbig : 1000000000000000 < s.qty * m.cost
  · rw [rsFin_big hW (by omega) (by rw [e0]; omega) (.inr (by rw [e0]; exact hbig))]
    by_cases hm : -9223372036854775808 ≤ s.qty * (m.cost - s.price) ∧ s.qty * (m.cost - s.price) ≤ 9223372036854775807
    · have hmm := mul_of hm
      rw [hmm.1, hmm.2]
      split
      · rename_i hx; split at hx <;> cases hx; rfl
      · rename_i t c hx
        split at hx
        · cases hx
        · cases hx
          exact (sEnd_big hW (.inr (by simp only; rw [hd]; omega))).symm
    · rw [mul_not hm]; rfl
  · have hm : -9223372036854775808 ≤ s.qty * (m.cost - s.price) ∧ s.qty * (m.cost - s.price) ≤ 9223372036854775807 := by rw [hd]; constructor <;> omega
    have hmm := mul_of hm
    rw [hmm.1, hmm.2, within_iff.2 (by rw [hd]; constructor <;> omega)]
    simp only [Bool.not_true, Bool.or_self, Bool.false_eq_true, if_false]
    rw [rsFin_nice hW (by omega) (by omega) (by rw [e0]; omega) (by rw [e0]; omega) ⟨v0, v1⟩, sEnd_nice hW (by simp only; omega) (by simp only; rw [hd]; omega), e0, hd]
    simp only [Int.add_zero]
    rw [show s.value + (s.qty * m.cost - s.value) = s.qty * m.cost by omega]
    rw [show (⟨s.qty, s.qty * m.cost, m.cost, [], s.past⟩ : Sk) = { s with price := m.cost, qty := s.qty, value := s.qty * m.cost } by rw [← h.ly]]
theorem neg_neg_W {x : Int} (h : i64 x) : W (0 - -x) = x := by rw [show 0 - -x = x by omega]; exact W_in h
theorem rs_eq {s : Sk} {m : Mv} (h : S3 s) : rsStep s m = sStep s m := by
  by_cases h1 : m.one = 0
  · by_cases h2 : (findI (isPast 0 m.seq) s.past).isSome = true
    · unfold rsStep sStep
      rw [if_neg (by simp [h1]), if_pos h2, if_neg (by simp [h1]), if_pos (by rw [known_eq h.sg.fine]; exact h2)]
    · have hg := MG.of h1
      rw [rs_do h1 h2, sStep_end h1 h2 h.sg.fine]
      rcases (show m.kind = 1 ∨ m.kind = 2 ∨ m.kind = 3 ∨ m.kind = 4 ∨ m.kind = 5 ∨ m.kind = 6 by have := hg.k; omega) with hk | hk | hk | hk | hk | hk
      · rw [rs_1 hk, sDo_1 hk, rs_up h hg (.inl hk) rfl rfl]; unfold sRecv
        by_cases he : priceE m s.price ≠ 0
        · simp only [if_pos he]
        · simp only [if_neg he]; rw [(priceV_of he).1]
      · rw [rs_2 hk, sDo_2 hk, rs_down h hg (.inl hk) rfl rfl]; unfold sIssue
        by_cases hlt : s.qty < m.qty
        · simp only [if_pos hlt]
        · simp only [if_neg hlt]
          by_cases he : priceE m s.price ≠ 0
          · simp only [if_pos he]
          · have hp := priceV_of he
            simp only [if_neg he]; rw [neg_neg_W (hp.1 ▸ hp.2), hp.1]
      · cases hr : refd (if m.kind = 3 then 2 else 1) m s.past with
        | error e =>
          rw [rs_e (.inl hk) hr, sDo_3 hk]; rw [if_pos hk] at hr; unfold sCust; rw [hr]
        | ok x =>
          obtain ⟨i, p⟩ := x
          rw [rs_3 hk hr, sDo_3 hk, rs_up h hg (.inr hk) rfl rfl]; rw [if_pos hk] at hr; unfold sCust; rw [hr]
          by_cases he : priceE m s.price ≠ 0
          · simp only [if_pos he]
          · simp only [if_neg he]; rw [(priceV_of he).1]
      · cases hr : refd (if m.kind = 3 then 2 else 1) m s.past with
        | error e =>
          rw [rs_e (.inr (.inl hk)) hr, sDo_4 hk]; rw [if_neg (by omega)] at hr; unfold sSupp; rw [hr]
        | ok x =>
          obtain ⟨i, p⟩ := x
          rw [rs_4 hk hr, sDo_4 hk, rs_down h hg (.inr hk) rfl rfl]; rw [if_neg (by omega)] at hr; unfold sSupp; rw [hr]
          by_cases hlt : s.qty < m.qty
          · simp only [if_pos hlt]
          · simp only [if_neg hlt]
            by_cases he : priceE m s.price ≠ 0
            · simp only [if_pos he]
            · have hp := priceV_of he
              simp only [if_neg he]; rw [neg_neg_W (hp.1 ▸ hp.2), hp.1]
      · cases hr : refd (if m.kind = 3 then 2 else 1) m s.past with
        | error e =>
          rw [rs_e (.inr (.inr hk)) hr, sDo_5 hk]; rw [if_neg (by omega)] at hr; unfold sLand; rw [hr]
        | ok x =>
          obtain ⟨i, p⟩ := x
          rw [rs_5 hk hr, sDo_5 hk, rs_land h]; rw [if_neg (by omega)] at hr; unfold sLand; rw [hr]
      · rw [rs_6 hk, sDo_6 (by omega), rs_repr h hg.c]
  · unfold rsStep sStep
    rw [if_pos h1, if_pos h1]
theorem rsFin_keep {s t : Sk} {m : Mv} {c : Co} {pr cq : Int} {ps : Int → List Pa} {var : Int → Int} (h : rsFin s m pr cq ps var = .ok (t, c)) (hp : 0 ≤ pr) : t.layers = [] ∧ t.value = t.qty * t.price := by
  unfold rsFin at h
  split at h
  · cases h
  rename_i h0
  split at h
  · cases h
  rename_i h1
  split at h
  · cases h
  cases h
  refine ⟨rfl, ?_⟩
  have hmp : 0 ≤ rsQ s cq * pr := Int.mul_nonneg (by omega) hp
  by_cases hb : rsQ s cq * pr ≤ 1000000000000000
  · exact (valN_of hmp).1 hb
  · exact absurd (.inr ((valN_of hmp).2 (by omega))) h1
theorem S3.step {s t : Sk} {m : Mv} {c : Co} (h : S3 s) (hst : sStep s m = .ok (t, c)) : S3 t := by
  have hf := sStep_f h.sg ⟨h.p0, h.p1⟩ hst
  have hg := hf.1.mg
  have hk : t.layers = [] ∧ t.value = t.qty * t.price := by
    rw [← rs_eq h] at hst
    unfold rsStep at hst
    split at hst
    · cases hst
    split at hst
    · cases hst
    unfold rsDo at hst
    split at hst
    · exact rsFin_keep hst h.p0
    split at hst
    · exact rsFin_keep hst h.p0
    split at hst
    · exact rsFin_keep hst hg.c.1
    split at hst
    · cases hst
    split at hst
    · exact rsFin_keep hst h.p0
    split at hst
    · exact rsFin_keep hst h.p0
    · exact rsFin_keep hst h.p0
  exact ⟨hf.2.1, hf.2.2.1, hf.2.2.2, hk.2, hk.1⟩
end Go.SL

namespace Go.SL
open Go
theorem bl_irrefl : ∀ x : List UInt8, Op.bytesLess x x = false
  | [] => rfl
  | a :: x => by
    have h1 : ¬ a < a := by rw [UInt8.lt_iff_toNat_lt]; omega
    simp [Op.bytesLess, h1, bl_irrefl x]
theorem bl_trans : ∀ x y z : List UInt8, Op.bytesLess x y = true → Op.bytesLess y z = true → Op.bytesLess x z = true
  | _, [], _, h, _ => by simp [Op.bytesLess] at h
  | _, _ :: _, [], _, h => by simp [Op.bytesLess] at h
  | [], _ :: _, _ :: _, _, _ => rfl
  | a :: x, b :: y, c :: z, h1, h2 => by
    simp only [Op.bytesLess, Bool.or_eq_true, Bool.and_eq_true, decide_eq_true_eq, beq_iff_eq] at h1 h2 ⊢
    have ih := bl_trans x y z
    rcases h1 with h1 | ⟨rfl, h1⟩ <;> rcases h2 with h2 | ⟨rfl, h2⟩
    · left; rw [UInt8.lt_iff_toNat_lt] at *; omega
    · left; exact h1
    · left; exact h2
    · right; exact ⟨rfl, ih h1 h2⟩
theorem bl_total : ∀ x y : List UInt8, x ≠ y → Op.bytesLess x y = true ∨ Op.bytesLess y x = true
  | [], [], h => absurd rfl h
  | [], _ :: _, _ => .inl rfl
  | _ :: _, [], _ => .inr rfl
  | a :: x, b :: y, h => by
    simp only [Op.bytesLess, Bool.or_eq_true, Bool.and_eq_true, decide_eq_true_eq, beq_iff_eq]
    rcases Nat.lt_trichotomy a.toNat b.toNat with h1 | h1 | h1
    · left; left; rw [UInt8.lt_iff_toNat_lt]; exact h1
    · have e : a = b := UInt8.toNat_inj.1 h1
      subst e
      rcases bl_total x y (fun e => h (by rw [e])) with h2 | h2
      · left; right; exact ⟨rfl, h2⟩
      · right; right; exact ⟨rfl, h2⟩
    · right; left; rw [UInt8.lt_iff_toNat_lt]; exact h1
def blt (a b : ByteArray) : Bool := Op.bytesLess a.toList b.toList
theorem toL_inj {a b : ByteArray} (h : a.toList = b.toList) : a = b := by
  rw [ByteArray.toList_eq, ByteArray.toList_eq] at h
  cases a; cases b
  simp only [ByteArray.mk.injEq] at *
  exact Array.toList_inj.1 h
theorem blt_irrefl (a : ByteArray) : blt a a = false := bl_irrefl _
theorem blt_trans {a b c : ByteArray} (h1 : blt a b = true) (h2 : blt b c = true) : blt a c = true := bl_trans _ _ _ h1 h2
theorem blt_total {a b : ByteArray} (h : a ≠ b) : blt a b = true ∨ blt b a = true := bl_total _ _ fun e => h (toL_inj e)
theorem blt_ne {a b : ByteArray} (h : blt a b = true) : a ≠ b := fun e => by rw [e, blt_irrefl] at h; cases h
theorem blt_asymm {a b : ByteArray} (h : blt a b = true) : blt b a = false := by
  cases hb : blt b a with
  | false => rfl
  | true => have := blt_trans h hb; rw [blt_irrefl] at this; cases this
/-- Sorted by lot, each once. -/
def LS (ls : List Ly) : Prop := ls.Pairwise fun a b => blt a.lot b.lot = true
theorem LS.lt {ls : List Ly} (h : LS ls) {i j : Nat} {x y : Ly} (hx : ls[i]? = some x) (hy : ls[j]? = some y) (hij : i < j) : blt x.lot y.lot = true := by
  obtain ⟨hi, rfl⟩ := List.getElem?_eq_some_iff.1 hx
  obtain ⟨hj, rfl⟩ := List.getElem?_eq_some_iff.1 hy
  exact List.pairwise_iff_getElem.1 h i j hi hj hij
theorem rlF_eq {lot : ByteArray} {ls : List Ly} (h : LS ls) : rlF lot ls = lotF lot ls := by
  unfold rlF
  cases hf : findI (isLot lot) ls with
  | some x =>
    obtain ⟨i, x⟩ := x
    obtain ⟨hx, he⟩ := findI_some hf
    have he : x.lot = lot := of_decide_eq_true he
    have := findI_at hx (show lotB lot x = true by simp [lotB, he]) fun j y hj hy => by
      have hlt := h.lt hy hx hj
      rw [he] at hlt
      have hne := blt_ne hlt
      unfold blt at hlt
      simp [lotB, hne, hlt]
    unfold lotF; rw [this]; simp [he]
  | none =>
    unfold lotF
    cases hg : findI (lotB lot) ls with
    | none => rfl
    | some x =>
      obtain ⟨i, x⟩ := x
      obtain ⟨hx, _⟩ := findI_some hg
      simp only
      rw [if_neg]
      intro he
      have := findI_isSome (f := isLot lot) (List.mem_of_getElem? hx) (decide_eq_true he)
      rw [hf] at this; cases this
theorem findI_cons {α : Type} {f : α → Bool} {l : α} {ls : List α} : findI f (l :: ls) = if f l = true then some (0, l) else (findI f ls).map fun x => (x.1 + 1, x.2) := by
  unfold findI
  rw [List.findIdx?_cons]
  by_cases h : f l = true
  · simp [h]
  · simp only [h]
    cases ls.findIdx? f with
    | none => rfl
    | some j => simp; cases ls[j]? <;> rfl
theorem lotF_nil {lot : ByteArray} : lotF lot [] = none := by unfold lotF findI; simp
theorem lotI_nil {lot : ByteArray} : lotI lot [] = 0 := by unfold lotI findI; simp
theorem lotF_cons {lot : ByteArray} {l : Ly} {ls : List Ly} : lotF lot (l :: ls) = if l.lot = lot then some (0, l) else if lotB lot l = true then none else (lotF lot ls).map fun x => (x.1 + 1, x.2) := by
  unfold lotF
  rw [findI_cons]
  by_cases h : l.lot = lot
  · have hb : lotB lot l = true := by simp [lotB, h]
    rw [if_pos hb, if_pos h]; simp [h]
  · rw [if_neg h]
    by_cases hb : lotB lot l = true
    · rw [if_pos hb, if_pos hb]; simp [h]
    · rw [if_neg hb, if_neg hb]
      cases hf : findI (lotB lot) ls with
      | none => rfl
      | some x => obtain ⟨j, y⟩ := x; simp only [Option.map_some]; split <;> rfl
theorem lotI_cons {lot : ByteArray} {l : Ly} {ls : List Ly} : lotI lot (l :: ls) = if lotB lot l = true then 0 else lotI lot ls + 1 := by
  unfold lotI
  rw [findI_cons]
  by_cases hb : lotB lot l = true
  · rw [if_pos hb, if_pos hb]
  · rw [if_neg hb, if_neg hb]
    cases findI (lotB lot) ls with
    | none => rfl
    | some x => rfl
/-- What 'put' makes of the rest. -/
def putG (lot : ByteArray) (x : Ly) : Bool → List Ly → List Ly
  | d, [] => if d = true then [] else [x]
  | d, l :: ls => (if (!d && !blt l.lot lot) = true then [x] else []) ++ (if l.lot ≠ lot then [l] else []) ++ putG lot x (d || (!d && !blt l.lot lot)) ls
theorem put_G {lot : ByteArray} {x : Ly} : ∀ {ls : List Ly} {d : Bool} {out : List Ly}, putE x (putF lot x (d, out) ls) = out ++ putG lot x d ls
  | [], d, out => by
    unfold putF putE putG
    cases d <;> simp
  | l :: ls, d, out => by
    have e : putF lot x (d, out) (l :: ls) = putF lot x (putS lot x (d, out) l) ls := rfl
    rw [e]
    have e2 : putS lot x (d, out) l = ((putS lot x (d, out) l).1, (putS lot x (d, out) l).2) := rfl
    rw [e2, put_G, putG]
    have e3 : Op.bytesLess l.lot.toList lot.toList = blt l.lot lot := rfl
    unfold putS
    simp only [e3]
    cases d <;> cases blt l.lot lot <;> by_cases h : l.lot = lot <;> simp [h]
theorem G_all {lot : ByteArray} {x : Ly} : ∀ {ls : List Ly}, (∀ l ∈ ls, l.lot ≠ lot) → putG lot x true ls = ls
  | [], _ => rfl
  | l :: ls, h => by
    rw [putG, if_pos (h l (by simp))]
    simp only [Bool.not_true, Bool.false_and, Bool.or_false, Bool.false_eq_true, if_false, List.nil_append]
    rw [G_all fun y hy => h y (by simp [hy])]; rfl
theorem LS.tail {l : Ly} {ls : List Ly} (h : LS (l :: ls)) : LS ls ∧ ∀ y ∈ ls, blt l.lot y.lot = true := ⟨(List.pairwise_cons.1 h).2, (List.pairwise_cons.1 h).1⟩
theorem lotB_blt {lot : ByteArray} {l : Ly} : lotB lot l = !blt l.lot lot := by
  unfold lotB
  have e3 : Op.bytesLess l.lot.toList lot.toList = blt l.lot lot := rfl
  rw [e3]
  by_cases h : l.lot = lot
  · rw [h, blt_irrefl]; simp
  · simp [h]
theorem G_false {lot : ByteArray} {x : Ly} : ∀ {ls : List Ly}, LS ls → putG lot x false ls = match lotF lot ls with | some (i, _) => ls.set i x | none => insL ls (lotI lot ls) x
  | [], _ => by rw [putG, lotF_nil, lotI_nil]; rfl
  | l :: ls, h => by
    obtain ⟨h1, h2⟩ := h.tail
    rw [putG, lotF_cons, lotI_cons, lotB_blt]
    by_cases he : l.lot = lot
    · subst he
      rw [blt_irrefl]
      simp only [Bool.not_false, Bool.and_self, if_true, Bool.or_true, ne_eq, not_true_eq_false, if_false, List.append_nil]
      rw [G_all fun y hy => (blt_ne (h2 y hy)).symm]; rfl
    · cases hb : blt l.lot lot with
      | true =>
        simp only [he, Bool.not_true, Bool.and_false, Bool.false_eq_true, if_false, ne_eq, not_false_eq_true, if_true, List.nil_append, Bool.or_false]
        rw [G_false h1]
        cases lotF lot ls with
        | none => simp [insL]
        | some y => rfl
      | false =>
        simp only [he, Bool.not_false, Bool.and_self, if_true, Bool.or_true, ne_eq, not_false_eq_true, if_false]
        have hgt : blt lot l.lot = true := by
          rcases blt_total he with h3 | h3
          · rw [hb] at h3; cases h3
          · exact h3
        rw [G_all fun y hy => (blt_ne (blt_trans hgt (h2 y hy))).symm]; rfl
theorem G_true {lot : ByteArray} {x : Ly} : ∀ {ls : List Ly}, LS ls → putG lot x true ls = match lotF lot ls with | some (i, _) => ls.eraseIdx i | none => ls
  | [], _ => by rw [putG, lotF_nil]; rfl
  | l :: ls, h => by
    obtain ⟨h1, h2⟩ := h.tail
    rw [putG, lotF_cons, lotB_blt]
    simp only [Bool.not_true, Bool.false_and, Bool.or_false, Bool.false_eq_true, if_false, List.nil_append]
    by_cases he : l.lot = lot
    · subst he
      simp only [ne_eq, not_true_eq_false, if_false, if_true, List.nil_append]
      rw [G_all fun y hy => (blt_ne (h2 y hy)).symm]; rfl
    · cases hb : blt l.lot lot with
      | true =>
        simp only [he, Bool.not_true, Bool.false_eq_true, if_false, ne_eq, not_false_eq_true, if_true]
        rw [G_true h1]
        cases lotF lot ls with
        | none => rfl
        | some y => rfl
      | false =>
        simp only [he, Bool.not_false, if_true, ne_eq, not_false_eq_true, if_false]
        have hgt : blt lot l.lot = true := by
          rcases blt_total he with h3 | h3
          · rw [hb] at h3; cases h3
          · exact h3
        rw [G_all fun y hy => (blt_ne (blt_trans hgt (h2 y hy))).symm]; rfl
theorem putL_eq {ls : List Ly} {lot : ByteArray} {q v : Int} (h : LS ls) : putL ls lot q v = match lotF lot ls with
    | some (i, _) => if q = 0 then ls.eraseIdx i else ls.set i ⟨0, lot, q, v⟩
    | none => if q = 0 then ls else insL ls (lotI lot ls) ⟨0, lot, q, v⟩ := by
  unfold putL
  rw [put_G, List.nil_append]
  by_cases hq : q = 0
  · rw [decide_eq_true hq, G_true h]; cases lotF lot ls <;> simp [hq]
  · rw [decide_eq_false hq, G_false h]; cases lotF lot ls <;> simp [hq]
/-- A state of 'lots'. -/
structure S4 (s : Sk) : Prop where
  sg : SG s
  li : LI s.layers s.qty s.value
  ls : LS s.layers
  z : ∀ l ∈ s.layers, l.seq = 0
theorem W_add_W {a b : Int} : W (a + W (0 - b)) = W (a - b) := by
  unfold W; rw [IntKind.wrap_i64, IntKind.wrap_i64, IntKind.wrap_i64]; omega
theorem rlQV {lot : ByteArray} {ls : List Ly} (h : LS ls) : (∀ i l, lotF lot ls = some (i, l) → rlQ ls lot = l.qty ∧ rlV ls lot = l.value) ∧ (lotF lot ls = none → rlQ ls lot = 0 ∧ rlV ls lot = 0) := by
  unfold rlQ rlV
  rw [rlF_eq h]
  constructor
  · intro i l hf; rw [hf]; exact ⟨rfl, rfl⟩
  · intro hf; rw [hf]; exact ⟨rfl, rfl⟩
theorem addL_take {lot : ByteArray} {ls : List Ly} {i : Nat} {l : Ly} {q : Int} (h : LS ls) (hz : ∀ l ∈ ls, l.seq = 0) (hf : lotF lot ls = some (i, l)) : addL ls lot (W (0 - q)) (W (0 - rlP ls lot q)) = takeL ls i l q := by
  have hqv := (rlQV h).1 i l hf
  obtain ⟨hx, hl, _⟩ := lotF_some hf
  have hz := hz l (List.mem_of_getElem? hx)
  unfold addL rlP
  rw [putL_eq h, hf, hqv.1, hqv.2, W_add_W, W_add_W]
  unfold takeL takeX takeV
  simp only
  by_cases h0 : W (l.qty - q) = 0
  · rw [if_pos h0, if_pos h0]
  · rw [if_neg h0, if_neg h0]
    congr 1
    cases l; simp_all
theorem addL_add {lot : ByteArray} {ls : List Ly} {q v : Int} (h : LS ls) (hg : LGs ls) (hb : sumBy Ly.qty ls ≤ 1000000000) (hz : ∀ l ∈ ls, l.seq = 0) (q0 : 0 ≤ q) (q1 : q ≤ 1000000000) (hn : lotF lot ls = none → q ≠ 0) : addL ls lot q v = addLot ls lot q v := by
  unfold addL addLot
  rw [putL_eq h]
  cases hf : lotF lot ls with
  | none =>
    have hqv := (rlQV h).2 hf
    have := hn hf
    simp only
    rw [hqv.1, hqv.2, W_in (n := 0 + q) ⟨by omega, by omega⟩, if_neg (by omega)]
    unfold bump newLy
    simp only
    rw [W_in (n := 0 + q) ⟨by omega, by omega⟩]
  | some x =>
    obtain ⟨i, l⟩ := x
    have hqv := (rlQV h).1 i l hf
    obtain ⟨hx, hl, _⟩ := lotF_some hf
    have hz := hz l (List.mem_of_getElem? hx)
    have h1 := (hg l (List.mem_of_getElem? hx)).1
    have h2 : l.qty ≤ sumBy Ly.qty ls := sumBy_le hg.q hx
    simp only
    rw [hqv.1, hqv.2, W_in (n := l.qty + q) ⟨by omega, by omega⟩, if_neg (by omega)]
    congr 1
    unfold bump
    rw [W_in (n := l.qty + q) ⟨by omega, by omega⟩]
    cases l; simp_all
theorem rl_do {s : Sk} {m : Mv} (h : S4 s) (hg : MG m) : rlDo s m = lDo s m := by
  have hb : sumBy Ly.qty s.layers ≤ 1000000000 := by rw [h.li.q]; exact h.sg.q1
  have hfine := h.sg.fine
  rcases (show m.kind = 1 ∨ m.kind = 2 ∨ m.kind = 3 ∨ m.kind = 4 ∨ m.kind = 5 ∨ m.kind = 6 by have := hg.k; omega) with hk | hk | hk | hk | hk | hk
  · rw [rlDo_1 hk, lDo_1 hk]; unfold rlRecv lRecv
    have hq := hg.q.2 (by omega)
    rw [addL_add h.ls h.li.g hb h.z (by omega) (by omega) (fun _ => by omega), hk]
  · rw [rlDo_2 hk, lDo_2 hk]; unfold rlIssue lIssue
    rw [rlF_eq h.ls]
    cases hf : lotF m.lot s.layers with
    | none =>
      simp only [idxOf]
      by_cases he : m.lot = ⟨#[]⟩
      · simp only [if_pos he]
      · simp only [if_neg he]; rfl
    | some x =>
      obtain ⟨i, l⟩ := x
      have hqv := (rlQV h.ls).1 i l hf
      simp only [idxOf]
      by_cases he : m.lot = ⟨#[]⟩
      · simp only [if_pos he]
      · have hi0 : ¬ ((i : Int) < 0) := by omega
        simp only [if_neg he, if_neg hi0]
        rw [addL_take h.ls h.z hf, hk]
        simp only [rlP, hqv.1, hqv.2]
        rfl
  · rw [rlDo_3 hk, lDo_3 hk]; unfold rlBack lBack lRef
    have hq := hg.q.2 (by omega)
    cases hr : refd 2 m s.past with
    | error e => rfl
    | ok x =>
      obtain ⟨i, p⟩ := x
      simp only [lBackR]
      rw [addL_add h.ls h.li.g hb h.z (by omega) (by omega) (fun _ => by omega)]
  · rw [rlDo_4 hk, lDo_4 hk]; unfold rlSend lSend lRef
    have hq := hg.q.2 (by omega)
    cases hr : refd 1 m s.past with
    | error e => rfl
    | ok x =>
      obtain ⟨i, p⟩ := x
      simp only [lSendR]
      cases hf : lotF p.lot s.layers with
      | none =>
        have hqv := (rlQV h.ls).2 hf
        simp only
        rw [hqv.1, if_pos (by omega)]
      | some x =>
        obtain ⟨j, l⟩ := x
        have hqv := (rlQV h.ls).1 j l hf
        simp only
        rw [addL_take h.ls h.z hf]
        simp only [rlP, hqv.1, hqv.2]
        rfl
  · rw [rlDo_5 hk, lDo_5 hk]; unfold rlLand lLand lRef
    have hq := hg.q.1 (by omega)
    cases hf : findI (isPast 1 m.ref) s.past with
    | none =>
      have hr : refd 1 m s.past = .error 28 := by unfold refd; rw [hf]
      rw [hr]
    | some x =>
      obtain ⟨i, p⟩ := x
      have hr := refd_fine hf hq (fun i p hx => (hfine i p hx).2)
      rw [hr]
      simp only [lLandR]
      have hQ : qtyLot s.layers p.lot = rlQ s.layers p.lot := by
        unfold qtyLot
        cases hl : lotF p.lot s.layers with
        | none => exact ((rlQV h.ls).2 hl).1.symm
        | some y => obtain ⟨j, l⟩ := y; exact ((rlQV h.ls).1 j l hl).1.symm
      have hM : lotQ s p = rlMin s p := by unfold lotQ rlMin; rw [hQ]
      rw [hM]
      by_cases h0 : rlMin s p = 0
      · rw [if_pos h0, if_pos h0]
      · rw [if_neg h0, if_neg h0]
        by_cases hl : lotF p.lot s.layers = none
        · exfalso
          have := ((rlQV h.ls).2 hl).1
          have hp1 := (h.sg.ps.all p (List.mem_of_getElem? (findI_some hf).1)).q1
          unfold rlMin at h0
          rw [this, if_pos (by omega)] at h0
          exact h0 rfl
        · rw [addL_add h.ls h.li.g hb h.z (by omega) (by omega) (fun e => absurd e hl)]
  · rw [rlDo_0 (by omega), lDo_0 (by omega)]
theorem rl_eq {s : Sk} {m : Mv} (h : S4 s) : rlStep s m = lStep s m := by
  unfold rlStep lStep
  by_cases h1 : m.one = 0
  · rw [rl_do h (MG.of h1)] <;> rfl
  · rw [if_pos h1, if_pos h1]
theorem mem_ins {ls : List Ly} {i : Nat} {x y : Ly} (h : y ∈ insL ls i x) : y = x ∨ y ∈ ls := by
  unfold insL at h
  rw [List.mem_append, List.mem_cons] at h
  rcases h with h | h | h
  · exact .inr (List.mem_of_mem_take h)
  · exact .inl h
  · exact .inr (List.mem_of_mem_drop h)
theorem LS_ins {lot : ByteArray} {x : Ly} (hx : x.lot = lot) : ∀ {ls : List Ly}, LS ls → lotF lot ls = none → LS (insL ls (lotI lot ls) x)
  | [], _, _ => by rw [lotI_nil]; exact List.pairwise_singleton _ _
  | l :: ls, h, hn => by
    obtain ⟨h1, h2⟩ := h.tail
    rw [lotF_cons] at hn
    split at hn
    · cases hn
    rename_i he
    rw [lotI_cons, lotB_blt]
    cases hb : blt l.lot lot with
    | false =>
      have hgt : blt lot l.lot = true := by
        rcases blt_total he with h3 | h3
        · rw [hb] at h3; cases h3
        · exact h3
      simp only [Bool.not_false, if_true]
      refine List.pairwise_cons.2 ⟨fun y hy => ?_, h⟩
      rw [hx]
      rcases List.mem_cons.1 hy with rfl | hy
      · exact hgt
      · exact blt_trans hgt (h2 y hy)
    | true =>
      rw [lotB_blt, hb] at hn
      simp only [Bool.not_true, Bool.false_eq_true, if_false] at hn ⊢
      have hn' : lotF lot ls = none := by cases hl : lotF lot ls with | none => rfl | some y => rw [hl] at hn; cases hn
      refine List.pairwise_cons.2 ⟨fun y hy => ?_, LS_ins hx h1 hn'⟩
      rcases mem_ins hy with rfl | hy
      · rw [hx]; exact hb
      · exact h2 y hy
theorem LS_map {ls : List Ly} : LS ls ↔ (ls.map Ly.lot).Pairwise fun a b => blt a b = true := by
  unfold LS; rw [List.pairwise_map]
theorem LS_set {ls : List Ly} {i : Nat} {l x : Ly} (h : LS ls) (hx : ls[i]? = some l) (he : x.lot = l.lot) : LS (ls.set i x) := by
  rw [LS_map] at h ⊢
  rw [List.map_set, he, set_same (by rw [List.getElem?_map, hx]; rfl)]
  exact h
theorem LS_add {ls : List Ly} {lot : ByteArray} {q v : Int} (h : LS ls) (hz : ∀ l ∈ ls, l.seq = 0) : LS (addLot ls lot q v) ∧ ∀ y ∈ addLot ls lot q v, y.seq = 0 := by
  unfold addLot
  cases hf : lotF lot ls with
  | none => exact ⟨LS_ins (lot := lot) (x := bump (newLy lot) q v) rfl h hf, fun y hy => by rcases mem_ins hy with rfl | hy; rfl; exact hz y hy⟩
  | some x =>
    obtain ⟨i, l⟩ := x
    obtain ⟨hx, hl, _⟩ := lotF_some hf
    exact ⟨LS_set h hx rfl, fun y hy => by rcases mem_set hy with rfl | hy; exact hz l (List.mem_of_getElem? hx); exact hz y hy⟩
theorem LS_take {ls : List Ly} {i : Nat} {l : Ly} {q : Int} (h : LS ls) (hz : ∀ l ∈ ls, l.seq = 0) (hx : ls[i]? = some l) : LS (takeL ls i l q) ∧ ∀ y ∈ takeL ls i l q, y.seq = 0 := by
  unfold takeL
  split
  · exact ⟨h.sublist (List.eraseIdx_sublist _ _), fun y hy => hz y (List.mem_of_mem_eraseIdx hy)⟩
  · exact ⟨LS_set h hx rfl, fun y hy => by rcases mem_set hy with rfl | hy; exact hz l (List.mem_of_getElem? hx); exact hz y hy⟩
theorem lDo_sorted {s t : Sk} {m : Mv} {c : Co} (h : LS s.layers) (hz : ∀ l ∈ s.layers, l.seq = 0) (hd : lDo s m = .ok (t, c)) : LS t.layers ∧ ∀ y ∈ t.layers, y.seq = 0 := by
  unfold lDo at hd
  split at hd
  · unfold lRecv at hd; split at hd <;> cases hd; exact LS_add h hz
  split at hd
  · unfold lIssue at hd
    split at hd
    · cases hd
    · rename_i i l hf
      split at hd
      · cases hd
      · split at hd <;> cases hd
        exact LS_take h hz (lotF_some hf).1
  split at hd
  · unfold lBack lRef at hd
    split at hd
    · cases hd
    · unfold lBackR at hd; cases hd; exact LS_add h hz
  split at hd
  · unfold lSend lRef at hd
    split at hd
    · cases hd
    · unfold lSendR at hd
      split at hd
      · cases hd
      · rename_i j l hf
        split at hd <;> cases hd
        exact LS_take h hz (lotF_some hf).1
  split at hd
  · unfold lLand lRef at hd
    split at hd
    · cases hd
    · unfold lLandR at hd
      split at hd
      · cases hd; exact ⟨h, hz⟩
      · cases hd; exact LS_add h hz
  · cases hd
theorem S4.step {s t : Sk} {m : Mv} {c : Co} (h : S4 s) (hst : lStep s m = .ok (t, c)) : S4 t := by
  have hf := lStep_f h.sg h.li hst
  have hs : LS t.layers ∧ ∀ y ∈ t.layers, y.seq = 0 := by
    unfold lStep at hst
    split at hst
    · cases hst
    split at hst
    · cases hst
    split at hst
    · cases hst
    · rename_i t1 c1 hd
      split at hst <;> cases hst
      exact (show LS t1.layers ∧ ∀ y ∈ t1.layers, y.seq = 0 from lDo_sorted h.ls h.z hd)
  exact ⟨hf.2.1, hf.2.2, hs.1, hs.2⟩
end Go.SL

namespace Go.SL
open Go
structure RInv (k : Int) (s : Sk) : Prop where
  i : Inv k s
  l2 : k = 2 → s.layers = []
  s3 : k = 3 → S3 s
  s4 : k = 4 → S4 s
theorem aStep_lay {s t : Sk} {m : Mv} {c : Co} (h : aStep s m = .ok (t, c)) : t.layers = s.layers := by
  unfold aStep at h
  split at h
  · cases h
  split at h
  · cases h
  split at h
  · cases h
  · rename_i t1 c1 hd
    split at h <;> cases h
    exact (show t1.layers = s.layers from aDo_layers hd)
theorem rStepM_eq {k : Int} {s : Sk} {m : Mv} (h : RInv k s) : rStepM k s m = stepM k s m := by
  by_cases h1 : k = 1
  · rw [rStepM_1 h1, stepM_1 h1]
  by_cases h2 : k = 2
  · rw [rStepM_2 h2, stepM_2 h2]
  by_cases h3 : k = 3
  · rw [rStepM_3 h3, stepM_3 h3, rs_eq (h.s3 h3)]
  by_cases h4 : k = 4
  · rw [rStepM_4 h4, stepM_4 h4, rl_eq (h.s4 h4)]
  · rw [rStepM_0 ⟨h1, h2, h3, h4⟩, stepM_0 ⟨h1, h2, h3, h4⟩]
theorem RInv.step {k : Int} {s t : Sk} {m : Mv} {c : Co} (h : RInv k s) (hst : stepM k s m = .ok (t, c)) : RInv k t :=
  ⟨(stepM_f h.i hst).2, fun hk => by rw [stepM_2 hk] at hst; rw [aStep_lay hst]; exact h.l2 hk, fun hk => by rw [stepM_3 hk] at hst; exact (h.s3 hk).step hst, fun hk => by rw [stepM_4 hk] at hst; exact (h.s4 hk).step hst⟩
theorem RInv.fine {k : Int} {s : Sk} (h : RInv k s) : s.fine := h.i.sg.fine
theorem start_rinv {k p : Int} : RInv k (start0 k p) := by
  have hi := start_inv k p
  have hl := start0_l k p
  refine ⟨hi, fun _ => hl, fun hk => ?_, fun hk => ⟨hi.sg, hi.li (.inr hk), by rw [hl]; exact List.Pairwise.nil, fun l h => by rw [hl] at h; cases h⟩⟩
  have hp := hi.pr hk
  exact ⟨hi.sg, hp.1, hp.2, by rw [start0_v, start0_q, Int.zero_mul], hl⟩
end Go.SL

namespace Go.SL
open Go
theorem pk {L M : List HP} {A : HP} (p : Pick L A M := by repeat (first | exact Pick.here | apply Pick.there)) : Pick L A M := p
theorem up {L L' : List HP} {A B : HP} (p : Upd L A B L' := by repeat (first | exact Upd.here | apply Upd.there)) : Upd L A B L' := p
theorem tks {L M As : List HP} (p : Takes L As M := by repeat (first | exact Takes.nil | (apply Takes.cons; · repeat (first | exact Pick.here | apply Pick.there)))) : Takes L As M := p
theorem gv {L M : List HP} (p : Gives L M := by repeat (first | exact Gives.nil | (apply Gives.cons; · repeat (first | exact Pick.here | apply Pick.there)))) : Gives L M := p
theorem po {pend : Pend} {L : List HP} (p : PendOk pend L := by repeat (first | exact PendOk.nil | (apply PendOk.cons; · repeat (first | exact Gives.nil | (apply Gives.cons; · repeat (first | exact Pick.here | apply Pick.there)))))) : PendOk pend L := p
theorem kr {α : Type} {a b : α} (h : a = b := by kernel_rfl) : a = b := h
def Env.pick : List Nat → Env → Option Env
  | [], _ => some []
  | k :: ks, E => match E.get k with
    | none => none
    | some v => match Env.pick ks E with
      | none => none
      | some E' => some ((k, v) :: E')
theorem kt : ∀ {ks : List Nat} {E E' : Env}, E.pick ks = some E' → Keep ks E E'
  | [], E, E', h => by cases h; exact .nil
  | k :: ks, E, E', h => by
    unfold Env.pick at h
    split at h
    · cases h
    · rename_i v hv
      split at h
      · cases h
      · rename_i E2 he; cases h; exact .cons hv (kt he)
section
variable {P : Program} {β : Base} {n : Nat} {arr : Array Oper} {os : List Oper} {E E' : Env} {L : List HP} {K : Env → List HP → Prop} {d : Option Tmp} {ty : TypeId} {pos : String} {af : Array Edge} {x : Operand} {v : Value} {Q : Po}
theorem asg (hd : dstOk n d = true) (hx : E.ev x = some v) (h : RunL P β n arr os (E.put d v) L K) : RunL P β n arr (⟨d, .assign x, ty, pos, af, none⟩ :: os) E L K := RunL.op hd rfl (OpJ.assign hx h)
theorem mvo (hd : dstOk n d = true) (hx : E.ev x = some v) (h : RunL P β n arr os (E.put d v) L K) : RunL P β n arr (⟨d, .move x, ty, pos, af, none⟩ :: os) E L K := RunL.op hd rfl (OpJ.move hx h)
theorem kp (ks : List Nat) (hk : E.pick ks = some E') (h : K E' L) : RunL P β n arr [] E L K := RunL.keep (kt hk) h
theorem sr {id : Nat} {y : Code} (h : RunL P β n arr arr.toList E L fun E' L' => Run P β n y E' L' Q) : Run P β n (.seq (.region id arr false) y) E L Q := Run.seq (Run.region h)
variable {ops : Array Oper} {fuel : Nat} {listed : Array Bool} {pend : Pend}
theorem kd (ks : List Nat) (hk : E.pick ks = some E') (h : K E' L) (hr : Region.ready .any ops listed = [] := by kernel_rfl) : RunD P β n ops fuel listed pend E L K := RunD.keep hr (kt hk) h
theorem tk (i : Nat) {o : Oper} {v : Value} (hi : ops[i]? = some o) (hg : o.guard = none) (hd : dstOk n o.dst = true) (hy : DetJ P β E [] o v) (h : RunD P β n ops fuel (listed.setIfInBounds i true) ((i, []) :: pend) (E.put o.dst v) L K)
    (hchk : (Region.noSelect ops && Region.free .any ops listed i && (Region.ready .any ops listed).contains i) = true := by kernel_rfl) : RunD P β n ops (fuel + 1) listed pend E L K := RunD.take (Ls := []) i hi hg hd hchk hy .nil h
end
theorem bs : (∀ {α : Type} {a : α} {us : List α}, (a :: us).length = us.length + 1) ∧ (∀ {α : Type}, ([] : List α).length = 0) ∧ (∀ {α : Type} {a : α} {us : List α} {i : Nat}, (a :: us).take (i + 1) = a :: us.take i) ∧ (∀ {α : Type} {us : List α}, us.take 0 = []) ∧
    (∀ {α : Type} {a : α} {us : List α} {i : Nat}, (a :: us).drop (i + 1) = us.drop i) ∧ (∀ {α : Type} {us : List α}, us.drop 0 = us) ∧ (∀ {α : Type} {i : Nat}, ([] : List α).drop i = []) ∧ (∀ {α : Type} {a : α} {us vs : List α}, a :: us ++ vs = a :: (us ++ vs)) ∧
    (∀ {α : Type} {us : List α}, [] ++ us = us) ∧ (∀ {α : Type} {us : List α}, us ++ [] = us) ∧ (∀ {α : Type} {a : α} {us : List α} {i : Nat}, (a :: us)[i + 1]? = us[i]?) ∧ (∀ {α : Type} {a : α} {us : List α}, (a :: us)[0]? = some a) ∧
    (∀ n : Nat, 0 + n = n) ∧ (∀ n : Nat, n + 0 = n) ∧ (∀ n : Nat, (n ≤ n) = True) ∧ (∀ n : Nat, (0 < n.succ) = True) ∧ (∀ p : Prop, (p ∧ p) = p) ∧ (∀ p : Prop, (p ∧ True) = p) ∧ (∀ p : Prop, (True ∧ p) = p) ∧ (∀ {α : Type} (a b : α), (if True then a else b) = a) ∧ (∀ {α : Type} (a b : α), (some a = some b) = (a = b)) := by
  refine ⟨?_, ?_, ?_, ?_, ?_, ?_, ?_, ?_, ?_, ?_, ?_, ?_, ?_, ?_, ?_, ?_, ?_, ?_, ?_, ?_, ?_⟩ <;> simp
end Go.SL

namespace Go.SL
open Go
/-- What is told of a type's description. -/
class UI (P : Program) (t : TypeId) (d : outParam TypeDesc) : Prop where
  eq : P.underlying t = some d
theorem UI.some {P : Program} {t : TypeId} {d : TypeDesc} (u : UI P t d) : (P.underlying t).isSome = true := by rw [u.eq]; rfl
class SoI (P : Program) (t : TypeId) : Prop where
  eq : (P.underlying t).isSome = true
class PI (P : Program) (t : TypeId) : Prop where
  eq : P.underlying t = some (.pointer (P.pointee t))
structure Hold (G : Prop) : Prop where
  of : G
/-- 'RunL' with a count of the operations that are to be taken. -/
structure Sts (P : Program) (β : Base) (n : Nat) (arr : Array Oper) (k : Nat) (os : List Oper) (E : Env) (L : List HP) (K : Env → List HP → Prop) : Prop where
  of : RunL P β n arr os E L K
section
variable {P : Program} {β : Base} {n k : Nat} {arr : Array Oper} {os : List Oper} {E : Env} {L : List HP} {K : Value → List HP → Prop} {H : Env → List HP → Prop} {d : Option Tmp} {op : Op} {ty : TypeId} {pos : String} {af : Array Edge} {x y : Operand} {u v : Value} {t t' : TypeId} {g : Option (Nat × Bool)}
theorem OpJ.up {o : Oper} {K' : Value → List HP → Prop} (h : OpJ P β E L o K) (hk : ∀ v L, K v L → K' v L) : OpJ P β E L o K' := fun a w ha hs next Q hn => h a w ha hs next Q fun v L' w' hK hs' => hn v L' w' (hk v L' hK) hs'
theorem Sts.done (h : RunL P β n arr os E L H) : Sts P β n arr 0 os E L H := ⟨h⟩
theorem Sts.o1 (hd : dstOk n d = true) (h : OpJ P β E L ⟨d, op, ty, pos, af, none⟩ fun v L1 => Sts P β n arr k os (E.put d v) L1 H) : Sts P β n arr (k + 1) (⟨d, op, ty, pos, af, none⟩ :: os) E L H :=
  ⟨RunL.op hd rfl (h.up fun v L1 h => h.of)⟩
theorem Sts.yes {j : Nat} {b : Bool} {gd : Tmp} (hd : dstOk n d = true) (hj : (arr[j]?).bind (·.dst) = some gd) (hb : E.get gd = some u) (hu : u = .bool b)
    (h : OpJ P β E L ⟨d, op, ty, pos, af, some (j, b)⟩ fun v L1 => Sts P β n arr k os (E.put d v) L1 H) : Sts P β n arr (k + 1) (⟨d, op, ty, pos, af, some (j, b)⟩ :: os) E L H :=
  ⟨RunL.yes hd rfl hj (by rw [hb, hu]) (h.up fun v L1 h => h.of)⟩
theorem Sts.noT {j : Nat} {gd : Tmp} (hd : dstOk n d = true) (hj : (arr[j]?).bind (·.dst) = some gd) (hb : E.get gd = some u) (hu : u = .bool false)
    (h : Sts P β n arr k os (E.put d undef) L H) : Sts P β n arr (k + 1) (⟨d, op, ty, pos, af, some (j, true)⟩ :: os) E L H :=
  ⟨RunL.no hd rfl hj (by rw [hb, hu]; rfl) h.of⟩
theorem Sts.noF {j : Nat} {gd : Tmp} (hd : dstOk n d = true) (hj : (arr[j]?).bind (·.dst) = some gd) (hb : E.get gd = some u) (hu : u = .bool true)
    (h : Sts P β n arr k os (E.put d undef) L H) : Sts P β n arr (k + 1) (⟨d, op, ty, pos, af, some (j, false)⟩ :: os) E L H :=
  ⟨RunL.no hd rfl hj (by rw [hb, hu]; rfl) h.of⟩
theorem Sts.undef {j : Nat} {b : Bool} {gd : Tmp} (hd : dstOk n d = true) (hj : (arr[j]?).bind (·.dst) = some gd) (hb : E.get gd = some u) (hu : u = Go.undef)
    (h : Sts P β n arr k os (E.put d Go.undef) L H) : Sts P β n arr (k + 1) (⟨d, op, ty, pos, af, some (j, b)⟩ :: os) E L H :=
  ⟨RunL.undef hd rfl hj (by rw [hb, hu]) h.of⟩
theorem OpJ.pickXT {c : Operand} (hc : E.ev c = some u) (hu : u = .bool true) (hx : E.ev x = some v) (k : K v L) : OpJ P β E L ⟨d, .pick c x y, ty, pos, af, g⟩ K := OpJ.pickT (hu ▸ hc) hx k
theorem OpJ.pickXF {c : Operand} (hc : E.ev c = some u) (hu : u = .bool false) (hy : E.ev y = some v) (k : K v L) : OpJ P β E L ⟨d, .pick c x y, ty, pos, af, g⟩ K := OpJ.pickF (hu ▸ hc) hy k
theorem OpJ.notXT (hx : E.ev x = some u) (hu : u = .bool true) (h : K (.bool false) L) : OpJ P β E L ⟨d, .unOp .not t x, ty, pos, af, g⟩ K := OpJ.not (b := true) (hu ▸ hx) h
theorem OpJ.notXF (hx : E.ev x = some u) (hu : u = .bool false) (h : K (.bool true) L) : OpJ P β E L ⟨d, .unOp .not t x, ty, pos, af, g⟩ K := OpJ.not (b := false) (hu ▸ hx) h
theorem OpJ.buildX {zs cs : List Value} {places : List (Nat × Nat)} {xs : List (Nat × Operand)} {ps : List (Nat × Value)} (B : BI P t zs places) (hx : E.evp xs = some ps) (hb : bldL places zs ps = some cs) (h : K (.agg ⟨cs⟩) L) : OpJ P β E L ⟨d, .build t ⟨xs⟩, ty, pos, af, g⟩ K :=
  OpJ.build B hx (by rw [hb]; rfl) fun cs' h' => by cases hb.symm.trans h'; exact h
theorem OpJ.buildArrX {zs cs : List Value} {xs : List (Nat × Operand)} {ps : List (Nat × Value)} (B : BAI P t zs) (hx : E.evp xs = some ps) (hb : bldA zs ps = some cs) (h : K (.agg ⟨cs⟩) L) : OpJ P β E L ⟨d, .build t ⟨xs⟩, ty, pos, af, g⟩ K :=
  OpJ.buildArr B hx (by rw [hb]; rfl) fun cs' h' => by cases hb.symm.trans h'; exact h
theorem bx1 {α : Type} : Value.bool (!(none : Option α).isSome) = .bool true := rfl
theorem bx2 {α : Type} {a : α} : Value.bool (!(some a).isSome) = .bool false := rfl
theorem bx3 {α : Type} : Value.bool ((none : Option α).isSome) = .bool false := rfl
theorem bx4 {α : Type} {a : α} : Value.bool ((some a).isSome) = .bool true := rfl
theorem bx5 {α : Type} : Value.bool ((none : Option α).isNone) = .bool true := rfl
theorem bx6 {α : Type} {a : α} : Value.bool ((some a).isNone) = .bool false := rfl
theorem bx7 : Value.bool (!true) = .bool false := rfl
theorem bx8 : Value.bool (!false) = .bool true := rfl
theorem bx9 {α : Type} : Value.bool (!(none : Option α).isNone) = .bool false := rfl
theorem bx10 {α : Type} {a : α} : Value.bool (!(some a).isNone) = .bool true := rfl
/-! what kind of operation it is -/
section
variable {bo : BinOp} {uo : UnOp} {xs : Array (Nat × Operand)} {cc : Call} {z : Operand} {i : Nat}
theorem gLd (h : OpJ P β E L ⟨d, .load t x, ty, pos, af, g⟩ K) : OpJ P β E L ⟨d, .load t x, ty, pos, af, g⟩ K := h
theorem gSt (h : OpJ P β E L ⟨d, .store t x y, ty, pos, af, g⟩ K) : OpJ P β E L ⟨d, .store t x y, ty, pos, af, g⟩ K := h
theorem gAdd (h : OpJ P β E L ⟨d, .binOp .add t x y t', ty, pos, af, g⟩ K) : OpJ P β E L ⟨d, .binOp .add t x y t', ty, pos, af, g⟩ K := h
theorem gSub (h : OpJ P β E L ⟨d, .binOp .sub t x y t', ty, pos, af, g⟩ K) : OpJ P β E L ⟨d, .binOp .sub t x y t', ty, pos, af, g⟩ K := h
theorem gBin (h : OpJ P β E L ⟨d, .binOp bo t x y t', ty, pos, af, g⟩ K) : OpJ P β E L ⟨d, .binOp bo t x y t', ty, pos, af, g⟩ K := h
theorem gUn (h : OpJ P β E L ⟨d, .unOp uo t x, ty, pos, af, g⟩ K) : OpJ P β E L ⟨d, .unOp uo t x, ty, pos, af, g⟩ K := h
theorem gIA (h : OpJ P β E L ⟨d, .indexAddr t x y, ty, pos, af, g⟩ K) : OpJ P β E L ⟨d, .indexAddr t x y, ty, pos, af, g⟩ K := h
theorem gBld (h : OpJ P β E L ⟨d, .build t xs, ty, pos, af, g⟩ K) : OpJ P β E L ⟨d, .build t xs, ty, pos, af, g⟩ K := h
theorem gCall (h : OpJ P β E L ⟨d, .call cc, ty, pos, af, g⟩ K) : OpJ P β E L ⟨d, .call cc, ty, pos, af, g⟩ K := h
theorem gPick (h : OpJ P β E L ⟨d, .pick x y z, ty, pos, af, g⟩ K) : OpJ P β E L ⟨d, .pick x y z, ty, pos, af, g⟩ K := h
theorem gFld (h : OpJ P β E L ⟨d, .field t x i, ty, pos, af, g⟩ K) : OpJ P β E L ⟨d, .field t x i, ty, pos, af, g⟩ K := h
theorem gCv (h : OpJ P β E L ⟨d, .convert t t' x, ty, pos, af, g⟩ K) : OpJ P β E L ⟨d, .convert t t' x, ty, pos, af, g⟩ K := h
theorem gQuo (h : OpJ P β E L ⟨d, .binOp .quo t x y t', ty, pos, af, g⟩ K) : OpJ P β E L ⟨d, .binOp .quo t x y t', ty, pos, af, g⟩ K := h
theorem gRem (h : OpJ P β E L ⟨d, .binOp .rem t x y t', ty, pos, af, g⟩ K) : OpJ P β E L ⟨d, .binOp .rem t x y t', ty, pos, af, g⟩ K := h
theorem gShl (h : OpJ P β E L ⟨d, .binOp .shl t x y t', ty, pos, af, g⟩ K) : OpJ P β E L ⟨d, .binOp .shl t x y t', ty, pos, af, g⟩ K := h
theorem gShr (h : OpJ P β E L ⟨d, .binOp .shr t x y t', ty, pos, af, g⟩ K) : OpJ P β E L ⟨d, .binOp .shr t x y t', ty, pos, af, g⟩ K := h
end
end
end Go.SL
namespace Go.SL
open Go
section
variable {P : Program} {β : Base} {n : Nat} {arr : Array Oper} {os : List Oper} {E : Env} {L : List HP} {H : Env → List HP → Prop}
/-- The next 'k' operations. -/
theorem sx (k : Nat) {G : (Env → List HP → Prop) → Prop} (h : G H) (s : ∀ H', Hold (G H') → Sts P β n arr k os E L H' := by intro H' hk; repeat (first | exact Sts.done hk.of | ((first | refine Sts.o1 rfl ?_ | refine Sts.yes rfl rfl rfl (by with_reducible first | exact rfl | exact bx1 | exact bx2 | exact bx3 | exact bx4 | exact bx5 | exact bx6 | exact bx7 | exact bx8 | exact bx9 | exact bx10) ?_); (first | refine OpJ.move rfl ?_ | refine OpJ.assign rfl ?_ | refine OpJ.fieldAddr inferInstance rfl ?_ | (refine gLd ?_; first | refine OpJ.loadF inferInstance rfl pk (by rfl) ?_ | refine OpJ.loadO inferInstance rfl pk (by assumption) (by rfl) (by exact fun _ => rfl) ?_ | refine OpJ.loadW inferInstance rfl pk (by rfl) ?_ | refine OpJ.loadP inferInstance rfl pk (by simp) ?_ | refine OpJ.loadE inferInstance rfl pk (by assumption) (by exact fun _ => rfl) rfl (by decide) ?_) | refine OpJ.extract rfl rfl ?_ | (refine gPick ?_; first | refine OpJ.pickXT rfl (by with_reducible first | exact rfl | exact bx1 | exact bx2 | exact bx3 | exact bx4 | exact bx5 | exact bx6 | exact bx7 | exact bx8 | exact bx9 | exact bx10) rfl ?_ | refine OpJ.pickXF rfl (by with_reducible first | exact rfl | exact bx1 | exact bx2 | exact bx3 | exact bx4 | exact bx5 | exact bx6 | exact bx7 | exact bx8 | exact bx9 | exact bx10) rfl ?_ | refine OpJ.pick rfl rfl rfl ?_) | (refine gSt ?_; first | refine OpJ.storeW inferInstance rfl rfl rfl rfl (by simp [Value.oneCell', Pa.c, Ly.c, Mv.c, Co.c]) up ?_ | refine OpJ.store1 inferInstance rfl rfl rfl up (by simp) ?_ | refine OpJ.store inferInstance rfl rfl rfl rfl (by simp [Value.cells, Value.oneCell', Pa.c, Ly.c, Mv.c, Co.c]) up (by simp) ?_) | (refine gAdd ?_; first | refine OpJ.addI rfl rfl (by omega) ?_ | refine OpJ.add rfl rfl ?_) | (refine gSub ?_; first | refine OpJ.subI rfl rfl (by omega) ?_ | refine OpJ.sub rfl rfl ?_) | (refine gQuo ?_; first | refine OpJ.quo rfl rfl (by omega) ?_) | (refine gRem ?_; first | refine OpJ.rem rfl rfl (by omega) ?_) | (refine gShl ?_; first | refine OpJ.shl rfl rfl (by omega) ?_) | (refine gShr ?_; first | refine OpJ.shr rfl rfl (by omega) ?_) | (refine gBin ?_; first | refine OpJ.eql rfl rfl ?_ | refine OpJ.neq rfl rfl ?_ | refine OpJ.lss rfl rfl ?_ | refine OpJ.gtr rfl rfl ?_ | refine OpJ.leq rfl rfl ?_ | refine OpJ.geq rfl rfl ?_ | refine OpJ.mul rfl rfl ?_ | refine OpJ.eqlS rfl rfl ?_ | refine OpJ.neqS rfl rfl ?_ | refine OpJ.lssS rfl rfl ?_ | refine OpJ.gtrS rfl rfl ?_ | refine OpJ.geqS rfl rfl ?_ | refine OpJ.eqlNil PI.eq rfl ?_ | refine OpJ.neqNil PI.eq rfl ?_ | refine OpJ.eqlNilSl inferInstance rfl ?_ | refine OpJ.eqlA inferInstance rfl rfl rfl ?_ | refine OpJ.neqA inferInstance rfl rfl rfl ?_ | refine OpJ.eqlB UI.eq rfl rfl ?_ | refine OpJ.neqB UI.eq rfl rfl ?_ | refine OpJ.band rfl rfl ?_ | refine OpJ.bor rfl rfl ?_) | refine OpJ.nilCheck rfl ?_ | (refine gCall ?_; first | refine OpJ.len inferInstance rfl ?_ | refine OpJ.lenS UI.eq rfl ?_ | refine OpJ.min rfl rfl ?_) | (refine gIA ?_; first | refine OpJ.indexAddr inferInstance rfl rfl (by omega) ?_ | refine OpJ.indexAddrArr inferInstance rfl rfl (by omega) ?_) | (refine gUn ?_; first | refine OpJ.notXT rfl (by with_reducible first | exact rfl | exact bx1 | exact bx2 | exact bx3 | exact bx4 | exact bx5 | exact bx6 | exact bx7 | exact bx8 | exact bx9 | exact bx10) ?_ | refine OpJ.notXF rfl (by with_reducible first | exact rfl | exact bx1 | exact bx2 | exact bx3 | exact bx4 | exact bx5 | exact bx6 | exact bx7 | exact bx8 | exact bx9 | exact bx10) ?_ | refine OpJ.not rfl ?_ | refine OpJ.neg rfl ?_) | (refine gCv ?_; first | refine OpJ.conv SoI.eq UI.eq rfl ?_) | (refine gFld ?_; first | refine OpJ.fieldA inferInstance inferInstance rfl ?_ | refine OpJ.field1 inferInstance inferInstance rfl (by rfl) ?_) | refine OpJ.makeFunc rfl rfl ?_ | (refine gBld ?_; first | refine OpJ.buildX inferInstance rfl (by simp only [Sk.c, Mv.c, Co.c, bldL, Value.cells, bs, Nat.reduceAdd, Nat.reduceLeDiff, Nat.reduceLT]; rfl) ?_ | refine OpJ.buildArrX inferInstance rfl (by simp only [bldA, Value.cells, bs, Nat.reduceAdd, Nat.reduceLeDiff, Nat.reduceLT]; rfl) ?_))) | refine Sts.noT rfl rfl rfl (by with_reducible first | exact rfl | exact bx1 | exact bx2 | exact bx3 | exact bx4 | exact bx5 | exact bx6 | exact bx7 | exact bx8 | exact bx9 | exact bx10) ?_ | refine Sts.noF rfl rfl rfl (by with_reducible first | exact rfl | exact bx1 | exact bx2 | exact bx3 | exact bx4 | exact bx5 | exact bx6 | exact bx7 | exact bx8 | exact bx9 | exact bx10) ?_ | refine Sts.undef rfl rfl rfl (by with_reducible first | exact rfl | exact bx1 | exact bx2 | exact bx3 | exact bx4 | exact bx5 | exact bx6 | exact bx7 | exact bx8 | exact bx9 | exact bx10) ?_)) : RunL P β n arr os E L H := (s H ⟨h⟩).of
/-- The same where guards are told by computing. -/
theorem sy (k : Nat) {G : (Env → List HP → Prop) → Prop} (h : G H) (s : ∀ H', Hold (G H') → Sts P β n arr k os E L H' := by intro H' hk; repeat (first | exact Sts.done hk.of | ((first | refine Sts.o1 rfl ?_ | refine Sts.yes rfl rfl rfl (by rfl) ?_); (first | refine OpJ.move rfl ?_ | refine OpJ.assign rfl ?_ | refine OpJ.fieldAddr inferInstance rfl ?_ | (refine gLd ?_; first | refine OpJ.loadF inferInstance rfl pk (by rfl) ?_ | refine OpJ.loadO inferInstance rfl pk (by assumption) (by rfl) (by exact fun _ => rfl) ?_ | refine OpJ.loadW inferInstance rfl pk (by rfl) ?_ | refine OpJ.loadP inferInstance rfl pk (by simp) ?_ | refine OpJ.loadE inferInstance rfl pk (by assumption) (by exact fun _ => rfl) rfl (by decide) ?_) | refine OpJ.extract rfl rfl ?_ | (refine gPick ?_; first | refine OpJ.pickXT rfl (by rfl) rfl ?_ | refine OpJ.pickXF rfl (by rfl) rfl ?_ | refine OpJ.pick rfl rfl rfl ?_) | (refine gSt ?_; first | refine OpJ.storeW inferInstance rfl rfl rfl rfl (by simp [Value.oneCell', Pa.c, Ly.c, Mv.c, Co.c]) up ?_ | refine OpJ.store1 inferInstance rfl rfl rfl up (by simp) ?_ | refine OpJ.store inferInstance rfl rfl rfl rfl (by simp [Value.cells, Value.oneCell', Pa.c, Ly.c, Mv.c, Co.c]) up (by simp) ?_) | (refine gAdd ?_; first | refine OpJ.addI rfl rfl (by omega) ?_ | refine OpJ.add rfl rfl ?_) | (refine gSub ?_; first | refine OpJ.subI rfl rfl (by omega) ?_ | refine OpJ.sub rfl rfl ?_) | (refine gQuo ?_; first | refine OpJ.quo rfl rfl (by omega) ?_) | (refine gRem ?_; first | refine OpJ.rem rfl rfl (by omega) ?_) | (refine gShl ?_; first | refine OpJ.shl rfl rfl (by omega) ?_) | (refine gShr ?_; first | refine OpJ.shr rfl rfl (by omega) ?_) | (refine gBin ?_; first | refine OpJ.eql rfl rfl ?_ | refine OpJ.neq rfl rfl ?_ | refine OpJ.lss rfl rfl ?_ | refine OpJ.gtr rfl rfl ?_ | refine OpJ.leq rfl rfl ?_ | refine OpJ.geq rfl rfl ?_ | refine OpJ.mul rfl rfl ?_ | refine OpJ.eqlS rfl rfl ?_ | refine OpJ.neqS rfl rfl ?_ | refine OpJ.lssS rfl rfl ?_ | refine OpJ.gtrS rfl rfl ?_ | refine OpJ.geqS rfl rfl ?_ | refine OpJ.eqlNil PI.eq rfl ?_ | refine OpJ.neqNil PI.eq rfl ?_ | refine OpJ.eqlNilSl inferInstance rfl ?_ | refine OpJ.eqlA inferInstance rfl rfl rfl ?_ | refine OpJ.neqA inferInstance rfl rfl rfl ?_ | refine OpJ.eqlB UI.eq rfl rfl ?_ | refine OpJ.neqB UI.eq rfl rfl ?_ | refine OpJ.band rfl rfl ?_ | refine OpJ.bor rfl rfl ?_) | refine OpJ.nilCheck rfl ?_ | (refine gCall ?_; first | refine OpJ.len inferInstance rfl ?_ | refine OpJ.lenS UI.eq rfl ?_ | refine OpJ.min rfl rfl ?_) | (refine gIA ?_; first | refine OpJ.indexAddr inferInstance rfl rfl (by omega) ?_ | refine OpJ.indexAddrArr inferInstance rfl rfl (by omega) ?_) | (refine gUn ?_; first | refine OpJ.notXT rfl (by rfl) ?_ | refine OpJ.notXF rfl (by rfl) ?_ | refine OpJ.not rfl ?_ | refine OpJ.neg rfl ?_) | (refine gCv ?_; first | refine OpJ.conv SoI.eq UI.eq rfl ?_) | (refine gFld ?_; first | refine OpJ.fieldA inferInstance inferInstance rfl ?_ | refine OpJ.field1 inferInstance inferInstance rfl (by rfl) ?_) | refine OpJ.makeFunc rfl rfl ?_ | (refine gBld ?_; first | refine OpJ.buildX inferInstance rfl (by simp only [Sk.c, Mv.c, Co.c, bldL, Value.cells, bs, Nat.reduceAdd, Nat.reduceLeDiff, Nat.reduceLT]; rfl) ?_ | refine OpJ.buildArrX inferInstance rfl (by simp only [bldA, Value.cells, bs, Nat.reduceAdd, Nat.reduceLeDiff, Nat.reduceLT]; rfl) ?_))) | refine Sts.noT rfl rfl rfl (by rfl) ?_ | refine Sts.noF rfl rfl rfl (by rfl) ?_ | refine Sts.undef rfl rfl rfl (by rfl) ?_)) : RunL P β n arr os E L H := (s H ⟨h⟩).of
end
end Go.SL
