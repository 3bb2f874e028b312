/-
  A part of the proof: see the text of the law.
-/
import Derived.Test.YtmmedfdilaijhaaPag
set_option linter.unusedSimpArgs false
set_option linter.unusedVariables false
namespace Go.Proofs.Try
open Go.Al
set_option linter.unusedVariables false
set_option linter.unusedSimpArgs false

theorem place_inv {l : List Int} {tx : Int} (h : 0 < placeH l tx) : ∃ q, q < l.length ∧ l.getD q 0 = tx ∧ placeH l tx = (q : Int) + 1 ∧ tx ≠ 0 := by
  unfold placeH at *
  by_cases hz : tx = 0
  · rw [if_pos hz] at h; omega
  · rw [if_neg hz] at h ⊢
    cases hf : l.findIdx? (fun t => decide (t = tx)) with
    | none => rw [hf] at h; simp at h
    | some i =>
      obtain ⟨h1, h2, _⟩ := List.findIdx?_eq_some_iff_getElem.1 hf
      refine ⟨i, h1, ?_, rfl, hz⟩
      rw [List.getD_eq_getElem?_getD, List.getElem?_eq_getElem h1, Option.getD_some]
      simpa using h2
theorem difW_inj {ws : List Wr} (h : difW ws) {a b : Wr} (ha : a ∈ ws) (hb : b ∈ ws) (e : a.key = b.key) : a = b := by
  induction ws with
  | nil => simp at ha
  | cons w ws ih =>
    obtain ⟨h1, h2⟩ := List.pairwise_cons.1 h
    rcases List.mem_cons.1 ha with ha' | ha' <;> rcases List.mem_cons.1 hb with hb' | hb'
    · rw [ha', hb']
    · rw [ha'] at e; exact absurd e (h1 b hb')
    · rw [hb'] at e; exact absurd e.symm (h1 a ha')
    · exact ih h2 ha' hb'
section
variable {h : List Hap} {order : List Int} {i : Nat} {W : List (Int × List Wr)} {D : List (Int × Wr)} {lm : List ((Int × Int) × Int)}
/-- What a checked history sees at a place. -/
theorem see_facts (hr : rightB h = true) (hc : checkH h order = -1) (hi : i < h.length) (hk : (h.getD i default).k = 5) :
    (h.getD i default).rs = stL h order (h.getD i default).st.toNat ∧ 0 ≤ (h.getD i default).st ∧ (h.getD i default).st ≤ order.length ∧ onceB order = true ∧
      ∀ p, p < (h.getD i default).st.toNat → order.getD p 0 ≠ 0 → ∃ j, h.findIdx? (isAsk (order.getD p 0)) = some j ∧ j < i := by
  obtain ⟨hb, he⟩ := check_ok.1 hc
  unfold endOk at he
  rw [Bool.and_eq_true, Bool.and_eq_true, decide_eq_true_eq] at he
  have hbi := hb i hi
  have hev := right_at hr hi
  rw [eventOk_eq, Bool.and_eq_true] at hev
  have h7 := hev.2
  simp only [evB, hk, show ¬ (5 : Int) = 1 by decide, show ¬ (5 : Int) = 2 by decide, show ¬ (5 : Int) = 3 by decide, if_false, if_true, Bool.and_eq_true, decide_eq_true_eq] at h7
  unfold badAt at hbi
  simp only at hbi
  rw [if_neg (by omega), if_neg (by omega), if_neg (by omega), if_neg (by omega), if_pos hk] at hbi
  simp only [Bool.or_eq_false_iff, Bool.not_eq_false', decide_eq_true_eq, decide_eq_false_iff_not] at hbi
  obtain ⟨⟨⟨b1, b2⟩, b3⟩, b4⟩ := hbi
  refine ⟨b4, h7.1, by omega, he.1.2, fun p hp hz => ?_⟩
  have hpl : p < (order.take (h.getD i default).st.toNat).length := by rw [List.length_take]; omega
  have e : (order.take (h.getD i default).st.toNat).getD p 0 = order.getD p 0 := take_getD hp
  have := List.any_eq_false.1 b3 (order.getD p 0) (by rw [← e]; exact getD_mem hpl)
  unfold lateH at this
  rw [decide_eq_false hz, Bool.not_false, Bool.true_and] at this
  cases hf : h.findIdx? (isAsk (order.getD p 0)) with
  | none => rw [hf] at this; simp at this
  | some j =>
    rw [hf] at this
    simp only [decide_eq_true_eq] at this
    refine ⟨j, rfl, ?_⟩
    obtain ⟨hjl, hjp, _⟩ := List.findIdx?_eq_some_iff_getElem.1 hf
    have hgj : h.getD j default = h[j] := by rw [List.getD_eq_getElem?_getD, List.getElem?_eq_getElem hjl, Option.getD_some]
    rw [← hgj] at hjp
    simp only [isAsk, Bool.and_eq_true, decide_eq_true_eq] at hjp
    by_cases e : j = i
    · rw [e, hk] at hjp; omega
    · omega
theorem ws_nonzero (hr : rightB h = true) {tx : Int} {w : Wr} (hw : w ∈ wsOf h tx) : tx ≠ 0 := by
  rintro rfl
  unfold wsOf at hw
  rw [no_zero hr] at hw
  simp at hw
theorem wr_some (hW : WrOk (h.take i) W) {tx : Int} {j : Nat} (hj : h.findIdx? (isAsk tx) = some j) (hji : j < i) : getM W tx = some (wsOf h tx) := by
  rw [hW.get, findIdx_take hj hji, Option.map_some, wsOf_take hj hji]
theorem wr_inv (hW : WrOk (h.take i) W) {tx : Int} {l : List Wr} (hl : getM W tx = some l) : l = wsOf h tx := by
  rw [hW.get] at hl
  cases hf : (h.take i).findIdx? (isAsk tx) with
  | none => rw [hf] at hl; cases hl
  | some j =>
    rw [hf] at hl
    obtain ⟨h1, h2⟩ := findIdx_of_take hf
    rw [wsOf_take h1 h2] at hl
    exact (Option.some.inj hl).symm
theorem whole_1 (hr : rightB h = true) (hc : checkH h order = -1) (hi : i < h.length) (hk : (h.getD i default).k = 5) (hW : WrOk (h.take i) W)
    (hD : ∀ d, d ∈ D ↔ ∃ l, getM W d.1 = some l ∧ d.2 ∈ l) (hL : LastD order (h.getD i default).st D lm) {r : Hd} (hrm : r ∈ (h.getD i default).rs) : (getW lm r.key).getD 0 = r.st := by
  obtain ⟨f1, f2, f3, f4, f5⟩ := see_facts hr hc hi hk
  rw [f1, mem_stL hr] at hrm
  obtain ⟨p, hp, w, hw, hd, rfl, hlast⟩ := hrm
  have hz := ws_nonzero hr hw
  obtain ⟨j, hj, hji⟩ := f5 p hp hz
  have hpl := place_at f4 (show p < order.length by omega) hz
  have hdm : (order.getD p 0, w) ∈ D := (hD _).2 ⟨_, wr_some hW hj hji, hw⟩
  obtain ⟨h1, h2, h3⟩ := hL w.key
  have h4 := h2 _ hdm rfl (by simp only; omega)
  simp only at h4
  have hkey : (w.row ((p : Int) + 1)).key = w.key := rfl
  rw [hkey]
  show _ = (p : Int) + 1
  rcases h3 with h3 | ⟨d, hdD, h5, h6, h7⟩
  · omega
  · obtain ⟨l, hl1, hl2⟩ := (hD _).1 hdD
    rw [wr_inv hW hl1] at hl2
    obtain ⟨q, hq1, hq2, hq3, _⟩ := place_inv (show 0 < placeH order d.1 by omega)
    by_cases hqp : q ≤ p
    · omega
    · exfalso
      rw [← hq2] at hl2
      exact hlast q (by omega) (by omega) d.2 hl2 h5
theorem whole_2 (hr : rightB h = true) (hc : checkH h order = -1) (hi : i < h.length) (hk : (h.getD i default).k = 5) (hW : WrOk (h.take i) W)
    (hD : ∀ d, d ∈ D ↔ ∃ l, getM W d.1 = some l ∧ d.2 ∈ l) (hL : LastD order (h.getD i default).st D lm) {tx : Int} {l : List Wr} (hl : getM W tx = some l) {w : Wr} (hw : w ∈ l) (hn : 0 < placeH order tx) (hv : placeH order tx = (getW lm w.key).getD 0) :
    decide ((getW (thL (h.getD i default).rs []) w.key).getD 0 = placeH order tx) = !w.dead := by
  obtain ⟨f1, f2, f3, f4, f5⟩ := see_facts hr hc hi hk
  have hlw := wr_inv hW hl
  rw [hlw] at hw
  obtain ⟨h1, h2, h3⟩ := hL w.key
  have hst : placeH order tx ≤ (h.getD i default).st := by
    rcases h3 with h3 | ⟨d, _, _, _, h7⟩
    · omega
    · omega
  obtain ⟨p, hp1, hp2, hp3, _⟩ := place_inv hn
  have hrow := right_at hr hi
  rw [eventOk_eq, Bool.and_eq_true] at hrow
  have hasc : (h.getD i default).rs.Pairwise Hd.before := by rw [f1]; exact (sameR h order _).asc
  have hth := thL_get (h.getD i default).rs [] w.key hasc
  cases hd : w.dead with
  | false =>
    have hlast : ∀ q, p < q → q < (h.getD i default).st.toNat → ∀ u ∈ wsOf h (order.getD q 0), u.key ≠ w.key := fun q hq1 hq2 u hu e => by
      have hz := ws_nonzero hr hu
      obtain ⟨j, hj, hji⟩ := f5 q hq2 hz
      have hpl := place_at f4 (show q < order.length by omega) hz
      have := h2 _ ((hD (order.getD q 0, u)).2 ⟨_, wr_some hW hj hji, hu⟩) e (by simp only; omega)
      simp only at this
      omega
    have hy : w.row ((p : Int) + 1) ∈ (h.getD i default).rs := by
      rw [f1, mem_stL hr]
      exact ⟨p, by omega, w, by rw [hp2]; exact hw, hd, rfl, hlast⟩
    have := hth.1 _ hy rfl
    rw [this]
    simp only [Option.getD_some, Bool.not_false, decide_eq_true_eq]
    rw [hp3]; rfl
  | true =>
    have hno : ∀ r ∈ (h.getD i default).rs, r.key ≠ w.key := fun r hrm e => by
      have h8 := whole_1 hr hc hi hk hW hD hL hrm
      rw [e] at h8
      rw [f1, mem_stL hr] at hrm
      obtain ⟨p', hp', w', hw', hd', rfl, _⟩ := hrm
      have h9 : (w'.row ((p' : Int) + 1)).st = (p' : Int) + 1 := rfl
      have : p' = p := by omega
      subst this
      rw [hp2] at hw'
      have := difW_inj (wsOf_dif hr tx) hw' hw e
      rw [this, hd] at hd'
      cases hd'
    have e0 : (getW ([] : List ((Int × Int) × Int)) w.key).getD 0 = 0 := rfl
    rw [hth.2 hno, e0, Bool.not_true, decide_eq_false_iff_not]
    omega
end
end Go.Proofs.Try
