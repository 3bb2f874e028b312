/-
  A part of the proof: see the text of the law.
-/
import Derived.Test.YtmmedfdilaijhaaEauh
set_option linter.unusedSimpArgs false
set_option linter.unusedVariables false
namespace Go.Proofs.Try
open Go.Al
set_option linter.unusedVariables false
set_option linter.unusedSimpArgs false

theorem check_ok {h : List Hap} {order : List Int} : checkH h order = -1 ↔ (∀ i, i < h.length → badAt h order i = false) ∧ endOk h order = true := by
  unfold checkH
  cases hf : (List.range h.length).find? (badAt h order) with
  | some i =>
    have hb := List.find?_some hf
    have hm := List.mem_of_find?_eq_some hf
    rw [List.mem_range] at hm
    constructor
    · intro q
      simp only at q
      omega
    · rintro ⟨q, _⟩
      rw [q i hm] at hb; cases hb
  | none =>
    have hb := List.find?_eq_none.1 hf
    simp only
    constructor
    · intro q
      split at q
      · rename_i he
        exact ⟨fun i hi => by simpa using hb i (List.mem_range.2 hi), he⟩
      · omega
    · rintro ⟨_, q⟩
      rw [if_pos q]
theorem take_getD {α : Type} [Inhabited α] {l : List α} {m i : Nat} (h : i < m) : (l.take m).getD i default = l.getD i default := by
  simp [List.getD_eq_getElem?_getD, List.getElem?_take, h]
theorem take_take' {α : Type} {l : List α} {m i : Nat} (h : i ≤ m) : (l.take m).take i = l.take i := by
  rw [List.take_take, Nat.min_eq_left h]
theorem right_take {h : List Hap} (hr : rightB h = true) (m : Nat) : rightB (h.take m) = true := by
  have h4 := rightB_len hr
  unfold rightB
  rw [Bool.and_eq_true, decide_eq_true_eq, decide_eq_true_eq]
  refine ⟨fun i hi => ?_, by rw [List.length_take]; omega⟩
  rw [List.length_take] at hi
  rw [take_getD (by omega), take_take' (by omega)]
  exact right_at hr (by omega)
theorem lenH_app (a b : List Hap) : lenH a ≤ lenH (a ++ b) := by
  have : ∀ (h : List Hap) (n : Int), n ≤ h.foldl (fun n x => if x.k = 2 ∨ x.k = 5 then max n x.st else n) n := by
    intro h
    induction h with
    | nil => intro n; simp
    | cons x h ih =>
      intro n
      rw [List.foldl_cons]
      refine Int.le_trans ?_ (ih _)
      split <;> omega
  unfold lenH
  rw [List.foldl_append]
  exact this b _
theorem lenH_take (h : List Hap) (m : Nat) : lenH (h.take m) ≤ lenH h := by
  have := lenH_app (h.take m) (h.drop m)
  rwa [List.take_append_drop] at this
theorem lenH_ge {h : List Hap} {i : Nat} (hi : i < h.length) (hk : (h.getD i default).k = 2 ∨ (h.getD i default).k = 5) : (h.getD i default).st ≤ lenH h := by
  have h1 := lenH_take h (i + 1)
  rw [lenH_next hi, if_pos hk] at h1
  omega
theorem lenH_at (h : List Hap) : ∀ i, i ≤ h.length → lenH (h.take i) = 0 ∨ ∃ j, j < i ∧ ((h.getD j default).k = 2 ∨ (h.getD j default).k = 5) ∧ (h.getD j default).st = lenH (h.take i)
  | 0, _ => .inl rfl
  | i + 1, hi => by
    rw [lenH_next (by omega)]
    have ih := lenH_at h i (by omega)
    split
    · rename_i hk
      by_cases hm : lenH (h.take i) ≤ (h.getD i default).st
      · exact .inr ⟨i, by omega, hk, by omega⟩
      · rw [Int.max_eq_left (by omega)]
        rcases ih with ih | ⟨j, h1, h2, h3⟩
        · exact .inl ih
        · exact .inr ⟨j, by omega, h2, h3⟩
    · rcases ih with ih | ⟨j, h1, h2, h3⟩
      · exact .inl ih
      · exact .inr ⟨j, by omega, h2, h3⟩
theorem latest_mono (h : List Hap) {i j : Nat} (hij : i ≤ j) : latest (h.take i) ≤ latest (h.take j) := by
  have : ∀ (h : List Hap) (n : Int), n ≤ h.foldl (fun n x => if x.k = 2 then max n x.st else n) n := by
    intro h
    induction h with
    | nil => intro n; simp
    | cons x h ih =>
      intro n
      rw [List.foldl_cons]
      refine Int.le_trans ?_ (ih _)
      split <;> omega
  have e : h.take j = h.take i ++ (h.take j).drop i := by
    have := List.take_append_drop i (h.take j)
    rw [take_take' hij] at this
    exact this.symm
  rw [e]
  unfold latest
  rw [List.foldl_append]
  exact this _ _
theorem latest_ge {h : List Hap} {i j : Nat} (hi : i < h.length) (hij : i < j) (hk : (h.getD i default).k = 2) : (h.getD i default).st ≤ latest (h.take j) := by
  have h1 := latest_mono h (show i + 1 ≤ j by omega)
  rw [latest_next hi, if_pos hk] at h1
  omega
/-! ### places in the beginning of an order -/
theorem findIdx_take {α : Type} {p : α → Bool} {l : List α} {m i : Nat} (h : l.findIdx? p = some i) (hi : i < m) : (l.take m).findIdx? p = some i := by
  obtain ⟨h1, h2, h3⟩ := List.findIdx?_eq_some_iff_getElem.1 h
  refine List.findIdx?_eq_some_iff_getElem.2 ⟨by rw [List.length_take]; omega, by simpa using h2, fun j hj => by simpa using h3 j hj⟩
theorem findIdx_of_take {α : Type} {p : α → Bool} {l : List α} {m i : Nat} (h : (l.take m).findIdx? p = some i) : l.findIdx? p = some i ∧ i < m := by
  obtain ⟨h1, h2, h3⟩ := List.findIdx?_eq_some_iff_getElem.1 h
  rw [List.length_take] at h1
  exact ⟨List.findIdx?_eq_some_iff_getElem.2 ⟨by omega, by simpa using h2, fun j hj => by simpa using h3 j hj⟩, by omega⟩
theorem place_take {l : List Int} {m : Nat} {tx : Int} (h : 0 < placeH (l.take m) tx) : placeH l tx = placeH (l.take m) tx := by
  unfold placeH at *
  by_cases hz : tx = 0
  · rw [if_pos hz] at h; omega
  · rw [if_neg hz] at h
    rw [if_neg hz, if_neg hz]
    cases hf : (l.take m).findIdx? (fun t => decide (t = tx)) with
    | none => rw [hf] at h; simp at h
    | some i => rw [(findIdx_of_take hf).1]
theorem place_le (l : List Int) (tx : Int) : placeH l tx ≤ l.length := by
  unfold placeH
  split
  · omega
  · cases hf : l.findIdx? (fun t => decide (t = tx)) with
    | none => simp only; omega
    | some i =>
      obtain ⟨h1, _⟩ := List.findIdx?_eq_some_iff_getElem.1 hf
      simp only
      omega
theorem place_at {l : List Int} (ho : onceB l = true) {p : Nat} (hp : p < l.length) (hz : l.getD p 0 ≠ 0) : placeH l (l.getD p 0) = p + 1 := by
  unfold placeH
  rw [if_neg hz]
  have hg : l.getD p 0 = l[p] := by rw [List.getD_eq_getElem?_getD, List.getElem?_eq_getElem hp, Option.getD_some]
  have hf : l.findIdx? (fun t => decide (t = l.getD p 0)) = some p := by
    refine List.findIdx?_eq_some_iff_getElem.2 ⟨hp, decide_eq_true hg.symm, fun j hj => ?_⟩
    simp only [Bool.not_eq_true, decide_eq_false_iff_not]
    intro e
    unfold onceB at ho
    rw [decide_eq_true_eq] at ho
    have hsub : [l[j], l[p]].Sublist l := by
      have h1 : l = l.take p ++ l[p] :: l.drop (p + 1) := by
        conv => lhs; rw [← List.take_append_drop p l, List.drop_eq_getElem_cons hp]
      have h2 : [l[j]].Sublist (l.take p) := List.singleton_sublist.2 (List.mem_take_iff_getElem.2 ⟨j, by omega, rfl⟩)
      have h3 := h2.append ((List.nil_sublist (l.drop (p + 1))).cons_cons l[p])
      rw [← h1] at h3
      exact h3
    have h4 := (hsub.filter fun t => !decide (t = 0))
    have hz1 : l[p] ≠ 0 := hg ▸ hz
    rw [e, hg] at h4
    simp only [List.filter_cons, decide_eq_false hz1, Bool.not_false, if_true, List.filter_nil] at h4
    have := ho.sublist h4
    simp at this
  rw [hf]
theorem once_take {l : List Int} (ho : onceB l = true) (m : Nat) : onceB (l.take m) = true := by
  unfold onceB at *
  rw [decide_eq_true_eq] at *
  exact ho.sublist ((List.take_sublist m l).filter _)
/-! ### what a history begins with -/
theorem asked_tx {h : List Hap} (hr : rightB h = true) {i : Nat} (hi : i < h.length) (hk : (h.getD i default).k = 1) : 1 ≤ (h.getD i default).tx := by
  have := right_at hr hi
  rw [eventOk_eq, Bool.and_eq_true, evB, if_pos hk] at this
  simp only [Bool.and_eq_true, decide_eq_true_eq] at this
  exact this.2.1
theorem no_zero {h : List Hap} (hr : rightB h = true) : h.findIdx? (isAsk 0) = none := by
  refine List.findIdx?_eq_none_iff.2 fun x hx => ?_
  obtain ⟨i, hi, rfl⟩ := List.getElem_of_mem hx
  have hg : h.getD i default = h[i] := by rw [List.getD_eq_getElem?_getD, List.getElem?_eq_getElem hi, Option.getD_some]
  rw [Bool.eq_false_iff]
  intro q
  simp only [isAsk, Bool.and_eq_true, decide_eq_true_eq] at q
  have := asked_tx hr hi (by rw [hg]; exact q.1)
  rw [hg] at this
  omega
theorem wsOf_take {h : List Hap} {m i : Nat} {tx : Int} (hf : h.findIdx? (isAsk tx) = some i) (hi : i < m) : wsOf (h.take m) tx = wsOf h tx := by
  unfold wsOf
  rw [hf, findIdx_take hf hi]
  simp only
  rw [take_getD hi]
theorem stL_take {h : List Hap} (hr : rightB h = true) {order : List Int} {m k : Nat} : ∀ n, n ≤ k → n ≤ order.length → (∀ p, p < n → order.getD p 0 = 0 ∨ ∃ j, h.findIdx? (isAsk (order.getD p 0)) = some j ∧ j < m) → stL (h.take m) (order.take k) n = stL h order n
  | 0, _, _, _ => rfl
  | n + 1, hk, ho, hall => by
    rw [stL, stL, stL_take hr n (by omega) (by omega) fun p hp => hall p (by omega)]
    have hg : (order.take k).getD n 0 = order.getD n 0 := take_getD (by omega)
    rw [hg]
    have hw : wsOf (h.take m) (order.getD n 0) = wsOf h (order.getD n 0) := by
      rcases hall n (by omega) with hz | ⟨j, hj, hjm⟩
      · rw [hz]
        unfold wsOf
        rw [no_zero hr, no_zero (right_take hr m)]
      · exact wsOf_take hj hjm
    rw [hw]
theorem next_take (h : List Hap) (m i : Nat) : nextS ((h.take m).drop i) = nextS (h.drop i) ∨ nextS ((h.take m).drop i) = 1073741825 := by
  rcases Nat.lt_or_ge m i with hm | hm
  · right
    rw [List.drop_eq_nil_of_le (by rw [List.length_take]; omega)]
    rfl
  · have e : h.drop i = (h.take m).drop i ++ h.drop m := by
      have h1 := List.take_append_drop m h
      conv => lhs; rw [← h1]
      by_cases hl : i ≤ (h.take m).length
      · rw [List.drop_append_of_le_length hl]
      · have h2 : h.length < m := by rw [List.length_take] at hl; omega
        rw [List.take_of_length_le (by omega), List.drop_eq_nil_of_le (show h.length ≤ m by omega), List.append_nil, List.append_nil]
    unfold nextS
    rw [e, List.find?_append]
    cases ((h.take m).drop i).find? (fun x => decide (x.k = 5)) with
    | some x => left; rfl
    | none => right; rfl
theorem begins_law {h : List Hap} (hr : rightB h = true) {order : List Int} (hc : checkH h order = -1) {m : Nat} (hm : m ≤ h.length) : lenH (h.take m) ≤ order.length ∧ checkH (h.take m) (order.take (lenH (h.take m)).toNat) = -1 := by
  obtain ⟨hb, he⟩ := check_ok.1 hc
  unfold endOk at he
  rw [Bool.and_eq_true, Bool.and_eq_true, decide_eq_true_eq] at he
  obtain ⟨⟨hlen, honce⟩, hall⟩ := he
  have hk := lenH_take h m
  have hk0 := lenH_pos (h.take m)
  have hmax := lenH_max (right_take hr m)
  rw [← hlen] at hk
  refine ⟨hk, check_ok.2 ⟨fun i hi => ?_, ?_⟩⟩
  · rw [List.length_take] at hi
    have him : i < m := by omega
    have hil : i < h.length := by omega
    have hbi := hb i hil
    have hst := lenH_ge (h := h.take m) (i := i) (by rw [List.length_take]; omega)
    rw [take_getD him] at hst
    have hol : ((order.take (lenH (h.take m)).toNat).length : Int) = lenH (h.take m) := by rw [List.length_take]; omega
    have hev := right_at hr hil
    rw [eventOk_eq, Bool.and_eq_true] at hev
    unfold badAt at hbi ⊢
    rw [take_getD him, take_take' (by omega)]
    simp only at hbi ⊢
    rw [hol]
    generalize hx : h.getD i default = x at *
    generalize hK : lenH (h.take m) = K at *
    split
    · rename_i h1
      rw [if_pos h1] at hbi
      by_cases hp : 0 < placeH (order.take K.toNat) x.tx
      · rw [← place_take hp]; exact hbi
      · rw [decide_eq_false hp, Bool.false_and]
    · rename_i h1
      rw [if_neg h1] at hbi
      split
      · rename_i h2
        rw [if_pos h2] at hbi
        have h3 := hst (.inl h2)
        have h4 := hev.2
        simp only [evB, h2, show ¬ (2 : Int) = 1 by decide, if_false, if_true, numb, Bool.and_eq_true, decide_eq_true_eq] at h4
        rw [decide_eq_false (by omega), Bool.false_or]
        have hg : (order.take K.toNat).getD (x.st - 1).toNat 0 = order.getD (x.st - 1).toNat 0 := take_getD (by omega)
        rw [hg]
        rw [Bool.or_eq_false_iff] at hbi
        exact hbi.2
      · rename_i h2
        rw [if_neg h2] at hbi
        split
        · rename_i h3
          rw [if_pos h3] at hbi
          by_cases hp : 0 < placeH (order.take K.toNat) x.tx
          · rw [← place_take hp]; exact hbi
          · exact decide_eq_false hp
        · rename_i h3
          rw [if_neg h3] at hbi
          split
          · rename_i h4
            rw [if_pos h4] at hbi
            rw [List.any_eq_false] at hbi ⊢
            intro t ht
            have h5 := hbi t ht
            simp only [decide_eq_true_eq] at h5 ⊢
            intro h6
            rcases next_take h m i with e | e
            · have h7 := nextS
              rw [e] at h6
              by_cases hp : 0 < placeH (order.take K.toNat) t
              · rw [← place_take hp] at h6; exact h5 h6
              · have h8 : ∀ l, 0 ≤ placeH l t := fun l => placeH_pos l t
                have h9 := h8 (order.take K.toNat)
                have hp2 := h8 order
                omega
            · rw [e] at h6
              have h7 := place_le (order.take K.toNat) t
              omega
          · rename_i h4
            rw [if_neg h4] at hbi
            split
            · rename_i h5
              rw [if_pos h5] at hbi
              have h6 := hst (.inr h5)
              have h7 := hev.2
              simp only [evB, h5, show ¬ (5 : Int) = 1 by decide, show ¬ (5 : Int) = 2 by decide, show ¬ (5 : Int) = 3 by decide, if_false, if_true, Bool.and_eq_true, decide_eq_true_eq] at h7
              simp only [Bool.or_eq_false_iff, Bool.not_eq_false', decide_eq_true_eq, decide_eq_false_iff_not] at hbi ⊢
              obtain ⟨⟨⟨b1, b2⟩, b3⟩, b4⟩ := hbi
              have htt : (order.take K.toNat).take x.st.toNat = order.take x.st.toNat := take_take' (by omega)
              have hold : ∀ t ∈ order.take x.st.toNat, t = 0 ∨ ∃ j, h.findIdx? (isAsk t) = some j ∧ j ≤ i := fun t ht => by
                have := List.any_eq_false.1 b3 t ht
                unfold lateH at this
                by_cases hz : t = 0
                · exact .inl hz
                · rw [decide_eq_false hz, Bool.not_false, Bool.true_and] at this
                  cases hf : h.findIdx? (isAsk t) with
                  | none => rw [hf] at this; simp at this
                  | some j =>
                    rw [hf] at this
                    simp only [decide_eq_true_eq] at this
                    exact .inr ⟨j, rfl, by omega⟩
              refine ⟨⟨⟨by omega, b2⟩, ?_⟩, ?_⟩
              · rw [htt, List.any_eq_false]
                intro t ht
                unfold lateH
                rcases hold t ht with hz | ⟨j, hj, hji⟩
                · simp [hz]
                · rw [findIdx_take hj (by omega)]
                  simp
                  intro _
                  exact hji
              · rw [b4]
                refine (stL_take hr _ (by omega) (by omega) fun p hp => ?_).symm
                rcases hold (order.getD p 0) (by
                  have hpl : p < (order.take x.st.toNat).length := by rw [List.length_take]; omega
                  have e : (order.take x.st.toNat).getD p 0 = order.getD p 0 := take_getD hp
                  rw [← e]
                  exact getD_mem hpl) with hz | ⟨j, hj, hji⟩
                · exact .inl hz
                · exact .inr ⟨j, hj, by omega⟩
            · rfl
  · unfold endOk
    rw [Bool.and_eq_true, Bool.and_eq_true, decide_eq_true_eq]
    refine ⟨⟨by rw [List.length_take]; omega, once_take honce _⟩, List.all_eq_true.2 fun t ht => ?_⟩
    rw [Bool.or_eq_true, decide_eq_true_eq]
    by_cases hz : t = 0
    · exact .inl hz
    right
    obtain ⟨p, hp, rfl⟩ := List.mem_take_iff_getElem.1 ht
    have hg : order.getD p 0 = order[p] := by rw [List.getD_eq_getElem?_getD, List.getElem?_eq_getElem (by omega), Option.getD_some]
    rw [← hg] at hz ⊢
    have hpl := place_at honce (show p < order.length by omega) hz
    have hin : (decide (order.getD p 0 = 0) || inH h (order.getD p 0)) = true := List.all_eq_true.1 hall _ (getD_mem (show p < order.length by omega))
    rw [decide_eq_false hz, Bool.false_or] at hin
    unfold inH at hin ⊢
    obtain ⟨j, hj⟩ := Option.isSome_iff_exists.1 hin
    suffices hjm : j < m by rw [findIdx_take hj hjm]; rfl
    obtain ⟨hjl, hjp, _⟩ := List.findIdx?_eq_some_iff_getElem.1 hj
    have hgj : h.getD j default = h[j] := by rw [List.getD_eq_getElem?_getD, List.getElem?_eq_getElem hjl, Option.getD_some]
    rw [← hgj] at hjp
    simp only [isAsk, Bool.and_eq_true, decide_eq_true_eq] at hjp
    rcases lenH_at h m hm with h0 | ⟨i, him, hik, hist⟩
    · omega
    have hil : i < h.length := by omega
    have hbi := hb i hil
    have hev := right_at hr hil
    rw [eventOk_eq, Bool.and_eq_true] at hev
    rcases hik with hik | hik
    · by_cases hjm : j < m
      · exact hjm
      exfalso
      have h1 := latest_ge (j := j) hil (by omega) hik
      have hbj := hb j hjl
      unfold badAt at hbj
      simp only at hbj
      rw [if_pos hjp.1, hjp.2, hpl] at hbj
      have h2 : ¬ ((p : Int) + 1 < latest (h.take j)) := by
        intro h3
        rw [decide_eq_true (show (0 : Int) < p + 1 by omega), decide_eq_true h3] at hbj
        cases hbj
      have hpk : p + 1 = (lenH (h.take m)).toNat := by omega
      unfold badAt at hbi
      simp only at hbi
      rw [if_neg (by omega), if_pos hik, hist] at hbi
      rw [Bool.or_eq_false_iff] at hbi
      have h3 := hbi.2
      rw [show (lenH (h.take m) - 1).toNat = p by omega] at h3
      simp only [Bool.not_eq_false', decide_eq_true_eq] at h3
      have h4 := hev.2
      simp only [evB, hik, show ¬ (2 : Int) = 1 by decide, if_false, if_true, Bool.and_eq_true] at h4
      have h5 := open_asked h4.1
      rw [← h3] at h5
      have h6 : ¬ asked (h.take i) (order.getD p 0) < 0 := by omega
      rcases asked_lt (h.take i) (order.getD p 0) with ⟨q, _⟩ | ⟨q, _, _, q3⟩
      · omega
      · have := findIdx_of_take q3
        rw [hj] at this
        have := this.1
        injection this with this
        omega
    · unfold badAt at hbi
      simp only at hbi
      rw [if_neg (by omega), if_neg (by omega), if_neg (by omega), if_neg (by omega), if_pos hik] at hbi
      simp only [Bool.or_eq_false_iff] at hbi
      have := List.any_eq_false.1 hbi.1.2 (order.getD p 0) (by
        have hpl : p < (order.take (h.getD i default).st.toNat).length := by rw [List.length_take, hist]; omega
        have e : (order.take (h.getD i default).st.toNat).getD p 0 = order.getD p 0 := take_getD (by rw [hist]; omega)
        rw [← e]
        exact getD_mem hpl)
      unfold lateH at this
      rw [decide_eq_false hz, Bool.not_false, Bool.true_and, hj] at this
      simp only [decide_eq_true_eq] at this
      omega
end Go.Proofs.Try
