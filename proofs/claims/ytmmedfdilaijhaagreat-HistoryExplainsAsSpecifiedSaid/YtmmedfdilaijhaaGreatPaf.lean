/-
  A part of the proof: see the text of the law.
-/
import Derived.Test.YtmmedfdilaijhaaGreatEauh
set_option linter.unusedSimpArgs false
set_option linter.unusedVariables false
namespace Go.Proofs.Try
open Go.Al
set_option linter.unusedVariables false
set_option linter.unusedSimpArgs false

theorem check_ok {h : List Hap} {order : List Int} : checkH h order = -1 ↔ (∀ i, i < h.length → badAt h order i = false) ∧ endOk h order = true := by
  unfold checkH
  cases hf : (List.range h.length).find? (badAt h order) with
  | some i =>
    have hb := List.find?_some hf
    have hm := List.mem_of_find?_eq_some hf
    rw [List.mem_range] at hm
    constructor
    · intro q
      simp only at q
      omega
    · rintro ⟨q, _⟩
      rw [q i hm] at hb; cases hb
  | none =>
    have hb := List.find?_eq_none.1 hf
    simp only
    constructor
    · intro q
      split at q
      · rename_i he
        exact ⟨fun i hi => by simpa using hb i (List.mem_range.2 hi), he⟩
      · omega
    · rintro ⟨_, q⟩
      rw [if_pos q]
theorem take_getD {α : Type} [Inhabited α] {l : List α} {m i : Nat} (h : i < m) : (l.take m).getD i default = l.getD i default := by
  simp [List.getD_eq_getElem?_getD, List.getElem?_take, h]
theorem take_take' {α : Type} {l : List α} {m i : Nat} (h : i ≤ m) : (l.take m).take i = l.take i := by
  rw [List.take_take, Nat.min_eq_left h]
theorem right_take {h : List Hap} (hr : rightB h = true) (m : Nat) : rightB (h.take m) = true := by
  have h4 := rightB_len hr
  unfold rightB
  rw [Bool.and_eq_true, decide_eq_true_eq, decide_eq_true_eq]
  refine ⟨fun i hi => ?_, by rw [List.length_take]; omega⟩
  rw [List.length_take] at hi
  rw [take_getD (by omega), take_take' (by omega)]
  exact right_at hr (by omega)
theorem lenH_at (h : List Hap) : ∀ i, i ≤ h.length → lenH (h.take i) = 0 ∨ ∃ j, j < i ∧ ((h.getD j default).k = 2 ∨ (h.getD j default).k = 5) ∧ (h.getD j default).st = lenH (h.take i)
  | 0, _ => .inl rfl
  | i + 1, hi => by
    rw [lenH_next (by omega)]
    have ih := lenH_at h i (by omega)
    split
    · rename_i hk
      by_cases hm : lenH (h.take i) ≤ (h.getD i default).st
      · exact .inr ⟨i, by omega, hk, by omega⟩
      · rw [Int.max_eq_left (by omega)]
        rcases ih with ih | ⟨j, h1, h2, h3⟩
        · exact .inl ih
        · exact .inr ⟨j, by omega, h2, h3⟩
    · rcases ih with ih | ⟨j, h1, h2, h3⟩
      · exact .inl ih
      · exact .inr ⟨j, by omega, h2, h3⟩
theorem latest_mono (h : List Hap) {i j : Nat} (hij : i ≤ j) : latest (h.take i) ≤ latest (h.take j) := by
  have : ∀ (h : List Hap) (n : Int), n ≤ h.foldl (fun n x => if x.k = 2 then max n x.st else n) n := by
    intro h
    induction h with
    | nil => intro n; simp
    | cons x h ih =>
      intro n
      rw [List.foldl_cons]
      refine Int.le_trans ?_ (ih _)
      split <;> omega
  have e : h.take j = h.take i ++ (h.take j).drop i := by
    have := List.take_append_drop i (h.take j)
    rw [take_take' hij] at this
    exact this.symm
  rw [e]
  unfold latest
  rw [List.foldl_append]
  exact this _ _
theorem latest_ge {h : List Hap} {i j : Nat} (hi : i < h.length) (hij : i < j) (hk : (h.getD i default).k = 2) : (h.getD i default).st ≤ latest (h.take j) := by
  have h1 := latest_mono h (show i + 1 ≤ j by omega)
  rw [latest_next hi, if_pos hk] at h1
  omega
theorem findIdx_take {α : Type} {p : α → Bool} {l : List α} {m i : Nat} (h : l.findIdx? p = some i) (hi : i < m) : (l.take m).findIdx? p = some i := by
  obtain ⟨h1, h2, h3⟩ := List.findIdx?_eq_some_iff_getElem.1 h
  refine List.findIdx?_eq_some_iff_getElem.2 ⟨by rw [List.length_take]; omega, by simpa using h2, fun j hj => by simpa using h3 j hj⟩
theorem findIdx_of_take {α : Type} {p : α → Bool} {l : List α} {m i : Nat} (h : (l.take m).findIdx? p = some i) : l.findIdx? p = some i ∧ i < m := by
  obtain ⟨h1, h2, h3⟩ := List.findIdx?_eq_some_iff_getElem.1 h
  rw [List.length_take] at h1
  exact ⟨List.findIdx?_eq_some_iff_getElem.2 ⟨by omega, by simpa using h2, fun j hj => by simpa using h3 j hj⟩, by omega⟩
theorem place_le (l : List Int) (tx : Int) : placeH l tx ≤ l.length := by
  unfold placeH
  split
  · omega
  · cases hf : l.findIdx? (fun t => decide (t = tx)) with
    | none => simp only; omega
    | some i =>
      obtain ⟨h1, _⟩ := List.findIdx?_eq_some_iff_getElem.1 hf
      simp only
      omega
theorem place_at {l : List Int} (ho : onceB l = true) {p : Nat} (hp : p < l.length) (hz : l.getD p 0 ≠ 0) : placeH l (l.getD p 0) = p + 1 := by
  unfold placeH
  rw [if_neg hz]
  have hg : l.getD p 0 = l[p] := by rw [List.getD_eq_getElem?_getD, List.getElem?_eq_getElem hp, Option.getD_some]
  have hf : l.findIdx? (fun t => decide (t = l.getD p 0)) = some p := by
    refine List.findIdx?_eq_some_iff_getElem.2 ⟨hp, decide_eq_true hg.symm, fun j hj => ?_⟩
    simp only [Bool.not_eq_true,decide_eq_false_iff_not]
    intro e
    unfold onceB at ho
    rw [decide_eq_true_eq] at ho
    have hsub : [l[j], l[p]].Sublist l := by
      have h1 : l = l.take p ++ l[p] :: l.drop (p + 1) := by
        conv => lhs; rw [← List.take_append_drop p l, List.drop_eq_getElem_cons hp]
      have h2 : [l[j]].Sublist (l.take p) := List.singleton_sublist.2 (List.mem_take_iff_getElem.2 ⟨j, by omega, rfl⟩)
      have h3 := h2.append ((List.nil_sublist (l.drop (p + 1))).cons_cons l[p])
      rw [← h1] at h3
      exact h3
    have h4 := (hsub.filter fun t => !decide (t = 0))
    have hz1 : l[p] ≠ 0 := hg ▸ hz
    rw [e, hg] at h4
    simp only [List.filter_cons,decide_eq_false hz1,Bool.not_false,if_true,List.filter_nil] at h4
    have := ho.sublist h4
    simp at this
  rw [hf]
theorem asked_tx {h : List Hap} (hr : rightB h = true) {i : Nat} (hi : i < h.length) (hk : (h.getD i default).k = 1) : 1 ≤ (h.getD i default).tx := by
  have := right_at hr hi
  rw [eventOk_eq, Bool.and_eq_true, evB, if_pos hk] at this
  simp only [Bool.and_eq_true,decide_eq_true_eq] at this
  exact this.2.1
theorem no_zero {h : List Hap} (hr : rightB h = true) : h.findIdx? (isAsk 0) = none := by
  refine List.findIdx?_eq_none_iff.2 fun x hx => ?_
  obtain ⟨i, hi, rfl⟩ := List.getElem_of_mem hx
  have hg : h.getD i default = h[i] := by rw [List.getD_eq_getElem?_getD, List.getElem?_eq_getElem hi, Option.getD_some]
  rw [Bool.eq_false_iff]
  intro q
  simp only [isAsk,Bool.and_eq_true,decide_eq_true_eq] at q
  have := asked_tx hr hi (by rw [hg]; exact q.1)
  rw [hg] at this
  omega
end Go.Proofs.Try


namespace Go.Proofs.Try
open Go.Al
set_option linter.unusedVariables false
set_option linter.unusedSimpArgs false

abbrev Wr.key (w : Wr) : Int × Int := (w.t, w.r)
abbrev Hd.key (y : Hd) : Int × Int := (y.t, y.r)
structure WrOk (h : List Hap) (W : List (Int × List Wr)) : Prop where
  nodup : (keysM W).Nodup
  get : ∀ tx, getM W tx = (h.findIdx? (isAsk tx)).map fun _ => wsOf h tx
theorem wsOf_snoc {h : List Hap} {x : Hap} {tx : Int} (ha : (h.findIdx? (isAsk tx)).isSome) : wsOf (h ++ [x]) tx = wsOf h tx := by
  obtain ⟨i, hi⟩ := Option.isSome_iff_exists.1 ha
  obtain ⟨hl, _⟩ := List.findIdx?_eq_some_iff_getElem.1 hi
  unfold wsOf
  rw [List.findIdx?_append, hi]
  simp only [Option.some_or]
  simp [List.getD_eq_getElem?_getD, List.getElem?_append_left hl]
theorem WrOk.ask {h : List Hap} {W : List (Int × List Wr)} {x : Hap} (s : WrOk h W) (hk : x.k = 1) (ha : h.findIdx? (isAsk x.tx) = none) : WrOk (h ++ [x]) (setM W x.tx x.ws) := by
  refine ⟨keys_set_nodup s.nodup, fun tx => ?_⟩
  rw [getM_set]
  by_cases e : tx = x.tx
  · subst e
    have hp : isAsk x.tx x = true := by simp [isAsk, hk]
    have hf : (h ++ [x]).findIdx? (isAsk x.tx) = some h.length := by
      rw [List.findIdx?_append, ha]
      simp [List.findIdx?_cons, hp]
    rw [if_pos rfl, hf, wsOf, hf]
    simp
  · have e' : ¬ x.tx = tx := fun q => e q.symm
    have hp : isAsk tx x = false := by simp [isAsk, e']
    rw [if_neg e, s.get]
    cases hf : h.findIdx? (isAsk tx) with
    | none => simp [List.findIdx?_append, hf, List.findIdx?_cons, hp]
    | some i =>
      have := wsOf_snoc (h := h) (x := x) (tx := tx) (by rw [hf]; rfl)
      rw [this, List.findIdx?_append, hf]
      rfl
theorem WrOk.other {h : List Hap} {W : List (Int × List Wr)} {x : Hap} (s : WrOk h W) (hk : x.k ≠ 1) : WrOk (h ++ [x]) W := by
  refine ⟨s.nodup, fun tx => ?_⟩
  have hp : isAsk tx x = false := by simp [isAsk, hk]
  rw [s.get]
  cases hf : h.findIdx? (isAsk tx) with
  | none => simp [List.findIdx?_append, hf, List.findIdx?_cons, hp]
  | some i =>
    have := wsOf_snoc (h := h) (x := x) (tx := tx) (by rw [hf]; rfl)
    rw [this, List.findIdx?_append, hf]
    rfl
def LastD (order : List Int) (st : Int) (D : List (Int × Wr)) (lm : List ((Int × Int) × Int)) : Prop :=
  ∀ K, 0 ≤ (getW lm K).getD 0 ∧ (∀ d ∈ D, d.2.key = K → placeH order d.1 ≤ st → placeH order d.1 ≤ (getW lm K).getD 0) ∧ ((getW lm K).getD 0 = 0 ∨ ∃ d ∈ D, d.2.key = K ∧ placeH order d.1 = (getW lm K).getD 0 ∧ (getW lm K).getD 0 ≤ st)
theorem LastD.put {order : List Int} {st : Int} {D : List (Int × Wr)} {lm : List ((Int × Int) × Int)} (s : LastD order st D lm) (d : Int × Wr) (hd : placeH order d.1 ≤ st) : LastD order st (D ++ [d]) (setW lm d.2.key (max ((getW lm d.2.key).getD 0) (placeH order d.1))) := fun K => by
  rw [getW_set]
  obtain ⟨h1, h2, h3⟩ := s K
  by_cases e : K = d.2.key
  · subst e
    simp only [if_true,Option.getD_some]
    refine ⟨by omega, fun u hu he hp => ?_, ?_⟩
    · rcases List.mem_append.1 hu with hu | hu
      · have := h2 u hu he hp; omega
      · rw [List.mem_singleton.1 hu]; omega
    · by_cases hm : (getW lm d.2.key).getD 0 ≤ placeH order d.1
      · rw [Int.max_eq_right hm]
        exact .inr ⟨d, by simp, rfl, rfl, hd⟩
      · rw [Int.max_eq_left (by omega)]
        rcases h3 with h3 | ⟨u, hu, h4, h5, h6⟩
        · exact .inl h3
        · exact .inr ⟨u, by simp [hu], h4, h5, h6⟩
  · rw [if_neg e]
    refine ⟨h1, fun u hu he hp => ?_, ?_⟩
    · rcases List.mem_append.1 hu with hu | hu
      · exact h2 u hu he hp
      · rw [List.mem_singleton.1 hu] at he; exact absurd he.symm e
    · rcases h3 with h3 | ⟨u, hu, h4, h5, h6⟩
      · exact .inl h3
      · exact .inr ⟨u, by simp [hu], h4, h5, h6⟩
theorem LastD.skip {order : List Int} {st : Int} {D : List (Int × Wr)} {lm : List ((Int × Int) × Int)} (s : LastD order st D lm) (d : Int × Wr) (hd : ¬ placeH order d.1 ≤ st) : LastD order st (D ++ [d]) lm := fun K => by
  obtain ⟨h1, h2, h3⟩ := s K
  refine ⟨h1, fun u hu he hp => ?_, ?_⟩
  · rcases List.mem_append.1 hu with hu | hu
    · exact h2 u hu he hp
    · rw [List.mem_singleton.1 hu] at hp; exact absurd hp hd
  · rcases h3 with h3 | ⟨u, hu, h4, h5, h6⟩
    · exact .inl h3
    · exact .inr ⟨u, by simp [hu], h4, h5, h6⟩
end Go.Proofs.Try


namespace Go.Proofs.Try
open Go.Al
set_option linter.unusedVariables false
set_option linter.unusedSimpArgs false

theorem place_inv {l : List Int} {tx : Int} (h : 0 < placeH l tx) : ∃ q, q < l.length ∧ l.getD q 0 = tx ∧ placeH l tx = (q : Int) + 1 ∧ tx ≠ 0 := by
  unfold placeH at *
  by_cases hz : tx = 0
  · rw [if_pos hz] at h; omega
  · rw [if_neg hz] at h ⊢
    cases hf : l.findIdx? (fun t => decide (t = tx)) with
    | none => rw [hf] at h; simp at h
    | some i =>
      obtain ⟨h1, h2, _⟩ := List.findIdx?_eq_some_iff_getElem.1 hf
      refine ⟨i, h1, ?_, rfl, hz⟩
      rw [List.getD_eq_getElem?_getD, List.getElem?_eq_getElem h1, Option.getD_some]
      simpa using h2
section
variable {h : List Hap} {order : List Int} {i : Nat} {W : List (Int × List Wr)} {D : List (Int × Wr)} {lm : List ((Int × Int) × Int)}
theorem see_facts (hr : rightB h = true) (hc : checkH h order = -1) (hi : i < h.length) (hk : (h.getD i default).k = 5) :
    (h.getD i default).rs = stL h order (h.getD i default).st.toNat ∧ 0 ≤ (h.getD i default).st ∧ (h.getD i default).st ≤ order.length ∧ onceB order = true ∧
      ∀ p, p < (h.getD i default).st.toNat → order.getD p 0 ≠ 0 → ∃ j, h.findIdx? (isAsk (order.getD p 0)) = some j ∧ j < i := by
  obtain ⟨hb, he⟩ := check_ok.1 hc
  unfold endOk at he
  rw [Bool.and_eq_true, Bool.and_eq_true, decide_eq_true_eq] at he
  have hbi := hb i hi
  have hev := right_at hr hi
  rw [eventOk_eq, Bool.and_eq_true] at hev
  have h7 := hev.2
  simp only [evB,hk,show ¬ (5 : Int) = 1 by decide,show ¬ (5 : Int) = 2 by decide,show ¬ (5 : Int) = 3 by decide,if_false,if_true,Bool.and_eq_true,decide_eq_true_eq] at h7
  unfold badAt at hbi
  simp only at hbi
  rw [if_neg (by omega), if_neg (by omega), if_neg (by omega), if_neg (by omega), if_pos hk] at hbi
  simp only [Bool.or_eq_false_iff,Bool.not_eq_false',decide_eq_true_eq,decide_eq_false_iff_not] at hbi
  obtain ⟨⟨⟨b1, b2⟩, b3⟩, b4⟩ := hbi
  refine ⟨b4, h7.1, by omega, he.1.2, fun p hp hz => ?_⟩
  have hpl : p < (order.take (h.getD i default).st.toNat).length := by rw [List.length_take]; omega
  have e : (order.take (h.getD i default).st.toNat).getD p 0 = order.getD p 0 := take_getD hp
  have := List.any_eq_false.1 b3 (order.getD p 0) (by rw [← e]; exact getD_mem hpl)
  unfold lateH at this
  rw [decide_eq_false hz, Bool.not_false, Bool.true_and] at this
  cases hf : h.findIdx? (isAsk (order.getD p 0)) with
  | none => rw [hf] at this; simp at this
  | some j =>
    rw [hf] at this
    simp only [decide_eq_true_eq] at this
    refine ⟨j, rfl, ?_⟩
    obtain ⟨hjl, hjp, _⟩ := List.findIdx?_eq_some_iff_getElem.1 hf
    have hgj : h.getD j default = h[j] := by rw [List.getD_eq_getElem?_getD, List.getElem?_eq_getElem hjl, Option.getD_some]
    rw [← hgj] at hjp
    simp only [isAsk,Bool.and_eq_true,decide_eq_true_eq] at hjp
    by_cases e : j = i
    · rw [e, hk] at hjp; omega
    · omega
end
end Go.Proofs.Try

