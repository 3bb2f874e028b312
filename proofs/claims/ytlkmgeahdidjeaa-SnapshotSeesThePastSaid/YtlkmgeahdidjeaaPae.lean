/-
  A part of the proof: see the text of the law.
-/
import Derived.Test.YtlkmgeahdidjeaaPad
import Derived.Test.YtlkmgeahdidjeaaEap
set_option linter.unusedSimpArgs false
set_option linter.unusedVariables false
namespace Go.Proofs.Try
set_option linter.unusedVariables false
set_option linter.unusedSimpArgs false

/-! ### the rows that changed -/
theorem asc_one : ∀ {a b : List Int}, a.Pairwise (· < ·) → b.Pairwise (· < ·) → (∀ x, x ∈ a ↔ x ∈ b) → a = b
  | [], [], _, _, _ => rfl
  | [], y :: b, _, _, h => absurd ((h y).2 (by simp)) (by simp)
  | x :: a, [], _, _, h => absurd ((h x).1 (by simp)) (by simp)
  | x :: a, y :: b, ha, hb, h => by
    obtain ⟨a1, a2⟩ := List.pairwise_cons.1 ha
    obtain ⟨b1, b2⟩ := List.pairwise_cons.1 hb
    have hxy : x = y := by
      rcases List.mem_cons.1 ((h x).1 (by simp)) with h1 | h1
      · exact h1
      · rcases List.mem_cons.1 ((h y).2 (by simp)) with h2 | h2
        · exact h2.symm
        · have := a1 y h2; have := b1 x h1; omega
    subst hxy
    rw [asc_one a2 b2 fun z => ?_]
    constructor
    · intro hz
      rcases List.mem_cons.1 ((h z).1 (by simp [hz])) with h1 | h1
      · have := a1 z hz; omega
      · exact h1
    · intro hz
      rcases List.mem_cons.1 ((h z).2 (by simp [hz])) with h1 | h1
      · have := b1 z hz; omega
      · exact h1
theorem cu_spec {zs : List Int} (hs : zs.Pairwise (· ≤ ·)) : ∀ m, m ≤ zs.length → (Lib.compactUpTo zs.toArray m).Pairwise (· < ·) ∧ ∀ x, x ∈ Lib.compactUpTo zs.toArray m ↔ x ∈ zs.take m
  | 0, _ => by simp [Lib.compactUpTo]
  | m + 1, h => by
    obtain ⟨h1, h2⟩ := cu_spec hs m (by omega)
    have hm : m < zs.length := by omega
    have hat : zs.toArray[m]! = zs[m] := by simp [hm]
    have hle : ∀ y ∈ zs.take m, y ≤ zs[m] := fun y hy => by
      obtain ⟨k, hk⟩ := List.getElem?_of_mem hy
      rw [List.getElem?_take] at hk
      split at hk
      · rename_i hkm
        obtain ⟨hk2, rfl⟩ := List.getElem?_eq_some_iff.1 hk
        exact List.pairwise_iff_getElem.1 hs k m hk2 hm hkm
      · cases hk
    rw [Lib.compactUpTo_succ, hat, List.take_succ_eq_append_getElem hm]
    split
    · rename_i hk
      have hlt : ∀ y ∈ zs.take m, y < zs[m] := fun y hy => by
        have h3 := hle y hy
        rcases Nat.eq_zero_or_pos m with h0 | h0
        · subst h0; simp at hy
        · have hne : zs[m - 1] ≠ zs[m] := by
            simp only [Lib.keeps, Bool.or_eq_true, decide_eq_true_eq, beq_iff_eq, bne_iff_ne, ne_eq] at hk
            have h5 : zs.toArray[m - 1]! = zs[m - 1] := by simp [show m - 1 < zs.length by omega]
            rw [hat, h5] at hk
            rcases hk with hk | hk
            · omega
            · exact fun h => hk h.symm
          obtain ⟨k, hk2⟩ := List.getElem?_of_mem hy
          rw [List.getElem?_take] at hk2
          split at hk2
          · rename_i hkm
            obtain ⟨hk3, rfl⟩ := List.getElem?_eq_some_iff.1 hk2
            have h6 : zs[k] ≤ zs[m - 1] := by
              rcases Nat.lt_or_ge k (m - 1) with h7 | h7
              · exact List.pairwise_iff_getElem.1 hs k (m - 1) hk3 (by omega) h7
              · have : k = m - 1 := by omega
                subst this; exact Int.le_refl _
            have h7 := List.pairwise_iff_getElem.1 hs (m - 1) m (by omega) hm (by omega)
            omega
          · cases hk2
      refine ⟨List.pairwise_append.2 ⟨h1, by simp, fun a ha b hb => ?_⟩, fun x => by rw [List.mem_append, List.mem_append, h2]⟩
      simp only [List.mem_singleton] at hb
      subst hb
      exact hlt a ((h2 a).1 ha)
    · rename_i hk
      have hin : zs[m] ∈ zs.take m := by
        simp only [Lib.keeps, Bool.or_eq_true, decide_eq_true_eq, beq_iff_eq, bne_iff_ne, ne_eq, not_or, Classical.not_not] at hk
        obtain ⟨hk0, hk⟩ := hk
        have h5 : zs.toArray[m - 1]! = zs[m - 1] := by simp [show m - 1 < zs.length by omega]
        rw [hat, h5] at hk
        rw [hk]
        exact List.mem_of_getElem? (i := m - 1) (by rw [List.getElem?_take, if_pos (by omega)]; simp)
      refine ⟨by simpa using h1, fun x => ?_⟩
      rw [List.append_nil, h2]
      constructor
      · intro h; exact List.mem_append.2 (.inl h)
      · intro h
        rcases List.mem_append.1 h with h | h
        · exact h
        · simp only [List.mem_singleton] at h; rw [h]; exact hin
theorem compact_spec {zs : List Int} (hs : zs.Pairwise (· ≤ ·)) : (Lib.compact zs).Pairwise (· < ·) ∧ ∀ x, x ∈ Lib.compact zs ↔ x ∈ zs := by
  have := cu_spec hs zs.length (Nat.le_refl _)
  rwa [List.take_length] at this
theorem srt_spec (zs : List Int) : (srt zs).Pairwise (· ≤ ·) ∧ ∀ x, x ∈ srt zs ↔ x ∈ zs := by
  refine ⟨?_, fun x => List.mem_mergeSort⟩
  have := List.pairwise_mergeSort (le := fun x y : Int => decide (x ≤ y)) (fun a b c h1 h2 => by simp at *; omega) (fun a b => by simp; omega) zs
  exact this.imp fun h => by simpa using h
/-- Changed's rows: ascending; who is among them. -/
theorem changed_spec (l : List Ver) (from_ to_ : Int) : (changed l from_ to_).Pairwise (· < ·) ∧ ∀ x, x ∈ changed l from_ to_ ↔ ∃ v ∈ l, v.row = x ∧ from_ < v.stamp ∧ v.stamp ≤ to_ := by
  obtain ⟨h1, h2⟩ := srt_spec (chS l from_ to_)
  obtain ⟨h3, h4⟩ := compact_spec h1
  refine ⟨h3, fun x => ?_⟩
  rw [changed, h4, h2, chS]
  simp only [List.mem_map, List.mem_filter, Bool.and_eq_true, decide_eq_true_eq, gt_iff_lt]
  constructor
  · rintro ⟨v, ⟨hv, h5, h6⟩, rfl⟩; exact ⟨v, hv, rfl, h5, h6⟩
  · rintro ⟨v, hv, rfl, h5, h6⟩; exact ⟨v, ⟨hv, h5, h6⟩, rfl⟩
theorem chgN_spec {a : List Ver} (hs : srtd a) (from_ to_ : Int) : ∀ i, i ≤ a.length → (chgN a from_ to_ i).Pairwise (· < ·) ∧ ∀ x, x ∈ chgN a from_ to_ i ↔ ∃ v ∈ a.take i, v.row = x ∧ from_ < v.stamp ∧ v.stamp ≤ to_
  | 0, _ => by simp [chgN]
  | i + 1, hi => by
    have hil : i < a.length := by omega
    obtain ⟨h1, h2⟩ := chgN_spec hs from_ to_ i (by omega)
    have hle : ∀ v ∈ a.take i, v.row ≤ (a.getD i default).row := fun v hv => by
      obtain ⟨k, hk⟩ := List.getElem?_of_mem hv
      rw [List.getElem?_take] at hk
      split at hk
      · rename_i hkm
        obtain ⟨hk2, rfl⟩ := List.getElem?_eq_some_iff.1 hk
        have := List.pairwise_iff_getElem.1 hs k i hk2 hil hkm
        rw [gtV_false] at this
        simp [hil]
        omega
      · cases hk
    have hmem : ∀ x, (∃ v ∈ a.take (i + 1), v.row = x ∧ from_ < v.stamp ∧ v.stamp ≤ to_) ↔ (∃ v ∈ a.take i, v.row = x ∧ from_ < v.stamp ∧ v.stamp ≤ to_) ∨ ((a.getD i default).row = x ∧ from_ < (a.getD i default).stamp ∧ (a.getD i default).stamp ≤ to_) := fun x => by
      constructor
      · rintro ⟨v, hv, h⟩
        rcases (mem_take_succ hil).1 hv with hv | rfl
        · exact .inl ⟨v, hv, h⟩
        · exact .inr h
      · rintro (⟨v, hv, h⟩ | h)
        · exact ⟨v, (mem_take_succ hil).2 (.inl hv), h⟩
        · exact ⟨_, (mem_take_succ hil).2 (.inr rfl), h⟩
    simp only [chgN]
    generalize a.getD i default = u at *
    generalize chgN a from_ to_ i = c at *
    have hcle : ∀ x ∈ c, x ≤ u.row := fun x hx => by
      obtain ⟨v, hv, rfl, _⟩ := (h2 x).1 hx
      exact hle v hv
    split
    · rename_i hc
      obtain ⟨g1, g2, g3⟩ := hc
      have hnot : ∀ x ∈ c, x < u.row := fun x hx => by
        have h5 := hcle x hx
        rcases List.eq_nil_or_concat c with hn | ⟨c', y, hn⟩
        · rw [hn] at hx; simp at hx
        · rw [List.concat_eq_append] at hn
          have hy : y ≠ u.row := fun he => g3 (by rw [hn, ← he]; simp)
          have hyc := hcle y (by rw [hn]; simp)
          rw [hn] at hx h1
          rcases List.mem_append.1 hx with hx | hx
          · have := (List.pairwise_append.1 h1).2.2 x hx y (by simp)
            omega
          · simp only [List.mem_singleton] at hx
            omega
      refine ⟨List.pairwise_append.2 ⟨h1, by simp, fun x hx y hy => ?_⟩, fun x => ?_⟩
      · simp only [List.mem_singleton] at hy; rw [hy]; exact hnot x hx
      · rw [hmem, List.mem_append, h2, List.mem_singleton]
        constructor
        · rintro (h | h)
          · exact .inl h
          · exact .inr ⟨h.symm, by omega, g2⟩
        · rintro (h | h)
          · exact .inl h
          · exact .inr h.1.symm
    · rename_i hc
      refine ⟨h1, fun x => ?_⟩
      rw [hmem]
      constructor
      · intro h; exact .inl ((h2 x).1 h)
      · rintro (h | ⟨rfl, g1, g2⟩)
        · exact (h2 x).2 h
        · have g3 : ¬ c.getLast? ≠ some u.row := fun h => hc ⟨g1, g2, h⟩
          rw [Classical.not_not] at g3
          exact List.mem_of_getLast? g3
theorem refChanged_spec (l : List Ver) (from_ to_ : Int) : (refChanged l from_ to_).Pairwise (· < ·) ∧ ∀ x, x ∈ refChanged l from_ to_ ↔ ∃ v ∈ l, v.row = x ∧ from_ < v.stamp ∧ v.stamp ≤ to_ := by
  obtain ⟨h1, h2⟩ := chgN_spec (ordered_srtd l) from_ to_ _ (Nat.le_refl _)
  refine ⟨h1, fun x => ?_⟩
  rw [refChanged, h2, List.take_length]
  constructor
  · rintro ⟨v, hv, h⟩; exact ⟨v, (ordered_perm l).mem_iff.1 hv, h⟩
  · rintro ⟨v, hv, h⟩; exact ⟨v, (ordered_perm l).mem_iff.2 hv, h⟩
theorem changed_ref (l : List Ver) (from_ to_ : Int) : changed l from_ to_ = refChanged l from_ to_ := by
  obtain ⟨h1, h2⟩ := changed_spec l from_ to_
  obtain ⟨h3, h4⟩ := refChanged_spec l from_ to_
  exact asc_one h1 h3 fun x => by rw [h2, h4]
end Go.Proofs.Try
