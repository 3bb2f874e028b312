/-
  A part of the proof: see the text of the law.
-/
import Derived.Test.YtlkmgeahdidjeaaEak
set_option linter.unusedSimpArgs false
set_option linter.unusedVariables false
namespace Go.Proofs.Try
set_option linter.unusedVariables false

/-! ### the versions row by row -/
theorem runN_same {r : List Ver} (h : r ≠ []) : ∀ v ∈ r.take (runN r), v.row = (r.getD 0 default).row := by
  cases r with
  | nil => exact absurd rfl h
  | cons x t =>
    intro v hv
    have e : runN (x :: t) = (t.takeWhile fun v => decide (v.row = x.row)).length + 1 := by simp [runN, Nat.add_comm]
    rw [e, List.take_succ_cons] at hv
    rcases List.mem_cons.1 hv with rfl | hv
    · rfl
    · have h2 : t.take (t.takeWhile fun v => decide (v.row = x.row)).length = t.takeWhile fun v => decide (v.row = x.row) := by
        conv => lhs; rw [← List.takeWhile_append_dropWhile (p := fun v : Ver => decide (v.row = x.row)) (l := t)]
        rw [List.take_left' (by rw [List.takeWhile_append_dropWhile])]
      rw [h2] at hv
      have := List.all_takeWhile (l := t) (p := fun v : Ver => decide (v.row = x.row))
      rw [List.all_eq_true] at this
      simpa using this v hv
theorem groups_spec : ∀ (n : Nat) (a : List Ver), a.length ≤ n → (groups a).flatten = a ∧ ∀ g ∈ groups a, g ≠ [] ∧ g.Sublist a ∧ ∀ v ∈ g, v.row = (g.getD 0 default).row
  | 0, a, h => by
    have : a = [] := List.eq_nil_of_length_eq_zero (by omega)
    subst this
    rw [groups_nil]
    simp
  | n + 1, a, h => by
    by_cases hne : a = []
    · subst hne; rw [groups_nil]; simp
    · have hle := runN_le hne
      obtain ⟨h1, h2⟩ := groups_spec n (a.drop (runN a)) (by simp; omega)
      rw [groups_cons hne]
      refine ⟨by rw [List.flatten_cons, h1, List.take_append_drop], fun g hg => ?_⟩
      rcases List.mem_cons.1 hg with rfl | hg
      · refine ⟨fun hc => ?_, List.take_sublist _ _, fun v hv => ?_⟩
        · have := congrArg List.length hc
          rw [List.length_take, List.length_nil, Nat.min_eq_left hle.2] at this
          omega
        · rw [runN_same hne v hv]
          obtain ⟨k, hk⟩ : ∃ k, runN a = k + 1 := ⟨runN a - 1, by omega⟩
          cases a with
          | nil => exact absurd rfl hne
          | cons x t => rw [hk]; rfl
      · obtain ⟨k1, k2, k3⟩ := h2 g hg
        exact ⟨k1, k2.trans (List.drop_sublist _ _), k3⟩
theorem groups_asc {a : List Ver} (hs : srtd a) (hd : diff a) {g : List Ver} (hg : g ∈ groups a) : ascS g := by
  obtain ⟨_, h2⟩ := groups_spec a.length a (Nat.le_refl _)
  obtain ⟨_, h4, h5⟩ := h2 g hg
  refine List.Pairwise.imp_of_mem ?_ (List.Pairwise.and (hs.sublist h4) (hd.sublist h4))
  intro x y hx hy ⟨h6, h7⟩
  have e : x.row = y.row := by rw [h5 x hx, h5 y hy]
  rw [gtV_false] at h6
  have := fun h => h7 ⟨e, h⟩
  omega
end Go.Proofs.Try
