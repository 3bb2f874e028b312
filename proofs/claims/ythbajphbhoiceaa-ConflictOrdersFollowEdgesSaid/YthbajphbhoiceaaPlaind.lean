/-
  A part of the proof: see the text of the law.
-/
import Derived.Test.YthbajphbhoiceaaPlainb
set_option linter.unusedSimpArgs false
set_option linter.unusedVariables false
namespace Go.Proofs.Try
open Go.Al
set_option linter.unusedVariables false
set_option linter.unusedSimpArgs false

/-! ### where each writer reads what it writes -/
section
variable {h : List Acc} {ol : List Nat} (hc : checkS h = 0) (hrw : ∀ i, i < h.length → (at' h i).done = true → ∀ x ∈ (at' h i).writes, x ∈ (at' h i).reads) (he : EqvO h (natL ol) ol)
include hc he
omit hc in
/-- The version that a place of the order reads is that of the last writer before it. -/
theorem read_pos {j : Nat} (hj : j < ol.length) {x : Int} (hx : x ∈ (at' h (ol.getD j 0)).reads) {u : Nat} (hu : Cand h x (at' h (ol.getD j 0)).snap u) :
    ∃ q, q < j ∧ (at' h u).stamp ≤ (at' h (ol.getD q 0)).stamp ∧ Cand h x (at' h (ol.getD j 0)).snap (ol.getD q 0) ∧ ∀ k, q < k → k < j → x ∉ (at' h (ol.getD k 0)).writes := by
  have hr := he.reads j hj x hx
  cases e : srcV h x (at' h (ol.getD j 0)).snap with
  | none => exact absurd hu (srcV_none e u)
  | some p =>
    obtain ⟨cp, cm⟩ := srcV_some e
    rw [e] at hr
    obtain ⟨q, h1, h2, h3, h4⟩ := lastW_pos hr
    rw [List.length_take] at h1
    rw [take_getD (by omega)] at h2
    refine ⟨q, by omega, by rw [h2]; exact cm u hu, by rw [h2]; exact cp, fun k h5 h6 => ?_⟩
    have := h4 k h5 (by rw [List.length_take]; omega)
    rwa [take_getD h6] at this
include hrw
theorem ww_pos {x : Int} : ∀ (n : Nat) {i j : Nat}, j ≤ n → i < ol.length → j < ol.length → x ∈ (at' h (ol.getD i 0)).writes → x ∈ (at' h (ol.getD j 0)).writes → (at' h (ol.getD i 0)).stamp < (at' h (ol.getD j 0)).stamp → i < j := by
  intro n
  induction n with
  | zero =>
    intro i j hn hi hj hx hy hs
    have di := (he.mem _).1 (get_mem hi)
    have dj := (he.mem _).1 (get_mem hj)
    have wi : Wr h (ol.getD i 0) := ⟨di.1, di.2, List.length_pos_of_mem hx⟩
    have wj : Wr h (ol.getD j 0) := ⟨dj.1, dj.2, List.length_pos_of_mem hy⟩
    obtain ⟨q, h1, _⟩ := read_pos he hj (hrw _ dj.1 dj.2 x hy) (cand_of di.2 hx (writers_order hc wi wj ⟨x, hx, hy⟩ hs))
    omega
  | succ n ih =>
    intro i j hn hi hj hx hy hs
    have di := (he.mem _).1 (get_mem hi)
    have dj := (he.mem _).1 (get_mem hj)
    have wi : Wr h (ol.getD i 0) := ⟨di.1, di.2, List.length_pos_of_mem hx⟩
    have wj : Wr h (ol.getD j 0) := ⟨dj.1, dj.2, List.length_pos_of_mem hy⟩
    obtain ⟨q, h1, h2, h3, _⟩ := read_pos he hj (hrw _ dj.1 dj.2 x hy) (cand_of di.2 hx (writers_order hc wi wj ⟨x, hx, hy⟩ hs))
    by_cases e : ol.getD q 0 = ol.getD i 0
    · have := getD_nodup he.nodup (by omega) hi e; omega
    · have := stamps_ne hc h3.wr wi e
      have := ih (i := i) (j := q) (by omega) hi (by omega) hx h3.1 (by omega)
      omega
/-- In every equivalent order, every edge leads to a later place. -/
theorem fwd_of_eqv : FwdO h ol := by
  intro a b hab
  obtain ⟨da, db⟩ := edge_done hab
  obtain ⟨i, hi, rfl⟩ := mem_get ((he.mem a).2 ⟨done_lt da, da⟩)
  obtain ⟨j, hj, rfl⟩ := mem_get ((he.mem b).2 ⟨done_lt db, db⟩)
  refine ⟨i, j, ?_, hj, rfl, rfl⟩
  obtain ⟨hne, hp | ⟨_, _, ⟨x, hx, hy⟩, hs⟩⟩ := hab
  · obtain ⟨_, _, ⟨⟨x, hx, hy⟩, hs⟩ | ⟨⟨x, hx, hy⟩, hs⟩⟩ := hp
    · exact ww_pos hc hrw he _ (Nat.le_refl _) hi hj hx hy hs
    · have ci := cand_of da hx hs
      obtain ⟨q, h1, h2, h3, _⟩ := read_pos he hj hy ci
      by_cases e : ol.getD q 0 = ol.getD i 0
      · have := getD_nodup he.nodup (by omega) hi e; omega
      · have := stamps_ne hc h3.wr ci.wr e
        have := ww_pos hc hrw he _ (Nat.le_refl _) hi (show q < ol.length by omega) hx h3.1 (by omega)
        omega
  · refine Classical.byContradiction fun hij => ?_
    have hlt : j < i := by
      have : i ≠ j := fun e => hne (by rw [e])
      omega
    -- the last writer before the reader
    have hr := he.reads i hi x hx
    have hn : lastW h (ol.take i) x ≠ none := fun e => by
      refine lastW_none.1 e (ol.getD j 0) ?_ hy
      have : (ol.take i).getD j 0 = ol.getD j 0 := take_getD hlt
      rw [← this]
      exact get_mem (by rw [List.length_take]; omega)
    obtain ⟨p, hp⟩ := Option.ne_none_iff_exists'.1 hn
    rw [hp] at hr
    obtain ⟨cp, _⟩ := srcV_some hr.symm
    obtain ⟨q, h1, h2, h3, h4⟩ := lastW_pos hp
    rw [List.length_take] at h1
    rw [take_getD (by omega)] at h2
    subst h2
    have hjq : j ≤ q := Nat.le_of_not_lt fun hqj => by
      have := h4 j hqj (by rw [List.length_take]; omega)
      rw [take_getD hlt] at this
      exact this hy
    have := ww_pos hc hrw he _ (Nat.le_refl _) (show q < ol.length by omega) hj h3 hy (by have := cp.2.2; omega)
    omega
end
end Go.Proofs.Try
