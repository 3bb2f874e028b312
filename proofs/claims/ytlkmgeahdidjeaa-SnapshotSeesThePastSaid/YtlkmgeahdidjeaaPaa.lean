/-
  A part of the proof: see the text of the law.
-/
import Derived.Test.YtlkmgeahdidjeaaEad
set_option linter.unusedSimpArgs false
set_option linter.unusedVariables false
namespace Go.Proofs.Try
set_option linter.unusedVariables false

/-! ### the order of versions -/
theorem gtV_false {a b : Ver} : gtV a b = false ↔ a.row < b.row ∨ a.row = b.row ∧ a.stamp ≤ b.stamp := by
  simp only [gtV, Bool.or_eq_false_iff, Bool.and_eq_false_iff, decide_eq_false_iff_not]
  first | done | omega
theorem gtV_true {a b : Ver} : gtV a b = true ↔ b.row < a.row ∨ a.row = b.row ∧ b.stamp < a.stamp := by
  simp only [gtV, Bool.or_eq_true, Bool.and_eq_true, decide_eq_true_eq]
  first | done | omega
def srtd (l : List Ver) : Prop := l.Pairwise fun a b => gtV a b = false
def diff (l : List Ver) : Prop := l.Pairwise fun a b => ¬(a.row = b.row ∧ a.stamp = b.stamp)
theorem ins_perm (o : List Ver) (v : Ver) : (ins o v).Perm (v :: o) := by
  unfold ins
  refine List.perm_middle.trans ?_
  rw [List.take_append_drop]
theorem ordered_perm (l : List Ver) : (ordered l).Perm l := by
  suffices ∀ o : List Ver, (l.foldl ins o).Perm (o ++ l) by simpa [ordered] using this []
  induction l with
  | nil => simp
  | cons v l ih =>
    intro o
    rw [List.foldl_cons]
    refine (ih _).trans ?_
    refine ((ins_perm o v).append_right l).trans ?_
    exact List.perm_middle.symm
theorem insAt_spec (o : List Ver) (v : Ver) : ∀ n, (∀ j, insAt o v n ≤ j → j < n → gtV (o.getD j default) v = true) ∧ (0 < insAt o v n → gtV (o.getD (insAt o v n - 1) default) v = false)
  | 0 => by simp [insAt]
  | k + 1 => by
    obtain ⟨h1, h2⟩ := insAt_spec o v k
    simp only [insAt]
    split
    · rename_i h
      refine ⟨fun j hj hk => ?_, h2⟩
      by_cases hjk : j = k
      · rw [hjk]; exact h
      · exact h1 j hj (by omega)
    · rename_i h
      exact ⟨fun j hj hk => by omega, fun _ => by simpa using h⟩
theorem ins_srtd {o : List Ver} {v : Ver} (h : srtd o) : srtd (ins o v) := by
  obtain ⟨h1, h2⟩ := insAt_spec o v o.length
  have hle := insAt_le o v o.length
  unfold ins srtd
  generalize insAt o v o.length = k at *
  have ht : srtd (o.take k ++ o.drop k) := by rw [List.take_append_drop]; exact h
  obtain ⟨p1, p2, p3⟩ := List.pairwise_append.1 ht
  have hd : ∀ y ∈ o.drop k, gtV y v = true := by
    intro y hy
    obtain ⟨j, hj⟩ := List.getElem?_of_mem hy
    rw [List.getElem?_drop] at hj
    have hlt := (List.getElem?_eq_some_iff.1 hj).1
    have := h1 (k + j) (by omega) hlt
    rwa [List.getD_eq_getElem?_getD, hj] at this
  have hb : ∀ y ∈ o.take k, gtV y v = false := by
    intro y hy
    obtain ⟨j, hj⟩ := List.getElem?_of_mem hy
    rw [List.getElem?_take] at hj
    split at hj
    · rename_i hjk
      have h3 := h2 (by omega)
      by_cases hjj : j = k - 1
      · subst hjj
        rwa [List.getD_eq_getElem?_getD, hj] at h3
      · have hlt := (List.getElem?_eq_some_iff.1 hj)
        obtain ⟨hlt, rfl⟩ := hlt
        have h4 := List.pairwise_iff_getElem.1 h j (k - 1) hlt (by omega) (by omega)
        rw [List.getD_eq_getElem?_getD, List.getElem?_eq_getElem (by omega : k - 1 < o.length), Option.getD_some] at h3
        rw [gtV_false] at *
        omega
    · cases hj
  refine List.pairwise_append.2 ⟨p1, List.pairwise_cons.2 ⟨fun y hy => ?_, p2⟩, fun x hx y hy => ?_⟩
  · have := hd y hy
    rw [gtV_true] at this
    rw [gtV_false]; omega
  · rcases List.mem_cons.1 hy with rfl | hy
    · exact hb x hx
    · exact p3 x hx y hy
theorem ordered_srtd (l : List Ver) : srtd (ordered l) := by
  suffices ∀ o : List Ver, srtd o → srtd (l.foldl ins o) from this [] .nil
  induction l with
  | nil => intro o h; exact h
  | cons v l ih => intro o h; exact ih _ (ins_srtd h)
theorem diff_mem {l : List Ver} (h : diff l) {a b : Ver} (ha : a ∈ l) (hb : b ∈ l) (h1 : a.row = b.row) (h2 : a.stamp = b.stamp) : a = b := by
  obtain ⟨i, hi⟩ := List.getElem?_of_mem ha
  obtain ⟨j, hj⟩ := List.getElem?_of_mem hb
  obtain ⟨hi', rfl⟩ := List.getElem?_eq_some_iff.1 hi
  obtain ⟨hj', rfl⟩ := List.getElem?_eq_some_iff.1 hj
  rcases Nat.lt_trichotomy i j with hij | hij | hij
  · exact absurd ⟨h1, h2⟩ (List.pairwise_iff_getElem.1 h i j hi' hj' hij)
  · subst hij; rfl
  · exact absurd ⟨h1.symm, h2.symm⟩ (List.pairwise_iff_getElem.1 h j i hj' hi' hij)
/-- There is one order. -/
theorem srtd_one {l l' : List Ver} (hd : diff l) (hp : l'.Perm l) (hs : srtd l') : l' = ordered l := by
  refine List.Perm.eq_of_pairwise (le := fun x y => gtV x y = false) ?_ hs (ordered_srtd l) (hp.trans (ordered_perm l).symm)
  intro a b ha hb h1 h2
  rw [gtV_false] at h1 h2
  exact diff_mem hd (hp.mem_iff.1 ha) ((ordered_perm l).mem_iff.1 hb) (by omega) (by omega)
theorem diff_perm {l l' : List Ver} (h : diff l) (hp : l'.Perm l) : diff l' :=
  (hp.pairwise_iff (fun h => fun ⟨h1, h2⟩ => h ⟨h1.symm, h2.symm⟩)).2 h
end Go.Proofs.Try
