/-
  A part of the proof: see the text of the law.
-/
import Derived.Test.YtlkmgeahdidjeaaEam
set_option linter.unusedSimpArgs false
set_option linter.unusedVariables false
namespace Go.Proofs.Try
open Go.Al
set_option linter.unusedVariables false
set_option linter.unusedSimpArgs false
set_option maxRecDepth 20000
set_option maxHeartbeats 4000000

/-! ### snapshot.Check: a map whose keys are arrays -/
def kAV (v : Ver) : AV := .agg [.int .i64 v.row, .int .i64 v.stamp]
abbrev WK : D := .wide [.int .i64, .int .i64]
def inM (v : Ver) : Prop := 1 ≤ v.row ∧ v.row ≤ 1073741824 ∧ 1 ≤ v.stamp ∧ v.stamp ≤ 1073741824
def sameK (u v : Ver) : Bool := decide (u.row = v.row) && decide (u.stamp = v.stamp)
theorem wf_in {n : Int} (h1 : 1 ≤ n) (h2 : n ≤ 1073741824) : (Lit.int .i64 n).wf = true := by
  simp [Lit.wf, IntKind.min, IntKind.max, IntKind.signed, IntKind.bits]
  omega
theorem fits_k {v : Ver} (h : inM v) : fitsAll [.int .i64, .int .i64] [.int .i64 v.row, .int .i64 v.stamp] = true := by
  obtain ⟨h1, h2, h3, h4⟩ := h
  simp [fitsAll, fits1, wf_in h1 h2, wf_in h3 h4]
theorem eqK_k {u v : Ver} (hu : inM u) (hv : inM v) : eqK WK (kAV v) (kAV u) = some (sameK u v) := by
  simp [eqK, kAV, fits_k hu, fits_k hv, sameAll, same1, sameK, eq_comm]
theorem find_k {v : Ver} (hv : inM v) : ∀ (l : List Ver) (i : Nat), (∀ u ∈ l, inM u) → (l.any (sameK · v) = false → findK WK (kAV v) (l.map kAV) i = some none) ∧ (l.any (sameK · v) = true → ∃ j, j < l.length ∧ findK WK (kAV v) (l.map kAV) i = some (some (i + j)))
  | [], i, _ => ⟨fun _ => rfl, fun h => by simp at h⟩
  | u :: l, i, h => by
    obtain ⟨h1, h2⟩ := find_k hv l (i + 1) fun w hw => h w (by simp [hw])
    simp only [List.map_cons, findK, eqK_k (h u (by simp)) hv, List.any_cons]
    cases hs : sameK u v with
    | true => exact ⟨fun h => by simp at h, fun _ => ⟨0, by simp, rfl⟩⟩
    | false =>
      refine ⟨fun h => by simpa using h1 (by simpa using h), fun h => ?_⟩
      obtain ⟨j, hj, he⟩ := h2 (by simpa using h)
      exact ⟨j + 1, by simpa using hj, by simp only; rw [he]; congr 2; omega⟩
theorem keys_k {l : List Ver} (h : ∀ u ∈ l, inM u) : keysOk WK (l.map kAV) = true := by
  simp only [keysOk, List.all_map, List.all_eq_true]
  intro u hu
  exact fits_k (h u hu)
theorem look_k {v : Ver} (hv : inM v) {l : List Ver} (h : ∀ u ∈ l, inM u) : Al.look WK (.bool false) (l.map kAV) (l.map fun _ => AV.bool true) (kAV v) = some (.bool (l.any (sameK · v)), l.any (sameK · v)) := by
  obtain ⟨h1, h2⟩ := find_k hv l 0 h
  have hk : keyIs WK (kAV v) = true := fits_k hv
  unfold Al.look
  rw [hk, keys_k h]
  cases ha : l.any (sameK · v) with
  | false => simp [h1 ha]
  | true =>
    obtain ⟨j, hj, he⟩ := h2 ha
    simp [he, hj]
theorem put_k {v : Ver} (hv : inM v) {l : List Ver} (h : ∀ u ∈ l, inM u) (hn : l.any (sameK · v) = false) (bs : List Nat) (c : Nat) : putK WK (l.map kAV) (l.map fun _ => AV.bool true) bs c (kAV v) (.bool true) = some (.map ((l ++ [v]).map kAV) ((l ++ [v]).map fun _ => AV.bool true) (bs ++ [c]) (c + 1)) := by
  have hk : keyIs WK (kAV v) = true := fits_k hv
  unfold putK
  rw [hk, keys_k h]
  simp [(find_k hv l 0 h).1 hn]
theorem any_same {l : List Ver} {i : Nat} (hi : i < l.length) : (l.take i).any (sameK · (l.getD i default)) = false ↔ ∀ k, k < i → ¬((l.getD k default).row = (l.getD i default).row ∧ (l.getD k default).stamp = (l.getD i default).stamp) := by
  rw [List.any_eq_false]
  constructor
  · intro h k hk he
    refine h (l.getD k default) ?_ (by simp only [sameK, he.1, he.2, decide_true, Bool.and_self])
    rw [List.mem_iff_getElem?]
    exact ⟨k, by rw [List.getElem?_take, if_pos hk]; simp [show k < l.length by omega]⟩
  · intro h u hu hs
    obtain ⟨k, hk⟩ := List.getElem?_of_mem hu
    rw [List.getElem?_take] at hk
    split at hk
    · rename_i hki
      have := h k hki
      rw [List.getD_eq_getElem?_getD (l := l) (i := k), hk, Option.getD_some] at this
      simp only [sameK, Bool.and_eq_true, decide_eq_true_eq] at hs
      exact this hs
    · cases hk
end Go.Proofs.Try
