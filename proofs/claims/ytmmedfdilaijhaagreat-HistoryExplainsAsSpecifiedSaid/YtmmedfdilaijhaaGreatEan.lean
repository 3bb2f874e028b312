/-
  A part of the proof: see the text of the law.
-/
import Derived.Test.YtmmedfdilaijhaaGreatEal
import Derived.Test.YtmmedfdilaijhaaGreatAlphaK
set_option linter.unusedSimpArgs false
set_option linter.unusedVariables false
namespace Go.Proofs.Try
open Go.Proofs.Tryz
open Go.Al
set_option linter.unusedVariables false
set_option linter.unusedSimpArgs false
set_option maxRecDepth 20000
set_option maxHeartbeats 8000000

theorem put_old {α : Type} (f : α → AV) {m : List (Int × α)} (bs : List Nat) (c : Nat) {r : Int} (v : α) (h : r ∈ keysM m) : putK (.int .i64) (kM m) (vM f m) bs c (.int .i64 r) (f v) = some (.map (kM m) (vM f (setM m r v)) bs c) := by
  unfold putK kM vM
  rcases find_m (r := r) m 0 with ⟨h1, h2, _⟩ | ⟨j, p, h1, h2, h3, h4, h5, _⟩
  · exact absurd h (getM_none.1 h2)
  · rw [h5, List.map_set]
    simp [keyIs, keysOk, h1]
theorem put_new {α : Type} (f : α → AV) {m : List (Int × α)} (bs : List Nat) (c : Nat) {r : Int} (v : α) (h : r ∉ keysM m) : putK (.int .i64) (kM m) (vM f m) bs c (.int .i64 r) (f v) = some (.map (kM (m ++ [(r, v)])) (vM f (m ++ [(r, v)])) (bs ++ [c]) (c + 1)) := by
  unfold putK kM vM
  rcases find_m (r := r) m 0 with ⟨h1, h2, h3, _⟩ | ⟨j, p, h1, h2, h3, h4, h5, _⟩
  · simp [keyIs, keysOk, h1]
  · rw [getM_none.2 h] at h4
    cases h4
structure WfM (n : Nat) (bs : List Nat) (c : Nat) : Prop where
  len : bs.length = n
  nodup : bs.Nodup
  lt : ∀ b ∈ bs, b < c
theorem WfM.snoc {n c : Nat} {bs : List Nat} (h : WfM n bs c) : WfM (n + 1) (bs ++ [c]) (c + 1) := by
  refine ⟨by simp [h.len], List.nodup_append.2 ⟨h.nodup, by simp, fun a ha b hb e => ?_⟩, fun b hb => ?_⟩
  · rw [List.mem_singleton.1 hb] at e
    have := h.lt a ha
    omega
  · rcases List.mem_append.1 hb with hb | hb
    · have := h.lt b hb
      omega
    · rw [List.mem_singleton.1 hb]; omega
end Go.Proofs.Try


namespace Go.Proofs.Try
open Go.Proofs.Tryz
open Go.Al
set_option linter.unusedVariables false
set_option linter.unusedSimpArgs false
set_option maxRecDepth 20000
set_option maxHeartbeats 8000000

def lostM (m : List (Int × Int)) : List (Int × Int) := m.map fun p => if p.2 = 1 then (p.1, 4) else p
def lostS (seen bs : List Nat) (m : List (Int × Int)) : List (Int × Int) := (m.zip bs).map fun q => if q.2 ∈ seen ∧ q.1.2 = 1 then (q.1.1, 4) else q.1
theorem lostS_nil {bs : List Nat} {m : List (Int × Int)} (h : bs.length = m.length) : lostS [] bs m = m := by
  unfold lostS
  simp only [List.not_mem_nil,false_and,if_false]
  have : (m.zip bs).map Prod.fst = m := List.map_fst_zip (by omega)
  exact this
theorem lostS_all {seen bs : List Nat} {m : List (Int × Int)} (h : bs.length = m.length) (ha : ∀ b ∈ bs, b ∈ seen) : lostS seen bs m = lostM m := by
  unfold lostS lostM
  have e : (m.zip bs).map (fun q => if q.2 ∈ seen ∧ q.1.2 = 1 then (q.1.1, (4 : Int)) else q.1) = (m.zip bs).map (fun q => (fun p : Int × Int => if p.2 = 1 then (p.1, (4 : Int)) else p) q.1) := by
    refine List.map_congr_left fun q hq => ?_
    have := ha q.2 (List.of_mem_zip (show (q.1, q.2) ∈ m.zip bs from hq)).2
    simp [this]
  rw [e]
  have e2 : (m.zip bs).map (fun q => (fun p : Int × Int => if p.2 = 1 then (p.1, (4 : Int)) else p) q.1) = ((m.zip bs).map Prod.fst).map (fun p : Int × Int => if p.2 = 1 then (p.1, (4 : Int)) else p) := by rw [List.map_map]; rfl
  rw [e2, List.map_fst_zip (by omega)]
theorem lostS_at (seen bs : List Nat) (m : List (Int × Int)) (i : Nat) : (lostS seen bs m)[i]? = match m[i]?, bs[i]? with
    | some p, some b => some (if b ∈ seen ∧ p.2 = 1 then (p.1, 4) else p)
    | _, _ => none := by
  unfold lostS
  show ((List.zipWith Prod.mk m bs).map _)[i]? = _
  rw [List.getElem?_map, List.getElem?_zipWith]
  cases m[i]? <;> cases bs[i]? <;> rfl
theorem lostS_keys {seen bs : List Nat} {m : List (Int × Int)} (h : bs.length = m.length) : keysM (lostS seen bs m) = keysM m := by
  unfold keysM lostS
  rw [List.map_map]
  have e : (m.zip bs).map ((fun p : Int × Int => p.1) ∘ fun q => if q.2 ∈ seen ∧ q.1.2 = 1 then (q.1.1, (4 : Int)) else q.1) = ((m.zip bs).map Prod.fst).map (fun p : Int × Int => p.1) := by
    rw [List.map_map]
    refine List.map_congr_left fun q _ => ?_
    simp only [Function.comp]
    split <;> rfl
  rw [e, List.map_fst_zip (by omega)]
theorem nodup_inj {α : Type} {l : List α} (h : l.Nodup) {i j : Nat} {hi : i < l.length} {hj : j < l.length} (e : l[i] = l[j]) : i = j := by
  rcases Nat.lt_trichotomy i j with q | q | q
  · exact absurd e (List.pairwise_iff_getElem.1 h i j hi hj q)
  · exact q
  · exact absurd e.symm (List.pairwise_iff_getElem.1 h j i hj hi q)
theorem lostS_step {seen bs : List Nat} {m : List (Int × Int)} {i b : Nat} {k v : Int} (hl : bs.length = m.length) (hb : bs.Nodup) (hk : (keysM m).Nodup) (h1 : bs[i]? = some b) (h2 : m[i]? = some (k, v)) (hn : b ∉ seen) :
    lostS (seen ++ [b]) bs m = if v = 1 then setM (lostS seen bs m) k 4 else lostS seen bs m := by
  obtain ⟨hi, e1⟩ := List.getElem?_eq_some_iff.1 h1
  obtain ⟨hi2, e2⟩ := List.getElem?_eq_some_iff.1 h2
  have hat := lostS_at seen bs m i
  rw [h1, h2] at hat
  simp only [hn,false_and,if_false] at hat
  have other : ∀ n, n ≠ i → (lostS (seen ++ [b]) bs m)[n]? = (lostS seen bs m)[n]? := fun n hne => by
    rw [lostS_at, lostS_at]
    cases hm : m[n]? with
    | none => rfl
    | some p =>
      cases hb2 : bs[n]? with
      | none => rfl
      | some b' =>
        have hbb : b' ≠ b := fun e => by
          obtain ⟨hn1, e3⟩ := List.getElem?_eq_some_iff.1 hb2
          exact hne (nodup_inj hb (hi := hn1) (hj := hi) (by rw [e3, e1, e]))
        simp [hbb]
  have here : (lostS (seen ++ [b]) bs m)[i]? = some (if v = 1 then (k, 4) else (k, v)) := by
    rw [lostS_at, h1, h2]
    simp
  by_cases hv : v = 1
  · rw [if_pos hv]
    rcases find_m (r := k) (lostS seen bs m) 0 with ⟨_, q2, _⟩ | ⟨j, p, _, q2, q3, _, q5, _⟩
    · exfalso
      refine getM_none.1 q2 ?_
      rw [lostS_keys hl]
      exact List.mem_map.2 ⟨(k, v), e2 ▸ List.getElem_mem hi2, rfl⟩
    · have hji : j = i := by
        have hkj : (keysM m)[j]? = some k := by
          rw [← lostS_keys (seen := seen) hl, keysM, List.getElem?_map, q2]
          simp [q3]
        have hki : (keysM m)[i]? = some k := by
          rw [keysM, List.getElem?_map, h2]; rfl
        obtain ⟨a1, a2⟩ := List.getElem?_eq_some_iff.1 hkj
        obtain ⟨b1, b2⟩ := List.getElem?_eq_some_iff.1 hki
        exact nodup_inj hk (hi := a1) (hj := b1) (a2.trans b2.symm)
      subst hji
      rw [q5]
      apply List.ext_getElem?
      intro n
      by_cases hne : n = j
      · subst hne
        rw [here, if_pos hv, List.getElem?_set_self (by
          obtain ⟨a, _⟩ := List.getElem?_eq_some_iff.1 hat
          exact a)]
      · rw [other n hne, List.getElem?_set_ne (fun e => hne e.symm)]
  · rw [if_neg hv]
    apply List.ext_getElem?
    intro n
    by_cases hne : n = i
    · subst hne
      rw [here, if_neg hv, hat]
    · exact other n hne
end Go.Proofs.Try

