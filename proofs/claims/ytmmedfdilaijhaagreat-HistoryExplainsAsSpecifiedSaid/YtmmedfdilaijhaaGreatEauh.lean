/-
  A part of the proof: see the text of the law.
-/
import Derived.Test.YtmmedfdilaijhaaGreatEaug
import Derived.Test.YtmmedfdilaijhaaGreatAlphaK
set_option linter.unusedSimpArgs false
set_option linter.unusedVariables false
namespace Go.Proofs.Try
open Go.Proofs.Tryz
open Go.Al
set_option linter.unusedVariables false
set_option linter.unusedSimpArgs false
set_option maxRecDepth 20000
set_option maxHeartbeats 8000000

theorem vK_eq (C : AV → List AV) : ∀ d, vK C d = vKn 22 C d
  | 0 => rfl
  | d + 1 => by rw [vK, vKn, vK_eq C d]
def seenL (h : List Hap) (k : Int) : List Hap := h.filter fun x => decide (x.k = 5) && decide (x.st = k)
def spansH (h : List Hap) := spansN h h.length
def explainH (h : List Hap) : List Int × Bool × Int :=
  if rightB h = false then ([], false, 1)
  else if 8 < lenH h - (spansH h).2.1.length then ([], false, 2)
  else match srch h (seenL h) (lenH h).toNat (getM (spansH h).2.1) (srt ((spansH h).1.map (·.1))) (fun tx => (getM (spansH h).1 tx).getD (0, 0)) ((lenH h).toNat + 1) [] with
    | some l => (l, true, 0)
    | none => ([], false, 0)
theorem lenH_pos : ∀ (h : List Hap), 0 ≤ lenH h := by
  have : ∀ (h : List Hap) (n : Int), n ≤ h.foldl (fun n x => if x.k = 2 ∨ x.k = 5 then max n x.st else n) n := by
    intro h
    induction h with
    | nil => intro n; simp
    | cons x h ih =>
      intro n
      rw [List.foldl_cons]
      refine Int.le_trans ?_ (ih _)
      split <;> omega
  exact fun h => this h 0
theorem lenH_max {h : List Hap} (hr : rightB h = true) : lenH h ≤ 1073741824 := by
  have : ∀ i, i ≤ h.length → lenH (h.take i) ≤ 1073741824 := by
    intro i
    induction i with
    | zero => intro _; simp [lenH]
    | succ i ih =>
      intro hi
      have hil : i < h.length := by omega
      have h1 := ih (by omega)
      have hev := right_at hr hil
      rw [lenH_next hil]
      rw [eventOk_eq, Bool.and_eq_true] at hev
      have h2 := hev.2
      generalize h.getD i default = x at *
      split
      · rename_i hk
        rcases hk with hk | hk
        · simp only [evB,hk,show ¬ (2 : Int) = 1 by decide,if_false,if_true,numb,Bool.and_eq_true,decide_eq_true_eq] at h2
          omega
        · simp only [evB,hk,show ¬ (5 : Int) = 1 by decide,show ¬ (5 : Int) = 2 by decide,show ¬ (5 : Int) = 3 by decide,if_false,if_true,Bool.and_eq_true,decide_eq_true_eq] at h2
          omega
      · exact h1
  have h2 := this h.length (Nat.le_refl _)
  rwa [List.take_length] at h2
theorem setM_len {α : Type} (m : List (Int × α)) (r : Int) (v : α) : (setM m r v).length ≤ m.length + 1 := by
  by_cases h : r ∈ keysM m
  · rw [setM_len_in h]; omega
  · rw [setM_len_out h]; exact Nat.le_refl _
theorem delM_len {α : Type} (m : List (Int × α)) (r : Int) : (delM m r).length ≤ m.length := by
  rcases find_m (r := r) m 0 with ⟨_, _, _, h⟩ | ⟨j, p, _, _, _, _, _, h⟩
  · rw [h]; exact Nat.le_refl _
  · rw [h, List.length_eraseIdx]; split <;> omega
theorem cutSp_len (n : Int) (m : List (Int × (Int × Int))) (tx : Int) : (cutSp n m tx).length ≤ m.length := by
  unfold cutSp
  split
  · rename_i s hs
    rw [setM_len_in]
    · exact Nat.le_refl _
    · refine Decidable.byContradiction fun hc => ?_
      rw [getM_none.2 hc] at hs; cases hs
  · exact Nat.le_refl _
theorem cutL_len (n : Int) : ∀ (l : List Int) (m : List (Int × (Int × Int))), (l.foldl (cutSp n) m).length ≤ m.length
  | [], m => Nat.le_refl _
  | t :: l, m => Nat.le_trans (cutL_len n l _) (cutSp_len n m t)
theorem spans_len (h : List Hap) : ∀ i, (spansN h i).1.length ≤ i ∧ (spansN h i).2.1.length ≤ i
  | 0 => by simp [spansN]
  | i + 1 => by
    obtain ⟨h1, h2⟩ := spans_len h i
    rw [spansN]
    generalize spansN h i = y at *
    generalize h.getD i default = x at *
    unfold spStep
    have a1 := setM_len y.1 x.tx (y.2.2, 1073741825)
    have a2 := delM_len y.1 x.tx
    have a3 := setM_len y.2.1 x.st x.tx
    have a4 := cutL_len (nextS (h.drop i)) (openL (h.take i)) y.1
    repeat' split
    all_goals first | omega | (simp only; omega)
def slcV (p : Nat × List Hap) : AV := .slc p.1 5 p.2.length
def SeenR (h : List Hap) (m : List (Int × (Nat × List Hap))) : Prop := ∀ k, ((getM m k).map (·.2)).getD [] = seenL h k
structure SeenH (m : List (Int × (Nat × List Hap))) (H : List AObj) : Prop where
  len : 2 ≤ H.length
  box : H[0]? = some (.box [.mp 1])
  keys : (keysM m).Nodup
  ids : (m.map (·.2.1)).Nodup
  at' : ∀ p ∈ m, 2 ≤ p.2.1 ∧ H[p.2.1]? = some (.arr 37 5 (p.2.2.map Hap.av))
theorem getM_mem {α : Type} {m : List (Int × α)} {r : Int} {v : α} (h : getM m r = some v) : (r, v) ∈ m := by
  induction m with
  | nil => simp [getM] at h
  | cons p m ih =>
    rw [getM_cons] at h
    split at h
    · rename_i hp
      cases h
      rw [← hp]; exact List.mem_cons_self
    · exact List.mem_cons_of_mem _ (ih h)
theorem mem_setM {α : Type} {m : List (Int × α)} {r : Int} {v : α} {p : Int × α} (h : p ∈ setM m r v) : p = (r, v) ∨ (p ∈ m) := by
  induction m with
  | nil => exact .inl (List.mem_singleton.1 h)
  | cons q m ih =>
    rw [setM] at h
    split at h
    · rcases List.mem_cons.1 h with h | h
      · exact .inl h
      · exact .inr (List.mem_cons_of_mem _ h)
    · rcases List.mem_cons.1 h with h | h
      · rw [h]; exact .inr List.mem_cons_self
      · rcases ih h with h | h
        · exact .inl h
        · exact .inr (List.mem_cons_of_mem _ h)
theorem mem_setM_ne {α : Type} {m : List (Int × α)} (hn : (keysM m).Nodup) {r : Int} {v : α} {p : Int × α} (h : p ∈ setM m r v) (hp : p ≠ (r, v)) : p ∈ m ∧ p.1 ≠ r := by
  induction m with
  | nil => exact absurd (List.mem_singleton.1 h) hp
  | cons q m ih =>
    simp only [keysM,List.map_cons,List.nodup_cons] at hn
    rw [setM] at h
    split at h
    · rename_i hq
      rcases List.mem_cons.1 h with h | h
      · exact absurd h hp
      · refine ⟨List.mem_cons_of_mem _ h, fun e => hn.1 ?_⟩
        rw [hq, ← e]
        exact List.mem_map.2 ⟨p, h, rfl⟩
    · rename_i hq
      rcases List.mem_cons.1 h with h | h
      · rw [h]; exact ⟨List.mem_cons_self, hq⟩
      · obtain ⟨h1, h2⟩ := ih hn.2 h
        exact ⟨List.mem_cons_of_mem _ h1, h2⟩
theorem ids_set {m : List (Int × (Nat × List Hap))} {r : Int} {n : Nat} {l : List Hap} (h : (m.map (·.2.1)).Nodup) (hf : ∀ p ∈ m, p.2.1 ≠ n) : ((setM m r (n, l)).map (·.2.1)).Nodup := by
  induction m with
  | nil => simp [setM]
  | cons p m ih =>
    simp only [List.map_cons,List.nodup_cons] at h
    rw [setM]
    split
    · rw [List.map_cons, List.nodup_cons]
      refine ⟨fun hc => ?_, h.2⟩
      obtain ⟨q, hq, e⟩ := List.mem_map.1 hc
      exact hf q (List.mem_cons_of_mem _ hq) e
    · rw [List.map_cons, List.nodup_cons]
      refine ⟨fun hc => ?_, ih h.2 fun q hq => hf q (List.mem_cons_of_mem _ hq)⟩
      obtain ⟨q, hq, e⟩ := List.mem_map.1 hc
      rcases mem_setM hq with rfl | hq
      · exact hf p List.mem_cons_self e.symm
      · exact h.1 (List.mem_map.2 ⟨q, hq, e⟩)
theorem SeenH.put {m : List (Int × (Nat × List Hap))} {H H' : List AObj} (s : SeenH m H) {r : Int} {n : Nat} {l : List Hap} (hn : 2 ≤ n) (hl : 2 ≤ H'.length) (h0 : H'[0]? = H[0]?) (hf : ∀ p ∈ m, p.2.1 ≠ n) (hnew : H'[n]? = some (.arr 37 5 (l.map Hap.av)))
    (hold : ∀ p ∈ m, p.1 ≠ r → H'[p.2.1]? = H[p.2.1]?) : SeenH (setM m r (n, l)) H' := by
  refine ⟨hl, h0.trans s.box, keys_set_nodup s.keys, ids_set s.ids hf, fun p hp => ?_⟩
  by_cases e : p = (r, (n, l))
  · rw [e]; exact ⟨hn, hnew⟩
  · obtain ⟨h1, h2⟩ := mem_setM_ne s.keys hp e
    obtain ⟨h3, h4⟩ := s.at' p h1
    exact ⟨h3, (hold p h1 h2).trans h4⟩
theorem SeenH.ext {m : List (Int × (Nat × List Hap))} {H H' : List AObj} (s : SeenH m H) (hl : H.length ≤ H'.length) (h : ∀ i, i ≠ 1 → i < H.length → H'[i]? = H[i]?) : SeenH m H' :=
  ⟨Nat.le_trans s.len hl, (h 0 (by omega) (by have := s.len; omega)).trans s.box, s.keys, s.ids, fun p hp => by
    obtain ⟨h1, h2⟩ := s.at' p hp
    have h3 := (List.getElem?_eq_some_iff.1 h2).1
    exact ⟨h1, (h _ (by omega) h3).trans h2⟩⟩
theorem seenL_snoc (h : List Hap) (x : Hap) (k : Int) : seenL (h ++ [x]) k = if x.k = 5 ∧ x.st = k then seenL h k ++ [x] else seenL h k := by
  unfold seenL
  rw [List.filter_append]
  by_cases h1 : x.k = 5 ∧ x.st = k
  · rw [if_pos h1]
    simp [h1.1, h1.2]
  · rw [if_neg h1]
    have : (decide (x.k = 5) && decide (x.st = k)) = false := by
      rw [Bool.eq_false_iff]
      simpa using h1
    simp [List.filter_cons, this]
theorem SeenR.other {h : List Hap} {m : List (Int × (Nat × List Hap))} {x : Hap} (s : SeenR h m) (hk : x.k ≠ 5) : SeenR (h ++ [x]) m := fun k => by
  rw [s k, seenL_snoc, if_neg fun e => hk e.1]
theorem SeenR.see {h : List Hap} {m : List (Int × (Nat × List Hap))} {x : Hap} {n : Nat} {l : List Hap} (s : SeenR h m) (hk : x.k = 5) (hl : l = seenL h x.st) : SeenR (h ++ [x]) (setM m x.st (n, l ++ [x])) := fun k => by
  rw [getM_set, seenL_snoc]
  by_cases e : k = x.st
  · rw [if_pos e, if_pos ⟨hk, e.symm⟩, e, hl]; rfl
  · rw [if_neg e, if_neg fun q => e q.2.symm]
    exact s k
end Go.Proofs.Try

