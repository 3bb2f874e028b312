/-
  A part of the proof: see the text of the law.
-/
import Derived.Test.YtmmedfdilaijhaaEaw
set_option linter.unusedSimpArgs false
set_option linter.unusedVariables false
namespace Go.Proofs.Try
open Go.Al
set_option linter.unusedVariables false
set_option linter.unusedSimpArgs false

/-! ### the rows behind an order -/
/-- What a transaction writes. -/
def wsOf (h : List Hap) (tx : Int) : List Wr := match h.findIdx? (isAsk tx) with | some i => (h.getD i default).ws | none => []
def Wr.row (w : Wr) (s : Int) : Hd := ⟨w.t, w.r, s, w.v⟩
def putM (s : Int) (m : List ((Int × Int) × Hd)) (w : Wr) : List ((Int × Int) × Hd) := if w.dead = true then delW m (w.t, w.r) else setW m (w.t, w.r) (w.row s)
def putL (s : Int) (l : List Hd) (w : Wr) : List Hd := l.filter (fun y => decide (y.before (w.row s))) ++ (if w.dead = true then [] else [w.row s]) ++ l.filter (fun y => decide ((w.row s).before y))
def stM (h : List Hap) (order : List Int) : Nat → List ((Int × Int) × Hd)
  | 0 => []
  | i + 1 => (wsOf h (order.getD i 0)).foldl (putM (i + 1)) (stM h order i)
/-- The rows behind the first transactions of an order. -/
def stL (h : List Hap) (order : List Int) : Nat → List Hd
  | 0 => []
  | i + 1 => (wsOf h (order.getD i 0)).foldl (putL (i + 1)) (stL h order i)
theorem keysW_del {α : Type} (m : List ((Int × Int) × α)) (r : Int × Int) : keysW (delW m r) = (keysW m).erase r := by
  induction m with
  | nil => rfl
  | cons p m ih =>
    rw [delW]
    simp only [keysW, List.map_cons] at ih ⊢
    by_cases hp : p.1 = r
    · rw [if_pos hp, hp, List.erase_cons_head]
    · rw [if_neg hp, List.map_cons, ih, List.erase_cons_tail (by simpa using hp)]
theorem getW_del {α : Type} {m : List ((Int × Int) × α)} (h : (keysW m).Nodup) (r s : Int × Int) : getW (delW m r) s = if s = r then none else getW m s := by
  induction m with
  | nil => simp [delW, getW]
  | cons p m ih =>
    simp only [keysW, List.map_cons, List.nodup_cons] at h
    rw [delW]
    by_cases hp : p.1 = r
    · rw [if_pos hp]
      by_cases hs : s = r
      · rw [if_pos hs, getW_none, hs, ← hp]; exact h.1
      · have : ¬ p.1 = s := fun e => hs (e.symm.trans hp)
        rw [if_neg hs, getW_cons, if_neg this]
    · rw [if_neg hp, getW_cons, getW_cons, ih h.2]
      by_cases hs : s = r
      · have : ¬ p.1 = s := fun e => hp (e.trans hs)
        rw [if_neg this, if_pos hs, if_pos hs]
      · rw [if_neg hs, if_neg hs]
theorem mem_delW {α : Type} {m : List ((Int × Int) × α)} {r : Int × Int} {p : (Int × Int) × α} (h : p ∈ delW m r) : p ∈ m := by
  induction m with
  | nil => simp [delW] at h
  | cons q m ih =>
    rw [delW] at h
    split at h
    · exact List.mem_cons_of_mem _ h
    · rcases List.mem_cons.1 h with h | h
      · rw [h]; exact List.mem_cons_self
      · exact List.mem_cons_of_mem _ (ih h)
theorem mem_setW2 {α : Type} {m : List ((Int × Int) × α)} {r : Int × Int} {v : α} {p : (Int × Int) × α} (h : p ∈ setW m r v) : p = (r, v) ∨ p ∈ m := by
  induction m with
  | nil => exact .inl (List.mem_singleton.1 h)
  | cons q m ih =>
    rw [setW] at h
    split at h
    · rcases List.mem_cons.1 h with h | h
      · exact .inl h
      · exact .inr (List.mem_cons_of_mem _ h)
    · rcases List.mem_cons.1 h with h | h
      · rw [h]; exact .inr List.mem_cons_self
      · rcases ih h with h | h
        · exact .inl h
        · exact .inr (List.mem_cons_of_mem _ h)
theorem keysW_set_nodup {α : Type} {m : List ((Int × Int) × α)} {r : Int × Int} {v : α} (h : (keysW m).Nodup) : (keysW (setW m r v)).Nodup := by
  rw [keysW_set]
  split
  · exact h
  · rename_i hn
    exact List.nodup_append.2 ⟨h, by simp, fun a ha b hb e => by
      rw [List.mem_singleton.1 hb] at e
      exact hn (e ▸ ha)⟩
theorem getW_mem {α : Type} {m : List ((Int × Int) × α)} {r : Int × Int} {v : α} (h : getW m r = some v) : (r, v) ∈ m := by
  induction m with
  | nil => simp [getW] at h
  | cons p m ih =>
    rw [getW_cons] at h
    split at h
    · rename_i hp
      cases h
      rw [← hp]; exact List.mem_cons_self
    · exact List.mem_cons_of_mem _ (ih h)
theorem mem_getW {α : Type} {m : List ((Int × Int) × α)} (hn : (keysW m).Nodup) {p : (Int × Int) × α} (h : p ∈ m) : getW m p.1 = some p.2 := by
  induction m with
  | nil => simp at h
  | cons q m ih =>
    simp only [keysW, List.map_cons, List.nodup_cons] at hn
    rw [getW_cons]
    rcases List.mem_cons.1 h with h | h
    · rw [h, if_pos rfl]
    · have : ¬ q.1 = p.1 := fun e => hn.1 (e ▸ List.mem_map.2 ⟨p, h, rfl⟩)
      rw [if_neg this]; exact ih hn.2 h
theorem before_irrefl (a : Hd) : ¬ a.before a := by unfold Hd.before; omega
theorem before_asymm {a b : Hd} (h : a.before b) : ¬ b.before a := by unfold Hd.before at *; omega
/-- A map of rows and the same rows in order. -/
structure SameR (m : List ((Int × Int) × Hd)) (l : List Hd) : Prop where
  nodup : (keysW m).Nodup
  key : ∀ p ∈ m, p.1 = (p.2.t, p.2.r)
  asc : l.Pairwise Hd.before
  mem : ∀ y, y ∈ l ↔ getW m (y.t, y.r) = some y
theorem SameR.nil : SameR [] [] := ⟨.nil, by simp, .nil, fun y => by simp [getW]⟩
theorem putL_asc {s : Int} {l : List Hd} {w : Wr} (h : l.Pairwise Hd.before) : (putL s l w).Pairwise Hd.before := by
  unfold putL
  generalize hx : w.row s = x
  refine List.pairwise_append.2 ⟨List.pairwise_append.2 ⟨h.sublist List.filter_sublist, by split <;> simp, fun a ha b hb => ?_⟩, h.sublist List.filter_sublist, fun a ha b hb => ?_⟩
  · split at hb
    · simp at hb
    · rw [List.mem_singleton.1 hb]
      simpa using (List.mem_filter.1 ha).2
  · have hb2 : x.before b := by simpa using (List.mem_filter.1 hb).2
    rcases List.mem_append.1 ha with ha | ha
    · have ha2 : a.before x := by simpa using (List.mem_filter.1 ha).2
      exact before_trans ha2 hb2
    · split at ha
      · simp at ha
      · rw [List.mem_singleton.1 ha]; exact hb2
theorem mem_putL {s : Int} {l : List Hd} {w : Wr} {y : Hd} : y ∈ putL s l w ↔ (y ∈ l ∧ (y.t, y.r) ≠ (w.t, w.r)) ∨ (w.dead = false ∧ y = w.row s) := by
  unfold putL
  rw [List.mem_append, List.mem_append, List.mem_filter, List.mem_filter, decide_eq_true_eq, decide_eq_true_eq]
  have hk : (y.before (w.row s) ∨ (w.row s).before y) ↔ (y.t, y.r) ≠ (w.t, w.r) := by
    simp only [ne_eq, Prod.mk.injEq, Hd.before, Wr.row]
    omega
  rw [← hk]
  cases w.dead
  · simp only [Bool.false_eq_true, if_false, List.mem_singleton, true_and]
    constructor
    · rintro ((⟨h1, h2⟩ | h) | ⟨h1, h2⟩)
      · exact .inl ⟨h1, .inl h2⟩
      · exact .inr h
      · exact .inl ⟨h1, .inr h2⟩
    · rintro (⟨h1, h2 | h2⟩ | h)
      · exact .inl (.inl ⟨h1, h2⟩)
      · exact .inr ⟨h1, h2⟩
      · exact .inl (.inr h)
  · simp only [if_true, List.not_mem_nil, or_false, reduceCtorEq, false_and]
    constructor
    · rintro (⟨h1, h2⟩ | ⟨h1, h2⟩)
      · exact ⟨h1, .inl h2⟩
      · exact ⟨h1, .inr h2⟩
    · rintro ⟨h1, h2 | h2⟩
      · exact .inl ⟨h1, h2⟩
      · exact .inr ⟨h1, h2⟩
theorem SameR.put {m : List ((Int × Int) × Hd)} {l : List Hd} (h : SameR m l) (s : Int) (w : Wr) : SameR (putM s m w) (putL s l w) := by
  refine ⟨?_, fun p hp => ?_, putL_asc h.asc, fun y => ?_⟩
  · unfold putM
    split
    · rw [keysW_del]; exact h.nodup.erase _
    · exact keysW_set_nodup h.nodup
  · unfold putM at hp
    split at hp
    · exact h.key p (mem_delW hp)
    · rcases mem_setW2 hp with rfl | hp
      · rfl
      · exact h.key p hp
  · rw [mem_putL, h.mem]
    have hg : getW (putM s m w) (y.t, y.r) = if (y.t, y.r) = (w.t, w.r) then (if w.dead = true then none else some (w.row s)) else getW m (y.t, y.r) := by
      unfold putM
      split
      · rename_i hd
        rw [getW_del h.nodup]
      · rename_i hd
        rw [getW_set]
    rw [hg]
    by_cases hk : (y.t, y.r) = (w.t, w.r)
    · rw [if_pos hk]
      cases w.dead
      · simp only [hk, ne_eq, not_true_eq_false, and_false, false_or, true_and, Bool.false_eq_true, if_false, Option.some.injEq]
        exact eq_comm
      · simp [hk]
    · rw [if_neg hk]
      constructor
      · rintro (⟨h1, _⟩ | ⟨_, h1⟩)
        · exact h1
        · exfalso; apply hk; rw [h1]; rfl
      · intro h1
        exact .inl ⟨h1, hk⟩
theorem SameR.fold {s : Int} : ∀ (ws : List Wr) {m : List ((Int × Int) × Hd)} {l : List Hd}, SameR m l → SameR (ws.foldl (putM s) m) (ws.foldl (putL s) l)
  | [], _, _, h => h
  | w :: ws, _, _, h => SameR.fold ws (h.put s w)
theorem sameR (h : List Hap) (order : List Int) : ∀ n, SameR (stM h order n) (stL h order n)
  | 0 => .nil
  | n + 1 => (sameR h order n).fold _
theorem SameR.sorted {m : List ((Int × Int) × Hd)} {l l' : List Hd} (h : SameR m l) (hp : l'.Perm (m.map (·.2))) (hs : l'.Pairwise fun a b => ¬ b.before a) : l' = l := by
  have hkeys : (m.map (·.2)).map (fun y : Hd => (y.t, y.r)) = keysW m := by
    unfold keysW
    rw [List.map_map]
    refine List.map_congr_left fun p hp => ?_
    exact (h.key p hp).symm
  have hkn : (l'.map (fun y : Hd => (y.t, y.r))).Nodup := by
    have := (hp.map (fun y : Hd => (y.t, y.r)))
    rw [hkeys] at this
    exact this.nodup_iff.2 h.nodup
  have hks : l'.Pairwise fun a b => (a.t, a.r) ≠ (b.t, b.r) := List.pairwise_map.1 hkn
  have hasc : l'.Pairwise Hd.before := (hs.and hks).imp fun {a b} hab => by
    obtain ⟨h1, h2⟩ := hab
    simp only [ne_eq, Prod.mk.injEq, Hd.before] at *
    omega
  have hne : ∀ a b : Hd, a.before b → a ≠ b := fun a b hab e => before_irrefl a (by rw [← e] at hab; exact hab)
  have hnd : ∀ {l : List Hd}, l.Pairwise Hd.before → l.Nodup := fun {l} hl => List.nodup_iff_pairwise_ne.2 (List.Pairwise.imp (R := Hd.before) (fun {a b} hab => hne a b hab) hl)
  have hperm : l'.Perm l := (List.perm_ext_iff_of_nodup (hnd hasc) (hnd h.asc)).2 fun y => by
    rw [hp.mem_iff, h.mem]
    constructor
    · intro hy
      obtain ⟨p, hp1, rfl⟩ := List.mem_map.1 hy
      have := mem_getW h.nodup hp1
      rwa [h.key p hp1] at this
    · intro hy
      exact List.mem_map.2 ⟨_, getW_mem hy, rfl⟩
  exact hperm.eq_of_pairwise (fun a b _ _ h1 h2 => absurd h2 (before_asymm h1)) hasc h.asc
/-! ### the places of what was asked for -/
theorem asksM_right {h : List Hap} (hr : rightB h = true) (tx : Int) : ∀ i, i ≤ h.length → getM (asksM (h.take i)) tx = ((h.take i).findIdx? (isAsk tx)).map fun n : Nat => (n : Int)
  | 0, _ => by simp [asksM, getM]
  | i + 1, hi => by
    have hil : i < h.length := by omega
    have ih := asksM_right hr tx i (by omega)
    have hev : eventOk (h.take i) (h.getD i default) = true := by
      unfold rightB at hr
      rw [Bool.and_eq_true, decide_eq_true_eq] at hr
      exact hr.1 i hil
    have hlt : (h.take i).length = i := by rw [List.length_take]; omega
    rw [asksM_next hil, take_succD hil, List.findIdx?_append, hlt]
    generalize h.getD i default = x at *
    rw [eventOk_eq, Bool.and_eq_true] at hev
    by_cases hk : x.k = 1
    · rw [if_pos hk, getM_set]
      by_cases ht : tx = x.tx
      · have ha : asked (h.take i) tx < 0 := by
          have := hev.2
          rw [evB, if_pos hk] at this
          simp only [Bool.and_eq_true, decide_eq_true_eq] at this
          rw [ht]; exact this.2.1
        have hn : (h.take i).findIdx? (isAsk tx) = none := by
          rcases asked_lt (h.take i) tx with ⟨_, q⟩ | ⟨n, q, _⟩
          · exact q
          · omega
        have hp : isAsk tx x = true := by simp [isAsk, hk, ht]
        rw [if_pos ht, hn]
        simp [List.findIdx?_cons, hp]
      · have ht' : ¬ x.tx = tx := fun e => ht e.symm
        have hp : isAsk tx x = false := by simp [isAsk, ht']
        rw [if_neg ht, ih]
        simp [List.findIdx?_cons, hp]
    · have hp : isAsk tx x = false := by simp [isAsk, hk]
      rw [if_neg hk, ih]
      simp [List.findIdx?_cons, hp]
theorem asksM_all {h : List Hap} (hr : rightB h = true) (tx : Int) : getM (asksM h) tx = (h.findIdx? (isAsk tx)).map fun n : Nat => (n : Int) := by
  have := asksM_right hr tx h.length (Nat.le_refl _)
  rwa [List.take_length] at this
theorem right_at {h : List Hap} (hr : rightB h = true) {i : Nat} (hi : i < h.length) : eventOk (h.take i) (h.getD i default) = true := by
  unfold rightB at hr
  rw [Bool.and_eq_true, decide_eq_true_eq] at hr
  exact hr.1 i hi
theorem right_ws {h : List Hap} (hr : rightB h = true) {i : Nat} (hi : i < h.length) (hk : (h.getD i default).k = 1) : writesOk (h.getD i default).ws = true := by
  have := right_at hr hi
  rw [eventOk_eq, Bool.and_eq_true, evB, if_pos hk] at this
  simp only [Bool.and_eq_true] at this
  exact this.2.2.2
theorem wsOf_ok {h : List Hap} (hr : rightB h = true) {tx : Int} {w : Wr} (hw : w ∈ wsOf h tx) : okW w = true := by
  unfold wsOf at hw
  split at hw
  · rename_i i hf
    obtain ⟨hi, hp, _⟩ := List.findIdx?_eq_some_iff_getElem.1 hf
    have hg : h.getD i default = h[i] := by rw [List.getD_eq_getElem?_getD, List.getElem?_eq_getElem hi, Option.getD_some]
    have hk : (h.getD i default).k = 1 := by
      rw [hg]
      simp only [isAsk, Bool.and_eq_true, decide_eq_true_eq] at hp
      exact hp.1
    have := right_ws hr hi hk
    unfold writesOk at this
    rw [Bool.and_eq_true, decide_eq_true_eq] at this
    exact this.1.1 w hw
  · simp at hw
theorem wsOf_len {h : List Hap} (hr : rightB h = true) (tx : Int) : (wsOf h tx).length ≤ 64 := by
  unfold wsOf
  split
  · rename_i i hf
    obtain ⟨hi, hp, _⟩ := List.findIdx?_eq_some_iff_getElem.1 hf
    have hg : h.getD i default = h[i] := by rw [List.getD_eq_getElem?_getD, List.getElem?_eq_getElem hi, Option.getD_some]
    have hk : (h.getD i default).k = 1 := by
      rw [hg]
      simp only [isAsk, Bool.and_eq_true, decide_eq_true_eq] at hp
      exact hp.1
    have := right_ws hr hi hk
    unfold writesOk at this
    simp only [Bool.and_eq_true, decide_eq_true_eq] at this
    exact this.2.2
  · simp
/-! ### births -/
theorem wfW_put {α : Type} (f : α → AV) {m : List ((Int × Int) × α)} (hf : ∀ p ∈ m, fitP p.1) {bs : List Nat} {c : Nat} (hw : WfM m.length bs c) {r : Int × Int} (hr : fitP r) (v : α) : ∃ (bs' : List Nat) (c' : Nat), putK WK (kW m) (vW f m) bs c (kp r) (f v) = some (.map (kW (setW m r v)) (vW f (setW m r v)) bs' c') ∧ WfM (setW m r v).length bs' c' := by
  unfold putK kW vW
  rw [keyIs_p hr, keys_w hf]
  rcases find_w hr m 0 hf with ⟨h1, h2, h3, _⟩ | ⟨j, p, h1, h2, h3, h4, h5, _⟩
  · refine ⟨bs ++ [c], c + 1, ?_, ?_⟩
    · rw [h3]
      simp [h1]
    · rw [h3, List.length_append]; exact hw.snoc
  · refine ⟨bs, c, ?_, ?_⟩
    · have e1 : (m.map fun p => kp p.1) = (m.set j (r, v)).map fun p => kp p.1 := by
        apply List.ext_getElem?
        intro n
        simp only [List.getElem?_map, List.getElem?_set]
        by_cases hn : j = n
        · subst hn
          obtain ⟨hj, _⟩ := List.getElem?_eq_some_iff.1 h2
          rw [h2]
          simp [hj, h3]
        · simp [hn]
      rw [h5, ← e1, List.map_set]
      simp [h1]
    · rw [h5, List.length_set]; exact hw
theorem wfW_del {α : Type} (f : α → AV) {m : List ((Int × Int) × α)} (hf : ∀ p ∈ m, fitP p.1) {bs : List Nat} {c : Nat} (hw : WfM m.length bs c) {r : Int × Int} (hr : fitP r) : ∃ (bs' : List Nat), delK WK (kW m) (vW f m) bs c (kp r) = some (.map (kW (delW m r)) (vW f (delW m r)) bs' c) ∧ WfM (delW m r).length bs' c := by
  unfold delK kW vW
  rw [keyIs_p hr, keys_w hf]
  rcases find_w hr m 0 hf with ⟨h1, h2, _, h4⟩ | ⟨j, p, h1, h2, h3, h4, _, h6⟩
  · refine ⟨bs, ?_, by rw [h4]; exact hw⟩
    rw [h4]
    simp [h1]
  · obtain ⟨hj, _⟩ := List.getElem?_eq_some_iff.1 h2
    refine ⟨bs.eraseIdx j, ?_, ?_, ?_, fun b hb => hw.lt b (List.eraseIdx_subset hb)⟩
    · rw [h6]
      rw [map_eraseW, map_eraseW]
      simp [h1]
    · rw [h6, List.length_eraseIdx, List.length_eraseIdx, hw.len]
    · exact hw.nodup.sublist (List.eraseIdx_sublist _ _)
theorem fit_delW {α : Type} {m : List ((Int × Int) × α)} {r : Int × Int} (hm : ∀ p ∈ m, fitP p.1) : ∀ p ∈ delW m r, fitP p.1 := fun p hp => hm p (mem_delW hp)
end Go.Proofs.Try
