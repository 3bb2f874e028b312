/-
  A part of the proof: see the text of the law.
-/
import Derived.Test.YtlkmgeahdidjeaaPad
import Derived.Test.YtlkmgeahdidjeaaEax
import Derived.Test.YtlkmgeahdidjeaaEaf
set_option linter.unusedSimpArgs false
set_option linter.unusedVariables false
namespace Go.Proofs.Try
set_option linter.unusedVariables false
set_option linter.unusedSimpArgs false

/-! ### Trim -/
def need (l : List Ver) (ss : List Int) (v : Ver) : Bool := ss.any fun s => isS l s v
theorem seenB_need {a : List Ver} (hd : diff a) (snaps : List Int) {i : Nat} (hi : i < a.length) : seenB a i snaps = need a (snaps ++ [last a]) (a.getD i default) := by
  have h : ∀ s, decide (sees a (a.getD i default).row s = i) = isS a s (a.getD i default) := fun s => by
    have h1 := sees_at hd (snap := s) hi
    have h2 := isS_iff (l := a) (snap := s) (getD_mem hi)
    rw [Bool.eq_iff_iff, decide_eq_true_eq, h1, h2]
  rw [seenB, need, List.any_append]
  simp only [h, List.any_cons, List.any_nil, Bool.or_false]
  rw [Bool.or_comm]
theorem isS_local {l : List Ver} (hs : srtd l) {g : List Ver} (hg : g ∈ groups l) (snap : Int) {v : Ver} (hv : v ∈ g) : isS l snap v = isS g snap v := by
  obtain ⟨_, hsub, hr⟩ := (groups_spec _ l (Nat.le_refl _)).2 g hg
  have hfull := groups_full _ l (Nat.le_refl _) hs g hg
  have h1 := isS_iff (l := l) (snap := snap) (hsub.subset hv)
  have h2 := isS_iff (l := g) (snap := snap) hv
  rw [Bool.eq_iff_iff, h1, h2]
  constructor
  · rintro ⟨_, _, h3, h4⟩
    exact ⟨hv, rfl, h3, fun u hu hr hs => h4 u (hsub.subset hu) hr hs⟩
  · rintro ⟨_, _, h3, h4⟩
    exact ⟨hsub.subset hv, rfl, h3, fun u hu hr hs => h4 u (hfull u hu v hv hr) hr hs⟩
theorem seenG_need {l : List Ver} (hs : srtd l) (hd : diff l) {g : List Ver} (hg : g ∈ groups l) (ss : List Int) {j : Nat} (hj : j < g.length) : seenG g ss j = need l ss (g.getD j default) := by
  have ha := groups_asc hs hd hg
  obtain ⟨_, hsub, hr⟩ := (groups_spec _ l (Nat.le_refl _)).2 g hg
  rw [seenG, need]
  congr 1
  funext s
  rw [isS_local hs hg s (getD_mem hj), Bool.eq_iff_iff, decide_eq_true_eq, seesS_at ha hr s hj]
/-- A group as a part of the list. -/
theorem groups_part : ∀ (n : Nat) (a : List Ver), a.length ≤ n → ∀ (L M : List (List Ver)) (g : List Ver), groups a = L ++ g :: M → ∃ p, a = p ++ (g ++ M.flatten) ∧ p = L.flatten := by
  intro n a _ L M g h
  have := (groups_spec _ a (Nat.le_refl _)).1
  rw [h] at this
  exact ⟨L.flatten, by rw [← this]; simp, rfl⟩
theorem getD_part {p g m : List Ver} {j : Nat} (hj : j < g.length) : (p ++ (g ++ m)).getD (p.length + j) default = g.getD j default := by
  simp only [List.getD_eq_getElem?_getD]
  rw [List.getElem?_append_right (by omega), Nat.add_sub_cancel_left, List.getElem?_append_left hj]
theorem getLast_ne {x : List Ver} {v : Ver} (h : x.getLast? = some v) : v ∈ x := List.mem_of_getLast? h
/-- One group. -/
theorem trim_group {a p g m : List Ver} {snaps : List Int} (ha : a = p ++ (g ++ m)) (hg : g ∈ groups a) (hs : srtd a) (hd : diff a) (hpr : ∀ v ∈ p, ∀ u ∈ g, v.row ≠ u.row) (hmr : ∀ v ∈ m, ∀ u ∈ g, v.row ≠ u.row) :
    ∀ j, j ≤ g.length → ∃ k, (trimSt g (snaps ++ [last a]) (trimN a snaps p.length) j).1 = trimN a snaps p.length ++ k ∧ trimN a snaps (p.length + j) = trimN a snaps p.length ++ k ∧ (∀ v ∈ k, v ∈ g) ∧
      (trimSt g (snaps ++ [last a]) (trimN a snaps p.length) j).2 = (match k.getLast? with | none => false | some v => !v.dead)
  | 0, _ => ⟨[], by simp [trimSt], by simp, by simp, by simp [trimSt]⟩
  | j + 1, hj => by
    obtain ⟨k, h1, h2, h3, h4⟩ := trim_group ha hg hs hd hpr hmr j (by omega)
    have hjl : j < g.length := by omega
    have hpl : p.length + j < a.length := by rw [ha]; simp; omega
    have hget : a.getD (p.length + j) default = g.getD j default := by rw [ha]; exact getD_part hjl
    have hrows := ((groups_spec _ a (Nat.le_refl _)).2 g hg).2.2
    have hgr : ∀ u ∈ g, u.row = (g.getD j default).row := fun u hu => by rw [hrows u hu, hrows _ (getD_mem hjl)]
    have hn1 : seenB a (p.length + j) snaps = seenG g (snaps ++ [last a]) j := by rw [seenB_need hd snaps hpl, hget, seenG_need hs hd hg _ hjl]
    -- who was kept before is of another row
    have hkept : ∀ i, i ≤ a.length → ∀ v ∈ trimN a snaps i, v ∈ a.take i := by
      intro i
      induction i with
      | zero => intro _ v hv; simp [trimN] at hv
      | succ i ih =>
        intro hi v hv
        simp only [trimN] at hv
        split at hv
        · rcases List.mem_append.1 hv with hv | hv
          · exact (mem_take_succ (by omega)).2 (.inl (ih (by omega) v hv))
          · simp only [List.mem_singleton] at hv
            exact (mem_take_succ (by omega)).2 (.inr hv)
        · exact (mem_take_succ (by omega)).2 (.inl (ih (by omega) v hv))
    have hx : ∀ v ∈ trimN a snaps p.length, v.row ≠ (g.getD j default).row := fun v hv => by
      have h5 := hkept p.length (by rw [ha]; simp) v hv
      rw [ha, List.take_left' rfl] at h5
      exact hpr v h5 _ (getD_mem hjl)
    have hnext : (p.length + j + 1 = a.length ∨ (a.getD (p.length + j + 1) default).row ≠ (g.getD j default).row) ↔ j + 1 = g.length := by
      constructor
      · intro h
        rcases Nat.lt_or_ge (j + 1) g.length with hlt | hge
        · exfalso
          have e := getD_part (p := p) (m := m) hlt
          rw [← ha, ← Nat.add_assoc] at e
          rcases h with h | h
          · rw [ha] at h; simp at h; omega
          · exact h (by rw [e]; exact hgr _ (getD_mem hlt))
        · omega
      · intro h
        rcases Nat.eq_zero_or_pos m.length with h0 | h0
        · left; rw [ha]; simp; omega
        · right
          have e : a.getD (p.length + j + 1) default ∈ m := by
            have hm : a[p.length + j + 1]? = m[0]? := by
              rw [ha, List.getElem?_append_right (by omega), List.getElem?_append_right (by omega)]
              congr 1
              omega
            rw [List.getD_eq_getElem?_getD, hm, List.getElem?_eq_getElem h0]
            simp
          exact hmr _ e _ (getD_mem hjl)
    have hhas : hasN (trimN a snaps (p.length + j)) a (p.length + j) = true ↔ (∃ v, k.getLast? = some v ∧ (v.dead = false ∨ j + 1 = g.length)) := by
      rw [h2]
      unfold hasN
      rw [hget]
      rcases List.eq_nil_or_concat k with hk | ⟨k', y, hk⟩
      · subst hk
        simp only [List.append_nil, List.getLast?_nil, reduceCtorEq, false_and, exists_false, iff_false]
        intro h
        cases hl : (trimN a snaps p.length).getLast? with
        | none => rw [hl] at h; cases h
        | some v =>
          rw [hl] at h
          simp only [Bool.and_eq_true, decide_eq_true_eq] at h
          exact hx v (getLast_ne hl) h.1
      · rw [List.concat_eq_append] at hk
        have e : (trimN a snaps p.length ++ k).getLast? = some y := by rw [hk, ← List.append_assoc]; simp
        have e2 : k.getLast? = some y := by rw [hk]; simp
        rw [e, e2]
        have hy := hgr y (h3 y (by rw [hk]; simp))
        simp only [Bool.and_eq_true, decide_eq_true_eq, Bool.or_eq_true, Bool.not_eq_true', Option.some.injEq, exists_eq_left', hnext]
        constructor
        · intro h; exact h.2
        · intro h; exact ⟨hy, h⟩
    have hlen : (trimN a snaps p.length).length < (trimN a snaps p.length ++ k).length ↔ k ≠ [] := by
      simp only [List.length_append]
      cases k <;> simp
    have hstep : trimN a snaps (p.length + (j + 1)) = if seenG g (snaps ++ [last a]) j = true ∧ ((g.getD j default).dead = false ∨ hasN (trimN a snaps (p.length + j)) a (p.length + j) = true) then trimN a snaps (p.length + j) ++ [g.getD j default] else trimN a snaps (p.length + j) := by
      rw [← Nat.add_assoc]
      simp only [trimN, hget, hn1]
    have hlive : ((match k.getLast? with | none => false | some v => !v.dead) = true) ↔ ∃ v, k.getLast? = some v ∧ v.dead = false := by
      cases k.getLast? with
      | none => simp
      | some v => simp
    have hcond : (seenG g (snaps ++ [last a]) j = true ∧ ((match k.getLast? with | none => false | some v => !v.dead) = true ∨ (g.getD j default).dead = false ∨ (j + 1 = g.length ∧ (trimN a snaps p.length).length < (trimN a snaps p.length ++ k).length))) ↔ (seenG g (snaps ++ [last a]) j = true ∧ ((g.getD j default).dead = false ∨ hasN (trimN a snaps (p.length + j)) a (p.length + j) = true)) := by
      rw [hhas, hlive, hlen]
      refine and_congr Iff.rfl ?_
      constructor
      · rintro (⟨v, h5, h6⟩ | h | ⟨h5, h6⟩)
        · exact .inr ⟨v, h5, .inl h6⟩
        · exact .inl h
        · cases hl : k.getLast? with
          | none => exact absurd (List.getLast?_eq_none_iff.1 hl) h6
          | some v => exact .inr ⟨v, rfl, .inr h5⟩
      · rintro (h | ⟨v, h5, h6 | h6⟩)
        · exact .inr (.inl h)
        · exact .inl ⟨v, h5, h6⟩
        · exact .inr (.inr ⟨h6, fun hk => by rw [hk] at h5; cases h5⟩)
    rw [hstep]
    simp only [trimSt, h1, h4]
    by_cases hc : seenG g (snaps ++ [last a]) j = true ∧ ((g.getD j default).dead = false ∨ hasN (trimN a snaps (p.length + j)) a (p.length + j) = true)
    · rw [if_pos (hcond.2 hc), if_pos hc, h2]
      refine ⟨k ++ [g.getD j default], by simp, by simp, fun v hv => ?_, by simp⟩
      rcases List.mem_append.1 hv with hv | hv
      · exact h3 v hv
      · simp only [List.mem_singleton] at hv; rw [hv]; exact getD_mem hjl
    · rw [if_neg (fun h => hc (hcond.1 h)), if_neg hc, h2]
      exact ⟨k, h1, rfl, h3, h4⟩
theorem last_perm {l l' : List Ver} (hp : l'.Perm l) : last l' = last l := by
  have h1 := fun v hv => last_le l v (hp.mem_iff.1 hv)
  unfold last
  refine hp.foldl_eq' (fun x _ y _ z => ?_) 0
  omega
theorem trim_ref {l : List Ver} (hd : diff l) (snaps : List Int) : snapTrim l snaps = refTrim l snaps := by
  have hs := ordered_srtd l
  have hd2 := diff_perm hd (ordered_perm l)
  have hl := last_perm (ordered_perm l)
  unfold snapTrim refTrim
  rw [← hl]
  generalize ordered l = a at *
  have key : ∀ (M L : List (List Ver)), groups a = L ++ M → M.foldl (trimF (snaps ++ [last a])) (trimN a snaps L.flatten.length) = trimN a snaps a.length := by
    intro M
    induction M with
    | nil =>
      intro L h
      have := (groups_spec _ a (Nat.le_refl _)).1
      rw [h, List.append_nil] at this
      rw [this]; rfl
    | cons g M ih =>
      intro L h
      have hfl := (groups_spec _ a (Nat.le_refl _)).1
      have hgm : g ∈ groups a := by rw [h]; simp
      have ha : a = L.flatten ++ (g ++ M.flatten) := by rw [← hfl, h]; simp
      have hfull := groups_full _ a (Nat.le_refl _) hs g hgm
      have hdis : ∀ v ∈ L.flatten ++ M.flatten, ∀ u ∈ g, v.row ≠ u.row := by
        intro v hv u hu he
        have hva : v ∈ a := by
          rw [ha]; simp only [List.mem_append] at hv ⊢
          rcases hv with hv | hv
          · exact .inl hv
          · exact .inr (.inr hv)
        have hvg := hfull v hva u hu he
        -- v would stand twice
        rw [ha] at hd2
        obtain ⟨q1, q2, q3⟩ := List.pairwise_append.1 hd2
        rcases List.mem_append.1 hv with hv | hv
        · exact q3 v hv v (by simp [hvg]) ⟨rfl, rfl⟩
        · exact (List.pairwise_append.1 q2).2.2 v hvg v hv ⟨rfl, rfl⟩
      obtain ⟨k, h1, h2, _, _⟩ := trim_group (snaps := snaps) ha hgm hs hd2 (fun v hv => hdis v (by simp [hv])) (fun v hv => hdis v (List.mem_append.2 (.inr hv))) g.length (Nat.le_refl _)
      rw [List.foldl_cons, trimF, h1, ← h2]
      have := ih (L ++ [g]) (by rw [h]; simp)
      rw [show (L ++ [g]).flatten.length = L.flatten.length + g.length by simp] at this
      exact this
  have := key (groups a) [] rfl
  simpa [trimN] using this
end Go.Proofs.Try
