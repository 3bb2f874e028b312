/-
  A part of the proof: see the text of the law.
-/
import Derived.Test.YtlkmgeahdidjeaaPab
import Derived.Test.YtlkmgeahdidjeaaEal
set_option linter.unusedSimpArgs false
set_option linter.unusedVariables false
namespace Go.Proofs.Try
set_option linter.unusedVariables false

/-! ### what a snapshot sees of a row -/
def IsSeen (l : List Ver) (row snap : Int) (v : Ver) : Prop := v ∈ l ∧ v.row = row ∧ v.stamp ≤ snap ∧ ∀ u ∈ l, u.row = row → u.stamp ≤ snap → u.stamp ≤ v.stamp
def NoSeen (l : List Ver) (row snap : Int) : Prop := ∀ u ∈ l, u.row = row → ¬ u.stamp ≤ snap
theorem mem_take_succ {l : List Ver} {i : Nat} (h : i < l.length) {u : Ver} : u ∈ l.take (i + 1) ↔ u ∈ l.take i ∨ u = l.getD i default := by
  rw [take_succD h]; simp
theorem getD_mem {l : List Ver} {i : Nat} (h : i < l.length) : l.getD i default ∈ l := by simp [h]
theorem seesN_spec (l : List Ver) (row snap : Int) : ∀ i, i ≤ l.length → (seesN l row snap i = -1 ∧ NoSeen (l.take i) row snap) ∨ (0 ≤ seesN l row snap i ∧ seesN l row snap i < i ∧ IsSeen (l.take i) row snap (l.getD (seesN l row snap i).toNat default))
  | 0, _ => .inl ⟨rfl, fun u hu => by simp at hu⟩
  | i + 1, hi => by
    have hil : i < l.length := by omega
    have h := seesN_spec l row snap i (by omega)
    simp only [seesN]
    generalize seesN l row snap i = p at *
    split
    · rename_i hc
      obtain ⟨h1, h2, h3⟩ := hc
      refine .inr ⟨by omega, by omega, ?_⟩
      rw [Int.toNat_natCast]
      refine ⟨(mem_take_succ hil).2 (.inr rfl), h1, h2, fun u hu hr hs => ?_⟩
      rcases (mem_take_succ hil).1 hu with hu | rfl
      · rcases h with ⟨hp, hn⟩ | ⟨hp, _, _, _, _, hm⟩
        · exact absurd hs (hn u hu hr)
        · have := hm u hu hr hs
          rcases h3 with h3 | h3 <;> omega
      · exact Int.le_refl _
    · rename_i hc
      rcases h with ⟨hp, hn⟩ | ⟨hp, hp2, hm1, hm2, hm3, hm⟩
      · refine .inl ⟨hp, fun u hu hr => ?_⟩
        rcases (mem_take_succ hil).1 hu with hu | rfl
        · exact hn u hu hr
        · exact fun hs => hc ⟨hr, hs, .inl (by omega)⟩
      · refine .inr ⟨hp, by omega, (mem_take_succ hil).2 (.inl hm1), hm2, hm3, fun u hu hr hs => ?_⟩
        rcases (mem_take_succ hil).1 hu with hu | rfl
        · exact hm u hu hr hs
        · exact Int.not_lt.1 fun h => hc ⟨hr, hs, .inr h⟩
theorem sees_spec (l : List Ver) (row snap : Int) : (sees l row snap = -1 ∧ NoSeen l row snap) ∨ (0 ≤ sees l row snap ∧ sees l row snap < l.length ∧ IsSeen l row snap (l.getD (sees l row snap).toNat default)) := by
  have := seesN_spec l row snap l.length (Nat.le_refl _)
  rwa [List.take_length] at this
theorem seen_one {l : List Ver} (hd : diff l) {row snap : Int} {u v : Ver} (hu : IsSeen l row snap u) (hv : IsSeen l row snap v) : u = v := by
  obtain ⟨u1, u2, u3, u4⟩ := hu
  obtain ⟨v1, v2, v3, v4⟩ := hv
  have h1 := u4 v v1 v2 v3
  have h2 := v4 u u1 u2 u3
  exact diff_mem hd u1 v1 (by rw [u2, v2]) (by omega)
theorem seen_not {l : List Ver} {row snap : Int} {u : Ver} (hu : IsSeen l row snap u) (hn : NoSeen l row snap) : False := hn u hu.1 hu.2.1 hu.2.2.1
theorem sees_at {l : List Ver} (hd : diff l) {snap : Int} {i : Nat} (hi : i < l.length) : sees l (l.getD i default).row snap = i ↔ IsSeen l (l.getD i default).row snap (l.getD i default) := by
  rcases sees_spec l (l.getD i default).row snap with ⟨h1, h2⟩ | ⟨h1, h2, h3⟩
  · rw [h1]
    exact ⟨fun h => by omega, fun h => (seen_not h h2).elim⟩
  · constructor
    · intro h
      rw [h, Int.toNat_natCast] at h3
      exact h3
    · intro h
      have e := seen_one hd h3 h
      generalize sees l (l.getD i default).row snap = p at *
      have hp : p.toNat < l.length := by omega
      rcases Nat.lt_trichotomy p.toNat i with hlt | heq | hlt
      · have := List.pairwise_iff_getElem.1 hd p.toNat i hp hi hlt
        simp [hp, hi] at e
        rw [e] at this
        exact absurd ⟨rfl, rfl⟩ this
      · omega
      · have := List.pairwise_iff_getElem.1 hd i p.toNat hi hp hlt
        simp [hp, hi] at e
        rw [e] at this
        exact absurd ⟨rfl, rfl⟩ this
theorem visN_spec {l : List Ver} (ho : ∀ v ∈ l, 1 ≤ v.stamp) (row snap : Int) : ∀ i, i ≤ l.length → match visN l row snap i with
    | none => NoSeen (l.take i) row snap
    | some v => IsSeen (l.take i) row snap v
  | 0, _ => fun u hu => by simp at hu
  | i + 1, hi => by
    have hil : i < l.length := by omega
    have h := visN_spec ho row snap i (by omega)
    simp only [visN]
    split
    · rename_i hv
      split at hv
      · cases hv
      · rename_i hc
        rw [hv] at h hc
        intro u hu hr hs
        rcases (mem_take_succ hil).1 hu with hu | rfl
        · exact h u hu hr hs
        · exact hc ⟨hr, hs, by have := ho _ (getD_mem hil); simp only [stamp0]; omega⟩
    · rename_i v hv
      split at hv
      · rename_i hc
        simp only [Option.some.injEq] at hv
        obtain ⟨h1, h2, h3⟩ := hc
        rw [← hv]
        refine ⟨(mem_take_succ hil).2 (.inr rfl), h1, h2, fun u hu hr hs => ?_⟩
        rcases (mem_take_succ hil).1 hu with hu | rfl
        · cases hb : visN l row snap i with
          | none => rw [hb] at h; exact absurd hs (h u hu hr)
          | some b =>
            rw [hb] at h h3
            have := h.2.2.2 u hu hr hs
            simp only [stamp0] at h3
            omega
        · exact Int.le_refl _
      · rename_i hc
        rw [hv] at h hc
        obtain ⟨h1, h2, h3, h4⟩ := h
        refine ⟨(mem_take_succ hil).2 (.inl h1), h2, h3, fun u hu hr hs => ?_⟩
        rcases (mem_take_succ hil).1 hu with hu | rfl
        · exact h4 u hu hr hs
        · exact Int.not_lt.1 fun h => hc ⟨hr, hs, h⟩
theorem good_stamp {l : List Ver} (hg : goodL l) : ∀ v ∈ l, 1 ≤ v.stamp := fun v hv => (hg.1 v hv).2.2.1
/-- What Visible returns. -/
theorem vis_none {l : List Ver} (hg : ∀ v ∈ l, 1 ≤ v.stamp) {row snap : Int} (h : NoSeen l row snap) : vis l row snap = (Ver0, false) := by
  have := visN_spec hg row snap l.length (Nat.le_refl _)
  rw [List.take_length] at this
  unfold vis
  cases hv : visN l row snap l.length with
  | none => rfl
  | some v => rw [hv] at this; exact (seen_not this h).elim
theorem vis_some {l : List Ver} (hg : ∀ v ∈ l, 1 ≤ v.stamp) (hd : diff l) {row snap : Int} {v : Ver} (h : IsSeen l row snap v) : vis l row snap = if v.dead = true then (Ver0, false) else (v, true) := by
  have := visN_spec hg row snap l.length (Nat.le_refl _)
  rw [List.take_length] at this
  unfold vis
  cases hv : visN l row snap l.length with
  | none => rw [hv] at this; exact (seen_not h this).elim
  | some u =>
    rw [hv] at this
    have e := seen_one hd this h
    subst e
    have := hg u h.1
    simp only
    by_cases hu : u.dead = true
    · rw [if_pos hu, if_pos (.inr hu)]
    · rw [if_neg hu, if_neg (fun h => h.elim (fun h => by omega) hu)]
theorem seen_or (l : List Ver) (row snap : Int) : NoSeen l row snap ∨ ∃ v, IsSeen l row snap v := by
  rcases sees_spec l row snap with ⟨_, h⟩ | ⟨_, _, h⟩
  · exact .inl h
  · exact .inr ⟨_, h⟩
theorem vis_ref {l : List Ver} (hg : ∀ v ∈ l, 1 ≤ v.stamp) (hd : diff l) (row snap : Int) : vis l row snap = refVis l row snap := by
  unfold refVis
  rcases sees_spec l row snap with ⟨h1, h2⟩ | ⟨h1, h2, h3⟩
  · rw [vis_none hg h2, if_pos (.inl (by omega))]
  · rw [vis_some hg hd h3]
    by_cases hc : (l.getD (sees l row snap).toNat default).dead = true
    · rw [if_pos hc, if_pos (.inr hc)]
    · rw [if_neg hc, if_neg (fun h => h.elim (fun h => by omega) hc)]
end Go.Proofs.Try
