/-
  A part of the proof: see the text of the law.
-/
import Derived.Test.YthbajphbhoiceaaPlainb
import Derived.Test.YthbajphbhoiceaaCat
set_option linter.unusedSimpArgs false
set_option linter.unusedVariables false
namespace Go.Proofs.Try
open Go.Al
set_option linter.unusedVariables false
set_option linter.unusedSimpArgs false

/-! ### cycles -/
theorem walk_pos {h : List Acc} {ol : List Nat} (hn : ol.Nodup) (hf : FwdO h ol) {s : Nat} : ∀ {n i : Nat}, Walk h s n i → ∃ p q, p < q ∧ q < ol.length ∧ ol.getD p 0 = i ∧ ol.getD q 0 = s
  | 1, i, ⟨_, _, he⟩ => hf i s he
  | n + 2, i, ⟨_, _, j, _, _, he, hw⟩ => by
    obtain ⟨p, q, h1, h2, h3, h4⟩ := walk_pos hn hf hw
    obtain ⟨p', q', h5, h6, h7, h8⟩ := hf i j he
    have := getD_nodup hn h6 (by omega) (h8.trans h3.symm)
    exact ⟨p', q, by omega, h2, h7, h4⟩
theorem no_walk {h : List Acc} {ol : List Nat} (hn : ol.Nodup) (hf : FwdO h ol) {s n : Nat} (hw : Walk h s n s) : False := by
  obtain ⟨p, q, h1, h2, h3, h4⟩ := walk_pos hn hf hw
  have := getD_nodup hn (by omega) h2 (h3.trans h4.symm)
  omega
/-- Where each of some transactions has an edge from one of them, there is a cycle. -/
theorem cycle_of_stuck {h : List Acc} {S : Nat → Prop} (hne : ∃ j, S j) (hS : ∀ j, S j → j < h.length) (hp : ∀ j, S j → ∃ i, S i ∧ Edge h i j) : ∃ s n, s < h.length ∧ Walk h s n s := by
  obtain ⟨j0, hj0⟩ := hne
  have hf : ∃ f : Nat → Nat, ∀ j, S j → S (f j) ∧ Edge h (f j) j := by
    have : ∀ j, ∃ i, S j → S i ∧ Edge h i j := fun j => by
      by_cases hj : S j
      · obtain ⟨i, hi⟩ := hp j hj
        exact ⟨i, fun _ => hi⟩
      · exact ⟨0, fun h => absurd h hj⟩
    exact ⟨fun j => (this j).choose, fun j => (this j).choose_spec⟩
  obtain ⟨f, hf⟩ := hf
  have hx : ∃ x : Nat → Nat, x 0 = j0 ∧ ∀ k, x (k + 1) = f (x k) := ⟨fun k => Nat.rec j0 (fun _ v => f v) k, rfl, fun _ => rfl⟩
  obtain ⟨x, x0, xs⟩ := hx
  have hxS : ∀ k, S (x k) := fun k => by
    induction k with
    | zero => rw [x0]; exact hj0
    | succ k ih => rw [xs]; exact (hf _ ih).1
  have hxe : ∀ k, Edge h (x (k + 1)) (x k) := fun k => by rw [xs]; exact (hf _ (hxS k)).2
  have hrep : ∃ a b, a < b ∧ x a = x b := by
    refine Classical.byContradiction fun hno => ?_
    have hnd : ((List.range (h.length + 1)).map x).Nodup := by
      rw [List.nodup_iff_pairwise_ne, List.pairwise_map]
      refine List.Pairwise.imp (R := fun a b => a < b) (fun {a b} hab e => hno ⟨a, b, hab, e⟩) List.pairwise_lt_range
    have := nodup_length_le hnd (m := List.range h.length) fun v hv => by
      obtain ⟨k, _, rfl⟩ := List.mem_map.1 hv
      exact List.mem_range.2 (hS _ (hxS k))
    simp at this
    omega
  obtain ⟨a, b, hab, hxab⟩ := hrep
  have hper : ∀ k, x (b + k) = x (a + k) := fun k => by
    induction k with
    | zero => exact hxab.symm
    | succ k ih => rw [← Nat.add_assoc, ← Nat.add_assoc, xs, xs, ih]
  obtain ⟨m, ⟨k0, hk0⟩, hmin⟩ := exists_least (p := fun v => ∃ k, x (a + k) = v) ⟨_, 0, rfl⟩
  obtain ⟨d, ⟨hd0, hd⟩, hdmin⟩ := exists_least (p := fun n => 0 < n ∧ x (a + k0 + n) = m) ⟨b - a, by omega, by
    rw [show a + k0 + (b - a) = b + k0 by omega, hper, hk0]⟩
  have hge : ∀ k, m ≤ x (a + k0 + k) := fun k => Nat.le_of_not_lt fun hlt => hmin _ hlt ⟨k0 + k, by rw [← Nat.add_assoc]⟩
  have hw : ∀ k, 1 ≤ k → k ≤ d → Walk h m k (x (a + k0 + k)) := by
    intro k h1 h2
    induction k with
    | zero => omega
    | succ k ih =>
      have hlt := hS _ (hxS (a + k0 + (k + 1)))
      have he := hxe (a + k0 + k)
      by_cases e : k = 0
      · subst e
        refine ⟨hge 1, hlt, ?_⟩
        have he0 : x (a + k0 + 0) = m := hk0
        rw [he0] at he
        exact he
      · refine (Walk.succ (by omega)).2 ⟨hge _, hlt, x (a + k0 + k), ?_, hS _ (hxS _), he, ih (by omega) (by omega)⟩
        have := hge k
        have := hdmin k (by omega)
        omega
  have := hw d hd0 (Nat.le_refl _)
  rw [hd] at this
  exact ⟨m, d, this.range.2, this⟩
theorem stuck_none {h : List Acc} (hs : SerialS h none) : ∃ s n, s < h.length ∧ Walk h s n s := by
  obtain ⟨out, hseq, ⟨j, hj1, hj2, hj3⟩, hn⟩ := hs
  refine cycle_of_stuck (S := fun i => i < h.length ∧ (at' h i).done = true ∧ i ∉ out) ⟨j, hj1, hj2, hj3⟩ (fun i hi => hi.1) ?_
  rintro i ⟨h1, h2, h3⟩
  refine Classical.byContradiction fun hno => hn i ⟨h1, h2, h3, fun k hk he => Classical.byContradiction fun hk2 => hno ⟨k, ⟨hk, (edge_done he).1, hk2⟩, he⟩⟩
/-- A history has a cycle exactly if it has no serial order. -/
theorem cycle_iff {h : List Acc} {c : List Nat} {t : Option (List Nat)} (hc : CycS h c) (hs : SerialS h t) : c = [] ↔ t ≠ none := by
  constructor
  · rintro rfl rfl
    obtain ⟨s, n, hsl, hw⟩ := stuck_none hs
    rcases hc with ⟨_, hb⟩ | ⟨s', n', hb, hcl, hlen⟩
    · have := (dist_le hw).1
      have := hb s hsl
      omega
    · have := hb.2.2.1
      simp at hlen
      omega
  · intro ht
    rcases t with _ | ol
    · exact absurd rfl ht
    rcases hc with ⟨h1, _⟩ | ⟨s, n, hb, hcl, hlen⟩
    · exact h1
    · have hd : dist h s s ≠ 0 := by rw [hb.2.1]; exact hb.2.2.1
      exact (no_walk hs.1.nodup (fwd_of_serial hs) (dist_pos hd).1).elim
/-- What Cycle returns. -/
theorem cycle_facts {h : List Acc} {c : List Nat} (hc : CycS h c) : c.length ≠ 1 ∧ (∀ i, i < c.length → Edge h (c.getD i 0) (c.getD ((i + 1) % c.length) 0)) ∧ (∀ i, 0 < i → i < c.length → c.getD 0 0 < c.getD i 0) ∧ ∀ i k, k < i → i < c.length → c.getD k 0 ≠ c.getD i 0 := by
  rcases hc with ⟨rfl, _⟩ | ⟨s, n, hb, ⟨h1, h2, h3, h4⟩, hlen⟩
  · refine ⟨by simp, fun i hi => by simp at hi, fun i _ hi => by simp at hi, fun i k _ hi => by simp at hi⟩
  · have hd : dist h s s ≠ 0 := by rw [hb.2.1]; exact hb.2.2.1
    have h2n : 2 ≤ n := by rw [← hb.2.1]; exact dist_two hd
    have hgt : ∀ i, 0 < i → i < c.length → s < c.getD i 0 := fun i hi hl => (h4 i hi hl).1
    refine ⟨by omega, fun i hi => ?_, fun i hi hl => by rw [h3]; exact hgt i hi hl, fun i k hk hl e => ?_⟩
    · by_cases e : i + 1 = c.length
      · rw [e, Nat.mod_self, h3]
        have := (h4 i (by omega) hi).2.2.2.1
        exact (dist_one.1 (by rw [this]; omega)).2.2
      · rw [Nat.mod_eq_of_lt (by omega)]
        have := (h4 (i + 1) (by omega) (by omega)).2.2.1
        rwa [Nat.add_sub_cancel] at this
    · have hi := (h4 i (by omega) hl).2.2.2.1
      by_cases e0 : k = 0
      · subst e0
        have := hgt i hk hl
        omega
      · have hk2 := (h4 k (by omega) (by omega)).2.2.2.1
        rw [e, hi] at hk2
        omega
end Go.Proofs.Try
