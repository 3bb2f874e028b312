/-
  A part of the proof: see the text of the law.
-/
import Derived.Test.YthbajphbhoiceaaCbc
set_option linter.unusedSimpArgs false
set_option linter.unusedVariables false
namespace Go.Proofs.Try
open Go.Al
set_option linter.unusedVariables false
set_option linter.unusedSimpArgs false

/-! ### the specifications can be computed -/
theorem meet_any {a b : List Int} : (a.any fun x => b.contains x) = true ↔ Meet a b := by
  simp [Meet]
instance (a b : List Int) : Decidable (Meet a b) := decidable_of_iff _ meet_any
theorem asc_iff {l : List Int} : (∀ j, j < l.length - 1 → l.getD j 0 < l.getD (j + 1) 0) ↔ Asc l :=
  ⟨fun h j hj => h j (by omega), fun h j hj => h j (by omega)⟩
instance (l : List Int) : Decidable (Asc l) := decidable_of_iff _ asc_iff
instance (x : Acc) : Decidable x.Formed := by unfold Acc.Formed; infer_instance
instance (x y : Acc) : Decidable (Clash1 x y) := by unfold Clash1; infer_instance
instance (x y : Acc) : Decidable (AntiE x y) := by unfold AntiE; infer_instance
instance (x y : Acc) : Decidable (PlainE x y) := by unfold PlainE; infer_instance
instance (h : List Acc) (i j : Nat) : Decidable (Anti h i j) := by unfold Anti; infer_instance
instance (h : List Acc) (i j : Nat) : Decidable (Edge h i j) := by unfold Edge; infer_instance
instance (h : List Acc) (a b c : Nat) : Decidable (Dang h a b c) := by unfold Dang; infer_instance
theorem check_of {h : List Acc} (h1 : h.length ≤ 100) (h2 : ∀ i, i < h.length → ((at' h i).reads.length ≤ 64 ∧ (at' h i).writes.length ≤ 64) ∧ (at' h i).Formed)
    (h3 : ∀ i, i < h.length → ∀ j, j < i → ¬ ((at' h j).stamp = (at' h i).stamp ∧ 0 < (at' h i).stamp) ∧ ¬ Clash1 (at' h i) (at' h j)) : checkS h = 0 := by
  rw [check_zero]
  refine ⟨?_, ?_, ?_⟩
  · rintro (hb | ⟨i, hi, hb⟩)
    · omega
    · have := (h2 i hi).1; omega
  · rintro (⟨i, hi, hb⟩ | ⟨i, j, hij, hj, hb⟩)
    · exact hb (h2 i hi).2
    · exact (h3 j hj i hij).1 hb
  · rintro ⟨i, j, hji, hi, hc⟩
    exact (h3 i hi j hji).2 hc

/-! ### the examples -/
def sk0 : Acc := ⟨1, 0, true, 1, [1], [2]⟩
def sk1 : Acc := ⟨1, 0, true, 2, [2], [1]⟩
def skA : Acc := ⟨1, 0, false, 0, [2], [1]⟩
def skB : Acc := ⟨0, 0, false, 0, [2], [1]⟩
def skewH : List Acc := [sk0, sk1]
def openA : List Acc := [sk0, skA]
def openB : List Acc := [sk0, skB]
theorem ck_skew : checkS skewH = 0 := check_of (by decide) (by decide) (by decide)
theorem ck_A : checkS openA = 0 := check_of (by decide) (by decide) (by decide)
theorem ck_B : checkS openB = 0 := check_of (by decide) (by decide) (by decide)
theorem ck_one : checkS [sk0] = 0 := check_of (by decide) (by decide) (by decide)
theorem sk_anti : ∀ i, i < 2 → ∀ j, j < 2 → (Anti skewH i j ↔ i ≠ j) := by decide
theorem sk_edge : ∀ i, i < 2 → ∀ j, j < 2 → (Edge skewH i j ↔ i ≠ j) := by decide
theorem pairs_two {p : Nat → Nat → Prop} (hp : ∀ i, i < 2 → ∀ j, j < 2 → (p i j ↔ i ≠ j)) : pairsTo p 2 2 = [(0, 1), (1, 0)] := by
  have h1 := hp 0 (by decide) 0 (by decide)
  have h2 := hp 0 (by decide) 1 (by decide)
  have h3 := hp 1 (by decide) 0 (by decide)
  have h4 := hp 1 (by decide) 1 (by decide)
  simp only [pairsTo, rowP, show List.range 2 = [0, 1] from rfl]
  simp [h1, h2, h3, h4]
theorem sk_pairsA : pairsS skewH (Anti skewH) = [(0, 1), (1, 0)] := by
  rw [pairsS, if_pos ck_skew]; exact pairs_two sk_anti
theorem sk_pairsE : pairsS skewH (Edge skewH) = [(0, 1), (1, 0)] := by
  rw [pairsS, if_pos ck_skew]; exact pairs_two sk_edge
theorem sk_dang : FirstD skewH (some (0, 1, 0)) := by
  rw [FirstD, if_pos ck_skew]
  refine ⟨by decide, by decide, by decide, by decide, ?_⟩
  intro a b c ha hb hc hl hd
  have hn : ¬ Anti skewH 0 0 := by decide
  unfold LexLt at hl
  have : a = 0 ∧ b = 0 := by omega
  obtain ⟨rfl, rfl⟩ := this
  exact hn hd.1
theorem sk_serial : SerialF skewH none := by
  rw [SerialF, if_pos ck_skew]
  refine ⟨[], .nil, ⟨0, by decide, by decide, by simp⟩, ?_⟩
  rintro j ⟨h1, h2, h3, h4⟩
  have h1 : j < 2 := h1
  by_cases e : j = 0
  · subst e; exact absurd (h4 1 (by decide) (by decide)) (by simp)
  · have : j = 1 := by omega
    subst this; exact absurd (h4 0 (by decide) (by decide)) (by simp)
theorem sk_dist0 : dist skewH 0 0 = 2 := by
  refine dist_of ⟨⟨by decide, by decide, 1, by decide, by decide, by decide, by decide, by decide, by decide⟩, fun m hm hw => ?_⟩
  match m, hm, hw with
  | 1, _, hw => exact absurd hw.2.2 (by decide)
theorem sk_dist1 : dist skewH 1 1 = 0 := by
  refine Classical.byContradiction fun hn => ?_
  obtain ⟨hw, _⟩ := dist_pos hn
  generalize dist skewH 1 1 = n at hw
  match n, hw with
  | 1, hw => exact absurd hw.2.2 (by decide)
  | n + 2, ⟨_, _, j, h1, h2, _⟩ =>
    have h2 : j < 2 := h2
    omega
theorem sk_cycle : CycF skewH [0, 1] := by
  rw [CycF, if_pos ck_skew]
  refine .inr ⟨0, 2, ⟨by decide, sk_dist0, by decide, fun s' hs => ?_⟩, ⟨by decide, by decide, rfl, fun k h1 h2 => ?_⟩, rfl⟩
  · have hs : s' < 2 := hs
    by_cases e : s' = 0
    · subst e; exact .inr (.inr ⟨sk_dist0.symm, by omega⟩)
    · have : s' = 1 := by omega
      subst this; exact .inl sk_dist1
  · have h2 : k < 2 := h2
    have : k = 1 := by omega
    subst this
    exact ⟨by decide, by decide, by decide, dist_one.2 ⟨by decide, by decide, by decide⟩, fun j' h3 h4 => by
      have h4 : j' < 1 := h4
      omega⟩
theorem skA_admit : admitS openA 1 = (0, 272) := by
  rw [admitS, if_neg (by rw [ck_A]; decide), if_neg (by decide)]
  refine admitN_dang (by decide) ?_ rfl ⟨0, 1, 0, by decide, by decide, by decide, by decide, by decide⟩
  rintro ⟨k, hk, h1, h2, h3⟩
  have : ∀ k, k < openA.length → (at' openA k).done = true → Meet (at' openA 1).writes (at' openA k).writes → ¬ (at' openA 1).snap < (at' openA k).stamp := by decide
  exact this k hk h1 h2 h3
theorem skB_admit : admitS openB 1 = (2, 0) := by
  rw [admitS, if_neg (by rw [ck_B]; decide), if_neg (by decide)]
  refine admitN_ok (by decide) ?_ (fun h => absurd h.1 (by decide))
  rintro ⟨k, hk, h1, h2, h3⟩
  have : ∀ k, k < openB.length → (at' openB k).done = true → Meet (at' openB 1).writes (at' openB k).writes → ¬ (at' openB 1).snap < (at' openB k).stamp := by decide
  exact this k hk h1 h2 h3
theorem safe_iff {h : List Acc} {s : Int} : SafeS h s ↔ checkS h = 0 ∧ (0 ≤ s ∧ s ≤ 1073741824) ∧ (∀ i, i < h.length → ¬ ((at' h i).done = false ∧ (at' h i).mode ≠ 2 ∧ (at' h i).snap < s)) ∧
    ∀ i, i < h.length → ∀ j, j < h.length → ¬ (Anti h i j ∧ s < (at' h i).stamp ∧ (at' h j).stamp ≤ s) := by
  constructor
  · rintro ⟨h1, h2, h3, h4, h5⟩
    exact ⟨h1, ⟨h2, h3⟩, h4, fun i hi j hj hb => h5 ⟨(i, j), mem_pairsTo.2 ⟨hi, hj, hb.1⟩, hb.2⟩⟩
  · rintro ⟨h1, ⟨h2, h3⟩, h4, h5⟩
    refine ⟨h1, h2, h3, h4, ?_⟩
    rintro ⟨⟨i, j⟩, hp, hs⟩
    obtain ⟨a, b, c⟩ := mem_pairsTo.1 hp
    exact h5 i a j b ⟨c, hs⟩
theorem sk_safe0 : SafeS skewH 0 := safe_iff.2 ⟨ck_skew, by decide, by decide, by decide⟩
theorem sk_safe1 : ¬ SafeS skewH 1 := fun h => (safe_iff.1 h).2.2.2 1 (by decide) 0 (by decide) (by decide)
theorem sk_safe2 : SafeS skewH 2 := safe_iff.2 ⟨ck_skew, by decide, by decide, by decide⟩
theorem one_serial : SerialF [sk0] (some [0]) := by
  rw [SerialF, if_pos ck_one]
  refine ⟨fun k hk => ?_, fun j hj _ => ?_⟩
  · have hk : k < 1 := hk
    have : k = 0 := by omega
    subst this
    refine ⟨⟨by decide, by decide, by simp, fun i hi he => ?_⟩, fun j hj => by simp⟩
    have hi : i < 1 := hi
    have : i = 0 := by omega
    subst this
    exact absurd he edge_self
  · have hj : j < 1 := hj
    have : j = 0 := by omega
    subst this
    simp
theorem one_eqv : EqvS [sk0] [0] := by
  refine ⟨ck_one, [0], rfl, by simp, fun i => ?_, fun k hk => ?_, fun x hx => ?_⟩
  · constructor
    · intro hi; simp at hi; subst hi; decide
    · rintro ⟨hi, _⟩
      have hi : i < 1 := hi
      have : i = 0 := by omega
      subst this; simp
  · have hk : k < 1 := hk
    have : k = 0 := by omega
    subst this
    intro x hx
    have hx : x ∈ [(1 : Int)] := hx
    simp at hx
    subst hx
    simp [lastW, srcV, srcTo, Cand, sk0]
  · have : x = 2 := by
      obtain ⟨b, hb⟩ := Option.ne_none_iff_exists'.1 hx
      obtain ⟨h1, h2⟩ := lastW_some hb
      simp at h1
      subst h1
      have h2 : x ∈ [(2 : Int)] := h2
      simpa using h2
    subst this
    simp [lastW, srcV, srcTo, Cand, sk0, Acc.writer]
end Go.Proofs.Try
