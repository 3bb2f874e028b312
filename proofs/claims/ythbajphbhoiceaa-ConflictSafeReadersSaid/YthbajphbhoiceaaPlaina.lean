/-
  A part of the proof: see the text of the law.
-/
import Derived.Test.YthbajphbhoiceaaCbd
set_option linter.unusedSimpArgs false
set_option linter.unusedVariables false
namespace Go.Proofs.Try
open Go.Al
set_option linter.unusedVariables false
set_option linter.unusedSimpArgs false

/-! ### valid histories -/
/-- A transaction that has committed and writes something. -/
def Wr (h : List Acc) (i : Nat) : Prop := i < h.length ∧ (at' h i).done = true ∧ 0 < (at' h i).writes.length
theorem Wr.writer {h : List Acc} {i : Nat} (hw : Wr h i) : (at' h i).writer = true := by simp only [Acc.writer, hw.2.1, hw.2.2, decide_true, Bool.and_self]
theorem Wr.stamp {h : List Acc} {i : Nat} (hc : checkS h = 0) (hw : Wr h i) : (at' h i).snap < (at' h i).stamp ∧ (at' h i).stamp ≤ 1073741824 := by
  obtain ⟨f1, f2, f3, f4, f5, f6, f7, f8, f9⟩ := check_formed hc i hw.1
  exact f8 hw.writer
theorem snap_nn {h : List Acc} {i : Nat} (hc : checkS h = 0) (hi : i < h.length) : 0 ≤ (at' h i).snap ∧ (at' h i).snap ≤ 1073741824 := by
  obtain ⟨f1, f2, f3, f4, f5, f6, f7, f8, f9⟩ := check_formed hc i hi
  exact ⟨f3, f4⟩
theorem stamp_zero {h : List Acc} {i : Nat} (hc : checkS h = 0) (hi : i < h.length) (hn : ¬ Wr h i) : (at' h i).stamp = 0 := by
  obtain ⟨f1, f2, f3, f4, f5, f6, f7, f8, f9⟩ := check_formed hc i hi
  refine f9 (Bool.eq_false_iff.2 fun hw => hn ?_)
  simp only [Acc.writer, Bool.and_eq_true, decide_eq_true_eq] at hw
  exact ⟨hi, hw.1, hw.2⟩
theorem stamps_ne {h : List Acc} {i j : Nat} (hc : checkS h = 0) (hi : Wr h i) (hj : Wr h j) (hij : i ≠ j) : (at' h i).stamp ≠ (at' h j).stamp := by
  intro e
  have hi2 := hi.stamp hc
  have hj2 := hj.stamp hc
  have hi3 := snap_nn hc hi.1
  have hj3 := snap_nn hc hj.1
  obtain ⟨_, hb, _⟩ := check_zero.1 hc
  rcases Nat.lt_or_gt_of_ne hij with hl | hl
  · exact hb (.inr ⟨i, j, hl, hj.1, e, by omega⟩)
  · exact hb (.inr ⟨j, i, hl, hi.1, e.symm, by omega⟩)
theorem Meet.symm {a b : List Int} (h : Meet a b) : Meet b a := by
  obtain ⟨x, h1, h2⟩ := h; exact ⟨x, h2, h1⟩
theorem Meet.left {a b : List Int} (h : Meet a b) : 0 < a.length := by
  obtain ⟨x, h1, h2⟩ := h; exact List.length_pos_of_mem h1
theorem Meet.right {a b : List Int} (h : Meet a b) : 0 < b.length := h.symm.left
theorem no_clash {h : List Acc} {i j : Nat} (hc : checkS h = 0) (hi : Wr h i) (hj : Wr h j) (hij : i ≠ j) (hm : Meet (at' h i).writes (at' h j).writes) : ¬ ((at' h i).snap < (at' h j).stamp ∧ (at' h j).snap < (at' h i).stamp) := by
  rintro ⟨e1, e2⟩
  obtain ⟨_, _, hb⟩ := check_zero.1 hc
  rcases Nat.lt_or_gt_of_ne hij with hl | hl
  · exact hb ⟨j, i, hl, hj.1, hj.writer, hi.writer, e2, e1, hm⟩
  · exact hb ⟨i, j, hl, hi.1, hi.writer, hj.writer, e1, e2, hm.symm⟩
/-- Of two writers of an item, the earlier one is in the snapshot of the later one. -/
theorem writers_order {h : List Acc} {i j : Nat} (hc : checkS h = 0) (hi : Wr h i) (hj : Wr h j) (hm : Meet (at' h i).writes (at' h j).writes) (hs : (at' h i).stamp < (at' h j).stamp) : (at' h i).stamp ≤ (at' h j).snap := by
  have hij : i ≠ j := by rintro rfl; omega
  have := no_clash hc hi hj hij hm
  have := hi.stamp hc
  omega

/-- Where a transaction stands in time: a writer at its stamp, a reader behind its snapshot. -/
def kap (x : Acc) : Int := if 0 < x.writes.length then 2 * x.stamp else 2 * x.snap + 1
theorem kap_wr {h : List Acc} {i : Nat} (hw : Wr h i) : kap (at' h i) = 2 * (at' h i).stamp := if_pos hw.2.2
theorem kap_nn {h : List Acc} {i : Nat} (hc : checkS h = 0) (hi : i < h.length) (hd : (at' h i).done = true) : 0 ≤ kap (at' h i) := by
  have := snap_nn hc hi
  by_cases hw : 0 < (at' h i).writes.length
  · have := Wr.stamp hc ⟨hi, hd, hw⟩
    rw [kap_wr ⟨hi, hd, hw⟩]; omega
  · rw [kap, if_neg hw]; omega
theorem kap_snap {h : List Acc} {i : Nat} (hc : checkS h = 0) (hi : i < h.length) (hd : (at' h i).done = true) : 2 * (at' h i).snap < kap (at' h i) := by
  by_cases hw : 0 < (at' h i).writes.length
  · have := Wr.stamp hc ⟨hi, hd, hw⟩
    rw [kap_wr ⟨hi, hd, hw⟩]; omega
  · rw [kap, if_neg hw]; omega
theorem edge_done {h : List Acc} {i j : Nat} (he : Edge h i j) : (at' h i).done = true ∧ (at' h j).done = true := by
  obtain ⟨_, he⟩ := he
  rcases he with he | he
  · exact ⟨he.1, he.2.1⟩
  · exact ⟨he.1, he.2.1⟩
theorem done_lt {h : List Acc} {i : Nat} (hd : (at' h i).done = true) : i < h.length := by
  refine Classical.byContradiction fun hn => ?_
  have : at' h i = default := by simp [at', List.getElem?_eq_none (Nat.le_of_not_lt hn)]
  rw [this] at hd
  cases hd
/-- An edge that is no antidependency leads from a writer that is in the snapshot of the other one. -/
theorem plain_kap {h : List Acc} {i j : Nat} (hc : checkS h = 0) (hi : i ≠ j) (he : PlainE (at' h i) (at' h j)) : Wr h i ∧ (at' h i).stamp ≤ (at' h j).snap := by
  obtain ⟨d1, d2, he⟩ := he
  have l1 := done_lt d1
  have l2 := done_lt d2
  rcases he with ⟨hm, hs⟩ | ⟨hm, hs⟩
  · have w1 : Wr h i := ⟨l1, d1, hm.left⟩
    exact ⟨w1, writers_order hc w1 ⟨l2, d2, hm.right⟩ hm hs⟩
  · exact ⟨⟨l1, d1, hm.left⟩, hs⟩
/-- Where each of some committed transactions has an edge from one of them, there is a dangerous structure. -/
theorem dang_of_stuck {h : List Acc} (hc : checkS h = 0) {S : Nat → Prop} (hne : ∃ j, S j) (hS : ∀ j, S j → j < h.length ∧ (at' h j).done = true) (hp : ∀ j, S j → ∃ i, S i ∧ Edge h i j) :
    ∃ a b c, a < h.length ∧ b < h.length ∧ c < h.length ∧ Dang h a b c := by
  obtain ⟨n, ⟨c, hcS, hcn⟩, hmin⟩ := exists_least (p := fun n : Nat => ∃ j, S j ∧ kap (at' h j) = (n : Int)) (by
    obtain ⟨j, hj⟩ := hne
    obtain ⟨k, hk⟩ := Int.eq_ofNat_of_zero_le (kap_nn hc (hS j hj).1 (hS j hj).2)
    exact ⟨k, j, hj, hk⟩)
  have hle : ∀ j, S j → kap (at' h c) ≤ kap (at' h j) := fun j hj => by
    obtain ⟨k, hk⟩ := Int.eq_ofNat_of_zero_le (kap_nn hc (hS j hj).1 (hS j hj).2)
    have := hmin k
    by_cases e : k < n
    · exact absurd ⟨j, hj, hk⟩ (this e)
    · omega
  obtain ⟨b, hbS, hbc⟩ := hp c hcS
  obtain ⟨a, haS, hab⟩ := hp b hbS
  obtain ⟨c1, c2⟩ := hS c hcS
  obtain ⟨b1, b2⟩ := hS b hbS
  obtain ⟨a1, a2⟩ := hS a haS
  have kb := hle b hbS
  have ka := hle a haS
  have sb := kap_snap hc b1 b2
  have sc := kap_snap hc c1 c2
  -- the edge to c
  have antib : AntiE (at' h b) (at' h c) := by
    rcases hbc.2 with hpl | han
    · obtain ⟨w, hs⟩ := plain_kap hc hbc.1 hpl
      have := kap_wr w
      omega
    · exact han
  have wc : Wr h c := ⟨c1, c2, antib.2.2.1.right⟩
  have kc := kap_wr wc
  have hsb := antib.2.2.2
  have wb : Wr h b := by
    refine ⟨b1, b2, Classical.byContradiction fun hn => ?_⟩
    have : kap (at' h b) = 2 * (at' h b).snap + 1 := if_neg hn
    omega
  have kb2 := kap_wr wb
  have hne1 := stamps_ne hc wc wb (Ne.symm hbc.1)
  -- the edge to b
  have antia : AntiE (at' h a) (at' h b) := by
    rcases hab.2 with hpl | han
    · obtain ⟨w, hs⟩ := plain_kap hc hab.1 hpl
      have := kap_wr w
      omega
    · exact han
  refine ⟨a, b, c, a1, b1, c1, ⟨hab.1, antia⟩, ⟨hbc.1, antib⟩, by omega, ?_⟩
  by_cases e : a = c
  · exact .inl e
  · by_cases hw : 0 < (at' h a).writes.length
    · have wa : Wr h a := ⟨a1, a2, hw⟩
      have := kap_wr wa
      have := stamps_ne hc wc wa (Ne.symm e)
      exact .inr (.inl ⟨hw, by omega⟩)
    · have : kap (at' h a) = 2 * (at' h a).snap + 1 := if_neg hw
      exact .inr (.inr ⟨by omega, by omega⟩)
/-- A valid history that has no serial order has a dangerous structure. -/
theorem dang_of_none {h : List Acc} (hc : checkS h = 0) (hs : SerialS h none) : ∃ a b c, a < h.length ∧ b < h.length ∧ c < h.length ∧ Dang h a b c := by
  obtain ⟨out, hseq, ⟨j, hj1, hj2, hj3⟩, hn⟩ := hs
  refine dang_of_stuck hc (S := fun i => i < h.length ∧ (at' h i).done = true ∧ i ∉ out) ⟨j, hj1, hj2, hj3⟩ (fun i hi => ⟨hi.1, hi.2.1⟩) ?_
  rintro i ⟨h1, h2, h3⟩
  refine Classical.byContradiction fun hno => hn i ⟨h1, h2, h3, fun k hk he => Classical.byContradiction fun hk2 => hno ⟨k, ⟨hk, (edge_done he).1, hk2⟩, he⟩⟩
theorem firstT_none {p : Nat → Nat → Nat → Prop} {n : Nat} {t : Option (Nat × Nat × Nat)} (h : FirstT p n t) : t = none ↔ ∀ a b c, a < n → b < n → c < n → ¬ p a b c := by
  rcases t with _ | ⟨a, b, c⟩
  · exact ⟨fun _ => h, fun _ => rfl⟩
  · obtain ⟨h1, h2, h3, h4, _⟩ := h
    exact ⟨fun e => (by cases e), fun hh => absurd h4 (hh a b c h1 h2 h3)⟩
end Go.Proofs.Try
