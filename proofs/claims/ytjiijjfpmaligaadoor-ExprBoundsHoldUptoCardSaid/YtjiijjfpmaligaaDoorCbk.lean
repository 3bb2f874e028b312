/-
  A part of the proof: see the text of the law.
-/
import Derived.Test.YtjiijjfpmaligaaDoorCbj
set_option linter.unusedSimpArgs false
set_option linter.unusedVariables false
namespace Go.Proofs.Try
open Go.Al
set_option linter.unusedVariables false
set_option linter.unusedSimpArgs false
set_option maxRecDepth 20000
set_option maxHeartbeats 16000000

theorem rt_cases {a : RG} (h : a.rt = true) : a = RG.empty ∨ a = ⟨false, true, false, VL.null, VL.null, false, false⟩ ∨ a = ⟨false, false, true, VL.null, VL.null, false, false⟩ ∨
    ∃ lo hi li ri, a = ⟨false, false, false, lo, hi, li, ri⟩ ∧ lo.Right ∧ hi.Right ∧ (lo.k = 0 → li = false) ∧ (hi.k = 0 → ri = false) := by
  obtain ⟨e, nl, all, lo, hi, li, ri⟩ := a
  unfold RG.rt at h
  cases e <;> cases nl <;> cases all
  · right; right; right
    refine ⟨lo, hi, li, ri, rfl, ?_⟩
    simp only [Bool.or_self, Bool.false_eq_true, if_false, Bool.and_eq_true, decide_eq_true_eq, Bool.not_eq_true', Bool.and_eq_false_iff, decide_eq_false_iff_not] at h
    obtain ⟨⟨⟨⟨⟨h1, h2⟩, h3⟩, h4⟩, _⟩, _⟩ := h
    exact ⟨h1, h2, fun h0 => h3.resolve_right (by omega), fun h0 => h4.resolve_right (by omega)⟩
  · right; right; left
    simp at h
    obtain ⟨rfl, rfl, rfl, rfl⟩ := h
    rfl
  · right; left
    simp at h
    obtain ⟨rfl, rfl, rfl, rfl⟩ := h
    rfl
  · simp at h
  · left
    simp at h
    obtain ⟨rfl, rfl, rfl, rfl⟩ := h
    rfl
  · simp at h
  · simp at h
  · simp at h
theorem void_has {lo hi v : VL} {li ri : Bool} (h : RG.void ⟨false, false, false, lo, hi, li, ri⟩) : RG.has ⟨false, false, false, lo, hi, li, ri⟩ v = false := by
  obtain ⟨h1, h2, h3⟩ := h
  simp only at h1 h2 h3
  rw [has_plain]
  by_cases hb : lowB v lo li = true ∧ highB v hi ri = true
  · exfalso
    obtain ⟨g1, g2⟩ := hb
    simp only [lowB, highB, Bool.not_eq_true', Bool.and_eq_false_iff, Bool.or_eq_false_iff, decide_eq_false_iff_not, Bool.not_eq_false'] at g1 g2
    have g1 := g1.resolve_left (by omega)
    have g2 := g2.resolve_left (by omega)
    have an := vl_cmp.anti v lo
    have t := vl_cmp.trans lo v hi (by omega) (by omega)
    have hc : lo.cmp hi = 0 := by omega
    have e := vl_cmp.eq _ _ hc
    subst e
    have hv0 : v.cmp lo = 0 := by omega
    have a1 : li = true := g1.2.resolve_left (by omega)
    have a2 : ri = true := g2.2.resolve_left (by omega)
    rcases h3 with h3 | ⟨_, h3⟩
    · omega
    · rw [a1, a2] at h3
      simp at h3
  · cases h4 : lowB v lo li
    · simp
    · cases h5 : highB v hi ri
      · simp
      · exact absurd ⟨h4, h5⟩ hb
theorem lowJ_ok {k : Int} {a b : VL} {i j : Bool} (ha : a.Right) (hb : b.Right) (ka : a.k = k ∨ a.k = 0) (kb : b.k = k ∨ b.k = 0) (la : a.k = 0 → i = false) (lb : b.k = 0 → j = false) :
    (lowJ a b i j).1.Right ∧ ((lowJ a b i j).1.k = k ∨ (lowJ a b i j).1.k = 0) ∧ ((lowJ a b i j).1.k = 0 → (lowJ a b i j).2 = false) := by
  unfold lowJ
  by_cases h : 0 < b.cmp a
  · simp only [if_pos h]; exact ⟨hb, kb, lb⟩
  · simp only [if_neg h]
    refine ⟨ha, ka, fun h0 => ?_⟩
    split
    · rw [la h0]; rfl
    · exact la h0
theorem highJ_ok {k : Int} {a b : VL} {i j : Bool} (ha : a.Right) (hb : b.Right) (ka : a.k = k ∨ a.k = 0) (kb : b.k = k ∨ b.k = 0) (la : a.k = 0 → i = false) (lb : b.k = 0 → j = false) :
    (highJ a b i j).1.Right ∧ ((highJ a b i j).1.k = k ∨ (highJ a b i j).1.k = 0) ∧ ((highJ a b i j).1.k = 0 → (highJ a b i j).2 = false) := by
  unfold highJ
  by_cases h : b.k ≠ 0 ∧ (a.k = 0 ∨ b.cmp a < 0)
  · simp only [if_pos h]; exact ⟨hb, kb, lb⟩
  · simp only [if_neg h]
    refine ⟨ha, ka, fun h0 => ?_⟩
    split
    · rw [la h0]; rfl
    · exact la h0
theorem empty_rt : RG.empty.rt = true := by simp [RG.rt, RG.empty]
theorem meet_plain {k : Int} {al ah bl bh v : VL} {ali ari bli bri : Bool} (hal : al.Right) (hah : ah.Right) (hbl : bl.Right) (hbh : bh.Right) (hv : v.Right)
    (kal : al.k = k ∨ al.k = 0) (kah : ah.k = k ∨ ah.k = 0) (kbl : bl.k = k ∨ bl.k = 0) (kbh : bh.k = k ∨ bh.k = 0)
    (l1 : al.k = 0 → ali = false) (l2 : ah.k = 0 → ari = false) (l3 : bl.k = 0 → bli = false) (l4 : bh.k = 0 → bri = false) :
    (RG.meet ⟨false, false, false, al, ah, ali, ari⟩ ⟨false, false, false, bl, bh, bli, bri⟩).has v = (RG.has ⟨false, false, false, al, ah, ali, ari⟩ v && RG.has ⟨false, false, false, bl, bh, bli, bri⟩ v) ∧
    (RG.meet ⟨false, false, false, al, ah, ali, ari⟩ ⟨false, false, false, bl, bh, bli, bri⟩).rt = true ∧ RG.meet ⟨false, false, false, al, ah, ali, ari⟩ ⟨false, false, false, bl, bh, bli, bri⟩ = RG.meet ⟨false, false, false, bl, bh, bli, bri⟩ ⟨false, false, false, al, ah, ali, ari⟩ := by
  have hm : RG.has (RG.meet2 ⟨false, false, false, al, ah, ali, ari⟩ ⟨false, false, false, bl, bh, bli, bri⟩) v = (RG.has ⟨false, false, false, al, ah, ali, ari⟩ v && RG.has ⟨false, false, false, bl, bh, bli, bri⟩ v) := by
    rw [meet2_plain, has_plain, has_plain, has_plain, lowJ_in hal hbl hv kal kbl, highJ_in hah hbh hv kah kbh]
    cases decide (v.k = 0) <;> cases lowB v al ali <;> cases lowB v bl bli <;> cases highB v ah ari <;> cases highB v bh bri <;> rfl
  obtain ⟨o1, o2, o3⟩ := lowJ_ok hal hbl kal kbl l1 l3
  obtain ⟨p1, p2, p3⟩ := highJ_ok hah hbh kah kbh l2 l4
  have hcomm : RG.meet2 ⟨false, false, false, bl, bh, bli, bri⟩ ⟨false, false, false, al, ah, ali, ari⟩ = RG.meet2 ⟨false, false, false, al, ah, ali, ari⟩ ⟨false, false, false, bl, bh, bli, bri⟩ := by
    rw [meet2_plain, meet2_plain, lowJ_comm bl al, highJ_comm hbh hah]
  have hmeet : ∀ x y : RG, x.e = false → x.nl = false → x.all = false → y.e = false → y.nl = false → y.all = false → x.meet y = if (x.meet2 y).void then RG.empty else x.meet2 y := by
    intro x y h1 h2 h3 h4 h5 h6
    unfold RG.meet
    rw [h1, h2, h3, h4, h5, h6]
    simp
  rw [hmeet _ _ rfl rfl rfl rfl rfl rfl, hmeet _ _ rfl rfl rfl rfl rfl rfl, hcomm]
  by_cases hvd : (RG.meet2 ⟨false, false, false, al, ah, ali, ari⟩ ⟨false, false, false, bl, bh, bli, bri⟩).void
  · rw [if_pos hvd]
    refine ⟨?_, empty_rt, rfl⟩
    rw [← hm]
    rw [meet2_plain] at hvd ⊢
    rw [void_has hvd]
    rfl
  · rw [if_neg hvd]
    refine ⟨hm, ?_, rfl⟩
    rw [meet2_plain] at hvd ⊢
    generalize lowJ al bl ali bli = L at *
    generalize highJ ah bh ari bri = G at *
    obtain ⟨lo, li⟩ := L
    obtain ⟨hi, ri⟩ := G
    simp only at *
    simp only [RG.rt, Bool.or_self, Bool.false_eq_true, if_false, Bool.and_eq_true, decide_eq_true_eq, Bool.not_eq_true', Bool.and_eq_false_iff, decide_eq_false_iff_not]
    refine ⟨⟨⟨⟨⟨o1, p1⟩, ?_⟩, ?_⟩, ?_⟩, ?_⟩
    · by_cases h : lo.k = 0
      · exact .inl (o3 h)
      · exact .inr h
    · by_cases h : hi.k = 0
      · exact .inl (p3 h)
      · exact .inr h
    · by_cases h : lo.k = 0
      · exact .inl (.inl (by omega))
      · by_cases h2 : hi.k = 0
        · exact .inl (.inr (by omega))
        · exact .inr (by omega)
    · unfold RG.void19
      by_cases h : lo.k = 0 ∨ hi.k = 0
      · exact if_pos h
      · simp only [if_neg h]
        have hk : lo.k = hi.k := by omega
        rw [← VL.cmp_eq o1 p1 hk]
        rw [Bool.or_eq_false_iff]
        simp only [RG.void] at hvd
        have hn : ¬ 0 < lo.cmp hi := fun h3 => hvd ⟨by omega, by omega, .inl h3⟩
        refine ⟨by simpa using hn, ?_⟩
        rw [Bool.and_eq_false_iff]
        by_cases h4 : lo.cmp hi = 0
        · right
          cases h5 : (li && ri)
          · exact absurd ⟨by omega, by omega, .inr ⟨h4, h5⟩⟩ hvd
          · rfl
        · left
          simpa using h4
theorem meet_law {k : Int} {a b : RG} {v : VL} (ha : a.rt = true) (hb : b.rt = true) (ka : a.ofK k = true) (kb : b.ofK k = true) (hv : v.Right) :
    (a.meet b).has v = (a.has v && b.has v) ∧ (a.meet b).rt = true ∧ a.meet b = b.meet a := by
  have ha' := ha
  have hb' := hb
  rcases rt_cases ha with rfl | rfl | rfl | ⟨al, ah, ali, ari, rfl, a1, a2, a3, a4⟩ <;> rcases rt_cases hb with rfl | rfl | rfl | ⟨bl, bh, bli, bri, rfl, b1, b2, b3, b4⟩
  case inr.inr.inr.inr.inr.inr =>
    simp only [RG.ofK, Bool.and_eq_true, decide_eq_true_eq] at ka kb
    exact meet_plain a1 a2 b1 b2 hv ka.1 ka.2 kb.1 kb.2 a3 a4 b3 b4
  all_goals
    refine ⟨?_, ?_, ?_⟩
    · simp [RG.meet, RG.empty, RG.has]
      try (intros; simp_all; done)
      try (by_cases h : v.k = 0 <;> simp [h])
    · simp [RG.meet]
      first | exact empty_rt | exact hb' | exact ha' | (simp [RG.rt, RG.empty]; done)
    · simp [RG.meet, RG.empty]
end Go.Proofs.Try
