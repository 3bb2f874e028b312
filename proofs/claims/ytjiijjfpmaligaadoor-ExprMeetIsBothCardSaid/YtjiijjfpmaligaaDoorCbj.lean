/-
  A part of the proof: see the text of the law.
-/
import Derived.Test.YtjiijjfpmaligaaDoorCbi
set_option linter.unusedSimpArgs false
set_option linter.unusedVariables false
namespace Go.Proofs.Try
open Go.Al
set_option linter.unusedVariables false
set_option linter.unusedSimpArgs false
set_option maxRecDepth 20000
set_option maxHeartbeats 16000000

/-! ### the meet of two ranges: what is in both -/
theorem null_of {x : VL} (hx : x.Right) (h0 : x.k = 0) : x = VL.null := by
  rw [null_iff]
  simp only [VL.Right] at hx
  rcases hx with h | h | h | h
  · exact h
  · omega
  · omega
  · omega
theorem null_low {x : VL} (hx : x.Right) (h0 : x.k ≠ 0) : VL.null.cmp x < 0 := by
  have h2 : 0 < x.k := by
    simp only [VL.Right] at hx
    omega
  have h1 : sgn VL.null.k x.k = -1 := by
    have : VL.null.k < x.k := h2
    unfold sgn
    exact if_pos this
  unfold VL.cmp
  rw [h1]
  simp [orI]
def lowB (v x : VL) (i : Bool) : Bool := !(decide (x.k ≠ 0) && (decide (v.k ≠ x.k) || decide (v.cmp x < 0) || (decide (v.cmp x = 0) && !i)))
def highB (v x : VL) (i : Bool) : Bool := !(decide (x.k ≠ 0) && (decide (v.k ≠ x.k) || decide (0 < v.cmp x) || (decide (v.cmp x = 0) && !i)))
theorem has_plain (lo hi v : VL) (li ri : Bool) : RG.has ⟨false, false, false, lo, hi, li, ri⟩ v = (!decide (v.k = 0) && lowB v lo li && highB v hi ri) := by
  unfold RG.has lowB highB
  simp only [Bool.or_self, Bool.false_eq_true, if_false, false_or]
  by_cases h0 : v.k = 0
  · simp [h0]
  · simp only [h0, if_false, decide_false, Bool.not_false, Bool.true_and]
    cases li <;> cases ri <;> (repeat' split) <;> (try simp_all) <;> (try omega)
def lowJ (a b : VL) (i j : Bool) : VL × Bool := (if 0 < b.cmp a then b else a, if 0 < b.cmp a then j else if b.cmp a = 0 then i && j else i)
def highJ (a b : VL) (i j : Bool) : VL × Bool :=
  (if b.k ≠ 0 ∧ (a.k = 0 ∨ b.cmp a < 0) then b else a, if b.k ≠ 0 ∧ (a.k = 0 ∨ b.cmp a < 0) then j else if a.same b = true then i && j else i)
theorem meet2_plain (al ah bl bh : VL) (ali ari bli bri : Bool) : RG.meet2 ⟨false, false, false, al, ah, ali, ari⟩ ⟨false, false, false, bl, bh, bli, bri⟩ = ⟨false, false, false, (lowJ al bl ali bli).1, (highJ ah bh ari bri).1, (lowJ al bl ali bli).2, (highJ ah bh ari bri).2⟩ := rfl
theorem lowJ_comm (a b : VL) (i j : Bool) : lowJ a b i j = lowJ b a j i := by
  have h := vl_cmp.anti a b
  have e := vl_cmp.eq a b
  unfold lowJ
  by_cases h0 : a.cmp b = 0
  · have := e h0
    subst this
    have : a.cmp a = 0 := h0
    simp [this, Bool.and_comm]
  · by_cases h1 : 0 < a.cmp b
    · rw [if_neg (by omega), if_neg (by omega), if_neg (by omega), if_pos h1, if_pos h1]
    · rw [if_pos (by omega), if_pos (by omega), if_neg h1, if_neg h1, if_neg h0]
theorem highJ_comm {a b : VL} (ha : a.Right) (hb : b.Right) (i j : Bool) : highJ a b i j = highJ b a j i := by
  have h := vl_cmp.anti a b
  have e := vl_cmp.eq a b
  by_cases h0 : a = b
  · subst h0
    have := vl_cmp.self a
    have hs : a.same a = true := VL.same_iff.2 rfl
    have hn : ¬ (a.k ≠ 0 ∧ (a.k = 0 ∨ a.cmp a < 0)) := by omega
    simp only [highJ, if_neg hn, if_pos hs, Bool.and_comm]
  · have h1 : ¬ a.cmp b = 0 := fun h => h0 (e h)
    have s1 : ¬ a.same b = true := fun h => h0 (VL.same_iff.1 h)
    have s2 : ¬ b.same a = true := fun h => h0 (VL.same_iff.1 h).symm
    have nn : ¬ (a.k = 0 ∧ b.k = 0) := fun ⟨x, y⟩ => h0 (by rw [null_of ha x, null_of hb y])
    unfold highJ
    by_cases hl : b.k ≠ 0 ∧ (a.k = 0 ∨ b.cmp a < 0)
    · rw [if_pos hl, if_pos hl, if_neg (by omega), if_neg (by omega), if_neg s2]
    · rw [if_neg hl, if_neg hl, if_neg s1]
      by_cases hl2 : a.k ≠ 0 ∧ (b.k = 0 ∨ a.cmp b < 0)
      · rw [if_pos hl2, if_pos hl2]
      · omega
theorem lowJ_in {k : Int} {a b v : VL} {i j : Bool} (ha : a.Right) (hb : b.Right) (hv : v.Right) (ka : a.k = k ∨ a.k = 0) (kb : b.k = k ∨ b.k = 0) : lowB v (lowJ a b i j).1 (lowJ a b i j).2 = (lowB v a i && lowB v b j) := by
  obtain ⟨ρ, hρ⟩ := ranks vl_cmp [a, b, v, VL.null]
  have q1 := hρ b (by simp) a (by simp)
  have v1 := hρ v (by simp) a (by simp)
  have v2 := hρ v (by simp) b (by simp)
  have z1 := hρ VL.null (by simp) a (by simp)
  have z2 := hρ VL.null (by simp) b (by simp)
  have za : a.k = 0 → ρ a = ρ VL.null := fun h => by rw [null_of ha h]
  have zb : b.k = 0 → ρ b = ρ VL.null := fun h => by rw [null_of hb h]
  have na : a.k ≠ 0 → ρ VL.null < ρ a := fun h => z1.1.1 (null_low ha h)
  have nb : b.k ≠ 0 → ρ VL.null < ρ b := fun h => z2.1.1 (null_low hb h)
  clear z1 z2 hρ
  unfold lowJ lowB
  rw [Bool.eq_iff_iff]
  by_cases h1 : 0 < b.cmp a
  · cases i <;> cases j <;> simp only [h1, if_true, Bool.and_eq_true, Bool.not_eq_true', Bool.and_eq_false_iff, Bool.or_eq_false_iff, decide_eq_false_iff_not, Bool.not_false, Bool.not_true, Bool.and_true, Bool.and_false, Bool.or_false, and_true, or_true, reduceCtorEq, Bool.false_eq_true] <;> omega
  · by_cases h2 : b.cmp a = 0
    · cases i <;> cases j <;> simp only [h2, Int.lt_irrefl, if_true, if_false, Bool.and_eq_true, Bool.not_eq_true', Bool.and_eq_false_iff, Bool.or_eq_false_iff, decide_eq_false_iff_not, Bool.not_false, Bool.not_true, Bool.and_true, Bool.and_false, Bool.or_false, Bool.and_self, and_true, or_true, reduceCtorEq, Bool.false_eq_true] <;> omega
    · cases i <;> cases j <;> simp only [h1, h2, if_false, Bool.and_eq_true, Bool.not_eq_true', Bool.and_eq_false_iff, Bool.or_eq_false_iff, decide_eq_false_iff_not, Bool.not_false, Bool.not_true, Bool.and_true, Bool.and_false, Bool.or_false, and_true, or_true, reduceCtorEq, Bool.false_eq_true] <;> omega
theorem highJ_in {k : Int} {a b v : VL} {i j : Bool} (ha : a.Right) (hb : b.Right) (hv : v.Right) (ka : a.k = k ∨ a.k = 0) (kb : b.k = k ∨ b.k = 0) : highB v (highJ a b i j).1 (highJ a b i j).2 = (highB v a i && highB v b j) := by
  obtain ⟨ρ, hρ⟩ := ranks vl_cmp [a, b, v, VL.null]
  have q1 := hρ b (by simp) a (by simp)
  have v1 := hρ v (by simp) a (by simp)
  have v2 := hρ v (by simp) b (by simp)
  have e1 : ρ b = ρ a → b = a := fun h => vl_cmp.eq _ _ (q1.2.1.2 h)
  have zz : a.k = 0 → b.k = 0 → a = b := fun h h' => by rw [null_of ha h, null_of hb h']
  clear hρ
  unfold highJ highB
  rw [Bool.eq_iff_iff]
  by_cases h1 : b.k ≠ 0 ∧ (a.k = 0 ∨ b.cmp a < 0)
  · simp only [if_pos h1]
    cases i <;> cases j <;> simp only [Bool.and_eq_true, Bool.not_eq_true', Bool.and_eq_false_iff, Bool.or_eq_false_iff, decide_eq_false_iff_not, Bool.not_false, Bool.not_true, Bool.and_true, Bool.and_false, Bool.or_false, and_true, or_true, reduceCtorEq, Bool.false_eq_true] <;> omega
  · simp only [if_neg h1]
    by_cases h2 : a.same b = true
    · have := VL.same_iff.1 h2
      subst this
      simp only [if_pos h2]
      cases i <;> cases j <;> simp only [Bool.and_eq_true, Bool.not_eq_true', Bool.and_eq_false_iff, Bool.or_eq_false_iff, decide_eq_false_iff_not, Bool.not_false, Bool.not_true, Bool.and_true, Bool.and_false, Bool.or_false, Bool.and_self, and_true, or_true, reduceCtorEq, Bool.false_eq_true] <;> omega
    · have hne : a ≠ b := fun h => h2 (VL.same_iff.2 h)
      have hr : ρ b ≠ ρ a := fun h => hne (e1 h).symm
      have hz : ¬ (a.k = 0 ∧ b.k = 0) := fun ⟨x, y⟩ => hne (zz x y)
      simp only [if_neg h2]
      cases i <;> cases j <;> simp only [Bool.and_eq_true, Bool.not_eq_true', Bool.and_eq_false_iff, Bool.or_eq_false_iff, decide_eq_false_iff_not, Bool.not_false, Bool.not_true, Bool.and_true, Bool.and_false, Bool.or_false, and_true, or_true, reduceCtorEq, Bool.false_eq_true] <;> omega
end Go.Proofs.Try
