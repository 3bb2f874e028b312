/-
  A part of the proof: see the text of the law.
-/
import Derived.Test.YtlokeliagcaepaaPar
set_option linter.unusedSimpArgs false
set_option linter.unusedVariables false
namespace Go.Proofs.Try
set_option linter.unusedVariables false
set_option linter.unusedSimpArgs false

/-! ### estimates: both ways alike -/
theorem rg_right {x : RG} (h : x.rt = true) : x.lo.Right ∧ x.hi.Right := by
  unfold RG.rt at h
  split at h
  · simp only [Bool.and_eq_true, decide_eq_true_eq] at h
    obtain ⟨_, h1, h2, _⟩ := h
    rw [h1, h2]
    exact ⟨.inl ⟨rfl, rfl, rfl⟩, .inl ⟨rfl, rfl, rfl⟩⟩
  · simp only [Bool.and_eq_true, decide_eq_true_eq] at h
    exact ⟨h.1.1.1.1.1, h.1.1.1.1.2⟩
theorem cmp_self0 {a b : VL} : a.cmp b = 0 ↔ a = b := ⟨vl_cmp.eq _ _, fun h => by rw [h]; exact vl_cmp.self _⟩
theorem has_eq {x : RG} {v : VL} (hx : x.rt = true) (hv : v.Right) : x.has v = x.has19 v := by
  obtain ⟨h1, h2⟩ := rg_right hx
  have c1 := VL.cmp_full hv h1
  have c2 := VL.cmp_full hv h2
  have e1 := cmp_self0 (a := v) (b := x.lo)
  have e2 := cmp_self0 (a := v) (b := x.hi)
  rw [Bool.eq_iff_iff]
  simp only [RG.has, RG.has19, ← c1, ← c2, ← e1, ← e2]
  generalize v.cmp x.lo = p at *
  generalize v.cmp x.hi = q at *
  clear c1 c2 e1 e2 h1 h2 hx
  cases x.e <;> cases x.all <;> cases x.nl <;> simp
  by_cases hk : v.k = 0 <;> simp [hk]
  cases x.li <;> cases x.ri <;> simp <;> omega
theorem apart_eq {b : Bar} {x : RG} (hx : x.rt = true) (hb : RtB b) : b.apart x = b.apart19 x := by
  obtain ⟨h1, h2⟩ := rg_right hx
  have c1 := VL.cmp_full hb.hi h1
  have c2 := VL.cmp_full hb.lo h2
  have e1 := cmp_self0 (a := b.hi) (b := x.lo)
  have e2 := cmp_self0 (a := b.lo) (b := x.hi)
  rw [Bool.eq_iff_iff]
  simp only [Bar.apart, Bar.apart19, ← c1, ← c2, ← e1, ← e2]
  generalize b.hi.cmp x.lo = p at *
  generalize b.lo.cmp x.hi = q at *
  clear c1 c2 e1 e2 h1 h2 hx
  cases x.li <;> cases x.ri <;> simp <;> (repeat' split) <;> (try simp) <;> (try omega)
theorem within_eq {b : Bar} {x : RG} (hx : x.rt = true) (hb : RtB b) : b.within x = b.one x := by
  unfold Bar.within Bar.one
  rw [has_eq hx hb.lo, has_eq hx hb.hi, apart_eq hx hb]
  cases x.has19 b.lo <;> cases x.has19 b.hi <;> simp [cntB]
theorem est_law {h : Hist} {x : RG} (hh : HOk h) (hx : x.rt = true) : h.est x = h.est19 x := by
  unfold Hist.est Hist.est19 estS
  have : ∀ (l : List Bar) (p : Int × Int), (∀ b ∈ l, RtB b) → l.foldl (fun p b => addP p (b.within x)) p = l.foldl (fun p b => addP p (b.one x)) p := by
    intro l
    induction l with
    | nil => intro p _; rfl
    | cons b l ih =>
      intro p hl
      simp only [List.foldl_cons]
      rw [within_eq hx (hl b (by simp))]
      exact ih _ fun c hc => hl c (by simp [hc])
  rw [this _ _ fun b hb => hh.rt hb]

/-! ### joins: both ways alike -/
theorem diff_one (v : VL) : diffV [v, v] = [v] := by
  by_cases h : v.cmp19 v ≤ 0 <;> simp [diffV, withV, withN, h]
theorem diff_two {v u : VL} (y : Bar) (h : v ≠ u) : cntE y (diffV [v, u]) = cntE y [v, u] := by
  by_cases hc : u.cmp19 v ≤ 0
  · have e : diffV [v, u] = [u, v] := by simp [diffV, withV, withN, hc, h]
    rw [e]
    unfold cntE
    exact ((List.Perm.swap v u []).filter _).length_eq
  · have e : diffV [v, u] = [v, u] := by simp [diffV, withV, withN, hc, h]
    rw [e]
theorem ends_eq (y : Bar) (v : VL) : isEnd y v = y.ends v := by
  unfold isEnd Bar.ends
  rw [decide_eq_decide.2 (eq_comm (a := v) (b := y.lo)), decide_eq_decide.2 (eq_comm (a := v) (b := y.hi))]
theorem cntE_two (y : Bar) (v u : VL) : ((cntE y [v, u] : Nat) : Int) = cntB (y.ends v) + cntB (y.ends u) := by
  simp only [cntE, List.filter_cons, List.filter_nil, ends_eq, cntB]
  cases y.ends v <;> cases y.ends u <;> simp
theorem cntE_one (y : Bar) (v : VL) : ((cntE y [v] : Nat) : Int) = cntB (y.ends v) := by
  simp only [cntE, List.filter_cons, List.filter_nil, ends_eq, cntB]
  cases y.ends v <;> simp
theorem meet_eq {x y : Bar} (hx : RtB x) (hy : RtB y) : (decide (x.lo.k = y.lo.k) && x.meet y) = x.meet19 y := by
  unfold Bar.meet Bar.meet19
  rw [VL.cmp_full hx.lo hy.hi, VL.cmp_full hy.lo hx.hi]
theorem shared_eq {x y : Bar} (hx : RtB x) (hy : RtB y) (hm : x.meet y = true) : pLeast x y = x.shared y := by
  simp only [Bar.meet, Bool.and_eq_true, decide_eq_true_eq] at hm
  obtain ⟨m1, m2⟩ := hm
  unfold pLeast Bar.shared sharedN Bar.single
  by_cases h1 : x.lo = x.hi
  · have h2 : diffV [x.lo, x.hi] = [x.lo] := by rw [← h1]; exact diff_one _
    rw [h2, cntE_one]
    by_cases h3 : y.lo = y.hi
    · have h4 : y.lo = x.lo := by
        rw [← h3] at m1
        rw [← h1] at m2
        have := vl_cmp.anti x.lo y.lo
        exact vl_cmp.eq _ _ (by omega)
      have h5 : y.ends x.lo = true := by simp [Bar.ends, h4]
      simp [h1, h3, h5, cntB]
      simp [← h1, h5]
    · simp [← h1, h3, Int.mul_comm]
  · rw [diff_two y h1, cntE_two]
    by_cases h3 : y.lo = y.hi
    · simp only [h1, h3, decide_false, decide_true, Bool.false_and, Bool.false_eq_true, if_false, if_true, false_and]
      have h4 : cntB (x.ends y.hi) = cntB (y.ends x.lo) + cntB (y.ends x.hi) := by
        simp only [Bar.ends, h3, Bool.or_self]
        unfold cntB
        by_cases a : x.lo = y.hi
        · have b : ¬ x.hi = y.hi := fun q => h1 (a.trans q.symm)
          have c : ¬ y.hi = x.hi := fun q => b q.symm
          simp [a, b, c]
        · have a' : ¬ y.hi = x.lo := fun q => a q.symm
          by_cases b : x.hi = y.hi
          · simp [a, a', b]
          · have b' : ¬ y.hi = x.hi := fun q => b q.symm
            simp [a, a', b, b']
      rw [h4, Int.mul_comm]
    · simp [h1, h3]
theorem join_eq {x y : Bar} (hx : RtB x) (hy : RtB y) : joinC x y = joinR x y := by
  unfold joinC joinR
  rw [meet_eq hx hy]
  split
  · rename_i h
    rw [← meet_eq hx hy, Bool.and_eq_true] at h
    rw [shared_eq hx hy h.2]
  · rfl
theorem join_law {a b : Hist} (ha : HOk a) (hb : HOk b) : joinAll joinC a.bars b.bars = joinAll joinR a.bars b.bars := by
  have h1 : ∀ (l : List Bar) (x : Bar) (p : Int × Int), RtB x → (∀ y ∈ l, RtB y) → joinRow joinC x l p = joinRow joinR x l p := by
    intro l x p hx
    induction l generalizing p with
    | nil => intro _; rfl
    | cons y l ih =>
      intro hl
      simp only [joinRow, List.foldl_cons] at ih ⊢
      rw [join_eq hx (hl y (by simp))]
      exact ih _ fun z hz => hl z (by simp [hz])
  have h2 : ∀ (k : List Bar) (p : Int × Int), (∀ x ∈ k, RtB x) → k.foldl (fun p x => joinRow joinC x b.bars p) p = k.foldl (fun p x => joinRow joinR x b.bars p) p := by
    intro k
    induction k with
    | nil => intro p _; rfl
    | cons x k ih =>
      intro p hk
      simp only [List.foldl_cons]
      rw [h1 _ _ _ (hk x (by simp)) fun y hy => hb.rt hy]
      exact ih _ fun z hz => hk z (by simp [hz])
  exact h2 _ _ fun x hx => ha.rt hx
end Go.Proofs.Try
