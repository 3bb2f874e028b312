/-
  A part of the proof: see the text of the law.
-/
import Derived.Test.YtlokeliagcaepaaPab
import Derived.Test.YtlokeliagcaepaaEak
import Derived.Test.YtlokeliagcaepaaEax
import Derived.Test.YtlokeliagcaepaaEaj
set_option linter.unusedSimpArgs false
set_option linter.unusedVariables false
namespace Go.Proofs.Try
set_option linter.unusedVariables false
set_option linter.unusedSimpArgs false

/-! ### what is right -/
theorem barRt_eq (b : Bar) (k : Int) : b.rtC k = b.rt19 k := by
  rw [Bool.eq_iff_iff]
  by_cases hr : b.lo.Right ∧ b.hi.Right
  · have hc := VL.cmp_full hr.1 hr.2
    by_cases he : b.lo = b.hi
    · have hs : b.lo.cmp b.hi = 0 := by rw [he]; exact vl_cmp.self _
      have hk : b.lo.k = b.hi.k := by rw [he]
      simp only [Bar.rtC, Bar.rt19, Bar.single, Bool.and_eq_true, decide_eq_true_eq, Bool.not_eq_true', Bool.and_eq_false_iff, decide_eq_false_iff_not, if_pos he, decide_true, hs, if_true]
      constructor
      · rintro ⟨⟨⟨⟨⟨⟨⟨⟨⟨⟨a, b⟩, c⟩, d⟩, e⟩, f⟩, g⟩, i⟩, j⟩, m⟩, n⟩
        refine ⟨⟨⟨⟨⟨a, b⟩, c⟩, e⟩, by omega⟩, ⟨by omega, ?_⟩, ?_⟩ <;> rcases n with n | n <;> first | (exact absurd he n) | omega
      · rintro ⟨⟨⟨⟨⟨a, b⟩, c⟩, e⟩, f⟩, ⟨g, i⟩, j⟩
        exact ⟨⟨⟨⟨⟨⟨⟨⟨⟨⟨a, b⟩, c⟩, hk⟩, e⟩, g⟩, by omega⟩, by omega⟩, by omega⟩, by omega⟩, .inr (by omega)⟩
    · have hs : b.lo.cmp b.hi ≠ 0 := fun h => he (vl_cmp.eq _ _ h)
      simp only [Bar.rtC, Bar.rt19, Bar.single, Bool.and_eq_true, decide_eq_true_eq, Bool.not_eq_true', Bool.and_eq_false_iff, decide_eq_false_iff_not, if_neg he, he, decide_false, Bool.false_eq_true, if_false, ← hc]
      constructor
      · rintro ⟨⟨⟨⟨⟨⟨⟨⟨⟨⟨a, b⟩, c⟩, d⟩, e⟩, f⟩, g⟩, i⟩, j⟩, m⟩, n⟩
        exact ⟨⟨⟨⟨⟨a, b⟩, c⟩, e⟩, by omega⟩, ⟨⟨by omega, i⟩, j⟩, m⟩
      · rintro ⟨⟨⟨⟨⟨a, b⟩, c⟩, e⟩, f⟩, ⟨⟨g, i⟩, j⟩, m⟩
        exact ⟨⟨⟨⟨⟨⟨⟨⟨⟨⟨a, b⟩, c⟩, by omega⟩, e⟩, by omega⟩, by omega⟩, by omega⟩, by omega⟩, by omega⟩, .inl trivial⟩
  · simp only [Bar.rtC, Bar.rt19, Bool.and_eq_true, decide_eq_true_eq]
    constructor
    · rintro ⟨⟨⟨⟨⟨⟨⟨⟨⟨⟨a, b⟩, c⟩, d⟩, e⟩, f⟩, g⟩, i⟩, j⟩, m⟩, n⟩
      exact absurd ⟨a, b⟩ hr
    · rintro ⟨⟨⟨⟨⟨a, b⟩, c⟩, e⟩, f⟩, _⟩
      exact absurd ⟨a, b⟩ hr
theorem rtC_right {b : Bar} {k : Int} (h : b.rtC k = true) : b.lo.Right ∧ b.hi.Right := by
  simp only [Bar.rtC, Bool.and_eq_true, decide_eq_true_eq] at h
  exact ⟨h.1.1.1.1.1.1.1.1.1.1, h.1.1.1.1.1.1.1.1.1.2⟩
theorem okFrom_eq (k hr : Int) : ∀ (l : List Bar) (p : Option VL) (n : Int), (∀ v, p = some v → v.Right) →
    okFrom (fun b => b.rtC k) VL.cmp hr p n l = okFrom (fun b => b.rt19 k) VL.cmp19 hr p n l
  | [], p, n, _ => rfl
  | b :: l, p, n, hp => by
    simp only [okFrom]
    have he := barRt_eq b k
    by_cases hb : b.rtC k = true
    · obtain ⟨h1, h2⟩ := rtC_right hb
      rw [okFrom_eq k hr l (some b.hi) (n + b.rows) (fun v hv => by cases hv; exact h2), ← he]
      cases p with
      | none => rfl
      | some v => simp only [VL.cmp_full (hp v rfl) h1]
    · rw [← he]
      simp [hb]
theorem chk_eq (h : Hist) : h.chkC = h.chk19 := by
  unfold Hist.chkC Hist.chk19 Hist.ok
  rw [okFrom_eq _ _ _ _ _ (fun v hv => by cases hv)]
def sumRows (l : List Bar) : Int := l.foldr (fun b n => b.rows + n) 0
theorem okFrom_facts (k hr : Int) : ∀ (l : List Bar) (p : Option VL) (n : Int), okFrom (fun b => b.rtC k) VL.cmp hr p n l = true →
    (∀ b ∈ l, b.rtC k = true ∧ b.rows ≤ hr - n) ∧ l.Pairwise (fun x y => x.hi.cmp y.lo < 0) ∧ (∀ v, p = some v → ∀ b ∈ l, v.cmp b.lo < 0) ∧ n + sumRows l = hr
  | [], p, n, h => by
    simp [okFrom] at h
    simp [sumRows, h]
  | b :: l, p, n, h => by
    simp only [okFrom, Bool.and_eq_true, decide_eq_true_eq] at h
    obtain ⟨⟨⟨h1, h2⟩, h3⟩, h4⟩ := h
    obtain ⟨i1, i2, i3, i4⟩ := okFrom_facts k hr l (some b.hi) (n + b.rows) h4
    have h0 := rtC_pos h1
    have hle : b.lo.cmp b.hi ≤ 0 := by
      simp only [Bar.rtC, Bool.and_eq_true, decide_eq_true_eq] at h1
      exact h1.1.1.1.1.2
    refine ⟨?_, List.pairwise_cons.2 ⟨i3 _ rfl, i2⟩, ?_, ?_⟩
    · intro c hc
      rcases List.mem_cons.1 hc with rfl | hc
      · exact ⟨h1, h2⟩
      · have := i1 c hc
        exact ⟨this.1, by omega⟩
    · rintro v rfl c hc
      simp only [decide_eq_true_eq] at h3
      rcases List.mem_cons.1 hc with rfl | hc
      · exact h3
      · have := i3 _ rfl c hc
        exact vl_cmp.lt_trans h3 (vl_cmp.trans _ _ _ hle (by omega))
    · simp only [sumRows, List.foldr_cons] at i4 ⊢
      omega
structure HOk (h : Hist) : Prop where
  rows0 : 0 ≤ h.rows
  rows : h.rows ≤ 16777216
  nulls0 : 0 ≤ h.nulls
  nulls : h.nulls ≤ h.rows
  bars : ∀ b ∈ h.bars, b.rtC (h.bars.getD 0 default).lo.k = true ∧ b.rows ≤ h.rows - h.nulls
  apart : h.bars.Pairwise (fun x y => x.hi.cmp y.lo < 0)
  sum : h.nulls + sumRows h.bars = h.rows
theorem hok {h : Hist} (hc : h.chkC = true) : HOk h := by
  simp only [Hist.chkC, Hist.ok, Bool.and_eq_true, decide_eq_true_eq] at hc
  obtain ⟨⟨⟨⟨a, b⟩, c⟩, d⟩, e⟩ := hc
  obtain ⟨i1, i2, _, i4⟩ := okFrom_facts _ _ _ _ _ e
  exact ⟨a, b, c, d, i1, i2, i4⟩
structure RtB (b : Bar) : Prop where
  lo : b.lo.Right
  hi : b.hi.Right
  nz : b.lo.k ≠ 0
  kind : b.lo.k = b.hi.k
  rows : 1 ≤ b.rows
  le : b.lo.cmp b.hi ≤ 0
  least : (if b.lo = b.hi then 1 else 2) ≤ b.least
  most : b.least ≤ b.most
  mrows : b.most ≤ b.rows
  one : b.lo = b.hi → b.most = 1
theorem rtB {b : Bar} {k : Int} (h : b.rtC k = true) : RtB b ∧ b.lo.k = k := by
  simp only [Bar.rtC, Bool.and_eq_true, decide_eq_true_eq, Bar.single] at h
  obtain ⟨⟨⟨⟨⟨⟨⟨⟨⟨⟨a, b'⟩, c⟩, d⟩, e⟩, f⟩, g⟩, i⟩, j⟩, m⟩, n⟩ := h
  refine ⟨⟨a, b', c, d, f, g, i, j, m, fun hq => ?_⟩, e⟩
  rw [if_pos hq] at i
  simp [hq] at n
  omega
theorem RtB.ok {b : Bar} (h : RtB b) (hr : b.rows ≤ 16777216) : BarOk b := by
  have h1 := h.least
  have h2 := h.most
  have h3 := h.mrows
  have h4 := h.rows
  have h5 : 1 ≤ b.least := by split at h1 <;> omega
  exact ⟨by omega, hr, by omega, by omega, by omega, by omega, h.lo, h.hi⟩
theorem HOk.rt {h : Hist} (hh : HOk h) {b : Bar} (hb : b ∈ h.bars) : RtB b := (rtB (hh.bars b hb).1).1
theorem HOk.kind {h : Hist} (hh : HOk h) {b : Bar} (hb : b ∈ h.bars) : b.lo.k = (h.bars.getD 0 default).lo.k := (rtB (hh.bars b hb).1).2
theorem HOk.ok {h : Hist} (hh : HOk h) {b : Bar} (hb : b ∈ h.bars) : BarOk b := (hh.rt hb).ok (by
  have := (hh.bars b hb).2
  have := hh.rows
  have := hh.nulls0
  omega)
theorem BarOk.small {b : Bar} (h : BarOk b) : b.small := ⟨h.rows0, h.rows, h.least0, h.least⟩
theorem side_ok {ρ : VL → Int} {V : List VL} (hn : Num ρ V) {l : List Bar} (hr : ∀ b ∈ l, RtB b ∧ b.lo ∈ V ∧ b.hi ∈ V) (ha : l.Pairwise (fun x y => x.hi.cmp y.lo < 0)) : SideOk ρ V l := by
  refine ⟨fun x hx => ?_, ?_⟩
  · obtain ⟨h1, h2, h3⟩ := hr x hx
    refine ⟨h2, h3, ?_, h1.rows⟩
    have := hn.ord _ h2 _ h3
    have := h1.le
    omega
  · refine ha.imp_of_mem ?_
    intro x y hx hy h
    exact (hn.ord _ (hr x hx).2.2 _ (hr y hy).2.1).1.1 h
/-- The two ways to merge answer alike. -/
theorem merge_law {a b : Hist} (ha : HOk a) (hb : HOk b) : mergeH mergeF a b = mergeH mergeR a b := by
  unfold mergeH
  split
  · rfl
  split
  · rfl
  rename_i hk _
  have he : mergeF a.bars b.bars = mergeR a.bars b.bars := by
    have hkk : ∃ k, ∀ x ∈ a.bars ++ b.bars, x.lo.k = k := by
      cases hx : a.bars with
      | nil =>
        refine ⟨(b.bars.getD 0 default).lo.k, fun x hx => hb.kind (by simpa using hx)⟩
      | cons x xs =>
        refine ⟨x.lo.k, fun z hz => ?_⟩
        have hxk : ∀ z ∈ x :: xs, z.lo.k = x.lo.k := fun z hz => by
          have := ha.kind (b := z) (by rw [hx]; exact hz)
          rw [this, hx]; rfl
        rcases List.mem_append.1 hz with hz | hz
        · exact hxk z hz
        · cases hy : b.bars with
          | nil => rw [hy] at hz; cases hz
          | cons y ys =>
            rw [hx, hy] at hk
            simp [kindsDiffer] at hk
            have := hb.kind hz
            rw [this, hy, hk]; rfl
    obtain ⟨k, hkk⟩ := hkk
    have hrt : ∀ x ∈ a.bars ++ b.bars, RtB x := fun x hx => (List.mem_append.1 hx).elim ha.rt hb.rt
    let V : List VL := (a.bars ++ b.bars).flatMap fun x => [x.lo, x.hi]
    obtain ⟨ρ, hρ⟩ := ranks vl_cmp V
    have hV : ∀ v ∈ V, ∃ x ∈ a.bars ++ b.bars, v = x.lo ∨ v = x.hi := fun v hv => by
      obtain ⟨x, hx, hv⟩ := List.mem_flatMap.1 hv
      exact ⟨x, hx, by simpa using hv⟩
    have hin : ∀ x ∈ a.bars ++ b.bars, x.lo ∈ V ∧ x.hi ∈ V := fun x hx =>
      ⟨List.mem_flatMap.2 ⟨x, hx, by simp⟩, List.mem_flatMap.2 ⟨x, hx, by simp⟩⟩
    have hkV : ∀ v ∈ V, v.k = k := fun v hv => by
      obtain ⟨x, hx, h⟩ := hV v hv
      have h1 := hkk x hx
      have h2 := (hrt x hx).kind
      rcases h with rfl | rfl <;> omega
    have hn : Num ρ V := ⟨hρ, fun v hv => by
      obtain ⟨x, hx, h⟩ := hV v hv
      rcases h with rfl | rfl
      · exact (hrt x hx).lo
      · exact (hrt x hx).hi, fun x hx y hy => by rw [hkV x hx, hkV y hy]⟩
    exact merge_eq hn (side_ok hn (fun x hx => ⟨ha.rt hx, hin x (by simp [hx])⟩) ha.apart) (side_ok hn (fun x hx => ⟨hb.rt hx, hin x (by simp [hx])⟩) hb.apart) _ (Nat.le_refl _)
  rw [he]
end Go.Proofs.Try
